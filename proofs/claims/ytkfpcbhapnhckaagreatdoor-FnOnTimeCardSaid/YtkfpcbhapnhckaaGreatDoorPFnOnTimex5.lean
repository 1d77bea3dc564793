/- Written by a program of this session (ext.py): functions as plain Lean, and proofs that the code comes to them. No conditions but those that each theorem states. -/
import Derived.Test.YtkfpcbhapnhckaaGreatDoorPFnOnTimex0
import Derived.Test.YtkfpcbhapnhckaaGreatDoorPFnOnTimex4
namespace Go.Proofs.YtkfpcbhapnhckaaGreatDoor.PFnOnTime
open Go.RowKit Go.Proofs.YtkfpcbhapnhckaaGreatDoorW.PrintWords Go.Proofs.YtkfpcbhapnhckaaGreatDoorW.PrintLast Go.Proofs.YtkfpcbhapnhckaaGreatDoorW.PrintMore
attribute [local go_sem] max2_int min2_int max_two min_two max_three min_three max_four min_four Go.Proofs.YtkfpcbhapnhckaaGreatDoor.Hl.isSome_set   -- for this text's walks alone
set_option linter.unusedVariables false
set_option linter.unusedSimpArgs false

/-! ### impl_OnTimeMost: function 7 -/
def impl_OnTimeMost.laysSlN29_f40_ren : Go.Shelf.Ren := ⟨fun | 29 => 40 | n => n, fun | 22 => 29 | 23 => 2 | 3 => 3 | 0 => 0 | 4 => 4 | n => n, fun | n => n⟩
theorem impl_OnTimeMost.laysSlN29_f40 : Go.Proofs.SlLaysN.n29 Tryz.prog impl_OnTimeMost.laysSlN29_f40_ren := {
  mixed := by kernel_rfl
  f29 := ⟨Tryz.f40.name, by decide, Tryz.func40.trans (congrArg some (by kernel_rfl))⟩
  t0 := Tryz.underlying0
  a0 := Tryz.isAgg0
  z0 := Tryz.sizeOf0
  v0 := Tryz.zeroValue0
  t3 := Tryz.underlying3
  a3 := Tryz.isAgg3
  z3 := Tryz.sizeOf3
  v3 := Tryz.zeroValue3
  t4 := Tryz.underlying4
  a4 := Tryz.isAgg4
  z4 := Tryz.sizeOf4
  v4 := Tryz.zeroValue4
  t22 := Tryz.underlying29
  a22 := Tryz.isAgg29
  z22 := Tryz.sizeOf29
  v22 := Tryz.zeroValue29
  t23 := Tryz.underlying2
  a23 := Tryz.isAgg2
  z23 := Tryz.sizeOf2
  v23 := Tryz.zeroValue2 }
open Go.Lib in
/-- slices.Index at []int: "Index returns the index of the first occurrence of v in s, or -1 if not present.": IT RETURNS 'Lib.idxOf (the elements) v'; the world is as it was. 'zs': what the cells behind the slice's address hold (its spare capacity too, if you have it); 'zs.take n': its elements. (LAID AT THE INSTANCE 'slices.Index[[]int64,int64]': no walk: one application.) -/
theorem impl_OnTimeMost.slices_Index_int (b off n c : Nat) (zs : List Int) (x : Int) (w : World) (hz : n ≤ zs.length) (hbig : n ≤ 9223372036854775807) (hc : ∀ j, j < zs.length → w.cell? ⟨b, off + j, none⟩ = some (.int .i64 (zs.getD j 0))) :
    Calls Tryz.prog 40 #[.slice (some ⟨b, off, none⟩) n c, .int .i64 x] w fun e w' => e = .returned (.int .i64 (Lib.idxOf (zs.take n) x)) ∧ w' = w := AnyG.slices_Index_int impl_OnTimeMost.laysSlN29_f40 b off n c zs x w hz hbig hc
def impl_OnTimeMost.laysSlN37_f41_ren : Go.Shelf.Ren := ⟨fun | 37 => 41 | n => n, fun | 22 => 29 | 23 => 2 | 3 => 3 | 4 => 4 | 9 => 9 | 20 => 20 | 0 => 0 | n => n, fun | n => n⟩
theorem impl_OnTimeMost.laysSlN37_f41 : Go.Proofs.SlLaysN.n37 Tryz.prog impl_OnTimeMost.laysSlN37_f41_ren := {
  mixed := by kernel_rfl
  f37 := ⟨Tryz.f41.name, by decide, Tryz.func41.trans (congrArg some (by kernel_rfl))⟩
  t0 := Tryz.underlying0
  a0 := Tryz.isAgg0
  z0 := Tryz.sizeOf0
  v0 := Tryz.zeroValue0
  t3 := Tryz.underlying3
  a3 := Tryz.isAgg3
  z3 := Tryz.sizeOf3
  v3 := Tryz.zeroValue3
  t4 := Tryz.underlying4
  a4 := Tryz.isAgg4
  z4 := Tryz.sizeOf4
  v4 := Tryz.zeroValue4
  t9 := Tryz.underlying9
  a9 := Tryz.isAgg9
  z9 := Tryz.sizeOf9
  v9 := Tryz.zeroValue9
  t20 := Tryz.underlying20
  a20 := Tryz.isAgg20
  z20 := Tryz.sizeOf20
  v20 := Tryz.zeroValue20
  t22 := Tryz.underlying29
  a22 := Tryz.isAgg29
  z22 := Tryz.sizeOf29
  v22 := Tryz.zeroValue29
  t23 := Tryz.underlying2
  a23 := Tryz.isAgg2
  z23 := Tryz.sizeOf2
  v23 := Tryz.zeroValue2 }
open Go.Lib in
/-- slices.Max at []int: "Max returns the maximal value in x. It panics if x is empty.": OF A SLICE THAT IS NOT EMPTY IT RETURNS 'Lib.maxOf (the elements)'; the world is as it was. (Of an empty one it panics: no contract here.) (LAID AT THE INSTANCE 'slices.Max[[]int64,int64]': no walk: one application.) -/
theorem impl_OnTimeMost.slices_Max_int (b off n c : Nat) (zs : List Int) (w : World) (hn : 0 < n) (hz : n ≤ zs.length) (hbig : n ≤ 9223372036854775807) (hc : ∀ j, j < zs.length → w.cell? ⟨b, off + j, none⟩ = some (.int .i64 (zs.getD j 0))) :
    Calls Tryz.prog 41 #[.slice (some ⟨b, off, none⟩) n c] w fun e w' => e = .returned (.int .i64 (Lib.maxOf (zs.take n))) ∧ w' = w := AnyG.slices_Max_int impl_OnTimeMost.laysSlN37_f41 b off n c zs w hn hz hbig hc
def impl_OnTimeMost.laysSlN45_f42_ren : Go.Shelf.Ren := ⟨fun | 45 => 42 | n => n, fun | 22 => 29 | 23 => 2 | 3 => 3 | 4 => 4 | 0 => 0 | n => n, fun | n => n⟩
theorem impl_OnTimeMost.laysSlN45_f42 : Go.Proofs.SlLaysN.n45 Tryz.prog impl_OnTimeMost.laysSlN45_f42_ren := {
  mixed := by kernel_rfl
  f45 := ⟨Tryz.f42.name, by decide, Tryz.func42.trans (congrArg some (by kernel_rfl))⟩
  t0 := Tryz.underlying0
  a0 := Tryz.isAgg0
  z0 := Tryz.sizeOf0
  v0 := Tryz.zeroValue0
  t3 := Tryz.underlying3
  a3 := Tryz.isAgg3
  z3 := Tryz.sizeOf3
  v3 := Tryz.zeroValue3
  t4 := Tryz.underlying4
  a4 := Tryz.isAgg4
  z4 := Tryz.sizeOf4
  v4 := Tryz.zeroValue4
  t22 := Tryz.underlying29
  a22 := Tryz.isAgg29
  z22 := Tryz.sizeOf29
  v22 := Tryz.zeroValue29
  t23 := Tryz.underlying2
  a23 := Tryz.isAgg2
  z23 := Tryz.sizeOf2
  v23 := Tryz.zeroValue2
  i23 := by kernel_rfl }
open Go.RowKit Go.Lib Go.Sort in
/-- slices.Delete at []int: "Delete modifies s in place by removing the elements s[i:j], and returns the modified slice. Delete panics if j > len(s) or s[i:j] is not a valid slice of s. Delete is O(len(s)-i), so if many items must be deleted, it is better to make a single call deleting them all together than to delete one at a time. Delete zeroes the elements s[len(s)-(j-i):len(s)]. If the result is empty, it has the same nilness as s.": FOR i ≤ j ≤ len(s) IT RETURNS THE SLICE CUT TO len(s) - (j - i) ELEMENTS; ITS CELLS HOLD what stood ahead of i, what stood from j on, then j - i zero values; all else is as it was, but for the count of draws. IN THE WORDS OF slices.Sort's CONTRACT ('Holds', 'putRow'). It asks 'zs.length ≤ cap ≤ 2^63 - 1' (every slice's). (Outside i ≤ j ≤ len(s) it panics: no contract here.) (LAID AT THE INSTANCE 'slices.Delete[[]int64,int64]': no walk: one application.) -/
theorem impl_OnTimeMost.slices_Delete_int (blk off cap i j : Nat) (zs : List Int) (w : World) (hH : Holds (Value.int .i64) w blk off zs.toArray) (hcap : zs.length ≤ cap) (hm : cap ≤ 9223372036854775807) (hij : i ≤ j) (hj : j ≤ zs.length) :
    Calls Tryz.prog 42 #[.slice (some ⟨blk, off, none⟩) zs.length cap, .int .i64 i, .int .i64 j] w fun e w' => e = .returned (.slice (some ⟨blk, off, none⟩) (zs.length - (j - i)) cap) ∧ ∃ q, w' = putRow (Value.int .i64) (Sort.ahead w q) blk off (zs.take i ++ zs.drop j ++ List.replicate (j - i) 0).toArray := AnyG.slices_Delete_int impl_OnTimeMost.laysSlN45_f42 blk off cap i j zs w hH hcap hm hij hj
theorem impl_OnTimeMost.least (p : Nat → Prop) [DecidablePred p] : ∀ n k, k < n → p k → ∃ j, j ≤ k ∧ p j ∧ ∀ i, i < j → ¬ p i := by
  intro n
  induction n with
  | zero => intro k h; omega
  | succ n ih =>
    intro k hk hp
    by_cases c : ∃ i, i < k ∧ p i
    · obtain ⟨i, hi, hpi⟩ := c
      obtain ⟨j, hj, h2⟩ := ih i (by omega) hpi
      exact ⟨j, by omega, h2⟩
    · exact ⟨k, Nat.le_refl _, hp, fun i hi hpi => c ⟨i, hi, hpi⟩⟩
/-- The greatest number stands somewhere, and none is greater. -/
theorem impl_OnTimeMost.max_spec (m : List Int) : ∀ n, 0 < n → n ≤ m.length → (∃ k, k < n ∧ m.getD k 0 = Lib.maxOf (m.take n)) ∧ ∀ j, j < n → m.getD j 0 ≤ Lib.maxOf (m.take n) := by
  intro n
  induction n with
  | zero => intro h; omega
  | succ n ih =>
    intro _ hn
    rcases Nat.eq_zero_or_pos n with h0 | h0
    · subst h0
      rw [Lib.maxOf_one]
      refine ⟨⟨0, by omega, rfl⟩, fun j hj => ?_⟩
      obtain rfl : j = 0 := by omega
      exact Int.le_refl _
    · obtain ⟨⟨k, hk, e⟩, h2⟩ := ih h0 (by omega)
      rw [Lib.maxOf_step m n h0 (by omega)]
      refine ⟨?_, fun j hj => ?_⟩
      · rcases Classical.em (m.getD n 0 ≤ Lib.maxOf (m.take n)) with c | c
        · exact ⟨k, by omega, by rw [e]; omega⟩
        · exact ⟨n, by omega, by omega⟩
      · by_cases c : j = n
        · subst c; omega
        · have := h2 j (by omega); omega
/-- The first place of the greatest number. -/
theorem impl_OnTimeMost.idx_max (m : List Int) (h : 0 < m.length) : ∃ k : Nat, Lib.idxOf m (Lib.maxOf m) = (k : Int) ∧ k < m.length ∧ m.getD k 0 = Lib.maxOf m ∧ (∀ j, j < k → m.getD j 0 ≠ Lib.maxOf m) ∧ ∀ j, j < m.length → m.getD j 0 ≤ Lib.maxOf m := by
  obtain ⟨⟨k, hk, e⟩, h2⟩ := impl_OnTimeMost.max_spec m m.length h (Nat.le_refl _)
  rw [List.take_length] at e h2
  obtain ⟨j, hj, ej, hl⟩ := impl_OnTimeMost.least (fun i => m.getD i 0 = Lib.maxOf m) m.length k hk e
  have := Lib.idxOf_hit m m.length j (Lib.maxOf m) (by omega) (Nat.le_refl _) ej hl
  rw [List.take_length] at this
  exact ⟨j, this, by omega, ej, hl, h2⟩
def impl_OnTimeMost.cost (l : List S33) (e i : Int) : Int := wrap64 (e * (rd_T33 l i).f2)
/-- One order more; when it is late, the longest one is left out. -/
def impl_OnTimeMost.step (l : List S33) (e : Int) (s : List Int × Int) (i : Int) : List Int × Int :=
  if wrap64 (s.2 + impl_OnTimeMost.cost l e i) > (rd_T33 l i).f3 then
    ((s.1 ++ [impl_OnTimeMost.cost l e i]).eraseIdx (Lib.idxOf (s.1 ++ [impl_OnTimeMost.cost l e i]) (Lib.maxOf (s.1 ++ [impl_OnTimeMost.cost l e i]))).toNat, wrap64 (wrap64 (s.2 + impl_OnTimeMost.cost l e i) - rd (s.1 ++ [impl_OnTimeMost.cost l e i]) (Lib.idxOf (s.1 ++ [impl_OnTimeMost.cost l e i]) (Lib.maxOf (s.1 ++ [impl_OnTimeMost.cost l e i])))))
  else (s.1 ++ [impl_OnTimeMost.cost l e i], wrap64 (s.2 + impl_OnTimeMost.cost l e i))
def impl_OnTimeMost.run (l : List S33) (e : Int) (x : List Int) : List Int × Int := x.foldl (impl_OnTimeMost.step l e) ([], 0)
theorem impl_OnTimeMost.step_len (l : List S33) (e : Int) (s : List Int × Int) (i : Int) : (impl_OnTimeMost.step l e s i).1.length ≤ s.1.length + 1 := by
  unfold impl_OnTimeMost.step
  split
  · exact Nat.le_trans (List.length_eraseIdx_le _ _) (by simp)
  · simp
theorem impl_OnTimeMost.run_len (l : List S33) (e : Int) : ∀ (x : List Int) (s : List Int × Int), (x.foldl (impl_OnTimeMost.step l e) s).1.length ≤ s.1.length + x.length := by
  intro x
  induction x with
  | nil => intro s; exact Nat.le_refl _
  | cons i x ih =>
    intro s
    have h1 := ih (impl_OnTimeMost.step l e s i)
    have h2 := impl_OnTimeMost.step_len l e s i
    simp only [List.foldl_cons, List.length_cons]
    omega
theorem impl_OnTimeMost.run_take (l : List S33) (e : Int) (x : List Int) (k : Nat) (h : k < x.length) : impl_OnTimeMost.run l e (x.take (k + 1)) = impl_OnTimeMost.step l e (impl_OnTimeMost.run l e (x.take k)) (rd x (k : Int)) := by
  unfold impl_OnTimeMost.run
  have e1 : rd x (k : Int) = x[k] := by
    simp only [rd, Int.toNat_natCast]
    rw [List.getD_eq_getElem?_getD, List.getElem?_eq_getElem h]
    rfl
  rw [e1, List.take_succ_eq_append_getElem h, List.foldl_append]
  rfl
def impl_OnTimeMost.f (l0 : List S33) (a1 : Int) : Option (Int × Int) := (impl_ValidOrders.f l0).bind fun t1 => (impl_isEach.f a1).bind fun t2 => (impl_check.f t1 t2).bind fun t3 => if t3 = 0 then (impl_earliestDue.f l0).bind fun x => if x.length ≤ 40 ∧ ∀ i ∈ x, 0 ≤ i ∧ i < (l0.length : Int) then some (((impl_OnTimeMost.run l0 a1 x).1.length : Int), 0) else none else some (0, t3)
/-- The library's Delete of one element of a row of one's own. -/
theorem impl_OnTimeMost.del (w : World) (base : Nat) (ok : Nat → Prop) (v : Value) (m : List Int) (k : Nat) (hk : k < m.length) (hm : m.length < 4194304) (hR : Kd.R (Kd.int .i64) 2 w base ok v m) (hbase : base ≤ w.heap.size) :
    Calls Tryz.prog 42 #[v, .int .i64 (k : Int), .int .i64 ((k + 1 : Nat) : Int)] w fun e w' => ∃ v', e = .returned v' ∧ Kd.R (Kd.int .i64) 2 w' base ok v' (m.eraseIdx k) ∧ w.grownBy w' v.ownBlock ∧ v'.ownBlock = v.ownBlock := by
  have hok := hR.1
  have ho := Kd.own_of_R hR
  obtain ⟨hx, ⟨_, hz⟩ | ⟨g, cap, cur, rfl, hg, hcur, hn, hcap, hsz, htk⟩⟩ := ho
  · exact absurd hz (by omega)
  rw [Nat.mul_one] at hsz htk
  have hgl : g < w.heap.size := (Array.getElem?_eq_some_iff.1 hcur).1
  have hH := holds_of_blockI hcur htk
  have hcap' : cap ≤ 9223372036854775807 := hcap
  refine (impl_OnTimeMost.slices_Delete_int g 0 cap k (k + 1) m w hH hn hcap' (by omega) (by omega)).mono ?_
  rintro e w' ⟨rfl, q, rfl⟩
  have e1 : k + 1 - k = 1 := by omega
  rw [e1]
  have e2 : m.take k ++ m.drop (k + 1) = m.eraseIdx k := (List.eraseIdx_eq_take_drop_succ m k).symm
  rw [e2]
  have hlen : (m.eraseIdx k).length = m.length - 1 := List.length_eraseIdx_of_lt hk
  have hg3 := grownBy_sortedI (w := w) (g := g) (n := q) (os := #[]) (m.eraseIdx k ++ List.replicate 1 0).toArray
  have hc3 := heap_sortedI (n := q) (os := #[]) (m.eraseIdx k ++ List.replicate 1 0).toArray hcur
  rw [Sort.grow_empty] at hg3 hc3
  have hl3 : (m.eraseIdx k ++ List.replicate 1 (0 : Int)).length = m.length := by rw [List.length_append, List.length_replicate, hlen]; omega
  have ht3 := take_putCellsI cur (m.eraseIdx k ++ List.replicate 1 0) (by rw [hl3]; omega)
  refine ⟨_, rfl, ?_, hg3, rfl⟩
  rw [← hlen]
  refine Kd.R_of_own ⟨by simp [encs], .inr ⟨g, cap, _, rfl, hg, hc3, by omega, hcap, by simp [Sort.putCells, hsz], ?_⟩⟩ (fun j hj => hok j hj)
  have e3 := congrArg (List.take (m.eraseIdx k).length) ht3
  rw [List.take_take, hl3, Nat.min_eq_left (by omega), List.map_append, List.take_left' (by simp)] at e3
  rw [Nat.mul_one]
  exact e3
/-- The form of a row of one's own that is not empty, and its cells. -/
theorem impl_OnTimeMost.form (w : World) (base : Nat) (ok : Nat → Prop) (v : Value) (m : List Int) (h0 : 0 < m.length) (hR : Kd.R (Kd.int .i64) 2 w base ok v m) :
    ∃ g cap, v = .slice (some ⟨g, 0, none⟩) m.length cap ∧ ∀ j, j < m.length → w.cell? ⟨g, 0 + j, none⟩ = some (.int .i64 (m.getD j 0)) := by
  have ho := Kd.own_of_R hR
  obtain ⟨hx, ⟨_, hz⟩ | ⟨g, cap, cur, rfl, hg, hcur, hn, hcap, hsz, htk⟩⟩ := ho
  · exact absurd hz (by omega)
  rw [Nat.mul_one] at hsz htk
  have hH := holds_of_blockI hcur htk
  refine ⟨g, cap, rfl, fun j hj => ?_⟩
  have h1 := (hH j (by simpa using hj)).1
  have e : m.toArray[j]! = m.getD j 0 := by
    rw [getElem!_pos m.toArray j (by simpa using hj), List.getD_eq_getElem?_getD, List.getElem?_eq_getElem hj]
    simp
  rw [e] at h1
  exact h1
theorem impl_OnTimeMost.max (w : World) (g c : Nat) (m : List Int) (h0 : 0 < m.length) (hm : m.length < 4194304) (hc : ∀ j, j < m.length → w.cell? ⟨g, 0 + j, none⟩ = some (.int .i64 (m.getD j 0))) : Calls Tryz.prog 41 #[.slice (some ⟨g, 0, none⟩) m.length c] w fun e w' => e = .returned (.int .i64 (Lib.maxOf m)) ∧ w' = w := by
  have h := impl_OnTimeMost.slices_Max_int g 0 m.length c m w h0 (Nat.le_refl _) (by omega) hc
  rw [List.take_length] at h
  exact h
theorem impl_OnTimeMost.index (w : World) (g c : Nat) (m : List Int) (x : Int) (hm : m.length < 4194304) (hc : ∀ j, j < m.length → w.cell? ⟨g, 0 + j, none⟩ = some (.int .i64 (m.getD j 0))) : Calls Tryz.prog 40 #[.slice (some ⟨g, 0, none⟩) m.length c, .int .i64 x] w fun e w' => e = .returned (.int .i64 (Lib.idxOf m x)) ∧ w' = w := by
  have h := impl_OnTimeMost.slices_Index_int g 0 m.length c m x w (Nat.le_refl _) (by omega) hc
  rw [List.take_length] at h
  exact h
theorem impl_OnTimeMost.older {w w5 w4 : World} {v : Value} {m : List Int} (h : Kd.R (Kd.int .i64) 2 w4 w.heap.size (fun _ => True) v m) (hb : Below w4.heap.size w4 w5) : Kd.R (Kd.int .i64) 2 w5 w.heap.size (fun k => k < w4.heap.size ∨ w5.heap.size ≤ k) v m :=
  Kd.R_mono (Kd.R_below (Kd.R_bound h) hb) (fun k hk => .inl hk.2.2.1)
theorem impl_OnTimeMost.newer {w5 : World} {b : Nat} {v : Value} {m : List Int} (h : Kd.R (Kd.int .i64) 2 w5 b (fun _ => True) v m) : Kd.R (Kd.int .i64) 2 w5 b (fun k => b ≤ k ∧ k < w5.heap.size) v m :=
  Kd.R_mono (Kd.R_bound h) (fun k hk => ⟨hk.2.1, hk.2.2.1⟩)
set_option maxHeartbeats 8000000 in
set_option maxRecDepth 100000 in
theorem impl_OnTimeMost.calls (A0 : Option Addr) (c0 : Nat) (l0 : List S33) (a1 : Int) (r1 r2 : Int) (w : World) (hr0 : Kd.C k33 w A0 l0.length l0) (hc0 : l0.length ≤ c0) (h : impl_OnTimeMost.f l0 a1 = some (r1, r2)) :
    Calls Tryz.prog 7 #[.slice A0 l0.length c0, .int .i64 a1] w fun e w' => e = .returned (.tuple #[.int .i64 r1, .int .i64 r2]) ∧ Below w.heap.size w w' := by
  have hu := Tryz.underlying33
  unfold impl_OnTimeMost.f at h
  obtain ⟨t1, h1, h⟩ := Option.bind_eq_some_iff.mp h
  obtain ⟨t2, h2, h⟩ := Option.bind_eq_some_iff.mp h
  obtain ⟨t3, h3, h⟩ := Option.bind_eq_some_iff.mp h
  have HR := Aside0.mk hr0
  have HC := Aside0.mk hc0
  have A1 := Aside0.mk h1
  have A2 := Aside0.mk h2
  have A3 := Aside0.mk h3
  have HH := Aside0.mk h
  clear hr0 hc0 h1 h2 h3 h
  have hh := HH.out
  clear HH
  by_cases c3 : t3 = 0
  case neg =>
    rw [if_neg c3] at hh
    obtain ⟨rfl, rfl⟩ : r1 = 0 ∧ r2 = t3 := by have := Option.some.inj hh; rw [Prod.mk.injEq] at this; exact ⟨this.1.symm, this.2.symm⟩
    have n0 : (r2 != 0) = true := bne_iff_ne.mpr c3
    clear c3 hh
    go_enter Tryz.func7, Tryz.ntmps7
    go_wp2_with (first | ((with_reducible refine gate_callee (f := 34) rfl ?_); refine goesL_ (some 13) rfl rfl Tryz.func34 (by kernel_rfl) rfl #[.slice A0 l0.length c0] rfl (by (try simp only [List.map_toArray, List.map_cons, List.map_nil]); first | done | rfl) ?_; refine (impl_ValidOrders.calls _ _ l0 t1 _ HR.out HC.out A1.out).mono ?_; rintro e w2 ⟨rfl, hbl⟩; refine ⟨_, rfl, ?_⟩; have HB := Aside0.mk hbl; clear hbl) | ((with_reducible refine gate_callee (f := 38) rfl ?_); refine goesL_ (some 15) rfl rfl Tryz.func38 (by kernel_rfl) rfl #[.int .i64 a1] rfl (by (try simp only [List.map_toArray, List.map_cons, List.map_nil]); first | done | rfl) ?_; refine (impl_isEach.calls a1 t2 _ A2.out).mono ?_; rintro e w' ⟨rfl, ⟨nd, rfl⟩⟩; refine ⟨_, rfl, ?_⟩) | ((with_reducible refine gate_callee (f := 37) rfl ?_); refine goesL_ (some 16) rfl rfl Tryz.func37 (by kernel_rfl) rfl #[.bool t1, .bool t2] rfl (by (try simp only [List.map_toArray, List.map_cons, List.map_nil]); first | done | rfl) ?_; refine (impl_check.calls t1 t2 r2 _ A3.out).mono ?_; rintro e w' ⟨rfl, ⟨nd2, rfl⟩⟩; refine ⟨_, rfl, ?_⟩))
    go_ret2
    exact ⟨rfl, by repeat (first | (with_reducible first | exact HB.out | apply below_alloc | apply pw_below_drewN | apply below_drew1) | exact HB.out)⟩
  case pos =>
  rw [if_pos c3] at hh
  subst c3
  obtain ⟨x, hx, hh⟩ := Option.bind_eq_some_iff.mp hh
  split at hh
  case isFalse => cases hh
  case isTrue hlim =>
  obtain ⟨hx40, hxr⟩ := hlim
  obtain ⟨rfl, rfl⟩ : r1 = ((impl_OnTimeMost.run l0 a1 x).1.length : Int) ∧ r2 = 0 := by have := Option.some.inj hh; rw [Prod.mk.injEq] at this; exact ⟨this.1.symm, this.2.symm⟩
  clear hh
  have n0 : ((0 : Int) != 0) = false := by decide
  have HX := Aside0.mk hx
  have H40 := Aside0.mk hx40
  have HXR := Aside0.mk hxr
  clear hx hx40 hxr
  go_enter Tryz.func7, Tryz.ntmps7
  go_wp2_with (first | ((with_reducible refine gate_callee (f := 34) rfl ?_); refine goesL_ (some 13) rfl rfl Tryz.func34 (by kernel_rfl) rfl #[.slice A0 l0.length c0] rfl (by (try simp only [List.map_toArray, List.map_cons, List.map_nil]); first | done | rfl) ?_; refine (impl_ValidOrders.calls _ _ l0 t1 _ HR.out HC.out A1.out).mono ?_; rintro e w2 ⟨rfl, hbl⟩; refine ⟨_, rfl, ?_⟩; have HB := Aside0.mk hbl; clear hbl) | ((with_reducible refine gate_callee (f := 38) rfl ?_); refine goesL_ (some 15) rfl rfl Tryz.func38 (by kernel_rfl) rfl #[.int .i64 a1] rfl (by (try simp only [List.map_toArray, List.map_cons, List.map_nil]); first | done | rfl) ?_; refine (impl_isEach.calls a1 t2 _ A2.out).mono ?_; rintro e w' ⟨rfl, ⟨nd, rfl⟩⟩; refine ⟨_, rfl, ?_⟩) | ((with_reducible refine gate_callee (f := 37) rfl ?_); refine goesL_ (some 16) rfl rfl Tryz.func37 (by kernel_rfl) rfl #[.bool t1, .bool t2] rfl (by (try simp only [List.map_toArray, List.map_cons, List.map_nil]); first | done | rfl) ?_; refine (impl_check.calls t1 t2 0 _ A3.out).mono ?_; rintro e w' ⟨rfl, ⟨nd2, rfl⟩⟩; refine ⟨_, rfl, ?_⟩) | ((with_reducible refine gate_dst (N := 20) rfl ?_); refine Kd.R_lit (w0 := w) (Kd.int .i64) w.heap.size 2 ?hg (N := 20) ?hd (xs := ([] : List Int)) (inner := []) (ok := fun _ => True) (okp := fun _ => True) ?hr ?hp (fun _ hk => hk) trivial (by repeat (first | (with_reducible first | exact HB.out | apply below_alloc | apply pw_below_drewN | apply below_drew1) | exact HB.out)) HB.out.size (by simp) ?_; (case hd => rfl); (case hg => rfl); (case hr => first | (go_simp; done) | (go_simp; rfl)); (case hp => exact (Reps.none _ _)); intro v20 w4 ho4 hb hg_ hnew_; clear hg_ hnew_; have HO4 := Aside0.mk ho4; have HB4 := Aside0.mk hb; clear ho4 hb HB) | ((with_reducible refine gate_callee (f := 39) rfl ?_); refine goesL_ (some 22) rfl rfl Tryz.func39 (by kernel_rfl) rfl #[.slice A0 l0.length c0] rfl (by (try simp only [List.map_toArray, List.map_cons, List.map_nil]); first | done | rfl) ?_; refine (impl_earliestDue.calls _ _ l0 x _ (Kd.C_below HR.out HB4.out) HC.out HX.out).mono ?_; rintro e w5 ⟨v22, rfl, ho5, hb⟩; refine ⟨_, rfl, ?_⟩; have HM5 := Aside0.mk (impl_OnTimeMost.older HO4.out hb); have HO5 := Aside0.mk (impl_OnTimeMost.newer ho5); have HB5 := Aside0.mk (below_step HB4.out hb); have HS5 := Aside0.mk hb.size; clear HO4 HB4 ho5 hb HX; obtain ⟨Ao, co, eo⟩ := Kd.R_slice HO5.out; subst eo))
  go_loopg [7, 8, 24] x.length (fun gg v7 v8 v24 wr => ∃ (y : Int) (i : Nat), v8 = .int .i64 (impl_OnTimeMost.run l0 a1 (x.take i)).2 ∧ v24 = .int .i64 y ∧ Aside0 (y = (i : Int)) ∧ Aside0 (i ≤ x.length) ∧ Aside0 (x.length - i ≤ gg) ∧ Aside0 (Kd.R (Kd.int .i64) 2 wr w.heap.size (fun k => k < w4.heap.size ∨ w5.heap.size ≤ k) v7 (impl_OnTimeMost.run l0 a1 (x.take i)).1) ∧ Aside0 (Kd.R (Kd.int .i64) 2 wr w4.heap.size (fun k => w4.heap.size ≤ k ∧ k < w5.heap.size) (.slice Ao x.length co) x) ∧ Aside0 (Below w.heap.size w wr) ∧ Aside0 (w5.heap.size ≤ wr.heap.size))
  case atStart => exact ⟨0, 0, rfl, rfl, ⟨rfl⟩, ⟨Nat.zero_le _⟩, ⟨Nat.le_refl _⟩, HM5, HO5, HB5, ⟨Nat.le_refl _⟩⟩
  case round =>
    obtain ⟨y, i, rfl, rfl, HY, HI, HG, HM, HO, HB, HS⟩ := hrel
    have hiw : i < 41 := by have := HI.out; have := H40.out; omega
    obtain ⟨st, hst⟩ : ∃ st, st = impl_OnTimeMost.run l0 a1 (x.take i) := ⟨_, rfl⟩
    have hml : st.1.length ≤ i := by
      have := impl_OnTimeMost.run_len l0 a1 (x.take i) ([], 0)
      rw [hst]
      unfold impl_OnTimeMost.run
      rw [List.length_take] at this
      simp only [List.length_nil] at this
      omega
    have HML := Aside0.mk hml
    have HIW := Aside0.mk hiw
    rw [← hst] at HM ⊢
    have HST := Aside0.mk hst
    clear hml hiw hst
    by_cases hlt : i < x.length
    · have hx1 := (HXR.out (rd x y) (by rw [HY.out]; simp only [rd, Int.toNat_natCast]; rw [List.getD_eq_getElem?_getD, List.getElem?_eq_getElem hlt]; exact List.getElem_mem hlt))
      have hstep := impl_OnTimeMost.run_take l0 a1 x i hlt
      rw [← HST.out, ← HY.out] at hstep
      obtain ⟨z, hz⟩ : ∃ z, z = rd x y := ⟨_, rfl⟩
      rw [← hz] at hx1 hstep
      have p1 : 0 ≤ y := by rw [HY.out]; omega
      have p2 : y < (x.length : Int) := by rw [HY.out]; omega
      obtain ⟨ado, eo, hxo⟩ := Kd.at_int (Kd.R_reads' HO.out).2.2 y p1 p2
      cases eo
      rw [← hz] at hxo
      obtain ⟨ad, e0, g0, g1, g2, g3⟩ := at_T33 HR.out z hx1.1 hx1.2
      cases e0
      have G2 := Aside0.mk g2
      have G3 := Aside0.mk g3
      have k2 := (HB.out.cell (World.block_lt_of_cell? w _ g2)).trans g2
      have d1 : decide (y < (x.length : Int)) = true := decide_eq_true p2
      have d2 : decide (0 ≤ y) = true := decide_eq_true p1
      have d3 : decide (0 ≤ z) = true := decide_eq_true hx1.1
      have d4 : decide (z < (l0.length : Int)) = true := decide_eq_true hx1.2
      have q1 := eq_true p1
      have q2 := eq_true p2
      have q3 := eq_true hx1.1
      have q4 := eq_true hx1.2
      obtain ⟨c, hc⟩ : ∃ c, c = wrap64 (a1 * (rd_T33 l0 z).f2) := ⟨_, rfl⟩
      obtain ⟨m1, hm1⟩ : ∃ m1, m1 = st.1 ++ [c] := ⟨_, rfl⟩
      obtain ⟨y2, hy2⟩ : ∃ y2, y2 = wrap64 (st.2 + c) := ⟨_, rfl⟩
      have hm1l : m1.length = st.1.length + 1 := by rw [hm1]; simp
      have hcost : impl_OnTimeMost.cost l0 a1 z = c := hc.symm
      have hw1 : wrap64 (y + 1) = y + 1 := by have := HY.out; have := HIW.out; unfold wrap64; omega
      have HW1 := Aside0.mk hw1
      have HSTEP := Aside0.mk hstep
      have HM1 := Aside0.mk hm1
      have HM1L := Aside0.mk hm1l
      have HCO := Aside0.mk hcost
      have HLT := Aside0.mk hlt
      have HCC := Aside0.mk hc
      have HY2 := Aside0.mk hy2
      clear hx1 hstep hz p1 p2 g0 g1 g2 g3 hw1 hm1 hm1l hcost hlt hc hy2
      have HST2 := Aside0.mk (show impl_OnTimeMost.step l0 a1 st z = if y2 > (rd_T33 l0 z).f3 then (m1.eraseIdx (Lib.idxOf m1 (Lib.maxOf m1)).toNat, wrap64 (y2 - rd m1 (Lib.idxOf m1 (Lib.maxOf m1)))) else (m1, y2) by unfold impl_OnTimeMost.step; rw [HCO.out, ← HM1.out, ← HY2.out])
      go_upto_region 8 with (fail)
      refine start_ (n := 21) (S := fun w' => w'.cell? ⟨(ad.add (z.toNat * 4)).block, (ad.add (z.toNat * 4)).off + 2, none⟩ = some (.int .i64 (rd_T33 l0 z).f2)) (ds := []) #[false, false, false, false, false, false, false, false, false, false, false, false, false, false, false, false, false, false, false, false, false] (by kernel_rfl) rfl rfl k2 (fun hHeld => ?_)
      replace HM := Aside0.mk (Kd.R_drew HM.out)
      replace HO := Aside0.mk (Kd.R_drew HO.out)
      replace HB := Aside0.mk (below_drew1 HB.out)
      replace HS : Aside0 (w5.heap.size ≤ wr.drew.heap.size) := HS
      clear k2 hxo
      generalize wr.drew = wd at HM HO HB HS hHeld ⊢
      refine pure_ (i := 0) (N := some 28) (v := ?_) (a' := ?_) #[true, false, false, false, false, false, false, false, false, false, false, false, false, false, false, false, false, false, false, false, false] rfl rfl (by kernel_rfl) (fun _ _ _ h => h) (Or.inl ⟨by rfl, ?_⟩) ?_ ?_
      rotate_left
      · intro w'
        go_simp
        with_reducible rfl
      rotate_left
      · simp only [Act.put, List.setIfInBounds_toArray, List.set_cons_zero, List.set_cons_succ, i64_w, i32_w]
        rfl
      refine pure_ (i := 1) (N := some 29) (v := ?_) (a' := ?_) #[true, true, false, false, false, false, false, false, false, false, false, false, false, false, false, false, false, false, false, false, false] rfl rfl (by kernel_rfl) (fun _ _ _ h => h) (Or.inl ⟨by rfl, ?_⟩) ?_ ?_
      rotate_left
      · intro w'
        go_simp
        with_reducible rfl
      rotate_left
      · simp only [Act.put, List.setIfInBounds_toArray, List.set_cons_zero, List.set_cons_succ, i64_w, i32_w]
        rfl
      refine pure_ (i := 2) (N := some 30) (v := ?_) (a' := ?_) #[true, true, true, false, false, false, false, false, false, false, false, false, false, false, false, false, false, false, false, false, false] rfl rfl (by kernel_rfl) (fun _ _ _ h => h) (Or.inl ⟨by rfl, ?_⟩) ?_ ?_
      rotate_left
      · intro w'
        go_simp
        with_reducible rfl
      rotate_left
      · simp only [Act.put, List.setIfInBounds_toArray, List.set_cons_zero, List.set_cons_succ, i64_w, i32_w]
        rfl
      refine pure_ (i := 3) (N := some 31) (v := ?_) (a' := ?_) #[true, true, true, true, false, false, false, false, false, false, false, false, false, false, false, false, false, false, false, false, false] rfl rfl (by kernel_rfl) (fun _ _ _ h => h) (Or.inl ⟨by rfl, ?_⟩) ?_ ?_
      rotate_left
      · intro w'
        go_simp
        with_reducible rfl
      rotate_left
      · simp only [Act.put, List.setIfInBounds_toArray, List.set_cons_zero, List.set_cons_succ, i64_w, i32_w]
        rfl
      refine pure_ (i := 4) (N := some 32) (v := ?_) (a' := ?_) #[true, true, true, true, true, false, false, false, false, false, false, false, false, false, false, false, false, false, false, false, false] rfl rfl (by kernel_rfl) (fun _ _ _ h => h) (Or.inl ⟨by rfl, ?_⟩) ?_ ?_
      rotate_left
      · intro w'
        go_simp
        with_reducible rfl
      rotate_left
      · simp only [Act.put, List.setIfInBounds_toArray, List.set_cons_zero, List.set_cons_succ, i64_w, i32_w]
        rfl
      refine pure_ (i := 5) (N := some 33) (v := ?_) (a' := ?_) #[true, true, true, true, true, true, false, false, false, false, false, false, false, false, false, false, false, false, false, false, false] rfl rfl (by kernel_rfl) (fun _ _ _ h => h) (Or.inl ⟨by rfl, ?_⟩) ?_ ?_
      rotate_left
      · intro w'
        go_simp
        with_reducible rfl
      rotate_left
      · simp only [Act.put, List.setIfInBounds_toArray, List.set_cons_zero, List.set_cons_succ, i64_w, i32_w]
        rfl
      refine take_ (i := 6) (N := some 34) (v := ?_) (a' := ?_) #[true, true, true, true, true, true, true, false, false, false, false, false, false, false, false, false, false, false, false, false, false] rfl rfl (by kernel_rfl) (fun _ _ _ h => h) (Or.inl ⟨by rfl, ?_⟩) hHeld ?_ ?_
      rotate_left
      · intro w' s0
        go_simp
        with_reducible rfl
      rotate_left
      · simp only [Act.put, List.setIfInBounds_toArray, List.set_cons_zero, List.set_cons_succ, i64_w, i32_w]
        rfl
      refine pure_ (i := 7) (N := some 35) (v := ?_) (a' := ?_) #[true, true, true, true, true, true, true, true, false, false, false, false, false, false, false, false, false, false, false, false, false] rfl rfl (by kernel_rfl) (fun _ _ _ h => h) (Or.inl ⟨by rfl, ?_⟩) ?_ ?_
      rotate_left
      · intro w'
        go_simp
        with_reducible rfl
      rotate_left
      · simp only [Act.put, List.setIfInBounds_toArray, List.set_cons_zero, List.set_cons_succ, i64_w, i32_w]
        rfl
      refine pure_ (i := 10) (N := some 38) (v := ?_) (a' := ?_) #[true, true, true, true, true, true, true, true, false, false, true, false, false, false, false, false, false, false, false, false, false] rfl rfl (by kernel_rfl) (fun _ _ _ h => h) (Or.inl ⟨by rfl, ?_⟩) ?_ ?_
      rotate_left
      · intro w'
        go_simp
        with_reducible rfl
      rotate_left
      · simp only [Act.put, List.setIfInBounds_toArray, List.set_cons_zero, List.set_cons_succ, i64_w, i32_w]
        rfl
      refine pure_ (i := 11) (N := some 39) (v := ?_) (a' := ?_) #[true, true, true, true, true, true, true, true, false, false, true, true, false, false, false, false, false, false, false, false, false] rfl rfl (by kernel_rfl) (fun _ _ _ h => h) (Or.inl ⟨by rfl, ?_⟩) ?_ ?_
      rotate_left
      · intro w'
        go_simp
        with_reducible rfl
      rotate_left
      · simp only [Act.put, List.setIfInBounds_toArray, List.set_cons_zero, List.set_cons_succ, i64_w, i32_w]
        rfl
      refine pure_ (i := 12) (N := some 40) (v := ?_) (a' := ?_) #[true, true, true, true, true, true, true, true, false, false, true, true, true, false, false, false, false, false, false, false, false] rfl rfl (by kernel_rfl) (fun _ _ _ h => h) (Or.inl ⟨by rfl, ?_⟩) ?_ ?_
      rotate_left
      · intro w'
        go_simp
        with_reducible rfl
      rotate_left
      · simp only [Act.put, List.setIfInBounds_toArray, List.set_cons_zero, List.set_cons_succ, i64_w, i32_w]
        rfl
      refine pure_ (i := 13) (N := some 41) (v := ?_) (a' := ?_) #[true, true, true, true, true, true, true, true, false, false, true, true, true, true, false, false, false, false, false, false, false] rfl rfl (by kernel_rfl) (fun _ _ _ h => h) (Or.inl ⟨by rfl, ?_⟩) ?_ ?_
      rotate_left
      · intro w'
        go_simp
        with_reducible rfl
      rotate_left
      · simp only [Act.put, List.setIfInBounds_toArray, List.set_cons_zero, List.set_cons_succ, i64_w, i32_w]
        rfl
      refine pure_ (i := 14) (N := some 42) (v := ?_) (a' := ?_) #[true, true, true, true, true, true, true, true, false, false, true, true, true, true, true, false, false, false, false, false, false] rfl rfl (by kernel_rfl) (fun _ _ _ h => h) (Or.inl ⟨by rfl, ?_⟩) ?_ ?_
      rotate_left
      · intro w'
        go_simp
        with_reducible rfl
      rotate_left
      · simp only [Act.put, List.setIfInBounds_toArray, List.set_cons_zero, List.set_cons_succ, i64_w, i32_w]
        rfl
      refine pure_ (i := 15) (N := some 43) (v := ?_) (a' := ?_) #[true, true, true, true, true, true, true, true, false, false, true, true, true, true, true, true, false, false, false, false, false] rfl rfl (by kernel_rfl) (fun _ _ _ h => h) (Or.inl ⟨by rfl, ?_⟩) ?_ ?_
      rotate_left
      · intro w'
        go_simp
        with_reducible rfl
      rotate_left
      · simp only [Act.put, List.setIfInBounds_toArray, List.set_cons_zero, List.set_cons_succ, i64_w, i32_w]
        rfl
      refine take_ (i := 16) (N := some 44) (v := ?_) (a' := ?_) #[true, true, true, true, true, true, true, true, false, false, true, true, true, true, true, true, true, false, false, false, false] rfl rfl (by kernel_rfl) (fun _ _ _ h => h) (Or.inl ⟨by rfl, ?_⟩) hHeld ?_ ?_
      rotate_left
      · intro w' s0
        go_simp
        with_reducible rfl
      rotate_left
      · simp only [Act.put, List.setIfInBounds_toArray, List.set_cons_zero, List.set_cons_succ, i64_w, i32_w]
        rfl
      refine pure_ (i := 17) (N := some 45) (v := ?_) (a' := ?_) #[true, true, true, true, true, true, true, true, false, false, true, true, true, true, true, true, true, true, false, false, false] rfl rfl (by kernel_rfl) (fun _ _ _ h => h) (Or.inl ⟨by rfl, ?_⟩) ?_ ?_
      rotate_left
      · intro w'
        go_simp
        with_reducible rfl
      rotate_left
      · simp only [Act.put, List.setIfInBounds_toArray, List.set_cons_zero, List.set_cons_succ, i64_w, i32_w]
        rfl
      refine pure_ (i := 18) (N := some 46) (v := ?_) (a' := ?_) #[true, true, true, true, true, true, true, true, false, false, true, true, true, true, true, true, true, true, true, false, false] rfl rfl (by kernel_rfl) (fun _ _ _ h => h) (Or.inl ⟨by rfl, ?_⟩) ?_ ?_
      rotate_left
      · intro w'
        go_simp
        with_reducible rfl
      rotate_left
      · simp only [Act.put, List.setIfInBounds_toArray, List.set_cons_zero, List.set_cons_succ, i64_w, i32_w]
        rfl
      refine one_ (i := 8) (N := some 36) #[true, true, true, true, true, true, true, true, true, false, true, true, true, true, true, true, true, true, true, false, false] rfl rfl (by kernel_rfl) (by decide) (fun K hK => ?_)
      refine value_ (w1 := ?_) (v := ?_) (by rfl) rfl ?_ ?_
      rotate_left 2
      · go_simp
        constructor
        · rfl
        · rfl
      refine hK.out _ _ ((World.cell?_alloc_lt _ _ _ (World.block_lt_of_cell? _ _ hHeld)).trans hHeld) (fun hHeld => ?_)
      clear hK K
      refine norm_ (a' := ?_) ?_ ?_
      rotate_left
      · show Act.put _ (some 36) _ = _
        simp only [Act.put, List.setIfInBounds_toArray, List.set_cons_zero, List.set_cons_succ, i64_w, i32_w]
        rfl
      refine one_ (i := 9) (N := some 37) #[true, true, true, true, true, true, true, true, true, true, true, true, true, true, true, true, true, true, true, false, false] rfl rfl (by kernel_rfl) (by decide) (fun K hK => ?_)
      refine Kd.R_append_step (Kd.int .i64) (w0 := w) w.heap.size (by rfl) (.tmp 28) (.tmp 36) 29 2 (.int .i64 0) 8 rfl Tryz.underlying29 info2 rfl (by decide) (by omega) _ st.1 (wrap64 (a1 * (rd_T33 l0 z).f2)) [.int .i64 (wrap64 (a1 * (rd_T33 l0 z).f2))] (fun k => k < w4.heap.size ∨ w5.heap.size ≤ k) (fun _ => False) rfl rfl ?aP (fun _ hk => hk.elim) ?aF ?aO ?aB ?aS ?aL ?_
      (case aP => exact rfl)
      (case aB => exact HB.out)
      (case aF => exact (fun k hk => .inr (Nat.le_trans HS.out hk)))
      (case aO => exact HM.out)
      (case aS => exact HB.out.size)
      (case aL => have := HML.out; have := HIW.out; omega)
      intro v37 w13 ho hb hg hat
      rw [← HCC.out, ← HM1.out] at ho
      have HO13 := Aside0.mk (Kd.R_grown HO.out hg (fun k hk e => by have := HM.out.1 k e.symm; omega))
      have HM13 := Aside0.mk ho
      have HB13 := Aside0.mk hb
      have HS13 := Aside0.mk (Nat.le_trans HS.out hg.size)
      clear HO HM HB HS ho hg hat
      refine hK.out _ _ ((hb.cell (World.block_lt_of_cell? w _ G2.out)).trans G2.out) (fun hHeld => ?_)
      clear hb
      clear hK K
      refine norm_ (a' := ?_) ?_ ?_
      rotate_left
      · show Act.put _ (some 37) _ = _
        simp only [Act.put, List.setIfInBounds_toArray, List.set_cons_zero, List.set_cons_succ, i64_w, i32_w]
        rfl
      refine pure_ (i := 19) (N := some 7) (v := ?_) (a' := ?_) #[true, true, true, true, true, true, true, true, true, true, true, true, true, true, true, true, true, true, true, true, false] rfl rfl (by kernel_rfl) (fun _ _ _ h => h) (Or.inl ⟨by rfl, ?_⟩) ?_ ?_
      rotate_left
      · intro w'
        go_simp
        with_reducible rfl
      rotate_left
      · simp only [Act.put, List.setIfInBounds_toArray, List.set_cons_zero, List.set_cons_succ, i64_w, i32_w]
        rfl
      refine pure_ (i := 20) (N := some 8) (v := ?_) (a' := ?_) #[true, true, true, true, true, true, true, true, true, true, true, true, true, true, true, true, true, true, true, true, true] rfl rfl (by kernel_rfl) (fun _ _ _ h => h) (Or.inl ⟨by rfl, ?_⟩) ?_ ?_
      rotate_left
      · intro w'
        go_simp
        with_reducible rfl
      rotate_left
      · simp only [Act.put, List.setIfInBounds_toArray, List.set_cons_zero, List.set_cons_succ, i64_w, i32_w]
        rfl
      refine done_ (by kernel_rfl) ?_
      clear hHeld
      have k3 := (HB13.out.cell (World.block_lt_of_cell? w _ G3.out)).trans G3.out
      by_cases hl : y2 > (rd_T33 l0 z).f3
      · obtain ⟨kk, hk1, hk2, hk3, hk4, hk5⟩ := impl_OnTimeMost.idx_max m1 (by rw [HM1L.out]; omega)
        have e1 : decide (wrap64 (st.2 + wrap64 (a1 * (rd_T33 l0 z).f2)) > (rd_T33 l0 z).f3) = true := by rw [← HCC.out, ← HY2.out]; exact decide_eq_true hl
        have e2 : decide ((rd_T33 l0 z).f3 < wrap64 (st.2 + wrap64 (a1 * (rd_T33 l0 z).f2))) = true := e1
        have hrun : impl_OnTimeMost.run l0 a1 (x.take (i + 1)) = (m1.eraseIdx kk, wrap64 (y2 - rd m1 (kk : Int))) := by rw [HSTEP.out, HST2.out, if_pos hl, hk1, Int.toNat_natCast]
        obtain ⟨kz, hkz⟩ : ∃ kz : Int, kz = (kk : Int) := ⟨_, rfl⟩
        rw [← hkz] at hk1 hrun
        have r1 : decide (0 ≤ kz) = true := decide_eq_true (by omega)
        have r2 : decide (kz < (m1.length : Int)) = true := decide_eq_true (by omega)
        have r3 : (0 ≤ kz) = True := eq_true (by omega)
        have r4 : (kz < (m1.length : Int)) = True := eq_true (by omega)
        have HW2 := Aside0.mk (show wrap64 (kz + 1) = ((kk + 1 : Nat) : Int) by have := HM1L.out; have := HML.out; have := HIW.out; unfold wrap64; omega)
        have HML1 := Aside0.mk (show m1.length < 4194304 by have := HM1L.out; have := HML.out; have := HIW.out; omega)
        have HKZ := Aside0.mk hkz
        have HK2 := Aside0.mk hk2
        have HRUN := Aside0.mk hrun
        have HK1 := Aside0.mk hk1
        obtain ⟨g, cap, ev, hcells⟩ := impl_OnTimeMost.form _ _ _ _ _ (by rw [HM1L.out]; omega) HM13.out
        subst ev
        have hck : w13.cell? ⟨g, kz.toNat, none⟩ = some (.int .i64 (rd m1 kz)) := by
          have := hcells kk HK2.out
          rw [HKZ.out]
          simpa [rd] using this
        have HCE := Aside0.mk hcells
        clear hkz hk2 hrun hk1 hk3 hk4 hk5 hl hcells
        go_wp2_with (first
          | (go_at_call 41; refine (impl_OnTimeMost.max w13 g cap m1 (by rw [HM1L.out]; omega) HML1.out HCE.out).mono ?_; rintro e w' ⟨rfl, rfl⟩)
          | (go_at_call 40; have hidx := impl_OnTimeMost.index w' g cap m1 (Lib.maxOf m1) HML1.out HCE.out; rw [HK1.out] at hidx; refine hidx.mono ?_; clear hidx; rintro e w' ⟨rfl, rfl⟩)
          | (go_at_call 42; refine calls_of_args (args' := #[.slice (some ⟨g, 0, none⟩) m1.length cap, .int .i64 (kk : Int), .int .i64 ((kk + 1 : Nat) : Int)]) (by rw [HW2.out, HKZ.out]) ?_; refine (impl_OnTimeMost.del _ w.heap.size _ _ m1 kk HK2.out HML1.out HM13.out HB13.out.size).mono ?_; rintro e w14 ⟨v68, rfl, hR, hg, hown⟩; have HO14 := Aside0.mk (Kd.R_grown HO13.out hg (fun k hk e => by have := HM13.out.1 k e.symm; omega)); have HM14 := Aside0.mk hR; have HB14 := Aside0.mk (pw_below_grown HB13.out _ HB13.out.size hg (Kd.R_base HM13.out)); have HS14 := Aside0.mk (Nat.le_trans HS13.out hg.size); clear hR hg hown))
        go_roundg (x.length - (i + 1))
        case measure => have := HG.out; have := HLT.out; omega
        case rel => exact ⟨y + 1, i + 1, by rw [HRUN.out, HY2.out, HCC.out], (by first | rfl | rw [HW1.out]), ⟨by rw [HY.out]; omega⟩, ⟨HLT.out⟩, ⟨Nat.le_refl _⟩, by rw [HRUN.out]; exact HM14, HO14, HB14, HS14⟩
      · have e1 : decide (wrap64 (st.2 + wrap64 (a1 * (rd_T33 l0 z).f2)) > (rd_T33 l0 z).f3) = false := by rw [← HCC.out, ← HY2.out]; exact decide_eq_false hl
        have e2 : decide ((rd_T33 l0 z).f3 < wrap64 (st.2 + wrap64 (a1 * (rd_T33 l0 z).f2))) = false := e1
        have HRUN := Aside0.mk (show impl_OnTimeMost.run l0 a1 (x.take (i + 1)) = (m1, y2) by rw [HSTEP.out, HST2.out, if_neg hl])
        clear hl
        go_wp2
        go_roundg (x.length - (i + 1))
        case measure => have := HG.out; have := HLT.out; omega
        case rel => exact ⟨y + 1, i + 1, by rw [HRUN.out, HY2.out, HCC.out], (by first | rfl | rw [HW1.out]), ⟨by rw [HY.out]; omega⟩, ⟨HLT.out⟩, ⟨Nat.le_refl _⟩, by rw [HRUN.out]; exact HM13, HO13, HB13, HS13⟩
    · obtain rfl : i = x.length := by have := HI.out; omega
      have d1 : decide (y < (x.length : Int)) = false := decide_eq_false (by have := HY.out; omega)
      have d0 : (y < (x.length : Int)) = False := eq_false (by have := HY.out; omega)
      obtain ⟨Am, cm, em⟩ := Kd.R_slice HM.out
      subst em
      have hst := HST.out
      rw [List.take_length] at hst
      clear hlt
      go_wp2
      go_ret2
      rw [← hst]
      exact ⟨rfl, HB.out⟩

/-! ### spec_l00In: function 60 -/
def spec_l00In.f (a0 : Int) (a1 : Int) (a2 : Int) : Option (Bool) := if a0 ≥ a1 then (some (decide (a0 ≤ a2))) else (some false)
set_option maxHeartbeats 8000000 in
set_option maxRecDepth 100000 in
theorem spec_l00In.calls (a0 : Int) (a1 : Int) (a2 : Int) (r : Bool) (w : World) (h : spec_l00In.f a0 a1 a2 = some r) :
  Calls Tryz.prog 60 #[.int .i64 a0, .int .i64 a1, .int .i64 a2] w fun e w' => e = .returned (.bool r) ∧ Drawn0 w w' := by
 have H : (if a0 ≥ a1 then (some (decide (a0 ≤ a2))) else (some false)) = some r := h
 clear h
 by_cases c4 : a0 ≥ a1
 ·
  rw [if_pos c4] at H
  have c4b0 : decide (a1 ≤ a0) = true := decide_eq_true c4
  clear c4
  obtain rfl := Option.some.inj H
  go_enter Tryz.func60, Tryz.ntmps60
  go_wp2
  go_ret
  exact ⟨by first | rfl | (simp; done) | (simp [*]; done), by repeat (first | exact Drawn0.refl _ | apply Drawn0.step)⟩
 ·
  rw [if_neg c4] at H
  have c4b0 : decide (a1 ≤ a0) = false := decide_eq_false c4
  clear c4
  obtain rfl := Option.some.inj H
  go_enter Tryz.func60, Tryz.ntmps60
  go_wp2
  go_ret
  exact ⟨by first | rfl | (simp; done) | (simp [*]; done), by repeat (first | exact Drawn0.refl _ | apply Drawn0.step)⟩

/-! ### spec_l01Digit: function 93 -/
def spec_l01Digit.f (a0 : Int) : Option (Bool) := if a0 ≥ 48 then (some (decide (a0 ≤ 57))) else (some false)
set_option maxHeartbeats 8000000 in
set_option maxRecDepth 100000 in
theorem spec_l01Digit.calls (a0 : Int) (r : Bool) (w : World) (h : spec_l01Digit.f a0 = some r) :
  Calls Tryz.prog 93 #[.int .u8 a0] w fun e w' => e = .returned (.bool r) ∧ Drawn0 w w' := by
 have H : (if a0 ≥ 48 then (some (decide (a0 ≤ 57))) else (some false)) = some r := h
 clear h
 by_cases c2 : a0 ≥ 48
 ·
  rw [if_pos c2] at H
  have c2b0 : decide (48 ≤ a0) = true := decide_eq_true c2
  clear c2
  obtain rfl := Option.some.inj H
  go_enter Tryz.func93, Tryz.ntmps93
  go_wp2
  go_ret
  exact ⟨by first | rfl | (simp; done) | (simp [*]; done), by repeat (first | exact Drawn0.refl _ | apply Drawn0.step)⟩
 ·
  rw [if_neg c2] at H
  have c2b0 : decide (48 ≤ a0) = false := decide_eq_false c2
  clear c2
  obtain rfl := Option.some.inj H
  go_enter Tryz.func93, Tryz.ntmps93
  go_wp2
  go_ret
  exact ⟨by first | rfl | (simp; done) | (simp [*]; done), by repeat (first | exact Drawn0.refl _ | apply Drawn0.step)⟩

/-! ### spec_l01Small: function 99 -/
def spec_l01Small.f (a0 : Int) : Option (Bool) := if a0 ≥ 97 then (some (decide (a0 ≤ 122))) else (some false)
set_option maxHeartbeats 8000000 in
set_option maxRecDepth 100000 in
theorem spec_l01Small.calls (a0 : Int) (r : Bool) (w : World) (h : spec_l01Small.f a0 = some r) :
  Calls Tryz.prog 99 #[.int .u8 a0] w fun e w' => e = .returned (.bool r) ∧ Drawn0 w w' := by
 have H : (if a0 ≥ 97 then (some (decide (a0 ≤ 122))) else (some false)) = some r := h
 clear h
 by_cases c2 : a0 ≥ 97
 ·
  rw [if_pos c2] at H
  have c2b0 : decide (97 ≤ a0) = true := decide_eq_true c2
  clear c2
  obtain rfl := Option.some.inj H
  go_enter Tryz.func99, Tryz.ntmps99
  go_wp2
  go_ret
  exact ⟨by first | rfl | (simp; done) | (simp [*]; done), by repeat (first | exact Drawn0.refl _ | apply Drawn0.step)⟩
 ·
  rw [if_neg c2] at H
  have c2b0 : decide (97 ≤ a0) = false := decide_eq_false c2
  clear c2
  obtain rfl := Option.some.inj H
  go_enter Tryz.func99, Tryz.ntmps99
  go_wp2
  go_ret
  exact ⟨by first | rfl | (simp; done) | (simp [*]; done), by repeat (first | exact Drawn0.refl _ | apply Drawn0.step)⟩

end Go.Proofs.YtkfpcbhapnhckaaGreatDoor.PFnOnTime
