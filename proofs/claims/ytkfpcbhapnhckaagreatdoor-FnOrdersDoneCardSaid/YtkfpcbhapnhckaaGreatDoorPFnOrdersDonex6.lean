/- Written by a program (ext.py). No conditions but those that each theorem states. -/
import Derived.Test.YtkfpcbhapnhckaaGreatDoorPFnOrdersDonex0
import Derived.Test.YtkfpcbhapnhckaaGreatDoorPFnOrdersDonex2
import Derived.Test.YtkfpcbhapnhckaaGreatDoorPFnOrdersDonex3
namespace Go.Proofs.YtkfpcbhapnhckaaGreatDoor.PFnOrdersDone
open Go.RowKit Go.Proofs.YtkfpcbhapnhckaaGreatDoorW.PrintWords Go.Proofs.YtkfpcbhapnhckaaGreatDoorW.PrintLast Go.Proofs.YtkfpcbhapnhckaaGreatDoorW.PrintMore
attribute [local go_sem] max2_int min2_int max_two min_two max_three min_three max_four min_four Go.Proofs.YtkfpcbhapnhckaaGreatDoor.Hl.isSome_set
set_option linter.unusedVariables false
set_option linter.unusedSimpArgs false

/-! ### slices_Clone_int64_int64: function 81 -/
def slices_Clone_int64_int64.f (l0 : List (Int)) : Option (List (Int)) := if l0.length < 17592186044416 then some l0 else none
set_option maxHeartbeats 8000000 in
set_option maxRecDepth 100000 in
theorem slices_Clone_int64_int64.calls (A0 : Option Addr) (c0 : Nat) (l0 : List (Int)) (r : List (Int)) (w : World) (hr0 : Kd.C (Kd.int .i64) w A0 l0.length l0) (hc0 : l0.length ≤ c0) (h : slices_Clone_int64_int64.f l0 = some r) :
    Calls Tryz.prog 81 #[.slice A0 l0.length c0] w fun e w' => ∃ v0_ : Value, e = .returned (v0_) ∧ Kd.R (Kd.int .i64) 2 w' w.heap.size (fun _ => True) v0_ r ∧ Below w.heap.size w w' := by
  unfold slices_Clone_int64_int64.f at h
  split at h
  case isFalse => cases h
  case isTrue hlim =>
  obtain rfl := Option.some.inj h
  clear h
  cases A0 with
  | none =>
    have hz : l0.length = 0 := by
      rcases Nat.eq_zero_or_pos l0.length with h | h
      · exact h
      · obtain ⟨ad, e, _⟩ := hr0.2.2 h
        cases e
    obtain rfl : l0 = [] := List.length_eq_zero_iff.1 hz
    clear hr0 hc0 hlim hz
    have hnil := fun w => Lib.run_eql_slice_nil (P := Tryz.prog) w 29 2 none 0 c0 0 0 Tryz.underlying29
    go_enter Tryz.func81, Tryz.ntmps81
    go_wp2
    go_ret
    exact ⟨_, rfl, Kd.R_nil _ _ _ _ _, Below.refl _ _⟩
  | some ad =>
    have HR0 := Aside0.mk hr0
    have HC0 := Aside0.mk hc0
    have LMc := Aside0.mk hlim
    clear hr0 hc0 hlim
    have HB := Aside0.mk (Below.refl w.heap.size w)
    obtain ⟨y1, hy1⟩ : ∃ y_ : List (Int), y_ = ([] : List (Int)) := ⟨_, rfl⟩
    have hnil := fun w => Lib.run_eql_slice_nil (P := Tryz.prog) w 29 2 (some ad) l0.length c0 0 0 Tryz.underlying29
    have Ny1 := Aside0.mk hy1
    have Ny2 := Aside0.mk (show y1 ++ l0 = l0 by rw [hy1]; rfl)
    have Ny3 := Aside0.mk (show y1.length + l0.length < 17592186044416 by rw [hy1]; have := LMc.out; simpa using this)
    clear hy1
    go_enter Tryz.func81, Tryz.ntmps81
    go_wp2_with (first | ((with_reducible refine gate_dst (N := 5) rfl ?_); refine Kd.R_lit (Kd.int .i64) _ 2 ?hg (N := 5) ?hd (xs := ([] : List (Int))) (inner := []) (ok := fun _ => True) (okp := fun _ => True) ?hr ?hp (fun _ hk => hk) trivial (Below.refl _ _) (Nat.le_refl _) (by simp) ?_; (case hd => rfl); (case hg => rfl); (case hr => first | (go_simp; done) | (go_simp; rfl)); (case hp => exact (Reps.none _ _)); intro v153 w3 ho4 hb hg_ hnew_; clear hg_ hnew_; (first | rw [← Ny1.out] at ho4 | (simp only [Int.reduceToNat] at ho4; rw [← Ny1.out] at ho4)); have n0_ := Aside0.mk (Kd.R_lower ho4 (below_size (Hl.bb HB))); have n1_ := Aside0.mk (below_step (Hl.bb HB) hb); clear HB; have HO154 := n0_; have HB := n1_; clear n0_ n1_; clear hb ho4) | ((with_reducible refine gate_builtin (b := .append) (xs := #[.tmp 5, .tmp 6]) rfl ?_); at_builtin; refine Kd.R_append_rows (Kd.int .i64) (w0 := w) w.heap.size rfl (.tmp 5) (.tmp 6) 29 2 (.int .i64 0) 8 rfl Tryz.underlying29 info2 rfl (by decide) (by omega) v153 y1 l0 _ _ _ (fun _ => True) (fun _ => False) rfl rfl ?aO ?aR (fun _ _ h => h) (fun _ h => h.elim) ?aF ?aB ?aS ?aL ?_; (case aR => repeat (first | exact (Kd.C_below HR0.out HB.out) | (with_reducible refine Kd.C_alloc ?_ _) | (with_reducible refine Kd.C_drewN ?_ _) | (with_reducible refine Kd.C_drew ?_))); (case aB => exact (Hl.bb HB)); (case aF => exact (fun _ _ => trivial)); (case aO => exact (by (with_reducible repeat (first | apply Kd.R_alloc | apply Kd.R_drewN | apply Kd.R_drew)); exact HO154.out)); (case aS => exact (below_size (Hl.bb HB))); (case aL => have := Ny3.out; omega); intro v156 w5 ho hb hg hat; rw [Ny2.out] at ho; have n0_ := Aside0.mk (hb); have n1_ := Aside0.mk (ho); clear HB; clear HO154; have HB := n0_; have HO157 := n1_; clear n0_ n1_; clear ho hb hg hat))
    go_ret
    exact ⟨_, rfl, by (with_reducible repeat (first | apply Kd.R_alloc | apply Kd.R_drewN | apply Kd.R_drew)); exact HO157.out, Hl.bb HB⟩

/-! ### impl_ascending: function 47 -/
def impl_ascending.laysSlN53_f82_ren : Go.Shelf.Ren := ⟨fun | 53 => 82 | 64 => 97 | 63 => 96 | 78 => 116 | 79 => 117 | 70 => 107 | 71 => 108 | 72 => 109 | 73 => 110 | 74 => 111 | 75 => 112 | 59 => 113 | 76 => 114 | 77 => 115 | 88 => 140 | 89 => 141 | 90 => 142 | 91 => 143 | 92 => 144 | 68 => 145 | 96 => 162 | n => n, fun | 22 => 29 | 23 => 2 | 3 => 3 | 51 => 107 | 0 => 0 | 67 => 122 | 69 => 90 | 4 => 4 | 61 => 114 | 60 => 113 | 44 => 119 | 5 => 5 | 9 => 9 | 75 => 145 | 79 => 149 | 83 => 165 | 84 => 166 | n => n, fun | n => n⟩
theorem impl_ascending.laysSlN53_f82 : Go.Proofs.SlLaysN.n53 Tryz.prog impl_ascending.laysSlN53_f82_ren := {
  mixed := by kernel_rfl
  f53 := ⟨Tryz.f82.name, by decide, Tryz.func82.trans (congrArg some (by kernel_rfl))⟩
  f59 := ⟨Tryz.f113.name, by decide, Tryz.func113.trans (congrArg some (by kernel_rfl))⟩
  f63 := ⟨Tryz.f96.name, by decide, Tryz.func96.trans (congrArg some (by kernel_rfl))⟩
  f64 := Tryz.func97.trans (congrArg some (by kernel_rfl))
  f68 := ⟨Tryz.f145.name, by decide, Tryz.func145.trans (congrArg some (by kernel_rfl))⟩
  f70 := ⟨Tryz.f107.name, by decide, Tryz.func107.trans (congrArg some (by kernel_rfl))⟩
  f71 := ⟨Tryz.f108.name, by decide, Tryz.func108.trans (congrArg some (by kernel_rfl))⟩
  f72 := ⟨Tryz.f109.name, by decide, Tryz.func109.trans (congrArg some (by kernel_rfl))⟩
  f73 := ⟨Tryz.f110.name, by decide, Tryz.func110.trans (congrArg some (by kernel_rfl))⟩
  f74 := ⟨Tryz.f111.name, by decide, Tryz.func111.trans (congrArg some (by kernel_rfl))⟩
  f75 := ⟨Tryz.f112.name, by decide, Tryz.func112.trans (congrArg some (by kernel_rfl))⟩
  f76 := ⟨Tryz.f114.name, by decide, Tryz.func114.trans (congrArg some (by kernel_rfl))⟩
  f77 := ⟨Tryz.f115.name, by decide, Tryz.func115.trans (congrArg some (by kernel_rfl))⟩
  f78 := Tryz.func116.trans (congrArg some (by kernel_rfl))
  f79 := Tryz.func117.trans (congrArg some (by kernel_rfl))
  f88 := ⟨Tryz.f140.name, by decide, Tryz.func140.trans (congrArg some (by kernel_rfl))⟩
  f89 := Tryz.func141.trans (congrArg some (by kernel_rfl))
  f90 := Tryz.func142.trans (congrArg some (by kernel_rfl))
  f91 := ⟨Tryz.f143.name, by decide, Tryz.func143.trans (congrArg some (by kernel_rfl))⟩
  f92 := ⟨Tryz.f144.name, by decide, Tryz.func144.trans (congrArg some (by kernel_rfl))⟩
  f96 := ⟨Tryz.f162.name, by decide, Tryz.func162.trans (congrArg some (by kernel_rfl))⟩
  t0 := Tryz.underlying0
  a0 := Tryz.isAgg0
  z0 := Tryz.sizeOf0
  v0 := Tryz.zeroValue0
  t3 := Tryz.underlying3
  a3 := Tryz.isAgg3
  z3 := Tryz.sizeOf3
  v3 := Tryz.zeroValue3
  t4 := Tryz.underlying4
  a4 := Tryz.isAgg4
  z4 := Tryz.sizeOf4
  v4 := Tryz.zeroValue4
  t5 := Tryz.underlying5
  a5 := Tryz.isAgg5
  z5 := Tryz.sizeOf5
  v5 := Tryz.zeroValue5
  t9 := Tryz.underlying9
  a9 := Tryz.isAgg9
  z9 := Tryz.sizeOf9
  v9 := Tryz.zeroValue9
  t22 := Tryz.underlying29
  a22 := Tryz.isAgg29
  z22 := Tryz.sizeOf29
  v22 := Tryz.zeroValue29
  t23 := Tryz.underlying2
  a23 := Tryz.isAgg2
  z23 := Tryz.sizeOf2
  v23 := Tryz.zeroValue2
  t44 := Tryz.underlying119
  a44 := Tryz.isAgg119
  z44 := Tryz.sizeOf119
  v44 := Tryz.zeroValue119
  t51 := Tryz.underlying107
  a51 := Tryz.isAgg107
  z51 := Tryz.sizeOf107
  v51 := Tryz.zeroValue107
  t60 := Tryz.underlying113
  a60 := Tryz.isAgg113
  z60 := Tryz.sizeOf113
  v60 := Tryz.zeroValue113
  t61 := Tryz.underlying114
  a61 := Tryz.isAgg114
  z61 := Tryz.sizeOf114
  v61 := Tryz.zeroValue114
  t67 := Tryz.underlying122
  a67 := Tryz.isAgg122
  z67 := Tryz.sizeOf122
  v67 := Tryz.zeroValue122
  t69 := Tryz.underlying90
  a69 := Tryz.isAgg90
  z69 := Tryz.sizeOf90
  v69 := Tryz.zeroValue90
  t75 := Tryz.underlying145
  a75 := Tryz.isAgg145
  z75 := Tryz.sizeOf145
  v75 := Tryz.zeroValue145
  t79 := Tryz.underlying149
  a79 := Tryz.isAgg149
  z79 := Tryz.sizeOf149
  v79 := Tryz.zeroValue149
  t83 := Tryz.underlying165
  a83 := Tryz.isAgg165
  z83 := Tryz.sizeOf165
  v83 := Tryz.zeroValue165
  t84 := Tryz.underlying166
  a84 := Tryz.isAgg166
  z84 := Tryz.sizeOf166
  v84 := Tryz.zeroValue166 }
open Go.RowKit Go.Lib Go.Sort in
/-- The library's sort at this instance. -/
theorem impl_ascending.slices_Sort_int (blk off cap : Nat) (zs : List Int) (w : World) (hH : Holds (Value.int .i64) w blk off zs.toArray) (hblk : blk < w.heap.size) (hsz : zs.length < 4611686018427387904) :
    Calls Tryz.prog 82 #[.slice (some ⟨blk, off, none⟩) zs.length cap] w fun e w' => e = .returned (.tuple #[]) ∧ ∃ n os, w' = grow (putRow (Value.int .i64) (Sort.ahead w n) blk off (zs.mergeSort fun x y => decide (x ≤ y)).toArray) os := AnyG.slices_Sort_int impl_ascending.laysSlN53_f82 blk off cap zs w hH hblk hsz
open Go.RowKit Go.Lib Go.Sort in
/-- The library's sort of no element. -/
theorem impl_ascending.slices_Sort_int_none (p : Option Addr) (cap : Nat) (w : World) :
    Calls Tryz.prog 82 #[.slice p 0 cap] w fun e w' => e = .returned (.tuple #[]) ∧ w' = w := AnyG.slices_Sort_int_none impl_ascending.laysSlN53_f82 p cap w
def impl_ascending.laysSlN43_f83_ren : Go.Shelf.Ren := ⟨fun | 43 => 83 | n => n, fun | 22 => 29 | 23 => 2 | 3 => 3 | 4 => 4 | 0 => 0 | n => n, fun | n => n⟩
theorem impl_ascending.laysSlN43_f83 : Go.Proofs.SlLaysN.n43 Tryz.prog impl_ascending.laysSlN43_f83_ren := {
  mixed := by kernel_rfl
  f43 := ⟨Tryz.f83.name, by decide, Tryz.func83.trans (congrArg some (by kernel_rfl))⟩
  t0 := Tryz.underlying0
  a0 := Tryz.isAgg0
  z0 := Tryz.sizeOf0
  v0 := Tryz.zeroValue0
  t3 := Tryz.underlying3
  a3 := Tryz.isAgg3
  z3 := Tryz.sizeOf3
  v3 := Tryz.zeroValue3
  t4 := Tryz.underlying4
  a4 := Tryz.isAgg4
  z4 := Tryz.sizeOf4
  v4 := Tryz.zeroValue4
  t22 := Tryz.underlying29
  a22 := Tryz.isAgg29
  z22 := Tryz.sizeOf29
  v22 := Tryz.zeroValue29
  t23 := Tryz.underlying2
  a23 := Tryz.isAgg2
  z23 := Tryz.sizeOf2
  v23 := Tryz.zeroValue2
  i23 := by kernel_rfl }
open Go.RowKit Go.Lib Go.Sort in
/-- slices.Compact at []int: "Compact replaces consecutive runs of equal elements with a single copy. This is like the uniq command found on Unix. Compact modifies the contents of the slice s and returns the modified slice, which may have a smaller length. Compact zeroes the elements between the new length and the original length. The result preserves the nilness of s.": IT RETURNS THE SLICE CUT TO 'Lib.compact zs'; ITS CELLS HOLD 'Lib.compact zs', THEN ZERO VALUES up to the old length; all else is as it was, but for the count of draws. IN THE WORDS OF slices.Sort's CONTRACT ('Holds', 'putRow'): so the everyday 'slices.Sort(xs); xs = slices.Compact(xs)' goes from the one contract to the other. It asks 'zs.length ≤ cap' (every slice's: the reslicing 's[:k]' looks at it). Length 0, nil: '.._empty'. (LAID AT THE INSTANCE 'slices.Compact[[]int64,int64]': no walk: one application.) -/
theorem impl_ascending.slices_Compact_int (blk off cap : Nat) (zs : List Int) (w : World) (hH : Holds (Value.int .i64) w blk off zs.toArray) (hsz : zs.length ≤ 9223372036854775807) (hcap : zs.length ≤ cap) :
    Calls Tryz.prog 83 #[.slice (some ⟨blk, off, none⟩) zs.length cap] w fun e w' => e = .returned (.slice (some ⟨blk, off, none⟩) (Lib.compact zs).length cap) ∧ ∃ q, w' = putRow (Value.int .i64) (Sort.ahead w q) blk off (Lib.compact zs ++ List.replicate (zs.length - (Lib.compact zs).length) 0).toArray := AnyG.slices_Compact_int impl_ascending.laysSlN43_f83 blk off cap zs w hH hsz hcap
open Go.RowKit Go.Lib Go.Sort in
/-- The same at a slice of length 0, a nil one too: it comes back as it is. (LAID AT THE INSTANCE 'slices.Compact[[]int64,int64]': no walk: one application.) -/
theorem impl_ascending.slices_Compact_int_empty (a : Option Addr) (cap : Nat) (w : World) :
    Calls Tryz.prog 83 #[.slice a 0 cap] w fun e w' => e = .returned (.slice a 0 cap) ∧ w' = w := AnyG.slices_Compact_int_empty impl_ascending.laysSlN43_f83 a cap w
def impl_ascending.sorted (l : List Int) : List Int := l.mergeSort fun x y => decide (x ≤ y)
def impl_ascending.f (l0 : List Int) : Option (List Int) := if l0.length < 4194304 then some (Lib.compact (impl_ascending.sorted l0)) else none
theorem impl_ascending.compact_le (l : List Int) : (Lib.compact l).length ≤ l.length := by
  unfold Lib.compact Lib.compactUpTo
  rw [List.length_map]
  exact Nat.le_trans (List.length_filter_le _ _) (by rw [List.length_range]; exact Nat.le_refl _)
/-- What is sorted and made compact in its own row. -/
theorem impl_ascending.rest (l0 : List Int) (w w1 : World) (v : Value) (hlim : l0.length < 4194304) (hR : Kd.R (Kd.int .i64) 2 w1 w.heap.size (fun _ => True) v l0) (hb : Below w.heap.size w w1) :
    Calls Tryz.prog 82 #[v] w1 fun e w2 => e = .returned (.tuple #[]) ∧ Calls Tryz.prog 83 #[v] w2 fun e w3 => ∃ v3, e = .returned v3 ∧ Kd.R (Kd.int .i64) 2 w3 w.heap.size (fun _ => True) v3 (Lib.compact (impl_ascending.sorted l0)) ∧ Below w.heap.size w w3 := by
  have ho := Kd.own_of_R hR
  have hls : (impl_ascending.sorted l0).length = l0.length := List.length_mergeSort _
  by_cases h0 : l0.length = 0
  · obtain rfl : l0 = [] := List.length_eq_zero_iff.1 h0
    obtain ⟨A, c, rfl⟩ := Kd.R_slice hR
    have hs : impl_ascending.sorted [] = [] := List.length_eq_zero_iff.1 hls
    refine (impl_ascending.slices_Sort_int_none A c w1).mono ?_
    rintro e w2 ⟨rfl, rfl⟩
    refine ⟨rfl, (impl_ascending.slices_Compact_int_empty A c _).mono ?_⟩
    rintro e w3 ⟨rfl, rfl⟩
    refine ⟨_, rfl, ?_, hb⟩
    rw [hs]
    exact hR
  · obtain ⟨hx, ⟨_, hz⟩ | ⟨g, cap, cur, rfl, hg, hcur, hn, hcap, hsz, htk⟩⟩ := ho
    · exact absurd hz h0
    rw [Nat.mul_one] at hsz htk
    have hgl : g < w1.heap.size := (Array.getElem?_eq_some_iff.1 hcur).1
    have hH := holds_of_blockI hcur htk
    refine (impl_ascending.slices_Sort_int g 0 cap l0 w1 hH hgl (by omega)).mono ?_
    rintro e w2 ⟨rfl, n, os, rfl⟩
    refine ⟨rfl, ?_⟩
    have hc2 := heap_sortedI (n := n) (os := os) (impl_ascending.sorted l0).toArray hcur
    have hb2 : Below w.heap.size w (Sort.grow (Sort.putRow (Value.int .i64) (Sort.ahead w1 n) g 0 (impl_ascending.sorted l0).toArray) os) := pw_below_grown hb (some g) hb.size (grownBy_sortedI _) (fun k e => by cases e; exact hg)
    have ht2 := take_putCellsI cur (impl_ascending.sorted l0) (by rw [hls]; omega)
    have hH2 := holds_of_blockI hc2 ht2
    have hsize2 : (Sort.putCells (Value.int .i64) 0 (impl_ascending.sorted l0).toArray cur).size = cap := by simp [Sort.putCells, hsz]
    change Calls Tryz.prog 83 #[.slice (some ⟨g, 0, none⟩) l0.length cap] (Sort.grow (Sort.putRow (Value.int .i64) (Sort.ahead w1 n) g 0 (impl_ascending.sorted l0).toArray) os) _
    generalize Sort.grow (Sort.putRow (Value.int .i64) (Sort.ahead w1 n) g 0 (impl_ascending.sorted l0).toArray) os = w2 at hc2 hb2 hH2 ⊢
    generalize Sort.putCells (Value.int .i64) 0 (impl_ascending.sorted l0).toArray cur = cur2 at hc2 hsize2
    generalize impl_ascending.sorted l0 = ts at hls hH2 ⊢
    rw [← hls]
    refine (impl_ascending.slices_Compact_int g 0 cap ts w2 hH2 (by omega) (by omega)).mono ?_
    rintro e w3 ⟨rfl, q, rfl⟩
    have hle := impl_ascending.compact_le ts
    generalize Lib.compact ts = us at hle ⊢
    have hg3 := grownBy_sortedI (w := w2) (g := g) (n := q) (os := #[]) (us ++ List.replicate (ts.length - us.length) 0).toArray
    have hc3 := heap_sortedI (n := q) (os := #[]) (us ++ List.replicate (ts.length - us.length) 0).toArray hc2
    rw [Sort.grow_empty] at hg3 hc3
    have hl3 : (us ++ List.replicate (ts.length - us.length) (0 : Int)).length = ts.length := by rw [List.length_append, List.length_replicate]; omega
    have ht3 := take_putCellsI cur2 (us ++ List.replicate (ts.length - us.length) 0) (by rw [hl3]; omega)
    refine ⟨_, rfl, Kd.R_of_own ⟨by simp [encs], .inr ⟨g, cap, _, rfl, hg, hc3, by omega, hcap, by simp [Sort.putCells, hsize2], ?_⟩⟩ (fun _ _ => trivial), pw_below_grown hb2 (some g) hb2.size hg3 (fun k e => by cases e; exact hg)⟩
    have e3 := congrArg (List.take us.length) ht3
    rw [List.take_take, hl3, Nat.min_eq_left hle, List.map_append, List.take_left' (by simp)] at e3
    rw [Nat.mul_one]
    exact e3
theorem impl_ascending.calls (A0 : Option Addr) (c0 : Nat) (l0 : List Int) (r : List Int) (w : World) (hr0 : Kd.C (Kd.int .i64) w A0 l0.length l0) (hc0 : l0.length ≤ c0) (h : impl_ascending.f l0 = some r) :
    Calls Tryz.prog 47 #[.slice A0 l0.length c0] w fun e w' => ∃ v0_ : Value, e = .returned (v0_) ∧ Kd.R (Kd.int .i64) 2 w' w.heap.size (fun _ => True) v0_ r ∧ Below w.heap.size w w' := by
  unfold impl_ascending.f at h
  split at h
  case isFalse => cases h
  case isTrue hlim =>
  obtain rfl := Option.some.inj h
  clear h
  have hcl := slices_Clone_int64_int64.calls A0 c0 l0 l0 w hr0 hc0 (by unfold slices_Clone_int64_int64.f; rw [if_pos (by omega)])
  have hrest := fun w1 v => impl_ascending.rest l0 w w1 v hlim
  clear hr0 hc0
  go_enter Tryz.func47, Tryz.ntmps47
  go_wp2_with (first
    | (go_at_call 81; refine hcl.mono ?_; rintro e w1 ⟨v, rfl, hR, hb⟩; have hs := hrest w1 v hR hb; clear hcl hR hb)
    | (go_at_call 82; refine hs.mono ?_; rintro e w2 ⟨rfl, hs2⟩; clear hs)
    | (go_at_call 83; refine hs2.mono ?_; rintro e w3 ⟨v3, rfl, hR3, hb3⟩; clear hs2))
  go_ret
  exact ⟨_, rfl, hR3, hb3⟩

/-! ### impl_rising: function 65 -/
def impl_rising.l0 : Nat → List Int → Int → List Int → Int → Int → Option (Bool)
 | 0, _, _, _, _, _ => none
 | k + 1, x0, x1, x7, x8, x9 => if x9 < x8 then (if 0 ≤ x9 then (if x9 < (x7.length : Int) then ((impl_within.f (rd x7 x9) 0 (wrap64 (x1 - 1))).bind fun t243 => (if t243 = true then (if x9 > 0 then (if 0 ≤ (wrap64 (x9 - 1)) then (if (wrap64 (x9 - 1)) < (x0.length : Int) then (if (rd x0 (wrap64 (x9 - 1))) ≥ (rd x7 x9) then (some false) else (impl_rising.l0 k x0 x1 x7 x8 (wrap64 (x9 + 1)))) else (none)) else (none)) else (impl_rising.l0 k x0 x1 x7 x8 (wrap64 (x9 + 1)))) else (some false))) else (none)) else (none)) else (some true)
def impl_rising.f (k : Nat) (l0 : List Int) (a1 : Int) : Option (Bool) := impl_rising.l0 k l0 a1 l0 (l0.length : Int) 0
theorem impl_rising.mono_l : ∀ k, (∀ y0 y1 y2 y3 y4, LeO (impl_rising.l0 k y0 y1 y2 y3 y4) (impl_rising.l0 (k + 1) y0 y1 y2 y3 y4))
 | 0 => fun _ _ _ _ _ r h => by simp [impl_rising.l0] at h
 | k + 1 => by
  have ih0 := impl_rising.mono_l k
  ·
   intro y0 y1 y2 y3 y4
   unfold impl_rising.l0
   repeat' first
   | (with_reducible exact ih0 _ _ _ _ _)
   | (with_reducible exact LeO.refl _)
   | (with_reducible exact LeO.none _)
   | (with_reducible refine LeO.ite ?_ ?_)
   | (with_reducible refine LeO.bind ?_ (fun _ => ?_))
   | exact ih0 _ _ _ _ _
   | exact LeO.none _
   | refine LeO.ite ?_ ?_
   | refine LeO.bind ?_ (fun _ => ?_)
theorem impl_rising.mono : ∀ a0 a1 k, LeO (impl_rising.f k a0 a1) (impl_rising.f (k + 1) a0 a1) := by
 intro a0 a1 k
 have ih0 := impl_rising.mono_l k
 unfold impl_rising.f
 repeat' first
   | (with_reducible exact ih0 _ _ _ _ _)
   | (with_reducible exact LeO.refl _)
   | (with_reducible exact LeO.none _)
   | (with_reducible refine LeO.ite ?_ ?_)
   | (with_reducible refine LeO.bind ?_ (fun _ => ?_))
   | exact ih0 _ _ _ _ _
   | exact LeO.none _
   | refine LeO.ite ?_ ?_
   | refine LeO.bind ?_ (fun _ => ?_)
set_option maxHeartbeats 8000000 in
set_option maxRecDepth 100000 in
theorem impl_rising.calls (k : Nat) (A0 : Option Addr) (c0 : Nat) (l0 : List Int) (a1 : Int) (r : Bool) (w : World) (hr0 : Kd.C (Kd.int .i64) w A0 l0.length l0) (hc0 : l0.length ≤ c0) (h : impl_rising.f k l0 a1 = some r) :
  Calls Tryz.prog 65 #[.slice A0 l0.length c0, .int .i64 a1] w fun e w' => e = .returned (.bool r) ∧ Drawn0 w w' := by
 have HR0 := Hl.am hr0
 have HC0 := Hl.am hc0
 clear hr0 hc0
 have H : (impl_rising.l0 k l0 a1 l0 (l0.length : Int) 0) = some r := h
 clear h
 have H' := Hl.am H
 clear H
 go_enter Tryz.func65, Tryz.ntmps65
 go_wp2
 go_loopg [9] k (fun kq v9 w' => ∃ (x9_1 : Int), v9 = .int .i64 x9_1 ∧ Aside0 (impl_rising.l0 kq l0 a1 l0 (l0.length : Int) x9_1 = some r) ∧ Aside0 (kq ≤ k) ∧ Drawn0 w w')
 case atStart => exact ⟨(0), (by first | rfl | (simp; done) | (simp [*]; done)), H', ⟨Nat.le_refl _⟩, by repeat (first | exact Drawn0.refl _ | apply Drawn0.step)⟩
 case round =>
  clear H'
  obtain ⟨x9_1, rfl, HA, HK1, ⟨m1, rfl⟩⟩ := hrel
  cases gk with
  | zero => exact absurd HA.out (by simp [impl_rising.l0])
  | succ k1 =>
   have H := HA.out
   clear HA
   simp only [impl_rising.l0] at H
   by_cases c3 : x9_1 < (l0.length : Int)
   ·
    rw [if_pos c3] at H
    have c3b0 : decide (x9_1 < (l0.length : Int)) = true := decide_eq_true c3
    clear c3
    by_cases c4 : 0 ≤ x9_1
    ·
     rw [if_pos c4] at H
     have c4b0 : decide (0 ≤ x9_1) = true := decide_eq_true c4
     clear c4
     by_cases c5 : x9_1 < (l0.length : Int)
     ·
      rw [if_pos c5] at H
      have c5b0 : decide (x9_1 < (l0.length : Int)) = true := decide_eq_true c5
      clear c5
      obtain ⟨t243, A60, H⟩ := bE_ H
      (try dsimp only at H)
      have A6 := Hl.am A60
      clear A60
      by_cases c7 : t243 = true
      ·
       subst c7
       rw [if_pos rfl] at H
       (try dsimp only at H)
       by_cases c8 : x9_1 > 0
       ·
        rw [if_pos c8] at H
        have c8b0 : decide (0 < x9_1) = true := decide_eq_true c8
        clear c8
        obtain ⟨ji9, hji9⟩ : ∃ j_ : Int, (wrap64 (x9_1 - 1)) = j_ := ⟨_, rfl⟩
        replace H : (if 0 ≤ (ji9) then (if (ji9) < (l0.length : Int) then (if (rd l0 (ji9)) ≥ (rd l0 x9_1) then (some false) else (impl_rising.l0 k1 l0 a1 l0 (l0.length : Int) (wrap64 (x9_1 + 1)))) else (none)) else (none)) = some r := by first | (rw [hji9] at H; exact H) | (simp only [hji9] at H ⊢; exact H)
        (try rw [hji9] at A6)
        have hji9w : (IntKind.i64.wrap (x9_1 - 1)) = ji9 := (i64_w _).trans hji9
        by_cases c10 : 0 ≤ (ji9)
        ·
         rw [if_pos c10] at H
         have c10b0 : decide (0 ≤ (ji9)) = true := decide_eq_true c10
         clear c10
         by_cases c11 : (ji9) < (l0.length : Int)
         ·
          rw [if_pos c11] at H
          have c11b0 : decide ((ji9) < (l0.length : Int)) = true := decide_eq_true c11
          clear c11
          by_cases c12 : (rd l0 (ji9)) ≥ (rd l0 x9_1)
          ·
           rw [if_pos c12] at H
           have c12b0 : decide ((rd l0 x9_1) ≤ (rd l0 (ji9))) = true := decide_eq_true c12
           clear c12
           obtain rfl := Option.some.inj H
           have p242 : 0 ≤ (x9_1 : Int) := Hl.od
           have q242 : x9_1 < (l0.length : Int) := Hl.od
           obtain ⟨ad242, e242, hx242_0⟩ := Kd.at_int HR0.out x9_1 p242 q242
           cases e242
           replace p242 := eq_true p242
           replace q242 := eq_true q242
           go_wp2_with (first | ((with_reducible refine gate_callee (f := 78) rfl ?_); refine Hl.gl (some 17) rfl rfl Tryz.func78 (by kernel_rfl) rfl #[.int .i64 (rd l0 x9_1), .int .i64 0, .int .i64 (wrap64 (a1 - 1))] rfl ?_; (with_reducible refine (impl_within.calls (rd l0 x9_1) 0 (wrap64 (a1 - 1)) true _ A6.out).mono ?_); rintro e w' ⟨rfl, ⟨nd, rfl⟩⟩; refine ⟨_, rfl, ?_⟩; have p244 : 0 ≤ ((ji9) : Int) := Hl.od; have q244 : (ji9) < (l0.length : Int) := Hl.od; obtain ⟨ad244, e244, hx244_0⟩ := Kd.at_int HR0.out (ji9) p244 q244; obtain rfl : ad242 = ad244 := (by injection e244); replace p244 := eq_true p244; replace q244 := eq_true q244))
           go_ret
           exact ⟨by first | rfl | (simp; done) | (simp only [← hji9] <;> (first | rfl | simp)) | (simp [*]; done), by repeat (first | exact Drawn0.refl _ | apply Drawn0.step)⟩
          ·
           rw [if_neg c12] at H
           have c12b0 : decide ((rd l0 x9_1) ≤ (rd l0 (ji9))) = false := decide_eq_false c12
           clear c12
           have H' := Hl.am H
           clear H
           have p242 : 0 ≤ (x9_1 : Int) := Hl.od
           have q242 : x9_1 < (l0.length : Int) := Hl.od
           obtain ⟨ad242, e242, hx242_0⟩ := Kd.at_int HR0.out x9_1 p242 q242
           cases e242
           replace p242 := eq_true p242
           replace q242 := eq_true q242
           go_wp2_with (first | ((with_reducible refine gate_callee (f := 78) rfl ?_); refine Hl.gl (some 17) rfl rfl Tryz.func78 (by kernel_rfl) rfl #[.int .i64 (rd l0 x9_1), .int .i64 0, .int .i64 (wrap64 (a1 - 1))] rfl ?_; (with_reducible refine (impl_within.calls (rd l0 x9_1) 0 (wrap64 (a1 - 1)) true _ A6.out).mono ?_); rintro e w' ⟨rfl, ⟨nd, rfl⟩⟩; refine ⟨_, rfl, ?_⟩; have p244 : 0 ≤ ((ji9) : Int) := Hl.od; have q244 : (ji9) < (l0.length : Int) := Hl.od; obtain ⟨ad244, e244, hx244_0⟩ := Kd.at_int HR0.out (ji9) p244 q244; obtain rfl : ad242 = ad244 := (by injection e244); replace p244 := eq_true p244; replace q244 := eq_true q244))
           go_roundg k1
           case measure => have := HK1.out; omega
           case rel => exact ⟨(wrap64 (x9_1 + 1)), (by first | rfl | (simp; done) | (simp [*]; done)), H', ⟨by have := HK1.out; omega⟩, by repeat (first | exact Drawn0.refl _ | apply Drawn0.step)⟩
         ·
          rw [if_neg c11] at H
          exact absurd H (by simp)
        ·
         rw [if_neg c10] at H
         exact absurd H (by simp)
       ·
        rw [if_neg c8] at H
        have c8b0 : decide (0 < x9_1) = false := decide_eq_false c8
        clear c8
        have H' := Hl.am H
        clear H
        have p242 : 0 ≤ (x9_1 : Int) := Hl.od
        have q242 : x9_1 < (l0.length : Int) := Hl.od
        obtain ⟨ad242, e242, hx242_0⟩ := Kd.at_int HR0.out x9_1 p242 q242
        cases e242
        replace p242 := eq_true p242
        replace q242 := eq_true q242
        go_wp2_with (first | ((with_reducible refine gate_callee (f := 78) rfl ?_); refine Hl.gl (some 17) rfl rfl Tryz.func78 (by kernel_rfl) rfl #[.int .i64 (rd l0 x9_1), .int .i64 0, .int .i64 (wrap64 (a1 - 1))] rfl ?_; (with_reducible refine (impl_within.calls (rd l0 x9_1) 0 (wrap64 (a1 - 1)) true _ A6.out).mono ?_); rintro e w' ⟨rfl, ⟨nd, rfl⟩⟩; refine ⟨_, rfl, ?_⟩))
        go_roundg k1
        case measure => have := HK1.out; omega
        case rel => exact ⟨(wrap64 (x9_1 + 1)), (by first | rfl | (simp; done) | (simp [*]; done)), H', ⟨by have := HK1.out; omega⟩, by repeat (first | exact Drawn0.refl _ | apply Drawn0.step)⟩
      ·
       replace c7 := Bool.eq_false_iff.mpr c7
       subst c7
       rw [if_neg (show ¬ (false = true) by decide)] at H
       (try dsimp only at H)
       obtain rfl := Option.some.inj H
       have p242 : 0 ≤ (x9_1 : Int) := Hl.od
       have q242 : x9_1 < (l0.length : Int) := Hl.od
       obtain ⟨ad242, e242, hx242_0⟩ := Kd.at_int HR0.out x9_1 p242 q242
       cases e242
       replace p242 := eq_true p242
       replace q242 := eq_true q242
       go_wp2_with (first | ((with_reducible refine gate_callee (f := 78) rfl ?_); refine Hl.gl (some 17) rfl rfl Tryz.func78 (by kernel_rfl) rfl #[.int .i64 (rd l0 x9_1), .int .i64 0, .int .i64 (wrap64 (a1 - 1))] rfl ?_; (with_reducible refine (impl_within.calls (rd l0 x9_1) 0 (wrap64 (a1 - 1)) false _ A6.out).mono ?_); rintro e w' ⟨rfl, ⟨nd, rfl⟩⟩; refine ⟨_, rfl, ?_⟩))
       go_ret
       exact ⟨by first | rfl | (simp; done) | (simp [*]; done), by repeat (first | exact Drawn0.refl _ | apply Drawn0.step)⟩
     ·
      rw [if_neg c5] at H
      exact absurd H (by simp)
    ·
     rw [if_neg c4] at H
     exact absurd H (by simp)
   ·
    rw [if_neg c3] at H
    have c3b0 : decide (x9_1 < (l0.length : Int)) = false := decide_eq_false c3
    clear c3
    obtain rfl := Option.some.inj H
    go_wp2
    go_ret
    exact ⟨by first | rfl | (simp; done) | (simp [*]; done), by repeat (first | exact Drawn0.refl _ | apply Drawn0.step)⟩

/-! ### impl_DoneDays: function 21 -/
def impl_DoneDays.j0 : Nat → List (S33) → Int → List Int → Bool → Option (List Int × Int)
 | 0, _, _, _, _ => none
 | k + 1, x0, x1, x2, x9 => (impl_ValidOrders.f x0).bind fun t249 => ((impl_isEach.f x1).bind fun t250 => (if t250 = true then ((impl_check.f t249 x9).bind fun t251 => (if t251 = 0 then ((impl_doneDays.f k x0 x1 x2).bind fun t252 => (some (t252, 0))) else (some (([] : List Int), t251)))) else ((impl_check.f t249 false).bind fun t255 => (if t255 = 0 then ((impl_doneDays.f k x0 x1 x2).bind fun t256 => (some (t256, 0))) else (some (([] : List Int), t255))))))
def impl_DoneDays.f (k : Nat) (l0 : List (S33)) (a1 : Int) (l2 : List Int) : Option (List Int × Int) := (impl_ascending.f l2).bind fun t245 => (if (l2.length : Int) = (l0.length : Int) then (if (t245.length : Int) = (l2.length : Int) then ((impl_rising.f k t245 (l0.length : Int)).bind fun t248 => (impl_DoneDays.j0 k l0 a1 l2 t248)) else (impl_DoneDays.j0 k l0 a1 l2 false)) else (impl_DoneDays.j0 k l0 a1 l2 false))
theorem impl_DoneDays.mono_l : ∀ k, (∀ y0 y1 y2 y3, LeO (impl_DoneDays.j0 k y0 y1 y2 y3) (impl_DoneDays.j0 (k + 1) y0 y1 y2 y3))
 | 0 => fun _ _ _ _ r h => by simp [impl_DoneDays.j0] at h
 | k + 1 => by
  have ih0 := impl_DoneDays.mono_l k
  ·
   intro y0 y1 y2 y3
   unfold impl_DoneDays.j0
   repeat' first
   | (with_reducible exact ih0 _ _ _ _)
   | (with_reducible exact impl_doneDays.mono _ _ _ _)
   | (with_reducible exact impl_rising.mono _ _ _)
   | (with_reducible exact LeO.refl _)
   | (with_reducible exact LeO.none _)
   | (with_reducible refine LeO.ite ?_ ?_)
   | (with_reducible refine LeO.bind ?_ (fun _ => ?_))
   | exact ih0 _ _ _ _
   | exact impl_doneDays.mono _ _ _ _
   | exact impl_rising.mono _ _ _
   | exact LeO.none _
   | refine LeO.ite ?_ ?_
   | refine LeO.bind ?_ (fun _ => ?_)
theorem impl_DoneDays.mono : ∀ a0 a1 a2 k, LeO (impl_DoneDays.f k a0 a1 a2) (impl_DoneDays.f (k + 1) a0 a1 a2) := by
 intro a0 a1 a2 k
 have ih0 := impl_DoneDays.mono_l k
 unfold impl_DoneDays.f
 repeat' first
   | (with_reducible exact ih0 _ _ _ _)
   | (with_reducible exact impl_doneDays.mono _ _ _ _)
   | (with_reducible exact impl_rising.mono _ _ _)
   | (with_reducible exact LeO.refl _)
   | (with_reducible exact LeO.none _)
   | (with_reducible refine LeO.ite ?_ ?_)
   | (with_reducible refine LeO.bind ?_ (fun _ => ?_))
   | exact ih0 _ _ _ _
   | exact impl_doneDays.mono _ _ _ _
   | exact impl_rising.mono _ _ _
   | exact LeO.none _
   | refine LeO.ite ?_ ?_
   | refine LeO.bind ?_ (fun _ => ?_)
set_option maxHeartbeats 8000000 in
set_option maxRecDepth 100000 in
theorem impl_DoneDays.calls (k : Nat) (A0 : Option Addr) (c0 : Nat) (l0 : List (S33)) (a1 : Int) (A2 : Option Addr) (c2 : Nat) (l2 : List Int) (r1 : List Int) (r2 : Int) (w : World) (hr0 : Kd.C k33 w A0 l0.length l0) (hc0 : l0.length ≤ c0) (hr2 : Kd.C (Kd.int .i64) w A2 l2.length l2) (hc2 : l2.length ≤ c2) (h : impl_DoneDays.f k l0 a1 l2 = some (r1, r2)) :
  Calls Tryz.prog 21 #[.slice A0 l0.length c0, .int .i64 a1, .slice A2 l2.length c2] w fun e w' => ∃ v0_ : Value, e = .returned (.tuple #[v0_, .int .i64 r2]) ∧ Kd.R (Kd.int .i64) 2 w' w.heap.size (fun _ => True) v0_ r1 ∧ Below w.heap.size w w' := by
 have HR0 := Hl.am hr0
 have HC0 := Hl.am hc0
 clear hr0 hc0
 have HR2 := Hl.am hr2
 have HC2 := Hl.am hc2
 clear hr2 hc2
 have HB := Hl.am (Below.refl w.heap.size w)
 have H := h
 unfold impl_DoneDays.f at H
 clear h
 obtain ⟨t245, A40, H⟩ := bE_ H
 (try dsimp only at H)
 have A4 := Hl.am A40
 clear A40
 have HC5 := Hl.am H
 clear H
 go_enter Tryz.func21, Tryz.ntmps21
 go_upto_region 2 with (first | ((with_reducible refine gate_callee (f := 47) rfl ?_); refine Hl.gl (some 12) rfl rfl Tryz.func47 (by kernel_rfl) rfl #[.slice A2 l2.length c2] rfl ?_; (with_reducible refine (impl_ascending.calls _ _ l2 t245 _ ?side1 ?side2 A4.out).mono ?_); (case side1 => exact Hl.cc HR2.out); (case side2 => exact HC2.out); rintro e w6 ⟨v246, rfl, ho0, hb⟩; refine ⟨_, rfl, ?_⟩; have HO247 := Hl.am (Kd.R_lower ho0 (below_size (Hl.bb HB))); replace HB := bT_ HB hb; (try clear hb); (try clear ho0)))
 (try simp only [Act.put, List.setIfInBounds_toArray, List.set_cons_zero, List.set_cons_succ])
 go_cut [9] (fun v9 wc => ∃ (kq : Nat) (x9_4 : Bool), v9 = .bool x9_4 ∧ Aside0 (impl_DoneDays.j0 kq l0 a1 l2 x9_4 = some (r1, r2)) ∧ Aside0 (kq ≤ k) ∧ Aside0 (Below w.heap.size w wc))
 case first =>
  have H := HC5.out
  clear HC5
  by_cases c7 : (l2.length : Int) = (l0.length : Int)
  ·
   rw [if_pos c7] at H
   have c7b0 : ((l2.length : Int) == (l0.length : Int)) = true := beq_iff_eq.mpr c7
   have c7b1 : ((l2.length : Int) != (l0.length : Int)) = false := bne_eq_false_iff_eq.mpr c7
   have c7b2 : (l2.length == l0.length) = true := by first | simpa using c7 | (simp at c7 ⊢; omega)
   clear c7
   (first | rw [c7b0] | (simp only [i64_w, i32_w]; rw [c7b0]) | skip)
   by_cases c8 : (t245.length : Int) = (l2.length : Int)
   ·
    rw [if_pos c8] at H
    have c8b0 : ((t245.length : Int) == (l2.length : Int)) = true := beq_iff_eq.mpr c8
    have c8b1 : ((t245.length : Int) != (l2.length : Int)) = false := bne_eq_false_iff_eq.mpr c8
    have c8b2 : (t245.length == l2.length) = true := by first | simpa using c8 | (simp at c8 ⊢; omega)
    clear c8
    obtain ⟨t248, A90, H⟩ := bE_ H
    replace H : (impl_DoneDays.j0 k l0 a1 l2 t248) = some (r1, r2) := H
    have A9 := Hl.am A90
    clear A90
    have H' := Hl.am H
    clear H
    obtain ⟨Ao10, co10, eo10⟩ := Kd.R_slice HO247.out
    subst eo10
    go_wp2_with (first | (go_at_call 65; (with_reducible refine (impl_rising.calls k _ _ t245 (l0.length : Int) t248 _ ?side1 ?side2 A9.out).mono ?_); (case side1 => exact Hl.cc ((Kd.R_reads' HO247.out).2.2)); (case side2 => exact (Kd.R_reads' HO247.out).2.1); rintro e w' ⟨rfl, ⟨nd, rfl⟩⟩))
    go_meet
    case rel => exact ⟨_, (t248), (by first | rfl | (simp; done) | (simp [*]; done)), H', ⟨by first | omega | exact Nat.le_refl _⟩, ⟨Hl.bb HB⟩⟩
   ·
    rw [if_neg c8] at H
    have c8b0 : ((t245.length : Int) == (l2.length : Int)) = false := beq_eq_false_iff_ne.mpr c8
    have c8b1 : ((t245.length : Int) != (l2.length : Int)) = true := bne_iff_ne.mpr c8
    have c8b2 : (t245.length == l2.length) = false := by first | simpa using c8 | (simp at c8 ⊢; omega)
    have H' := Hl.am H
    clear H
    obtain ⟨Ao11, co11, eo11⟩ := Kd.R_slice HO247.out
    subst eo11
    go_wp2
    go_meet
    case rel => exact ⟨_, (false), (by first | rfl | (simp; done) | (simp [*]; done)), H', ⟨by first | omega | exact Nat.le_refl _⟩, ⟨Hl.bb HB⟩⟩
  ·
   rw [if_neg c7] at H
   have c7b0 : ((l2.length : Int) == (l0.length : Int)) = false := beq_eq_false_iff_ne.mpr c7
   have c7b1 : ((l2.length : Int) != (l0.length : Int)) = true := bne_iff_ne.mpr c7
   have c7b2 : (l2.length == l0.length) = false := by first | simpa using c7 | (simp at c7 ⊢; omega)
   (first | rw [c7b0] | (simp only [i64_w, i32_w]; rw [c7b0]) | skip)
   have H' := Hl.am H
   clear H
   go_wp2
   go_meet
   case rel => exact ⟨_, (false), (by first | rfl | (simp; done) | (simp [*]; done)), H', ⟨by first | omega | exact Nat.le_refl _⟩, ⟨Hl.bb HB⟩⟩
 case rest =>
  clear HC5
  try clear c2
  obtain ⟨kq, x9_4, rfl, HA, HJ4, HB⟩ := hcut
  cases kq with
  | zero => exact absurd HA.out (by simp [impl_DoneDays.j0])
  | succ kj4 =>
   have H := HA.out
   clear HA
   simp only [impl_DoneDays.j0] at H
   obtain ⟨t249, A120, H⟩ := bE_ H
   (try dsimp only at H)
   have A12 := Hl.am A120
   clear A120
   obtain ⟨t250, A130, H⟩ := bE_ H
   (try dsimp only at H)
   have A13 := Hl.am A130
   clear A130
   by_cases c14 : t250 = true
   ·
    subst c14
    rw [if_pos rfl] at H
    (try dsimp only at H)
    obtain ⟨t251, A150, H⟩ := bE_ H
    (try dsimp only at H)
    have A15 := Hl.am A150
    clear A150
    by_cases c16 : t251 = 0
    ·
     rw [if_pos c16] at H
     have c16b0 : (t251 == 0) = true := beq_iff_eq.mpr c16
     have c16b1 : (t251 != 0) = false := bne_eq_false_iff_eq.mpr c16
     clear c16
     obtain ⟨t252, A170, H⟩ := bE_ H
     replace H : (some (t252, 0)) = some (r1, r2) := H
     have A17 := Hl.am A170
     clear A170
     simp only [Option.some.injEq, Prod.mk.injEq] at H
     obtain ⟨rfl, rfl⟩ := H
     go_wp2_with (first | ((with_reducible refine gate_callee (f := 34) rfl ?_); refine Hl.gl (some 32) rfl rfl Tryz.func34 (by kernel_rfl) rfl #[.slice A0 l0.length c0] rfl ?_; (with_reducible refine (impl_ValidOrders.calls _ _ l0 t249 _ ?side1 ?side2 A12.out).mono ?_); (case side1 => exact Hl.cc (Kd.C_below HR0.out HB.out)); (case side2 => exact HC0.out); rintro e w18 ⟨rfl, hb⟩; refine ⟨_, rfl, ?_⟩; replace HB := bT_ HB hb; (try clear hb)) | ((with_reducible refine gate_callee (f := 38) rfl ?_); refine Hl.gl (some 34) rfl rfl Tryz.func38 (by kernel_rfl) rfl #[.int .i64 a1] rfl ?_; (with_reducible refine (impl_isEach.calls a1 true _ A13.out).mono ?_); rintro e w' ⟨rfl, ⟨nd, rfl⟩⟩; refine ⟨_, rfl, ?_⟩) | ((with_reducible refine gate_callee (f := 37) rfl ?_); refine Hl.gl (some 38) rfl rfl Tryz.func37 (by kernel_rfl) rfl #[.bool t249, .bool x9_4] rfl ?_; (with_reducible refine (impl_check.calls t249 x9_4 t251 _ A15.out).mono ?_); rintro e w' ⟨rfl, ⟨nd, rfl⟩⟩; refine ⟨_, rfl, ?_⟩) | ((with_reducible refine gate_callee (f := 61) rfl ?_); refine Hl.gl (some 45) rfl rfl Tryz.func61 (by kernel_rfl) rfl #[.slice A0 l0.length c0, .int .i64 a1, .slice A2 l2.length c2] rfl ?_; (with_reducible refine (impl_doneDays.calls kj4 _ _ l0 a1 _ _ l2 t252 _ ?side1 ?side2 ?side3 ?side4 A17.out).mono ?_); (case side1 => exact Hl.cc (Kd.C_below HR0.out (Hl.bb HB))); (case side2 => exact HC0.out); (case side3 => exact Hl.cc (Kd.C_below HR2.out (Hl.bb HB))); (case side4 => exact HC2.out); rintro e w19 ⟨v253, rfl, ho0, hb⟩; refine ⟨_, rfl, ?_⟩; have HO254 := Hl.am (Kd.R_lower ho0 (below_size (Hl.bb HB))); replace HB := bT_ HB hb; (try clear hb); (try clear ho0)))
     go_ret2
     exact ⟨_, eW_, Hl.rr HO254, Hl.bb HB⟩
    ·
     rw [if_neg c16] at H
     have c16b0 : (t251 == 0) = false := beq_eq_false_iff_ne.mpr c16
     have c16b1 : (t251 != 0) = true := bne_iff_ne.mpr c16
     simp only [Option.some.injEq, Prod.mk.injEq] at H
     obtain ⟨rfl, rfl⟩ := H
     go_wp2_with (first | ((with_reducible refine gate_callee (f := 34) rfl ?_); refine Hl.gl (some 32) rfl rfl Tryz.func34 (by kernel_rfl) rfl #[.slice A0 l0.length c0] rfl ?_; (with_reducible refine (impl_ValidOrders.calls _ _ l0 t249 _ ?side1 ?side2 A12.out).mono ?_); (case side1 => exact Hl.cc (Kd.C_below HR0.out HB.out)); (case side2 => exact HC0.out); rintro e w20 ⟨rfl, hb⟩; refine ⟨_, rfl, ?_⟩; replace HB := bT_ HB hb; (try clear hb)) | ((with_reducible refine gate_callee (f := 38) rfl ?_); refine Hl.gl (some 34) rfl rfl Tryz.func38 (by kernel_rfl) rfl #[.int .i64 a1] rfl ?_; (with_reducible refine (impl_isEach.calls a1 true _ A13.out).mono ?_); rintro e w' ⟨rfl, ⟨nd, rfl⟩⟩; refine ⟨_, rfl, ?_⟩) | ((with_reducible refine gate_callee (f := 37) rfl ?_); refine Hl.gl (some 38) rfl rfl Tryz.func37 (by kernel_rfl) rfl #[.bool t249, .bool x9_4] rfl ?_; (with_reducible refine (impl_check.calls t249 x9_4 t251 _ A15.out).mono ?_); rintro e w' ⟨rfl, ⟨nd, rfl⟩⟩; refine ⟨_, rfl, ?_⟩))
     go_ret2
     exact ⟨_, eW_, by first | exact Kd.R_nil _ _ _ _ _ | exact Kd.N_nil _ _ _ _ _ | exact Kd.V_nil _ _ _ _ _ | exact Kd.Q_nil _ _ _ _ _ | exact Kd.S_nil _ _ _ _ _, Hl.bb HB⟩
   ·
    replace c14 := Bool.eq_false_iff.mpr c14
    subst c14
    rw [if_neg (show ¬ (false = true) by decide)] at H
    (try dsimp only at H)
    obtain ⟨t255, A210, H⟩ := bE_ H
    (try dsimp only at H)
    have A21 := Hl.am A210
    clear A210
    by_cases c22 : t255 = 0
    ·
     rw [if_pos c22] at H
     have c22b0 : (t255 == 0) = true := beq_iff_eq.mpr c22
     have c22b1 : (t255 != 0) = false := bne_eq_false_iff_eq.mpr c22
     clear c22
     obtain ⟨t256, A230, H⟩ := bE_ H
     replace H : (some (t256, 0)) = some (r1, r2) := H
     have A23 := Hl.am A230
     clear A230
     simp only [Option.some.injEq, Prod.mk.injEq] at H
     obtain ⟨rfl, rfl⟩ := H
     go_wp2_with (first | ((with_reducible refine gate_callee (f := 34) rfl ?_); refine Hl.gl (some 32) rfl rfl Tryz.func34 (by kernel_rfl) rfl #[.slice A0 l0.length c0] rfl ?_; (with_reducible refine (impl_ValidOrders.calls _ _ l0 t249 _ ?side1 ?side2 A12.out).mono ?_); (case side1 => exact Hl.cc (Kd.C_below HR0.out HB.out)); (case side2 => exact HC0.out); rintro e w24 ⟨rfl, hb⟩; refine ⟨_, rfl, ?_⟩; replace HB := bT_ HB hb; (try clear hb)) | ((with_reducible refine gate_callee (f := 38) rfl ?_); refine Hl.gl (some 34) rfl rfl Tryz.func38 (by kernel_rfl) rfl #[.int .i64 a1] rfl ?_; (with_reducible refine (impl_isEach.calls a1 false _ A13.out).mono ?_); rintro e w' ⟨rfl, ⟨nd, rfl⟩⟩; refine ⟨_, rfl, ?_⟩) | ((with_reducible refine gate_callee (f := 37) rfl ?_); refine Hl.gl (some 38) rfl rfl Tryz.func37 (by kernel_rfl) rfl #[.bool t249, .bool false] rfl ?_; (with_reducible refine (impl_check.calls t249 false t255 _ A21.out).mono ?_); rintro e w' ⟨rfl, ⟨nd, rfl⟩⟩; refine ⟨_, rfl, ?_⟩) | ((with_reducible refine gate_callee (f := 61) rfl ?_); refine Hl.gl (some 45) rfl rfl Tryz.func61 (by kernel_rfl) rfl #[.slice A0 l0.length c0, .int .i64 a1, .slice A2 l2.length c2] rfl ?_; (with_reducible refine (impl_doneDays.calls kj4 _ _ l0 a1 _ _ l2 t256 _ ?side1 ?side2 ?side3 ?side4 A23.out).mono ?_); (case side1 => exact Hl.cc (Kd.C_below HR0.out (Hl.bb HB))); (case side2 => exact HC0.out); (case side3 => exact Hl.cc (Kd.C_below HR2.out (Hl.bb HB))); (case side4 => exact HC2.out); rintro e w25 ⟨v257, rfl, ho0, hb⟩; refine ⟨_, rfl, ?_⟩; have HO258 := Hl.am (Kd.R_lower ho0 (below_size (Hl.bb HB))); replace HB := bT_ HB hb; (try clear hb); (try clear ho0)))
     go_ret2
     exact ⟨_, eW_, Hl.rr HO258, Hl.bb HB⟩
    ·
     rw [if_neg c22] at H
     have c22b0 : (t255 == 0) = false := beq_eq_false_iff_ne.mpr c22
     have c22b1 : (t255 != 0) = true := bne_iff_ne.mpr c22
     simp only [Option.some.injEq, Prod.mk.injEq] at H
     obtain ⟨rfl, rfl⟩ := H
     go_wp2_with (first | ((with_reducible refine gate_callee (f := 34) rfl ?_); refine Hl.gl (some 32) rfl rfl Tryz.func34 (by kernel_rfl) rfl #[.slice A0 l0.length c0] rfl ?_; (with_reducible refine (impl_ValidOrders.calls _ _ l0 t249 _ ?side1 ?side2 A12.out).mono ?_); (case side1 => exact Hl.cc (Kd.C_below HR0.out HB.out)); (case side2 => exact HC0.out); rintro e w26 ⟨rfl, hb⟩; refine ⟨_, rfl, ?_⟩; replace HB := bT_ HB hb; (try clear hb)) | ((with_reducible refine gate_callee (f := 38) rfl ?_); refine Hl.gl (some 34) rfl rfl Tryz.func38 (by kernel_rfl) rfl #[.int .i64 a1] rfl ?_; (with_reducible refine (impl_isEach.calls a1 false _ A13.out).mono ?_); rintro e w' ⟨rfl, ⟨nd, rfl⟩⟩; refine ⟨_, rfl, ?_⟩) | ((with_reducible refine gate_callee (f := 37) rfl ?_); refine Hl.gl (some 38) rfl rfl Tryz.func37 (by kernel_rfl) rfl #[.bool t249, .bool false] rfl ?_; (with_reducible refine (impl_check.calls t249 false t255 _ A21.out).mono ?_); rintro e w' ⟨rfl, ⟨nd, rfl⟩⟩; refine ⟨_, rfl, ?_⟩))
     go_ret2
     exact ⟨_, eW_, by first | exact Kd.R_nil _ _ _ _ _ | exact Kd.N_nil _ _ _ _ _ | exact Kd.V_nil _ _ _ _ _ | exact Kd.Q_nil _ _ _ _ _ | exact Kd.S_nil _ _ _ _ _, Hl.bb HB⟩

/-! ### spec_l00In: function 60 -/
def spec_l00In.f (a0 : Int) (a1 : Int) (a2 : Int) : Option (Bool) := if a0 ≥ a1 then (some (decide (a0 ≤ a2))) else (some false)
set_option maxHeartbeats 8000000 in
set_option maxRecDepth 100000 in
theorem spec_l00In.calls (a0 : Int) (a1 : Int) (a2 : Int) (r : Bool) (w : World) (h : spec_l00In.f a0 a1 a2 = some r) :
  Calls Tryz.prog 60 #[.int .i64 a0, .int .i64 a1, .int .i64 a2] w fun e w' => e = .returned (.bool r) ∧ Drawn0 w w' := by
 have H : (if a0 ≥ a1 then (some (decide (a0 ≤ a2))) else (some false)) = some r := h
 clear h
 by_cases c4 : a0 ≥ a1
 ·
  rw [if_pos c4] at H
  have c4b0 : decide (a1 ≤ a0) = true := decide_eq_true c4
  clear c4
  obtain rfl := Option.some.inj H
  go_enter Tryz.func60, Tryz.ntmps60
  go_wp2
  go_ret
  exact ⟨by first | rfl | (simp; done) | (simp [*]; done), by repeat (first | exact Drawn0.refl _ | apply Drawn0.step)⟩
 ·
  rw [if_neg c4] at H
  have c4b0 : decide (a1 ≤ a0) = false := decide_eq_false c4
  clear c4
  obtain rfl := Option.some.inj H
  go_enter Tryz.func60, Tryz.ntmps60
  go_wp2
  go_ret
  exact ⟨by first | rfl | (simp; done) | (simp [*]; done), by repeat (first | exact Drawn0.refl _ | apply Drawn0.step)⟩

/-! ### spec_l01Digit: function 93 -/
def spec_l01Digit.f (a0 : Int) : Option (Bool) := if a0 ≥ 48 then (some (decide (a0 ≤ 57))) else (some false)
set_option maxHeartbeats 8000000 in
set_option maxRecDepth 100000 in
theorem spec_l01Digit.calls (a0 : Int) (r : Bool) (w : World) (h : spec_l01Digit.f a0 = some r) :
  Calls Tryz.prog 93 #[.int .u8 a0] w fun e w' => e = .returned (.bool r) ∧ Drawn0 w w' := by
 have H : (if a0 ≥ 48 then (some (decide (a0 ≤ 57))) else (some false)) = some r := h
 clear h
 by_cases c2 : a0 ≥ 48
 ·
  rw [if_pos c2] at H
  have c2b0 : decide (48 ≤ a0) = true := decide_eq_true c2
  clear c2
  obtain rfl := Option.some.inj H
  go_enter Tryz.func93, Tryz.ntmps93
  go_wp2
  go_ret
  exact ⟨by first | rfl | (simp; done) | (simp [*]; done), by repeat (first | exact Drawn0.refl _ | apply Drawn0.step)⟩
 ·
  rw [if_neg c2] at H
  have c2b0 : decide (48 ≤ a0) = false := decide_eq_false c2
  clear c2
  obtain rfl := Option.some.inj H
  go_enter Tryz.func93, Tryz.ntmps93
  go_wp2
  go_ret
  exact ⟨by first | rfl | (simp; done) | (simp [*]; done), by repeat (first | exact Drawn0.refl _ | apply Drawn0.step)⟩

/-! ### spec_l01Small: function 99 -/
def spec_l01Small.f (a0 : Int) : Option (Bool) := if a0 ≥ 97 then (some (decide (a0 ≤ 122))) else (some false)
set_option maxHeartbeats 8000000 in
set_option maxRecDepth 100000 in
theorem spec_l01Small.calls (a0 : Int) (r : Bool) (w : World) (h : spec_l01Small.f a0 = some r) :
  Calls Tryz.prog 99 #[.int .u8 a0] w fun e w' => e = .returned (.bool r) ∧ Drawn0 w w' := by
 have H : (if a0 ≥ 97 then (some (decide (a0 ≤ 122))) else (some false)) = some r := h
 clear h
 by_cases c2 : a0 ≥ 97
 ·
  rw [if_pos c2] at H
  have c2b0 : decide (97 ≤ a0) = true := decide_eq_true c2
  clear c2
  obtain rfl := Option.some.inj H
  go_enter Tryz.func99, Tryz.ntmps99
  go_wp2
  go_ret
  exact ⟨by first | rfl | (simp; done) | (simp [*]; done), by repeat (first | exact Drawn0.refl _ | apply Drawn0.step)⟩
 ·
  rw [if_neg c2] at H
  have c2b0 : decide (97 ≤ a0) = false := decide_eq_false c2
  clear c2
  obtain rfl := Option.some.inj H
  go_enter Tryz.func99, Tryz.ntmps99
  go_wp2
  go_ret
  exact ⟨by first | rfl | (simp; done) | (simp [*]; done), by repeat (first | exact Drawn0.refl _ | apply Drawn0.step)⟩

end Go.Proofs.YtkfpcbhapnhckaaGreatDoor.PFnOrdersDone
