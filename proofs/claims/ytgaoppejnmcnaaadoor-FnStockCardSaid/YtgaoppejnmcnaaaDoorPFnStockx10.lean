/- Written by a program of this session (ext.py): functions as plain Lean, and proofs that the code comes to them. No conditions but those that each theorem states. -/
import Derived.Test.YtgaoppejnmcnaaaDoorPFnStockx0
import Derived.Test.YtgaoppejnmcnaaaDoorPFnStockx9
namespace Go.Proofs.YtgaoppejnmcnaaaDoor.PFnStock
open Go.RowKit Go.Proofs.YtgaoppejnmcnaaaDoorW.PrintWords Go.Proofs.YtgaoppejnmcnaaaDoorW.PrintLast Go.Proofs.YtgaoppejnmcnaaaDoorW.PrintMore
attribute [local go_sem] max2_int min2_int max_two min_two max_three min_three max_four min_four Go.Proofs.YtgaoppejnmcnaaaDoor.Hl.isSome_set   -- for this text's walks alone
set_option linter.unusedVariables false
set_option linter.unusedSimpArgs false

/-! ### laws_a2Kept: function 33 -/
mutual
def laws_a2Kept.l0 : Nat → List (S52) → List (S52) → List (S52) → ByteArray → Int → List (S52) → Int → Option (Bool)
 | 0, _, _, _, _, _, _, _ => none
 | k + 1, x0, x1, x2, x3, x9, x10, x11 => if x11 < (x0.length : Int) then (if 0 ≤ x11 then (if ((rd_T52 x0 x11).f0).toList = x3.toList then (laws_a2Kept.l0 k x0 x1 x2 x3 ((rd_T52 x0 x11).f1) x10 (wrap64 (x11 + 1))) else (if x10.length < 3518437208883 then (laws_a2Kept.l0 k x0 x1 x2 x3 x9 (x10 ++ [(⟨(rd_T52 x0 x11).f0, (rd_T52 x0 x11).f1, (rd_T52 x0 x11).f2, (rd_T52 x0 x11).f3⟩ : S52)]) (wrap64 (x11 + 1))) else (none))) else (none)) else (laws_a2Kept.l1 k x1 x2 x3 x9 x10 (([] : List (S52))) 0)
def laws_a2Kept.l1 : Nat → List (S52) → List (S52) → ByteArray → Int → List (S52) → List (S52) → Int → Option (Bool)
 | 0, _, _, _, _, _, _, _ => none
 | k + 1, x1, x2, x3, x9, x10, x12, x13 => if x13 < (x2.length : Int) then (if 0 ≤ x13 then (if x13 < (x1.length : Int) then (if ((rd_T52 x2 x13).f0).toList = ((rd_T52 x1 x13).f0).toList then (if ((rd_T52 x2 x13).f0).toList = x3.toList then (if ((rd_T52 x2 x13).f1) = x9 then (laws_a2Kept.l1 k x1 x2 x3 x9 x10 x12 (wrap64 (x13 + 1))) else (some false)) else (if x12.length < 3518437208883 then (laws_a2Kept.l1 k x1 x2 x3 x9 x10 (x12 ++ [(⟨(rd_T52 x2 x13).f0, (rd_T52 x2 x13).f1, (rd_T52 x2 x13).f2, (rd_T52 x2 x13).f3⟩ : S52)]) (wrap64 (x13 + 1))) else (none))) else (some false)) else (none)) else (none)) else ((spec_SameStock.f k x10 x12).bind fun t280 => (some t280))
end
def laws_a2Kept.f (k : Nat) (l0 : List (S52)) (l1 : List (S52)) (l2 : List (S52)) (a3 : ByteArray) : Option (Bool) := laws_a2Kept.l0 k l0 l1 l2 a3 0 (([] : List (S52))) 0
theorem laws_a2Kept.mono_l : ∀ k, (∀ y0 y1 y2 y3 y4 y5 y6, LeO (laws_a2Kept.l0 k y0 y1 y2 y3 y4 y5 y6) (laws_a2Kept.l0 (k + 1) y0 y1 y2 y3 y4 y5 y6)) ∧ (∀ y0 y1 y2 y3 y4 y5 y6, LeO (laws_a2Kept.l1 k y0 y1 y2 y3 y4 y5 y6) (laws_a2Kept.l1 (k + 1) y0 y1 y2 y3 y4 y5 y6))
 | 0 => ⟨fun _ _ _ _ _ _ _ r h => by simp [laws_a2Kept.l0] at h, fun _ _ _ _ _ _ _ r h => by simp [laws_a2Kept.l1] at h⟩
 | k + 1 => by
  obtain ⟨ih0, ih1⟩ := laws_a2Kept.mono_l k
  refine ⟨?_, ?_⟩
  ·
   intro y0 y1 y2 y3 y4 y5 y6
   unfold laws_a2Kept.l0
   repeat' first
   | (with_reducible exact ih0 _ _ _ _ _ _ _)
   | (with_reducible exact ih1 _ _ _ _ _ _ _)
   | (with_reducible exact spec_SameStock.mono _ _ _)
   | (with_reducible exact LeO.refl _)
   | (with_reducible exact LeO.none _)
   | (with_reducible refine LeO.ite ?_ ?_)
   | (with_reducible refine LeO.bind ?_ (fun _ => ?_))
   | exact ih0 _ _ _ _ _ _ _
   | exact ih1 _ _ _ _ _ _ _
   | exact spec_SameStock.mono _ _ _
   | exact LeO.none _
   | refine LeO.ite ?_ ?_
   | refine LeO.bind ?_ (fun _ => ?_)
  ·
   intro y0 y1 y2 y3 y4 y5 y6
   unfold laws_a2Kept.l1
   repeat' first
   | (with_reducible exact ih0 _ _ _ _ _ _ _)
   | (with_reducible exact ih1 _ _ _ _ _ _ _)
   | (with_reducible exact spec_SameStock.mono _ _ _)
   | (with_reducible exact LeO.refl _)
   | (with_reducible exact LeO.none _)
   | (with_reducible refine LeO.ite ?_ ?_)
   | (with_reducible refine LeO.bind ?_ (fun _ => ?_))
   | exact ih0 _ _ _ _ _ _ _
   | exact ih1 _ _ _ _ _ _ _
   | exact spec_SameStock.mono _ _ _
   | exact LeO.none _
   | refine LeO.ite ?_ ?_
   | refine LeO.bind ?_ (fun _ => ?_)
theorem laws_a2Kept.mono : ∀ a0 a1 a2 a3 k, LeO (laws_a2Kept.f k a0 a1 a2 a3) (laws_a2Kept.f (k + 1) a0 a1 a2 a3) := by
 intro a0 a1 a2 a3 k
 obtain ⟨ih0, ih1⟩ := laws_a2Kept.mono_l k
 unfold laws_a2Kept.f
 repeat' first
   | (with_reducible exact ih0 _ _ _ _ _ _ _)
   | (with_reducible exact ih1 _ _ _ _ _ _ _)
   | (with_reducible exact spec_SameStock.mono _ _ _)
   | (with_reducible exact LeO.refl _)
   | (with_reducible exact LeO.none _)
   | (with_reducible refine LeO.ite ?_ ?_)
   | (with_reducible refine LeO.bind ?_ (fun _ => ?_))
   | exact ih0 _ _ _ _ _ _ _
   | exact ih1 _ _ _ _ _ _ _
   | exact spec_SameStock.mono _ _ _
   | exact LeO.none _
   | refine LeO.ite ?_ ?_
   | refine LeO.bind ?_ (fun _ => ?_)
set_option maxHeartbeats 8000000 in
set_option maxRecDepth 100000 in
theorem laws_a2Kept.calls (k : Nat) (A0 : Option Addr) (c0 : Nat) (l0 : List (S52)) (A1 : Option Addr) (c1 : Nat) (l1 : List (S52)) (A2 : Option Addr) (c2 : Nat) (l2 : List (S52)) (a3 : ByteArray) (r : Bool) (w : World) (hr0 : Kd.C k52 w A0 l0.length l0) (hc0 : l0.length ≤ c0) (hr1 : Kd.C k52 w A1 l1.length l1) (hc1 : l1.length ≤ c1) (hr2 : Kd.C k52 w A2 l2.length l2) (hc2 : l2.length ≤ c2) (h : laws_a2Kept.f k l0 l1 l2 a3 = some r) :
  Calls Tryd.prog 33 #[.slice A0 l0.length c0, .slice A1 l1.length c1, .slice A2 l2.length c2, .string a3] w fun e w' => e = .returned (.bool r) ∧ Below w.heap.size w w' := by
 have hu52 := Tryd.underlying52
 have HR0 := Hl.am hr0
 have HC0 := Hl.am hc0
 clear hr0 hc0
 have HR1 := Hl.am hr1
 have HC1 := Hl.am hc1
 clear hr1 hc1
 have HR2 := Hl.am hr2
 have HC2 := Hl.am hc2
 clear hr2 hc2
 have HB := Hl.am (Below.refl w.heap.size w)
 have H : (laws_a2Kept.l0 k l0 l1 l2 a3 0 (([] : List (S52))) 0) = some r := h
 clear h
 obtain ⟨y268, hy268⟩ : ∃ y_ : List (S52), y_ = (([] : List (S52))) := ⟨_, rfl⟩
 replace H : (laws_a2Kept.l0 k l0 l1 l2 a3 0 y268 0) = some r := by first | (rw [hy268]; with_reducible exact H) | (have H2_ := (Option.bind_some _ _).symm.trans H; rw [hy268]; with_reducible exact H2_) | (have H2_ := (Option.bind_some _ _).symm.trans H; with_reducible exact H2_) | with_reducible exact H | (rw [hy268]; exact H) | exact H
 have Ny268 := Hl.am hy268
 clear hy268
 have H' := Hl.am H
 clear H
 go_enter Tryd.func33, Tryd.ntmps33
 go_wp2_with (first | ((with_reducible refine gate_dst (N := 14) rfl ?_); refine Kd.R_lit k52 _ 52 ?hg (N := 14) ?hd (xs := ([] : List (S52))) (inner := []) (ok := fun _ => True) (okp := fun _ => True) ?hr ?hp (fun _ hk => hk) trivial (Below.refl _ _) (Nat.le_refl _) (by simp) ?_; (case hd => rfl); (case hg => rfl); (case hr => first | (go_simp; done) | (go_simp; rfl)); (case hp => exact (Reps.none _ _)); intro v269 w5 ho6 hb hg_ hnew_; clear hg_ hnew_; (first | rw [← Ny268.out] at ho6 | (simp only [Int.reduceToNat] at ho6; rw [← Ny268.out] at ho6)); have HO270 := Hl.am (Kd.R_lower ho6 (below_size (Hl.bb HB))); replace HB := Hl.am (below_step (Hl.bb HB) hb); clear hb ho6))
 repeat (go_quiet (first | ((with_reducible refine gate_dst (N := 14) rfl ?_); refine Kd.R_lit k52 _ 52 ?hg (N := 14) ?hd (xs := ([] : List (S52))) (inner := []) (ok := fun _ => True) (okp := fun _ => True) ?hr ?hp (fun _ hk => hk) trivial (Below.refl _ _) (Nat.le_refl _) (by simp) ?_; (case hd => rfl); (case hg => rfl); (case hr => first | (go_simp; done) | (go_simp; rfl)); (case hp => exact (Reps.none _ _)); intro v269 w5 ho6 hb hg_ hnew_; clear hg_ hnew_; (first | rw [← Ny268.out] at ho6 | (simp only [Int.reduceToNat] at ho6; rw [← Ny268.out] at ho6)); have HO270 := Hl.am (Kd.R_lower ho6 (below_size (Hl.bb HB))); replace HB := Hl.am (below_step (Hl.bb HB) hb); clear hb ho6)); try go_wp2_with (first | ((with_reducible refine gate_dst (N := 14) rfl ?_); refine Kd.R_lit k52 _ 52 ?hg (N := 14) ?hd (xs := ([] : List (S52))) (inner := []) (ok := fun _ => True) (okp := fun _ => True) ?hr ?hp (fun _ hk => hk) trivial (Below.refl _ _) (Nat.le_refl _) (by simp) ?_; (case hd => rfl); (case hg => rfl); (case hr => first | (go_simp; done) | (go_simp; rfl)); (case hp => exact (Reps.none _ _)); intro v269 w5 ho6 hb hg_ hnew_; clear hg_ hnew_; (first | rw [← Ny268.out] at ho6 | (simp only [Int.reduceToNat] at ho6; rw [← Ny268.out] at ho6)); have HO270 := Hl.am (Kd.R_lower ho6 (below_size (Hl.bb HB))); replace HB := Hl.am (below_step (Hl.bb HB) hb); clear hb ho6)))
 go_loopg [9, 10, 11] k (fun kq v9 v10 v11 w' => ∃ (x9_1 : Int) (x10_1 : List (S52)) (x11_1 : Int), v9 = .int .i64 x9_1 ∧ v11 = .int .i64 x11_1 ∧ Aside0 (laws_a2Kept.l0 kq l0 l1 l2 a3 x9_1 x10_1 x11_1 = some r) ∧ Aside0 (kq ≤ k) ∧ Aside0 (Kd.R k52 52 w' w.heap.size (fun _ => True) v10 x10_1) ∧ Aside0 (Below w.heap.size w w'))
 case atStart => exact ⟨(0), (y268), (0), (by first | rfl | (simp; done) | (simp [*]; done)), (by first | rfl | (simp; done) | (simp [*]; done)), H', ⟨Nat.le_refl _⟩, ⟨Hl.rr HO270⟩, ⟨Hl.bb HB⟩⟩
 case round =>
  clear H'
  try clear c1
  try clear c2
  try clear p2
  try clear c3
  obtain ⟨x9_1, x10_1, x11_1, rfl, rfl, HA, HK1, HO_10, HB⟩ := hrel
  cases gk with
  | zero => exact absurd HA.out (by simp [laws_a2Kept.l0])
  | succ k1 =>
   have H := HA.out
   clear HA
   simp only [laws_a2Kept.l0] at H
   by_cases c7 : x11_1 < (l0.length : Int)
   ·
    rw [if_pos c7] at H
    have c7b0 : decide (x11_1 < (l0.length : Int)) = true := decide_eq_true c7
    clear c7
    by_cases c8 : 0 ≤ x11_1
    ·
     rw [if_pos c8] at H
     have c8b0 : decide (0 ≤ x11_1) = true := decide_eq_true c8
     clear c8
     by_cases c9 : ((rd_T52 l0 x11_1).f0).toList = a3.toList
     ·
      rw [if_pos c9] at H
      have c9b0 : (((rd_T52 l0 x11_1).f0).toList == a3.toList) = true := beq_iff_eq.mpr c9
      have c9b1 : (((rd_T52 l0 x11_1).f0).toList != a3.toList) = false := bne_eq_false_iff_eq.mpr c9
      clear c9
      have H' := Hl.am H
      clear H
      have p271 : 0 ≤ (x11_1 : Int) := Hl.od
      have q271 : x11_1 < (l0.length : Int) := Hl.od
      obtain ⟨ad271, e271, hx271_0, hx271_1, hx271_2, hx271_3⟩ := at_T52 HR0.out x11_1 p271 q271
      cases e271
      replace hx271_0 := Hl.hc HB hx271_0
      replace hx271_1 := Hl.hc HB hx271_1
      replace hx271_2 := Hl.hc HB hx271_2
      replace hx271_3 := Hl.hc HB hx271_3
      replace p271 := eq_true p271
      replace q271 := eq_true q271
      have p272 : 0 ≤ (x11_1 : Int) := Hl.od
      have q272 : x11_1 < (l0.length : Int) := Hl.od
      obtain ⟨ad272, e272, hx272_0, hx272_1, hx272_2, hx272_3⟩ := at_T52 HR0.out x11_1 p272 q272
      obtain rfl : ad271 = ad272 := (by injection e272)
      replace hx272_0 := Hl.hc HB hx272_0
      replace hx272_1 := Hl.hc HB hx272_1
      replace hx272_2 := Hl.hc HB hx272_2
      replace hx272_3 := Hl.hc HB hx272_3
      replace p272 := eq_true p272
      replace q272 := eq_true q272
      go_wp2
      repeat (go_quiet (fail); try go_wp2)
      go_roundg k1
      case measure => have := HK1.out; omega
      case rel => exact ⟨((rd_T52 l0 x11_1).f1), (x10_1), (wrap64 (x11_1 + 1)), (by first | rfl | (simp; done) | (simp [*]; done)), (by first | rfl | (simp; done) | (simp [*]; done)), H', ⟨by have := HK1.out; omega⟩, ⟨Hl.rr HO_10⟩, ⟨Hl.bb HB⟩⟩
     ·
      rw [if_neg c9] at H
      have c9b0 : (((rd_T52 l0 x11_1).f0).toList == a3.toList) = false := beq_eq_false_iff_ne.mpr c9
      have c9b1 : (((rd_T52 l0 x11_1).f0).toList != a3.toList) = true := bne_iff_ne.mpr c9
      by_cases c10 : x10_1.length < 3518437208883
      ·
       rw [if_pos c10] at H
       have LMc10 := Hl.am c10
       clear c10
       obtain ⟨y274, hy274⟩ : ∃ y_ : List (S52), y_ = (x10_1 ++ [(⟨(rd_T52 l0 x11_1).f0, (rd_T52 l0 x11_1).f1, (rd_T52 l0 x11_1).f2, (rd_T52 l0 x11_1).f3⟩ : S52)]) := ⟨_, rfl⟩
       replace H : (laws_a2Kept.l0 k1 l0 l1 l2 a3 x9_1 y274 (wrap64 (x11_1 + 1))) = some r := by first | (rw [hy274]; with_reducible exact H) | (have H2_ := (Option.bind_some _ _).symm.trans H; rw [hy274]; with_reducible exact H2_) | (have H2_ := (Option.bind_some _ _).symm.trans H; with_reducible exact H2_) | with_reducible exact H | (rw [hy274]; exact H) | exact H
       have Ny274 := Hl.am hy274
       clear hy274
       have H' := Hl.am H
       clear H
       have p271 : 0 ≤ (x11_1 : Int) := Hl.od
       have q271 : x11_1 < (l0.length : Int) := Hl.od
       obtain ⟨ad271, e271, hx271_0, hx271_1, hx271_2, hx271_3⟩ := at_T52 HR0.out x11_1 p271 q271
       cases e271
       replace hx271_0 := Hl.hc HB hx271_0
       replace hx271_1 := Hl.hc HB hx271_1
       replace hx271_2 := Hl.hc HB hx271_2
       replace hx271_3 := Hl.hc HB hx271_3
       replace p271 := eq_true p271
       replace q271 := eq_true q271
       have p273 : 0 ≤ (x11_1 : Int) := Hl.od
       have q273 : x11_1 < (l0.length : Int) := Hl.od
       obtain ⟨ad273, e273, hx273_0, hx273_1, hx273_2, hx273_3⟩ := at_T52 HR0.out x11_1 p273 q273
       obtain rfl : ad271 = ad273 := (by injection e273)
       replace hx273_0 := Hl.hc HB hx273_0
       replace hx273_1 := Hl.hc HB hx273_1
       replace hx273_2 := Hl.hc HB hx273_2
       replace hx273_3 := Hl.hc HB hx273_3
       replace p273 := eq_true p273
       replace q273 := eq_true q273
       go_wp2_with (first | ((with_reducible refine gate_builtin (b := .append) (xs := #[.tmp 33, .tmp 38]) rfl ?_); at_builtin; refine Kd.R_append k52 (w0 := w) w.heap.size rfl (.tmp 33) (.tmp 38) 27 52 (.agg #[(.string ⟨#[]⟩), (.int .i64 0), (.int .i64 0), (.int .i64 0)]) 40 rfl Tryd.underlying27 info52 rfl (by decide) (by omega) u10 x10_1 (⟨(rd_T52 l0 x11_1).f0, (rd_T52 l0 x11_1).f1, (rd_T52 l0 x11_1).f2, (rd_T52 l0 x11_1).f3⟩ : S52) [.string ((rd_T52 l0 x11_1).f0), .int .i64 ((rd_T52 l0 x11_1).f1), .int .i64 ((rd_T52 l0 x11_1).f2), .int .i64 ((rd_T52 l0 x11_1).f3)] (fun _ => True) (fun _ => False) rfl rfl ?aP (fun _ hk => hk.elim) ?aF ?aO ?aB ?aS ?aL ?_; (case aP => exact k52_mkM _ _ _ (⟨(rd_T52 l0 x11_1).f0, (rd_T52 l0 x11_1).f1, (rd_T52 l0 x11_1).f2, (rd_T52 l0 x11_1).f3⟩ : S52)); (case aB => exact (Hl.bb HB)); (case aF => exact (fun _ _ => trivial)); (case aO => exact (Hl.rr HO_10)); (case aS => exact (below_size (Hl.bb HB))); (case aL => have := LMc10.out; omega); intro v275 w11 ho hb hg hat; rw [← Ny274.out] at ho; replace HB := Hl.am (hb); have HO276 := Hl.am (ho); clear HO_10; clear ho hb hg hat))
       repeat (go_quiet (first | ((with_reducible refine gate_builtin (b := .append) (xs := #[.tmp 33, .tmp 38]) rfl ?_); at_builtin; refine Kd.R_append k52 (w0 := w) w.heap.size rfl (.tmp 33) (.tmp 38) 27 52 (.agg #[(.string ⟨#[]⟩), (.int .i64 0), (.int .i64 0), (.int .i64 0)]) 40 rfl Tryd.underlying27 info52 rfl (by decide) (by omega) u10 x10_1 (⟨(rd_T52 l0 x11_1).f0, (rd_T52 l0 x11_1).f1, (rd_T52 l0 x11_1).f2, (rd_T52 l0 x11_1).f3⟩ : S52) [.string ((rd_T52 l0 x11_1).f0), .int .i64 ((rd_T52 l0 x11_1).f1), .int .i64 ((rd_T52 l0 x11_1).f2), .int .i64 ((rd_T52 l0 x11_1).f3)] (fun _ => True) (fun _ => False) rfl rfl ?aP (fun _ hk => hk.elim) ?aF ?aO ?aB ?aS ?aL ?_; (case aP => exact k52_mkM _ _ _ (⟨(rd_T52 l0 x11_1).f0, (rd_T52 l0 x11_1).f1, (rd_T52 l0 x11_1).f2, (rd_T52 l0 x11_1).f3⟩ : S52)); (case aB => exact (Hl.bb HB)); (case aF => exact (fun _ _ => trivial)); (case aO => exact (Hl.rr HO_10)); (case aS => exact (below_size (Hl.bb HB))); (case aL => have := LMc10.out; omega); intro v275 w11 ho hb hg hat; rw [← Ny274.out] at ho; replace HB := Hl.am (hb); have HO276 := Hl.am (ho); clear HO_10; clear ho hb hg hat)); try go_wp2_with (first | ((with_reducible refine gate_builtin (b := .append) (xs := #[.tmp 33, .tmp 38]) rfl ?_); at_builtin; refine Kd.R_append k52 (w0 := w) w.heap.size rfl (.tmp 33) (.tmp 38) 27 52 (.agg #[(.string ⟨#[]⟩), (.int .i64 0), (.int .i64 0), (.int .i64 0)]) 40 rfl Tryd.underlying27 info52 rfl (by decide) (by omega) u10 x10_1 (⟨(rd_T52 l0 x11_1).f0, (rd_T52 l0 x11_1).f1, (rd_T52 l0 x11_1).f2, (rd_T52 l0 x11_1).f3⟩ : S52) [.string ((rd_T52 l0 x11_1).f0), .int .i64 ((rd_T52 l0 x11_1).f1), .int .i64 ((rd_T52 l0 x11_1).f2), .int .i64 ((rd_T52 l0 x11_1).f3)] (fun _ => True) (fun _ => False) rfl rfl ?aP (fun _ hk => hk.elim) ?aF ?aO ?aB ?aS ?aL ?_; (case aP => exact k52_mkM _ _ _ (⟨(rd_T52 l0 x11_1).f0, (rd_T52 l0 x11_1).f1, (rd_T52 l0 x11_1).f2, (rd_T52 l0 x11_1).f3⟩ : S52)); (case aB => exact (Hl.bb HB)); (case aF => exact (fun _ _ => trivial)); (case aO => exact (Hl.rr HO_10)); (case aS => exact (below_size (Hl.bb HB))); (case aL => have := LMc10.out; omega); intro v275 w11 ho hb hg hat; rw [← Ny274.out] at ho; replace HB := Hl.am (hb); have HO276 := Hl.am (ho); clear HO_10; clear ho hb hg hat)))
       go_roundg k1
       case measure => have := HK1.out; omega
       case rel => exact ⟨(x9_1), (y274), (wrap64 (x11_1 + 1)), (by first | rfl | (simp; done) | (simp [*]; done)), (by first | rfl | (simp; done) | (simp [*]; done)), H', ⟨by have := HK1.out; omega⟩, ⟨Hl.rr HO276⟩, ⟨Hl.bb HB⟩⟩
      ·
       rw [if_neg c10] at H
       exact absurd H (by simp)
    ·
     rw [if_neg c8] at H
     exact absurd H (by simp)
   ·
    rw [if_neg c7] at H
    have c7b0 : decide (x11_1 < (l0.length : Int)) = false := decide_eq_false c7
    clear c7
    obtain ⟨y277, hy277⟩ : ∃ y_ : List (S52), y_ = (([] : List (S52))) := ⟨_, rfl⟩
    replace H : (laws_a2Kept.l1 k1 l1 l2 a3 x9_1 x10_1 y277 0) = some r := by first | (rw [hy277]; with_reducible exact H) | (have H2_ := (Option.bind_some _ _).symm.trans H; rw [hy277]; with_reducible exact H2_) | (have H2_ := (Option.bind_some _ _).symm.trans H; with_reducible exact H2_) | with_reducible exact H | (rw [hy277]; exact H) | exact H
    have Ny277 := Hl.am hy277
    clear hy277
    have H' := Hl.am H
    clear H
    go_wp2_with (first | ((with_reducible refine gate_dst (N := 40) rfl ?_); refine Kd.R_lit k52 _ 52 ?hg (N := 40) ?hd (xs := ([] : List (S52))) (inner := []) (ok := fun _ => True) (okp := fun _ => True) ?hr ?hp (fun _ hk => hk) trivial (Below.refl _ _) (Nat.le_refl _) (by simp) ?_; (case hd => rfl); (case hg => rfl); (case hr => first | (go_simp; done) | (go_simp; rfl)); (case hp => exact (Reps.none _ _)); intro v278 w12 ho13 hb hg_ hnew_; clear hg_ hnew_; (first | rw [← Ny277.out] at ho13 | (simp only [Int.reduceToNat] at ho13; rw [← Ny277.out] at ho13)); have HO279 := Hl.am (Kd.R_lower (Kd.R_new' ho13 (Kd.R_lt (Hl.rr HO_10))) (below_size (Hl.bb HB))); replace HO_10 := Hl.am (Kd.R_elder' (Hl.rr HO_10) (Kd.R_base ho13) hb); replace HB := Hl.am (below_step (Hl.bb HB) hb); clear hb ho13))
    repeat (go_quiet (first | ((with_reducible refine gate_dst (N := 40) rfl ?_); refine Kd.R_lit k52 _ 52 ?hg (N := 40) ?hd (xs := ([] : List (S52))) (inner := []) (ok := fun _ => True) (okp := fun _ => True) ?hr ?hp (fun _ hk => hk) trivial (Below.refl _ _) (Nat.le_refl _) (by simp) ?_; (case hd => rfl); (case hg => rfl); (case hr => first | (go_simp; done) | (go_simp; rfl)); (case hp => exact (Reps.none _ _)); intro v278 w12 ho13 hb hg_ hnew_; clear hg_ hnew_; (first | rw [← Ny277.out] at ho13 | (simp only [Int.reduceToNat] at ho13; rw [← Ny277.out] at ho13)); have HO279 := Hl.am (Kd.R_lower (Kd.R_new' ho13 (Kd.R_lt (Hl.rr HO_10))) (below_size (Hl.bb HB))); replace HO_10 := Hl.am (Kd.R_elder' (Hl.rr HO_10) (Kd.R_base ho13) hb); replace HB := Hl.am (below_step (Hl.bb HB) hb); clear hb ho13)); try go_wp2_with (first | ((with_reducible refine gate_dst (N := 40) rfl ?_); refine Kd.R_lit k52 _ 52 ?hg (N := 40) ?hd (xs := ([] : List (S52))) (inner := []) (ok := fun _ => True) (okp := fun _ => True) ?hr ?hp (fun _ hk => hk) trivial (Below.refl _ _) (Nat.le_refl _) (by simp) ?_; (case hd => rfl); (case hg => rfl); (case hr => first | (go_simp; done) | (go_simp; rfl)); (case hp => exact (Reps.none _ _)); intro v278 w12 ho13 hb hg_ hnew_; clear hg_ hnew_; (first | rw [← Ny277.out] at ho13 | (simp only [Int.reduceToNat] at ho13; rw [← Ny277.out] at ho13)); have HO279 := Hl.am (Kd.R_lower (Kd.R_new' ho13 (Kd.R_lt (Hl.rr HO_10))) (below_size (Hl.bb HB))); replace HO_10 := Hl.am (Kd.R_elder' (Hl.rr HO_10) (Kd.R_base ho13) hb); replace HB := Hl.am (below_step (Hl.bb HB) hb); clear hb ho13)))
    go_loopg [12, 13] k1 (fun kq v12 v13 w' => ∃ (x12_2 : List (S52)) (x13_2 : Int), v13 = .int .i64 x13_2 ∧ Aside0 (laws_a2Kept.l1 kq l1 l2 a3 x9_1 x10_1 x12_2 x13_2 = some r) ∧ Aside0 (kq ≤ k1) ∧ Aside0 (Kd.R k52 52 w' w.heap.size (fun k_ => some k_ ≠ (v12 : Value).ownBlock) u10 x10_1) ∧ Aside0 (Kd.R k52 52 w' w.heap.size (fun k_ => some k_ ≠ (u10 : Value).ownBlock) v12 x12_2) ∧ Aside0 (Below w.heap.size w w'))
    case atStart => exact ⟨(y277), (0), (by first | rfl | (simp; done) | (simp [*]; done)), H', ⟨Nat.le_refl _⟩, ⟨by (with_reducible repeat (first | apply Kd.R_alloc | apply Kd.R_drewN | apply Kd.R_drew)); exact Kd.R_mono HO_10.out (fun _ hk => hk.2)⟩, ⟨by (with_reducible repeat (first | apply Kd.R_alloc | apply Kd.R_drewN | apply Kd.R_drew)); exact Kd.R_mono HO279.out (fun _ hk => hk.2)⟩, ⟨Hl.bb HB⟩⟩
    case round =>
     clear H'
     try clear c1
     try clear c2
     try clear p2
     try clear q2
     try clear hx2
     try clear c3
     try clear p6
     try clear c7
     try clear c7b0
     try clear c8
     try clear c8b0
     try clear c9
     try clear c9b0
     try clear c9b1
     try clear c10
     try clear hx271_0
     try clear hx271_1
     try clear hx271_2
     try clear hx271_3
     try clear hx272_0
     try clear hx272_1
     try clear hx272_2
     try clear hx272_3
     try clear hx273_0
     try clear hx273_1
     try clear hx273_2
     try clear hx273_3
     try clear p2
     try clear p271
     try clear p272
     try clear p273
     try clear q271
     try clear q272
     try clear q273
     obtain ⟨x12_2, x13_2, rfl, HA, HK2, HO_10, HO_12, HB⟩ := hrel
     cases gk with
     | zero => exact absurd HA.out (by simp [laws_a2Kept.l1])
     | succ k2 =>
      have H := HA.out
      clear HA
      simp only [laws_a2Kept.l1] at H
      by_cases c14 : x13_2 < (l2.length : Int)
      ·
       rw [if_pos c14] at H
       have c14b0 : decide (x13_2 < (l2.length : Int)) = true := decide_eq_true c14
       clear c14
       by_cases c15 : 0 ≤ x13_2
       ·
        rw [if_pos c15] at H
        have c15b0 : decide (0 ≤ x13_2) = true := decide_eq_true c15
        clear c15
        by_cases c16 : x13_2 < (l1.length : Int)
        ·
         rw [if_pos c16] at H
         have c16b0 : decide (x13_2 < (l1.length : Int)) = true := decide_eq_true c16
         clear c16
         by_cases c17 : ((rd_T52 l2 x13_2).f0).toList = ((rd_T52 l1 x13_2).f0).toList
         ·
          rw [if_pos c17] at H
          have c17b0 : (((rd_T52 l2 x13_2).f0).toList == ((rd_T52 l1 x13_2).f0).toList) = true := beq_iff_eq.mpr c17
          have c17b1 : (((rd_T52 l2 x13_2).f0).toList != ((rd_T52 l1 x13_2).f0).toList) = false := bne_eq_false_iff_eq.mpr c17
          clear c17
          by_cases c18 : ((rd_T52 l2 x13_2).f0).toList = a3.toList
          ·
           rw [if_pos c18] at H
           have c18b0 : (((rd_T52 l2 x13_2).f0).toList == a3.toList) = true := beq_iff_eq.mpr c18
           have c18b1 : (((rd_T52 l2 x13_2).f0).toList != a3.toList) = false := bne_eq_false_iff_eq.mpr c18
           clear c18
           by_cases c19 : ((rd_T52 l2 x13_2).f1) = x9_1
           ·
            rw [if_pos c19] at H
            have c19b0 : (((rd_T52 l2 x13_2).f1) == x9_1) = true := beq_iff_eq.mpr c19
            have c19b1 : (((rd_T52 l2 x13_2).f1) != x9_1) = false := bne_eq_false_iff_eq.mpr c19
            clear c19
            have H' := Hl.am H
            clear H
            have p281 : 0 ≤ (x13_2 : Int) := Hl.od
            have q281 : x13_2 < (l2.length : Int) := Hl.od
            obtain ⟨ad281, e281, hx281_0, hx281_1, hx281_2, hx281_3⟩ := at_T52 HR2.out x13_2 p281 q281
            cases e281
            replace hx281_0 := Hl.hc HB hx281_0
            replace hx281_1 := Hl.hc HB hx281_1
            replace hx281_2 := Hl.hc HB hx281_2
            replace hx281_3 := Hl.hc HB hx281_3
            replace p281 := eq_true p281
            replace q281 := eq_true q281
            have p282 : 0 ≤ (x13_2 : Int) := Hl.od
            have q282 : x13_2 < (l1.length : Int) := Hl.od
            obtain ⟨ad282, e282, hx282_0, hx282_1, hx282_2, hx282_3⟩ := at_T52 HR1.out x13_2 p282 q282
            cases e282
            replace hx282_0 := Hl.hc HB hx282_0
            replace hx282_1 := Hl.hc HB hx282_1
            replace hx282_2 := Hl.hc HB hx282_2
            replace hx282_3 := Hl.hc HB hx282_3
            replace p282 := eq_true p282
            replace q282 := eq_true q282
            have p283 : 0 ≤ (x13_2 : Int) := Hl.od
            have q283 : x13_2 < (l2.length : Int) := Hl.od
            obtain ⟨ad283, e283, hx283_0, hx283_1, hx283_2, hx283_3⟩ := at_T52 HR2.out x13_2 p283 q283
            obtain rfl : ad281 = ad283 := (by injection e283)
            replace hx283_0 := Hl.hc HB hx283_0
            replace hx283_1 := Hl.hc HB hx283_1
            replace hx283_2 := Hl.hc HB hx283_2
            replace hx283_3 := Hl.hc HB hx283_3
            replace p283 := eq_true p283
            replace q283 := eq_true q283
            have p284 : 0 ≤ (x13_2 : Int) := Hl.od
            have q284 : x13_2 < (l2.length : Int) := Hl.od
            obtain ⟨ad284, e284, hx284_0, hx284_1, hx284_2, hx284_3⟩ := at_T52 HR2.out x13_2 p284 q284
            obtain rfl : ad281 = ad284 := (by injection e284)
            replace hx284_0 := Hl.hc HB hx284_0
            replace hx284_1 := Hl.hc HB hx284_1
            replace hx284_2 := Hl.hc HB hx284_2
            replace hx284_3 := Hl.hc HB hx284_3
            replace p284 := eq_true p284
            replace q284 := eq_true q284
            go_wp2
            repeat (go_quiet (fail); try go_wp2)
            go_roundg k2
            case measure => have := HK1.out; have := HK2.out; omega
            case rel => exact ⟨(x12_2), (wrap64 (x13_2 + 1)), (by first | rfl | (simp; done) | (simp [*]; done)), H', ⟨by have := HK1.out; have := HK2.out; omega⟩, ⟨Hl.rr HO_10⟩, ⟨Hl.rr HO_12⟩, ⟨Hl.bb HB⟩⟩
           ·
            rw [if_neg c19] at H
            have c19b0 : (((rd_T52 l2 x13_2).f1) == x9_1) = false := beq_eq_false_iff_ne.mpr c19
            have c19b1 : (((rd_T52 l2 x13_2).f1) != x9_1) = true := bne_iff_ne.mpr c19
            obtain rfl := Option.some.inj H
            have p281 : 0 ≤ (x13_2 : Int) := Hl.od
            have q281 : x13_2 < (l2.length : Int) := Hl.od
            obtain ⟨ad281, e281, hx281_0, hx281_1, hx281_2, hx281_3⟩ := at_T52 HR2.out x13_2 p281 q281
            cases e281
            replace hx281_0 := Hl.hc HB hx281_0
            replace hx281_1 := Hl.hc HB hx281_1
            replace hx281_2 := Hl.hc HB hx281_2
            replace hx281_3 := Hl.hc HB hx281_3
            replace p281 := eq_true p281
            replace q281 := eq_true q281
            have p282 : 0 ≤ (x13_2 : Int) := Hl.od
            have q282 : x13_2 < (l1.length : Int) := Hl.od
            obtain ⟨ad282, e282, hx282_0, hx282_1, hx282_2, hx282_3⟩ := at_T52 HR1.out x13_2 p282 q282
            cases e282
            replace hx282_0 := Hl.hc HB hx282_0
            replace hx282_1 := Hl.hc HB hx282_1
            replace hx282_2 := Hl.hc HB hx282_2
            replace hx282_3 := Hl.hc HB hx282_3
            replace p282 := eq_true p282
            replace q282 := eq_true q282
            have p283 : 0 ≤ (x13_2 : Int) := Hl.od
            have q283 : x13_2 < (l2.length : Int) := Hl.od
            obtain ⟨ad283, e283, hx283_0, hx283_1, hx283_2, hx283_3⟩ := at_T52 HR2.out x13_2 p283 q283
            obtain rfl : ad281 = ad283 := (by injection e283)
            replace hx283_0 := Hl.hc HB hx283_0
            replace hx283_1 := Hl.hc HB hx283_1
            replace hx283_2 := Hl.hc HB hx283_2
            replace hx283_3 := Hl.hc HB hx283_3
            replace p283 := eq_true p283
            replace q283 := eq_true q283
            have p284 : 0 ≤ (x13_2 : Int) := Hl.od
            have q284 : x13_2 < (l2.length : Int) := Hl.od
            obtain ⟨ad284, e284, hx284_0, hx284_1, hx284_2, hx284_3⟩ := at_T52 HR2.out x13_2 p284 q284
            obtain rfl : ad281 = ad284 := (by injection e284)
            replace hx284_0 := Hl.hc HB hx284_0
            replace hx284_1 := Hl.hc HB hx284_1
            replace hx284_2 := Hl.hc HB hx284_2
            replace hx284_3 := Hl.hc HB hx284_3
            replace p284 := eq_true p284
            replace q284 := eq_true q284
            go_wp2
            repeat (go_quiet (fail); try go_wp2)
            go_ret
            exact ⟨by first | rfl | (simp [errW_none, errW_some] <;> rfl) | (simp [*, errW_none, errW_some] <;> rfl), Hl.bb HB⟩
          ·
           rw [if_neg c18] at H
           have c18b0 : (((rd_T52 l2 x13_2).f0).toList == a3.toList) = false := beq_eq_false_iff_ne.mpr c18
           have c18b1 : (((rd_T52 l2 x13_2).f0).toList != a3.toList) = true := bne_iff_ne.mpr c18
           by_cases c20 : x12_2.length < 3518437208883
           ·
            rw [if_pos c20] at H
            have LMc20 := Hl.am c20
            clear c20
            obtain ⟨y286, hy286⟩ : ∃ y_ : List (S52), y_ = (x12_2 ++ [(⟨(rd_T52 l2 x13_2).f0, (rd_T52 l2 x13_2).f1, (rd_T52 l2 x13_2).f2, (rd_T52 l2 x13_2).f3⟩ : S52)]) := ⟨_, rfl⟩
            replace H : (laws_a2Kept.l1 k2 l1 l2 a3 x9_1 x10_1 y286 (wrap64 (x13_2 + 1))) = some r := by first | (rw [hy286]; with_reducible exact H) | (have H2_ := (Option.bind_some _ _).symm.trans H; rw [hy286]; with_reducible exact H2_) | (have H2_ := (Option.bind_some _ _).symm.trans H; with_reducible exact H2_) | with_reducible exact H | (rw [hy286]; exact H) | exact H
            have Ny286 := Hl.am hy286
            clear hy286
            have H' := Hl.am H
            clear H
            have p281 : 0 ≤ (x13_2 : Int) := Hl.od
            have q281 : x13_2 < (l2.length : Int) := Hl.od
            obtain ⟨ad281, e281, hx281_0, hx281_1, hx281_2, hx281_3⟩ := at_T52 HR2.out x13_2 p281 q281
            cases e281
            replace hx281_0 := Hl.hc HB hx281_0
            replace hx281_1 := Hl.hc HB hx281_1
            replace hx281_2 := Hl.hc HB hx281_2
            replace hx281_3 := Hl.hc HB hx281_3
            replace p281 := eq_true p281
            replace q281 := eq_true q281
            have p282 : 0 ≤ (x13_2 : Int) := Hl.od
            have q282 : x13_2 < (l1.length : Int) := Hl.od
            obtain ⟨ad282, e282, hx282_0, hx282_1, hx282_2, hx282_3⟩ := at_T52 HR1.out x13_2 p282 q282
            cases e282
            replace hx282_0 := Hl.hc HB hx282_0
            replace hx282_1 := Hl.hc HB hx282_1
            replace hx282_2 := Hl.hc HB hx282_2
            replace hx282_3 := Hl.hc HB hx282_3
            replace p282 := eq_true p282
            replace q282 := eq_true q282
            have p283 : 0 ≤ (x13_2 : Int) := Hl.od
            have q283 : x13_2 < (l2.length : Int) := Hl.od
            obtain ⟨ad283, e283, hx283_0, hx283_1, hx283_2, hx283_3⟩ := at_T52 HR2.out x13_2 p283 q283
            obtain rfl : ad281 = ad283 := (by injection e283)
            replace hx283_0 := Hl.hc HB hx283_0
            replace hx283_1 := Hl.hc HB hx283_1
            replace hx283_2 := Hl.hc HB hx283_2
            replace hx283_3 := Hl.hc HB hx283_3
            replace p283 := eq_true p283
            replace q283 := eq_true q283
            have p285 : 0 ≤ (x13_2 : Int) := Hl.od
            have q285 : x13_2 < (l2.length : Int) := Hl.od
            obtain ⟨ad285, e285, hx285_0, hx285_1, hx285_2, hx285_3⟩ := at_T52 HR2.out x13_2 p285 q285
            obtain rfl : ad281 = ad285 := (by injection e285)
            replace hx285_0 := Hl.hc HB hx285_0
            replace hx285_1 := Hl.hc HB hx285_1
            replace hx285_2 := Hl.hc HB hx285_2
            replace hx285_3 := Hl.hc HB hx285_3
            replace p285 := eq_true p285
            replace q285 := eq_true q285
            go_wp2_with (first | ((with_reducible refine gate_builtin (b := .append) (xs := #[.tmp 72, .tmp 77]) rfl ?_); at_builtin; refine Kd.R_append k52 (w0 := w) w.heap.size rfl (.tmp 72) (.tmp 77) 27 52 (.agg #[(.string ⟨#[]⟩), (.int .i64 0), (.int .i64 0), (.int .i64 0)]) 40 rfl Tryd.underlying27 info52 rfl (by decide) (by omega) u12 x12_2 (⟨(rd_T52 l2 x13_2).f0, (rd_T52 l2 x13_2).f1, (rd_T52 l2 x13_2).f2, (rd_T52 l2 x13_2).f3⟩ : S52) [.string ((rd_T52 l2 x13_2).f0), .int .i64 ((rd_T52 l2 x13_2).f1), .int .i64 ((rd_T52 l2 x13_2).f2), .int .i64 ((rd_T52 l2 x13_2).f3)] (fun k_ => some k_ ≠ (u10 : Value).ownBlock) (fun _ => False) rfl rfl ?aP (fun _ hk => hk.elim) ?aF ?aO ?aB ?aS ?aL ?_; (case aP => exact k52_mkM _ _ _ (⟨(rd_T52 l2 x13_2).f0, (rd_T52 l2 x13_2).f1, (rd_T52 l2 x13_2).f2, (rd_T52 l2 x13_2).f3⟩ : S52)); (case aB => exact (Hl.bb HB)); (case aF => exact (fun k_ hk => Kd.fresh' (Kd.R_lt (Hl.rr HO_10)) k_ hk)); (case aO => exact (Hl.rr HO_12)); (case aS => exact (below_size (Hl.bb HB))); (case aL => have := LMc20.out; omega); intro v287 w21 ho hb hg hat; rw [← Ny286.out] at ho; replace HO_10 := Hl.am (Kd.R_after (ok := (fun _ => True)) (by (with_reducible repeat (first | apply Kd.R_alloc | apply Kd.R_drewN | apply Kd.R_drew)); exact Kd.R_mono HO_10.out (fun _ hk => ⟨trivial, hk⟩)) hg hat); replace HB := Hl.am (hb); have HO288 := Hl.am (ho); clear HO_12; clear ho hb hg hat))
            repeat (go_quiet (first | ((with_reducible refine gate_builtin (b := .append) (xs := #[.tmp 72, .tmp 77]) rfl ?_); at_builtin; refine Kd.R_append k52 (w0 := w) w.heap.size rfl (.tmp 72) (.tmp 77) 27 52 (.agg #[(.string ⟨#[]⟩), (.int .i64 0), (.int .i64 0), (.int .i64 0)]) 40 rfl Tryd.underlying27 info52 rfl (by decide) (by omega) u12 x12_2 (⟨(rd_T52 l2 x13_2).f0, (rd_T52 l2 x13_2).f1, (rd_T52 l2 x13_2).f2, (rd_T52 l2 x13_2).f3⟩ : S52) [.string ((rd_T52 l2 x13_2).f0), .int .i64 ((rd_T52 l2 x13_2).f1), .int .i64 ((rd_T52 l2 x13_2).f2), .int .i64 ((rd_T52 l2 x13_2).f3)] (fun k_ => some k_ ≠ (u10 : Value).ownBlock) (fun _ => False) rfl rfl ?aP (fun _ hk => hk.elim) ?aF ?aO ?aB ?aS ?aL ?_; (case aP => exact k52_mkM _ _ _ (⟨(rd_T52 l2 x13_2).f0, (rd_T52 l2 x13_2).f1, (rd_T52 l2 x13_2).f2, (rd_T52 l2 x13_2).f3⟩ : S52)); (case aB => exact (Hl.bb HB)); (case aF => exact (fun k_ hk => Kd.fresh' (Kd.R_lt (Hl.rr HO_10)) k_ hk)); (case aO => exact (Hl.rr HO_12)); (case aS => exact (below_size (Hl.bb HB))); (case aL => have := LMc20.out; omega); intro v287 w21 ho hb hg hat; rw [← Ny286.out] at ho; replace HO_10 := Hl.am (Kd.R_after (ok := (fun _ => True)) (by (with_reducible repeat (first | apply Kd.R_alloc | apply Kd.R_drewN | apply Kd.R_drew)); exact Kd.R_mono HO_10.out (fun _ hk => ⟨trivial, hk⟩)) hg hat); replace HB := Hl.am (hb); have HO288 := Hl.am (ho); clear HO_12; clear ho hb hg hat)); try go_wp2_with (first | ((with_reducible refine gate_builtin (b := .append) (xs := #[.tmp 72, .tmp 77]) rfl ?_); at_builtin; refine Kd.R_append k52 (w0 := w) w.heap.size rfl (.tmp 72) (.tmp 77) 27 52 (.agg #[(.string ⟨#[]⟩), (.int .i64 0), (.int .i64 0), (.int .i64 0)]) 40 rfl Tryd.underlying27 info52 rfl (by decide) (by omega) u12 x12_2 (⟨(rd_T52 l2 x13_2).f0, (rd_T52 l2 x13_2).f1, (rd_T52 l2 x13_2).f2, (rd_T52 l2 x13_2).f3⟩ : S52) [.string ((rd_T52 l2 x13_2).f0), .int .i64 ((rd_T52 l2 x13_2).f1), .int .i64 ((rd_T52 l2 x13_2).f2), .int .i64 ((rd_T52 l2 x13_2).f3)] (fun k_ => some k_ ≠ (u10 : Value).ownBlock) (fun _ => False) rfl rfl ?aP (fun _ hk => hk.elim) ?aF ?aO ?aB ?aS ?aL ?_; (case aP => exact k52_mkM _ _ _ (⟨(rd_T52 l2 x13_2).f0, (rd_T52 l2 x13_2).f1, (rd_T52 l2 x13_2).f2, (rd_T52 l2 x13_2).f3⟩ : S52)); (case aB => exact (Hl.bb HB)); (case aF => exact (fun k_ hk => Kd.fresh' (Kd.R_lt (Hl.rr HO_10)) k_ hk)); (case aO => exact (Hl.rr HO_12)); (case aS => exact (below_size (Hl.bb HB))); (case aL => have := LMc20.out; omega); intro v287 w21 ho hb hg hat; rw [← Ny286.out] at ho; replace HO_10 := Hl.am (Kd.R_after (ok := (fun _ => True)) (by (with_reducible repeat (first | apply Kd.R_alloc | apply Kd.R_drewN | apply Kd.R_drew)); exact Kd.R_mono HO_10.out (fun _ hk => ⟨trivial, hk⟩)) hg hat); replace HB := Hl.am (hb); have HO288 := Hl.am (ho); clear HO_12; clear ho hb hg hat)))
            go_roundg k2
            case measure => have := HK1.out; have := HK2.out; omega
            case rel => exact ⟨(y286), (wrap64 (x13_2 + 1)), (by first | rfl | (simp; done) | (simp [*]; done)), H', ⟨by have := HK1.out; have := HK2.out; omega⟩, ⟨by (with_reducible repeat (first | apply Kd.R_alloc | apply Kd.R_drewN | apply Kd.R_drew)); exact Kd.R_mono HO_10.out (fun _ hk => hk.2)⟩, ⟨Hl.rr HO288⟩, ⟨Hl.bb HB⟩⟩
           ·
            rw [if_neg c20] at H
            exact absurd H (by simp)
         ·
          rw [if_neg c17] at H
          have c17b0 : (((rd_T52 l2 x13_2).f0).toList == ((rd_T52 l1 x13_2).f0).toList) = false := beq_eq_false_iff_ne.mpr c17
          have c17b1 : (((rd_T52 l2 x13_2).f0).toList != ((rd_T52 l1 x13_2).f0).toList) = true := bne_iff_ne.mpr c17
          obtain rfl := Option.some.inj H
          have p281 : 0 ≤ (x13_2 : Int) := Hl.od
          have q281 : x13_2 < (l2.length : Int) := Hl.od
          obtain ⟨ad281, e281, hx281_0, hx281_1, hx281_2, hx281_3⟩ := at_T52 HR2.out x13_2 p281 q281
          cases e281
          replace hx281_0 := Hl.hc HB hx281_0
          replace hx281_1 := Hl.hc HB hx281_1
          replace hx281_2 := Hl.hc HB hx281_2
          replace hx281_3 := Hl.hc HB hx281_3
          replace p281 := eq_true p281
          replace q281 := eq_true q281
          have p282 : 0 ≤ (x13_2 : Int) := Hl.od
          have q282 : x13_2 < (l1.length : Int) := Hl.od
          obtain ⟨ad282, e282, hx282_0, hx282_1, hx282_2, hx282_3⟩ := at_T52 HR1.out x13_2 p282 q282
          cases e282
          replace hx282_0 := Hl.hc HB hx282_0
          replace hx282_1 := Hl.hc HB hx282_1
          replace hx282_2 := Hl.hc HB hx282_2
          replace hx282_3 := Hl.hc HB hx282_3
          replace p282 := eq_true p282
          replace q282 := eq_true q282
          go_wp2
          repeat (go_quiet (fail); try go_wp2)
          go_ret
          exact ⟨by first | rfl | (simp [errW_none, errW_some] <;> rfl) | (simp [*, errW_none, errW_some] <;> rfl), Hl.bb HB⟩
        ·
         rw [if_neg c16] at H
         exact absurd H (by simp)
       ·
        rw [if_neg c15] at H
        exact absurd H (by simp)
      ·
       rw [if_neg c14] at H
       have c14b0 : decide (x13_2 < (l2.length : Int)) = false := decide_eq_false c14
       clear c14
       replace H := Option.bind_eq_some_iff.mp H
       obtain ⟨t280, A220, H⟩ := H
       replace H : (some t280) = some r := H
       have A22 := Hl.am A220
       clear A220
       obtain rfl := Option.some.inj H
       obtain ⟨Ao23, co23, eo23⟩ := Kd.R_slice HO_10.out
       subst eo23
       obtain ⟨Ao24, co24, eo24⟩ := Kd.R_slice HO_12.out
       subst eo24
       go_wp2_with (first | (go_at_call 32; (with_reducible refine (spec_SameStock.calls k2 _ _ x10_1 _ _ x12_2 t280 _ ?side1 ?side2 ?side3 ?side4 A22.out).mono ?_); (case side1 => exact Hl.cc ((Kd.R_reads' HO_10.out).2.2)); (case side2 => exact (Kd.R_reads' HO_10.out).2.1); (case side3 => exact Hl.cc ((Kd.R_reads' HO_12.out).2.2)); (case side4 => exact (Kd.R_reads' HO_12.out).2.1); rintro e w' ⟨rfl, ⟨nd, rfl⟩⟩; (try first | exact ⟨rfl, _, World.drewN_drewN _ _ _⟩ | exact ⟨rfl, _, Eq.trans (World.drewN_drewN _ _ _) (congrArg (World.drewN _) (Nat.add_assoc _ _ _))⟩)))
       repeat (go_quiet (first | (go_at_call 32; (with_reducible refine (spec_SameStock.calls k2 _ _ x10_1 _ _ x12_2 t280 _ ?side1 ?side2 ?side3 ?side4 A22.out).mono ?_); (case side1 => exact Hl.cc ((Kd.R_reads' HO_10.out).2.2)); (case side2 => exact (Kd.R_reads' HO_10.out).2.1); (case side3 => exact Hl.cc ((Kd.R_reads' HO_12.out).2.2)); (case side4 => exact (Kd.R_reads' HO_12.out).2.1); rintro e w' ⟨rfl, ⟨nd, rfl⟩⟩; (try first | exact ⟨rfl, _, World.drewN_drewN _ _ _⟩ | exact ⟨rfl, _, Eq.trans (World.drewN_drewN _ _ _) (congrArg (World.drewN _) (Nat.add_assoc _ _ _))⟩))); try go_wp2_with (first | (go_at_call 32; (with_reducible refine (spec_SameStock.calls k2 _ _ x10_1 _ _ x12_2 t280 _ ?side1 ?side2 ?side3 ?side4 A22.out).mono ?_); (case side1 => exact Hl.cc ((Kd.R_reads' HO_10.out).2.2)); (case side2 => exact (Kd.R_reads' HO_10.out).2.1); (case side3 => exact Hl.cc ((Kd.R_reads' HO_12.out).2.2)); (case side4 => exact (Kd.R_reads' HO_12.out).2.1); rintro e w' ⟨rfl, ⟨nd, rfl⟩⟩; (try first | exact ⟨rfl, _, World.drewN_drewN _ _ _⟩ | exact ⟨rfl, _, Eq.trans (World.drewN_drewN _ _ _) (congrArg (World.drewN _) (Nat.add_assoc _ _ _))⟩))))
       go_ret
       exact ⟨by first | rfl | (simp [errW_none, errW_some] <;> rfl) | (simp [*, errW_none, errW_some] <;> rfl), Hl.bb HB⟩

end Go.Proofs.YtgaoppejnmcnaaaDoor.PFnStock
