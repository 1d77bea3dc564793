/- Written by a program of this session (ext.py): functions as plain Lean, and proofs that the code comes to them. No conditions but those that each theorem states. -/
import Derived.Test.YtkfpcbhapnhckaaGreatDoorPFnOnTimex0
import Derived.Test.YtkfpcbhapnhckaaGreatDoorPFnOnTimex2
import Derived.Test.YtkfpcbhapnhckaaGreatDoorPFnOnTimex3
import Derived.Test.YtkfpcbhapnhckaaGreatDoorPFnOnTimex4
import Derived.Test.YtkfpcbhapnhckaaGreatDoorPFnOnTimex5
import Derived.Test.YtkfpcbhapnhckaaGreatDoorPFnOnTimex6
namespace Go.Proofs.YtkfpcbhapnhckaaGreatDoor.PFnOnTime
open Go.RowKit Go.Proofs.YtkfpcbhapnhckaaGreatDoorW.PrintWords Go.Proofs.YtkfpcbhapnhckaaGreatDoorW.PrintLast Go.Proofs.YtkfpcbhapnhckaaGreatDoorW.PrintMore
attribute [local go_sem] max2_int min2_int max_two min_two max_three min_three max_four min_four Go.Proofs.YtkfpcbhapnhckaaGreatDoor.Hl.isSome_set   -- for this text's walks alone
set_option linter.unusedVariables false
set_option linter.unusedSimpArgs false

/-! ### spec_AddOrder: function 13 -/
def spec_AddOrder.f (k : Nat) (l0 : List (S33)) (a1_0 : ByteArray) (a1_1 : Int) (a1_2 : Int) (a1_3 : Int) : Option ((List (S33)) × Int) := (spec_l24Ok.f k l0).bind fun t331 => (if t331 = true then ((spec_l24One.f k a1_0 a1_1 a1_2 a1_3).bind fun t332 => (if t332 = true then (if (l0.length : Int) ≥ 40 then (some (([] : List (S33)), 5)) else ((some (([] : List (S33)) : List (S33))).bind fun y333 => (if y333.length + l0.length < 3518437208883 then ((some (y333 ++ l0 : List (S33))).bind fun y336 => ((some (([(⟨a1_0, a1_1, a1_2, a1_3⟩ : S33)] : List (S33)) : List (S33))).bind fun y339 => (if y336.length + y339.length < 3518437208883 then (some ((y336 ++ y339), 0)) else (none)))) else (none)))) else (some (([] : List (S33)), 2)))) else (some (([] : List (S33)), 1)))
theorem spec_AddOrder.mono : ∀ a0 a1 a2 a3 a4 k, LeO (spec_AddOrder.f k a0 a1 a2 a3 a4) (spec_AddOrder.f (k + 1) a0 a1 a2 a3 a4) := by
 intro a0 a1 a2 a3 a4 k
 unfold spec_AddOrder.f
 repeat' first
   | (with_reducible exact spec_l24Ok.mono _ _)
   | (with_reducible exact spec_l24One.mono _ _ _ _ _)
   | (with_reducible exact LeO.refl _)
   | (with_reducible exact LeO.none _)
   | (with_reducible refine LeO.ite ?_ ?_)
   | (with_reducible refine LeO.bind ?_ (fun _ => ?_))
   | exact spec_l24Ok.mono _ _
   | exact spec_l24One.mono _ _ _ _ _
   | exact LeO.none _
   | refine LeO.ite ?_ ?_
   | refine LeO.bind ?_ (fun _ => ?_)
def spec_AddOrder.T7 : Bool × List (List Nat × List Nat) := (true, [([], []), ([], []), ([0, 1], [0, 1]), ([], []), ([3], [3]), ([2, 4, 2], [2, 4]), ([5, 5, 0, 1, 2, 3, 4, 5], [5]), ([6, 0, 1, 2, 3, 4, 5, 6], [])])
def spec_AddOrder.B7 : List Nat := [0, 0, 3, 0, 8, 31, 63, 127]
theorem spec_AddOrder.tab7 : rtab .any (opsOf Tryz.f13 7) = spec_AddOrder.T7 := by kernel_rfl
theorem spec_AddOrder.bits7 : waitsOk spec_AddOrder.T7.2 spec_AddOrder.B7 = true := by kernel_rfl
set_option maxHeartbeats 8000000 in
set_option maxRecDepth 100000 in
theorem spec_AddOrder.calls (k : Nat) (A0 : Option Addr) (c0 : Nat) (l0 : List (S33)) (a1_0 : ByteArray) (a1_1 : Int) (a1_2 : Int) (a1_3 : Int) (r1 : List (S33)) (r2 : Int) (w : World) (hr0 : Kd.C k33 w A0 l0.length l0) (hc0 : l0.length ≤ c0) (h : spec_AddOrder.f k l0 a1_0 a1_1 a1_2 a1_3 = some (r1, r2)) :
  Calls Tryz.prog 13 #[.slice A0 l0.length c0, .agg #[.string a1_0, .int .i64 a1_1, .int .i64 a1_2, .int .i64 a1_3]] w fun e w' => ∃ v0_ : Value, e = .returned (.tuple #[v0_, .int .i64 r2]) ∧ Kd.R k33 33 w' w.heap.size (fun _ => True) v0_ r1 ∧ Below w.heap.size w w' := by
 have hu33 := Tryz.underlying33
 have HR0 := Hl.am hr0
 have HC0 := Hl.am hc0
 clear hr0 hc0
 have HB := Hl.am (Below.refl w.heap.size w)
 have H : ((spec_l24Ok.f k l0).bind fun t331 => (if t331 = true then ((spec_l24One.f k a1_0 a1_1 a1_2 a1_3).bind fun t332 => (if t332 = true then (if (l0.length : Int) ≥ 40 then (some (([] : List (S33)), 5)) else ((some (([] : List (S33)) : List (S33))).bind fun y333 => (if y333.length + l0.length < 3518437208883 then ((some (y333 ++ l0 : List (S33))).bind fun y336 => ((some (([(⟨a1_0, a1_1, a1_2, a1_3⟩ : S33)] : List (S33)) : List (S33))).bind fun y339 => (if y336.length + y339.length < 3518437208883 then (some ((y336 ++ y339), 0)) else (none)))) else (none)))) else (some (([] : List (S33)), 2)))) else (some (([] : List (S33)), 1)))) = some (r1, r2) := h
 clear h
 replace H := Option.bind_eq_some_iff.mp H
 obtain ⟨t331, A30, H⟩ := H
 (try dsimp only at H)
 have A3 := Hl.am A30
 clear A30
 by_cases c4 : t331 = true
 ·
  subst c4
  have H1 : ((spec_l24One.f k a1_0 a1_1 a1_2 a1_3).bind fun t332 => (if t332 = true then (if (l0.length : Int) ≥ 40 then (some (([] : List (S33)), 5)) else ((some (([] : List (S33)) : List (S33))).bind fun y333 => (if y333.length + l0.length < 3518437208883 then ((some (y333 ++ l0 : List (S33))).bind fun y336 => ((some (([(⟨a1_0, a1_1, a1_2, a1_3⟩ : S33)] : List (S33)) : List (S33))).bind fun y339 => (if y336.length + y339.length < 3518437208883 then (some ((y336 ++ y339), 0)) else (none)))) else (none)))) else (some (([] : List (S33)), 2)))) = some (r1, r2) := by rw [if_pos rfl] at H; exact H
  clear H
  have H := H1
  clear H1
  replace H := Option.bind_eq_some_iff.mp H
  obtain ⟨t332, A50, H⟩ := H
  (try dsimp only at H)
  have A5 := Hl.am A50
  clear A50
  by_cases c6 : t332 = true
  ·
   subst c6
   have H1 : (if (l0.length : Int) ≥ 40 then (some (([] : List (S33)), 5)) else ((some (([] : List (S33)) : List (S33))).bind fun y333 => (if y333.length + l0.length < 3518437208883 then ((some (y333 ++ l0 : List (S33))).bind fun y336 => ((some (([(⟨a1_0, a1_1, a1_2, a1_3⟩ : S33)] : List (S33)) : List (S33))).bind fun y339 => (if y336.length + y339.length < 3518437208883 then (some ((y336 ++ y339), 0)) else (none)))) else (none)))) = some (r1, r2) := by rw [if_pos rfl] at H; exact H
   clear H
   have H := H1
   clear H1
   by_cases c7 : (l0.length : Int) ≥ 40
   ·
    rw [if_pos c7] at H
    have c7b0 : decide (40 ≤ (l0.length : Int)) = true := decide_eq_true c7
    have c7b1 : decide (40 ≤ l0.length) = true := decide_eq_true (by omega)
    clear c7
    simp only [Option.some.injEq, Prod.mk.injEq] at H
    obtain ⟨rfl, rfl⟩ := H
    go_enter Tryz.func13, Tryz.ntmps13
    go_wp2_with (first | ((with_reducible refine gate_dst (N := 3) rfl ?_); refine box_event ?hg (N := 3) ?hd (cs := #[.string a1_0, .int .i64 a1_1, .int .i64 a1_2, .int .i64 a1_3]) (t := 33) ?hr ?_; (case hd => rfl); (case hg => rfl); (case hr => first | (go_simp; done) | (go_simp; rfl)); intro gb330 hg w8 hbox hb; have BK330 := Hl.am (hbox); have GW330 := Hl.am ((by rw [hg]; exact (below_size (Hl.bb HB)) : w.heap.size ≤ gb330)); have GE330 := Hl.am ((by rw [hg]; exact (below_size (Hl.bb HB)) : w.heap.size ≤ gb330)); replace HB := Hl.am (below_step (Hl.bb HB) hb); clear hb hbox hg) | ((with_reducible refine gate_callee (f := 48) rfl ?_); refine Hl.gl (some 7) rfl rfl Tryz.func48 (by kernel_rfl) rfl #[.slice A0 l0.length c0] rfl ?_; (with_reducible refine (spec_l24Ok.calls k _ _ l0 true _ ?side1 ?side2 A3.out).mono ?_); (case side1 => exact Hl.cc (Kd.C_below HR0.out HB.out)); (case side2 => exact HC0.out); rintro e w' ⟨rfl, ⟨nd, rfl⟩⟩; refine ⟨_, rfl, ?_⟩; have hcz9_0 : w8.cell? ⟨gb330, 0, none⟩ = some (.string a1_0) := (blk_cell BK330.out 0).trans rfl; have hcz9_1 : w8.cell? ⟨gb330, 1, none⟩ = some (.int .i64 a1_1) := (blk_cell BK330.out 1).trans rfl; have hcz9_2 : w8.cell? ⟨gb330, 2, none⟩ = some (.int .i64 a1_2) := (blk_cell BK330.out 2).trans rfl; have hcz9_3 : w8.cell? ⟨gb330, 3, none⟩ = some (.int .i64 a1_3) := (blk_cell BK330.out 3).trans rfl; have hfz9_0 := blk_frozen BK330.out 0; have hfz9_1 := blk_frozen BK330.out 1; have hfz9_2 := blk_frozen BK330.out 2; have hfz9_3 := blk_frozen BK330.out 3) | (go_at_call 57; (with_reducible refine (spec_l24One.calls k _ a1_0 a1_1 a1_2 a1_3 true _ ?side1 ?side2 ?side3 ?side4 A5.out).mono ?_); (case side1 => first | (with_reducible assumption) | assumption | (go_simp; done)); (case side2 => first | (with_reducible assumption) | assumption | (go_simp; done)); (case side3 => first | (with_reducible assumption) | assumption | (go_simp; done)); (case side4 => first | (with_reducible assumption) | assumption | (go_simp; done)); rintro e w' ⟨rfl, ⟨nd, rfl⟩⟩))
    go_ret2
    exact ⟨_, by first | rfl | (simp [errW_none, errW_some] <;> rfl) | (simp [*, errW_none, errW_some] <;> rfl), by first | exact Kd.R_nil _ _ _ _ _ | exact Kd.N_nil _ _ _ _ _ | exact Kd.V_nil _ _ _ _ _ | exact Kd.Q_nil _ _ _ _ _ | exact Kd.S_nil _ _ _ _ _, Hl.bb HB⟩
   ·
    rw [if_neg c7] at H
    have c7b0 : decide (40 ≤ (l0.length : Int)) = false := decide_eq_false c7
    have c7b1 : decide (40 ≤ l0.length) = false := decide_eq_false (by omega)
    clear c7
    obtain ⟨y333, hy333⟩ : ∃ y_ : List (S33), y_ = (([] : List (S33))) := ⟨_, rfl⟩
    replace H : (if y333.length + l0.length < 3518437208883 then ((some (y333 ++ l0 : List (S33))).bind fun y336 => ((some (([(⟨a1_0, a1_1, a1_2, a1_3⟩ : S33)] : List (S33)) : List (S33))).bind fun y339 => (if y336.length + y339.length < 3518437208883 then (some ((y336 ++ y339), 0)) else (none)))) else (none)) = some (r1, r2) := by first | (rw [hy333]; with_reducible exact H) | (have H2_ := (Option.bind_some _ _).symm.trans H; rw [hy333]; with_reducible exact H2_) | (have H2_ := (Option.bind_some _ _).symm.trans H; with_reducible exact H2_) | with_reducible exact H | (rw [hy333]; exact H) | exact H
    have Ny333 := Hl.am hy333
    clear hy333
    by_cases c10 : y333.length + l0.length < 3518437208883
    ·
     rw [if_pos c10] at H
     have LMc10 := Hl.am c10
     clear c10
     obtain ⟨y336, hy336⟩ : ∃ y_ : List (S33), y_ = (y333 ++ l0) := ⟨_, rfl⟩
     replace H : ((some (([(⟨a1_0, a1_1, a1_2, a1_3⟩ : S33)] : List (S33)) : List (S33))).bind fun y339 => (if y336.length + y339.length < 3518437208883 then (some ((y336 ++ y339), 0)) else (none))) = some (r1, r2) := by first | (rw [hy336]; with_reducible exact H) | (have H2_ := (Option.bind_some _ _).symm.trans H; rw [hy336]; with_reducible exact H2_) | (have H2_ := (Option.bind_some _ _).symm.trans H; with_reducible exact H2_) | with_reducible exact H | (rw [hy336]; exact H) | exact H
     have Ny336 := Hl.am hy336
     clear hy336
     obtain ⟨y339, hy339⟩ : ∃ y_ : List (S33), y_ = (([(⟨a1_0, a1_1, a1_2, a1_3⟩ : S33)] : List (S33))) := ⟨_, rfl⟩
     replace H : (if y336.length + y339.length < 3518437208883 then (some ((y336 ++ y339), 0)) else (none)) = some (r1, r2) := by first | (rw [hy339]; with_reducible exact H) | (have H2_ := (Option.bind_some _ _).symm.trans H; rw [hy339]; with_reducible exact H2_) | (have H2_ := (Option.bind_some _ _).symm.trans H; with_reducible exact H2_) | with_reducible exact H | (rw [hy339]; exact H) | exact H
     have Ny339 := Hl.am hy339
     clear hy339
     by_cases c11 : y336.length + y339.length < 3518437208883
     ·
      rw [if_pos c11] at H
      have LMc11 := Hl.am c11
      clear c11
      obtain ⟨y342, hy342⟩ : ∃ y_ : List (S33), y_ = (y336 ++ y339) := ⟨_, rfl⟩
      replace H : (some (y342, 0)) = some (r1, r2) := by first | (rw [hy342]; with_reducible exact H) | (have H2_ := (Option.bind_some _ _).symm.trans H; rw [hy342]; with_reducible exact H2_) | (have H2_ := (Option.bind_some _ _).symm.trans H; with_reducible exact H2_) | with_reducible exact H | (rw [hy342]; exact H) | exact H
      have Ny342 := Hl.am hy342
      clear hy342
      simp only [Option.some.injEq, Prod.mk.injEq] at H
      obtain ⟨rfl, rfl⟩ := H
      go_enter Tryz.func13, Tryz.ntmps13
      try go_wp2_with (first | ((with_reducible refine gate_dst (N := 3) rfl ?_); refine box_event ?hg (N := 3) ?hd (cs := #[.string a1_0, .int .i64 a1_1, .int .i64 a1_2, .int .i64 a1_3]) (t := 33) ?hr ?_; (case hd => rfl); (case hg => rfl); (case hr => first | (go_simp; done) | (go_simp; rfl)); intro gb330 hg w12 hbox hb; have BK330 := Hl.am (hbox); have GW330 := Hl.am ((by rw [hg]; exact (below_size (Hl.bb HB)) : w.heap.size ≤ gb330)); have GE330 := Hl.am ((by rw [hg]; exact (below_size (Hl.bb HB)) : w.heap.size ≤ gb330)); replace HB := Hl.am (below_step (Hl.bb HB) hb); clear hb hbox hg) | ((with_reducible refine gate_callee (f := 48) rfl ?_); refine Hl.gl (some 7) rfl rfl Tryz.func48 (by kernel_rfl) rfl #[.slice A0 l0.length c0] rfl ?_; (with_reducible refine (spec_l24Ok.calls k _ _ l0 true _ ?side1 ?side2 A3.out).mono ?_); (case side1 => exact Hl.cc (Kd.C_below HR0.out HB.out)); (case side2 => exact HC0.out); rintro e w' ⟨rfl, ⟨nd, rfl⟩⟩; refine ⟨_, rfl, ?_⟩; have hcz13_0 : w12.cell? ⟨gb330, 0, none⟩ = some (.string a1_0) := (blk_cell BK330.out 0).trans rfl; have hcz13_1 : w12.cell? ⟨gb330, 1, none⟩ = some (.int .i64 a1_1) := (blk_cell BK330.out 1).trans rfl; have hcz13_2 : w12.cell? ⟨gb330, 2, none⟩ = some (.int .i64 a1_2) := (blk_cell BK330.out 2).trans rfl; have hcz13_3 : w12.cell? ⟨gb330, 3, none⟩ = some (.int .i64 a1_3) := (blk_cell BK330.out 3).trans rfl; have hfz13_0 := blk_frozen BK330.out 0; have hfz13_1 := blk_frozen BK330.out 1; have hfz13_2 := blk_frozen BK330.out 2; have hfz13_3 := blk_frozen BK330.out 3) | (go_at_call 57; (with_reducible refine (spec_l24One.calls k _ a1_0 a1_1 a1_2 a1_3 true _ ?side1 ?side2 ?side3 ?side4 A5.out).mono ?_); (case side1 => first | (with_reducible assumption) | assumption | (go_simp; done)); (case side2 => first | (with_reducible assumption) | assumption | (go_simp; done)); (case side3 => first | (with_reducible assumption) | assumption | (go_simp; done)); (case side4 => first | (with_reducible assumption) | assumption | (go_simp; done)); rintro e w' ⟨rfl, ⟨nd, rfl⟩⟩))
      (try (rw [drewN_self w12]; generalize hq_ : World.drewN w12 _ = w12; have n0_ : Aside0 (w12.heap[gb330]? = some (.cells #[.string a1_0, .int .i64 a1_1, .int .i64 a1_2, .int .i64 a1_3] 33 (0, 0))) := ⟨by rw [← hq_]; exact (Hl.kb BK330)⟩; have n1_ : Aside0 (Below w.heap.size w w12) := ⟨by rw [← hq_]; exact (Hl.bb HB)⟩; clear BK330 HB hq_; have BK330 := n0_; have HB := n1_; clear n0_ n1_))
      have n0_ := Hl.am (blk_drew BK330.out)
      have n1_ := Hl.am (below_drew1 HB.out)
      clear BK330 HB
      have BK330 := n0_
      have HB := n1_
      clear n0_ n1_
      refine start_ (n := 8) (S := fun w' => w'.cell? ⟨gb330, 0, none⟩ = some (.string a1_0) ∧ w'.cell? ⟨gb330, 1, none⟩ = some (.int .i64 a1_1) ∧ w'.cell? ⟨gb330, 2, none⟩ = some (.int .i64 a1_2) ∧ w'.cell? ⟨gb330, 3, none⟩ = some (.int .i64 a1_3)) (ds := []) #[false, false, false, false, false, false, false, false] (by kernel_rfl) rfl rfl ⟨(blk_cell BK330.out 0).trans rfl, (blk_cell BK330.out 1).trans rfl, (blk_cell BK330.out 2).trans rfl, (blk_cell BK330.out 3).trans rfl⟩ (fun hHeld => ?_); refine with_tabW spec_AddOrder.tab7 spec_AddOrder.bits7 (fun HT_ HW_ => ?_)
      generalize w12.drew = w14 at BK330 HB hHeld ⊢
      refine pure_ (i := 1) (N := some 15) (v := ?_) (a' := ?_) #[false, true, false, false, false, false, false, false] rfl rfl (any_of HT_.out (by kernel_rfl)) (fun _ _ _ h => h) (Or.inl ⟨by rfl, ?_⟩) ?_ ?_
      rotate_left
      ·
       intro w'
       go_simp
       with_reducible rfl
      rotate_left
      ·
       simp only [Act.put, Hl.s1, Hl.s2, Hl.s3, i64_w, i32_w]
       rfl
      refine take_ (i := 3) (N := some 17) (v := ?_) (a' := ?_) #[false, true, false, true, false, false, false, false] rfl rfl (take_ofW HT_.out HW_.out (by kernel_rfl)) (fun _ _ _ h => h) (Or.inl ⟨by rfl, ?_⟩) hHeld ?_ ?_
      rotate_left
      ·
       rintro w' ⟨s0, s1, s2, s3⟩
       go_simp
       with_reducible rfl
      rotate_left
      ·
       simp only [Act.put, Hl.s1, Hl.s2, Hl.s3, i64_w, i32_w]
       rfl
      refine join_ (σ := Value × Value × Value) 3 #[true, true, true, true, true, false, false, false] (fun s_ => [(14, s_.1), (16, s_.2.1), (18, s_.2.2)]) (fun s_ w' => (w'.cell? ⟨gb330, 0, none⟩ = some (.string a1_0) ∧ w'.cell? ⟨gb330, 1, none⟩ = some (.int .i64 a1_1) ∧ w'.cell? ⟨gb330, 2, none⟩ = some (.int .i64 a1_2) ∧ w'.cell? ⟨gb330, 3, none⟩ = some (.int .i64 a1_3)) ∧ (Kd.R k33 33 w' w.heap.size (fun k_ => some k_ ≠ (s_.2.2 : Value).ownBlock ∧ k_ ≠ gb330) s_.2.1 y336) ∧ (Kd.R k33 33 w' w.heap.size (fun k_ => some k_ ≠ (s_.2.1 : Value).ownBlock ∧ k_ ≠ gb330) s_.2.2 y339) ∧ (w'.heap[gb330]? = some (.cells #[.string a1_0, .int .i64 a1_1, .int .i64 a1_2, .int .i64 a1_3] 33 (0, 0))) ∧ (Below w.heap.size w w')) ?_ ?_
      rotate_left
      ·
       intro hCont
       refine two_ (i := 0) (j := 4) (Ni := some 14) (Nj := some 18) #[true, true, false, true, false, false, false, false] #[false, true, false, true, true, false, false, false] rfl rfl rfl rfl (two_of HT_.out (by kernel_rfl)) (by decide) (by decide) (fun K hK => ?_) (fun K hK => ?_)
       ·
        skip
        refine Kd.R_lit_step k33 _ 33 ?hg (N := 14) ?hd (xs := ([] : List (S33))) (inner := []) (ok := fun _ => True) (okp := fun _ => True) ?hr ?hp (fun _ hk => hk) trivial (Below.refl _ _) (Nat.le_refl _) (by simp) ?_; (case hd => rfl); (case hg => rfl); (case hr => first | (go_simp; done) | (go_simp; rfl)); (case hp => exact (Reps.none _ _))
        intro v334 w15 ho16 hb hg_ hnew_
        clear hg_ hnew_
        (first | rw [← Ny333.out] at ho16 | (simp only [Int.reduceToNat] at ho16; rw [← Ny333.out] at ho16))
        have n0_ := Hl.am (Kd.R_lower (Kd.R_newB ho16 (g := gb330) (o := .cells #[.string a1_0, .int .i64 a1_1, .int .i64 a1_2, .int .i64 a1_3] 33 (0, 0)) (Hl.kb BK330)) (below_size (Hl.bb HB)))
        have n1_ := Hl.am (blk_below (g := gb330) (o := .cells #[.string a1_0, .int .i64 a1_1, .int .i64 a1_2, .int .i64 a1_3] 33 (0, 0)) (Hl.kb BK330) hb)
        have n2_ := Hl.am (below_step (Hl.bb HB) hb)
        clear BK330 HB
        have HO335 := n0_
        have BK330 := n1_
        have HB := n2_
        clear n0_ n1_ n2_
        clear hb ho16
        refine hK.out _ _ ⟨(blk_cell BK330.out 0).trans rfl, (blk_cell BK330.out 1).trans rfl, (blk_cell BK330.out 2).trans rfl, (blk_cell BK330.out 3).trans rfl⟩ (fun hHeld => ?_)
        clear hK K
        refine norm_ (a' := ?_) ?_ ?_
        rotate_left
        ·
         show Act.put _ (some 14) _ = _
         simp only [Act.put, Hl.s1, Hl.s2, Hl.s3, i64_w, i32_w]
         rfl
        refine two_ (i := 2) (j := 4) (Ni := some 16) (Nj := some 18) #[true, true, true, true, false, false, false, false] #[true, true, false, true, true, false, false, false] rfl rfl rfl rfl (two_of HT_.out (by kernel_rfl)) (by decide) (by decide) (fun K hK => ?_) (fun K hK => ?_)
        ·
         skip
         refine Kd.R_append_rows_step k33 (w0 := w) w.heap.size (by rfl) (.tmp 14) (.tmp 15) 24 33 (.agg #[(.string ⟨#[]⟩), (.int .i64 0), (.int .i64 0), (.int .i64 0)]) 40 rfl Tryz.underlying24 info33 rfl (by decide) (by omega) v334 y333 l0 _ _ _ (fun k_ => k_ ≠ gb330) (fun _ => False) rfl rfl ?aO ?aR (fun _ _ h => h) (fun _ h => h.elim) ?aF ?aB ?aS ?aL ?_
         (case aR => exact Hl.cc (Kd.C_below HR0.out HB.out))
         (case aB => exact (Hl.bb HB))
         (case aF => exact (fun k_ hk => Kd.freshB (g := gb330) (o := .cells #[.string a1_0, .int .i64 a1_1, .int .i64 a1_2, .int .i64 a1_3] 33 (0, 0)) (Hl.kb BK330) k_ hk))
         (case aO => exact (by (with_reducible repeat (first | apply Kd.R_alloc | apply Kd.R_drewN | apply Kd.R_drew)); exact Kd.R_mono HO335.out (fun _ hk => hk.2)))
         (case aS => exact (below_size (Hl.bb HB)))
         (case aL => have := LMc10.out; omega)
         intro v337 w17 ho hb hg hat
         rw [← Ny336.out] at ho
         have n0_ := Hl.am (blk_grown (g := gb330) (o := .cells #[.string a1_0, .int .i64 a1_1, .int .i64 a1_2, .int .i64 a1_3] 33 (0, 0)) (Hl.kb BK330) hg (Kd.R_away HO335.out (fun _ hk => hk.2)))
         have n1_ := Hl.am (hb)
         have n2_ := Hl.am (ho)
         clear BK330 HB HO335
         have BK330 := n0_
         have HB := n1_
         have HO338 := n2_
         clear n0_ n1_ n2_
         clear ho hb hg hat
         refine hK.out _ _ ⟨(blk_cell BK330.out 0).trans rfl, (blk_cell BK330.out 1).trans rfl, (blk_cell BK330.out 2).trans rfl, (blk_cell BK330.out 3).trans rfl⟩ (fun hHeld => ?_)
         clear hK K
         refine norm_ (a' := ?_) ?_ ?_
         rotate_left
         ·
          show Act.put _ (some 16) _ = _
          simp only [Act.put, Hl.s1, Hl.s2, Hl.s3, i64_w, i32_w]
          rfl
         refine one_ (i := 4) (N := some 18) #[true, true, true, true, true, false, false, false] rfl rfl (one_of HT_.out (by kernel_rfl)) (by decide) (fun K hK => ?_)
         refine Kd.R_lit_step k33 _ 33 ?hg (N := 18) ?hd (xs := ([(⟨a1_0, a1_1, a1_2, a1_3⟩ : S33)] : List (S33))) (inner := [.string a1_0, .int .i64 a1_1, .int .i64 a1_2, .int .i64 a1_3]) (ok := fun _ => True) (okp := fun _ => True) ?hr ?hp (fun _ hk => hk) trivial (Below.refl _ _) (Nat.le_refl _) (by simp) ?_; (case hd => rfl); (case hg => rfl); (case hr => first | (go_simp; done) | (go_simp; rfl)); (case hp => exact (Reps.c4 (show Kd.M k33 _ _ _ (⟨a1_0, a1_1, a1_2, a1_3⟩ : S33) [.string a1_0, .int .i64 a1_1, .int .i64 a1_2, .int .i64 a1_3] from (k33_mkM _ _ _ (⟨a1_0, a1_1, a1_2, a1_3⟩ : S33) )) (Reps.none _ _)))
         intro v340 w18 ho19 hb hg_ hnew_
         clear hg_ hnew_
         (first | rw [← Ny339.out] at ho19 | (simp only [Int.reduceToNat] at ho19; rw [← Ny339.out] at ho19))
         have n0_ := Hl.am (Kd.R_elder' (Hl.rr HO338) (Kd.R_base ho19) hb)
         have n1_ := Hl.am (Kd.R_lower (Kd.R_newB (Kd.R_new' ho19 (Kd.R_lt (Hl.rr HO338))) (g := gb330) (o := .cells #[.string a1_0, .int .i64 a1_1, .int .i64 a1_2, .int .i64 a1_3] 33 (0, 0)) (Hl.kb BK330)) (below_size (Hl.bb HB)))
         have n2_ := Hl.am (blk_below (g := gb330) (o := .cells #[.string a1_0, .int .i64 a1_1, .int .i64 a1_2, .int .i64 a1_3] 33 (0, 0)) (Hl.kb BK330) hb)
         have n3_ := Hl.am (below_step (Hl.bb HB) hb)
         clear HO338 BK330 HB
         have HO338 := n0_
         have HO341 := n1_
         have BK330 := n2_
         have HB := n3_
         clear n0_ n1_ n2_ n3_
         clear hb ho19
         refine hK.out _ _ ⟨(blk_cell BK330.out 0).trans rfl, (blk_cell BK330.out 1).trans rfl, (blk_cell BK330.out 2).trans rfl, (blk_cell BK330.out 3).trans rfl⟩ (fun hHeld => ?_)
         clear hK K
         refine norm_ (a' := ?_) ?_ ?_
         rotate_left
         ·
          show Act.put _ (some 18) _ = _
          simp only [Act.put, Hl.s1, Hl.s2, Hl.s3, i64_w, i32_w]
          rfl
         exact norm_ (by simp only [putAll, Act.put, List.setIfInBounds_toArray, List.set_cons_zero, List.set_cons_succ]) (hCont (v334, v337, v340) _ ⟨hHeld, (by (with_reducible repeat (first | apply Kd.R_alloc | apply Kd.R_drewN | apply Kd.R_drew)); exact Kd.R_mono HO338.out (fun _ hk => ⟨hk.2, hk.1⟩)), (by (with_reducible repeat (first | apply Kd.R_alloc | apply Kd.R_drewN | apply Kd.R_drew)); exact Kd.R_mono HO341.out (fun _ hk => ⟨hk.1.2, hk.2⟩)), (Hl.kb BK330), (Hl.bb HB)⟩)
        ·
         skip
         refine Kd.R_lit_step k33 _ 33 ?hg (N := 18) ?hd (xs := ([(⟨a1_0, a1_1, a1_2, a1_3⟩ : S33)] : List (S33))) (inner := [.string a1_0, .int .i64 a1_1, .int .i64 a1_2, .int .i64 a1_3]) (ok := fun _ => True) (okp := fun _ => True) ?hr ?hp (fun _ hk => hk) trivial (Below.refl _ _) (Nat.le_refl _) (by simp) ?_; (case hd => rfl); (case hg => rfl); (case hr => first | (go_simp; done) | (go_simp; rfl)); (case hp => exact (Reps.c4 (show Kd.M k33 _ _ _ (⟨a1_0, a1_1, a1_2, a1_3⟩ : S33) [.string a1_0, .int .i64 a1_1, .int .i64 a1_2, .int .i64 a1_3] from (k33_mkM _ _ _ (⟨a1_0, a1_1, a1_2, a1_3⟩ : S33) )) (Reps.none _ _)))
         intro v340 w17 ho18 hb hg_ hnew_
         clear hg_ hnew_
         (first | rw [← Ny339.out] at ho18 | (simp only [Int.reduceToNat] at ho18; rw [← Ny339.out] at ho18))
         have n0_ := Hl.am (Kd.R_elder' (Hl.rr HO335) (Kd.R_base ho18) hb)
         have n1_ := Hl.am (Kd.R_lower (Kd.R_newB (Kd.R_new' ho18 (Kd.R_lt (Hl.rr HO335))) (g := gb330) (o := .cells #[.string a1_0, .int .i64 a1_1, .int .i64 a1_2, .int .i64 a1_3] 33 (0, 0)) (Hl.kb BK330)) (below_size (Hl.bb HB)))
         have n2_ := Hl.am (blk_below (g := gb330) (o := .cells #[.string a1_0, .int .i64 a1_1, .int .i64 a1_2, .int .i64 a1_3] 33 (0, 0)) (Hl.kb BK330) hb)
         have n3_ := Hl.am (below_step (Hl.bb HB) hb)
         clear HO335 BK330 HB
         have HO335 := n0_
         have HO341 := n1_
         have BK330 := n2_
         have HB := n3_
         clear n0_ n1_ n2_ n3_
         clear hb ho18
         refine hK.out _ _ ⟨(blk_cell BK330.out 0).trans rfl, (blk_cell BK330.out 1).trans rfl, (blk_cell BK330.out 2).trans rfl, (blk_cell BK330.out 3).trans rfl⟩ (fun hHeld => ?_)
         clear hK K
         refine norm_ (a' := ?_) ?_ ?_
         rotate_left
         ·
          show Act.put _ (some 18) _ = _
          simp only [Act.put, Hl.s1, Hl.s2, Hl.s3, i64_w, i32_w]
          rfl
         refine one_ (i := 2) (N := some 16) #[true, true, true, true, true, false, false, false] rfl rfl (one_of HT_.out (by kernel_rfl)) (by decide) (fun K hK => ?_)
         refine Kd.R_append_rows_step k33 (w0 := w) w.heap.size (by rfl) (.tmp 14) (.tmp 15) 24 33 (.agg #[(.string ⟨#[]⟩), (.int .i64 0), (.int .i64 0), (.int .i64 0)]) 40 rfl Tryz.underlying24 info33 rfl (by decide) (by omega) v334 y333 l0 _ _ _ (fun k_ => some k_ ≠ (v340 : Value).ownBlock ∧ k_ ≠ gb330) (fun _ => False) rfl rfl ?aO ?aR (fun _ _ h => h) (fun _ h => h.elim) ?aF ?aB ?aS ?aL ?_
         (case aR => exact Hl.cc (Kd.C_below HR0.out HB.out))
         (case aB => exact (Hl.bb HB))
         (case aF => exact (fun k_ hk => ⟨Kd.fresh' (Kd.R_lt (Hl.rr HO341)) k_ hk, Kd.freshB (g := gb330) (o := .cells #[.string a1_0, .int .i64 a1_1, .int .i64 a1_2, .int .i64 a1_3] 33 (0, 0)) (Hl.kb BK330) k_ hk⟩))
         (case aO => exact (by (with_reducible repeat (first | apply Kd.R_alloc | apply Kd.R_drewN | apply Kd.R_drew)); exact Kd.R_mono HO335.out (fun _ hk => ⟨hk.2, hk.1.2⟩)))
         (case aS => exact (below_size (Hl.bb HB)))
         (case aL => have := LMc10.out; omega)
         intro v337 w19 ho hb hg hat
         rw [← Ny336.out] at ho
         have n0_ := Hl.am (blk_grown (g := gb330) (o := .cells #[.string a1_0, .int .i64 a1_1, .int .i64 a1_2, .int .i64 a1_3] 33 (0, 0)) (Hl.kb BK330) hg (Kd.R_away HO335.out (fun _ hk => hk.1.2)))
         have n1_ := Hl.am (Kd.R_after (ok := (fun k_ => k_ ≠ gb330)) (by (with_reducible repeat (first | apply Kd.R_alloc | apply Kd.R_drewN | apply Kd.R_drew)); exact Kd.R_mono HO341.out (fun _ hk => ⟨hk.2, hk.1.2⟩)) hg hat)
         have n2_ := Hl.am (hb)
         have n3_ := Hl.am (ho)
         clear BK330 HO341 HB HO335
         have BK330 := n0_
         have HO341 := n1_
         have HB := n2_
         have HO338 := n3_
         clear n0_ n1_ n2_ n3_
         clear ho hb hg hat
         refine hK.out _ _ ⟨(blk_cell BK330.out 0).trans rfl, (blk_cell BK330.out 1).trans rfl, (blk_cell BK330.out 2).trans rfl, (blk_cell BK330.out 3).trans rfl⟩ (fun hHeld => ?_)
         clear hK K
         refine norm_ (a' := ?_) ?_ ?_
         rotate_left
         ·
          show Act.put _ (some 16) _ = _
          simp only [Act.put, Hl.s1, Hl.s2, Hl.s3, i64_w, i32_w]
          rfl
         exact norm_ (by simp only [putAll, Act.put, List.setIfInBounds_toArray, List.set_cons_zero, List.set_cons_succ]) (hCont (v334, v337, v340) _ ⟨hHeld, (Hl.rr HO338), (by (with_reducible repeat (first | apply Kd.R_alloc | apply Kd.R_drewN | apply Kd.R_drew)); exact Kd.R_mono HO341.out (fun _ hk => ⟨hk.2, hk.1⟩)), (Hl.kb BK330), (Hl.bb HB)⟩)
       ·
        skip
        refine Kd.R_lit_step k33 _ 33 ?hg (N := 18) ?hd (xs := ([(⟨a1_0, a1_1, a1_2, a1_3⟩ : S33)] : List (S33))) (inner := [.string a1_0, .int .i64 a1_1, .int .i64 a1_2, .int .i64 a1_3]) (ok := fun _ => True) (okp := fun _ => True) ?hr ?hp (fun _ hk => hk) trivial (Below.refl _ _) (Nat.le_refl _) (by simp) ?_; (case hd => rfl); (case hg => rfl); (case hr => first | (go_simp; done) | (go_simp; rfl)); (case hp => exact (Reps.c4 (show Kd.M k33 _ _ _ (⟨a1_0, a1_1, a1_2, a1_3⟩ : S33) [.string a1_0, .int .i64 a1_1, .int .i64 a1_2, .int .i64 a1_3] from (k33_mkM _ _ _ (⟨a1_0, a1_1, a1_2, a1_3⟩ : S33) )) (Reps.none _ _)))
        intro v340 w15 ho16 hb hg_ hnew_
        clear hg_ hnew_
        (first | rw [← Ny339.out] at ho16 | (simp only [Int.reduceToNat] at ho16; rw [← Ny339.out] at ho16))
        have n0_ := Hl.am (Kd.R_lower (Kd.R_newB ho16 (g := gb330) (o := .cells #[.string a1_0, .int .i64 a1_1, .int .i64 a1_2, .int .i64 a1_3] 33 (0, 0)) (Hl.kb BK330)) (below_size (Hl.bb HB)))
        have n1_ := Hl.am (blk_below (g := gb330) (o := .cells #[.string a1_0, .int .i64 a1_1, .int .i64 a1_2, .int .i64 a1_3] 33 (0, 0)) (Hl.kb BK330) hb)
        have n2_ := Hl.am (below_step (Hl.bb HB) hb)
        clear BK330 HB
        have HO341 := n0_
        have BK330 := n1_
        have HB := n2_
        clear n0_ n1_ n2_
        clear hb ho16
        refine hK.out _ _ ⟨(blk_cell BK330.out 0).trans rfl, (blk_cell BK330.out 1).trans rfl, (blk_cell BK330.out 2).trans rfl, (blk_cell BK330.out 3).trans rfl⟩ (fun hHeld => ?_)
        clear hK K
        refine norm_ (a' := ?_) ?_ ?_
        rotate_left
        ·
         show Act.put _ (some 18) _ = _
         simp only [Act.put, Hl.s1, Hl.s2, Hl.s3, i64_w, i32_w]
         rfl
        refine one_ (i := 0) (N := some 14) #[true, true, false, true, true, false, false, false] rfl rfl (one_of HT_.out (by kernel_rfl)) (by decide) (fun K hK => ?_)
        refine Kd.R_lit_step k33 _ 33 ?hg (N := 14) ?hd (xs := ([] : List (S33))) (inner := []) (ok := fun _ => True) (okp := fun _ => True) ?hr ?hp (fun _ hk => hk) trivial (Below.refl _ _) (Nat.le_refl _) (by simp) ?_; (case hd => rfl); (case hg => rfl); (case hr => first | (go_simp; done) | (go_simp; rfl)); (case hp => exact (Reps.none _ _))
        intro v334 w17 ho18 hb hg_ hnew_
        clear hg_ hnew_
        (first | rw [← Ny333.out] at ho18 | (simp only [Int.reduceToNat] at ho18; rw [← Ny333.out] at ho18))
        have n0_ := Hl.am (Kd.R_elder' (Hl.rr HO341) (Kd.R_base ho18) hb)
        have n1_ := Hl.am (Kd.R_lower (Kd.R_newB (Kd.R_new' ho18 (Kd.R_lt (Hl.rr HO341))) (g := gb330) (o := .cells #[.string a1_0, .int .i64 a1_1, .int .i64 a1_2, .int .i64 a1_3] 33 (0, 0)) (Hl.kb BK330)) (below_size (Hl.bb HB)))
        have n2_ := Hl.am (blk_below (g := gb330) (o := .cells #[.string a1_0, .int .i64 a1_1, .int .i64 a1_2, .int .i64 a1_3] 33 (0, 0)) (Hl.kb BK330) hb)
        have n3_ := Hl.am (below_step (Hl.bb HB) hb)
        clear HO341 BK330 HB
        have HO341 := n0_
        have HO335 := n1_
        have BK330 := n2_
        have HB := n3_
        clear n0_ n1_ n2_ n3_
        clear hb ho18
        refine hK.out _ _ ⟨(blk_cell BK330.out 0).trans rfl, (blk_cell BK330.out 1).trans rfl, (blk_cell BK330.out 2).trans rfl, (blk_cell BK330.out 3).trans rfl⟩ (fun hHeld => ?_)
        clear hK K
        refine norm_ (a' := ?_) ?_ ?_
        rotate_left
        ·
         show Act.put _ (some 14) _ = _
         simp only [Act.put, Hl.s1, Hl.s2, Hl.s3, i64_w, i32_w]
         rfl
        refine one_ (i := 2) (N := some 16) #[true, true, true, true, true, false, false, false] rfl rfl (one_of HT_.out (by kernel_rfl)) (by decide) (fun K hK => ?_)
        refine Kd.R_append_rows_step k33 (w0 := w) w.heap.size (by rfl) (.tmp 14) (.tmp 15) 24 33 (.agg #[(.string ⟨#[]⟩), (.int .i64 0), (.int .i64 0), (.int .i64 0)]) 40 rfl Tryz.underlying24 info33 rfl (by decide) (by omega) v334 y333 l0 _ _ _ (fun k_ => some k_ ≠ (v340 : Value).ownBlock ∧ k_ ≠ gb330) (fun _ => False) rfl rfl ?aO ?aR (fun _ _ h => h) (fun _ h => h.elim) ?aF ?aB ?aS ?aL ?_
        (case aR => exact Hl.cc (Kd.C_below HR0.out HB.out))
        (case aB => exact (Hl.bb HB))
        (case aF => exact (fun k_ hk => ⟨Kd.fresh' (Kd.R_lt (Hl.rr HO341)) k_ hk, Kd.freshB (g := gb330) (o := .cells #[.string a1_0, .int .i64 a1_1, .int .i64 a1_2, .int .i64 a1_3] 33 (0, 0)) (Hl.kb BK330) k_ hk⟩))
        (case aO => exact (by (with_reducible repeat (first | apply Kd.R_alloc | apply Kd.R_drewN | apply Kd.R_drew)); exact Kd.R_mono HO335.out (fun _ hk => ⟨hk.1.2, hk.2⟩)))
        (case aS => exact (below_size (Hl.bb HB)))
        (case aL => have := LMc10.out; omega)
        intro v337 w19 ho hb hg hat
        rw [← Ny336.out] at ho
        have n0_ := Hl.am (blk_grown (g := gb330) (o := .cells #[.string a1_0, .int .i64 a1_1, .int .i64 a1_2, .int .i64 a1_3] 33 (0, 0)) (Hl.kb BK330) hg (Kd.R_away HO335.out (fun _ hk => hk.2)))
        have n1_ := Hl.am (Kd.R_after (ok := (fun k_ => k_ ≠ gb330)) (by (with_reducible repeat (first | apply Kd.R_alloc | apply Kd.R_drewN | apply Kd.R_drew)); exact Kd.R_mono HO341.out (fun _ hk => ⟨hk.1.2, hk.2⟩)) hg hat)
        have n2_ := Hl.am (hb)
        have n3_ := Hl.am (ho)
        clear BK330 HO341 HB HO335
        have BK330 := n0_
        have HO341 := n1_
        have HB := n2_
        have HO338 := n3_
        clear n0_ n1_ n2_ n3_
        clear ho hb hg hat
        refine hK.out _ _ ⟨(blk_cell BK330.out 0).trans rfl, (blk_cell BK330.out 1).trans rfl, (blk_cell BK330.out 2).trans rfl, (blk_cell BK330.out 3).trans rfl⟩ (fun hHeld => ?_)
        clear hK K
        refine norm_ (a' := ?_) ?_ ?_
        rotate_left
        ·
         show Act.put _ (some 16) _ = _
         simp only [Act.put, Hl.s1, Hl.s2, Hl.s3, i64_w, i32_w]
         rfl
        exact norm_ (by simp only [putAll, Act.put, List.setIfInBounds_toArray, List.set_cons_zero, List.set_cons_succ]) (hCont (v334, v337, v340) _ ⟨hHeld, (Hl.rr HO338), (by (with_reducible repeat (first | apply Kd.R_alloc | apply Kd.R_drewN | apply Kd.R_drew)); exact Kd.R_mono HO341.out (fun _ hk => ⟨hk.2, hk.1⟩)), (Hl.kb BK330), (Hl.bb HB)⟩)
      rintro ⟨v334, v337, v340⟩ w20 ⟨hS_, h0_, h1_, h2_, h3_⟩
      have n0_ : Aside0 (Kd.R k33 33 w20 w.heap.size (fun k_ => some k_ ≠ (v340 : Value).ownBlock ∧ k_ ≠ gb330) v337 y336) := ⟨h0_⟩
      have n1_ : Aside0 (Kd.R k33 33 w20 w.heap.size (fun k_ => some k_ ≠ (v337 : Value).ownBlock ∧ k_ ≠ gb330) v340 y339) := ⟨h1_⟩
      have n2_ : Aside0 (w20.heap[gb330]? = some (.cells #[.string a1_0, .int .i64 a1_1, .int .i64 a1_2, .int .i64 a1_3] 33 (0, 0))) := ⟨h2_⟩
      have n3_ : Aside0 (Below w.heap.size w w20) := ⟨h3_⟩
      clear BK330 HB
      clear h0_ h1_ h2_ h3_
      have HO338 := n0_
      have HO341 := n1_
      have BK330 := n2_
      have HB := n3_
      clear n0_ n1_ n2_ n3_
      have hHeld : w20.cell? ⟨gb330, 0, none⟩ = some (.string a1_0) ∧ w20.cell? ⟨gb330, 1, none⟩ = some (.int .i64 a1_1) ∧ w20.cell? ⟨gb330, 2, none⟩ = some (.int .i64 a1_2) ∧ w20.cell? ⟨gb330, 3, none⟩ = some (.int .i64 a1_3) := hS_
      obtain ⟨Ao22, co22, eo22⟩ := Kd.R_slice HO341.out
      (first | subst eo22 | (injection eo22 with f1_ f2_ f3_; have f4_ := f1_.symm; have f5_ := f3_.symm; clear f1_ f2_ f3_; subst f4_; subst f5_))
      refine norm_ (a' := ?_) ?_ ?_
      rotate_left
      ·
       simp only [putAll, Act.put, List.setIfInBounds_toArray, List.set_cons_zero, List.set_cons_succ]
       rfl
      refine one_ (i := 5) (N := some 19) #[true, true, true, true, true, true, false, false] rfl rfl (one_of HT_.out (by kernel_rfl)) (by decide) (fun K hK => ?_)
      refine Kd.R_append_rows_step k33 (w0 := w) w.heap.size (by rfl) (.tmp 16) (.tmp 18) 24 33 (.agg #[(.string ⟨#[]⟩), (.int .i64 0), (.int .i64 0), (.int .i64 0)]) 40 rfl Tryz.underlying24 info33 rfl (by decide) (by omega) v337 y336 y339 _ _ _ (fun k_ => some k_ ≠ (.slice Ao22 y339.length co22 : Value).ownBlock ∧ k_ ≠ gb330) (fun _ => False) rfl rfl ?aO ?aR (fun _ _ h => h) (fun _ h => h.elim) ?aF ?aB ?aS ?aL ?_
      (case aR => exact Hl.cc ((Kd.R_reads' HO341.out).2.2))
      (case aB => exact (Hl.bb HB))
      (case aF => exact (fun k_ hk => ⟨Kd.fresh' (Kd.R_lt (Hl.rr HO341)) k_ hk, Kd.freshB (g := gb330) (o := .cells #[.string a1_0, .int .i64 a1_1, .int .i64 a1_2, .int .i64 a1_3] 33 (0, 0)) (Hl.kb BK330) k_ hk⟩))
      (case aO => exact (Hl.rr HO338))
      (case aS => exact (below_size (Hl.bb HB)))
      (case aL => have := LMc11.out; omega)
      intro v343 w21 ho hb hg hat
      rw [← Ny342.out] at ho
      have n0_ := Hl.am (blk_grown (g := gb330) (o := .cells #[.string a1_0, .int .i64 a1_1, .int .i64 a1_2, .int .i64 a1_3] 33 (0, 0)) (Hl.kb BK330) hg (Kd.R_away HO338.out (fun _ hk => hk.2)))
      have n1_ := Hl.am (Kd.R_after (ok := (fun k_ => k_ ≠ gb330)) (by (with_reducible repeat (first | apply Kd.R_alloc | apply Kd.R_drewN | apply Kd.R_drew)); exact Kd.R_mono HO341.out (fun _ hk => ⟨hk.2, hk.1⟩)) hg hat)
      have n2_ := Hl.am (hb)
      have n3_ := Hl.am (ho)
      clear BK330 HO341 HB HO338
      have BK330 := n0_
      have HO341 := n1_
      have HB := n2_
      have HO344 := n3_
      clear n0_ n1_ n2_ n3_
      clear ho hb hg hat
      refine hK.out _ _ ⟨(blk_cell BK330.out 0).trans rfl, (blk_cell BK330.out 1).trans rfl, (blk_cell BK330.out 2).trans rfl, (blk_cell BK330.out 3).trans rfl⟩ (fun hHeld => ?_)
      clear hK K
      refine norm_ (a' := ?_) ?_ ?_
      rotate_left
      ·
       show Act.put _ (some 19) _ = _
       simp only [Act.put, Hl.s1, Hl.s2, Hl.s3, i64_w, i32_w]
       rfl
      refine pure_ (i := 6) (N := some 4) (v := ?_) (a' := ?_) #[true, true, true, true, true, true, true, false] rfl rfl (any_of HT_.out (by kernel_rfl)) (fun _ _ _ h => h) (Or.inl ⟨by rfl, ?_⟩) ?_ ?_
      rotate_left
      ·
       intro w'
       go_simp
       with_reducible rfl
      rotate_left
      ·
       simp only [Act.put, Hl.s1, Hl.s2, Hl.s3, i64_w, i32_w]
       rfl
      refine pure_ (i := 7) (N := some 5) (v := ?_) (a' := ?_) #[true, true, true, true, true, true, true, true] rfl rfl (any_of HT_.out (by kernel_rfl)) (fun _ _ _ h => h) (Or.inl ⟨by rfl, ?_⟩) ?_ ?_
      rotate_left
      ·
       intro w'
       go_simp
       with_reducible rfl
      rotate_left
      ·
       simp only [Act.put, Hl.s1, Hl.s2, Hl.s3, i64_w, i32_w]
       rfl
      refine done_ (done_of HT_.out (by kernel_rfl)) ?_
      try go_wp2
      go_ret2
      exact ⟨_, by first | rfl | (simp [errW_none, errW_some] <;> rfl) | (simp [*, errW_none, errW_some] <;> rfl), by (with_reducible repeat (first | apply Kd.R_alloc | apply Kd.R_drewN | apply Kd.R_drew)); exact Kd.R_mono HO344.out (fun _ hk => trivial), Hl.bb HB⟩
     ·
      rw [if_neg c11] at H
      exact absurd H (by simp)
    ·
     rw [if_neg c10] at H
     exact absurd H (by simp)
  ·
   replace c6 := Bool.eq_false_iff.mpr c6
   subst c6
   have H1 : (some (([] : List (S33)), 2)) = some (r1, r2) := by rw [if_neg (show ¬ (false = true) by decide)] at H; exact H
   clear H
   have H := H1
   clear H1
   simp only [Option.some.injEq, Prod.mk.injEq] at H
   obtain ⟨rfl, rfl⟩ := H
   go_enter Tryz.func13, Tryz.ntmps13
   go_wp2_with (first | ((with_reducible refine gate_dst (N := 3) rfl ?_); refine box_event ?hg (N := 3) ?hd (cs := #[.string a1_0, .int .i64 a1_1, .int .i64 a1_2, .int .i64 a1_3]) (t := 33) ?hr ?_; (case hd => rfl); (case hg => rfl); (case hr => first | (go_simp; done) | (go_simp; rfl)); intro gb330 hg w23 hbox hb; have BK330 := Hl.am (hbox); have GW330 := Hl.am ((by rw [hg]; exact (below_size (Hl.bb HB)) : w.heap.size ≤ gb330)); have GE330 := Hl.am ((by rw [hg]; exact (below_size (Hl.bb HB)) : w.heap.size ≤ gb330)); replace HB := Hl.am (below_step (Hl.bb HB) hb); clear hb hbox hg) | ((with_reducible refine gate_callee (f := 48) rfl ?_); refine Hl.gl (some 7) rfl rfl Tryz.func48 (by kernel_rfl) rfl #[.slice A0 l0.length c0] rfl ?_; (with_reducible refine (spec_l24Ok.calls k _ _ l0 true _ ?side1 ?side2 A3.out).mono ?_); (case side1 => exact Hl.cc (Kd.C_below HR0.out HB.out)); (case side2 => exact HC0.out); rintro e w' ⟨rfl, ⟨nd, rfl⟩⟩; refine ⟨_, rfl, ?_⟩; have hcz24_0 : w23.cell? ⟨gb330, 0, none⟩ = some (.string a1_0) := (blk_cell BK330.out 0).trans rfl; have hcz24_1 : w23.cell? ⟨gb330, 1, none⟩ = some (.int .i64 a1_1) := (blk_cell BK330.out 1).trans rfl; have hcz24_2 : w23.cell? ⟨gb330, 2, none⟩ = some (.int .i64 a1_2) := (blk_cell BK330.out 2).trans rfl; have hcz24_3 : w23.cell? ⟨gb330, 3, none⟩ = some (.int .i64 a1_3) := (blk_cell BK330.out 3).trans rfl; have hfz24_0 := blk_frozen BK330.out 0; have hfz24_1 := blk_frozen BK330.out 1; have hfz24_2 := blk_frozen BK330.out 2; have hfz24_3 := blk_frozen BK330.out 3) | (go_at_call 57; (with_reducible refine (spec_l24One.calls k _ a1_0 a1_1 a1_2 a1_3 false _ ?side1 ?side2 ?side3 ?side4 A5.out).mono ?_); (case side1 => first | (with_reducible assumption) | assumption | (go_simp; done)); (case side2 => first | (with_reducible assumption) | assumption | (go_simp; done)); (case side3 => first | (with_reducible assumption) | assumption | (go_simp; done)); (case side4 => first | (with_reducible assumption) | assumption | (go_simp; done)); rintro e w' ⟨rfl, ⟨nd, rfl⟩⟩))
   go_ret2
   exact ⟨_, by first | rfl | (simp [errW_none, errW_some] <;> rfl) | (simp [*, errW_none, errW_some] <;> rfl), by first | exact Kd.R_nil _ _ _ _ _ | exact Kd.N_nil _ _ _ _ _ | exact Kd.V_nil _ _ _ _ _ | exact Kd.Q_nil _ _ _ _ _ | exact Kd.S_nil _ _ _ _ _, Hl.bb HB⟩
 ·
  replace c4 := Bool.eq_false_iff.mpr c4
  subst c4
  have H1 : (some (([] : List (S33)), 1)) = some (r1, r2) := by rw [if_neg (show ¬ (false = true) by decide)] at H; exact H
  clear H
  have H := H1
  clear H1
  simp only [Option.some.injEq, Prod.mk.injEq] at H
  obtain ⟨rfl, rfl⟩ := H
  go_enter Tryz.func13, Tryz.ntmps13
  go_wp2_with (first | ((with_reducible refine gate_dst (N := 3) rfl ?_); refine box_event ?hg (N := 3) ?hd (cs := #[.string a1_0, .int .i64 a1_1, .int .i64 a1_2, .int .i64 a1_3]) (t := 33) ?hr ?_; (case hd => rfl); (case hg => rfl); (case hr => first | (go_simp; done) | (go_simp; rfl)); intro gb330 hg w25 hbox hb; have BK330 := Hl.am (hbox); have GW330 := Hl.am ((by rw [hg]; exact (below_size (Hl.bb HB)) : w.heap.size ≤ gb330)); have GE330 := Hl.am ((by rw [hg]; exact (below_size (Hl.bb HB)) : w.heap.size ≤ gb330)); replace HB := Hl.am (below_step (Hl.bb HB) hb); clear hb hbox hg) | ((with_reducible refine gate_callee (f := 48) rfl ?_); refine Hl.gl (some 7) rfl rfl Tryz.func48 (by kernel_rfl) rfl #[.slice A0 l0.length c0] rfl ?_; (with_reducible refine (spec_l24Ok.calls k _ _ l0 false _ ?side1 ?side2 A3.out).mono ?_); (case side1 => exact Hl.cc (Kd.C_below HR0.out HB.out)); (case side2 => exact HC0.out); rintro e w' ⟨rfl, ⟨nd, rfl⟩⟩; refine ⟨_, rfl, ?_⟩))
  go_ret2
  exact ⟨_, by first | rfl | (simp [errW_none, errW_some] <;> rfl) | (simp [*, errW_none, errW_some] <;> rfl), by first | exact Kd.R_nil _ _ _ _ _ | exact Kd.N_nil _ _ _ _ _ | exact Kd.V_nil _ _ _ _ _ | exact Kd.Q_nil _ _ _ _ _ | exact Kd.S_nil _ _ _ _ _, Hl.bb HB⟩

/-! ### spec_DrawManyOfSize: function 14 -/
def spec_DrawManyOfSize.f (k : Nat) (l0 : List Int) : Option ((List (S33)) × Int) := (spec_l00From.f l0).bind fun bt345 => ((spec_l24Draw.f k bt345.1 bt345.2.1 bt345.2.2).bind fun bt349 => ((spec_l00Src_among.f bt345.1 bt349.2.1 bt349.2.2 (([20, 30, 45, 60, 70, (-1), 0, 1, 200, 201] : List Int))).bind fun bt357 => (some (bt349.1, bt357.1))))
theorem spec_DrawManyOfSize.mono : ∀ a0 k, LeO (spec_DrawManyOfSize.f k a0) (spec_DrawManyOfSize.f (k + 1) a0) := by
 intro a0 k
 unfold spec_DrawManyOfSize.f
 repeat' first
   | (with_reducible exact spec_l24Draw.mono _ _ _ _)
   | (with_reducible exact LeO.refl _)
   | (with_reducible exact LeO.none _)
   | (with_reducible refine LeO.ite ?_ ?_)
   | (with_reducible refine LeO.bind ?_ (fun _ => ?_))
   | exact spec_l24Draw.mono _ _ _ _
   | exact LeO.none _
   | refine LeO.ite ?_ ?_
   | refine LeO.bind ?_ (fun _ => ?_)
set_option maxHeartbeats 8000000 in
set_option maxRecDepth 100000 in
theorem spec_DrawManyOfSize.calls (k : Nat) (A0 : Option Addr) (c0 : Nat) (l0 : List Int) (r1 : List (S33)) (r2 : Int) (w : World) (hr0 : Kd.C (Kd.int .u8) w A0 l0.length l0) (hc0 : l0.length ≤ c0) (h : spec_DrawManyOfSize.f k l0 = some (r1, r2)) :
  Calls Tryz.prog 14 #[.slice A0 l0.length c0] w fun e w' => ∃ v0_ : Value, e = .returned (.tuple #[v0_, .int .i64 r2]) ∧ Kd.R k33 33 w' w.heap.size (fun _ => True) v0_ r1 ∧ Below w.heap.size w w' := by
 have HR0 := Hl.am hr0
 have HC0 := Hl.am hc0
 clear hr0 hc0
 have HB := Hl.am (Below.refl w.heap.size w)
 have H : ((spec_l00From.f l0).bind fun bt345 => ((spec_l24Draw.f k bt345.1 bt345.2.1 bt345.2.2).bind fun bt349 => ((spec_l00Src_among.f bt345.1 bt349.2.1 bt349.2.2 (([20, 30, 45, 60, 70, (-1), 0, 1, 200, 201] : List Int))).bind fun bt357 => (some (bt349.1, bt357.1))))) = some (r1, r2) := h
 clear h
 replace H := Option.bind_eq_some_iff.mp H
 obtain ⟨⟨t345, t346, t347⟩, A20, H⟩ := H
 (try dsimp only at H)
 have A2 := Hl.am A20
 clear A20
 replace H := Option.bind_eq_some_iff.mp H
 obtain ⟨⟨t349, t352, t353⟩, A30, H⟩ := H
 (try dsimp only at H)
 have A3 := Hl.am A30
 clear A30
 obtain ⟨y354, hy354⟩ : ∃ y_ : List Int, y_ = (([20, 30, 45, 60, 70, (-1), 0, 1, 200, 201] : List Int)) := ⟨_, rfl⟩
 replace H : ((spec_l00Src_among.f t345 t352 t353 y354).bind fun bt357 => (some (t349, bt357.1))) = some (r1, r2) := by first | (rw [hy354]; with_reducible exact H) | (have H2_ := (Option.bind_some _ _).symm.trans H; rw [hy354]; with_reducible exact H2_) | (have H2_ := (Option.bind_some _ _).symm.trans H; with_reducible exact H2_) | with_reducible exact H | (rw [hy354]; exact H) | exact H
 have Ny354 := Hl.am hy354
 clear hy354
 replace H := Option.bind_eq_some_iff.mp H
 obtain ⟨⟨t357, t358, t359⟩, A40, H⟩ := H
 replace H : (some (t349, t357)) = some (r1, r2) := H
 have A4 := Hl.am A40
 clear A40
 simp only [Option.some.injEq, Prod.mk.injEq] at H
 obtain ⟨rfl, rfl⟩ := H
 go_enter Tryz.func14, Tryz.ntmps14
 go_wp2_with (first | ((with_reducible refine gate_callee (f := 50) rfl ?_); refine Hl.gl (some 7) rfl rfl Tryz.func50 (by kernel_rfl) rfl #[.slice A0 l0.length c0] rfl ?_; (with_reducible refine (spec_l00From.calls _ _ l0 t345 t346 t347 w _ ?side1 ?side2 ?side3 A2.out).mono ?_); (case side1 => repeat (first | (with_reducible first | exact HB.out | apply below_alloc | apply pw_below_drewN | apply below_drew1) | exact HB.out | exact Below.refl _ _)); (case side2 => exact HR0.out); (case side3 => exact HC0.out); rintro e w5 ⟨g348, rfl, hi, hb, hb2⟩; refine ⟨_, rfl, ?_⟩; replace HB := Hl.am (hb); have HI348 := Hl.am (hi); (try clear hb); (try clear hb2); (try clear hi)) | ((with_reducible refine gate_callee (f := 51) rfl ?_); refine Hl.gl (some 9) rfl rfl Tryz.func51 (by kernel_rfl) rfl #[.pointer (some ⟨g348, 0, none⟩)] rfl ?_; (with_reducible refine (spec_l24Draw.calls k g348 t345 t346 t347 t349 t352 t353 w _ ?side1 ?side2 A3.out).mono ?_); (case side1 => repeat (first | (with_reducible first | exact HI348.out | apply IsS92.alloc | apply IsS92.drewN | apply IsS92.drew | apply IsS92.set_1 | apply IsS92.set_2) | exact HI348.out)); (case side2 => repeat (first | (with_reducible first | exact HB.out | apply below_alloc | apply pw_below_drewN | apply below_drew1 | refine below_set ?_ (IsS92.ge HI348.out)) | exact HB.out | exact Below.refl _ _)); rintro e w6 ⟨v350, rfl, ho0, hi, hb, hk⟩; refine ⟨_, rfl, ?_⟩; have HO351 := Hl.am (Kd.R_lower ho0 (below_size (by repeat (first | (with_reducible first | exact HB.out | apply below_alloc | apply pw_below_drewN | apply below_drew1 | refine below_set ?_ (IsS92.ge HI348.out)) | exact HB.out | exact Below.refl _ _)))); replace HB := Hl.am (hb); replace HI348 := Hl.am (hi); (try clear hb); (try clear hk); (try clear hi); (try clear ho0)) | ((with_reducible refine gate_dst (N := 12) rfl ?_); refine Kd.R_lit (Kd.int .i64) _ 2 ?hg (N := 12) ?hd (xs := ([20, 30, 45, 60, 70, (-1), 0, 1, 200, 201] : List Int)) (inner := [.int .i64 20, .int .i64 30, .int .i64 45, .int .i64 60, .int .i64 70, .int .i64 (-1), .int .i64 0, .int .i64 1, .int .i64 200, .int .i64 201]) (ok := fun _ => True) (okp := fun _ => True) ?hr ?hp (fun _ hk => hk) trivial (Below.refl _ _) (Nat.le_refl _) (by simp) ?_; (case hd => rfl); (case hg => rfl); (case hr => first | (go_simp; done) | (go_simp; rfl)); (case hp => exact (Reps.one (show Kd.M (Kd.int .i64) _ _ _ 20 [.int .i64 20] from rfl) (Reps.one (show Kd.M (Kd.int .i64) _ _ _ 30 [.int .i64 30] from rfl) (Reps.one (show Kd.M (Kd.int .i64) _ _ _ 45 [.int .i64 45] from rfl) (Reps.one (show Kd.M (Kd.int .i64) _ _ _ 60 [.int .i64 60] from rfl) (Reps.one (show Kd.M (Kd.int .i64) _ _ _ 70 [.int .i64 70] from rfl) (Reps.one (show Kd.M (Kd.int .i64) _ _ _ (-1) [.int .i64 (-1)] from rfl) (Reps.one (show Kd.M (Kd.int .i64) _ _ _ 0 [.int .i64 0] from rfl) (Reps.one (show Kd.M (Kd.int .i64) _ _ _ 1 [.int .i64 1] from rfl) (Reps.one (show Kd.M (Kd.int .i64) _ _ _ 200 [.int .i64 200] from rfl) (Reps.one (show Kd.M (Kd.int .i64) _ _ _ 201 [.int .i64 201] from rfl) (Reps.none _ _)))))))))))); intro v355 w7 ho8 hb hg_ hnew_; clear hg_ hnew_; (first | rw [← Ny354.out] at ho8 | (simp only [Int.reduceToNat] at ho8; rw [← Ny354.out] at ho8)); replace HO351 := Hl.am (Kd.R_below (Hl.rr HO351) hb); have HO356 := Hl.am (Kd.R_lower ho8 (below_size (by repeat (first | (with_reducible first | exact HB.out | apply below_alloc | apply pw_below_drewN | apply below_drew1 | refine below_set ?_ (IsS92.ge HI348.out)) | exact HB.out | exact Below.refl _ _)))); replace HB := Hl.am (below_step (by repeat (first | (with_reducible first | exact HB.out | apply below_alloc | apply pw_below_drewN | apply below_drew1 | refine below_set ?_ (IsS92.ge HI348.out)) | exact HB.out | exact Below.refl _ _)) hb); replace HI348 := Hl.am (IsS92.below (by repeat (first | (with_reducible first | exact HI348.out | apply IsS92.alloc | apply IsS92.drewN | apply IsS92.drew | apply IsS92.set_1 | apply IsS92.set_2) | exact HI348.out)) hb); clear hb ho8; obtain ⟨Ao9, co9, eo9⟩ := Kd.R_slice HO356.out; subst eo9) | ((with_reducible refine gate_callee (f := 58) rfl ?_); refine Hl.gl (some 13) rfl rfl Tryz.func58 (by kernel_rfl) rfl #[.pointer (some ⟨g348, 0, none⟩), .slice Ao9 y354.length co9] rfl ?_; (with_reducible refine (spec_l00Src_among.calls g348 t345 t352 t353 _ _ y354 t357 t358 t359 w _ ?side1 ?side2 ?side3 ?side4 ?side5 A4.out).mono ?_); (case side1 => repeat (first | (with_reducible first | exact HI348.out | apply IsS92.alloc | apply IsS92.drewN | apply IsS92.drew | apply IsS92.set_1 | apply IsS92.set_2) | exact HI348.out)); (case side2 => repeat (first | (with_reducible first | exact HB.out | apply below_alloc | apply pw_below_drewN | apply below_drew1 | refine below_set ?_ (IsS92.ge HI348.out)) | exact HB.out | exact Below.refl _ _)); (case side3 => exact Hl.cc ((Kd.R_reads' HO356.out).2.2)); (case side4 => exact (Kd.R_reads' HO356.out).2.1); (case side5 => exact far_slice (IsS92.own_ne HI348.out HO356.out (by decide))); rintro e w10 ⟨rfl, hi, hb, hk⟩; refine ⟨_, rfl, ?_⟩; replace HO351 := Hl.am (Kd.R_mono (Kd.R_keep (IsS92.apart (show IsS92 w _ g348 t345 t352 t353 from by repeat (first | (with_reducible first | exact HI348.out | apply IsS92.alloc | apply IsS92.drewN | apply IsS92.drew | apply IsS92.set_1 | apply IsS92.set_2) | exact HI348.out)) (Hl.rr HO351) (by decide)) hk (fun _ h => h.2)) (fun _ h => h.1)); replace HO356 := Hl.am (Kd.R_mono (Kd.R_keep (IsS92.apart (show IsS92 w _ g348 t345 t352 t353 from by repeat (first | (with_reducible first | exact HI348.out | apply IsS92.alloc | apply IsS92.drewN | apply IsS92.drew | apply IsS92.set_1 | apply IsS92.set_2) | exact HI348.out)) (Hl.rr HO356) (by decide)) hk (fun _ h => h.2)) (fun _ h => h.1)); replace HB := Hl.am (hb); replace HI348 := Hl.am (hi); (try clear hb); (try clear hk); (try clear hi)))
 go_ret2
 exact ⟨_, by first | rfl | (simp [errW_none, errW_some] <;> rfl) | (simp [*, errW_none, errW_some] <;> rfl), Hl.rr HO351, by repeat (first | (with_reducible first | exact HB.out | apply below_alloc | apply pw_below_drewN | apply below_drew1 | refine below_set ?_ (IsS92.ge HI348.out)) | exact HB.out | exact Below.refl _ _)⟩

/-! ### impl_ManyOfSize: function 15 -/
def impl_ManyOfSize.l0 : Nat → Int → Int → List (S33) → Int → Int → Option (Int × Int)
 | 0, _, _, _, _, _ => none
 | k + 1, x1, x7, x18, x19, x20 => if x20 < x19 then (if 0 ≤ x20 then (if x20 < (x18.length : Int) then (if ((rd_T33 x18 x20).f1) = x1 then (impl_ManyOfSize.l0 k x1 (wrap64 (x7 + ((rd_T33 x18 x20).f2))) x18 x19 (wrap64 (x20 + 1))) else (impl_ManyOfSize.l0 k x1 x7 x18 x19 (wrap64 (x20 + 1)))) else (none)) else (none)) else (some (x7, 0))
def impl_ManyOfSize.f (k : Nat) (l0 : List (S33)) (a1 : Int) : Option (Int × Int) := (impl_ValidOrders.f l0).bind fun t360 => ((impl_isSize.f a1).bind fun t361 => ((impl_check.f t360 t361).bind fun t362 => (if t362 = 0 then (impl_ManyOfSize.l0 k a1 0 l0 (l0.length : Int) 0) else (some (0, t362)))))
theorem impl_ManyOfSize.mono_l : ∀ k, (∀ y0 y1 y2 y3 y4, LeO (impl_ManyOfSize.l0 k y0 y1 y2 y3 y4) (impl_ManyOfSize.l0 (k + 1) y0 y1 y2 y3 y4))
 | 0 => fun _ _ _ _ _ r h => by simp [impl_ManyOfSize.l0] at h
 | k + 1 => by
  have ih0 := impl_ManyOfSize.mono_l k
  ·
   intro y0 y1 y2 y3 y4
   unfold impl_ManyOfSize.l0
   repeat' first
   | (with_reducible exact ih0 _ _ _ _ _)
   | (with_reducible exact LeO.refl _)
   | (with_reducible exact LeO.none _)
   | (with_reducible refine LeO.ite ?_ ?_)
   | (with_reducible refine LeO.bind ?_ (fun _ => ?_))
   | exact ih0 _ _ _ _ _
   | exact LeO.none _
   | refine LeO.ite ?_ ?_
   | refine LeO.bind ?_ (fun _ => ?_)
theorem impl_ManyOfSize.mono : ∀ a0 a1 k, LeO (impl_ManyOfSize.f k a0 a1) (impl_ManyOfSize.f (k + 1) a0 a1) := by
 intro a0 a1 k
 have ih0 := impl_ManyOfSize.mono_l k
 unfold impl_ManyOfSize.f
 repeat' first
   | (with_reducible exact ih0 _ _ _ _ _)
   | (with_reducible exact LeO.refl _)
   | (with_reducible exact LeO.none _)
   | (with_reducible refine LeO.ite ?_ ?_)
   | (with_reducible refine LeO.bind ?_ (fun _ => ?_))
   | exact ih0 _ _ _ _ _
   | exact LeO.none _
   | refine LeO.ite ?_ ?_
   | refine LeO.bind ?_ (fun _ => ?_)
set_option maxHeartbeats 8000000 in
set_option maxRecDepth 100000 in
theorem impl_ManyOfSize.calls (k : Nat) (A0 : Option Addr) (c0 : Nat) (l0 : List (S33)) (a1 : Int) (r1 : Int) (r2 : Int) (w : World) (hr0 : Kd.C k33 w A0 l0.length l0) (hc0 : l0.length ≤ c0) (h : impl_ManyOfSize.f k l0 a1 = some (r1, r2)) :
  Calls Tryz.prog 15 #[.slice A0 l0.length c0, .int .i64 a1] w fun e w' => e = .returned (.tuple #[.int .i64 r1, .int .i64 r2]) ∧ Below w.heap.size w w' := by
 have hu33 := Tryz.underlying33
 have HR0 := Hl.am hr0
 have HC0 := Hl.am hc0
 clear hr0 hc0
 have HB := Hl.am (Below.refl w.heap.size w)
 have H : ((impl_ValidOrders.f l0).bind fun t360 => ((impl_isSize.f a1).bind fun t361 => ((impl_check.f t360 t361).bind fun t362 => (if t362 = 0 then (impl_ManyOfSize.l0 k a1 0 l0 (l0.length : Int) 0) else (some (0, t362)))))) = some (r1, r2) := h
 clear h
 replace H := Option.bind_eq_some_iff.mp H
 obtain ⟨t360, A30, H⟩ := H
 (try dsimp only at H)
 have A3 := Hl.am A30
 clear A30
 replace H := Option.bind_eq_some_iff.mp H
 obtain ⟨t361, A40, H⟩ := H
 (try dsimp only at H)
 have A4 := Hl.am A40
 clear A40
 replace H := Option.bind_eq_some_iff.mp H
 obtain ⟨t362, A50, H⟩ := H
 replace H : (if t362 = 0 then (impl_ManyOfSize.l0 k a1 0 l0 (l0.length : Int) 0) else (some (0, t362))) = some (r1, r2) := H
 have A5 := Hl.am A50
 clear A50
 by_cases c6 : t362 = 0
 ·
  rw [if_pos c6] at H
  have c6b0 : (t362 == 0) = true := beq_iff_eq.mpr c6
  have c6b1 : (t362 != 0) = false := bne_eq_false_iff_eq.mpr c6
  clear c6
  have H' := Hl.am H
  clear H
  go_enter Tryz.func15, Tryz.ntmps15
  go_wp2_with (first | ((with_reducible refine gate_callee (f := 34) rfl ?_); refine Hl.gl (some 11) rfl rfl Tryz.func34 (by kernel_rfl) rfl #[.slice A0 l0.length c0] rfl ?_; (with_reducible refine (impl_ValidOrders.calls _ _ l0 t360 _ ?side1 ?side2 A3.out).mono ?_); (case side1 => exact Hl.cc HR0.out); (case side2 => exact HC0.out); rintro e w7 ⟨rfl, hb⟩; refine ⟨_, rfl, ?_⟩; replace HB := Hl.am (below_step (Hl.bb HB) hb); (try clear hb)) | ((with_reducible refine gate_callee (f := 59) rfl ?_); refine Hl.gl (some 13) rfl rfl Tryz.func59 (by kernel_rfl) rfl #[.int .i64 a1] rfl ?_; (with_reducible refine (impl_isSize.calls a1 t361 _ A4.out).mono ?_); rintro e w' ⟨rfl, ⟨nd, rfl⟩⟩; refine ⟨_, rfl, ?_⟩) | ((with_reducible refine gate_callee (f := 37) rfl ?_); refine Hl.gl (some 14) rfl rfl Tryz.func37 (by kernel_rfl) rfl #[.bool t360, .bool t361] rfl ?_; (with_reducible refine (impl_check.calls t360 t361 t362 _ A5.out).mono ?_); rintro e w' ⟨rfl, ⟨nd, rfl⟩⟩; refine ⟨_, rfl, ?_⟩))
  go_loopg [7, 20] k (fun kq v7 v20 w' => ∃ (x7_1 : Int) (x20_1 : Int), v7 = .int .i64 x7_1 ∧ v20 = .int .i64 x20_1 ∧ Aside0 (impl_ManyOfSize.l0 kq a1 x7_1 l0 (l0.length : Int) x20_1 = some (r1, r2)) ∧ Aside0 (kq ≤ k) ∧ Aside0 (Below w.heap.size w w'))
  case atStart => exact ⟨(0), (0), (by first | rfl | (simp; done) | (simp [*]; done)), (by first | rfl | (simp; done) | (simp [*]; done)), H', ⟨Nat.le_refl _⟩, ⟨Hl.bb HB⟩⟩
  case round =>
   clear H'
   try clear c1
   try clear p2
   try clear c3
   try clear c5
   try clear c6
   try clear c6b0
   try clear c6b1
   obtain ⟨x7_1, x20_1, rfl, rfl, HA, HK1, HB⟩ := hrel
   cases gk with
   | zero => exact absurd HA.out (by simp [impl_ManyOfSize.l0])
   | succ k1 =>
    have H := HA.out
    clear HA
    simp only [impl_ManyOfSize.l0] at H
    by_cases c8 : x20_1 < (l0.length : Int)
    ·
     rw [if_pos c8] at H
     have c8b0 : decide (x20_1 < (l0.length : Int)) = true := decide_eq_true c8
     clear c8
     by_cases c9 : 0 ≤ x20_1
     ·
      rw [if_pos c9] at H
      have c9b0 : decide (0 ≤ x20_1) = true := decide_eq_true c9
      clear c9
      by_cases c10 : x20_1 < (l0.length : Int)
      ·
       rw [if_pos c10] at H
       have c10b0 : decide (x20_1 < (l0.length : Int)) = true := decide_eq_true c10
       clear c10
       by_cases c11 : ((rd_T33 l0 x20_1).f1) = a1
       ·
        rw [if_pos c11] at H
        have c11b0 : (((rd_T33 l0 x20_1).f1) == a1) = true := beq_iff_eq.mpr c11
        have c11b1 : (((rd_T33 l0 x20_1).f1) != a1) = false := bne_eq_false_iff_eq.mpr c11
        clear c11
        have H' := Hl.am H
        clear H
        have p363 : 0 ≤ (x20_1 : Int) := Hl.od
        have q363 : x20_1 < (l0.length : Int) := Hl.od
        obtain ⟨ad363, e363, hx363_0, hx363_1, hx363_2, hx363_3⟩ := at_T33 HR0.out x20_1 p363 q363
        cases e363
        replace hx363_0 := Hl.hc HB hx363_0
        replace hx363_1 := Hl.hc HB hx363_1
        replace hx363_2 := Hl.hc HB hx363_2
        replace hx363_3 := Hl.hc HB hx363_3
        replace p363 := eq_true p363
        replace q363 := eq_true q363
        go_wp2_with (first | ((with_reducible refine gate_dst (N := 9) rfl ?_); refine box_event ?hg (N := 9) ?hd (cs := #[.string (⟨#[]⟩ : ByteArray), .int .i64 0, .int .i64 0, .int .i64 0]) (t := 33) ?hr ?_; (case hd => rfl); (case hg => rfl); (case hr => first | (go_simp; done) | (go_simp; rfl)); intro gb364 hg w12 hbox hb; have BK364 := Hl.am (hbox); have GW364 := Hl.am ((by rw [hg]; exact (below_size (Hl.bb HB)) : w.heap.size ≤ gb364)); have GE364 := Hl.am ((by rw [hg]; exact (below_size (Hl.bb HB)) : w.heap.size ≤ gb364)); replace HB := Hl.am (below_step (Hl.bb HB) hb); clear hb hbox hg; have hcz13_0 : w12.cell? ⟨gb364, 0, none⟩ = some (.string (⟨#[]⟩ : ByteArray)) := (blk_cell BK364.out 0).trans rfl; have hcz13_1 : w12.cell? ⟨gb364, 1, none⟩ = some (.int .i64 0) := (blk_cell BK364.out 1).trans rfl; have hcz13_2 : w12.cell? ⟨gb364, 2, none⟩ = some (.int .i64 0) := (blk_cell BK364.out 2).trans rfl; have hcz13_3 : w12.cell? ⟨gb364, 3, none⟩ = some (.int .i64 0) := (blk_cell BK364.out 3).trans rfl; have hfz13_0 := blk_frozen BK364.out 0; have hfz13_1 := blk_frozen BK364.out 1; have hfz13_2 := blk_frozen BK364.out 2; have hfz13_3 := blk_frozen BK364.out 3))
        go_roundg k1
        case measure => have := HK1.out; omega
        case rel => exact ⟨(wrap64 (x7_1 + ((rd_T33 l0 x20_1).f2))), (wrap64 (x20_1 + 1)), (by first | rfl | (simp; done) | (simp [*]; done)), (by first | rfl | (simp; done) | (simp [*]; done)), H', ⟨by have := HK1.out; omega⟩, ⟨Hl.bb HB⟩⟩
       ·
        rw [if_neg c11] at H
        have c11b0 : (((rd_T33 l0 x20_1).f1) == a1) = false := beq_eq_false_iff_ne.mpr c11
        have c11b1 : (((rd_T33 l0 x20_1).f1) != a1) = true := bne_iff_ne.mpr c11
        have H' := Hl.am H
        clear H
        have p363 : 0 ≤ (x20_1 : Int) := Hl.od
        have q363 : x20_1 < (l0.length : Int) := Hl.od
        obtain ⟨ad363, e363, hx363_0, hx363_1, hx363_2, hx363_3⟩ := at_T33 HR0.out x20_1 p363 q363
        cases e363
        replace hx363_0 := Hl.hc HB hx363_0
        replace hx363_1 := Hl.hc HB hx363_1
        replace hx363_2 := Hl.hc HB hx363_2
        replace hx363_3 := Hl.hc HB hx363_3
        replace p363 := eq_true p363
        replace q363 := eq_true q363
        go_wp2_with (first | ((with_reducible refine gate_dst (N := 9) rfl ?_); refine box_event ?hg (N := 9) ?hd (cs := #[.string (⟨#[]⟩ : ByteArray), .int .i64 0, .int .i64 0, .int .i64 0]) (t := 33) ?hr ?_; (case hd => rfl); (case hg => rfl); (case hr => first | (go_simp; done) | (go_simp; rfl)); intro gb364 hg w14 hbox hb; have BK364 := Hl.am (hbox); have GW364 := Hl.am ((by rw [hg]; exact (below_size (Hl.bb HB)) : w.heap.size ≤ gb364)); have GE364 := Hl.am ((by rw [hg]; exact (below_size (Hl.bb HB)) : w.heap.size ≤ gb364)); replace HB := Hl.am (below_step (Hl.bb HB) hb); clear hb hbox hg; have hcz15_0 : w14.cell? ⟨gb364, 0, none⟩ = some (.string (⟨#[]⟩ : ByteArray)) := (blk_cell BK364.out 0).trans rfl; have hcz15_1 : w14.cell? ⟨gb364, 1, none⟩ = some (.int .i64 0) := (blk_cell BK364.out 1).trans rfl; have hcz15_2 : w14.cell? ⟨gb364, 2, none⟩ = some (.int .i64 0) := (blk_cell BK364.out 2).trans rfl; have hcz15_3 : w14.cell? ⟨gb364, 3, none⟩ = some (.int .i64 0) := (blk_cell BK364.out 3).trans rfl; have hfz15_0 := blk_frozen BK364.out 0; have hfz15_1 := blk_frozen BK364.out 1; have hfz15_2 := blk_frozen BK364.out 2; have hfz15_3 := blk_frozen BK364.out 3))
        go_roundg k1
        case measure => have := HK1.out; omega
        case rel => exact ⟨(x7_1), (wrap64 (x20_1 + 1)), (by first | rfl | (simp; done) | (simp [*]; done)), (by first | rfl | (simp; done) | (simp [*]; done)), H', ⟨by have := HK1.out; omega⟩, ⟨Hl.bb HB⟩⟩
      ·
       rw [if_neg c10] at H
       exact absurd H (by simp)
     ·
      rw [if_neg c9] at H
      exact absurd H (by simp)
    ·
     rw [if_neg c8] at H
     have c8b0 : decide (x20_1 < (l0.length : Int)) = false := decide_eq_false c8
     clear c8
     simp only [Option.some.injEq, Prod.mk.injEq] at H
     obtain ⟨rfl, rfl⟩ := H
     go_wp2
     go_ret2
     exact ⟨by first | rfl | (simp [errW_none, errW_some] <;> rfl) | (simp [*, errW_none, errW_some] <;> rfl), Hl.bb HB⟩
 ·
  rw [if_neg c6] at H
  have c6b0 : (t362 == 0) = false := beq_eq_false_iff_ne.mpr c6
  have c6b1 : (t362 != 0) = true := bne_iff_ne.mpr c6
  simp only [Option.some.injEq, Prod.mk.injEq] at H
  obtain ⟨rfl, rfl⟩ := H
  go_enter Tryz.func15, Tryz.ntmps15
  go_wp2_with (first | ((with_reducible refine gate_callee (f := 34) rfl ?_); refine Hl.gl (some 11) rfl rfl Tryz.func34 (by kernel_rfl) rfl #[.slice A0 l0.length c0] rfl ?_; (with_reducible refine (impl_ValidOrders.calls _ _ l0 t360 _ ?side1 ?side2 A3.out).mono ?_); (case side1 => exact Hl.cc HR0.out); (case side2 => exact HC0.out); rintro e w16 ⟨rfl, hb⟩; refine ⟨_, rfl, ?_⟩; replace HB := Hl.am (below_step (Hl.bb HB) hb); (try clear hb)) | ((with_reducible refine gate_callee (f := 59) rfl ?_); refine Hl.gl (some 13) rfl rfl Tryz.func59 (by kernel_rfl) rfl #[.int .i64 a1] rfl ?_; (with_reducible refine (impl_isSize.calls a1 t361 _ A4.out).mono ?_); rintro e w' ⟨rfl, ⟨nd, rfl⟩⟩; refine ⟨_, rfl, ?_⟩) | ((with_reducible refine gate_callee (f := 37) rfl ?_); refine Hl.gl (some 14) rfl rfl Tryz.func37 (by kernel_rfl) rfl #[.bool t360, .bool t361] rfl ?_; (with_reducible refine (impl_check.calls t360 t361 t362 _ A5.out).mono ?_); rintro e w' ⟨rfl, ⟨nd, rfl⟩⟩; refine ⟨_, rfl, ?_⟩))
  go_ret2
  exact ⟨by first | rfl | (simp [errW_none, errW_some] <;> rfl) | (simp [*, errW_none, errW_some] <;> rfl), Hl.bb HB⟩

/-! ### spec_ManyOfSize: function 16 -/
def spec_ManyOfSize.l0 : Nat → List (S33) → Int → Int → Int → Option (Int × Int)
 | 0, _, _, _, _ => none
 | k + 1, x0, x1, x6, x7 => if x7 < (x0.length : Int) then (if 0 ≤ x7 then (if ((rd_T33 x0 x7).f1) = x1 then (spec_ManyOfSize.l0 k x0 x1 (wrap64 (x6 + ((rd_T33 x0 x7).f2))) (wrap64 (x7 + 1))) else (spec_ManyOfSize.l0 k x0 x1 x6 (wrap64 (x7 + 1)))) else (none)) else (some (x6, 0))
def spec_ManyOfSize.f (k : Nat) (l0 : List (S33)) (a1 : Int) : Option (Int × Int) := (spec_l24Ok.f k l0).bind fun t365 => (if t365 = true then ((spec_l00In.f a1 1 200).bind fun t366 => (if t366 = true then (spec_ManyOfSize.l0 k l0 a1 0 0) else (some (0, 2)))) else (some (0, 1)))
theorem spec_ManyOfSize.mono_l : ∀ k, (∀ y0 y1 y2 y3, LeO (spec_ManyOfSize.l0 k y0 y1 y2 y3) (spec_ManyOfSize.l0 (k + 1) y0 y1 y2 y3))
 | 0 => fun _ _ _ _ r h => by simp [spec_ManyOfSize.l0] at h
 | k + 1 => by
  have ih0 := spec_ManyOfSize.mono_l k
  ·
   intro y0 y1 y2 y3
   unfold spec_ManyOfSize.l0
   repeat' first
   | (with_reducible exact ih0 _ _ _ _)
   | (with_reducible exact spec_l24Ok.mono _ _)
   | (with_reducible exact LeO.refl _)
   | (with_reducible exact LeO.none _)
   | (with_reducible refine LeO.ite ?_ ?_)
   | (with_reducible refine LeO.bind ?_ (fun _ => ?_))
   | exact ih0 _ _ _ _
   | exact spec_l24Ok.mono _ _
   | exact LeO.none _
   | refine LeO.ite ?_ ?_
   | refine LeO.bind ?_ (fun _ => ?_)
theorem spec_ManyOfSize.mono : ∀ a0 a1 k, LeO (spec_ManyOfSize.f k a0 a1) (spec_ManyOfSize.f (k + 1) a0 a1) := by
 intro a0 a1 k
 have ih0 := spec_ManyOfSize.mono_l k
 unfold spec_ManyOfSize.f
 repeat' first
   | (with_reducible exact ih0 _ _ _ _)
   | (with_reducible exact spec_l24Ok.mono _ _)
   | (with_reducible exact LeO.refl _)
   | (with_reducible exact LeO.none _)
   | (with_reducible refine LeO.ite ?_ ?_)
   | (with_reducible refine LeO.bind ?_ (fun _ => ?_))
   | exact ih0 _ _ _ _
   | exact spec_l24Ok.mono _ _
   | exact LeO.none _
   | refine LeO.ite ?_ ?_
   | refine LeO.bind ?_ (fun _ => ?_)
set_option maxHeartbeats 8000000 in
set_option maxRecDepth 100000 in
theorem spec_ManyOfSize.calls (k : Nat) (A0 : Option Addr) (c0 : Nat) (l0 : List (S33)) (a1 : Int) (r1 : Int) (r2 : Int) (w : World) (hr0 : Kd.C k33 w A0 l0.length l0) (hc0 : l0.length ≤ c0) (h : spec_ManyOfSize.f k l0 a1 = some (r1, r2)) :
  Calls Tryz.prog 16 #[.slice A0 l0.length c0, .int .i64 a1] w fun e w' => e = .returned (.tuple #[.int .i64 r1, .int .i64 r2]) ∧ Drawn0 w w' := by
 have HR0 := Hl.am hr0
 have HC0 := Hl.am hc0
 clear hr0 hc0
 have H : ((spec_l24Ok.f k l0).bind fun t365 => (if t365 = true then ((spec_l00In.f a1 1 200).bind fun t366 => (if t366 = true then (spec_ManyOfSize.l0 k l0 a1 0 0) else (some (0, 2)))) else (some (0, 1)))) = some (r1, r2) := h
 clear h
 replace H := Option.bind_eq_some_iff.mp H
 obtain ⟨t365, A30, H⟩ := H
 (try dsimp only at H)
 have A3 := Hl.am A30
 clear A30
 by_cases c4 : t365 = true
 ·
  subst c4
  have H1 : ((spec_l00In.f a1 1 200).bind fun t366 => (if t366 = true then (spec_ManyOfSize.l0 k l0 a1 0 0) else (some (0, 2)))) = some (r1, r2) := by rw [if_pos rfl] at H; exact H
  clear H
  have H := H1
  clear H1
  replace H := Option.bind_eq_some_iff.mp H
  obtain ⟨t366, A50, H⟩ := H
  replace H : (if t366 = true then (spec_ManyOfSize.l0 k l0 a1 0 0) else (some (0, 2))) = some (r1, r2) := H
  have A5 := Hl.am A50
  clear A50
  by_cases c6 : t366 = true
  ·
   subst c6
   have H1 : (spec_ManyOfSize.l0 k l0 a1 0 0) = some (r1, r2) := by rw [if_pos rfl] at H; exact H
   clear H
   have H := H1
   clear H1
   have H' := Hl.am H
   clear H
   go_enter Tryz.func16, Tryz.ntmps16
   go_wp2_with (first | ((with_reducible refine gate_callee (f := 48) rfl ?_); refine Hl.gl (some 9) rfl rfl Tryz.func48 (by kernel_rfl) rfl #[.slice A0 l0.length c0] rfl ?_; (with_reducible refine (spec_l24Ok.calls k _ _ l0 true _ ?side1 ?side2 A3.out).mono ?_); (case side1 => exact Hl.cc HR0.out); (case side2 => exact HC0.out); rintro e w' ⟨rfl, ⟨nd, rfl⟩⟩; refine ⟨_, rfl, ?_⟩) | ((with_reducible refine gate_callee (f := 60) rfl ?_); refine Hl.gl (some 12) rfl rfl Tryz.func60 (by kernel_rfl) rfl #[.int .i64 a1, .int .i64 1, .int .i64 200] rfl ?_; (with_reducible refine (spec_l00In.calls a1 1 200 true _ A5.out).mono ?_); rintro e w' ⟨rfl, ⟨nd, rfl⟩⟩; refine ⟨_, rfl, ?_⟩))
   go_loopg [6, 7] k (fun kq v6 v7 w' => ∃ (x6_1 : Int) (x7_1 : Int), v6 = .int .i64 x6_1 ∧ v7 = .int .i64 x7_1 ∧ Aside0 (spec_ManyOfSize.l0 kq l0 a1 x6_1 x7_1 = some (r1, r2)) ∧ Aside0 (kq ≤ k) ∧ Drawn0 w w')
   case atStart => exact ⟨(0), (0), (by first | rfl | (simp; done) | (simp [*]; done)), (by first | rfl | (simp; done) | (simp [*]; done)), H', ⟨Nat.le_refl _⟩, by repeat (first | exact Drawn0.refl _ | apply Drawn0.step)⟩
   case round =>
    clear H'
    try clear c1
    try clear p2
    try clear c4
    try clear c6
    obtain ⟨x6_1, x7_1, rfl, rfl, HA, HK1, ⟨m1, rfl⟩⟩ := hrel
    cases gk with
    | zero => exact absurd HA.out (by simp [spec_ManyOfSize.l0])
    | succ k1 =>
     have H := HA.out
     clear HA
     simp only [spec_ManyOfSize.l0] at H
     by_cases c7 : x7_1 < (l0.length : Int)
     ·
      rw [if_pos c7] at H
      have c7b0 : decide (x7_1 < (l0.length : Int)) = true := decide_eq_true c7
      clear c7
      by_cases c8 : 0 ≤ x7_1
      ·
       rw [if_pos c8] at H
       have c8b0 : decide (0 ≤ x7_1) = true := decide_eq_true c8
       clear c8
       by_cases c9 : ((rd_T33 l0 x7_1).f1) = a1
       ·
        rw [if_pos c9] at H
        have c9b0 : (((rd_T33 l0 x7_1).f1) == a1) = true := beq_iff_eq.mpr c9
        have c9b1 : (((rd_T33 l0 x7_1).f1) != a1) = false := bne_eq_false_iff_eq.mpr c9
        clear c9
        have H' := Hl.am H
        clear H
        have p367 : 0 ≤ (x7_1 : Int) := Hl.od
        have q367 : x7_1 < (l0.length : Int) := Hl.od
        obtain ⟨ad367, e367, hx367_0, hx367_1, hx367_2, hx367_3⟩ := at_T33 HR0.out x7_1 p367 q367
        cases e367
        replace p367 := eq_true p367
        replace q367 := eq_true q367
        have p368 : 0 ≤ (x7_1 : Int) := Hl.od
        have q368 : x7_1 < (l0.length : Int) := Hl.od
        obtain ⟨ad368, e368, hx368_0, hx368_1, hx368_2, hx368_3⟩ := at_T33 HR0.out x7_1 p368 q368
        obtain rfl : ad367 = ad368 := (by injection e368)
        replace p368 := eq_true p368
        replace q368 := eq_true q368
        go_wp2
        go_roundg k1
        case measure => have := HK1.out; omega
        case rel => exact ⟨(wrap64 (x6_1 + ((rd_T33 l0 x7_1).f2))), (wrap64 (x7_1 + 1)), (by first | rfl | (simp; done) | (simp [*]; done)), (by first | rfl | (simp; done) | (simp [*]; done)), H', ⟨by have := HK1.out; omega⟩, by repeat (first | exact Drawn0.refl _ | apply Drawn0.step)⟩
       ·
        rw [if_neg c9] at H
        have c9b0 : (((rd_T33 l0 x7_1).f1) == a1) = false := beq_eq_false_iff_ne.mpr c9
        have c9b1 : (((rd_T33 l0 x7_1).f1) != a1) = true := bne_iff_ne.mpr c9
        have H' := Hl.am H
        clear H
        have p367 : 0 ≤ (x7_1 : Int) := Hl.od
        have q367 : x7_1 < (l0.length : Int) := Hl.od
        obtain ⟨ad367, e367, hx367_0, hx367_1, hx367_2, hx367_3⟩ := at_T33 HR0.out x7_1 p367 q367
        cases e367
        replace p367 := eq_true p367
        replace q367 := eq_true q367
        go_wp2
        go_roundg k1
        case measure => have := HK1.out; omega
        case rel => exact ⟨(x6_1), (wrap64 (x7_1 + 1)), (by first | rfl | (simp; done) | (simp [*]; done)), (by first | rfl | (simp; done) | (simp [*]; done)), H', ⟨by have := HK1.out; omega⟩, by repeat (first | exact Drawn0.refl _ | apply Drawn0.step)⟩
      ·
       rw [if_neg c8] at H
       exact absurd H (by simp)
     ·
      rw [if_neg c7] at H
      have c7b0 : decide (x7_1 < (l0.length : Int)) = false := decide_eq_false c7
      clear c7
      simp only [Option.some.injEq, Prod.mk.injEq] at H
      obtain ⟨rfl, rfl⟩ := H
      go_wp2
      go_ret2
      exact ⟨by first | rfl | (simp; done) | (simp [*]; done), by repeat (first | exact Drawn0.refl _ | apply Drawn0.step)⟩
  ·
   replace c6 := Bool.eq_false_iff.mpr c6
   subst c6
   have H1 : (some (0, 2)) = some (r1, r2) := by rw [if_neg (show ¬ (false = true) by decide)] at H; exact H
   clear H
   have H := H1
   clear H1
   simp only [Option.some.injEq, Prod.mk.injEq] at H
   obtain ⟨rfl, rfl⟩ := H
   go_enter Tryz.func16, Tryz.ntmps16
   go_wp2_with (first | ((with_reducible refine gate_callee (f := 48) rfl ?_); refine Hl.gl (some 9) rfl rfl Tryz.func48 (by kernel_rfl) rfl #[.slice A0 l0.length c0] rfl ?_; (with_reducible refine (spec_l24Ok.calls k _ _ l0 true _ ?side1 ?side2 A3.out).mono ?_); (case side1 => exact Hl.cc HR0.out); (case side2 => exact HC0.out); rintro e w' ⟨rfl, ⟨nd, rfl⟩⟩; refine ⟨_, rfl, ?_⟩) | ((with_reducible refine gate_callee (f := 60) rfl ?_); refine Hl.gl (some 12) rfl rfl Tryz.func60 (by kernel_rfl) rfl #[.int .i64 a1, .int .i64 1, .int .i64 200] rfl ?_; (with_reducible refine (spec_l00In.calls a1 1 200 false _ A5.out).mono ?_); rintro e w' ⟨rfl, ⟨nd, rfl⟩⟩; refine ⟨_, rfl, ?_⟩))
   go_ret2
   exact ⟨by first | rfl | (simp; done) | (simp [*]; done), by repeat (first | exact Drawn0.refl _ | apply Drawn0.step)⟩
 ·
  replace c4 := Bool.eq_false_iff.mpr c4
  subst c4
  have H1 : (some (0, 1)) = some (r1, r2) := by rw [if_neg (show ¬ (false = true) by decide)] at H; exact H
  clear H
  have H := H1
  clear H1
  simp only [Option.some.injEq, Prod.mk.injEq] at H
  obtain ⟨rfl, rfl⟩ := H
  go_enter Tryz.func16, Tryz.ntmps16
  go_wp2_with (first | ((with_reducible refine gate_callee (f := 48) rfl ?_); refine Hl.gl (some 9) rfl rfl Tryz.func48 (by kernel_rfl) rfl #[.slice A0 l0.length c0] rfl ?_; (with_reducible refine (spec_l24Ok.calls k _ _ l0 false _ ?side1 ?side2 A3.out).mono ?_); (case side1 => exact Hl.cc HR0.out); (case side2 => exact HC0.out); rintro e w' ⟨rfl, ⟨nd, rfl⟩⟩; refine ⟨_, rfl, ?_⟩))
  go_ret2
  exact ⟨by first | rfl | (simp; done) | (simp [*]; done), by repeat (first | exact Drawn0.refl _ | apply Drawn0.step)⟩

end Go.Proofs.YtkfpcbhapnhckaaGreatDoor.PFnOnTime
