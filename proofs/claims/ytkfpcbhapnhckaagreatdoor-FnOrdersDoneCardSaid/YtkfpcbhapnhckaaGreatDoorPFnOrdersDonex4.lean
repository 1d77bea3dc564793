/- Written by a program (ext.py). No conditions but those that each theorem states. -/
import Derived.Test.YtkfpcbhapnhckaaGreatDoorPFnOrdersDonex0
namespace Go.Proofs.YtkfpcbhapnhckaaGreatDoor.PFnOrdersDone
open Go.RowKit Go.Proofs.YtkfpcbhapnhckaaGreatDoorW.PrintWords Go.Proofs.YtkfpcbhapnhckaaGreatDoorW.PrintLast Go.Proofs.YtkfpcbhapnhckaaGreatDoorW.PrintMore
attribute [local go_sem] max2_int min2_int max_two min_two max_three min_three max_four min_four Go.Proofs.YtkfpcbhapnhckaaGreatDoor.Hl.isSome_set
set_option linter.unusedVariables false
set_option linter.unusedSimpArgs false

/-- A state of type 92 at block g of W; what its slices lead to came in by w0. -/
def IsS92 (w0 W : World) (g : Nat) (f0 : List Int) (f1 : Int) (f2 : Int) : Prop := ∃ A0 c0, W.heap[g]? = some (.cells #[.slice A0 f0.length c0, .int .i64 f1, .int .u64 f2] 92 (0, 0)) ∧ w0.heap.size ≤ g ∧ Kd.C (Kd.int .u8) w0 A0 f0.length f0
theorem IsS92.grown {w0 W : World} {g : Nat} {f0 : List Int} {f1 : Int} {f2 : Int} {W1 : World} {row : Option Nat} (h : IsS92 w0 W g f0 f1 f2) (hw : W.grownBy W1 row) (hne : some g ≠ row) : IsS92 w0 W1 g f0 f1 f2 := by
 obtain ⟨A0, c0, hb, hg, hr0⟩ := h
 exact ⟨A0, c0, blk_grown hb hw hne, hg, hr0⟩
theorem IsS92.own_neN {w0 W : World} {g : Nat} {f0 : List Int} {f1 : Int} {f2 : Int} {α : Type} {d : Kd α} {e : Nat} {base : Nat} {ok : Nat → Prop} {v : Value} {xs : List α} (h : IsS92 w0 W g f0 f1 f2) (ho : Kd.N d e W base ok v xs) (ht : e ≠ 92) : some g ≠ v.ownBlock := by
 obtain ⟨A0, c0, hb, hg, hr0⟩ := h
 exact Kd.N_ne ho hb ht
theorem IsS92.fresh {w0 W : World} {g : Nat} {f0 : List Int} {f1 : Int} {f2 : Int} (h : IsS92 w0 W g f0 f1 f2) : ∀ k, W.heap.size ≤ k → k ≠ g := by
 obtain ⟨A0, c0, hb, hg, hr0⟩ := h
 exact Kd.freshB hb
theorem IsS92.kept {w0 W : World} {g : Nat} {f0 : List Int} {f1 : Int} {f2 : Int} {W1 : World} {S : Nat → Prop} (h : IsS92 w0 W g f0 f1 f2) (hk : Kept W W1 S) (hne : ¬ S g) : IsS92 w0 W1 g f0 f1 f2 := by
 obtain ⟨A0, c0, hb, hg, hr0⟩ := h
 exact ⟨A0, c0, blk_kept hb hk hne, hg, hr0⟩
theorem IsS92.below {w0 W : World} {g : Nat} {f0 : List Int} {f1 : Int} {f2 : Int} {W1 : World} (h : IsS92 w0 W g f0 f1 f2) (hw : Below W.heap.size W W1) : IsS92 w0 W1 g f0 f1 f2 := h.grown (grown_of_below hw none) (by simp)
theorem IsS92.alloc {w0 W : World} {g : Nat} {f0 : List Int} {f1 : Int} {f2 : Int} (h : IsS92 w0 W g f0 f1 f2) (o : Obj) : IsS92 w0 (W.alloc o) g f0 f1 f2 := h.below (below_alloc (Below.refl _ _) o)
theorem IsS92.drewN {w0 W : World} {g : Nat} {f0 : List Int} {f1 : Int} {f2 : Int} (h : IsS92 w0 W g f0 f1 f2) (m : Nat) : IsS92 w0 (W.drewN m) g f0 f1 f2 := h
theorem IsS92.drew {w0 W : World} {g : Nat} {f0 : List Int} {f1 : Int} {f2 : Int} (h : IsS92 w0 W g f0 f1 f2) : IsS92 w0 W.drew g f0 f1 f2 := h
theorem IsS92.at_ {w0 W : World} {g : Nat} {f0 : List Int} {f1 : Int} {f2 : Int} {w' : World} {m : Nat} (hq : W.drewN m = w') (h : IsS92 w0 W g f0 f1 f2) : IsS92 w0 w' g f0 f1 f2 := by subst hq; exact IsS92.drewN h m
theorem IsS92.apart {w0 W : World} {g : Nat} {f0 : List Int} {f1 : Int} {f2 : Int} {α : Type} {d : Kd α} {e : Nat} {base : Nat} {ok : Nat → Prop} {v : Value} {xs : List α} (h : IsS92 w0 W g f0 f1 f2) (ho : d.R e W base ok v xs) (ht : ∀ q, q ∈ e :: d.E → q ≠ 92) : d.R e W base (fun k => ok k ∧ k ≠ g) v xs := by
 obtain ⟨A0, c0, hb, hg, hr0⟩ := h
 exact Kd.R_types ho hb ht
theorem IsS92.own_ne {w0 W : World} {g : Nat} {f0 : List Int} {f1 : Int} {f2 : Int} {α : Type} {d : Kd α} {e : Nat} {base : Nat} {ok : Nat → Prop} {v : Value} {xs : List α} (h : IsS92 w0 W g f0 f1 f2) (ho : d.R e W base ok v xs) (ht : e ≠ 92) : some g ≠ v.ownBlock := by
 obtain ⟨A0, c0, hb, hg, hr0⟩ := h
 exact Kd.R_ne ho hb ht
theorem IsS92.apartQ {w0 W : World} {g : Nat} {f0 : List Int} {f1 : Int} {f2 : Int} {α : Type} {d : Kd α} {e : Nat} {base : Nat} {ok : Nat → Prop} {v : Value} {xs : List α} (h : IsS92 w0 W g f0 f1 f2) (ho : d.Q e W base ok v xs) (ht : ∀ q, q ∈ e :: d.E → q ≠ 92) : d.Q e W base (fun k => ok k ∧ k ≠ g) v xs := by
 obtain ⟨A0, c0, hb, hg, hr0⟩ := h
 exact Kd.Q_types ho hb ht
theorem IsS92.own_neQ {w0 W : World} {g : Nat} {f0 : List Int} {f1 : Int} {f2 : Int} {α : Type} {d : Kd α} {e : Nat} {base : Nat} {ok : Nat → Prop} {v : Value} {xs : List α} (h : IsS92 w0 W g f0 f1 f2) (ho : d.Q e W base ok v xs) (ht : e ≠ 92) : some g ≠ v.ownBlock := by
 obtain ⟨A0, c0, hb, hg, hr0⟩ := h
 exact Kd.Q_ne ho hb ht
theorem IsS92.apartS {w0 W : World} {g : Nat} {f0 : List Int} {f1 : Int} {f2 : Int} {α : Type} {d : Kd α} {e : Nat} {base : Nat} {ok : Nat → Prop} {v : Value} {xs : List α} (h : IsS92 w0 W g f0 f1 f2) (ho : d.S e W base ok v xs) (ht : ∀ q, q ∈ e :: d.E → q ≠ 92) : d.S e W base (fun k => ok k ∧ k ≠ g) v xs := by
 obtain ⟨A0, c0, hb, hg, hr0⟩ := h
 exact Kd.S_types ho hb ht
theorem IsS92.own_neS {w0 W : World} {g : Nat} {f0 : List Int} {f1 : Int} {f2 : Int} {α : Type} {d : Kd α} {e : Nat} {base : Nat} {ok : Nat → Prop} {v : Value} {xs : List α} (h : IsS92 w0 W g f0 f1 f2) (ho : d.S e W base ok v xs) (ht : e ≠ 92) : some g ≠ v.ownBlock := by
 obtain ⟨A0, c0, hb, hg, hr0⟩ := h
 exact Kd.S_ne ho hb ht
theorem IsS92.lt {w0 W : World} {g : Nat} {f0 : List Int} {f1 : Int} {f2 : Int} (h : IsS92 w0 W g f0 f1 f2) : g < W.heap.size := by
 obtain ⟨A0, c0, hb, hg, hr0⟩ := h
 exact blk_lt hb
theorem IsS92.ge {w0 W : World} {g : Nat} {f0 : List Int} {f1 : Int} {f2 : Int} (h : IsS92 w0 W g f0 f1 f2) : w0.heap.size ≤ g := by
 obtain ⟨A0, c0, hb, hg, hr0⟩ := h
 exact hg
theorem IsS92.ne_blk {w0 W : World} {g : Nat} {f0 : List Int} {f1 : Int} {f2 : Int} {a : Nat} {cs : Array Value} {t : TypeId} {fr : Nat × Nat} (h : IsS92 w0 W g f0 f1 f2) (hb2 : W.heap[a]? = some (.cells cs t fr)) (ht : t ≠ 92) : g ≠ a := by
 obtain ⟨A0, c0, hb, hg, hr0⟩ := h
 rintro rfl
 rw [hb] at hb2
 injection hb2 with hb2
 injection hb2 with _ ht2
 exact ht ht2.symm
theorem IsS92.far {w0 W : World} {g : Nat} {f0 : List Int} {f1 : Int} {f2 : Int} {p : Addr} (h : IsS92 w0 W g f0 f1 f2) (hne : g ≠ p.block) (u : Value) : IsS92 w0 (W.setCell p u) g f0 f1 f2 := by
 obtain ⟨A0, c0, hb, hg, hr0⟩ := h
 exact ⟨A0, c0, blk_far hb hne u, hg, hr0⟩
theorem cellS92_0 {W : World} {g : Nat} {A0 : Option Addr} {c0 : Nat} {f0 : List Int} {f1 : Int} {f2 : Int} (h : W.heap[g]? = some (.cells #[.slice A0 f0.length c0, .int .i64 f1, .int .u64 f2] 92 (0, 0))) : W.cell? ⟨g, 0, none⟩ = some (.slice A0 f0.length c0) := (blk_cell h 0).trans rfl
theorem cellS92_1 {W : World} {g : Nat} {A0 : Option Addr} {c0 : Nat} {f0 : List Int} {f1 : Int} {f2 : Int} (h : W.heap[g]? = some (.cells #[.slice A0 f0.length c0, .int .i64 f1, .int .u64 f2] 92 (0, 0))) : W.cell? ⟨g, 1, none⟩ = some (.int .i64 f1) := (blk_cell h 1).trans rfl
theorem IsS92.set_1 {w0 W : World} {g : Nat} {f0 : List Int} {f1 : Int} {f2 : Int} (h : IsS92 w0 W g f0 f1 f2) (x : Int) : IsS92 w0 (W.setCell ⟨g, 1, none⟩ (.int .i64 x)) g f0 x f2 := by
 obtain ⟨A0, c0, hb, hg, hr0⟩ := h
 exact ⟨A0, c0, by simpa using blk_set hb 1 (.int .i64 x), hg, hr0⟩
theorem cellS92_2 {W : World} {g : Nat} {A0 : Option Addr} {c0 : Nat} {f0 : List Int} {f1 : Int} {f2 : Int} (h : W.heap[g]? = some (.cells #[.slice A0 f0.length c0, .int .i64 f1, .int .u64 f2] 92 (0, 0))) : W.cell? ⟨g, 2, none⟩ = some (.int .u64 f2) := (blk_cell h 2).trans rfl
theorem IsS92.set_2 {w0 W : World} {g : Nat} {f0 : List Int} {f1 : Int} {f2 : Int} (h : IsS92 w0 W g f0 f1 f2) (x : Int) : IsS92 w0 (W.setCell ⟨g, 2, none⟩ (.int .u64 x)) g f0 f1 x := by
 obtain ⟨A0, c0, hb, hg, hr0⟩ := h
 exact ⟨A0, c0, by simpa using blk_set hb 2 (.int .u64 x), hg, hr0⟩
theorem IsS92.new (w0 W : World) (A0 : Option Addr) (c0 : Nat) (f0 : List Int) (f1 : Int) (f2 : Int) (hB : Below w0.heap.size w0 W) (hr0 : Kd.C (Kd.int .u8) w0 A0 f0.length f0) : IsS92 w0 (W.alloc (.cells #[.slice A0 f0.length c0, .int .i64 f1, .int .u64 f2] 92)) W.heap.size f0 f1 f2 := ⟨A0, c0, by simpa using heap_alloc_new W _, hB.size, hr0⟩

theorem bI_ {w W W' : World} (h : Aside0 (Below w.heap.size w W)) (g : Below w.heap.size w W → Below w.heap.size w W' := by intro h_; repeat (first | (with_reducible first | exact h_ | apply below_alloc | apply pw_below_drewN | apply below_drew1 | refine below_set ?_ (Aside0.out (by assumption)) | refine below_set ?_ (IsS92.ge (Aside0.out (by assumption)))) | exact h_ | exact Below.refl _ _)) : Below w.heap.size w W' := g h.out
theorem iS_ {w0 W W' : World} {g : Nat} {f0 f0' : List Int} {f1 f1' f2 f2' : Int} (h : Aside0 (IsS92 w0 W g f0 f1 f2)) (k : IsS92 w0 W g f0 f1 f2 → IsS92 w0 W' g f0' f1' f2' := by intro h_; repeat (first | (with_reducible first | exact h_ | apply IsS92.alloc | apply IsS92.drewN | apply IsS92.drew | apply IsS92.set_1 | apply IsS92.set_2 | (apply IsS92.far; (case hne => exact Aside0.out (by assumption)))) | exact h_)) : IsS92 w0 W' g f0' f1' f2' := k h.out
/-! ### spec_l00From: function 50 -/
def spec_l00From.f (l0 : List Int) : Option (List Int × Int × Int) := some (l0, 0, 0)
set_option maxHeartbeats 8000000 in
set_option maxRecDepth 100000 in
theorem spec_l00From.calls (A0 : Option Addr) (c0 : Nat) (l0 : List Int) (r1 : List Int) (r2 : Int) (r3 : Int) (w0 w : World) (hB : Below w0.heap.size w0 w) (hr0 : Kd.C (Kd.int .u8) w0 A0 l0.length l0) (hc0 : l0.length ≤ c0) (h : spec_l00From.f l0 = some (r1, r2, r3)) :
  Calls Tryz.prog 50 #[.slice A0 l0.length c0] w fun e w' => ∃ g_ : Nat, e = .returned (.pointer (some ⟨g_, 0, none⟩)) ∧ IsS92 w0 w' g_ r1 r2 r3 ∧ Below w0.heap.size w0 w' ∧ Below w.heap.size w w' := by
 have hu92 := Tryz.underlying92
 have HR0 := Hl.am hr0
 have HC0 := Hl.am hc0
 clear hr0 hc0
 have HBW := Hl.am (Below.refl w.heap.size w)
 have HW0 := Hl.am hB.size
 have HB := Hl.am hB
 clear hB
 have H : (some (l0, 0, 0)) = some (r1, r2, r3) := h
 clear h
 simp only [Option.some.injEq, Prod.mk.injEq] at H
 obtain ⟨rfl, rfl, rfl⟩ := H
 go_enter Tryz.func50, Tryz.ntmps50
 go_wp2_with (first | ((with_reducible refine gate_dst (N := 5) rfl ?_); refine box_event ?hg (N := 5) ?hd (cs := #[.slice A0 l0.length c0, .int .i64 0, .int .u64 0]) (t := 92) ?hr ?_; (case hd => rfl); (case hg => rfl); (case hr => first | (go_simp; done) | (go_simp; rfl)); intro gb132 hg w2 hbox hb; replace HB := bT_ HB hb; have BK132 := Hl.am (hbox); have GW132 := Hl.am ((by rw [hg]; exact (below_size (Hl.bb HBW)) : w.heap.size ≤ gb132)); have GE132 := Hl.am ((Nat.le_trans HW0.out (by rw [hg]; exact (below_size (Hl.bb HBW)) : w.heap.size ≤ gb132) : w0.heap.size ≤ gb132)); replace HBW := Hl.am (below_step HBW.out hb); clear hb hbox hg))
 go_ret
 exact ⟨_, rfl, (show IsS92 w0 _ gb132 l0 0 0 from ⟨_, _, Hl.kb BK132, GE132.out, HR0.out⟩), Hl.bb HB, Hl.bb HBW⟩

/-! ### spec_l00Src_next: function 87 -/
def spec_l00Src_next.f (s0_0 : List Int) (s0_1 : Int) (s0_2 : Int) : Option (Int × Int × Int) := if s0_1 < (s0_0.length : Int) then (if 0 ≤ s0_1 then (if (wrap64 (s0_1 + 1)) ≤ (s0_0.length : Int) then (some (wrap64 (rd s0_0 s0_1), wrap64 (s0_1 + 1), IntKind.u64.wrap ((IntKind.u64.wrap ((IntKind.u64.wrap (s0_2 * 6364136223846793005)) + (IntKind.u64.wrap (wrap64 (rd s0_0 s0_1))))) + 1442695040888963407))) else (some (wrap64 (Go.bits .and .u64 ((IntKind.u64.wrap ((IntKind.u64.wrap ((IntKind.u64.wrap (s0_2 * 6364136223846793005)) + (IntKind.u64.wrap (wrap64 (rd s0_0 s0_1))))) + 1442695040888963407)) / 1099511627776) 255), wrap64 (s0_1 + 1), IntKind.u64.wrap ((IntKind.u64.wrap ((IntKind.u64.wrap (s0_2 * 6364136223846793005)) + (IntKind.u64.wrap (wrap64 (rd s0_0 s0_1))))) + 1442695040888963407)))) else (none)) else (if (wrap64 (s0_1 + 1)) ≤ (s0_0.length : Int) then (some (0, wrap64 (s0_1 + 1), IntKind.u64.wrap ((IntKind.u64.wrap ((IntKind.u64.wrap (s0_2 * 6364136223846793005)) + 0)) + 1442695040888963407))) else (some (wrap64 (Go.bits .and .u64 ((IntKind.u64.wrap ((IntKind.u64.wrap ((IntKind.u64.wrap (s0_2 * 6364136223846793005)) + 0)) + 1442695040888963407)) / 1099511627776) 255), wrap64 (s0_1 + 1), IntKind.u64.wrap ((IntKind.u64.wrap ((IntKind.u64.wrap (s0_2 * 6364136223846793005)) + 0)) + 1442695040888963407))))
set_option maxHeartbeats 8000000 in
set_option maxRecDepth 100000 in
theorem spec_l00Src_next.calls (g : Nat) (s0_0 : List Int) (s0_1 : Int) (s0_2 : Int) (r1 : Int) (r2 : Int) (r3 : Int) (w0 w : World) (hI : IsS92 w0 w g s0_0 s0_1 s0_2) (hB : Below w0.heap.size w0 w) (h : spec_l00Src_next.f s0_0 s0_1 s0_2 = some (r1, r2, r3)) :
  Calls Tryz.prog 87 #[.pointer (some ⟨g, 0, none⟩)] w fun e w' => e = .returned (.int .i64 r1) ∧ IsS92 w0 w' g s0_0 r2 r3 ∧ Below w0.heap.size w0 w' ∧ KeepBut w w' g none := by
 have HI0 := Hl.am hI
 have HK := Hl.am (KeepBut.refl w g none)
 have HL := Hl.am hB.size
 clear hI
 have HW0 := Hl.am hB.size
 have HB := Hl.am hB
 clear hB
 have H := h
 unfold spec_l00Src_next.f at H
 clear h
 by_cases c2 : s0_1 < (s0_0.length : Int)
 ·
  rw [if_pos c2] at H
  have c2b0 : decide (s0_1 < (s0_0.length : Int)) = true := decide_eq_true c2
  clear c2
  by_cases c3 : 0 ≤ s0_1
  ·
   rw [if_pos c3] at H
   have c3b0 : decide (0 ≤ s0_1) = true := decide_eq_true c3
   clear c3
   by_cases c4 : (wrap64 (s0_1 + 1)) ≤ (s0_0.length : Int)
   ·
    rw [if_pos c4] at H
    have c4b0 : decide ((wrap64 (s0_1 + 1)) ≤ (s0_0.length : Int)) = true := decide_eq_true c4
    clear c4
    simp only [Option.some.injEq, Prod.mk.injEq] at H
    obtain ⟨rfl, rfl, rfl⟩ := H
    obtain ⟨ASz5_0, cSz5_0, HGz5, hgz5, HSz5_0⟩ := HI0.out
    have hcz5_0 := cellS92_0 HGz5
    have hcz5_1 := cellS92_1 HGz5
    have hcz5_2 := cellS92_2 HGz5
    have hfz5_1 := blk_frozen HGz5 1
    have hfz5_2 := blk_frozen HGz5 2
    clear HGz5 hgz5
    have p133 : 0 ≤ (s0_1 : Int) := Hl.od
    have q133 : s0_1 < (s0_0.length : Int) := Hl.od
    obtain ⟨ad133, e133, hx133_0⟩ := Kd.at_int HSz5_0 s0_1 p133 q133
    cases e133
    replace hx133_0 := pw_cell_below HB.out hx133_0
    replace p133 := eq_true p133
    replace q133 := eq_true q133
    go_enter Tryz.func87, Tryz.ntmps87
    go_wp2
    repeat (go_quiet (fail); try go_wp2)
    go_ret
    exact ⟨eW_, by (try simp only [Int.add_zero]); repeat (first | (with_reducible first | exact HI0.out | apply IsS92.alloc | apply IsS92.drewN | apply IsS92.drew | apply IsS92.set_1 | apply IsS92.set_2) | exact HI0.out), bI_ HB, kS_ HK⟩
   ·
    rw [if_neg c4] at H
    have c4b0 : decide ((wrap64 (s0_1 + 1)) ≤ (s0_0.length : Int)) = false := decide_eq_false c4
    clear c4
    simp only [Option.some.injEq, Prod.mk.injEq] at H
    obtain ⟨rfl, rfl, rfl⟩ := H
    obtain ⟨ASz6_0, cSz6_0, HGz6, hgz6, HSz6_0⟩ := HI0.out
    have hcz6_0 := cellS92_0 HGz6
    have hcz6_1 := cellS92_1 HGz6
    have hcz6_2 := cellS92_2 HGz6
    have hfz6_1 := blk_frozen HGz6 1
    have hfz6_2 := blk_frozen HGz6 2
    clear HGz6 hgz6
    have p133 : 0 ≤ (s0_1 : Int) := Hl.od
    have q133 : s0_1 < (s0_0.length : Int) := Hl.od
    obtain ⟨ad133, e133, hx133_0⟩ := Kd.at_int HSz6_0 s0_1 p133 q133
    cases e133
    replace hx133_0 := pw_cell_below HB.out hx133_0
    replace p133 := eq_true p133
    replace q133 := eq_true q133
    go_enter Tryz.func87, Tryz.ntmps87
    go_wp2
    repeat (go_quiet (fail); try go_wp2)
    go_ret
    exact ⟨eW_, by (try simp only [Int.add_zero]); repeat (first | (with_reducible first | exact HI0.out | apply IsS92.alloc | apply IsS92.drewN | apply IsS92.drew | apply IsS92.set_1 | apply IsS92.set_2) | exact HI0.out), bI_ HB, kS_ HK⟩
  ·
   rw [if_neg c3] at H
   exact absurd H (by simp)
 ·
  rw [if_neg c2] at H
  have c2b0 : decide (s0_1 < (s0_0.length : Int)) = false := decide_eq_false c2
  clear c2
  by_cases c7 : (wrap64 (s0_1 + 1)) ≤ (s0_0.length : Int)
  ·
   rw [if_pos c7] at H
   have c7b0 : decide ((wrap64 (s0_1 + 1)) ≤ (s0_0.length : Int)) = true := decide_eq_true c7
   clear c7
   simp only [Option.some.injEq, Prod.mk.injEq] at H
   obtain ⟨rfl, rfl, rfl⟩ := H
   obtain ⟨ASz8_0, cSz8_0, HGz8, hgz8, HSz8_0⟩ := HI0.out
   have hcz8_0 := cellS92_0 HGz8
   have hcz8_1 := cellS92_1 HGz8
   have hcz8_2 := cellS92_2 HGz8
   have hfz8_1 := blk_frozen HGz8 1
   have hfz8_2 := blk_frozen HGz8 2
   clear HGz8 hgz8
   go_enter Tryz.func87, Tryz.ntmps87
   go_wp2
   repeat (go_quiet (fail); try go_wp2)
   go_ret
   exact ⟨eW_, by (try simp only [Int.add_zero]); repeat (first | (with_reducible first | exact HI0.out | apply IsS92.alloc | apply IsS92.drewN | apply IsS92.drew | apply IsS92.set_1 | apply IsS92.set_2) | exact HI0.out), bI_ HB, kS_ HK⟩
  ·
   rw [if_neg c7] at H
   have c7b0 : decide ((wrap64 (s0_1 + 1)) ≤ (s0_0.length : Int)) = false := decide_eq_false c7
   clear c7
   simp only [Option.some.injEq, Prod.mk.injEq] at H
   obtain ⟨rfl, rfl, rfl⟩ := H
   obtain ⟨ASz9_0, cSz9_0, HGz9, hgz9, HSz9_0⟩ := HI0.out
   have hcz9_0 := cellS92_0 HGz9
   have hcz9_1 := cellS92_1 HGz9
   have hcz9_2 := cellS92_2 HGz9
   have hfz9_1 := blk_frozen HGz9 1
   have hfz9_2 := blk_frozen HGz9 2
   clear HGz9 hgz9
   go_enter Tryz.func87, Tryz.ntmps87
   go_wp2
   repeat (go_quiet (fail); try go_wp2)
   go_ret
   exact ⟨eW_, by (try simp only [Int.add_zero]); repeat (first | (with_reducible first | exact HI0.out | apply IsS92.alloc | apply IsS92.drewN | apply IsS92.drew | apply IsS92.set_1 | apply IsS92.set_2) | exact HI0.out), bI_ HB, kS_ HK⟩

/-! ### spec_l00Src_pick: function 64 -/
def spec_l00Src_pick.f (s0_0 : List Int) (s0_1 : Int) (s0_2 : Int) (a1 : Int) : Option (Int × Int × Int) := if a1 ≤ 1 then (some (0, s0_1, s0_2)) else ((spec_l00Src_next.f s0_0 s0_1 s0_2).bind fun bt134 => (if a1 > 200 then ((spec_l00Src_next.f s0_0 bt134.2.1 bt134.2.2).bind fun bt137 => (if a1 = 0 then (none) else (some (Int.tmod (wrap64 ((wrap64 (bt134.1 * 256)) + bt137.1)) a1, bt137.2.1, bt137.2.2)))) else (if a1 = 0 then (none) else (some (Int.tmod bt134.1 a1, bt134.2.1, bt134.2.2)))))
set_option maxHeartbeats 8000000 in
set_option maxRecDepth 100000 in
theorem spec_l00Src_pick.calls (g : Nat) (s0_0 : List Int) (s0_1 : Int) (s0_2 : Int) (a1 : Int) (r1 : Int) (r2 : Int) (r3 : Int) (w0 w : World) (hI : IsS92 w0 w g s0_0 s0_1 s0_2) (hB : Below w0.heap.size w0 w) (h : spec_l00Src_pick.f s0_0 s0_1 s0_2 a1 = some (r1, r2, r3)) :
  Calls Tryz.prog 64 #[.pointer (some ⟨g, 0, none⟩), .int .i64 a1] w fun e w' => e = .returned (.int .i64 r1) ∧ IsS92 w0 w' g s0_0 r2 r3 ∧ Below w0.heap.size w0 w' ∧ KeepBut w w' g none := by
 have HI0 := Hl.am hI
 have HK := Hl.am (KeepBut.refl w g none)
 have HL := Hl.am hB.size
 clear hI
 have HW0 := Hl.am hB.size
 have HB := Hl.am hB
 clear hB
 have H := h
 unfold spec_l00Src_pick.f at H
 clear h
 by_cases c3 : a1 ≤ 1
 ·
  rw [if_pos c3] at H
  have c3b0 : decide (a1 ≤ 1) = true := decide_eq_true c3
  clear c3
  simp only [Option.some.injEq, Prod.mk.injEq] at H
  obtain ⟨rfl, rfl, rfl⟩ := H
  go_enter Tryz.func64, Tryz.ntmps64
  go_wp2
  go_ret
  exact ⟨eW_, iS_ HI0, bI_ HB, kS_ HK⟩
 ·
  rw [if_neg c3] at H
  have c3b0 : decide (a1 ≤ 1) = false := decide_eq_false c3
  clear c3
  obtain ⟨⟨t134, t135, t136⟩, A40, H⟩ := bE_ H
  (try dsimp only at H)
  have A4 := Hl.am A40
  clear A40
  by_cases c5 : a1 > 200
  ·
   rw [if_pos c5] at H
   have c5b0 : decide (200 < a1) = true := decide_eq_true c5
   clear c5
   obtain ⟨⟨t137, t138, t139⟩, A60, H⟩ := bE_ H
   (try dsimp only at H)
   have A6 := Hl.am A60
   clear A60
   by_cases c7 : a1 = 0
   ·
    rw [if_pos c7] at H
    exact absurd H (by simp)
   ·
    rw [if_neg c7] at H
    have c7b0 : (a1 == 0) = false := beq_eq_false_iff_ne.mpr c7
    have c7b1 : (a1 != 0) = true := bne_iff_ne.mpr c7
    simp only [Option.some.injEq, Prod.mk.injEq] at H
    obtain ⟨rfl, rfl, rfl⟩ := H
    go_enter Tryz.func64, Tryz.ntmps64
    go_wp2_with (first | ((with_reducible refine gate_callee (f := 87) rfl ?_); refine Hl.gl (some 9) rfl rfl Tryz.func87 (by kernel_rfl) rfl #[.pointer (some ⟨g, 0, none⟩)] rfl ?_; (with_reducible refine (spec_l00Src_next.calls g s0_0 s0_1 s0_2 t134 t135 t136 w0 _ ?side1 ?side2 A4.out).mono ?_); (case side1 => exact iS_ HI0); (case side2 => exact bI_ HB); rintro e w8 ⟨rfl, hi, hb, hk⟩; refine ⟨_, rfl, ?_⟩; replace HK := Hl.am (KeepBut.trans (kS_ HK) hk (.inl rfl)); replace HB := Hl.am (hb); replace HI0 := Hl.am (hi); (try clear hb); (try clear hk); (try clear hi)) | ((with_reducible refine gate_callee (f := 87) rfl ?_); refine Hl.gl (some 15) rfl rfl Tryz.func87 (by kernel_rfl) rfl #[.pointer (some ⟨g, 0, none⟩)] rfl ?_; (with_reducible refine (spec_l00Src_next.calls g s0_0 t135 t136 t137 t138 t139 w0 _ ?side1 ?side2 A6.out).mono ?_); (case side1 => exact iS_ HI0); (case side2 => exact bI_ HB); rintro e w9 ⟨rfl, hi, hb, hk⟩; refine ⟨_, rfl, ?_⟩; replace HK := Hl.am (KeepBut.trans (kS_ HK) hk (.inl rfl)); replace HB := Hl.am (hb); replace HI0 := Hl.am (hi); (try clear hb); (try clear hk); (try clear hi)))
    go_ret
    exact ⟨eW_, iS_ HI0, bI_ HB, kS_ HK⟩
  ·
   rw [if_neg c5] at H
   have c5b0 : decide (200 < a1) = false := decide_eq_false c5
   clear c5
   by_cases c10 : a1 = 0
   ·
    rw [if_pos c10] at H
    exact absurd H (by simp)
   ·
    rw [if_neg c10] at H
    have c10b0 : (a1 == 0) = false := beq_eq_false_iff_ne.mpr c10
    have c10b1 : (a1 != 0) = true := bne_iff_ne.mpr c10
    simp only [Option.some.injEq, Prod.mk.injEq] at H
    obtain ⟨rfl, rfl, rfl⟩ := H
    go_enter Tryz.func64, Tryz.ntmps64
    go_wp2_with (first | ((with_reducible refine gate_callee (f := 87) rfl ?_); refine Hl.gl (some 9) rfl rfl Tryz.func87 (by kernel_rfl) rfl #[.pointer (some ⟨g, 0, none⟩)] rfl ?_; (with_reducible refine (spec_l00Src_next.calls g s0_0 s0_1 s0_2 t134 t135 t136 w0 _ ?side1 ?side2 A4.out).mono ?_); (case side1 => exact iS_ HI0); (case side2 => exact bI_ HB); rintro e w11 ⟨rfl, hi, hb, hk⟩; refine ⟨_, rfl, ?_⟩; replace HK := Hl.am (KeepBut.trans (kS_ HK) hk (.inl rfl)); replace HB := Hl.am (hb); replace HI0 := Hl.am (hi); (try clear hb); (try clear hk); (try clear hi)))
    go_ret
    exact ⟨eW_, iS_ HI0, bI_ HB, kS_ HK⟩

/-! ### spec_l00Src_among: function 58 -/
def spec_l00Src_among.f (s0_0 : List Int) (s0_1 : Int) (s0_2 : Int) (l1 : List Int) : Option (Int × Int × Int) := (spec_l00Src_pick.f s0_0 s0_1 s0_2 (l1.length : Int)).bind fun bt140 => (if 0 ≤ bt140.1 then (if bt140.1 < (l1.length : Int) then (some (rd l1 bt140.1, bt140.2.1, bt140.2.2)) else (none)) else (none))
set_option maxHeartbeats 8000000 in
set_option maxRecDepth 100000 in
theorem spec_l00Src_among.calls (g : Nat) (s0_0 : List Int) (s0_1 : Int) (s0_2 : Int) (A1 : Option Addr) (c1 : Nat) (l1 : List Int) (r1 : Int) (r2 : Int) (r3 : Int) (w0 w : World) (hI : IsS92 w0 w g s0_0 s0_1 s0_2) (hB : Below w0.heap.size w0 w) (hr1 : Kd.C (Kd.int .i64) w A1 l1.length l1) (hc1 : l1.length ≤ c1) (hf1 : ∀ ad, A1 = some ad → 0 < l1.length → ad.block ≠ g) (h : spec_l00Src_among.f s0_0 s0_1 s0_2 l1 = some (r1, r2, r3)) :
  Calls Tryz.prog 58 #[.pointer (some ⟨g, 0, none⟩), .slice A1 l1.length c1] w fun e w' => e = .returned (.int .i64 r1) ∧ IsS92 w0 w' g s0_0 r2 r3 ∧ Below w0.heap.size w0 w' ∧ KeepBut w w' g none := by
 have HR1 := Hl.am hr1
 have HC1 := Hl.am hc1
 clear hr1 hc1
 have HI0 := Hl.am hI
 have HK := Hl.am (KeepBut.refl w g none)
 have HL := Hl.am hB.size
 clear hI
 have HW0 := Hl.am hB.size
 have HB := Hl.am hB
 clear hB
 have H : ((spec_l00Src_pick.f s0_0 s0_1 s0_2 (l1.length : Int)).bind fun bt140 => (if 0 ≤ bt140.1 then (if bt140.1 < (l1.length : Int) then (some (rd l1 bt140.1, bt140.2.1, bt140.2.2)) else (none)) else (none))) = some (r1, r2, r3) := h
 clear h
 obtain ⟨⟨t140, t141, t142⟩, A30, H⟩ := bE_ H
 (try dsimp only at H)
 have A3 := Hl.am A30
 clear A30
 by_cases c4 : 0 ≤ t140
 ·
  rw [if_pos c4] at H
  have c4b0 : decide (0 ≤ t140) = true := decide_eq_true c4
  clear c4
  by_cases c5 : t140 < (l1.length : Int)
  ·
   rw [if_pos c5] at H
   have c5b0 : decide (t140 < (l1.length : Int)) = true := decide_eq_true c5
   clear c5
   simp only [Option.some.injEq, Prod.mk.injEq] at H
   obtain ⟨rfl, rfl, rfl⟩ := H
   go_enter Tryz.func58, Tryz.ntmps58
   go_wp2_with (first | ((with_reducible refine gate_callee (f := 64) rfl ?_); refine Hl.gl (some 9) rfl rfl Tryz.func64 (by kernel_rfl) rfl #[.pointer (some ⟨g, 0, none⟩), .int .i64 (l1.length : Int)] rfl ?_; (with_reducible refine (spec_l00Src_pick.calls g s0_0 s0_1 s0_2 (l1.length : Int) t140 t141 t142 w0 _ ?side1 ?side2 A3.out).mono ?_); (case side1 => exact iS_ HI0); (case side2 => exact bI_ HB); rintro e w6 ⟨rfl, hi, hb, hk⟩; refine ⟨_, rfl, ?_⟩; replace HK := Hl.am (KeepBut.trans (kS_ HK) hk (.inl rfl)); replace HB := Hl.am (hb); replace HI0 := Hl.am (hi); (try clear hb); (try clear hk); (try clear hi); have p143 : 0 ≤ (t140 : Int) := Hl.od; have q143 : t140 < (l1.length : Int) := Hl.od; obtain ⟨ad143, e143, hx143_0⟩ := Kd.at_int HR1.out t140 p143 q143; cases e143; replace hx143_0 := keep_cell HK.out hx143_0 (by first | (rw [add_block]; exact hf1 _ rfl (by omega)) | exact hf1 _ rfl (by omega) | exact hf1 ad143 rfl (by omega)); replace p143 := eq_true p143; replace q143 := eq_true q143))
   go_ret
   exact ⟨eW_, iS_ HI0, bI_ HB, kS_ HK⟩
  ·
   rw [if_neg c5] at H
   exact absurd H (by simp)
 ·
  rw [if_neg c4] at H
  exact absurd H (by simp)

/-! ### spec_l00Src_text: function 84 -/
def spec_l00Src_text.f (s0_0 : List Int) (s0_1 : Int) (s0_2 : Int) (l1 : List ByteArray) : Option (ByteArray × Int × Int) := (spec_l00Src_pick.f s0_0 s0_1 s0_2 (l1.length : Int)).bind fun bt144 => (if 0 ≤ bt144.1 then (if bt144.1 < (l1.length : Int) then (some (rdOf ByteArray.empty l1 bt144.1, bt144.2.1, bt144.2.2)) else (none)) else (none))
set_option maxHeartbeats 8000000 in
set_option maxRecDepth 100000 in
theorem spec_l00Src_text.calls (g : Nat) (s0_0 : List Int) (s0_1 : Int) (s0_2 : Int) (A1 : Option Addr) (c1 : Nat) (l1 : List ByteArray) (r1 : ByteArray) (r2 : Int) (r3 : Int) (w0 w : World) (hI : IsS92 w0 w g s0_0 s0_1 s0_2) (hB : Below w0.heap.size w0 w) (hr1 : Kd.C Kd.string w A1 l1.length l1) (hc1 : l1.length ≤ c1) (hf1 : ∀ ad, A1 = some ad → 0 < l1.length → ad.block ≠ g) (h : spec_l00Src_text.f s0_0 s0_1 s0_2 l1 = some (r1, r2, r3)) :
  Calls Tryz.prog 84 #[.pointer (some ⟨g, 0, none⟩), .slice A1 l1.length c1] w fun e w' => e = .returned (.string r1) ∧ IsS92 w0 w' g s0_0 r2 r3 ∧ Below w0.heap.size w0 w' ∧ KeepBut w w' g none := by
 have HR1 := Hl.am hr1
 have HC1 := Hl.am hc1
 clear hr1 hc1
 have HI0 := Hl.am hI
 have HK := Hl.am (KeepBut.refl w g none)
 have HL := Hl.am hB.size
 clear hI
 have HW0 := Hl.am hB.size
 have HB := Hl.am hB
 clear hB
 have H : ((spec_l00Src_pick.f s0_0 s0_1 s0_2 (l1.length : Int)).bind fun bt144 => (if 0 ≤ bt144.1 then (if bt144.1 < (l1.length : Int) then (some (rdOf ByteArray.empty l1 bt144.1, bt144.2.1, bt144.2.2)) else (none)) else (none))) = some (r1, r2, r3) := h
 clear h
 obtain ⟨⟨t144, t145, t146⟩, A30, H⟩ := bE_ H
 (try dsimp only at H)
 have A3 := Hl.am A30
 clear A30
 by_cases c4 : 0 ≤ t144
 ·
  rw [if_pos c4] at H
  have c4b0 : decide (0 ≤ t144) = true := decide_eq_true c4
  clear c4
  by_cases c5 : t144 < (l1.length : Int)
  ·
   rw [if_pos c5] at H
   have c5b0 : decide (t144 < (l1.length : Int)) = true := decide_eq_true c5
   clear c5
   simp only [Option.some.injEq, Prod.mk.injEq] at H
   obtain ⟨rfl, rfl, rfl⟩ := H
   go_enter Tryz.func84, Tryz.ntmps84
   go_wp2_with (first | ((with_reducible refine gate_callee (f := 64) rfl ?_); refine Hl.gl (some 9) rfl rfl Tryz.func64 (by kernel_rfl) rfl #[.pointer (some ⟨g, 0, none⟩), .int .i64 (l1.length : Int)] rfl ?_; (with_reducible refine (spec_l00Src_pick.calls g s0_0 s0_1 s0_2 (l1.length : Int) t144 t145 t146 w0 _ ?side1 ?side2 A3.out).mono ?_); (case side1 => exact iS_ HI0); (case side2 => exact bI_ HB); rintro e w6 ⟨rfl, hi, hb, hk⟩; refine ⟨_, rfl, ?_⟩; replace HK := Hl.am (KeepBut.trans (kS_ HK) hk (.inl rfl)); replace HB := Hl.am (hb); replace HI0 := Hl.am (hi); (try clear hb); (try clear hk); (try clear hi); have p147 : 0 ≤ (t144 : Int) := Hl.od; have q147 : t144 < (l1.length : Int) := Hl.od; obtain ⟨ad147, e147, hx147_0⟩ := Kd.at_string HR1.out t144 p147 q147; cases e147; replace hx147_0 := keep_cell HK.out hx147_0 (by first | (rw [add_block]; exact hf1 _ rfl (by omega)) | exact hf1 _ rfl (by omega) | exact hf1 ad147 rfl (by omega)); replace p147 := eq_true p147; replace q147 := eq_true q147))
   go_ret
   exact ⟨eW_, iS_ HI0, bI_ HB, kS_ HK⟩
  ·
   rw [if_neg c5] at H
   exact absurd H (by simp)
 ·
  rw [if_neg c4] at H
  exact absurd H (by simp)

/-! ### spec_l24New: function 52 -/
def spec_l24New.f (s0_0 : List Int) (s0_1 : Int) (s0_2 : Int) : Option (ByteArray × Int × Int × Int × Int × Int) := (spec_l00Src_text.f s0_0 s0_1 s0_2 (([(⟨#[115, 99, 104, 111, 111, 108]⟩ : ByteArray), (⟨#[115, 104, 105, 112, 45, 50]⟩ : ByteArray), (⟨#[100, 101, 97, 108, 101, 114]⟩ : ByteArray), (⟨#[99, 111, 117, 114, 116]⟩ : ByteArray)] : List ByteArray))).bind fun bt152 => ((spec_l00Src_among.f s0_0 bt152.2.1 bt152.2.2 (([20, 30, 45, 60] : List Int))).bind fun bt158 => ((spec_l00Src_pick.f s0_0 bt158.2.1 bt158.2.2 8).bind fun bt162 => ((spec_l00Src_pick.f s0_0 bt162.2.1 bt162.2.2 60).bind fun bt165 => (some (bt152.1, bt158.1, wrap64 (1 + bt162.1), bt165.1, bt165.2.1, bt165.2.2)))))
set_option maxHeartbeats 8000000 in
set_option maxRecDepth 100000 in
theorem spec_l24New.calls (g : Nat) (s0_0 : List Int) (s0_1 : Int) (s0_2 : Int) (r1 : ByteArray) (r2 : Int) (r3 : Int) (r4 : Int) (r5 : Int) (r6 : Int) (w0 w : World) (hI : IsS92 w0 w g s0_0 s0_1 s0_2) (hB : Below w0.heap.size w0 w) (h : spec_l24New.f s0_0 s0_1 s0_2 = some (r1, r2, r3, r4, r5, r6)) :
  Calls Tryz.prog 52 #[.pointer (some ⟨g, 0, none⟩)] w fun e w' => e = .returned (.agg #[.string r1, .int .i64 r2, .int .i64 r3, .int .i64 r4]) ∧ IsS92 w0 w' g s0_0 r5 r6 ∧ Below w0.heap.size w0 w' ∧ KeepBut w w' g none := by
 have hu33 := Tryz.underlying33
 have HI0 := Hl.am hI
 have HK := Hl.am (KeepBut.refl w g none)
 have HL := Hl.am hB.size
 clear hI
 have HW0 := Hl.am hB.size
 have HB := Hl.am hB
 clear hB
 have H := h
 unfold spec_l24New.f at H
 clear h
 obtain ⟨y149, hy149⟩ : ∃ y_ : List ByteArray, y_ = (([(⟨#[115, 99, 104, 111, 111, 108]⟩ : ByteArray), (⟨#[115, 104, 105, 112, 45, 50]⟩ : ByteArray), (⟨#[100, 101, 97, 108, 101, 114]⟩ : ByteArray), (⟨#[99, 111, 117, 114, 116]⟩ : ByteArray)] : List ByteArray)) := ⟨_, rfl⟩
 replace H : ((spec_l00Src_text.f s0_0 s0_1 s0_2 y149).bind fun bt152 => ((spec_l00Src_among.f s0_0 bt152.2.1 bt152.2.2 (([20, 30, 45, 60] : List Int))).bind fun bt158 => ((spec_l00Src_pick.f s0_0 bt158.2.1 bt158.2.2 8).bind fun bt162 => ((spec_l00Src_pick.f s0_0 bt162.2.1 bt162.2.2 60).bind fun bt165 => (some (bt152.1, bt158.1, wrap64 (1 + bt162.1), bt165.1, bt165.2.1, bt165.2.2)))))) = some (r1, r2, r3, r4, r5, r6) := rH_ hy149 H
 have Ny149 := Hl.am hy149
 clear hy149
 obtain ⟨⟨t152, t153, t154⟩, A20, H⟩ := bE_ H
 (try dsimp only at H)
 have A2 := Hl.am A20
 clear A20
 obtain ⟨y155, hy155⟩ : ∃ y_ : List Int, y_ = (([20, 30, 45, 60] : List Int)) := ⟨_, rfl⟩
 replace H : ((spec_l00Src_among.f s0_0 t153 t154 y155).bind fun bt158 => ((spec_l00Src_pick.f s0_0 bt158.2.1 bt158.2.2 8).bind fun bt162 => ((spec_l00Src_pick.f s0_0 bt162.2.1 bt162.2.2 60).bind fun bt165 => (some (t152, bt158.1, wrap64 (1 + bt162.1), bt165.1, bt165.2.1, bt165.2.2))))) = some (r1, r2, r3, r4, r5, r6) := rH_ hy155 H
 have Ny155 := Hl.am hy155
 clear hy155
 obtain ⟨⟨t158, t159, t160⟩, A30, H⟩ := bE_ H
 (try dsimp only at H)
 have A3 := Hl.am A30
 clear A30
 obtain ⟨⟨t162, t163, t164⟩, A40, H⟩ := bE_ H
 (try dsimp only at H)
 have A4 := Hl.am A40
 clear A40
 obtain ⟨⟨t165, t166, t167⟩, A50, H⟩ := bE_ H
 replace H : (some (t152, t158, wrap64 (1 + t162), t165, t166, t167)) = some (r1, r2, r3, r4, r5, r6) := H
 have A5 := Hl.am A50
 clear A50
 simp only [Option.some.injEq, Prod.mk.injEq] at H
 obtain ⟨rfl, rfl, rfl, rfl, rfl, rfl⟩ := H
 go_enter Tryz.func52, Tryz.ntmps52
 go_wp2_with (first | ((with_reducible refine gate_dst (N := 2) rfl ?_); refine box_event ?hg (N := 2) ?hd (cs := #[.string (⟨#[]⟩ : ByteArray), .int .i64 0, .int .i64 0, .int .i64 0]) (t := 33) ?hr ?_; (case hd => rfl); (case hg => rfl); (case hr => first | (go_simp; done) | (go_simp; rfl)); intro gb148 hg w6 hbox hb; replace HB := Hl.am (below_step (bI_ HB) hb); have BK148 := Hl.am (hbox); have GW148 := Hl.am ((by rw [hg]; exact (keep_size (w := w) (g := g) (row := none) (kS_ HK)) : w.heap.size ≤ gb148)); have GE148 := Hl.am ((Nat.le_trans HW0.out (by rw [hg]; exact (keep_size (w := w) (g := g) (row := none) (kS_ HK)) : w.heap.size ≤ gb148) : w0.heap.size ≤ gb148)); replace HK := Hl.am (KeepBut.trans (kS_ HK) (KeepBut.of_below hb g none) (.inl rfl)); have NB0_148 := Hl.am ((by rw [hg]; exact Nat.ne_of_lt (IsS92.lt (show IsS92 w0 _ g s0_0 s0_1 s0_2 from iS_ HI0)) : g ≠ gb148)); have NB148_0 := Hl.am ((by rw [hg]; exact Nat.ne_of_gt (IsS92.lt (show IsS92 w0 _ g s0_0 s0_1 s0_2 from iS_ HI0)) : gb148 ≠ g)); replace HI0 := Hl.am (IsS92.below (iS_ HI0) hb); clear hb hbox hg) | ((with_reducible refine gate_dst (N := 5) rfl ?_); refine Kd.R_lit Kd.string _ 9 ?hg (N := 5) ?hd (xs := ([(⟨#[115, 99, 104, 111, 111, 108]⟩ : ByteArray), (⟨#[115, 104, 105, 112, 45, 50]⟩ : ByteArray), (⟨#[100, 101, 97, 108, 101, 114]⟩ : ByteArray), (⟨#[99, 111, 117, 114, 116]⟩ : ByteArray)] : List ByteArray)) (inner := [.string (⟨#[115, 99, 104, 111, 111, 108]⟩ : ByteArray), .string (⟨#[115, 104, 105, 112, 45, 50]⟩ : ByteArray), .string (⟨#[100, 101, 97, 108, 101, 114]⟩ : ByteArray), .string (⟨#[99, 111, 117, 114, 116]⟩ : ByteArray)]) (ok := fun _ => True) (okp := fun _ => True) ?hr ?hp (fun _ hk => hk) trivial (Below.refl _ _) (Nat.le_refl _) (by simp) ?_; (case hd => rfl); (case hg => rfl); (case hr => first | (go_simp; done) | (go_simp; rfl)); (case hp => exact (Reps.one (show Kd.M Kd.string _ _ _ (⟨#[115, 99, 104, 111, 111, 108]⟩ : ByteArray) [.string (⟨#[115, 99, 104, 111, 111, 108]⟩ : ByteArray)] from rfl) (Reps.one (show Kd.M Kd.string _ _ _ (⟨#[115, 104, 105, 112, 45, 50]⟩ : ByteArray) [.string (⟨#[115, 104, 105, 112, 45, 50]⟩ : ByteArray)] from rfl) (Reps.one (show Kd.M Kd.string _ _ _ (⟨#[100, 101, 97, 108, 101, 114]⟩ : ByteArray) [.string (⟨#[100, 101, 97, 108, 101, 114]⟩ : ByteArray)] from rfl) (Reps.one (show Kd.M Kd.string _ _ _ (⟨#[99, 111, 117, 114, 116]⟩ : ByteArray) [.string (⟨#[99, 111, 117, 114, 116]⟩ : ByteArray)] from rfl) (Reps.none _ _)))))); intro v150 w7 ho8 hb hg_ hnew_; clear hg_ hnew_; (first | rw [← Ny149.out] at ho8 | (simp only [Int.reduceToNat] at ho8; rw [← Ny149.out] at ho8)); have HO151 := Hl.am (Kd.R_lower ho8 (keep_size (w := w) (g := g) (row := none) (kS_ HK))); replace BK148 := bL_ BK148 hb; replace HK := Hl.am (KeepBut.trans (kS_ HK) (KeepBut.of_below hb g none) (.inl rfl)); replace HB := Hl.am (below_step (bI_ HB) hb); replace HI0 := Hl.am (IsS92.below (iS_ HI0) hb); clear hb ho8; obtain ⟨Ao9, co9, eo9⟩ := Kd.R_slice HO151.out; subst eo9) | ((with_reducible refine gate_callee (f := 84) rfl ?_); refine Hl.gl (some 6) rfl rfl Tryz.func84 (by kernel_rfl) rfl #[.pointer (some ⟨g, 0, none⟩), .slice Ao9 y149.length co9] rfl ?_; (with_reducible refine (spec_l00Src_text.calls g s0_0 s0_1 s0_2 _ _ y149 t152 t153 t154 w0 _ ?side1 ?side2 ?side3 ?side4 ?side5 A2.out).mono ?_); (case side1 => exact iS_ HI0); (case side2 => exact bI_ HB); (case side3 => exact Hl.cc ((Kd.R_reads' HO151.out).2.2)); (case side4 => exact (Kd.R_reads' HO151.out).2.1); (case side5 => exact far_slice (IsS92.own_ne HI0.out HO151.out (by decide))); rintro e w10 ⟨rfl, hi, hb, hk⟩; refine ⟨_, rfl, ?_⟩; replace BK148 := Hl.am (KeepBut.blk hk (g' := gb148) (o := .cells #[.string (⟨#[]⟩ : ByteArray), .int .i64 0, .int .i64 0, .int .i64 0] 33 (0, 0)) (Hl.kb BK148) NB148_0.out (by simp)); replace HO151 := Hl.am (Kd.R_mono (Kd.R_keep (IsS92.apart (show IsS92 w0 _ g s0_0 s0_1 s0_2 from iS_ HI0) (Hl.rr HO151) (by decide)) hk (fun _ h => h.2)) (fun _ h => h.1)); replace HK := Hl.am (KeepBut.trans (kS_ HK) hk (.inl rfl)); replace HB := Hl.am (hb); replace HI0 := Hl.am (hi); (try clear hb); (try clear hk); (try clear hi)) | ((with_reducible refine gate_dst (N := 8) rfl ?_); refine Kd.R_lit (Kd.int .i64) _ 2 ?hg (N := 8) ?hd (xs := ([20, 30, 45, 60] : List Int)) (inner := [.int .i64 20, .int .i64 30, .int .i64 45, .int .i64 60]) (ok := fun _ => True) (okp := fun _ => True) ?hr ?hp (fun _ hk => hk) trivial (Below.refl _ _) (Nat.le_refl _) (by simp) ?_; (case hd => rfl); (case hg => rfl); (case hr => first | (go_simp; done) | (go_simp; rfl)); (case hp => exact (Reps.one (show Kd.M (Kd.int .i64) _ _ _ 20 [.int .i64 20] from rfl) (Reps.one (show Kd.M (Kd.int .i64) _ _ _ 30 [.int .i64 30] from rfl) (Reps.one (show Kd.M (Kd.int .i64) _ _ _ 45 [.int .i64 45] from rfl) (Reps.one (show Kd.M (Kd.int .i64) _ _ _ 60 [.int .i64 60] from rfl) (Reps.none _ _)))))); intro v156 w11 ho12 hb hg_ hnew_; clear hg_ hnew_; (first | rw [← Ny155.out] at ho12 | (simp only [Int.reduceToNat] at ho12; rw [← Ny155.out] at ho12)); replace HO151 := rB_ HO151 hb; have HO157 := Hl.am (Kd.R_lower ho12 (keep_size (w := w) (g := g) (row := none) (kS_ HK))); replace BK148 := bL_ BK148 hb; replace HK := Hl.am (KeepBut.trans (kS_ HK) (KeepBut.of_below hb g none) (.inl rfl)); replace HB := Hl.am (below_step (bI_ HB) hb); replace HI0 := Hl.am (IsS92.below (iS_ HI0) hb); clear hb ho12; obtain ⟨Ao13, co13, eo13⟩ := Kd.R_slice HO157.out; subst eo13) | ((with_reducible refine gate_callee (f := 58) rfl ?_); refine Hl.gl (some 9) rfl rfl Tryz.func58 (by kernel_rfl) rfl #[.pointer (some ⟨g, 0, none⟩), .slice Ao13 y155.length co13] rfl ?_; (with_reducible refine (spec_l00Src_among.calls g s0_0 t153 t154 _ _ y155 t158 t159 t160 w0 _ ?side1 ?side2 ?side3 ?side4 ?side5 A3.out).mono ?_); (case side1 => exact iS_ HI0); (case side2 => exact bI_ HB); (case side3 => exact Hl.cc ((Kd.R_reads' HO157.out).2.2)); (case side4 => exact (Kd.R_reads' HO157.out).2.1); (case side5 => exact far_slice (IsS92.own_ne HI0.out HO157.out (by decide))); rintro e w14 ⟨rfl, hi, hb, hk⟩; refine ⟨_, rfl, ?_⟩; replace BK148 := Hl.am (KeepBut.blk hk (g' := gb148) (o := .cells #[.string (⟨#[]⟩ : ByteArray), .int .i64 0, .int .i64 0, .int .i64 0] 33 (0, 0)) (Hl.kb BK148) NB148_0.out (by simp)); replace HO151 := Hl.am (Kd.R_mono (Kd.R_keep (IsS92.apart (show IsS92 w0 _ g s0_0 t153 t154 from iS_ HI0) (Hl.rr HO151) (by decide)) hk (fun _ h => h.2)) (fun _ h => h.1)); replace HO157 := Hl.am (Kd.R_mono (Kd.R_keep (IsS92.apart (show IsS92 w0 _ g s0_0 t153 t154 from iS_ HI0) (Hl.rr HO157) (by decide)) hk (fun _ h => h.2)) (fun _ h => h.1)); replace HK := Hl.am (KeepBut.trans (kS_ HK) hk (.inl rfl)); replace HB := Hl.am (hb); replace HI0 := Hl.am (hi); (try clear hb); (try clear hk); (try clear hi)) | ((with_reducible refine gate_dst (N := 3) rfl ?_); refine box_event ?hg (N := 3) ?hd (cs := #[.string (⟨#[]⟩ : ByteArray), .int .i64 0, .int .i64 0, .int .i64 0]) (t := 33) ?hr ?_; (case hd => rfl); (case hg => rfl); (case hr => first | (go_simp; done) | (go_simp; rfl)); intro gb161 hg w15 hbox hb; replace HO151 := rB_ HO151 hb; replace HO157 := rB_ HO157 hb; replace HB := Hl.am (below_step (bI_ HB) hb); have BK161 := Hl.am (hbox); have GW161 := Hl.am ((by rw [hg]; exact (keep_size (w := w) (g := g) (row := none) (kS_ HK)) : w.heap.size ≤ gb161)); have GE161 := Hl.am ((Nat.le_trans HW0.out (by rw [hg]; exact (keep_size (w := w) (g := g) (row := none) (kS_ HK)) : w.heap.size ≤ gb161) : w0.heap.size ≤ gb161)); replace HK := Hl.am (KeepBut.trans (kS_ HK) (KeepBut.of_below hb g none) (.inl rfl)); have NB148_161 := Hl.am ((by rw [hg]; exact Nat.ne_of_lt (blk_lt (g := gb148) (o := .cells #[.string (⟨#[]⟩ : ByteArray), .int .i64 0, .int .i64 0, .int .i64 0] 33 (0, 0)) (Hl.kb BK148)) : gb148 ≠ gb161)); have NB161_148 := Hl.am ((by rw [hg]; exact Nat.ne_of_gt (blk_lt (g := gb148) (o := .cells #[.string (⟨#[]⟩ : ByteArray), .int .i64 0, .int .i64 0, .int .i64 0] 33 (0, 0)) (Hl.kb BK148)) : gb161 ≠ gb148)); replace BK148 := bL_ BK148 hb; have NB0_161 := Hl.am ((by rw [hg]; exact Nat.ne_of_lt (IsS92.lt (show IsS92 w0 _ g s0_0 t159 t160 from iS_ HI0)) : g ≠ gb161)); have NB161_0 := Hl.am ((by rw [hg]; exact Nat.ne_of_gt (IsS92.lt (show IsS92 w0 _ g s0_0 t159 t160 from iS_ HI0)) : gb161 ≠ g)); replace HI0 := Hl.am (IsS92.below (iS_ HI0) hb); clear hb hbox hg; have hnb16 := NB161_148.out; have hnc16 := NB148_161.out; have hnb17 := NB161_0.out; have hnc17 := NB0_161.out; obtain ⟨hcz18_0, hcz18_1, hcz18_2, hcz18_3, hfz18_0, hfz18_1, hfz18_2, hfz18_3⟩ := bC4_ BK161) | ((with_reducible refine gate_callee (f := 64) rfl ?_); refine Hl.gl (some 12) rfl rfl Tryz.func64 (by kernel_rfl) rfl #[.pointer (some ⟨g, 0, none⟩), .int .i64 8] rfl ?_; (with_reducible refine (spec_l00Src_pick.calls g s0_0 t159 t160 8 t162 t163 t164 w0 _ ?side1 ?side2 A4.out).mono ?_); (case side1 => exact iS_ HI0); (case side2 => exact bI_ HB); rintro e w19 ⟨rfl, hi, hb, hk⟩; refine ⟨_, rfl, ?_⟩; replace BK148 := Hl.am (KeepBut.blk hk (g' := gb148) (o := .cells #[.string (⟨#[]⟩ : ByteArray), .int .i64 0, .int .i64 0, .int .i64 0] 33 (0, 0)) (by refine bF_ ?_; refine bF_ ?_; refine bF_ ?_; refine bF_ ?_; exact Hl.kb BK148) NB148_0.out (by simp)); replace HO151 := Hl.am (Kd.R_mono (Kd.R_keep (IsS92.apart (show IsS92 w0 _ g s0_0 t159 t160 from iS_ HI0) (by (with_reducible repeat (first | apply Kd.R_alloc | apply Kd.R_drewN | apply Kd.R_drew)); exact (Kd.R_mono (Kd.R_far (p := ⟨gb161, 3, none⟩) (Kd.R_far (p := ⟨gb161, 2, none⟩) (Kd.R_far (p := ⟨gb161, 1, none⟩) (Kd.R_far (p := ⟨gb161, 0, none⟩) (Kd.R_types HO151.out BK161.out (by decide)) (fun _ hk => hk.2) (.string t152)) (fun _ hk => hk.2) (.int .i64 t158)) (fun _ hk => hk.2) (.int .i64 0)) (fun _ hk => hk.2) (.int .i64 0)) (fun _ h_ => h_.1))) (by decide)) hk (fun _ h => h.2)) (fun _ h => h.1)); replace HO157 := Hl.am (Kd.R_mono (Kd.R_keep (IsS92.apart (show IsS92 w0 _ g s0_0 t159 t160 from iS_ HI0) (by (with_reducible repeat (first | apply Kd.R_alloc | apply Kd.R_drewN | apply Kd.R_drew)); exact (Kd.R_mono (Kd.R_far (p := ⟨gb161, 3, none⟩) (Kd.R_far (p := ⟨gb161, 2, none⟩) (Kd.R_far (p := ⟨gb161, 1, none⟩) (Kd.R_far (p := ⟨gb161, 0, none⟩) (Kd.R_types HO157.out BK161.out (by decide)) (fun _ hk => hk.2) (.string t152)) (fun _ hk => hk.2) (.int .i64 t158)) (fun _ hk => hk.2) (.int .i64 0)) (fun _ hk => hk.2) (.int .i64 0)) (fun _ h_ => h_.1))) (by decide)) hk (fun _ h => h.2)) (fun _ h => h.1)); replace BK161 := Hl.am (KeepBut.blk hk (g' := gb161) (o := .cells #[.string t152, .int .i64 t158, .int .i64 0, .int .i64 0] 33 (0, 0)) (by refine bQ_ (cs := #[.string t152, .int .i64 t158, .int .i64 0, .int .i64 0]) ?_ 3; refine bQ_ (cs := #[.string t152, .int .i64 t158, .int .i64 0, .int .i64 0]) ?_ 2; refine bQ_ (cs := #[.string t152, .int .i64 0, .int .i64 0, .int .i64 0]) ?_ 1; refine bQ_ (cs := #[.string (⟨#[]⟩ : ByteArray), .int .i64 0, .int .i64 0, .int .i64 0]) ?_ 0; exact Hl.kb BK161) NB161_0.out (by simp)); replace HK := Hl.am (KeepBut.trans (kS_ HK) hk (.inl rfl)); replace HB := Hl.am (hb); replace HI0 := Hl.am (hi); (try clear hb); (try clear hk); (try clear hi); obtain ⟨hcz20_0, hcz20_1, hcz20_2, hcz20_3, hfz20_0, hfz20_1, hfz20_2, hfz20_3⟩ := bC4_ BK161) | ((with_reducible refine gate_callee (f := 64) rfl ?_); refine Hl.gl (some 16) rfl rfl Tryz.func64 (by kernel_rfl) rfl #[.pointer (some ⟨g, 0, none⟩), .int .i64 60] rfl ?_; (with_reducible refine (spec_l00Src_pick.calls g s0_0 t163 t164 60 t165 t166 t167 w0 _ ?side1 ?side2 A5.out).mono ?_); (case side1 => exact iS_ HI0); (case side2 => exact bI_ HB); rintro e w21 ⟨rfl, hi, hb, hk⟩; refine ⟨_, rfl, ?_⟩; replace BK148 := Hl.am (KeepBut.blk hk (g' := gb148) (o := .cells #[.string (⟨#[]⟩ : ByteArray), .int .i64 0, .int .i64 0, .int .i64 0] 33 (0, 0)) (by refine bF_ ?_; exact Hl.kb BK148) NB148_0.out (by simp)); replace HO151 := Hl.am (Kd.R_mono (Kd.R_keep (IsS92.apart (show IsS92 w0 _ g s0_0 t163 t164 from iS_ HI0) (by (with_reducible repeat (first | apply Kd.R_alloc | apply Kd.R_drewN | apply Kd.R_drew)); exact (Kd.R_mono (Kd.R_far (p := ⟨gb161, 2, none⟩) (Kd.R_types HO151.out BK161.out (by decide)) (fun _ hk => hk.2) (.int .i64 (wrap64 (1 + t162)))) (fun _ h_ => h_.1))) (by decide)) hk (fun _ h => h.2)) (fun _ h => h.1)); replace HO157 := Hl.am (Kd.R_mono (Kd.R_keep (IsS92.apart (show IsS92 w0 _ g s0_0 t163 t164 from iS_ HI0) (by (with_reducible repeat (first | apply Kd.R_alloc | apply Kd.R_drewN | apply Kd.R_drew)); exact (Kd.R_mono (Kd.R_far (p := ⟨gb161, 2, none⟩) (Kd.R_types HO157.out BK161.out (by decide)) (fun _ hk => hk.2) (.int .i64 (wrap64 (1 + t162)))) (fun _ h_ => h_.1))) (by decide)) hk (fun _ h => h.2)) (fun _ h => h.1)); replace BK161 := Hl.am (KeepBut.blk hk (g' := gb161) (o := .cells #[.string t152, .int .i64 t158, .int .i64 (wrap64 (1 + t162)), .int .i64 0] 33 (0, 0)) (by refine bQ_ (cs := #[.string t152, .int .i64 t158, .int .i64 0, .int .i64 0]) ?_ 2; exact Hl.kb BK161) NB161_0.out (by simp)); replace HK := Hl.am (KeepBut.trans (kS_ HK) hk (.inl rfl)); replace HB := Hl.am (hb); replace HI0 := Hl.am (hi); (try clear hb); (try clear hk); (try clear hi); obtain ⟨hcz22_0, hcz22_1, hcz22_2, hcz22_3, hfz22_0, hfz22_1, hfz22_2, hfz22_3⟩ := bC4_ BK161; have hnb23 := NB148_0.out; have hnc23 := NB0_148.out; obtain ⟨hcz24_0, hcz24_1, hcz24_2, hcz24_3, hfz24_0, hfz24_1, hfz24_2, hfz24_3⟩ := bC4_ BK148))
 refine bodyPost_ret (results_cell_row rfl _ _ gb148 33 #[.string t152, .int .i64 t158, .int .i64 (wrap64 (1 + t162)), .int .i64 t165] (0, 0) _ rfl (by refine bQ_ (cs := #[.string t152, .int .i64 t158, .int .i64 (wrap64 (1 + t162)), .int .i64 0]) ?_ 3; refine bQ_ (cs := #[.string t152, .int .i64 t158, .int .i64 0, .int .i64 0]) ?_ 2; refine bQ_ (cs := #[.string t152, .int .i64 0, .int .i64 0, .int .i64 0]) ?_ 1; refine bQ_ (cs := #[.string (⟨#[]⟩ : ByteArray), .int .i64 0, .int .i64 0, .int .i64 0]) ?_ 0; refine bF_ ?_; exact Hl.kb BK148) Tryz.underlying33 rfl (by kernel_rfl)) rfl ?_
 exact ⟨eW_, iS_ HI0, bI_ HB, kS_ HK⟩

/-! ### spec_l00Src_one: function 53 -/
def spec_l00Src_one.f (s0_0 : List Int) (s0_1 : Int) (s0_2 : Int) (a1 : Int) : Option (Bool × Int × Int) := (spec_l00Src_pick.f s0_0 s0_1 s0_2 a1).bind fun bt168 => (some ((bt168.1 == 0), bt168.2.1, bt168.2.2))
set_option maxHeartbeats 8000000 in
set_option maxRecDepth 100000 in
theorem spec_l00Src_one.calls (g : Nat) (s0_0 : List Int) (s0_1 : Int) (s0_2 : Int) (a1 : Int) (r1 : Bool) (r2 : Int) (r3 : Int) (w0 w : World) (hI : IsS92 w0 w g s0_0 s0_1 s0_2) (hB : Below w0.heap.size w0 w) (h : spec_l00Src_one.f s0_0 s0_1 s0_2 a1 = some (r1, r2, r3)) :
  Calls Tryz.prog 53 #[.pointer (some ⟨g, 0, none⟩), .int .i64 a1] w fun e w' => e = .returned (.bool r1) ∧ IsS92 w0 w' g s0_0 r2 r3 ∧ Below w0.heap.size w0 w' ∧ KeepBut w w' g none := by
 have HI0 := Hl.am hI
 have HK := Hl.am (KeepBut.refl w g none)
 have HL := Hl.am hB.size
 clear hI
 have HW0 := Hl.am hB.size
 have HB := Hl.am hB
 clear hB
 have H : ((spec_l00Src_pick.f s0_0 s0_1 s0_2 a1).bind fun bt168 => (some ((bt168.1 == 0), bt168.2.1, bt168.2.2))) = some (r1, r2, r3) := h
 clear h
 obtain ⟨⟨t168, t169, t170⟩, A30, H⟩ := bE_ H
 replace H : (some ((t168 == 0), t169, t170)) = some (r1, r2, r3) := H
 have A3 := Hl.am A30
 clear A30
 simp only [Option.some.injEq, Prod.mk.injEq] at H
 obtain ⟨rfl, rfl, rfl⟩ := H
 go_enter Tryz.func53, Tryz.ntmps53
 go_wp2_with (first | ((with_reducible refine gate_callee (f := 64) rfl ?_); refine Hl.gl (some 7) rfl rfl Tryz.func64 (by kernel_rfl) rfl #[.pointer (some ⟨g, 0, none⟩), .int .i64 a1] rfl ?_; (with_reducible refine (spec_l00Src_pick.calls g s0_0 s0_1 s0_2 a1 t168 t169 t170 w0 _ ?side1 ?side2 A3.out).mono ?_); (case side1 => exact iS_ HI0); (case side2 => exact bI_ HB); rintro e w4 ⟨rfl, hi, hb, hk⟩; refine ⟨_, rfl, ?_⟩; replace HK := Hl.am (KeepBut.trans (kS_ HK) hk (.inl rfl)); replace HB := Hl.am (hb); replace HI0 := Hl.am (hi); (try clear hb); (try clear hk); (try clear hi)))
 go_ret
 exact ⟨eW_, iS_ HI0, bI_ HB, kS_ HK⟩

end Go.Proofs.YtkfpcbhapnhckaaGreatDoor.PFnOrdersDone
