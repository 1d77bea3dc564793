/- Written by a program (ext.py). No conditions but those that each theorem states. -/
import Derived.Test.YtafkckoikobnjaaDoorPFnTasksx0
import Derived.Test.YtafkckoikobnjaaDoorPFnTasksx1
import Derived.Test.YtafkckoikobnjaaDoorPFnTasksx2
namespace Go.Proofs.YtafkckoikobnjaaDoor.PFnTasks
open Go.RowKit Go.Proofs.YtafkckoikobnjaaDoorW.PrintWords Go.Proofs.YtafkckoikobnjaaDoorW.PrintLast Go.Proofs.YtafkckoikobnjaaDoorW.PrintMore
attribute [local go_sem] max2_int min2_int max_two min_two max_three min_three max_four min_four Go.Proofs.YtafkckoikobnjaaDoor.Hl.isSome_set
set_option linter.unusedVariables false
set_option linter.unusedSimpArgs false

/-! ### spec_l25Can: function 57 -/
def spec_l25Can.f (l0 : List Int) (a1_0 : ByteArray) (a1_1 : Int) (l1_2 : List Int) (a2 : Int) : Option (Bool) := if 0 ≤ a2 then (if a2 < (l1_2.length : Int) then (if a2 < (l0.length : Int) then (some (decide ((rd l1_2 a2) ≥ (rd l0 a2)))) else (none)) else (none)) else (none)
set_option maxHeartbeats 8000000 in
set_option maxRecDepth 100000 in
theorem spec_l25Can.calls (A0 : Option Addr) (c0 : Nat) (l0 : List Int) (ad1 : Addr) (a1_0 : ByteArray) (a1_1 : Int) (A1_2 : Option Addr) (c1_2 : Nat) (l1_2 : List Int) (a2 : Int) (r : Bool) (w : World) (hr0 : Kd.C (Kd.int .i64) w A0 l0.length l0) (hc0 : l0.length ≤ c0) (hr1_2 : Kd.C (Kd.int .i64) w A1_2 l1_2.length l1_2) (hc1_2 : l1_2.length ≤ c1_2) (hv1_0 : w.cell? ad1 = some (.string a1_0)) (hv1_1 : w.cell? ⟨ad1.block, ad1.off + 1, none⟩ = some (.int .i64 a1_1)) (hv1_2 : w.cell? ⟨ad1.block, ad1.off + 2, none⟩ = some (.slice A1_2 l1_2.length c1_2)) (h : spec_l25Can.f l0 a1_0 a1_1 l1_2 a2 = some r) :
  Calls Tryd.prog 57 #[.slice A0 l0.length c0, .pointer (some ad1), .int .i64 a2] w fun e w' => e = .returned (.bool r) ∧ Drawn0 w w' := by
 have HR0 := Hl.am hr0
 have HC0 := Hl.am hc0
 clear hr0 hc0
 have HR1_2 := Hl.am hr1_2
 have HC1_2 := Hl.am hc1_2
 clear hr1_2 hc1_2
 have H : (if 0 ≤ a2 then (if a2 < (l1_2.length : Int) then (if a2 < (l0.length : Int) then (some (decide ((rd l1_2 a2) ≥ (rd l0 a2)))) else (none)) else (none)) else (none)) = some r := h
 clear h
 by_cases c4 : 0 ≤ a2
 ·
  rw [if_pos c4] at H
  have c4b0 : decide (0 ≤ a2) = true := decide_eq_true c4
  clear c4
  by_cases c5 : a2 < (l1_2.length : Int)
  ·
   rw [if_pos c5] at H
   have c5b0 : decide (a2 < (l1_2.length : Int)) = true := decide_eq_true c5
   clear c5
   by_cases c6 : a2 < (l0.length : Int)
   ·
    rw [if_pos c6] at H
    have c6b0 : decide (a2 < (l0.length : Int)) = true := decide_eq_true c6
    clear c6
    obtain rfl := Option.some.inj H
    have p134 : 0 ≤ (a2 : Int) := Hl.od
    have q134 : a2 < (l1_2.length : Int) := Hl.od
    obtain ⟨ad134, e134, hx134_0⟩ := Kd.at_int HR1_2.out a2 p134 q134
    cases e134
    replace p134 := eq_true p134
    replace q134 := eq_true q134
    have p135 : 0 ≤ (a2 : Int) := Hl.od
    have q135 : a2 < (l0.length : Int) := Hl.od
    obtain ⟨ad135, e135, hx135_0⟩ := Kd.at_int HR0.out a2 p135 q135
    cases e135
    replace p135 := eq_true p135
    replace q135 := eq_true q135
    go_enter Tryd.func57, Tryd.ntmps57
    go_wp2
    repeat (go_quiet (fail); try go_wp2)
    go_ret
    exact ⟨by first | rfl | (simp; done) | (simp [*]; done), by repeat (first | exact Drawn0.refl _ | apply Drawn0.step)⟩
   ·
    rw [if_neg c6] at H
    exact absurd H (by simp)
  ·
   rw [if_neg c5] at H
   exact absurd H (by simp)
 ·
  rw [if_neg c4] at H
  exact absurd H (by simp)

/-! ### spec_l00Has: function 61 -/
def spec_l00Has.l0 : Nat → List Int → Int → Int → Option (Bool)
 | 0, _, _, _ => none
 | k + 1, x0, x1, x5 => if x5 < (x0.length : Int) then (if 0 ≤ x5 then (if (rd x0 x5) = x1 then (some true) else (spec_l00Has.l0 k x0 x1 (wrap64 (x5 + 1)))) else (none)) else (some false)
def spec_l00Has.f (k : Nat) (l0 : List Int) (a1 : Int) : Option (Bool) := spec_l00Has.l0 k l0 a1 0
theorem spec_l00Has.mono_l : ∀ k, (∀ y0 y1 y2, LeO (spec_l00Has.l0 k y0 y1 y2) (spec_l00Has.l0 (k + 1) y0 y1 y2))
 | 0 => fun _ _ _ r h => by simp [spec_l00Has.l0] at h
 | k + 1 => by
  have ih0 := spec_l00Has.mono_l k
  ·
   intro y0 y1 y2
   unfold spec_l00Has.l0
   repeat' first
   | (with_reducible exact ih0 _ _ _)
   | (with_reducible exact LeO.refl _)
   | (with_reducible exact LeO.none _)
   | (with_reducible refine LeO.ite ?_ ?_)
   | (with_reducible refine LeO.bind ?_ (fun _ => ?_))
   | exact ih0 _ _ _
   | exact LeO.none _
   | refine LeO.ite ?_ ?_
   | refine LeO.bind ?_ (fun _ => ?_)
theorem spec_l00Has.mono : ∀ a0 a1 k, LeO (spec_l00Has.f k a0 a1) (spec_l00Has.f (k + 1) a0 a1) := by
 intro a0 a1 k
 have ih0 := spec_l00Has.mono_l k
 unfold spec_l00Has.f
 repeat' first
   | (with_reducible exact ih0 _ _ _)
   | (with_reducible exact LeO.refl _)
   | (with_reducible exact LeO.none _)
   | (with_reducible refine LeO.ite ?_ ?_)
   | (with_reducible refine LeO.bind ?_ (fun _ => ?_))
   | exact ih0 _ _ _
   | exact LeO.none _
   | refine LeO.ite ?_ ?_
   | refine LeO.bind ?_ (fun _ => ?_)
set_option maxHeartbeats 8000000 in
set_option maxRecDepth 100000 in
theorem spec_l00Has.calls (k : Nat) (A0 : Option Addr) (c0 : Nat) (l0 : List Int) (a1 : Int) (r : Bool) (w : World) (hr0 : Kd.C (Kd.int .i64) w A0 l0.length l0) (hc0 : l0.length ≤ c0) (h : spec_l00Has.f k l0 a1 = some r) :
  Calls Tryd.prog 61 #[.slice A0 l0.length c0, .int .i64 a1] w fun e w' => e = .returned (.bool r) ∧ Drawn0 w w' := by
 have HR0 := Hl.am hr0
 have HC0 := Hl.am hc0
 clear hr0 hc0
 have H : (spec_l00Has.l0 k l0 a1 0) = some r := h
 clear h
 have H' := Hl.am H
 clear H
 go_enter Tryd.func61, Tryd.ntmps61
 go_wp2
 go_loopg [5] k (fun kq v5 w' => ∃ (x5_1 : Int), v5 = .int .i64 x5_1 ∧ Aside0 (spec_l00Has.l0 kq l0 a1 x5_1 = some r) ∧ Aside0 (kq ≤ k) ∧ Drawn0 w w')
 case atStart => exact ⟨(0), (by first | rfl | (simp; done) | (simp [*]; done)), H', ⟨Nat.le_refl _⟩, by repeat (first | exact Drawn0.refl _ | apply Drawn0.step)⟩
 case round =>
  clear H'
  obtain ⟨x5_1, rfl, HA, HK1, ⟨m1, rfl⟩⟩ := hrel
  cases gk with
  | zero => exact absurd HA.out (by simp [spec_l00Has.l0])
  | succ k1 =>
   have H := HA.out
   clear HA
   simp only [spec_l00Has.l0] at H
   by_cases c3 : x5_1 < (l0.length : Int)
   ·
    rw [if_pos c3] at H
    have c3b0 : decide (x5_1 < (l0.length : Int)) = true := decide_eq_true c3
    clear c3
    by_cases c4 : 0 ≤ x5_1
    ·
     rw [if_pos c4] at H
     have c4b0 : decide (0 ≤ x5_1) = true := decide_eq_true c4
     clear c4
     by_cases c5 : (rd l0 x5_1) = a1
     ·
      rw [if_pos c5] at H
      have c5b0 : ((rd l0 x5_1) == a1) = true := beq_iff_eq.mpr c5
      have c5b1 : ((rd l0 x5_1) != a1) = false := bne_eq_false_iff_eq.mpr c5
      clear c5
      obtain rfl := Option.some.inj H
      have p136 : 0 ≤ (x5_1 : Int) := Hl.od
      have q136 : x5_1 < (l0.length : Int) := Hl.od
      obtain ⟨ad136, e136, hx136_0⟩ := Kd.at_int HR0.out x5_1 p136 q136
      cases e136
      replace p136 := eq_true p136
      replace q136 := eq_true q136
      go_wp2
      go_ret
      exact ⟨by first | rfl | (simp; done) | (simp [*]; done), by repeat (first | exact Drawn0.refl _ | apply Drawn0.step)⟩
     ·
      rw [if_neg c5] at H
      have c5b0 : ((rd l0 x5_1) == a1) = false := beq_eq_false_iff_ne.mpr c5
      have c5b1 : ((rd l0 x5_1) != a1) = true := bne_iff_ne.mpr c5
      have H' := Hl.am H
      clear H
      have p136 : 0 ≤ (x5_1 : Int) := Hl.od
      have q136 : x5_1 < (l0.length : Int) := Hl.od
      obtain ⟨ad136, e136, hx136_0⟩ := Kd.at_int HR0.out x5_1 p136 q136
      cases e136
      replace p136 := eq_true p136
      replace q136 := eq_true q136
      go_wp2
      go_roundg k1
      case measure => have := HK1.out; omega
      case rel => exact ⟨(wrap64 (x5_1 + 1)), (by first | rfl | (simp; done) | (simp [*]; done)), H', ⟨by have := HK1.out; omega⟩, by repeat (first | exact Drawn0.refl _ | apply Drawn0.step)⟩
    ·
     rw [if_neg c4] at H
     exact absurd H (by simp)
   ·
    rw [if_neg c3] at H
    have c3b0 : decide (x5_1 < (l0.length : Int)) = false := decide_eq_false c3
    clear c3
    obtain rfl := Option.some.inj H
    go_wp2
    go_ret
    exact ⟨by first | rfl | (simp; done) | (simp [*]; done), by repeat (first | exact Drawn0.refl _ | apply Drawn0.step)⟩

/-! ### spec_AssignPupils: function 16 -/
mutual
def spec_AssignPupils.wf : Nat → List Int → List S56 → List Int → List Int → List Int → Int → Int → Option (List Int × Int)
  | 0, _, _, _, _, _, _, _ => none
  | k + 1, N, l, T, tk, b, m, d => if wrap64 (d + wrap64 ((T.length : Int) - (tk.length : Int))) ≤ m then some (b, m) else if (tk.length : Int) = (T.length : Int) then (if tk.length < 1000000 then some (tk, d) else none) else (spec_AssignPupils.wl k N l T tk b m d 0).bind fun bm => if tk.length < 1000000 then spec_AssignPupils.wf k N l T (tk ++ [-1]) bm.1 bm.2 d else none
def spec_AssignPupils.wl : Nat → List Int → List S56 → List Int → List Int → List Int → Int → Int → Int → Option (List Int × Int)
  | 0, _, _, _, _, _, _, _, _ => none
  | k + 1, N, l, T, tk, b, m, d, i => if i < (l.length : Int) then (if 0 ≤ i then ((spec_l00Has.f k tk i).bind fun h => if h = true then spec_AssignPupils.wl k N l T tk b m d (wrap64 (i + 1)) else if tk.length < T.length then ((spec_l25Can.f N (rd_T56 l i).f0 (rd_T56 l i).f1 (rd_T56 l i).f2 (rd T (tk.length : Int))).bind fun c => if c = true then (if tk.length < 1000000 then ((spec_AssignPupils.wf k N l T (tk ++ [i]) b m (wrap64 (d + 1))).bind fun bm => spec_AssignPupils.wl k N l T tk bm.1 bm.2 d (wrap64 (i + 1))) else none) else spec_AssignPupils.wl k N l T tk b m d (wrap64 (i + 1))) else none) else none) else some (b, m)
end
def spec_AssignPupils.lt : Nat → List Int → List Int → Int → Option Bool
  | 0, _, _, _ => none
  | k + 1, N, T, i => if i < (T.length : Int) then (if 0 ≤ i then ((spec_l00In.f (rd T i) 0 (wrap64 ((N.length : Int) - 1))).bind fun t => if t = true then spec_AssignPupils.lt k N T (wrap64 (i + 1)) else some false) else none) else some true
theorem spec_AssignPupils.mono_l : ∀ k, (∀ a b c d e f g, LeO (spec_AssignPupils.wf k a b c d e f g) (spec_AssignPupils.wf (k + 1) a b c d e f g)) ∧ (∀ a b c d e f g h, LeO (spec_AssignPupils.wl k a b c d e f g h) (spec_AssignPupils.wl (k + 1) a b c d e f g h))
  | 0 => ⟨fun _ _ _ _ _ _ _ r h => by simp [spec_AssignPupils.wf] at h, fun _ _ _ _ _ _ _ _ r h => by simp [spec_AssignPupils.wl] at h⟩
  | k + 1 => by
    obtain ⟨i1, i2⟩ := spec_AssignPupils.mono_l k
    refine ⟨?_, ?_⟩
    · intro a b c d e f g
      unfold spec_AssignPupils.wf
      repeat' first
        | exact i1 _ _ _ _ _ _ _
        | exact i2 _ _ _ _ _ _ _ _
        | (with_reducible exact LeO.refl _)
        | exact LeO.none _
        | refine LeO.ite ?_ ?_
        | refine LeO.bind ?_ (fun _ => ?_)
        | exact LeO.refl _
    · intro a b c d e f g h
      unfold spec_AssignPupils.wl
      repeat' first
        | exact i1 _ _ _ _ _ _ _
        | exact i2 _ _ _ _ _ _ _ _
        | exact spec_l00Has.mono _ _ _
        | (with_reducible exact LeO.refl _)
        | exact LeO.none _
        | refine LeO.ite ?_ ?_
        | refine LeO.bind ?_ (fun _ => ?_)
        | exact LeO.refl _
theorem spec_AssignPupils.mono_t : ∀ k a b c, LeO (spec_AssignPupils.lt k a b c) (spec_AssignPupils.lt (k + 1) a b c)
  | 0 => fun _ _ _ r h => by simp [spec_AssignPupils.lt] at h
  | k + 1 => fun a b c => by
    have i1 := spec_AssignPupils.mono_t k
    unfold spec_AssignPupils.lt
    repeat' first
      | exact i1 _ _ _
      | (with_reducible exact LeO.refl _)
      | exact LeO.none _
      | refine LeO.ite ?_ ?_
      | refine LeO.bind ?_ (fun _ => ?_)
      | exact LeO.refl _
def spec_AssignPupils.f (k : Nat) (l0 : List Int) (l1 : List S56) (l2 : List Int) : Option (List Int × Int × Int) := (spec_l25Ok.f k l0 l1).bind fun t1 => if t1 = true then ((spec_AssignPupils.lt k l0 l2 0).bind fun t2 => if t2 = true then (if (l2.length : Int) > 6 then some ([], 0, 2) else if (l1.length : Int) > 6 then some ([], 0, 5) else (spec_AssignPupils.wf k l0 l1 l2 [] [] (-1) 0).bind fun bm => some (bm.1, bm.2, 0)) else some ([], 0, 2)) else some ([], 0, 1)
theorem spec_AssignPupils.mono : ∀ a0 a1 a2 k, LeO (spec_AssignPupils.f k a0 a1 a2) (spec_AssignPupils.f (k + 1) a0 a1 a2) := by
  intro a b c k
  have i1 := (spec_AssignPupils.mono_l k).1
  have i2 := spec_AssignPupils.mono_t k
  unfold spec_AssignPupils.f
  repeat' first
    | exact i1 _ _ _ _ _ _ _
    | exact i2 _ _ _
    | exact spec_l25Ok.mono _ _ _
    | (with_reducible exact LeO.refl _)
    | exact LeO.none _
    | refine LeO.ite ?_ ?_
    | refine LeO.bind ?_ (fun _ => ?_)
    | exact LeO.refl _
/-- What a walk asks of the world. -/
structure spec_AssignPupils.At (g : Nat) (AN : Option Addr) (cN : Nat) (N : List Int) (Al : Option Addr) (cl : Nat) (l : List S56) (AT : Option Addr) (cT : Nat) (T : List Int) (base : Nat) (vt : Value) (tk : List Int) (vb : Value) (best : List Int) (m : Int) (W : World) : Prop where
  blk : W.heap[g]? = some (.cells #[.slice AN N.length cN, .slice Al l.length cl, .slice AT T.length cT, vt, vb, .int .i64 m] 64 (0, 0))
  tk_ : Kd.R (Kd.int .i64) 2 W base (fun _ => True) vt tk
  best_ : Kd.R (Kd.int .i64) 2 W base (fun _ => True) vb best
  ne_ : ∀ k, vt.ownBlock = some k → some k ≠ vb.ownBlock
  needs_ : ∀ W', Below base W W' → Kd.C (Kd.int .i64) W' AN N.length N
  list_ : ∀ W', Below base W W' → Kd.C k56 W' Al l.length l
  tasks_ : ∀ W', Below base W W' → Kd.C (Kd.int .i64) W' AT T.length T
  size_ : base ≤ W.heap.size
section
variable {g : Nat} {AN : Option Addr} {cN : Nat} {N : List Int} {Al : Option Addr} {cl : Nat} {l : List S56} {AT : Option Addr} {cT : Nat} {T : List Int} {base : Nat} {vt : Value} {tk : List Int} {vb : Value} {best : List Int} {m x : Int} {At_ : Option Addr} {ct_ : Nat} {W W' : World}
theorem spec_AssignPupils.At.below (h : spec_AssignPupils.At g AN cN N Al cl l AT cT T base vt tk vb best m W) (hb : Below W.heap.size W W') : spec_AssignPupils.At g AN cN N Al cl l AT cT T base vt tk vb best m W' :=
  have hb' : Below base W W' := hb.mono h.size_
  ⟨blk_below h.blk hb, Kd.R_below h.tk_ hb, Kd.R_below h.best_ hb, h.ne_, fun W2 h2 => h.needs_ W2 (hb'.trans h2), fun W2 h2 => h.list_ W2 (hb'.trans h2), fun W2 h2 => h.tasks_ W2 (hb'.trans h2), Nat.le_trans h.size_ hb.size⟩
theorem spec_AssignPupils.At.drewN (h : spec_AssignPupils.At g AN cN N Al cl l AT cT T base vt tk vb best m W) (n : Nat) : spec_AssignPupils.At g AN cN N Al cl l AT cT T base vt tk vb best m (W.drewN n) := h.below (pw_below_drewN (Below.refl _ _) n)
/-- A field is stored into. -/
theorem spec_AssignPupils.At.put (h : spec_AssignPupils.At g AN cN N Al cl l AT cT T base vt tk vb best m W) (hg : base ≤ g) (i : Nat) (u vt' vb' : Value) (tk' best' : List Int) (m' : Int)
    (hc : (#[.slice AN N.length cN, .slice Al l.length cl, .slice AT T.length cT, vt, vb, .int .i64 m] : Array Value).setIfInBounds i u = #[.slice AN N.length cN, .slice Al l.length cl, .slice AT T.length cT, vt', vb', .int .i64 m'])
    (ht : Kd.R (Kd.int .i64) 2 W base (fun _ => True) vt' tk') (hB : Kd.R (Kd.int .i64) 2 W base (fun _ => True) vb' best') (hn : ∀ k, vt'.ownBlock = some k → some k ≠ vb'.ownBlock) :
    spec_AssignPupils.At g AN cN N Al cl l AT cT T base vt' tk' vb' best' m' (W.setCell ⟨g, i, none⟩ u) ∧ Below base W (W.setCell ⟨g, i, none⟩ u) :=
  have hb' : Below base W (W.setCell ⟨g, i, none⟩ u) := Below.setCell (p := ⟨g, i, none⟩) (Below.refl _ _) hg _
  ⟨⟨hc ▸ blk_set h.blk i u, Kd.R_set ht h.blk (by decide) i u, Kd.R_set hB h.blk (by decide) i u, hn, fun W2 h2 => h.needs_ W2 (hb'.trans h2), fun W2 h2 => h.list_ W2 (hb'.trans h2), fun W2 h2 => h.tasks_ W2 (hb'.trans h2), Nat.le_trans h.size_ hb'.size⟩, hb'⟩
/-- What has been taken grows. -/
theorem spec_AssignPupils.At.grow (h : spec_AssignPupils.At g AN cN N Al cl l AT cT T base vt tk vb best m W) {W2 : World} (hb2 : Below W.heap.size W W2) {v1 : Value} {w1 : World} (hg : W2.grownBy w1 vt.ownBlock) (hat : v1.ownBlock = vt.ownBlock ∨ ∃ b, v1.ownBlock = some b ∧ W2.heap.size ≤ b) :
    w1.heap[g]? = some (.cells #[.slice AN N.length cN, .slice Al l.length cl, .slice AT T.length cT, vt, vb, .int .i64 m] 64 (0, 0)) ∧ Kd.R (Kd.int .i64) 2 w1 base (fun _ => True) vb best ∧ (∀ k, v1.ownBlock = some k → some k ≠ vb.ownBlock) := by
  have h2 := h.below hb2
  refine ⟨blk_grown h2.blk hg ?_, Kd.R_grown2 h2.best_ rfl hg h2.ne_, fun k hk => ?_⟩
  · intro e
    exact Hl.typed_ne (Kd.R_typed h2.tk_ g e.symm) ⟨64, List.mem_singleton.2 rfl, _, h2.blk⟩ (by decide)
  · rcases hat with e | ⟨b, e, hle⟩
    · exact h2.ne_ k (e ▸ hk)
    · rw [e] at hk
      injection hk with hk
      intro e2
      have := Kd.R_lt h2.best_ k e2.symm
      omega
theorem spec_AssignPupils.At.grown (h : spec_AssignPupils.At g AN cN N Al cl l AT cT T base vt tk vb best m W) (hg : base ≤ g) {v1 : Value} {w1 : World} {tk' : List Int} (hG : w1.heap[g]? = some (.cells #[.slice AN N.length cN, .slice Al l.length cl, .slice AT T.length cT, vt, vb, .int .i64 m] 64 (0, 0)) ∧ Kd.R (Kd.int .i64) 2 w1 base (fun _ => True) vb best ∧ (∀ k, v1.ownBlock = some k → some k ≠ vb.ownBlock)) (ho : Kd.R (Kd.int .i64) 2 w1 base (fun _ => True) v1 tk') (hb : Below base W w1) :
    spec_AssignPupils.At g AN cN N Al cl l AT cT T base v1 tk' vb best m (w1.setCell ⟨g, 3, none⟩ v1) ∧ Below base W (w1.setCell ⟨g, 3, none⟩ v1) :=
  have hb1 : Below base w1 (w1.setCell ⟨g, 3, none⟩ v1) := Below.setCell (p := ⟨g, 3, none⟩) (Below.refl _ _) hg _
  have hb' : Below base W (w1.setCell ⟨g, 3, none⟩ v1) := hb.trans hb1
  ⟨⟨blk_set hG.1 3 v1, Kd.R_set ho hG.1 (by decide) 3 v1, Kd.R_set hG.2.1 hG.1 (by decide) 3 v1, hG.2.2, fun W2 h2 => h.needs_ W2 (hb'.trans h2), fun W2 h2 => h.list_ W2 (hb'.trans h2), fun W2 h2 => h.tasks_ W2 (hb'.trans h2), Nat.le_trans h.size_ hb'.size⟩, hb'⟩
/-- What has been taken is cut back. -/
theorem spec_AssignPupils.At.back (h : spec_AssignPupils.At g AN cN N Al cl l AT cT T base (.slice At_ (tk.length + 1) ct_) (tk ++ [x]) vb best m W) (hg : base ≤ g) :
    spec_AssignPupils.At g AN cN N Al cl l AT cT T base (.slice At_ tk.length ct_) tk vb best m (W.setCell ⟨g, 3, none⟩ (.slice At_ tk.length ct_)) ∧ Below base W (W.setCell ⟨g, 3, none⟩ (.slice At_ tk.length ct_)) :=
  h.put hg 3 (.slice At_ tk.length ct_) _ vb tk best m rfl (by have := Kd.R_take h.tk_ (m := tk.length) (by simp); simpa using this) h.best_ (fun k hk => h.ne_ k (by cases At_ <;> exact hk))
end
set_option maxHeartbeats 8000000 in
set_option maxRecDepth 100000 in
theorem spec_AssignPupils.walk (g : Nat) (AN : Option Addr) (cN : Nat) (N : List Int) (Al : Option Addr) (cl : Nat) (l : List S56) (AT : Option Addr) (cT : Nat) (T : List Int) (hcN : N.length ≤ cN) (hcl : l.length ≤ cl) (hcT : T.length ≤ cT) (base : Nat) (hg : base ≤ g) : ∀ (n k : Nat), k ≤ n → ∀ (vt : Value) (tk : List Int) (vb : Value) (best : List Int) (m d : Int) (r1 : List Int) (r2 : Int) (W : World) (_ : spec_AssignPupils.At g AN cN N Al cl l AT cT T base vt tk vb best m W) (_ : spec_AssignPupils.wf k N l T tk best m d = some (r1, r2)),
    Calls Tryd.prog 41 #[.pointer (some ⟨g, 0, none⟩), .int .i64 d] W fun e w' => e = .returned (.tuple #[]) ∧ (∃ vt' vb', spec_AssignPupils.At g AN cN N Al cl l AT cT T base vt' tk vb' r1 r2 w') ∧ Below base W w' := by
  intro n
  induction n with
  | zero =>
    intro k hk vt tk vb best m d r1 r2 W _ h
    obtain rfl : k = 0 := by omega
    exact absurd h (by simp [spec_AssignPupils.wf])
  | succ n ih =>
    intro k hk vt tk vb best m d r1 r2 W hAt h
    cases k with
    | zero => exact absurd h (by simp [spec_AssignPupils.wf])
    | succ k =>
      rw [spec_AssignPupils.wf] at h
      have HA := Aside0.mk hAt
      have HK := Aside0.mk hk
      obtain ⟨At_, ct_, rfl, _, _⟩ := Kd.R_reads hAt.tk_
      have hc2 : W.cell? ⟨g, 2, none⟩ = some (.slice AT T.length cT) := (blk_cell hAt.blk 2).trans rfl
      have hc3 : W.cell? ⟨g, 3, none⟩ = some (.slice At_ tk.length ct_) := (blk_cell hAt.blk 3).trans rfl
      have hc5 : W.cell? ⟨g, 5, none⟩ = some (.int .i64 m) := (blk_cell hAt.blk 5).trans rfl
      clear hAt hk
      by_cases c1 : wrap64 (d + wrap64 ((T.length : Int) - (tk.length : Int))) ≤ m
      · rw [if_pos c1] at h
        obtain ⟨rfl, rfl⟩ := Prod.mk.inj (Option.some.inj h)
        have d1 : decide (wrap64 (d + wrap64 ((T.length : Int) - (tk.length : Int))) ≤ m) = true := decide_eq_true c1
        clear c1 h
        go_enter Tryd.func41, Tryd.ntmps41
        go_wp2
        go_quiet (fail)
        go_wp2
        refine bodyPost_ret (results_none rfl _ _ _) rfl ?_
        exact ⟨rfl, ⟨_, _, HA.out.drewN _⟩, (pw_below_drewN (Below.refl _ _) _)⟩
      · rw [if_neg c1] at h
        have d1 : decide (wrap64 (d + wrap64 ((T.length : Int) - (tk.length : Int))) ≤ m) = false := decide_eq_false c1
        clear c1
        by_cases c2 : (tk.length : Int) = (T.length : Int)
        · rw [if_pos c2] at h
          by_cases c3 : tk.length < 1000000
          case neg => rw [if_neg c3] at h; exact absurd h (by simp)
          rw [if_pos c3] at h
          obtain ⟨rfl, rfl⟩ := Prod.mk.inj (Option.some.inj h)
          have d2 : ((tk.length : Int) == (T.length : Int)) = true := beq_iff_eq.2 c2
          have d3 : decide ((tk.length : Int) = (T.length : Int)) = true := decide_eq_true c2
          have C3 := Aside0.mk c3
          clear c2 c3 h
          go_enter Tryd.func41, Tryd.ntmps41
          have hf5 : W.frozen? ⟨g, 5, none⟩ = false := blk_frozen HA.out.blk 5
          go_wp2
          go_quiet (fail)
          obtain ⟨hP1, hP2⟩ := spec_AssignPupils.At.put (HA.out.drewN nq) hg 5 (.int .i64 d) _ vb tk best d rfl (HA.out.drewN nq).tk_ (HA.out.drewN nq).best_ HA.out.ne_
          have HP1 := Aside0.mk hP1
          have HP2 := Aside0.mk hP2
          clear hP1 hP2
          go_wp2_with (((with_reducible refine gate_callee (f := 32) rfl ?_); refine Hl.gl (some 41) rfl rfl Tryd.func32 (by kernel_rfl) rfl #[.slice At_ tk.length ct_] rfl ?_; (with_reducible refine (spec_l00Own.calls At_ ct_ tk tk _ ?s1 ?s2 ?s3).mono ?_); (case s1 => exact (Kd.R_reads' HP1.out.tk_).2.2); (case s2 => exact (Kd.R_reads' HP1.out.tk_).2.1); (case s3 => have := C3.out; unfold spec_l00Own.f; simp only [Option.bind_some]; rw [if_pos (by simp; omega)]; simp); rintro e w2 ⟨v41, rfl, ho, hb⟩; obtain ⟨A41, c41, rfl, _, _⟩ := Kd.R_reads ho; refine ⟨_, rfl, ?_⟩; have HA2 := Aside0.mk (HP1.out.below hb); have HO := Aside0.mk ho; have HB2 := Aside0.mk (HP2.out.trans (hb.mono HP1.out.size_)); have hf4 : w2.frozen? ⟨g, 4, none⟩ = false := blk_frozen HA2.out.blk 4; have hc4 : w2.cell? ⟨g, 4, none⟩ = some vb := (blk_cell HA2.out.blk 4).trans rfl; clear ho hb))
          refine bodyPost_ret (results_none rfl _ _ _) rfl ?_
          obtain ⟨hQ1, hQ2⟩ := spec_AssignPupils.At.put HA2.out hg 4 (.slice A41 tk.length c41) _ (.slice A41 tk.length c41) tk tk d rfl HA2.out.tk_ (Kd.R_lower HO.out HP1.out.size_) (fun k hk e => by
            have h1 := Kd.R_lt HP1.out.tk_ k hk
            have h2 := Kd.R_base HO.out k e.symm
            omega)
          exact ⟨rfl, ⟨_, _, hQ1⟩, ((pw_below_drewN (Below.refl _ _) _).trans HB2.out).trans hQ2⟩
        · rw [if_neg c2] at h
          obtain ⟨⟨b1, m1⟩, A1, h⟩ := Option.bind_eq_some_iff.mp h
          by_cases c3 : tk.length < 1000000
          case neg => rw [if_neg c3] at h; exact absurd h (by simp)
          rw [if_pos c3] at h
          have d2 : ((tk.length : Int) == (T.length : Int)) = false := beq_eq_false_iff_ne.2 c2
          have d3 : decide ((tk.length : Int) = (T.length : Int)) = false := decide_eq_false c2
          have C3 := Aside0.mk c3
          have HL := Aside0.mk A1
          have HH := Aside0.mk h
          clear c2 c3 h A1
          go_enter Tryd.func41, Tryd.ntmps41
          go_wp2
          go_quiet (fail)
          go_wp2
          go_loopg [5] k (fun kq v5 w' => ∃ (vt2 vb2 : Value) (best2 : List Int) (m2 i : Int), v5 = .int .i64 i ∧ Aside0 (spec_AssignPupils.At g AN cN N Al cl l AT cT T base vt2 tk vb2 best2 m2 w') ∧ Aside0 (spec_AssignPupils.wl kq N l T tk best2 m2 d i = some (b1, m1)) ∧ Aside0 (kq ≤ k) ∧ Aside0 (Below base W w'))
          case atStart => exact ⟨_, vb, best, m, 0, rfl, ⟨HA.out.drewN _⟩, HL, ⟨Nat.le_refl _⟩, ⟨pw_below_drewN (Below.refl _ _) _⟩⟩
          case round =>
            clear HA HL hc2 hc3 hc5 d1 d2 d3
            obtain ⟨vt2, vb2, best2, m2, i, rfl, HA, HL, HK1, HB⟩ := hrel
            cases gk with
            | zero => exact absurd HL.out (by simp [spec_AssignPupils.wl])
            | succ k1 =>
              have h := HL.out
              clear HL
              rw [spec_AssignPupils.wl] at h
              have hc1 := (blk_cell HA.out.blk 1).trans (show _ = some (Value.slice Al l.length cl) from rfl)
              by_cases e1 : i < (l.length : Int)
              · rw [if_pos e1] at h
                have d3 : decide (i < (l.length : Int)) = true := decide_eq_true e1
                by_cases e2 : 0 ≤ i
                case neg => rw [if_neg e2] at h; exact absurd h (by simp)
                rw [if_pos e2] at h
                obtain ⟨t1, A1, h⟩ := Option.bind_eq_some_iff.mp h
                have HT1 := Aside0.mk A1
                clear A1
                obtain ⟨At2, ct2, rfl, _, _⟩ := Kd.R_reads HA.out.tk_
                have hc3 := (blk_cell HA.out.blk 3).trans (show _ = some (Value.slice At2 tk.length ct2) from rfl)
                by_cases e3 : t1 = true
                · rw [if_pos e3] at h
                  subst e3
                  have HL := Aside0.mk h
                  clear h
                  have E1 := Aside0.mk e1
                  have E2 := Aside0.mk e2
                  clear e1 e2
                  go_wp2
                  go_quiet (first | (go_at_call 61; (with_reducible refine (spec_l00Has.calls k1 At2 ct2 tk i true _ ?s1 ?s2 HT1.out).mono ?_); (case s1 => exact (Kd.R_reads' (HA.out.drewN _).tk_).2.2); (case s2 => exact (Kd.R_reads' HA.out.tk_).2.1); rintro e w' ⟨rfl, ⟨nd, rfl⟩⟩; (try exact dW_)))
                  go_wp2
                  go_roundg k1
                  case measure => have := HK1.out; omega
                  case rel => exact ⟨_, vb2, best2, m2, wrap64 (i + 1), rfl, ⟨HA.out.drewN _⟩, HL, ⟨by have := HK1.out; omega⟩, ⟨HB.out.trans (pw_below_drewN (Below.refl _ _) _)⟩⟩
                · rw [if_neg e3] at h
                  obtain rfl : t1 = false := Bool.eq_false_iff.mpr e3
                  clear e3
                  by_cases e4 : tk.length < T.length
                  case neg => rw [if_neg e4] at h; exact absurd h (by simp)
                  rw [if_pos e4] at h
                  obtain ⟨t2, A2, h⟩ := Option.bind_eq_some_iff.mp h
                  have HT2 := Aside0.mk A2
                  clear A2
                  have hc0 := (blk_cell HA.out.blk 0).trans (show _ = some (Value.slice AN N.length cN) from rfl)
                  have hc2 := (blk_cell HA.out.blk 2).trans (show _ = some (Value.slice AT T.length cT) from rfl)
                  obtain ⟨adl, Ad, cd, hAl, hy0, hy1, hy2, hl2, hi2⟩ := at_T56 (HA.out.list_ _ (Below.refl _ _)) i e2 e1
                  obtain ⟨adt, hAT, hz0⟩ := Kd.at_int (HA.out.tasks_ _ (Below.refl _ _)) (tk.length : Int) (by omega) (by omega)
                  subst hAl hAT
                  rw [Int.toNat_natCast] at hz0
                  have HD := Aside0.mk hi2
                  have HE := Aside0.mk hl2
                  clear hi2 hl2
                  have p1 := eq_true e2
                  have p2 := eq_true e1
                  have p3 : (0 ≤ (tk.length : Int)) = True := eq_true (by omega)
                  have p4 : ((tk.length : Int) < (T.length : Int)) = True := eq_true (by omega)
                  have E1 := Aside0.mk e1
                  have E2 := Aside0.mk e2
                  have E4 := Aside0.mk e4
                  clear e1 e2 e4
                  by_cases e5 : t2 = true
                  · rw [if_pos e5] at h
                    subst e5
                    by_cases e6 : tk.length < 1000000
                    case neg => rw [if_neg e6] at h; exact absurd h (by simp)
                    rw [if_pos e6] at h
                    obtain ⟨⟨b3, m3⟩, A3, h⟩ := Option.bind_eq_some_iff.mp h
                    have HT3 := Aside0.mk A3
                    have C4 := Aside0.mk e6
                    have HL := Aside0.mk h
                    clear h A3 e6
                    go_wp2
                    go_quiet (first | (go_at_call 61; (with_reducible refine (spec_l00Has.calls k1 At2 ct2 tk i false _ ?s1 ?s2 HT1.out).mono ?_); (case s1 => exact (Kd.R_reads' (HA.out.drewN _).tk_).2.2); (case s2 => exact (Kd.R_reads' HA.out.tk_).2.1); rintro e w' ⟨rfl, ⟨nd, rfl⟩⟩; (try exact dW_)) | (go_at_call 57; (with_reducible refine (spec_l25Can.calls AN cN N _ (rd_T56 l i).f0 (rd_T56 l i).f1 Ad cd (rd_T56 l i).f2 (rd T (tk.length : Int)) true _ ?s1 ?s2 ?s3 ?s4 ?s5 ?s6 ?s7 HT2.out).mono ?_); (case s1 => exact (HA.out.drewN _).needs_ _ (Below.refl _ _)); (case s2 => exact hcN); (case s3 => exact Kd.C_drewN HD.out _); (case s4 => exact HE.out); (case s5 => first | (with_reducible assumption) | assumption | (go_simp; done)); (case s6 => first | (with_reducible assumption) | assumption | (go_simp; done)); (case s7 => first | (with_reducible assumption) | assumption | (go_simp; done)); rintro e w' ⟨rfl, ⟨nd, rfl⟩⟩; (try exact dW_)))
                    go_wp2_with (first | ((with_reducible refine gate_builtin (b := .append) (xs := #[.tmp 84, .tmp 86]) rfl ?_); at_builtin; refine Kd.R_append (Kd.int .i64) (w0 := wr) base rfl (.tmp 84) (.tmp 86) 22 2 (.int .i64 0) 8 rfl Tryd.underlying22 info2 rfl (by decide) (by omega) (.slice At2 tk.length ct2) tk i [.int .i64 i] (fun _ => True) (fun _ => False) rfl rfl ?aP (fun _ hk => hk.elim) ?aF ?aO ?aB ?aS ?aL ?_; (case aP => exact rfl); (case aB => exact pw_below_drewN (Below.refl _ _) _); (case aF => exact (fun _ _ => trivial)); (case aO => exact (HA.out.drewN _).tk_); (case aS => exact (HA.out.drewN _).size_); (case aL => have := C4.out; omega); intro v1 w1 ho hb hgr hat; obtain ⟨A1_, c1_, e_, _, _⟩ := Kd.R_reads ho; rw [List.length_append, List.length_singleton] at e_; subst e_; have HG := Aside0.mk (HA.out.grow (pw_below_drewN (Below.refl _ _) _) hgr hat); have HO := Aside0.mk ho; have HB1 := Aside0.mk hb; have hf3 : w1.frozen? ⟨g, 3, none⟩ = false := blk_frozen HG.out.1 3; have hg3 : w1.cell? ⟨g, 3, none⟩ = some (.slice At2 tk.length ct2) := (blk_cell HG.out.1 3).trans rfl; clear ho hb hgr hat) | ((with_reducible refine gate_callee (f := 41) rfl ?_); obtain ⟨hP1, hP2⟩ := HA.out.grown hg HG.out HO.out HB1.out; refine Hl.gl (some 93) rfl rfl Tryd.func41 (by kernel_rfl) rfl #[.pointer (some ⟨g, 0, none⟩), .int .i64 (wrap64 (d + 1))] rfl ?_; (with_reducible refine (ih k1 (by have := HK1.out; have := HK.out; omega) _ (tk ++ [i]) vb2 best2 m2 (wrap64 (d + 1)) b3 m3 _ hP1 HT3.out).mono ?_); rintro e w5 ⟨rfl, ⟨vt5, vb5, hA5⟩, hb5⟩; refine ⟨_, rfl, ?_⟩; obtain ⟨A5, c5, e_, hle5, _⟩ := Kd.R_reads hA5.tk_; rw [List.length_append, List.length_singleton] at e_; subst e_; have HA5 := Aside0.mk hA5; have HB5 := Aside0.mk (hP2.trans hb5); have hf53 : w5.frozen? ⟨g, 3, none⟩ = false := blk_frozen hA5.blk 3; have hc53 : w5.cell? ⟨g, 3, none⟩ = some (.slice A5 (tk.length + 1) c5) := (blk_cell hA5.blk 3).trans rfl; have hs1 : ((tk.length : Int) ≤ (c5 : Int)) = True := eq_true (by rw [List.length_append, List.length_singleton] at hle5; omega); have hs2 : (tk.length ≤ c5) = True := eq_true (by rw [List.length_append, List.length_singleton] at hle5; omega); have hs3 : (0 ≤ (tk.length : Int)) = True := eq_true (by omega); clear hP1 hP2 hA5 hb5 hle5))
                    obtain ⟨hQ1, hQ2⟩ := HA5.out.back hg
                    go_roundg k1
                    case measure => have := HK1.out; omega
                    case rel => exact ⟨_, vb5, b3, m3, wrap64 (i + 1), rfl, ⟨hQ1⟩, HL, ⟨by have := HK1.out; omega⟩, ⟨(HB.out.trans HB5.out).trans hQ2⟩⟩
                  · rw [if_neg e5] at h
                    obtain rfl : t2 = false := Bool.eq_false_iff.mpr e5
                    clear e5
                    have HL := Aside0.mk h
                    clear h
                    go_wp2
                    go_quiet (first | (go_at_call 61; (with_reducible refine (spec_l00Has.calls k1 At2 ct2 tk i false _ ?s1 ?s2 HT1.out).mono ?_); (case s1 => exact (Kd.R_reads' (HA.out.drewN _).tk_).2.2); (case s2 => exact (Kd.R_reads' HA.out.tk_).2.1); rintro e w' ⟨rfl, ⟨nd, rfl⟩⟩; (try exact dW_)) | (go_at_call 57; (with_reducible refine (spec_l25Can.calls AN cN N _ (rd_T56 l i).f0 (rd_T56 l i).f1 Ad cd (rd_T56 l i).f2 (rd T (tk.length : Int)) false _ ?s1 ?s2 ?s3 ?s4 ?s5 ?s6 ?s7 HT2.out).mono ?_); (case s1 => exact (HA.out.drewN _).needs_ _ (Below.refl _ _)); (case s2 => exact hcN); (case s3 => exact Kd.C_drewN HD.out _); (case s4 => exact HE.out); (case s5 => first | (with_reducible assumption) | assumption | (go_simp; done)); (case s6 => first | (with_reducible assumption) | assumption | (go_simp; done)); (case s7 => first | (with_reducible assumption) | assumption | (go_simp; done)); rintro e w' ⟨rfl, ⟨nd, rfl⟩⟩; (try exact dW_)))
                    go_wp2
                    go_roundg k1
                    case measure => have := HK1.out; omega
                    case rel => exact ⟨_, vb2, best2, m2, wrap64 (i + 1), rfl, ⟨HA.out.drewN _⟩, HL, ⟨by have := HK1.out; omega⟩, ⟨HB.out.trans (pw_below_drewN (Below.refl _ _) _)⟩⟩
              · rw [if_neg e1] at h
                have d3 : decide (i < (l.length : Int)) = false := decide_eq_false e1
                obtain ⟨rfl, rfl⟩ := Prod.mk.inj (Option.some.inj h)
                clear h e1
                obtain ⟨At2, ct2, rfl, _, _⟩ := Kd.R_reads HA.out.tk_
                have hc3 := (blk_cell HA.out.blk 3).trans (show _ = some (Value.slice At2 tk.length ct2) from rfl)
                go_wp2_with (first | ((with_reducible refine gate_builtin (b := .append) (xs := #[.tmp 107, .tmp 108]) rfl ?_); at_builtin; refine Kd.R_append (Kd.int .i64) (w0 := wr) base rfl (.tmp 107) (.tmp 108) 22 2 (.int .i64 0) 8 rfl Tryd.underlying22 info2 rfl (by decide) (by omega) (.slice At2 tk.length ct2) tk (-1) [.int .i64 (-1)] (fun _ => True) (fun _ => False) rfl rfl ?aP (fun _ hk => hk.elim) ?aF ?aO ?aB ?aS ?aL ?_; (case aP => exact rfl); (case aB => exact Below.refl _ _); (case aF => exact (fun _ _ => trivial)); (case aO => exact HA.out.tk_); (case aS => exact HA.out.size_); (case aL => have := C3.out; omega); intro v1 w1 ho hb hgr hat; obtain ⟨A1_, c1_, e_, _, _⟩ := Kd.R_reads ho; rw [List.length_append, List.length_singleton] at e_; subst e_; have HG := Aside0.mk (HA.out.grow (Below.refl _ _) hgr hat); have HO := Aside0.mk ho; have HB1 := Aside0.mk hb; have hf3 : w1.frozen? ⟨g, 3, none⟩ = false := blk_frozen HG.out.1 3; have hg3 : w1.cell? ⟨g, 3, none⟩ = some (.slice At2 tk.length ct2) := (blk_cell HG.out.1 3).trans rfl; clear ho hb hgr hat) | ((with_reducible refine gate_callee (f := 41) rfl ?_); obtain ⟨hP1, hP2⟩ := HA.out.grown hg HG.out HO.out HB1.out; refine Hl.gl (some 114) rfl rfl Tryd.func41 (by kernel_rfl) rfl #[.pointer (some ⟨g, 0, none⟩), .int .i64 d] rfl ?_; (with_reducible refine (ih k (by have := HK.out; omega) _ (tk ++ [-1]) vb2 best2 m2 d r1 r2 _ hP1 HH.out).mono ?_); rintro e w5 ⟨rfl, ⟨vt5, vb5, hA5⟩, hb5⟩; refine ⟨_, rfl, ?_⟩; obtain ⟨A5, c5, e_, hle5, _⟩ := Kd.R_reads hA5.tk_; rw [List.length_append, List.length_singleton] at e_; subst e_; have HA5 := Aside0.mk hA5; have HB5 := Aside0.mk (hP2.trans hb5); have hf53 : w5.frozen? ⟨g, 3, none⟩ = false := blk_frozen hA5.blk 3; have hc53 : w5.cell? ⟨g, 3, none⟩ = some (.slice A5 (tk.length + 1) c5) := (blk_cell hA5.blk 3).trans rfl; have hs1 : ((tk.length : Int) ≤ (c5 : Int)) = True := eq_true (by rw [List.length_append, List.length_singleton] at hle5; omega); have hs2 : (tk.length ≤ c5) = True := eq_true (by rw [List.length_append, List.length_singleton] at hle5; omega); have hs3 : (0 ≤ (tk.length : Int)) = True := eq_true (by omega); clear hP1 hP2 hA5 hb5 hle5))
                obtain ⟨hQ1, hQ2⟩ := HA5.out.back hg
                go_end0
                exact ⟨rfl, ⟨_, _, hQ1⟩, (HB.out.trans HB5.out).trans hQ2⟩
set_option maxHeartbeats 8000000 in
set_option maxRecDepth 100000 in
theorem spec_AssignPupils.calls (k : Nat) (A0 : Option Addr) (c0 : Nat) (l0 : List Int) (A1 : Option Addr) (c1 : Nat) (l1 : List S56) (A2 : Option Addr) (c2 : Nat) (l2 : List Int) (r1 : List Int) (r2 r3 : Int) (w : World) (hr0 : Kd.C (Kd.int .i64) w A0 l0.length l0) (hc0 : l0.length ≤ c0) (hr1 : Kd.C k56 w A1 l1.length l1) (hc1 : l1.length ≤ c1) (hr2 : Kd.C (Kd.int .i64) w A2 l2.length l2) (hc2 : l2.length ≤ c2) (h : spec_AssignPupils.f k l0 l1 l2 = some (r1, r2, r3)) :
    Calls Tryd.prog 16 #[.slice A0 l0.length c0, .slice A1 l1.length c1, .slice A2 l2.length c2] w fun e w' => ∃ v0_ : Value, e = .returned (.tuple #[v0_, .int .i64 r2, .int .i64 r3]) ∧ Kd.R (Kd.int .i64) 2 w' w.heap.size (fun _ => True) v0_ r1 ∧ Below w.heap.size w w' := by
  have HR0 := Hl.am hr0
  have HC0 := Hl.am hc0
  have HR1 := Hl.am hr1
  have HC1 := Hl.am hc1
  have HR2 := Hl.am hr2
  have HC2 := Hl.am hc2
  clear hr0 hc0 hr1 hc1 hr2 hc2
  unfold spec_AssignPupils.f at h
  obtain ⟨t1, A1_, h⟩ := Option.bind_eq_some_iff.mp h
  have A1_ := Aside0.mk A1_
  by_cases c1 : t1 = true
  case neg =>
    rw [if_neg c1] at h
    simp only [Option.some.injEq, Prod.mk.injEq] at h
    obtain ⟨rfl, rfl, rfl⟩ := h
    replace c1 := Bool.eq_false_iff.mpr c1
    subst c1
    go_enter Tryd.func16, Tryd.ntmps16
    go_wp2_with (((with_reducible refine gate_callee (f := 40) rfl ?_); refine Hl.gl (some 13) rfl rfl Tryd.func40 (by kernel_rfl) rfl #[.slice A0 l0.length c0, .slice A1 l1.length c1] rfl ?_; (with_reducible refine (spec_l25Ok.calls k _ _ l0 _ _ l1 false _ ?side1 ?side2 ?side3 ?side4 A1_.out).mono ?_); (case side1 => exact Hl.cc HR0.out); (case side2 => exact HC0.out); (case side3 => exact Hl.cc HR1.out); (case side4 => exact HC1.out); rintro e w' ⟨rfl, ⟨nd, rfl⟩⟩; refine ⟨_, rfl, ?_⟩))
    go_ret3
    exact ⟨_, rfl, Kd.R_nil _ _ _ _ _, pw_below_drewN (Below.refl _ _) _⟩
  rw [if_pos c1] at h
  subst c1
  obtain ⟨t2, A2_, h⟩ := Option.bind_eq_some_iff.mp h
  have A2_ := Aside0.mk A2_
  have HH := Aside0.mk h
  clear h
  go_enter Tryd.func16, Tryd.ntmps16
  go_wp2_with (((with_reducible refine gate_callee (f := 40) rfl ?_); refine Hl.gl (some 13) rfl rfl Tryd.func40 (by kernel_rfl) rfl #[.slice A0 l0.length c0, .slice A1 l1.length c1] rfl ?_; (with_reducible refine (spec_l25Ok.calls k _ _ l0 _ _ l1 true _ ?side1 ?side2 ?side3 ?side4 A1_.out).mono ?_); (case side1 => exact Hl.cc HR0.out); (case side2 => exact HC0.out); (case side3 => exact Hl.cc HR1.out); (case side4 => exact HC1.out); rintro e w' ⟨rfl, ⟨nd, rfl⟩⟩; refine ⟨_, rfl, ?_⟩))
  go_loopg [9] k (fun kq v9 w' => ∃ (i : Int), v9 = .int .i64 i ∧ Aside0 (spec_AssignPupils.lt kq l0 l2 i = some t2) ∧ Aside0 (kq ≤ k) ∧ Aside0 (Below w.heap.size w w'))
  case atStart => exact ⟨0, rfl, A2_, ⟨Nat.le_refl _⟩, ⟨pw_below_drewN (Below.refl _ _) _⟩⟩
  case round =>
    clear A2_
    obtain ⟨i, rfl, HA, HK1, HB⟩ := hrel
    cases gk with
    | zero => exact absurd HA.out (by simp [spec_AssignPupils.lt])
    | succ k1 =>
      have h := HA.out
      clear HA
      rw [spec_AssignPupils.lt] at h
      by_cases e1 : i < (l2.length : Int)
      · rw [if_pos e1] at h
        have d3 : decide (i < (l2.length : Int)) = true := decide_eq_true e1
        by_cases e2 : 0 ≤ i
        case neg => rw [if_neg e2] at h; exact absurd h (by simp)
        rw [if_pos e2] at h
        obtain ⟨q, A3, h⟩ := Option.bind_eq_some_iff.mp h
        have HA2 := Aside0.mk A3
        clear A3
        obtain ⟨adt, hAT, hz0⟩ := Kd.at_int (Kd.C_below HR2.out HB.out) i e2 e1
        subst hAT
        have p1 := eq_true e2
        have p2 := eq_true e1
        clear e1 e2
        by_cases e3 : q = true
        · rw [if_pos e3] at h
          subst e3
          have HL := Aside0.mk h
          clear h
          go_wp2_with (((with_reducible refine gate_callee (f := 31) rfl ?_); refine Hl.gl (some 28) rfl rfl Tryd.func31 (by kernel_rfl) rfl #[.int .i64 (rd l2 i), .int .i64 0, .int .i64 (wrap64 ((l0.length : Int) - 1))] rfl ?_; (with_reducible refine (spec_l00In.calls (rd l2 i) 0 (wrap64 ((l0.length : Int) - 1)) true _ HA2.out).mono ?_); rintro e w' ⟨rfl, ⟨nd2, rfl⟩⟩; refine ⟨_, rfl, ?_⟩))
          go_roundg k1
          case measure => have := HK1.out; omega
          case rel => exact ⟨wrap64 (i + 1), rfl, HL, ⟨by have := HK1.out; omega⟩, ⟨pw_below_drewN HB.out _⟩⟩
        · rw [if_neg e3] at h
          obtain rfl : q = false := Bool.eq_false_iff.mpr e3
          obtain rfl := Option.some.inj h
          clear h e3
          have h := HH.out
          rw [if_neg (by decide)] at h
          simp only [Option.some.injEq, Prod.mk.injEq] at h
          obtain ⟨rfl, rfl, rfl⟩ := h
          go_wp2_with (((with_reducible refine gate_callee (f := 31) rfl ?_); refine Hl.gl (some 28) rfl rfl Tryd.func31 (by kernel_rfl) rfl #[.int .i64 (rd l2 i), .int .i64 0, .int .i64 (wrap64 ((l0.length : Int) - 1))] rfl ?_; (with_reducible refine (spec_l00In.calls (rd l2 i) 0 (wrap64 ((l0.length : Int) - 1)) false _ HA2.out).mono ?_); rintro e w' ⟨rfl, ⟨nd2, rfl⟩⟩; refine ⟨_, rfl, ?_⟩))
          go_ret3
          exact ⟨_, rfl, Kd.R_nil _ _ _ _ _, pw_below_drewN HB.out _⟩
      · rw [if_neg e1] at h
        have d3 : decide (i < (l2.length : Int)) = false := decide_eq_false e1
        obtain rfl := Option.some.inj h
        clear h e1
        have h := HH.out
        clear HH
        rw [if_pos rfl] at h
        by_cases c3 : (l2.length : Int) > 6
        · rw [if_pos c3] at h
          simp only [Option.some.injEq, Prod.mk.injEq] at h
          obtain ⟨rfl, rfl, rfl⟩ := h
          have d1 : decide ((l2.length : Int) > 6) = true := decide_eq_true c3
          have d2 : decide ((6 : Int) < (l2.length : Int)) = true := decide_eq_true c3
          have d4 : decide (6 < l2.length) = true := decide_eq_true (by omega)
          clear c3
          go_wp2
          go_ret3
          exact ⟨_, rfl, Kd.R_nil _ _ _ _ _, HB.out⟩
        · rw [if_neg c3] at h
          have d1 : decide ((l2.length : Int) > 6) = false := decide_eq_false c3
          have d2 : decide ((6 : Int) < (l2.length : Int)) = false := decide_eq_false c3
          have d4 : decide (6 < l2.length) = false := decide_eq_false (by omega)
          clear c3
          by_cases c4 : (l1.length : Int) > 6
          · rw [if_pos c4] at h
            simp only [Option.some.injEq, Prod.mk.injEq] at h
            obtain ⟨rfl, rfl, rfl⟩ := h
            have d5 : decide ((l1.length : Int) > 6) = true := decide_eq_true c4
            have d6 : decide ((6 : Int) < (l1.length : Int)) = true := decide_eq_true c4
            have d7 : decide (6 < l1.length) = true := decide_eq_true (by omega)
            clear c4
            go_wp2
            go_ret3
            exact ⟨_, rfl, Kd.R_nil _ _ _ _ _, HB.out⟩
          · rw [if_neg c4] at h
            have d5 : decide ((l1.length : Int) > 6) = false := decide_eq_false c4
            have d6 : decide ((6 : Int) < (l1.length : Int)) = false := decide_eq_false c4
            have d7 : decide (6 < l1.length) = false := decide_eq_false (by omega)
            clear c4
            obtain ⟨⟨b, m⟩, A4, h⟩ := Option.bind_eq_some_iff.mp h
            simp only [Option.some.injEq, Prod.mk.injEq] at h
            obtain ⟨rfl, rfl, rfl⟩ := h
            have A4 := Aside0.mk A4
            go_wp2_with (first | ((with_reducible refine gate_dst (N := 39) rfl ?_); refine Kd.R_lit (Kd.int .i64) _ 2 ?hg (N := 39) ?hd (xs := ([] : List Int)) (inner := []) (ok := fun _ => True) (okp := fun _ => True) ?hr ?hp (fun _ hk => hk) trivial (Below.refl _ _) (Nat.le_refl _) (by simp) ?_; (case hd => rfl); (case hg => rfl); (case hr => first | (go_simp; done) | (go_simp; rfl)); (case hp => exact (Reps.none _ _)); intro v39 w39 ho39 hb39 hg_ hnew_; clear hg_ hnew_; obtain ⟨A39, c39, rfl, _, _⟩ := Kd.R_reads ho39; have HO39 := Hl.am ho39; have HB39 := Hl.am (below_step HB.out hb39); clear ho39 hb39) | ((with_reducible refine gate_dst (N := 40) rfl ?_); refine Kd.R_lit (Kd.int .i64) _ 2 ?hg (N := 40) ?hd (xs := ([] : List Int)) (inner := []) (ok := fun _ => True) (okp := fun _ => True) ?hr ?hp (fun _ hk => hk) trivial (Below.refl _ _) (Nat.le_refl _) (by simp) ?_; (case hd => rfl); (case hg => rfl); (case hr => first | (go_simp; done) | (go_simp; rfl)); (case hp => exact (Reps.none _ _)); intro v40 w40 ho40 hb40 hg_ hnew_; clear hg_ hnew_; obtain ⟨A40, c40, rfl, _, _⟩ := Kd.R_reads ho40; have HN := Hl.am (fun (k : Nat) (hk : (Value.slice A39 0 c39).ownBlock = some k) (e_ : some k = (Value.slice A40 0 c40).ownBlock) => Nat.lt_irrefl _ (Nat.lt_of_lt_of_le (Kd.R_lt HO39.out k hk) (Kd.R_base ho40 k e_.symm))); have HO39b := Hl.am (Kd.R_below HO39.out hb40); have HO40 := Hl.am ho40; have HB40 := Hl.am (below_step HB39.out hb40); clear ho40 hb40) | ((with_reducible refine gate_dst (N := 42) rfl ?_); refine box_event ?hg (N := 42) ?hd (cs := #[.slice A0 l0.length c0, .slice A1 l1.length c1, .slice A2 l2.length c2, .slice A39 0 c39, .slice A40 0 c40, .int .i64 (-1)]) (t := 64) ?hr ?_; (case hd => rfl); (case hg => rfl); (case hr => first | (go_simp; done) | (go_simp; rfl)); intro g hg w7 hbk hb; have HG := Hl.am (show w.heap.size ≤ g by rw [hg]; exact HB40.out.size); have HB7 := Hl.am (below_step HB40.out hb); have HA := Hl.am (show spec_AssignPupils.At g A0 c0 l0 A1 c1 l1 A2 c2 l2 w.heap.size (.slice A39 0 c39) [] (.slice A40 0 c40) [] (-1) w7 from ⟨hbk, Kd.R_lower (Kd.R_below HO39b.out hb) HB.out.size, Kd.R_lower (Kd.R_below HO40.out hb) HB39.out.size, fun k hk e_ => HN.out k hk e_, fun W' h2 => Kd.C_below HR0.out (HB7.out.trans h2), fun W' h2 => Kd.C_below HR1.out (HB7.out.trans h2), fun W' h2 => Kd.C_below HR2.out (HB7.out.trans h2), HB7.out.size⟩); clear hg hbk hb) | ((with_reducible refine gate_callee (f := 41) rfl ?_); refine Hl.gl (some 44) rfl rfl Tryd.func41 (by kernel_rfl) rfl #[.pointer (some ⟨g, 0, none⟩), .int .i64 0] rfl ?_; (with_reducible refine (spec_AssignPupils.walk g A0 c0 l0 A1 c1 l1 A2 c2 l2 HC0.out HC1.out HC2.out w.heap.size HG.out k k (Nat.le_refl _) (.slice A39 0 c39) [] (.slice A40 0 c40) [] (-1) 0 b m w7 HA.out A4.out).mono ?_); rintro e w9 ⟨rfl, ⟨vt9, vb9, hA9⟩, hb9⟩; refine ⟨_, rfl, ?_⟩; have HA9 := Hl.am hA9; have HB9 := Hl.am (HB7.out.trans hb9); clear hA9 hb9))
            have hc4 : w9.cell? ⟨g, 4, none⟩ = some vb9 := (blk_cell HA9.out.blk 4).trans rfl
            have hc5 : w9.cell? ⟨g, 5, none⟩ = some (.int .i64 m) := (blk_cell HA9.out.blk 5).trans rfl
            go_wp2
            repeat (go_quiet (fail); try go_wp2)
            go_ret3
            exact ⟨vb9, rfl, Kd.R_drewN HA9.out.best_ _, pw_below_drewN HB9.out _⟩

/-! ### slices_Clone_int64_int64: function 37 -/
def slices_Clone_int64_int64.f (l0 : List (Int)) : Option (List (Int)) := if l0.length < 17592186044416 then some l0 else none
set_option maxHeartbeats 8000000 in
set_option maxRecDepth 100000 in
theorem slices_Clone_int64_int64.calls (A0 : Option Addr) (c0 : Nat) (l0 : List (Int)) (r : List (Int)) (w : World) (hr0 : Kd.C (Kd.int .i64) w A0 l0.length l0) (hc0 : l0.length ≤ c0) (h : slices_Clone_int64_int64.f l0 = some r) :
    Calls Tryd.prog 37 #[.slice A0 l0.length c0] w fun e w' => ∃ v0_ : Value, e = .returned (v0_) ∧ Kd.R (Kd.int .i64) 2 w' w.heap.size (fun _ => True) v0_ r ∧ Below w.heap.size w w' := by
  unfold slices_Clone_int64_int64.f at h
  split at h
  case isFalse => cases h
  case isTrue hlim =>
  obtain rfl := Option.some.inj h
  clear h
  cases A0 with
  | none =>
    have hz : l0.length = 0 := by
      rcases Nat.eq_zero_or_pos l0.length with h | h
      · exact h
      · obtain ⟨ad, e, _⟩ := hr0.2.2 h
        cases e
    obtain rfl : l0 = [] := List.length_eq_zero_iff.1 hz
    clear hr0 hc0 hlim hz
    have hnil := fun w => Lib.run_eql_slice_nil (P := Tryd.prog) w 22 2 none 0 c0 0 0 Tryd.underlying22
    go_enter Tryd.func37, Tryd.ntmps37
    go_wp2
    go_ret
    exact ⟨_, rfl, Kd.R_nil _ _ _ _ _, Below.refl _ _⟩
  | some ad =>
    have HR0 := Aside0.mk hr0
    have HC0 := Aside0.mk hc0
    have LMc := Aside0.mk hlim
    clear hr0 hc0 hlim
    have HB := Aside0.mk (Below.refl w.heap.size w)
    obtain ⟨y1, hy1⟩ : ∃ y_ : List (Int), y_ = ([] : List (Int)) := ⟨_, rfl⟩
    have hnil := fun w => Lib.run_eql_slice_nil (P := Tryd.prog) w 22 2 (some ad) l0.length c0 0 0 Tryd.underlying22
    have Ny1 := Aside0.mk hy1
    have Ny2 := Aside0.mk (show y1 ++ l0 = l0 by rw [hy1]; rfl)
    have Ny3 := Aside0.mk (show y1.length + l0.length < 17592186044416 by rw [hy1]; have := LMc.out; simpa using this)
    clear hy1
    go_enter Tryd.func37, Tryd.ntmps37
    go_wp2_with (first | ((with_reducible refine gate_dst (N := 5) rfl ?_); refine Kd.R_lit (Kd.int .i64) _ 2 ?hg (N := 5) ?hd (xs := ([] : List (Int))) (inner := []) (ok := fun _ => True) (okp := fun _ => True) ?hr ?hp (fun _ hk => hk) trivial (Below.refl _ _) (Nat.le_refl _) (by simp) ?_; (case hd => rfl); (case hg => rfl); (case hr => first | (go_simp; done) | (go_simp; rfl)); (case hp => exact (Reps.none _ _)); intro v153 w3 ho4 hb hg_ hnew_; clear hg_ hnew_; (first | rw [← Ny1.out] at ho4 | (simp only [Int.reduceToNat] at ho4; rw [← Ny1.out] at ho4)); have n0_ := Aside0.mk (Kd.R_lower ho4 (below_size (Hl.bb HB))); have n1_ := Aside0.mk (below_step (Hl.bb HB) hb); clear HB; have HO154 := n0_; have HB := n1_; clear n0_ n1_; clear hb ho4) | ((with_reducible refine gate_builtin (b := .append) (xs := #[.tmp 5, .tmp 6]) rfl ?_); at_builtin; refine Kd.R_append_rows (Kd.int .i64) (w0 := w) w.heap.size rfl (.tmp 5) (.tmp 6) 22 2 (.int .i64 0) 8 rfl Tryd.underlying22 info2 rfl (by decide) (by omega) v153 y1 l0 _ _ _ (fun _ => True) (fun _ => False) rfl rfl ?aO ?aR (fun _ _ h => h) (fun _ h => h.elim) ?aF ?aB ?aS ?aL ?_; (case aR => repeat (first | exact (Kd.C_below HR0.out HB.out) | (with_reducible refine Kd.C_alloc ?_ _) | (with_reducible refine Kd.C_drewN ?_ _) | (with_reducible refine Kd.C_drew ?_))); (case aB => exact (Hl.bb HB)); (case aF => exact (fun _ _ => trivial)); (case aO => exact (by (with_reducible repeat (first | apply Kd.R_alloc | apply Kd.R_drewN | apply Kd.R_drew)); exact HO154.out)); (case aS => exact (below_size (Hl.bb HB))); (case aL => have := Ny3.out; omega); intro v156 w5 ho hb hg hat; rw [Ny2.out] at ho; have n0_ := Aside0.mk (hb); have n1_ := Aside0.mk (ho); clear HB; clear HO154; have HB := n0_; have HO157 := n1_; clear n0_ n1_; clear ho hb hg hat))
    go_ret
    exact ⟨_, rfl, by (with_reducible repeat (first | apply Kd.R_alloc | apply Kd.R_drewN | apply Kd.R_drew)); exact HO157.out, Hl.bb HB⟩

/-! ### impl_check: function 42 -/
def impl_check.f (a0 : Bool) (a1 : Bool) : Option (Int) := if a0 = true then (if a1 = true then (some 0) else (some 2)) else (some 1)
set_option maxHeartbeats 8000000 in
set_option maxRecDepth 100000 in
theorem impl_check.calls (a0 : Bool) (a1 : Bool) (r : Int) (w : World) (h : impl_check.f a0 a1 = some r) :
  Calls Tryd.prog 42 #[.bool a0, .bool a1] w fun e w' => e = .returned (.int .i64 r) ∧ Drawn0 w w' := by
 have H : (if a0 = true then (if a1 = true then (some 0) else (some 2)) else (some 1)) = some r := h
 clear h
 by_cases c3 : a0 = true
 ·
  subst c3
  rw [if_pos rfl] at H
  (try dsimp only at H)
  by_cases c4 : a1 = true
  ·
   subst c4
   rw [if_pos rfl] at H
   (try dsimp only at H)
   obtain rfl := Option.some.inj H
   go_enter Tryd.func42, Tryd.ntmps42
   go_wp2
   go_ret
   exact ⟨by first | rfl | (simp; done) | (simp [*]; done), by repeat (first | exact Drawn0.refl _ | apply Drawn0.step)⟩
  ·
   replace c4 := Bool.eq_false_iff.mpr c4
   subst c4
   rw [if_neg (show ¬ (false = true) by decide)] at H
   (try dsimp only at H)
   obtain rfl := Option.some.inj H
   go_enter Tryd.func42, Tryd.ntmps42
   go_wp2
   go_ret
   exact ⟨by first | rfl | (simp; done) | (simp [*]; done), by repeat (first | exact Drawn0.refl _ | apply Drawn0.step)⟩
 ·
  replace c3 := Bool.eq_false_iff.mpr c3
  subst c3
  rw [if_neg (show ¬ (false = true) by decide)] at H
  (try dsimp only at H)
  obtain rfl := Option.some.inj H
  go_enter Tryd.func42, Tryd.ntmps42
  go_wp2
  go_ret
  exact ⟨by first | rfl | (simp; done) | (simp [*]; done), by repeat (first | exact Drawn0.refl _ | apply Drawn0.step)⟩

/-! ### impl_within: function 36 -/
def impl_within.f (a0 : Int) (a1 : Int) (a2 : Int) : Option (Bool) := if a0 ≥ a1 then (some (decide (a0 ≤ a2))) else (some false)
set_option maxHeartbeats 8000000 in
set_option maxRecDepth 100000 in
theorem impl_within.calls (a0 : Int) (a1 : Int) (a2 : Int) (r : Bool) (w : World) (h : impl_within.f a0 a1 a2 = some r) :
  Calls Tryd.prog 36 #[.int .i64 a0, .int .i64 a1, .int .i64 a2] w fun e w' => e = .returned (.bool r) ∧ Drawn0 w w' := by
 have H : (if a0 ≥ a1 then (some (decide (a0 ≤ a2))) else (some false)) = some r := h
 clear h
 by_cases c4 : a0 ≥ a1
 ·
  rw [if_pos c4] at H
  have c4b0 : decide (a1 ≤ a0) = true := decide_eq_true c4
  clear c4
  obtain rfl := Option.some.inj H
  go_enter Tryd.func36, Tryd.ntmps36
  go_wp2
  go_ret
  exact ⟨by first | rfl | (simp; done) | (simp [*]; done), by repeat (first | exact Drawn0.refl _ | apply Drawn0.step)⟩
 ·
  rw [if_neg c4] at H
  have c4b0 : decide (a1 ≤ a0) = false := decide_eq_false c4
  clear c4
  obtain rfl := Option.some.inj H
  go_enter Tryd.func36, Tryd.ntmps36
  go_wp2
  go_ret
  exact ⟨by first | rfl | (simp; done) | (simp [*]; done), by repeat (first | exact Drawn0.refl _ | apply Drawn0.step)⟩

/-! ### slices_IndexFunc_int64_int64: function 74 -/
set_option maxHeartbeats 8000000 in
set_option maxRecDepth 100000 in
theorem idxF_int64.calls (p : Int → Bool) (cl : Nat) (lb : Array Value) (eg : ∀ args w, (callFunc cl args).run Tryd.prog w = .ok (.enter cl args) w) (A0 : Option Addr) (c0 : Nat) (l0 : List Int) (w : World) (hr0 : Kd.C (Kd.int .i64) w A0 l0.length l0) (hc0 : l0.length ≤ c0) (hp : Hl.PredB Tryd.prog cl lb (fun x : Int => (.int .i64 x)) p w) :
    Calls Tryd.prog 74 #[.slice A0 l0.length c0, .func (.func cl) #[] lb] w fun e w' => e = .returned (.int .i64 (Hl.fidx p l0)) ∧ Below w.heap.size w w' := by
  have hbig : l0.length ≤ 9223372036854775807 := hr0.2.1
  have HR0 := Aside0.mk hr0
  have HC0 := Aside0.mk hc0
  have HP := Aside0.mk hp
  clear hr0 hc0 hp
  go_enter Tryd.func74, Tryd.ntmps74
  go_wp2
  go_loopg [5, 8] l0.length (fun gg _ s8 wr => ∃ x8 : Int, s8 = .int .i64 x8 ∧ Aside0 (0 ≤ x8 ∧ x8 ≤ l0.length) ∧ Aside0 (l0.length - x8.toNat ≤ gg) ∧ Aside0 (Below w.heap.size w wr) ∧ Aside0 (∀ j : Nat, (j : Int) < x8 → p (l0.getD j (0 : Int)) = false))
  case atStart => exact ⟨0, rfl, ⟨⟨by omega, by omega⟩⟩, ⟨by simp⟩, ⟨Below.refl _ w⟩, ⟨fun j hj => by omega⟩⟩
  case round =>
    obtain ⟨x8, rfl, BD, GG, BW, AA⟩ := hrel
    by_cases hlt : x8 < (l0.length : Int)
    · have hb0 : decide (x8 < (l0.length : Int)) = true := decide_eq_true hlt
      have h00 : 0 ≤ x8 := BD.out.1
      obtain ⟨ad, e0, hx_0⟩ := Kd.at_int HR0.out x8 h00 hlt
      cases e0
      replace hx_0 := (BW.out.cell (World.block_lt_of_cell? w _ hx_0)).trans hx_0
      have hcall := HP.out wr (rd l0 x8)  BW.out
      have hs8 : wrap64 (x8 + 1) = x8 + 1 := by unfold wrap64; omega
      have HS := Aside0.mk hs8
      have QQ := Aside0.mk hlt
      have PP := Aside0.mk h00
      replace hlt := eq_true hlt
      replace h00 := eq_true h00
      clear hs8
      cases hq : p (rd l0 x8) with
      | true =>
        rw [hq] at hcall
        have HQ := Aside0.mk hq
        clear hq
        go_wp2_with (go_at_fn cl; refine hcall.mono ?_; rintro e w' ⟨rfl, hb'⟩)
        go_ret
        refine ⟨?_, hb'⟩
        rw [Hl.fidx_hit p (0 : Int) l0 x8.toNat (by have := PP.out; have := QQ.out; omega) HQ.out (fun j hj => AA.out j (by have := PP.out; omega)), Int.toNat_of_nonneg PP.out]
        rfl
      | false =>
        rw [hq] at hcall
        have HQ := Aside0.mk hq
        clear hq
        go_wp2_with (go_at_fn cl; refine hcall.mono ?_; rintro e w' ⟨rfl, hb'⟩)
        go_roundg (l0.length - (x8 + 1).toNat)
        case measure => have := GG.out; have := PP.out; have := QQ.out; omega
        case rel =>
          refine ⟨x8 + 1, (by first | rfl | (rw [HS.out])), ⟨⟨by have := PP.out; omega, by have := QQ.out; omega⟩⟩, ⟨Nat.le_refl _⟩, ⟨hb'⟩, ⟨fun j hj => ?_⟩⟩
          by_cases hj2 : (j : Int) < x8
          · exact AA.out j hj2
          · obtain rfl : x8 = (j : Int) := by omega
            exact HQ.out
    · have hb0 : decide (x8 < (l0.length : Int)) = false := decide_eq_false hlt
      have h00 := Aside0.mk hlt
      clear hlt
      go_wp2
      go_ret
      refine ⟨?_, BW.out⟩
      rw [Hl.fidx_miss p (0 : Int) l0 (fun j hj => AA.out j (by have := h00.out; omega))]
      rfl

/-! ### slices_ContainsFunc_int64_int64: function 65 -/
set_option maxHeartbeats 8000000 in
set_option maxRecDepth 100000 in
theorem cntF_int64.calls (p : Int → Bool) (cl : Nat) (lb : Array Value) (eg : ∀ args w, (callFunc cl args).run Tryd.prog w = .ok (.enter cl args) w) (A0 : Option Addr) (c0 : Nat) (l0 : List Int) (w : World) (hr0 : Kd.C (Kd.int .i64) w A0 l0.length l0) (hc0 : l0.length ≤ c0) (hp : Hl.PredB Tryd.prog cl lb (fun x : Int => (.int .i64 x)) p w) :
    Calls Tryd.prog 65 #[.slice A0 l0.length c0, .func (.func cl) #[] lb] w fun e w' => e = .returned (.bool (l0.any p)) ∧ Below w.heap.size w w' := by
  rw [← Hl.fidx_any]
  have hcall := fun W (hW : W = w) => hW ▸ idxF_int64.calls p cl lb eg A0 c0 l0 w hr0 hc0 hp
  clear hr0 hc0 hp
  generalize Hl.fidx p l0 = r at hcall ⊢
  go_enter Tryd.func65, Tryd.ntmps65
  go_wp2_with (go_at_call 74; refine (hcall _ rfl).mono ?_; rintro e w' ⟨rfl, hb'⟩)
  go_ret
  exact ⟨rfl, hb'⟩

/-! ### impl_allWithin: function 44 -/
def impl_allWithin.f (l0 : List Int) (a1 : Int) (a2 : Int) : Option Bool := some (l0.all fun n => decide (a1 ≤ n ∧ n ≤ a2))
set_option maxHeartbeats 8000000 in
set_option maxRecDepth 100000 in
theorem impl_allWithin.lit (n a b : Int) (B1 B2 : Nat) (W : World) (h1 : W.cell? ⟨B1, 0, none⟩ = some (.int .i64 a)) (h2 : W.cell? ⟨B2, 0, none⟩ = some (.int .i64 b)) :
    Calls Tryd.prog 66 #[.int .i64 n, .pointer (some ⟨B1, 0, none⟩), .pointer (some ⟨B2, 0, none⟩)] W fun e w' => e = .returned (.bool (!decide (a ≤ n ∧ n ≤ b))) ∧ Drawn0 W w' := by
  have hw : impl_within.f n a b = some (decide (a ≤ n ∧ n ≤ b)) := by
    unfold impl_within.f
    by_cases h : n ≥ a
    · rw [if_pos h]
      by_cases h2 : n ≤ b
      · rw [decide_eq_true h2, decide_eq_true ⟨h, h2⟩]
      · rw [decide_eq_false h2, decide_eq_false (fun x => h2 x.2)]
    · rw [if_neg h, decide_eq_false (fun x => h x.1)]
  generalize decide (a ≤ n ∧ n ≤ b) = r at hw ⊢
  have HW := Aside0.mk hw
  clear hw
  go_enter Tryd.func66, Tryd.ntmps66
  go_wp2_with (go_at_call 36; refine (impl_within.calls n a b r _ HW.out).mono ?_; rintro e w' ⟨rfl, ⟨nd, rfl⟩⟩)
  go_ret
  exact ⟨rfl, ⟨_, rfl⟩⟩
set_option maxHeartbeats 8000000 in
set_option maxRecDepth 100000 in
theorem impl_allWithin.calls (A0 : Option Addr) (c0 : Nat) (l0 : List Int) (a1 : Int) (a2 : Int) (r : Bool) (w : World) (hr0 : Kd.C (Kd.int .i64) w A0 l0.length l0) (hc0 : l0.length ≤ c0) (h : impl_allWithin.f l0 a1 a2 = some r) :
    Calls Tryd.prog 44 #[.slice A0 l0.length c0, .int .i64 a1, .int .i64 a2] w fun e w' => e = .returned (.bool r) ∧ Below w.heap.size w w' := by
  obtain rfl := Option.some.inj h
  clear h
  have eg : ∀ args w, (callFunc 66 args).run Tryd.prog w = .ok (.enter 66 args) w := enters_of Tryd.func66 (by kernel_rfl) rfl
  have he : (l0.all fun n => decide (a1 ≤ n ∧ n ≤ a2)) = !(l0.any fun n => !decide (a1 ≤ n ∧ n ≤ a2)) := by simp [List.any_eq_not_all_not]
  rw [he]
  obtain ⟨w1, hw1⟩ : ∃ w1, w1 = (w.alloc (.cells #[.int .i64 a1] 2)).alloc (.cells #[.int .i64 a2] 2) := ⟨_, rfl⟩
  have hb1 : Below w.heap.size w w1 := by rw [hw1]; exact ((Below.refl _ w).alloc (Nat.le_refl _) _).alloc (by simp) _
  have hc := cntF_int64.calls (fun n => !decide (a1 ≤ n ∧ n ≤ a2)) 66 #[.pointer (some ⟨w.heap.size, 0, none⟩), .pointer (some ⟨w.heap.size + 1, 0, none⟩)] eg A0 c0 l0 w1 (Kd.C_below hr0 hb1) hc0 (fun W x hb => by
    have g1 : w1.cell? ⟨w.heap.size, 0, none⟩ = some (.int .i64 a1) := by rw [hw1]; simp
    have g2 : w1.cell? ⟨w.heap.size + 1, 0, none⟩ = some (.int .i64 a2) := by rw [hw1]; simp
    have hs : w1.heap.size = w.heap.size + 2 := by rw [hw1]; simp
    exact (impl_allWithin.lit x a1 a2 w.heap.size (w.heap.size + 1) W ((hb.cell (p := ⟨w.heap.size, 0, none⟩) (by simp; omega)).trans g1) ((hb.cell (p := ⟨w.heap.size + 1, 0, none⟩) (by simp; omega)).trans g2)).mono fun e w' ⟨he, hd⟩ => ⟨he, hb.trans (hd.below.mono hb.size)⟩)
  have HB1 := Aside0.mk hb1
  have HS1 : w.heap.size ≤ w1.heap.size := hb1.size
  have HS := Aside0.mk HS1
  clear hr0 hc0 hb1 HS1 he
  generalize (l0.any fun n => !decide (a1 ≤ n ∧ n ≤ a2)) = q at hc ⊢
  subst hw1
  go_enter Tryd.func44, Tryd.ntmps44
  go_wp2_with (go_at_call 65; refine hc.mono ?_; rintro e w' ⟨rfl, hb'⟩)
  go_ret
  exact ⟨rfl, HB1.out.trans (hb'.mono HS.out)⟩

end Go.Proofs.YtafkckoikobnjaaDoor.PFnTasks
