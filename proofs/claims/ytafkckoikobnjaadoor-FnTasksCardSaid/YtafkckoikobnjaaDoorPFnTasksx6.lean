/- Written by a program (ext.py). No conditions but those that each theorem states. -/
import Derived.Test.YtafkckoikobnjaaDoorPFnTasksx0
import Derived.Test.YtafkckoikobnjaaDoorPFnTasksx3
import Derived.Test.YtafkckoikobnjaaDoorPFnTasksx5
namespace Go.Proofs.YtafkckoikobnjaaDoor.PFnTasks
open Go.RowKit Go.Proofs.YtafkckoikobnjaaDoorW.PrintWords Go.Proofs.YtafkckoikobnjaaDoorW.PrintLast Go.Proofs.YtafkckoikobnjaaDoorW.PrintMore
attribute [local go_sem] max2_int min2_int max_two min_two max_three min_three max_four min_four Go.Proofs.YtafkckoikobnjaaDoor.Hl.isSome_set
set_option linter.unusedVariables false
set_option linter.unusedSimpArgs false

/-! ### impl_AssignPupils: function 17 -/
mutual
def impl_AssignPupils.wf : Nat → List Int → List S56 → List Int → List Int → Int → List Int → Int → Option (List Int × Int)
  | 0, _, _, _, _, _, _, _ => none
  | k + 1, N, l, T, b, m, ch, q => if (ch.length : Int) = (T.length : Int) then (if q > m then ((slices_Clone_int64_int64.f ch).bind fun c => some (c, q)) else some (b, m)) else (impl_AssignPupils.wl k N l T b m ch q 0).bind fun bm => if ch.length < 1000000 then impl_AssignPupils.wf k N l T bm.1 bm.2 (ch ++ [-1]) q else none
def impl_AssignPupils.wl : Nat → List Int → List S56 → List Int → List Int → Int → List Int → Int → Int → Option (List Int × Int)
  | 0, _, _, _, _, _, _, _, _ => none
  | k + 1, N, l, T, b, m, ch, q, i => if i < (l.length : Int) then (if 0 ≤ i then (if ch.length < T.length then ((impl_hasSkill.f N (rd_T56 l i).f0 (rd_T56 l i).f1 (rd_T56 l i).f2 (rd T (ch.length : Int))).bind fun h => if h = true then ((slices_Contains_int64_int64.f k ch i).bind fun c => if c = true then impl_AssignPupils.wl k N l T b m ch q (wrap64 (i + 1)) else if ch.length < 1000000 ∧ wrap64 (wrap64 (q + 1) - 1) = q then ((impl_AssignPupils.wf k N l T b m (ch ++ [i]) (wrap64 (q + 1))).bind fun bm => impl_AssignPupils.wl k N l T bm.1 bm.2 ch q (wrap64 (i + 1))) else none) else impl_AssignPupils.wl k N l T b m ch q (wrap64 (i + 1))) else none) else none) else some (b, m)
end
theorem impl_AssignPupils.mono_l : ∀ k, (∀ a b c d e f g, LeO (impl_AssignPupils.wf k a b c d e f g) (impl_AssignPupils.wf (k + 1) a b c d e f g)) ∧ (∀ a b c d e f g h, LeO (impl_AssignPupils.wl k a b c d e f g h) (impl_AssignPupils.wl (k + 1) a b c d e f g h))
  | 0 => ⟨fun _ _ _ _ _ _ _ r h => by simp [impl_AssignPupils.wf] at h, fun _ _ _ _ _ _ _ _ r h => by simp [impl_AssignPupils.wl] at h⟩
  | k + 1 => by
    obtain ⟨i1, i2⟩ := impl_AssignPupils.mono_l k
    refine ⟨?_, ?_⟩
    · intro a b c d e f g
      unfold impl_AssignPupils.wf
      repeat' first
        | exact i1 _ _ _ _ _ _ _
        | exact i2 _ _ _ _ _ _ _ _
        | (with_reducible exact LeO.refl _)
        | exact LeO.none _
        | refine LeO.ite ?_ ?_
        | refine LeO.bind ?_ (fun _ => ?_)
        | exact LeO.refl _
    · intro a b c d e f g h
      unfold impl_AssignPupils.wl
      repeat' first
        | exact i1 _ _ _ _ _ _ _
        | exact i2 _ _ _ _ _ _ _ _
        | exact slices_Contains_int64_int64.mono _ _ _
        | (with_reducible exact LeO.refl _)
        | exact LeO.none _
        | refine LeO.ite ?_ ?_
        | refine LeO.bind ?_ (fun _ => ?_)
        | exact LeO.refl _
def impl_AssignPupils.rest (k : Nat) (l0 : List Int) (l1 : List S56) (l2 : List Int) (t1 t2 : Bool) : Option (List Int × Int × Int) := (impl_check.f t1 t2).bind fun c => if c = 0 then (if (l1.length : Int) > 6 then some ([], 0, 5) else (impl_AssignPupils.wf k l0 l1 l2 [] (-1) [] 0).bind fun bm => some (bm.1, bm.2, 0)) else some ([], 0, c)
def impl_AssignPupils.f (k : Nat) (l0 : List Int) (l1 : List S56) (l2 : List Int) : Option (List Int × Int × Int) := (impl_ValidPupils.f k l0 l1).bind fun t1 => if (l2.length : Int) ≤ 6 then ((impl_allWithin.f l2 0 (wrap64 ((l0.length : Int) - 1))).bind fun t2 => impl_AssignPupils.rest k l0 l1 l2 t1 t2) else impl_AssignPupils.rest k l0 l1 l2 t1 false
theorem impl_AssignPupils.mono_r : ∀ k a b c d e, LeO (impl_AssignPupils.rest k a b c d e) (impl_AssignPupils.rest (k + 1) a b c d e) := by
  intro k a b c d e
  have i1 := (impl_AssignPupils.mono_l k).1
  unfold impl_AssignPupils.rest
  repeat' first
    | exact i1 _ _ _ _ _ _ _
    | (with_reducible exact LeO.refl _)
    | exact LeO.none _
    | refine LeO.ite ?_ ?_
    | refine LeO.bind ?_ (fun _ => ?_)
    | exact LeO.refl _
theorem impl_AssignPupils.mono : ∀ a0 a1 a2 k, LeO (impl_AssignPupils.f k a0 a1 a2) (impl_AssignPupils.f (k + 1) a0 a1 a2) := by
  intro a b c k
  have i1 := impl_AssignPupils.mono_r k
  unfold impl_AssignPupils.f
  repeat' first
    | exact i1 _ _ _ _ _
    | exact impl_ValidPupils.mono _ _ _
    | (with_reducible exact LeO.refl _)
    | exact LeO.none _
    | refine LeO.ite ?_ ?_
    | refine LeO.bind ?_ (fun _ => ?_)
    | exact LeO.refl _
/-- What the closure asks of the world: the variables that it has caught, and the rows. -/
structure impl_AssignPupils.At (gC gT gY gM gB gL gN gA : Nat) (AN : Option Addr) (cN : Nat) (N : List Int) (Al : Option Addr) (cl : Nat) (l : List S56) (AT : Option Addr) (cT : Nat) (T : List Int) (base : Nat) (vc : Value) (ch : List Int) (vb : Value) (best : List Int) (m q : Int) (W : World) : Prop where
  bC : W.heap[gC]? = some (.cells #[vc] 22 (0, 0))
  bT : W.heap[gT]? = some (.cells #[.slice AT T.length cT] 22 (0, 0))
  bY : W.heap[gY]? = some (.cells #[.int .i64 q] 3 (0, 0))
  bM : W.heap[gM]? = some (.cells #[.int .i64 m] 3 (0, 0))
  bB : W.heap[gB]? = some (.cells #[vb] 22 (0, 0))
  bL : W.heap[gL]? = some (.cells #[.slice Al l.length cl] 25 (0, 0))
  bN : W.heap[gN]? = some (.cells #[.slice AN N.length cN] 22 (0, 0))
  bA : W.heap[gA]? = some (.cells #[.func (.func 45) #[] #[.pointer (some ⟨gC, 0, none⟩), .pointer (some ⟨gT, 0, none⟩), .pointer (some ⟨gY, 0, none⟩), .pointer (some ⟨gM, 0, none⟩), .pointer (some ⟨gB, 0, none⟩), .pointer (some ⟨gL, 0, none⟩), .pointer (some ⟨gN, 0, none⟩), .pointer (some ⟨gA, 0, none⟩)]] 1 (0, 0))
  ch_ : Kd.R (Kd.int .i64) 2 W base (fun _ => True) vc ch
  best_ : Kd.R (Kd.int .i64) 2 W base (fun _ => True) vb best
  ne_ : ∀ k, vc.ownBlock = some k → some k ≠ vb.ownBlock
  needs_ : ∀ W', Below base W W' → Kd.C (Kd.int .i64) W' AN N.length N
  list_ : ∀ W', Below base W W' → Kd.C k56 W' Al l.length l
  tasks_ : ∀ W', Below base W W' → Kd.C (Kd.int .i64) W' AT T.length T
  size_ : base ≤ W.heap.size
/-- The caught variables are different ones, all made by the call itself. -/
structure impl_AssignPupils.Ne (gC gT gY gM gB gL gN gA base : Nat) : Prop where
  ord : gN < gL ∧ gL < gT ∧ gT < gB ∧ gB < gM ∧ gM < gC ∧ gC < gY ∧ gY < gA
  ge : base ≤ gN
section
variable {gC gT gY gM gB gL gN gA : Nat} {AN : Option Addr} {cN : Nat} {N : List Int} {Al : Option Addr} {cl : Nat} {l : List S56} {AT : Option Addr} {cT : Nat} {T : List Int} {base : Nat} {vc : Value} {ch : List Int} {vb : Value} {best : List Int} {m q x : Int} {Ac : Option Addr} {cc : Nat} {W W' : World}
theorem impl_AssignPupils.At.below (h : impl_AssignPupils.At gC gT gY gM gB gL gN gA AN cN N Al cl l AT cT T base vc ch vb best m q W) (hb : Below W.heap.size W W') : impl_AssignPupils.At gC gT gY gM gB gL gN gA AN cN N Al cl l AT cT T base vc ch vb best m q W' :=
  have hb' : Below base W W' := hb.mono h.size_
  ⟨blk_below h.bC hb, blk_below h.bT hb, blk_below h.bY hb, blk_below h.bM hb, blk_below h.bB hb, blk_below h.bL hb, blk_below h.bN hb, blk_below h.bA hb, Kd.R_below h.ch_ hb, Kd.R_below h.best_ hb, h.ne_, fun W2 h2 => h.needs_ W2 (hb'.trans h2), fun W2 h2 => h.list_ W2 (hb'.trans h2), fun W2 h2 => h.tasks_ W2 (hb'.trans h2), Nat.le_trans h.size_ hb.size⟩
theorem impl_AssignPupils.At.drewN (h : impl_AssignPupils.At gC gT gY gM gB gL gN gA AN cN N Al cl l AT cT T base vc ch vb best m q W) (n : Nat) : impl_AssignPupils.At gC gT gY gM gB gL gN gA AN cN N Al cl l AT cT T base vc ch vb best m q (W.drewN n) := h.below (pw_below_drewN (Below.refl _ _) n)
theorem impl_AssignPupils.At.drew (h : impl_AssignPupils.At gC gT gY gM gB gL gN gA AN cN N Al cl l AT cT T base vc ch vb best m q W) : impl_AssignPupils.At gC gT gY gM gB gL gN gA AN cN N Al cl l AT cT T base vc ch vb best m q W.drew := h.below (Below.drew (Below.refl _ _))
theorem impl_AssignPupils.At.putB (h : impl_AssignPupils.At gC gT gY gM gB gL gN gA AN cN N Al cl l AT cT T base vc ch vb best m q W) (hn : impl_AssignPupils.Ne gC gT gY gM gB gL gN gA base) (v : Value) (best' : List Int) (hv : Kd.R (Kd.int .i64) 2 W base (fun _ => True) v best') (hne : ∀ k, vc.ownBlock = some k → some k ≠ v.ownBlock) :
    impl_AssignPupils.At gC gT gY gM gB gL gN gA AN cN N Al cl l AT cT T base vc ch v best' m q (W.setCell ⟨gB, 0, none⟩ v) ∧ Below base W (W.setCell ⟨gB, 0, none⟩ v) := by
  obtain ⟨⟨h1, h2, h3, h4, h5, h6, h7⟩, h0⟩ := hn
  have hb' : Below base W (W.setCell ⟨gB, 0, none⟩ v) := Below.setCell (p := ⟨gB, 0, none⟩) (Below.refl _ _) (by show base ≤ gB; omega) _
  exact ⟨⟨blk_far h.bC (by show gC ≠ gB; omega) v, blk_far h.bT (by show gT ≠ gB; omega) v, blk_far h.bY (by show gY ≠ gB; omega) v, blk_far h.bM (by show gM ≠ gB; omega) v, blk_set h.bB 0 v, blk_far h.bL (by show gL ≠ gB; omega) v, blk_far h.bN (by show gN ≠ gB; omega) v, blk_far h.bA (by show gA ≠ gB; omega) v, Kd.R_set h.ch_ h.bB (by decide) 0 v, Kd.R_set hv h.bB (by decide) 0 v, hne, fun W2 h2 => h.needs_ W2 (hb'.trans h2), fun W2 h2 => h.list_ W2 (hb'.trans h2), fun W2 h2 => h.tasks_ W2 (hb'.trans h2), Nat.le_trans h.size_ hb'.size⟩, hb'⟩
theorem impl_AssignPupils.At.putM (h : impl_AssignPupils.At gC gT gY gM gB gL gN gA AN cN N Al cl l AT cT T base vc ch vb best m q W) (hn : impl_AssignPupils.Ne gC gT gY gM gB gL gN gA base) (m' : Int) :
    impl_AssignPupils.At gC gT gY gM gB gL gN gA AN cN N Al cl l AT cT T base vc ch vb best m' q (W.setCell ⟨gM, 0, none⟩ (.int .i64 m')) ∧ Below base W (W.setCell ⟨gM, 0, none⟩ (.int .i64 m')) := by
  obtain ⟨⟨h1, h2, h3, h4, h5, h6, h7⟩, h0⟩ := hn
  have hb' : Below base W (W.setCell ⟨gM, 0, none⟩ (.int .i64 m')) := Below.setCell (p := ⟨gM, 0, none⟩) (Below.refl _ _) (by show base ≤ gM; omega) _
  exact ⟨⟨blk_far h.bC (by show gC ≠ gM; omega) _, blk_far h.bT (by show gT ≠ gM; omega) _, blk_far h.bY (by show gY ≠ gM; omega) _, blk_set h.bM 0 _, blk_far h.bB (by show gB ≠ gM; omega) _, blk_far h.bL (by show gL ≠ gM; omega) _, blk_far h.bN (by show gN ≠ gM; omega) _, blk_far h.bA (by show gA ≠ gM; omega) _, Kd.R_set h.ch_ h.bM (by decide) 0 _, Kd.R_set h.best_ h.bM (by decide) 0 _, h.ne_, fun W2 h2 => h.needs_ W2 (hb'.trans h2), fun W2 h2 => h.list_ W2 (hb'.trans h2), fun W2 h2 => h.tasks_ W2 (hb'.trans h2), Nat.le_trans h.size_ hb'.size⟩, hb'⟩
theorem impl_AssignPupils.At.putY (h : impl_AssignPupils.At gC gT gY gM gB gL gN gA AN cN N Al cl l AT cT T base vc ch vb best m q W) (hn : impl_AssignPupils.Ne gC gT gY gM gB gL gN gA base) (q' : Int) :
    impl_AssignPupils.At gC gT gY gM gB gL gN gA AN cN N Al cl l AT cT T base vc ch vb best m q' (W.setCell ⟨gY, 0, none⟩ (.int .i64 q')) ∧ Below base W (W.setCell ⟨gY, 0, none⟩ (.int .i64 q')) := by
  obtain ⟨⟨h1, h2, h3, h4, h5, h6, h7⟩, h0⟩ := hn
  have hb' : Below base W (W.setCell ⟨gY, 0, none⟩ (.int .i64 q')) := Below.setCell (p := ⟨gY, 0, none⟩) (Below.refl _ _) (by show base ≤ gY; omega) _
  exact ⟨⟨blk_far h.bC (by show gC ≠ gY; omega) _, blk_far h.bT (by show gT ≠ gY; omega) _, blk_set h.bY 0 _, blk_far h.bM (by show gM ≠ gY; omega) _, blk_far h.bB (by show gB ≠ gY; omega) _, blk_far h.bL (by show gL ≠ gY; omega) _, blk_far h.bN (by show gN ≠ gY; omega) _, blk_far h.bA (by show gA ≠ gY; omega) _, Kd.R_set h.ch_ h.bY (by decide) 0 _, Kd.R_set h.best_ h.bY (by decide) 0 _, h.ne_, fun W2 h2 => h.needs_ W2 (hb'.trans h2), fun W2 h2 => h.list_ W2 (hb'.trans h2), fun W2 h2 => h.tasks_ W2 (hb'.trans h2), Nat.le_trans h.size_ hb'.size⟩, hb'⟩
/-- What an append to the chosen leaves of all the rest. -/
theorem impl_AssignPupils.At.grow (h : impl_AssignPupils.At gC gT gY gM gB gL gN gA AN cN N Al cl l AT cT T base vc ch vb best m q W) (hn : impl_AssignPupils.Ne gC gT gY gM gB gL gN gA base) {W2 : World} (hb2 : Below W.heap.size W W2) {v1 : Value} {w1 : World} {ch' : List Int} (hg : W2.grownBy w1 vc.ownBlock) (hat : v1.ownBlock = vc.ownBlock ∨ ∃ b, v1.ownBlock = some b ∧ W2.heap.size ≤ b) (ho : Kd.R (Kd.int .i64) 2 w1 base (fun _ => True) v1 ch') (hb : Below base W w1) :
    w1.heap[gC]? = some (.cells #[vc] 22 (0, 0)) ∧ w1.heap[gY]? = some (.cells #[.int .i64 q] 3 (0, 0)) ∧ impl_AssignPupils.At gC gT gY gM gB gL gN gA AN cN N Al cl l AT cT T base v1 ch' vb best m q (w1.setCell ⟨gC, 0, none⟩ v1) ∧ Below base W (w1.setCell ⟨gC, 0, none⟩ v1) := by
  have h2 := h.below hb2
  have far : ∀ {g t : Nat} {cs : Array Value}, t ≠ 2 → W2.heap[g]? = some (.cells cs t (0, 0)) → w1.heap[g]? = some (.cells cs t (0, 0)) := by
    intro g t cs ht hx
    refine blk_grown hx hg fun e => ?_
    exact Hl.typed_ne (Kd.R_typed h2.ch_ g e.symm) ⟨t, List.mem_singleton.2 rfl, _, hx⟩ (by intro q' hq; rw [List.mem_singleton.1 hq]; exact ht)
  have hC := far (by decide) h2.bC
  have hb' : Below base W (w1.setCell ⟨gC, 0, none⟩ v1) := hb.trans (Below.setCell (p := ⟨gC, 0, none⟩) (Below.refl _ _) (by have := hn.ge; have := hn.ord; show base ≤ gC; omega) _)
  obtain ⟨⟨h1_, h2_, h3_, h4_, h5_, h6_, h7_⟩, h0_⟩ := hn
  refine ⟨hC, far (by decide) h2.bY, ⟨blk_set hC 0 v1, blk_far (far (by decide) h2.bT) (by show gT ≠ gC; omega) v1, blk_far (far (by decide) h2.bY) (by show gY ≠ gC; omega) v1, blk_far (far (by decide) h2.bM) (by show gM ≠ gC; omega) v1, blk_far (far (by decide) h2.bB) (by show gB ≠ gC; omega) v1, blk_far (far (by decide) h2.bL) (by show gL ≠ gC; omega) v1, blk_far (far (by decide) h2.bN) (by show gN ≠ gC; omega) v1, blk_far (far (by decide) h2.bA) (by show gA ≠ gC; omega) v1, Kd.R_set ho hC (by decide) 0 v1, Kd.R_set (Kd.R_grown2 h2.best_ rfl hg h2.ne_) hC (by decide) 0 v1, fun k hk => ?_, fun W2 h2 => h.needs_ W2 (hb'.trans h2), fun W2 h2 => h.list_ W2 (hb'.trans h2), fun W2 h2 => h.tasks_ W2 (hb'.trans h2), Nat.le_trans h.size_ hb'.size⟩, hb'⟩
  rcases hat with e | ⟨b, e, hle⟩
  · exact h2.ne_ k (e ▸ hk)
  · rw [e] at hk
    injection hk with hk
    intro e2
    have := Kd.R_lt h2.best_ k e2.symm
    omega
/-- The chosen are cut back by one. -/
theorem impl_AssignPupils.At.back (h : impl_AssignPupils.At gC gT gY gM gB gL gN gA AN cN N Al cl l AT cT T base (.slice Ac (ch.length + 1) cc) (ch ++ [x]) vb best m q W) (hn : impl_AssignPupils.Ne gC gT gY gM gB gL gN gA base) :
    impl_AssignPupils.At gC gT gY gM gB gL gN gA AN cN N Al cl l AT cT T base (.slice Ac ch.length cc) ch vb best m q (W.setCell ⟨gC, 0, none⟩ (.slice Ac ch.length cc)) ∧ Below base W (W.setCell ⟨gC, 0, none⟩ (.slice Ac ch.length cc)) := by
  have hC := h.bC
  have ho : Kd.R (Kd.int .i64) 2 W base (fun _ => True) (.slice Ac ch.length cc) ch := by have := Kd.R_take h.ch_ (m := ch.length) (by simp); simpa using this
  obtain ⟨⟨h1_, h2_, h3_, h4_, h5_, h6_, h7_⟩, h0_⟩ := hn
  have hb' : Below base W (W.setCell ⟨gC, 0, none⟩ (.slice Ac ch.length cc)) := Below.setCell (p := ⟨gC, 0, none⟩) (Below.refl _ _) (by show base ≤ gC; omega) _
  exact ⟨⟨blk_set hC 0 _, blk_far h.bT (by show gT ≠ gC; omega) _, blk_far h.bY (by show gY ≠ gC; omega) _, blk_far h.bM (by show gM ≠ gC; omega) _, blk_far h.bB (by show gB ≠ gC; omega) _, blk_far h.bL (by show gL ≠ gC; omega) _, blk_far h.bN (by show gN ≠ gC; omega) _, blk_far h.bA (by show gA ≠ gC; omega) _, Kd.R_set ho hC (by decide) 0 _, Kd.R_set h.best_ hC (by decide) 0 _, fun k hk => h.ne_ k (by cases Ac <;> exact hk), fun W2 h2 => h.needs_ W2 (hb'.trans h2), fun W2 h2 => h.list_ W2 (hb'.trans h2), fun W2 h2 => h.tasks_ W2 (hb'.trans h2), Nat.le_trans h.size_ hb'.size⟩, hb'⟩
end
theorem impl_AssignPupils.store_step {P : Program} {ops : Array Oper} {o : Oper} {a : Act} {Q : Exit → Act → World → Prop} {Kc : Act → World → Prop} {W w1 : World} (hw : Region.wanted o (yielded ops a.tmps) = true) (hN : o.dst = none) (hrun : (execOp a.eval o).run P W = .ok .skip w1) (h : Kc (a.put none undef) w1) : if Region.wanted o (yielded ops a.tmps) = true then Oper.wp P o a W Kc Q else Kc (a.put none undef) W := by
  rw [if_pos hw]
  unfold Oper.wp
  rw [hrun]
  show Kc (a.put o.dst undef) w1
  rw [hN]
  exact h
set_option maxHeartbeats 8000000 in
set_option maxRecDepth 100000 in
theorem impl_AssignPupils.walk (gC gT gY gM gB gL gN gA : Nat) (AN : Option Addr) (cN : Nat) (N : List Int) (Al : Option Addr) (cl : Nat) (l : List S56) (AT : Option Addr) (cT : Nat) (T : List Int) (hcN : N.length ≤ cN) (hcl : l.length ≤ cl) (hcT : T.length ≤ cT) (base : Nat) (hn : impl_AssignPupils.Ne gC gT gY gM gB gL gN gA base) : ∀ (n k : Nat), k ≤ n → ∀ (vc : Value) (ch : List Int) (vb : Value) (best : List Int) (m q : Int) (r1 : List Int) (r2 : Int) (W : World) (_ : impl_AssignPupils.At gC gT gY gM gB gL gN gA AN cN N Al cl l AT cT T base vc ch vb best m q W) (_ : impl_AssignPupils.wf k N l T best m ch q = some (r1, r2)),
    Calls Tryd.prog 45 #[.pointer (some ⟨gC, 0, none⟩), .pointer (some ⟨gT, 0, none⟩), .pointer (some ⟨gY, 0, none⟩), .pointer (some ⟨gM, 0, none⟩), .pointer (some ⟨gB, 0, none⟩), .pointer (some ⟨gL, 0, none⟩), .pointer (some ⟨gN, 0, none⟩), .pointer (some ⟨gA, 0, none⟩)] W fun e w' => e = .returned (.tuple #[]) ∧ (∃ vc' vb', impl_AssignPupils.At gC gT gY gM gB gL gN gA AN cN N Al cl l AT cT T base vc' ch vb' r1 r2 q w') ∧ Below base W w' := by
  have hu56 := Tryd.underlying56
  intro n
  induction n with
  | zero =>
    intro k hk vc ch vb best m q r1 r2 W _ h
    obtain rfl : k = 0 := by omega
    exact absurd h (by simp [impl_AssignPupils.wf])
  | succ n ih =>
    intro k hk vc ch vb best m q r1 r2 W hAt h
    cases k with
    | zero => exact absurd h (by simp [impl_AssignPupils.wf])
    | succ k =>
      rw [impl_AssignPupils.wf] at h
      have HA := Aside0.mk hAt
      have HK := Aside0.mk hk
      have HI := Aside0.mk ih
      have HN := Aside0.mk hn
      obtain ⟨Ac, cc, rfl, _, _⟩ := Kd.R_reads hAt.ch_
      have hc0 : W.cell? ⟨gC, 0, none⟩ = some (.slice Ac ch.length cc) := (blk_cell hAt.bC 0).trans rfl
      have hc1 : W.cell? ⟨gT, 0, none⟩ = some (.slice AT T.length cT) := (blk_cell hAt.bT 0).trans rfl
      have hc2 : W.cell? ⟨gY, 0, none⟩ = some (.int .i64 q) := (blk_cell hAt.bY 0).trans rfl
      have hc3 : W.cell? ⟨gM, 0, none⟩ = some (.int .i64 m) := (blk_cell hAt.bM 0).trans rfl
      clear hAt hk ih
      by_cases c1 : (ch.length : Int) = (T.length : Int)
      · rw [if_pos c1] at h
        have d1 : ((ch.length : Int) == (T.length : Int)) = true := beq_iff_eq.2 c1
        have d2 : decide ((ch.length : Int) = (T.length : Int)) = true := decide_eq_true c1
        clear c1
        by_cases c2 : q > m
        · rw [if_pos c2] at h
          obtain ⟨c, A1, h⟩ := Option.bind_eq_some_iff.mp h
          obtain ⟨rfl, rfl⟩ := Prod.mk.inj (Option.some.inj h)
          have d3 : decide (q > m) = true := decide_eq_true c2
          have d4 : decide (m < q) = true := decide_eq_true c2
          have HC := Aside0.mk A1
          clear c2 h A1
          go_enter Tryd.func45, Tryd.ntmps45
          go_upto_region 3 with (fail)
          refine start_ (n := 5) (S := (fun w' => w'.cell? ⟨gC, 0, none⟩ = some (.slice Ac ch.length cc) ∧ w'.cell? ⟨gY, 0, none⟩ = some (.int .i64 q))) (ds := []) (Hl.ba 5 0) (by kernel_rfl) rfl (by kernel_rfl) ⟨hc0, hc2⟩ (fun hHeld => ?_)
          have HD := Aside0.mk HA.out.drew
          have HBd := Aside0.mk (show Below base W W.drew from Below.drew (Below.refl base W))
          clear HA hc0 hc1 hc2 hc3
          generalize W.drew = wd at hHeld HD HBd ⊢
          refine with_tab rfl (fun HT_ => ?_)
          refine Hl.tJ 0 20 5 1 HT_ rfl rfl hHeld ?_; refine Hl.tJ 2 22 5 5 HT_ rfl rfl hHeld ?_
          refine one_ (i := 1) (N := some 21) (Hl.ba 5 7) rfl rfl (one_of HT_.out (by kernel_rfl)) (by decide) (fun K hK => ?_)
          refine Hl.gs Tryd.func37 (by kernel_rfl) rfl #[.slice Ac ch.length cc] (by rfl) rfl rfl ?_
          with_reducible refine (slices_Clone_int64_int64.calls Ac cc ch c wd (Kd.R_reads' HD.out.ch_).2.2 (Kd.R_reads' HD.out.ch_).2.1 HC.out).mono ?_
          rintro e w2 ⟨v21, rfl, ho, hb⟩
          obtain ⟨A21, c21, rfl, _, _⟩ := Kd.R_reads ho
          refine ⟨_, rfl, ?_⟩
          have HA2 := Aside0.mk (HD.out.below hb)
          have HO := Aside0.mk ho
          have HB2 := Aside0.mk (HBd.out.trans (hb.mono HD.out.size_))
          have HNE := Aside0.mk (fun (k : Nat) (hk : (Value.slice Ac ch.length cc).ownBlock = some k) (e : some k = (Value.slice A21 c.length c21).ownBlock) => Nat.lt_irrefl _ (Nat.lt_of_lt_of_le (Kd.R_lt HD.out.ch_ k hk) (Kd.R_base ho k e.symm)))
          have HSZ := Aside0.mk HD.out.size_
          have hS2 : w2.cell? ⟨gC, 0, none⟩ = some (.slice Ac ch.length cc) ∧ w2.cell? ⟨gY, 0, none⟩ = some (.int .i64 q) := ⟨pw_cell_below hb hHeld.1, pw_cell_below hb hHeld.2⟩
          clear ho hb HD HBd hHeld
          refine hK.out _ _ hS2 (fun hHeld => ?_)
          clear hK K hS2
          refine norm_ (a' := ?_) ?_ ?_
          rotate_left
          · show Act.put _ (some 21) _ = _
            simp only [Act.put, Hl.s1, Hl.s2, Hl.s3, i64_w, i32_w]
            rfl
          have hf4 : w2.frozen? ⟨gB, 0, none⟩ = false := blk_frozen HA2.out.bB 0
          have hc4 : w2.cell? ⟨gB, 0, none⟩ = some vb := (blk_cell HA2.out.bB 0).trans rfl
          refine one_ (i := 3) (N := none) (Hl.ba 5 15) rfl rfl (one_of HT_.out (by kernel_rfl)) (by decide) (fun K hK => ?_)
          refine impl_AssignPupils.store_step (w1 := w2.setCell ⟨gB, 0, none⟩ (.slice A21 c.length c21)) rfl rfl ?hr ?_
          case hr => first | (go_simp; done) | (go_simp; rfl)
          obtain ⟨hP1, hP2⟩ := HA2.out.putB HN.out (.slice A21 c.length c21) c (Kd.R_lower HO.out HSZ.out) (fun k hk e => HNE.out k hk e)
          have HA3 := Aside0.mk hP1
          have HB3 := Aside0.mk (HB2.out.trans hP2)
          clear HA2 HO HB2 HNE hP1 hP2 hf4 hc4 HSZ hHeld
          generalize w2.setCell ⟨gB, 0, none⟩ (.slice A21 c.length c21) = w3 at HA3 HB3 ⊢
          refine hK.out _ _ ⟨(blk_cell HA3.out.bC 0).trans rfl, (blk_cell HA3.out.bY 0).trans rfl⟩ (fun hHeld => ?_)
          clear hK K
          have hf4 : w3.frozen? ⟨gM, 0, none⟩ = false := blk_frozen HA3.out.bM 0
          have hc4 : w3.cell? ⟨gM, 0, none⟩ = some (.int .i64 m) := (blk_cell HA3.out.bM 0).trans rfl
          refine one_ (i := 4) (N := none) (Hl.ba 5 31) rfl rfl (one_of HT_.out (by kernel_rfl)) (by decide) (fun K hK => ?_)
          refine impl_AssignPupils.store_step (w1 := w3.setCell ⟨gM, 0, none⟩ (.int .i64 q)) rfl rfl ?hr ?_
          case hr => first | (go_simp; done) | (go_simp; rfl)
          obtain ⟨hP1, hP2⟩ := HA3.out.putM HN.out q
          have HA4 := Aside0.mk hP1
          have HB4 := Aside0.mk (HB3.out.trans hP2)
          clear HA3 HB3 hP1 hP2 hf4 hc4 hHeld
          generalize w3.setCell ⟨gM, 0, none⟩ (.int .i64 q) = w4 at HA4 HB4 ⊢
          refine hK.out _ _ ⟨(blk_cell HA4.out.bC 0).trans rfl, (blk_cell HA4.out.bY 0).trans rfl⟩ (fun hHeld => ?_)
          clear hK K
          refine done_ (done_of HT_.out (by kernel_rfl)) ?_
          try go_wp2
          refine bodyPost_ret (results_none rfl _ _ _) rfl ?_
          exact ⟨rfl, ⟨_, _, HA4.out⟩, HB4.out⟩
        · rw [if_neg c2] at h
          obtain ⟨rfl, rfl⟩ := Prod.mk.inj (Option.some.inj h)
          have d3 : decide (q > m) = false := decide_eq_false c2
          have d4 : decide (m < q) = false := decide_eq_false c2
          clear c2 h
          go_enter Tryd.func45, Tryd.ntmps45
          go_wp2
          refine bodyPost_ret (results_none rfl _ _ _) rfl ?_
          exact ⟨rfl, ⟨_, _, HA.out⟩, Below.refl _ _⟩
      · rw [if_neg c1] at h
        obtain ⟨⟨b1, m1⟩, A1, h⟩ := Option.bind_eq_some_iff.mp h
        by_cases c3 : ch.length < 1000000
        case neg => rw [if_neg c3] at h; exact absurd h (by simp)
        rw [if_pos c3] at h
        have d1 : ((ch.length : Int) == (T.length : Int)) = false := beq_eq_false_iff_ne.2 c1
        have d2 : decide ((ch.length : Int) = (T.length : Int)) = false := decide_eq_false c1
        have C3 := Aside0.mk c3
        have HL := Aside0.mk A1
        have HH := Aside0.mk h
        have hc5 : W.cell? ⟨gL, 0, none⟩ = some (.slice Al l.length cl) := (blk_cell HA.out.bL 0).trans rfl
        clear c1 c3 h A1
        go_enter Tryd.func45, Tryd.ntmps45
        go_wp2
        go_loopg [25] k (fun kq v25 w' => ∃ (vc2 vb2 : Value) (best2 : List Int) (m2 i : Int), v25 = .int .i64 i ∧ Aside0 (impl_AssignPupils.At gC gT gY gM gB gL gN gA AN cN N Al cl l AT cT T base vc2 ch vb2 best2 m2 q w') ∧ Aside0 (impl_AssignPupils.wl kq N l T best2 m2 ch q i = some (b1, m1)) ∧ Aside0 (kq ≤ k) ∧ Aside0 (Below base W w'))
        case atStart => exact ⟨_, vb, best, m, 0, rfl, HA, HL, ⟨Nat.le_refl _⟩, ⟨Below.refl _ _⟩⟩
        case round =>
          clear HA HL hc0 hc1 hc2 hc3 hc5 d1 d2
          obtain ⟨vc2, vb2, best2, m2, i, rfl, HA, HL, HK1, HB⟩ := hrel
          obtain ⟨Ac2, cc2, rfl, _, _⟩ := Kd.R_reads HA.out.ch_
          cases gk with
          | zero => exact absurd HL.out (by simp [impl_AssignPupils.wl])
          | succ k1 =>
            have h := HL.out
            clear HL
            rw [impl_AssignPupils.wl] at h
            by_cases e1 : i < (l.length : Int)
            · rw [if_pos e1] at h
              have d3 : decide (i < (l.length : Int)) = true := decide_eq_true e1
              by_cases e2 : 0 ≤ i
              case neg => rw [if_neg e2] at h; exact absurd h (by simp)
              rw [if_pos e2] at h
              by_cases e4 : ch.length < T.length
              case neg => rw [if_neg e4] at h; exact absurd h (by simp)
              rw [if_pos e4] at h
              obtain ⟨t1, A1, h⟩ := Option.bind_eq_some_iff.mp h
              have HT1 := Aside0.mk A1
              have HH1 := Aside0.mk h
              clear A1 h
              obtain ⟨adl, Ad, cd, hAl, hy0, hy1, hy2, hl2, hi2⟩ := at_T56 (HA.out.list_ _ (Below.refl _ _)) i e2 e1
              subst hAl
              have HD := Aside0.mk (hl2)
              have HE := Aside0.mk (hi2)
              have E1 := Aside0.mk e1
              have E2 := Aside0.mk e2
              have E4 := Aside0.mk e4
              have p1 := eq_true e2
              have p2 := eq_true e1
              clear hi2 hl2 e1 e2 e4
              go_upto_region 6 with (fail)
              go_cut [9, 10] (fun v9 v10 wc => ∃ gx, v9 = .int .i64 i ∧ v10 = .pointer (some ⟨gx, 0, none⟩) ∧ Aside0 (wc.heap[gx]? = some (.cells #[.string (rd_T56 l i).f0, .int .i64 (rd_T56 l i).f1, .slice Ad (rd_T56 l i).f2.length cd] 56 (0, 0))) ∧ Aside0 (Below wr.heap.size wr wc))
              case first =>
                go_wp2_with (((with_reducible refine gate_dst (N := 10) rfl ?_); refine box_event ?hg (N := 10) ?hd (cs := #[.string (⟨#[]⟩ : ByteArray), .int .i64 0, .slice none 0 0]) (t := 56) ?hr ?_; (case hd => rfl); (case hg => rfl); (case hr => first | (go_simp; done) | (go_simp; rfl)); intro gx hg w7 hbox hb; have BK := Aside0.mk hbox; have GX := Aside0.mk hg; have BB := Aside0.mk hb; clear hbox hg hb; have hz0 : w7.cell? ⟨gx, 0, none⟩ = some (.string (⟨#[]⟩ : ByteArray)) := (blk_cell BK.out 0).trans rfl; have hz1 : w7.cell? ⟨gx, 1, none⟩ = some (.int .i64 0) := (blk_cell BK.out 1).trans rfl; have hz2 : w7.cell? ⟨gx, 2, none⟩ = some (.slice none 0 0) := (blk_cell BK.out 2).trans rfl; have hf0 := blk_frozen BK.out 0; have hf1 := blk_frozen BK.out 1; have hf2 := blk_frozen BK.out 2))
                go_meet
                case rel =>
                  have hge : wr.heap.size ≤ gx := by rw [GX.out]; exact Nat.le_refl _
                  refine ⟨gx, rfl, rfl, ⟨?_⟩, ⟨?_⟩⟩
                  · exact blk_put (cs := #[.string (rd_T56 l i).f0, .int .i64 (rd_T56 l i).f1, .slice none 0 0]) (blk_put (cs := #[.string (rd_T56 l i).f0, .int .i64 0, .slice none 0 0]) (blk_put (cs := #[.string (⟨#[]⟩ : ByteArray), .int .i64 0, .slice none 0 0]) BK.out 0 _ rfl) 1 _ rfl) 2 _ rfl
                  · exact Below.setCell (p := ⟨gx, 2, none⟩) (Below.setCell (p := ⟨gx, 1, none⟩) (Below.setCell (p := ⟨gx, 0, none⟩) BB.out hge _) hge _) hge _
              case rest =>
                obtain ⟨gx, rfl, rfl, BX, BB⟩ := hcut
                have HcN := Aside0.mk hcN
                have HA2 := Aside0.mk (HA.out.below BB.out)
                clear hy0 hy1 hy2
                obtain ⟨adt, hAT, hz0⟩ := Kd.at_int (HA2.out.tasks_ _ (Below.refl _ _)) (ch.length : Int) (by omega) (by have := E4.out; omega)
                subst hAT
                rw [Int.toNat_natCast] at hz0
                have hq0 : wc.cell? ⟨gN, 0, none⟩ = some (.slice AN N.length cN) := (blk_cell HA2.out.bN 0).trans rfl
                have hq1 : wc.cell? ⟨gx, 0, none⟩ = some (.string (rd_T56 l i).f0) := (blk_cell BX.out 0).trans rfl
                have hq2 : wc.cell? ⟨gx, 1, none⟩ = some (.int .i64 (rd_T56 l i).f1) := (blk_cell BX.out 1).trans rfl
                have hq3 : wc.cell? ⟨gx, 2, none⟩ = some (.slice Ad (rd_T56 l i).f2.length cd) := (blk_cell BX.out 2).trans rfl
                have hq4 : wc.cell? ⟨gT, 0, none⟩ = some (.slice (some adt) T.length cT) := (blk_cell HA2.out.bT 0).trans rfl
                have hq6 : wc.cell? ⟨gC, 0, none⟩ = some (.slice Ac2 ch.length cc2) := (blk_cell HA2.out.bC 0).trans rfl
                have p3 : (0 ≤ (ch.length : Int)) = True := eq_true (by omega)
                have p4 : ((ch.length : Int) < (T.length : Int)) = True := eq_true (by have := E4.out; omega)
                have h := HH1.out
                clear HH1
                by_cases e5 : t1 = true
                · rw [if_pos e5] at h
                  subst e5
                  obtain ⟨t2, A2, h⟩ := Option.bind_eq_some_iff.mp h
                  have HT2 := Aside0.mk A2
                  clear A2
                  by_cases e6 : t2 = true
                  · rw [if_pos e6] at h
                    subst e6
                    have HL := Aside0.mk h
                    clear h
                    go_upto_region 7 with (fail)
                    refine start_ (n := 13) (S := (fun w' => w'.cell? ⟨gN, 0, none⟩ = some (.slice AN N.length cN) ∧ w'.cell? ⟨gx, 0, none⟩ = some (.string (rd_T56 l i).f0) ∧ w'.cell? ⟨gx, 1, none⟩ = some (.int .i64 (rd_T56 l i).f1) ∧ w'.cell? ⟨gx, 2, none⟩ = some (.slice Ad (rd_T56 l i).f2.length cd) ∧ w'.cell? ⟨gT, 0, none⟩ = some (.slice (some adt) T.length cT) ∧ w'.cell? (adt.add ch.length) = some (.int .i64 (rd T (ch.length : Int))) ∧ w'.cell? ⟨gC, 0, none⟩ = some (.slice Ac2 ch.length cc2))) (ds := []) (Hl.ba 13 0) (by kernel_rfl) rfl (by kernel_rfl) ⟨hq0, hq1, hq2, hq3, hq4, hz0, hq6⟩ (fun hHeld => ?_)
                    have HD2 := Aside0.mk HA2.out.drew
                    have HBd := Aside0.mk (show Below wc.heap.size wc wc.drew from Below.drew (Below.refl _ wc))
                    clear HA2 hq0 hq1 hq2 hq3 hq4 hz0 hq6
                    generalize wc.drew = wd at hHeld HD2 HBd ⊢
                    refine with_tab rfl (fun HT_ => ?_)
                    refine Hl.tJ 0 30 13 1 HT_ rfl rfl hHeld ?_; refine Hl.tJ 1 31 13 3 HT_ rfl rfl hHeld ?_; refine Hl.tJ 2 32 13 7 HT_ rfl rfl hHeld ?_; refine Hl.pI 3 33 13 15 HT_ rfl rfl ?_; refine Hl.pI 4 34 13 31 HT_ rfl rfl ?_; refine Hl.tJ 5 35 13 63 HT_ rfl rfl hHeld ?_
                    refine one_ (i := 6) (N := some 36) (Hl.ba 13 127) rfl rfl (one_of HT_.out (by kernel_rfl)) (by decide) (fun K hK => ?_)
                    refine Hl.gs Tryd.func46 (by kernel_rfl) rfl #[.slice AN N.length cN, .agg #[.string (rd_T56 l i).f0, .int .i64 (rd_T56 l i).f1, .slice Ad (rd_T56 l i).f2.length cd], .int .i64 (rd T (ch.length : Int))] (by rfl) rfl rfl ?_
                    with_reducible refine (impl_hasSkill.calls AN cN N (rd_T56 l i).f0 (rd_T56 l i).f1 Ad cd (rd_T56 l i).f2 (rd T (ch.length : Int)) true wd (HD2.out.needs_ _ (Below.refl _ _)) HcN.out (Kd.C_below (Kd.C_below HE.out BB.out) HBd.out) HD.out HT1.out).mono ?_
                    rintro e w2 ⟨rfl, hb⟩
                    refine ⟨_, rfl, ?_⟩
                    have HA7 := Aside0.mk (HD2.out.below hb)
                    have HB7 := Aside0.mk (below_step HBd.out hb)
                    have hS2 : _ ∧ _ ∧ _ ∧ _ ∧ _ ∧ _ ∧ _ := ⟨pw_cell_below hb hHeld.1, pw_cell_below hb hHeld.2.1, pw_cell_below hb hHeld.2.2.1, pw_cell_below hb hHeld.2.2.2.1, pw_cell_below hb hHeld.2.2.2.2.1, pw_cell_below hb hHeld.2.2.2.2.2.1, pw_cell_below hb hHeld.2.2.2.2.2.2⟩
                    clear hb HD2 HBd hHeld
                    refine hK.out _ _ hS2 (fun hHeld => ?_)
                    clear hK K hS2
                    refine norm_ (a' := ?_) ?_ ?_
                    rotate_left
                    · show Act.put _ (some 36) _ = _
                      simp only [Act.put, Hl.s1, Hl.s2, Hl.s3, i64_w, i32_w]
                      rfl
                    refine Hl.pI 7 37 13 255 HT_ rfl rfl ?_
                    refine Hl.tJ 8 38 13 511 HT_ rfl rfl hHeld ?_; refine Hl.pI 9 39 13 1023 HT_ rfl rfl ?_
                    refine one_ (i := 10) (N := some 40) (Hl.ba 13 2047) rfl rfl (one_of HT_.out (by kernel_rfl)) (by decide) (fun K hK => ?_)
                    refine Hl.gs Tryd.func47 (by kernel_rfl) rfl #[.slice Ac2 ch.length cc2, .int .i64 i] (by rfl) rfl rfl ?_
                    with_reducible refine (slices_Contains_int64_int64.calls k1 Ac2 cc2 ch i true w2 (Kd.R_reads' HA7.out.ch_).2.2 (Kd.R_reads' HA7.out.ch_).2.1 HT2.out).mono ?_
                    rintro e w' ⟨rfl, ⟨nd, rfl⟩⟩
                    refine ⟨_, rfl, ?_⟩
                    replace HA7 := Aside0.mk (HA7.out.drewN nd)
                    replace HB7 := Aside0.mk (pw_below_drewN HB7.out nd)
                    have hS2 : _ ∧ _ ∧ _ ∧ _ ∧ _ ∧ _ ∧ _ := ⟨pw_cell_below (pw_below_drewN (Below.refl _ w2) nd) hHeld.1, pw_cell_below (pw_below_drewN (Below.refl _ w2) nd) hHeld.2.1, pw_cell_below (pw_below_drewN (Below.refl _ w2) nd) hHeld.2.2.1, pw_cell_below (pw_below_drewN (Below.refl _ w2) nd) hHeld.2.2.2.1, pw_cell_below (pw_below_drewN (Below.refl _ w2) nd) hHeld.2.2.2.2.1, pw_cell_below (pw_below_drewN (Below.refl _ w2) nd) hHeld.2.2.2.2.2.1, pw_cell_below (pw_below_drewN (Below.refl _ w2) nd) hHeld.2.2.2.2.2.2⟩
                    clear hHeld
                    generalize w2.drewN nd = w2 at HA7 HB7 hS2 ⊢
                    refine hK.out _ _ hS2 (fun hHeld => ?_)
                    clear hK K hS2
                    refine norm_ (a' := ?_) ?_ ?_
                    rotate_left
                    · show Act.put _ (some 40) _ = _
                      simp only [Act.put, Hl.s1, Hl.s2, Hl.s3, i64_w, i32_w]
                      rfl
                    refine Hl.pI 11 41 13 4095 HT_ rfl rfl ?_; refine Hl.pI 12 42 13 8191 HT_ rfl rfl ?_
                    refine done_ (done_of HT_.out (by kernel_rfl)) ?_
                    try go_wp2
                    go_roundg k1
                    case measure => have := HK1.out; omega
                    case rel => exact ⟨_, vb2, best2, m2, wrap64 (i + 1), rfl, HA7, HL, ⟨by have := HK1.out; omega⟩, ⟨(HB.out.trans (BB.out.mono HA.out.size_)).trans (HB7.out.mono (Nat.le_trans HA.out.size_ BB.out.size))⟩⟩
                  · rw [if_neg e6] at h
                    obtain rfl : t2 = false := Bool.eq_false_iff.mpr e6
                    clear e6
                    by_cases e7 : ch.length < 1000000 ∧ wrap64 (wrap64 (q + 1) - 1) = q
                    case neg => rw [if_neg e7] at h; exact absurd h (by simp)
                    rw [if_pos e7] at h
                    obtain ⟨⟨b3, m3⟩, A3, h⟩ := Option.bind_eq_some_iff.mp h
                    have HT3 := Aside0.mk A3
                    have C4 := Aside0.mk e7
                    have HL := Aside0.mk h
                    clear h A3 e7
                    go_upto_region 7 with (fail)
                    refine start_ (n := 13) (S := (fun w' => w'.cell? ⟨gN, 0, none⟩ = some (.slice AN N.length cN) ∧ w'.cell? ⟨gx, 0, none⟩ = some (.string (rd_T56 l i).f0) ∧ w'.cell? ⟨gx, 1, none⟩ = some (.int .i64 (rd_T56 l i).f1) ∧ w'.cell? ⟨gx, 2, none⟩ = some (.slice Ad (rd_T56 l i).f2.length cd) ∧ w'.cell? ⟨gT, 0, none⟩ = some (.slice (some adt) T.length cT) ∧ w'.cell? (adt.add ch.length) = some (.int .i64 (rd T (ch.length : Int))) ∧ w'.cell? ⟨gC, 0, none⟩ = some (.slice Ac2 ch.length cc2))) (ds := []) (Hl.ba 13 0) (by kernel_rfl) rfl (by kernel_rfl) ⟨hq0, hq1, hq2, hq3, hq4, hz0, hq6⟩ (fun hHeld => ?_)
                    have HD2 := Aside0.mk HA2.out.drew
                    have HBd := Aside0.mk (show Below wc.heap.size wc wc.drew from Below.drew (Below.refl _ wc))
                    clear HA2 hq0 hq1 hq2 hq3 hq4 hz0 hq6
                    generalize wc.drew = wd at hHeld HD2 HBd ⊢
                    refine with_tab rfl (fun HT_ => ?_)
                    refine Hl.tJ 0 30 13 1 HT_ rfl rfl hHeld ?_; refine Hl.tJ 1 31 13 3 HT_ rfl rfl hHeld ?_; refine Hl.tJ 2 32 13 7 HT_ rfl rfl hHeld ?_; refine Hl.pI 3 33 13 15 HT_ rfl rfl ?_; refine Hl.pI 4 34 13 31 HT_ rfl rfl ?_; refine Hl.tJ 5 35 13 63 HT_ rfl rfl hHeld ?_
                    refine one_ (i := 6) (N := some 36) (Hl.ba 13 127) rfl rfl (one_of HT_.out (by kernel_rfl)) (by decide) (fun K hK => ?_)
                    refine Hl.gs Tryd.func46 (by kernel_rfl) rfl #[.slice AN N.length cN, .agg #[.string (rd_T56 l i).f0, .int .i64 (rd_T56 l i).f1, .slice Ad (rd_T56 l i).f2.length cd], .int .i64 (rd T (ch.length : Int))] (by rfl) rfl rfl ?_
                    with_reducible refine (impl_hasSkill.calls AN cN N (rd_T56 l i).f0 (rd_T56 l i).f1 Ad cd (rd_T56 l i).f2 (rd T (ch.length : Int)) true wd (HD2.out.needs_ _ (Below.refl _ _)) HcN.out (Kd.C_below (Kd.C_below HE.out BB.out) HBd.out) HD.out HT1.out).mono ?_
                    rintro e w2 ⟨rfl, hb⟩
                    refine ⟨_, rfl, ?_⟩
                    have HA7 := Aside0.mk (HD2.out.below hb)
                    have HB7 := Aside0.mk (below_step HBd.out hb)
                    have hS2 : _ ∧ _ ∧ _ ∧ _ ∧ _ ∧ _ ∧ _ := ⟨pw_cell_below hb hHeld.1, pw_cell_below hb hHeld.2.1, pw_cell_below hb hHeld.2.2.1, pw_cell_below hb hHeld.2.2.2.1, pw_cell_below hb hHeld.2.2.2.2.1, pw_cell_below hb hHeld.2.2.2.2.2.1, pw_cell_below hb hHeld.2.2.2.2.2.2⟩
                    clear hb HD2 HBd hHeld
                    refine hK.out _ _ hS2 (fun hHeld => ?_)
                    clear hK K hS2
                    refine norm_ (a' := ?_) ?_ ?_
                    rotate_left
                    · show Act.put _ (some 36) _ = _
                      simp only [Act.put, Hl.s1, Hl.s2, Hl.s3, i64_w, i32_w]
                      rfl
                    refine Hl.pI 7 37 13 255 HT_ rfl rfl ?_
                    refine Hl.tJ 8 38 13 511 HT_ rfl rfl hHeld ?_; refine Hl.pI 9 39 13 1023 HT_ rfl rfl ?_
                    refine one_ (i := 10) (N := some 40) (Hl.ba 13 2047) rfl rfl (one_of HT_.out (by kernel_rfl)) (by decide) (fun K hK => ?_)
                    refine Hl.gs Tryd.func47 (by kernel_rfl) rfl #[.slice Ac2 ch.length cc2, .int .i64 i] (by rfl) rfl rfl ?_
                    with_reducible refine (slices_Contains_int64_int64.calls k1 Ac2 cc2 ch i false w2 (Kd.R_reads' HA7.out.ch_).2.2 (Kd.R_reads' HA7.out.ch_).2.1 HT2.out).mono ?_
                    rintro e w' ⟨rfl, ⟨nd, rfl⟩⟩
                    refine ⟨_, rfl, ?_⟩
                    replace HA7 := Aside0.mk (HA7.out.drewN nd)
                    replace HB7 := Aside0.mk (pw_below_drewN HB7.out nd)
                    have hS2 : _ ∧ _ ∧ _ ∧ _ ∧ _ ∧ _ ∧ _ := ⟨pw_cell_below (pw_below_drewN (Below.refl _ w2) nd) hHeld.1, pw_cell_below (pw_below_drewN (Below.refl _ w2) nd) hHeld.2.1, pw_cell_below (pw_below_drewN (Below.refl _ w2) nd) hHeld.2.2.1, pw_cell_below (pw_below_drewN (Below.refl _ w2) nd) hHeld.2.2.2.1, pw_cell_below (pw_below_drewN (Below.refl _ w2) nd) hHeld.2.2.2.2.1, pw_cell_below (pw_below_drewN (Below.refl _ w2) nd) hHeld.2.2.2.2.2.1, pw_cell_below (pw_below_drewN (Below.refl _ w2) nd) hHeld.2.2.2.2.2.2⟩
                    clear hHeld
                    generalize w2.drewN nd = w2 at HA7 HB7 hS2 ⊢
                    refine hK.out _ _ hS2 (fun hHeld => ?_)
                    clear hK K hS2
                    refine norm_ (a' := ?_) ?_ ?_
                    rotate_left
                    · show Act.put _ (some 40) _ = _
                      simp only [Act.put, Hl.s1, Hl.s2, Hl.s3, i64_w, i32_w]
                      rfl
                    refine Hl.pI 11 41 13 4095 HT_ rfl rfl ?_; refine Hl.pI 12 42 13 8191 HT_ rfl rfl ?_
                    refine done_ (done_of HT_.out (by kernel_rfl)) ?_
                    try go_wp2
                    have hqY : w2.cell? ⟨gY, 0, none⟩ = some (.int .i64 q) := (blk_cell HA7.out.bY 0).trans rfl
                    have hqC : w2.cell? ⟨gC, 0, none⟩ = some (.slice Ac2 ch.length cc2) := (blk_cell HA7.out.bC 0).trans rfl
                    clear hHeld HT_
                    refine start_ (n := 8) (S := fun w' => w'.cell? ⟨gY, 0, none⟩ = some (.int .i64 q) ∧ True) (ds := [7]) (Hl.ba 8 0) (by kernel_rfl) rfl (by kernel_rfl) ⟨hqY, trivial⟩ (fun hHeld => ?_)
                    have HD2 := Aside0.mk HA7.out.drew
                    have HBd := Aside0.mk (show Below wc.heap.size wc w2.drew from Below.drew HB7.out)
                    have hqC2 : w2.drew.cell? ⟨gC, 0, none⟩ = some (.slice Ac2 ch.length cc2) := hqC
                    clear HA7 HB7 hqY hqC
                    generalize w2.drew = wd at hHeld HD2 HBd hqC2 ⊢
                    refine with_tab rfl (fun HT_ => ?_)
                    refine Hl.tJ 4 47 8 16 HT_ rfl rfl hHeld ?_; refine Hl.pI 5 48 8 48 HT_ rfl rfl ?_; refine Hl.pI 1 44 8 50 HT_ rfl rfl ?_
                    refine join_ (σ := Option Addr × Nat) 3 (Hl.ba 8 55) (fun x => [(43, .slice Ac2 ch.length cc2), (45, .slice x.1 1 x.2)]) (fun x W2 => (W2.cell? ⟨gY, 0, none⟩ = some (.int .i64 q) ∧ True) ∧ Below wd.heap.size wd W2 ∧ Kd.C (Kd.int .i64) W2 x.1 1 [i]) ?_ ?_
                    rotate_left
                    · intro hJ
                      have HJ := Aside0.mk hJ
                      clear hJ
                      refine two_ (i := 0) (j := 2) (Ni := some 43) (Nj := some 45) (Hl.ba 8 51) (Hl.ba 8 54) rfl rfl rfl rfl (two_of HT_.out (by kernel_rfl)) (by decide) (by decide) (fun K hK => ?_) (fun K hK => ?_)
                      · refine event_step (v := .slice Ac2 ch.length cc2) (w1 := wd) rfl ?hrun ?_
                        case hrun => first | (go_simp; done) | (go_simp; rfl)
                        refine hK.out _ _ hHeld (fun hHeld => ?_)
                        clear hK K
                        refine norm_ (a' := ?_) ?_ ?_
                        rotate_left
                        · show Act.put _ (some 43) _ = _
                          simp only [Act.put, Hl.s1, Hl.s2, Hl.s3, i64_w, i32_w]
                          rfl
                        refine one_ (i := 2) (N := some 45) (Hl.ba 8 55) rfl rfl (one_of HT_.out (by kernel_rfl)) (by decide) (fun K hK => ?_)
                        refine Kd.R_lit_step (Kd.int .i64) (w0 := wd) wd.heap.size 2 ?hw (N := 45) ?hd (xs := [i]) (inner := [.int .i64 i]) (ok := fun _ => True) (okp := fun _ => True) ?hr ?hp (fun _ hk => hk) trivial (Below.refl _ _) (Nat.le_refl _) (by simp) ?_
                        (case hw => rfl)
                        (case hd => rfl)
                        (case hr => first | (go_simp; done) | (go_simp; rfl))
                        (case hp => exact (Reps.one (show Kd.M (Kd.int .i64) _ _ _ i [.int .i64 i] from rfl) (Reps.none _ _)))
                        intro v45 w3 ho3 hb hg_ hnew_
                        clear hg_ hnew_
                        obtain ⟨A45, c45, rfl, _, hC45⟩ := Kd.R_reads ho3
                        have hS3 := And.intro (pw_cell_below hb hHeld.1) trivial
                        refine hK.out _ _ hS3 (fun hHeld => ?_)
                        clear hK K hS3
                        refine norm_ (a' := ?_) ?_ ?_
                        rotate_left
                        · show Act.put _ (some 45) _ = _
                          simp only [Act.put, Hl.s1, Hl.s2, Hl.s3, i64_w, i32_w]
                          rfl
                        exact norm_ (by first | (simp only [putAll, Act.put, List.setIfInBounds_toArray, List.set_cons_zero, List.set_cons_succ]; done) | (simp only [putAll, Act.put, List.setIfInBounds_toArray, List.set_cons_zero, List.set_cons_succ]; rfl)) (HJ.out ((A45, c45)) _ ⟨hHeld, hb, hC45⟩)
                      · refine Kd.R_lit_step (Kd.int .i64) (w0 := wd) wd.heap.size 2 ?hw (N := 45) ?hd (xs := [i]) (inner := [.int .i64 i]) (ok := fun _ => True) (okp := fun _ => True) ?hr ?hp (fun _ hk => hk) trivial (Below.refl _ _) (Nat.le_refl _) (by simp) ?_
                        (case hw => rfl)
                        (case hd => rfl)
                        (case hr => first | (go_simp; done) | (go_simp; rfl))
                        (case hp => exact (Reps.one (show Kd.M (Kd.int .i64) _ _ _ i [.int .i64 i] from rfl) (Reps.none _ _)))
                        intro v45 w3 ho3 hb hg_ hnew_
                        clear hg_ hnew_
                        obtain ⟨A45, c45, rfl, _, hC45⟩ := Kd.R_reads ho3
                        have hS3 := And.intro (pw_cell_below hb hHeld.1) trivial
                        have hqC3 := pw_cell_below hb hqC2
                        refine hK.out _ _ hS3 (fun hHeld => ?_)
                        clear hK K hS3
                        refine norm_ (a' := ?_) ?_ ?_
                        rotate_left
                        · show Act.put _ (some 45) _ = _
                          simp only [Act.put, Hl.s1, Hl.s2, Hl.s3, i64_w, i32_w]
                          rfl
                        refine one_ (i := 0) (N := some 43) (Hl.ba 8 55) rfl rfl (one_of HT_.out (by kernel_rfl)) (by decide) (fun K hK => ?_)
                        refine event_step (v := .slice Ac2 ch.length cc2) (w1 := w3) rfl ?hrun ?_
                        case hrun => first | (go_simp; done) | (go_simp; rfl)
                        refine hK.out _ _ hHeld (fun hHeld => ?_)
                        clear hK K
                        refine norm_ (a' := ?_) ?_ ?_
                        rotate_left
                        · show Act.put _ (some 43) _ = _
                          simp only [Act.put, Hl.s1, Hl.s2, Hl.s3, i64_w, i32_w]
                          rfl
                        exact norm_ (by first | (simp only [putAll, Act.put, List.setIfInBounds_toArray, List.set_cons_zero, List.set_cons_succ]; done) | (simp only [putAll, Act.put, List.setIfInBounds_toArray, List.set_cons_zero, List.set_cons_succ]; rfl)) (HJ.out ((A45, c45)) _ ⟨hHeld, hb, hC45⟩)
                    · rintro ⟨A45, c45⟩ w3 ⟨hHeld, hb, hC⟩
                      have HBW := Aside0.mk hb
                      have HC := Aside0.mk hC
                      clear hb hC hqC2
                      refine norm_ (a' := ?_) ?_ ?_
                      rotate_left
                      · simp only [putAll, Act.put, List.setIfInBounds_toArray, List.set_cons_zero, List.set_cons_succ]
                        rfl
                      refine one_ (i := 3) (N := some 46) (Hl.ba 8 63) rfl rfl (one_of HT_.out (by kernel_rfl)) (by decide) (fun K hK => ?_)
                      refine Kd.R_append_rows_step (Kd.int .i64) (w0 := wd) base rfl (.tmp 43) (.tmp 45) 22 2 (.int .i64 0) 8 rfl Tryd.underlying22 info2 rfl (by decide) (by omega) (.slice Ac2 ch.length cc2) ch [i] A45 1 c45 (fun _ => True) (fun _ => False) rfl rfl (HD2.out.below HBW.out).ch_ HC.out (fun _ _ h => h) (fun _ h => h.elim) (fun _ _ => trivial) (HBW.out.mono HD2.out.size_) (Nat.le_trans HD2.out.size_ HBW.out.size) (by have := C4.out.1; omega) ?_
                      intro v1 w4 ho hb hgr hat
                      obtain ⟨A1_, c1_, e_, _, _⟩ := Kd.R_reads ho
                      rw [List.length_append, List.length_singleton] at e_
                      subst e_
                      obtain ⟨hG1, hG2, hG3, hG4⟩ := HD2.out.grow HN.out HBW.out hgr hat ho hb
                      have HG3 := Aside0.mk hG3
                      have HG4 := Aside0.mk hG4
                      have hf3 : w4.frozen? ⟨gC, 0, none⟩ = false := blk_frozen hG1 0
                      have hg3 : w4.cell? ⟨gC, 0, none⟩ = some (.slice Ac2 ch.length cc2) := (blk_cell hG1 0).trans rfl
                      have hS4 : w4.cell? ⟨gY, 0, none⟩ = some (.int .i64 q) ∧ True := ⟨(blk_cell hG2 0).trans rfl, trivial⟩
                      clear ho hb hgr hat hG1 hG2 hG3 hG4 HC HBW hHeld
                      refine hK.out _ _ hS4 (fun hHeld => ?_)
                      clear hK K hS4
                      refine norm_ (a' := ?_) ?_ ?_
                      rotate_left
                      · show Act.put _ (some 46) _ = _
                        simp only [Act.put, Hl.s1, Hl.s2, Hl.s3, i64_w, i32_w]
                        rfl
                      refine one_ (i := 6) (N := none) (Hl.ba 8 127) rfl rfl (one_of HT_.out (by kernel_rfl)) (by decide) (fun K hK => ?_)
                      refine impl_AssignPupils.store_step (w1 := w4.setCell ⟨gC, 0, none⟩ (.slice A1_ (ch.length + 1) c1_)) rfl rfl ?hr ?_
                      case hr => first | (go_simp; done) | (go_simp; rfl)
                      clear hf3 hg3 hHeld
                      generalize w4.setCell ⟨gC, 0, none⟩ (.slice A1_ (ch.length + 1) c1_) = w5 at HG3 HG4 ⊢
                      refine hK.out _ _ ⟨(blk_cell HG3.out.bY 0).trans rfl, trivial⟩ (fun hHeld => ?_)
                      clear hK K hHeld
                      have hf4 : w5.frozen? ⟨gY, 0, none⟩ = false := blk_frozen HG3.out.bY 0
                      have hc4 : w5.cell? ⟨gY, 0, none⟩ = some (.int .i64 q) := (blk_cell HG3.out.bY 0).trans rfl
                      refine last_ (i := 7) (N := none) (Hl.ba 8 255) rfl rfl (one_of HT_.out (by kernel_rfl)) (by decide) (fun K hK => ?_)
                      refine impl_AssignPupils.store_step (w1 := w5.setCell ⟨gY, 0, none⟩ (.int .i64 (wrap64 (q + 1)))) rfl rfl ?hr ?_
                      case hr => first | (go_simp; done) | (go_simp; rfl)
                      obtain ⟨hP1, hP2⟩ := HG3.out.putY HN.out (wrap64 (q + 1))
                      have HA5 := Aside0.mk hP1
                      have HB5 := Aside0.mk ((HBd.out.mono (Nat.le_trans HA.out.size_ BB.out.size)).trans (HG4.out.trans hP2))
                      clear HG3 HG4 hP1 hP2 hf4 hc4 HD2 HBd
                      generalize w5.setCell ⟨gY, 0, none⟩ (.int .i64 (wrap64 (q + 1))) = w6 at HA5 HB5 ⊢
                      refine hK.out _ _ ?_
                      clear hK K
                      refine done_ (done_of HT_.out (by kernel_rfl)) ?_
                      clear HT_
                      have hcA : w6.cell? ⟨gA, 0, none⟩ = some (.func (.func 45) #[] #[.pointer (some ⟨gC, 0, none⟩), .pointer (some ⟨gT, 0, none⟩), .pointer (some ⟨gY, 0, none⟩), .pointer (some ⟨gM, 0, none⟩), .pointer (some ⟨gB, 0, none⟩), .pointer (some ⟨gL, 0, none⟩), .pointer (some ⟨gN, 0, none⟩), .pointer (some ⟨gA, 0, none⟩)]) := (blk_cell HA5.out.bA 0).trans rfl
                      go_wp2_with (go_at_call 45; (with_reducible refine (HI.out k1 (by have := HK1.out; have := HK.out; omega) _ (ch ++ [i]) vb2 best2 m2 (wrap64 (q + 1)) b3 m3 w6 HA5.out HT3.out).mono ?_); rintro e w7 ⟨rfl, ⟨vc7, vb7, hA7⟩, hb7⟩; obtain ⟨A7, c7, e_, hle7, _⟩ := Kd.R_reads hA7.ch_; rw [List.length_append, List.length_singleton] at e_; subst e_; have HL7 := Aside0.mk hle7; have HA7 := Aside0.mk hA7; have HB7 := Aside0.mk (HB5.out.trans hb7); clear hA7 hb7 hle7)
                      have hqY : w7.cell? ⟨gY, 0, none⟩ = some (.int .i64 (wrap64 (q + 1))) := (blk_cell HA7.out.bY 0).trans rfl
                      refine start_ (n := 7) (S := fun w' => w'.cell? ⟨gY, 0, none⟩ = some (.int .i64 (wrap64 (q + 1))) ∧ True) (ds := [6]) (Hl.ba 7 0) (by kernel_rfl) rfl (by kernel_rfl) ⟨hqY, trivial⟩ (fun hHeld => ?_)
                      have HD3 := Aside0.mk HA7.out.drew
                      have HBe := Aside0.mk (show Below base wr w7.drew from Below.drew ((BB.out.mono HA.out.size_).trans HB7.out))
                      clear HA7 HB7 hqY HA5 HB5 hcA
                      generalize w7.drew = wf at hHeld HD3 HBe ⊢
                      have hqC2 : wf.cell? ⟨gC, 0, none⟩ = some (.slice A7 (ch.length + 1) c7) := (blk_cell HD3.out.bC 0).trans rfl
                      have hs1 : ((ch.length : Int) ≤ (c7 : Int)) = True := eq_true (by have := HL7.out; rw [List.length_append, List.length_singleton] at this; omega)
                      have hs2 : (ch.length ≤ c7) = True := eq_true (by have := HL7.out; rw [List.length_append, List.length_singleton] at this; omega)
                      have hs3 : (0 ≤ (ch.length : Int)) = True := eq_true (by omega)
                      refine with_tab rfl (fun HT_ => ?_)
                      refine Hl.tJ 3 54 7 8 HT_ rfl rfl hHeld ?_; refine Hl.pI 4 55 7 24 HT_ rfl rfl ?_; refine Hl.pI 1 52 7 26 HT_ rfl rfl ?_
                      refine one_ (i := 0) (N := some 51) (Hl.ba 7 27) rfl rfl (one_of HT_.out (by kernel_rfl)) (by decide) (fun K hK => ?_)
                      refine event_step (v := .slice A7 (ch.length + 1) c7) (w1 := wf) rfl ?hrun ?_
                      case hrun => first | (go_simp; done) | (go_simp; rfl)
                      refine hK.out _ _ hHeld (fun hHeld => ?_)
                      clear hK K
                      refine norm_ (a' := ?_) ?_ ?_
                      rotate_left
                      · show Act.put _ (some 51) _ = _
                        simp only [Act.put, Hl.s1, Hl.s2, Hl.s3, i64_w, i32_w]
                        rfl
                      refine Hl.pI 2 53 7 31 HT_ rfl rfl ?_
                      have hf3 : wf.frozen? ⟨gC, 0, none⟩ = false := blk_frozen HD3.out.bC 0
                      refine one_ (i := 5) (N := none) (Hl.ba 7 63) rfl rfl (one_of HT_.out (by kernel_rfl)) (by decide) (fun K hK => ?_)
                      refine impl_AssignPupils.store_step (w1 := wf.setCell ⟨gC, 0, none⟩ (.slice A7 ch.length c7)) rfl rfl ?hr ?_
                      case hr => first | (go_simp; done) | (go_simp; rfl)
                      obtain ⟨hP1, hP2⟩ := HD3.out.back HN.out
                      have HA8 := Aside0.mk hP1
                      have HB8 := Aside0.mk (HBe.out.trans hP2)
                      clear HD3 HBe hP1 hP2 hf3 hqC2 hHeld
                      generalize wf.setCell ⟨gC, 0, none⟩ (.slice A7 ch.length c7) = w8 at HA8 HB8 ⊢
                      refine hK.out _ _ ⟨(blk_cell HA8.out.bY 0).trans rfl, trivial⟩ (fun hHeld => ?_)
                      clear hK K hHeld
                      have hf4 : w8.frozen? ⟨gY, 0, none⟩ = false := blk_frozen HA8.out.bY 0
                      have hc4 : w8.cell? ⟨gY, 0, none⟩ = some (.int .i64 (wrap64 (q + 1))) := (blk_cell HA8.out.bY 0).trans rfl
                      refine last_ (i := 6) (N := none) (Hl.ba 7 127) rfl rfl (one_of HT_.out (by kernel_rfl)) (by decide) (fun K hK => ?_)
                      refine impl_AssignPupils.store_step (w1 := w8.setCell ⟨gY, 0, none⟩ (.int .i64 (wrap64 (wrap64 (q + 1) - 1)))) rfl rfl ?hr ?_
                      case hr => first | (go_simp; done) | (go_simp; rfl)
                      obtain ⟨hP1, hP2⟩ := HA8.out.putY HN.out (wrap64 (wrap64 (q + 1) - 1))
                      rw [C4.out.2] at hP1 hP2 ⊢
                      have HA9 := Aside0.mk hP1
                      have HB9 := Aside0.mk (HB8.out.trans hP2)
                      clear HA8 HB8 hP1 hP2 hf4 hc4
                      generalize w8.setCell ⟨gY, 0, none⟩ (.int .i64 q) = w9 at HA9 HB9 ⊢
                      refine hK.out _ _ ?_
                      clear hK K
                      refine done_ (done_of HT_.out (by kernel_rfl)) ?_
                      try go_wp2
                      go_roundg k1
                      case measure => have := HK1.out; omega
                      case rel => exact ⟨_, vb7, b3, m3, wrap64 (i + 1), rfl, HA9, HL, ⟨by have := HK1.out; omega⟩, ⟨HB.out.trans HB9.out⟩⟩
                · rw [if_neg e5] at h
                  obtain rfl : t1 = false := Bool.eq_false_iff.mpr e5
                  clear e5
                  have HL := Aside0.mk h
                  clear h
                  go_upto_region 7 with (fail)
                  refine start_ (n := 13) (S := (fun w' => w'.cell? ⟨gN, 0, none⟩ = some (.slice AN N.length cN) ∧ w'.cell? ⟨gx, 0, none⟩ = some (.string (rd_T56 l i).f0) ∧ w'.cell? ⟨gx, 1, none⟩ = some (.int .i64 (rd_T56 l i).f1) ∧ w'.cell? ⟨gx, 2, none⟩ = some (.slice Ad (rd_T56 l i).f2.length cd) ∧ w'.cell? ⟨gT, 0, none⟩ = some (.slice (some adt) T.length cT) ∧ w'.cell? (adt.add ch.length) = some (.int .i64 (rd T (ch.length : Int))) ∧ w'.cell? ⟨gC, 0, none⟩ = some (.slice Ac2 ch.length cc2))) (ds := []) (Hl.ba 13 0) (by kernel_rfl) rfl (by kernel_rfl) ⟨hq0, hq1, hq2, hq3, hq4, hz0, hq6⟩ (fun hHeld => ?_)
                  have HD2 := Aside0.mk HA2.out.drew
                  have HBd := Aside0.mk (show Below wc.heap.size wc wc.drew from Below.drew (Below.refl _ wc))
                  clear HA2 hq0 hq1 hq2 hq3 hq4 hz0 hq6
                  generalize wc.drew = wd at hHeld HD2 HBd ⊢
                  refine with_tab rfl (fun HT_ => ?_)
                  refine Hl.tJ 0 30 13 1 HT_ rfl rfl hHeld ?_; refine Hl.tJ 1 31 13 3 HT_ rfl rfl hHeld ?_; refine Hl.tJ 2 32 13 7 HT_ rfl rfl hHeld ?_; refine Hl.pI 3 33 13 15 HT_ rfl rfl ?_; refine Hl.pI 4 34 13 31 HT_ rfl rfl ?_; refine Hl.tJ 5 35 13 63 HT_ rfl rfl hHeld ?_
                  refine one_ (i := 6) (N := some 36) (Hl.ba 13 127) rfl rfl (one_of HT_.out (by kernel_rfl)) (by decide) (fun K hK => ?_)
                  refine Hl.gs Tryd.func46 (by kernel_rfl) rfl #[.slice AN N.length cN, .agg #[.string (rd_T56 l i).f0, .int .i64 (rd_T56 l i).f1, .slice Ad (rd_T56 l i).f2.length cd], .int .i64 (rd T (ch.length : Int))] (by rfl) rfl rfl ?_
                  with_reducible refine (impl_hasSkill.calls AN cN N (rd_T56 l i).f0 (rd_T56 l i).f1 Ad cd (rd_T56 l i).f2 (rd T (ch.length : Int)) false wd (HD2.out.needs_ _ (Below.refl _ _)) HcN.out (Kd.C_below (Kd.C_below HE.out BB.out) HBd.out) HD.out HT1.out).mono ?_
                  rintro e w2 ⟨rfl, hb⟩
                  refine ⟨_, rfl, ?_⟩
                  have HA7 := Aside0.mk (HD2.out.below hb)
                  have HB7 := Aside0.mk (below_step HBd.out hb)
                  have hS2 : _ ∧ _ ∧ _ ∧ _ ∧ _ ∧ _ ∧ _ := ⟨pw_cell_below hb hHeld.1, pw_cell_below hb hHeld.2.1, pw_cell_below hb hHeld.2.2.1, pw_cell_below hb hHeld.2.2.2.1, pw_cell_below hb hHeld.2.2.2.2.1, pw_cell_below hb hHeld.2.2.2.2.2.1, pw_cell_below hb hHeld.2.2.2.2.2.2⟩
                  clear hb HD2 HBd hHeld
                  refine hK.out _ _ hS2 (fun hHeld => ?_)
                  clear hK K hS2
                  refine norm_ (a' := ?_) ?_ ?_
                  rotate_left
                  · show Act.put _ (some 36) _ = _
                    simp only [Act.put, Hl.s1, Hl.s2, Hl.s3, i64_w, i32_w]
                    rfl
                  refine Hl.pI 7 37 13 255 HT_ rfl rfl ?_; refine Hl.pU 8 38 13 511 HT_ rfl rfl ?_; refine Hl.pU 9 39 13 1023 HT_ rfl rfl ?_; refine Hl.pU 10 40 13 2047 HT_ rfl rfl ?_; refine Hl.pU 11 41 13 4095 HT_ rfl rfl ?_; refine Hl.pI 12 42 13 8191 HT_ rfl rfl ?_
                  refine done_ (done_of HT_.out (by kernel_rfl)) ?_
                  try go_wp2
                  go_roundg k1
                  case measure => have := HK1.out; omega
                  case rel => exact ⟨_, vb2, best2, m2, wrap64 (i + 1), rfl, HA7, HL, ⟨by have := HK1.out; omega⟩, ⟨(HB.out.trans (BB.out.mono HA.out.size_)).trans (HB7.out.mono (Nat.le_trans HA.out.size_ BB.out.size))⟩⟩
            · rw [if_neg e1] at h
              have d3 : decide (i < (l.length : Int)) = false := decide_eq_false e1
              obtain ⟨rfl, rfl⟩ := Prod.mk.inj (Option.some.inj h)
              clear h e1
              have hc0 : wr.cell? ⟨gC, 0, none⟩ = some (.slice Ac2 ch.length cc2) := (blk_cell HA.out.bC 0).trans rfl
              go_upto_region 13 with (((with_reducible refine gate_builtin (b := .append) (xs := #[.tmp 57, .tmp 58]) rfl ?_); at_builtin; refine Kd.R_append (Kd.int .i64) (w0 := wr) base rfl (.tmp 57) (.tmp 58) 22 2 (.int .i64 0) 8 rfl Tryd.underlying22 info2 rfl (by decide) (by omega) (.slice Ac2 ch.length cc2) ch (-1) [.int .i64 (-1)] (fun _ => True) (fun _ => False) rfl rfl ?aP (fun _ hk => hk.elim) ?aF ?aO ?aB ?aS ?aL ?_; (case aP => exact rfl); (case aB => exact Below.refl _ _); (case aF => exact (fun _ _ => trivial)); (case aO => exact HA.out.ch_); (case aS => exact HA.out.size_); (case aL => have := C3.out; omega); intro v1 w1 ho hb hgr hat; obtain ⟨A1_, c1_, e_, _, _⟩ := Kd.R_reads ho; rw [List.length_append, List.length_singleton] at e_; subst e_; obtain ⟨hG1, hG2, hG3, hG4⟩ := HA.out.grow HN.out (Below.refl _ _) hgr hat ho hb; have HG3 := Aside0.mk hG3; have HG4 := Aside0.mk hG4; have hf3 : w1.frozen? ⟨gC, 0, none⟩ = false := blk_frozen hG1 0; have hg3 : w1.cell? ⟨gC, 0, none⟩ = some (.slice Ac2 ch.length cc2) := (blk_cell hG1 0).trans rfl; clear ho hb hgr hat hG1 hG2 hG3 hG4))
              have hcA : (w1.setCell ⟨gC, 0, none⟩ (.slice A1_ (ch.length + 1) c1_)).cell? ⟨gA, 0, none⟩ = some (.func (.func 45) #[] #[.pointer (some ⟨gC, 0, none⟩), .pointer (some ⟨gT, 0, none⟩), .pointer (some ⟨gY, 0, none⟩), .pointer (some ⟨gM, 0, none⟩), .pointer (some ⟨gB, 0, none⟩), .pointer (some ⟨gL, 0, none⟩), .pointer (some ⟨gN, 0, none⟩), .pointer (some ⟨gA, 0, none⟩)]) := (blk_cell HG3.out.bA 0).trans rfl
              generalize w1.setCell ⟨gC, 0, none⟩ (.slice A1_ (ch.length + 1) c1_) = w5 at HG3 HG4 hcA ⊢
              go_wp2_with (go_at_call 45; (with_reducible refine (HI.out k (by have := HK.out; omega) _ (ch ++ [-1]) vb2 best2 m2 q r1 r2 _ HG3.out HH.out).mono ?_); rintro e w7 ⟨rfl, ⟨vc7, vb7, hA7⟩, hb7⟩; obtain ⟨A7, c7, e_, hle7, _⟩ := Kd.R_reads hA7.ch_; rw [List.length_append, List.length_singleton] at e_ hle7; subst e_; have HA7 := Aside0.mk hA7; have HB7 := Aside0.mk (HG4.out.trans hb7); have hq7 : w7.cell? ⟨gC, 0, none⟩ = some (.slice A7 (ch.length + 1) c7) := (blk_cell hA7.bC 0).trans rfl; have hf7 : w7.frozen? ⟨gC, 0, none⟩ = false := blk_frozen hA7.bC 0; have hs1 : ((ch.length : Int) ≤ (c7 : Int)) = True := eq_true (by omega); have hs2 : (ch.length ≤ c7) = True := eq_true (by omega); have hs3 : (0 ≤ (ch.length : Int)) = True := eq_true (by omega); clear hA7 hb7 hle7)
              obtain ⟨hQ1, hQ2⟩ := HA7.out.back HN.out
              go_end0
              exact ⟨rfl, ⟨_, _, hQ1⟩, (HB.out.trans HB7.out).trans hQ2⟩
set_option maxHeartbeats 8000000 in
set_option maxRecDepth 100000 in
theorem impl_AssignPupils.calls (k : Nat) (A0 : Option Addr) (c0 : Nat) (l0 : List Int) (A1 : Option Addr) (c1 : Nat) (l1 : List S56) (A2 : Option Addr) (c2 : Nat) (l2 : List Int) (r1 : List Int) (r2 r3 : Int) (w : World) (hr0 : Kd.C (Kd.int .i64) w A0 l0.length l0) (hc0 : l0.length ≤ c0) (hr1 : Kd.C k56 w A1 l1.length l1) (hc1 : l1.length ≤ c1) (hr2 : Kd.C (Kd.int .i64) w A2 l2.length l2) (hc2 : l2.length ≤ c2) (h : impl_AssignPupils.f k l0 l1 l2 = some (r1, r2, r3)) :
    Calls Tryd.prog 17 #[.slice A0 l0.length c0, .slice A1 l1.length c1, .slice A2 l2.length c2] w fun e w' => ∃ v0_ : Value, e = .returned (.tuple #[v0_, .int .i64 r2, .int .i64 r3]) ∧ Kd.R (Kd.int .i64) 2 w' w.heap.size (fun _ => True) v0_ r1 ∧ Below w.heap.size w w' := by
  have hu56 := Tryd.underlying56
  have HR0 := Hl.am hr0
  have HC0 := Hl.am hc0
  have HR1 := Hl.am hr1
  have HC1 := Hl.am hc1
  have HR2 := Hl.am hr2
  have HC2 := Hl.am hc2
  clear hr0 hc0 hr1 hc1 hr2 hc2
  unfold impl_AssignPupils.f at h
  obtain ⟨t1, A1_, h⟩ := Option.bind_eq_some_iff.mp h
  have HT1 := Hl.am A1_
  clear A1_
  have h2 : ∃ t2 : Bool, ((l2.length : Int) ≤ 6 → impl_allWithin.f l2 0 (wrap64 ((l0.length : Int) - 1)) = some t2) ∧ (¬ (l2.length : Int) ≤ 6 → t2 = false) ∧ impl_AssignPupils.rest k l0 l1 l2 t1 t2 = some (r1, r2, r3) := by
    by_cases c : (l2.length : Int) ≤ 6
    · rw [if_pos c] at h
      obtain ⟨t2, g1, g2⟩ := Option.bind_eq_some_iff.mp h
      exact ⟨t2, fun _ => g1, fun g => absurd c g, g2⟩
    · rw [if_neg c] at h
      exact ⟨false, fun g => absurd g c, fun _ => rfl, h⟩
  clear h
  obtain ⟨t2, D1, D2, h⟩ := h2
  replace D1 := Hl.am D1
  replace D2 := Hl.am D2
  unfold impl_AssignPupils.rest at h
  obtain ⟨c, A3, h⟩ := Option.bind_eq_some_iff.mp h
  have HT3 := Hl.am A3
  have HH := Hl.am h
  clear A3 h
  go_enter Tryd.func17, Tryd.ntmps17
  go_upto_region 1 with (first | ((with_reducible refine gate_dst (N := 3) rfl ?_); refine box_event ?hg (N := 3) ?hd (cs := #[.slice A0 l0.length c0]) (t := 22) ?hr ?_; (case hd => rfl); (case hg => rfl); (case hr => first | (go_simp; done) | (go_simp; rfl)); intro gN hg w1 hbk hb; have GN := Hl.am (show w.heap.size ≤ gN by rw [hg]; exact Nat.le_refl _); have HBN := Hl.am hbk; have LTN := Hl.am (blk_lt hbk); have HB1 := Hl.am hb; clear hg hbk hb) | ((with_reducible refine gate_dst (N := 4) rfl ?_); refine box_event ?hg (N := 4) ?hd (cs := #[.slice A1 l1.length c1]) (t := 25) ?hr ?_; (case hd => rfl); (case hg => rfl); (case hr => first | (go_simp; done) | (go_simp; rfl)); intro gL hg w2 hbk hb; have GL := Hl.am (show gN < gL by rw [hg]; exact LTN.out); have HBN2 := Hl.am (blk_below HBN.out hb); have HBL := Hl.am hbk; have LTL := Hl.am (blk_lt hbk); have HB2 := Hl.am (below_step HB1.out hb); clear hg hbk hb) | ((with_reducible refine gate_dst (N := 5) rfl ?_); refine box_event ?hg (N := 5) ?hd (cs := #[.slice A2 l2.length c2]) (t := 22) ?hr ?_; (case hd => rfl); (case hg => rfl); (case hr => first | (go_simp; done) | (go_simp; rfl)); intro gT hg w3 hbk hb; have GT := Hl.am (show gL < gT by rw [hg]; exact LTL.out); have HBN3 := Hl.am (blk_below HBN2.out hb); have HBL3 := Hl.am (blk_below HBL.out hb); have HBT := Hl.am hbk; have HB3 := Hl.am (below_step HB2.out hb); clear hg hbk hb))
  have hq0 : w3.cell? ⟨gN, 0, none⟩ = some (.slice A0 l0.length c0) := (blk_cell HBN3.out 0).trans rfl
  have hq1 : w3.cell? ⟨gL, 0, none⟩ = some (.slice A1 l1.length c1) := (blk_cell HBL3.out 0).trans rfl
  have hq2 : w3.cell? ⟨gT, 0, none⟩ = some (.slice A2 l2.length c2) := (blk_cell HBT.out 0).trans rfl
  go_cut [9] (fun v9 wc => v9 = .int .i64 c ∧ Aside0 (Below w.heap.size w wc) ∧ Aside0 (Below w3.heap.size w3 wc))
  case first =>
    by_cases c6 : (l2.length : Int) ≤ 6
    · have d1 : decide ((l2.length : Int) ≤ 6) = true := decide_eq_true c6
      have d2 : decide (l2.length ≤ 6) = true := decide_eq_true (by omega)
      refine start_ (n := 15) (S := (fun w' => w'.cell? ⟨gN, 0, none⟩ = some (.slice A0 l0.length c0) ∧ w'.cell? ⟨gL, 0, none⟩ = some (.slice A1 l1.length c1) ∧ w'.cell? ⟨gT, 0, none⟩ = some (.slice A2 l2.length c2))) (ds := []) (Hl.ba 15 0) (by kernel_rfl) rfl (by kernel_rfl) ⟨hq0, hq1, hq2⟩ (fun hHeld => ?_)
      have HBd := Hl.am (show Below w.heap.size w w3.drew from Below.drew HB3.out)
      have HBe := Hl.am (show Below w3.heap.size w3 w3.drew from Below.drew (Below.refl _ _))
      clear hq0 hq1 hq2
      generalize w3.drew = wd at hHeld HBd HBe ⊢
      refine with_tab rfl (fun HT_ => ?_)
      refine Hl.tJ 0 15 15 1 HT_ rfl rfl hHeld ?_; refine Hl.tJ 1 16 15 3 HT_ rfl rfl hHeld ?_; refine Hl.tJ 3 18 15 11 HT_ rfl rfl hHeld ?_; refine Hl.pI 4 19 15 27 HT_ rfl rfl ?_; refine Hl.pI 5 20 15 59 HT_ rfl rfl ?_
      refine one_ (i := 2) (N := some 17) (Hl.ba 15 63) rfl rfl (one_of HT_.out (by kernel_rfl)) (by decide) (fun K hK => ?_)
      refine Hl.gs Tryd.func43 (by kernel_rfl) rfl #[.slice A0 l0.length c0, .slice A1 l1.length c1] (by rfl) rfl rfl ?_
      with_reducible refine (impl_ValidPupils.calls k A0 c0 l0 A1 c1 l1 t1 wd (Kd.C_below HR0.out HBd.out) HC0.out (Kd.C_below HR1.out HBd.out) HC1.out HT1.out).mono ?_
      rintro e w4 ⟨rfl, hb⟩
      refine ⟨_, rfl, ?_⟩
      have HB4 := Hl.am (below_step HBd.out hb)
      have HE4 := Hl.am (below_step HBe.out hb)
      have hS2 : _ ∧ _ ∧ _ := ⟨pw_cell_below hb hHeld.1, pw_cell_below hb hHeld.2.1, pw_cell_below hb hHeld.2.2⟩
      clear hb HBd HBe hHeld
      refine hK.out _ _ hS2 (fun hHeld => ?_)
      clear hK K hS2
      refine norm_ (a' := ?_) ?_ ?_
      rotate_left
      · show Act.put _ (some 17) _ = _
        simp only [Act.put, Hl.s1, Hl.s2, Hl.s3, i64_w, i32_w]
        rfl
      refine Hl.pI 6 21 15 127 HT_ rfl rfl ?_
      refine Hl.tJ 7 22 15 255 HT_ rfl rfl hHeld ?_; refine Hl.tJ 8 23 15 511 HT_ rfl rfl hHeld ?_; refine Hl.pI 9 24 15 1023 HT_ rfl rfl ?_; refine Hl.pI 10 25 15 2047 HT_ rfl rfl ?_
      refine one_ (i := 11) (N := some 26) (Hl.ba 15 4095) rfl rfl (one_of HT_.out (by kernel_rfl)) (by decide) (fun K hK => ?_)
      refine Hl.gs Tryd.func44 (by kernel_rfl) rfl #[.slice A2 l2.length c2, .int .i64 0, .int .i64 (wrap64 ((l0.length : Int) - 1))] (by rfl) rfl rfl ?_
      with_reducible refine (impl_allWithin.calls A2 c2 l2 0 (wrap64 ((l0.length : Int) - 1)) t2 w4 (Kd.C_below HR2.out HB4.out) HC2.out (D1.out c6)).mono ?_
      rintro e w5 ⟨rfl, hb⟩
      refine ⟨_, rfl, ?_⟩
      replace HB4 := Hl.am (below_step HB4.out hb)
      replace HE4 := Hl.am (below_step HE4.out hb)
      have hS2 : _ ∧ _ ∧ _ := ⟨pw_cell_below hb hHeld.1, pw_cell_below hb hHeld.2.1, pw_cell_below hb hHeld.2.2⟩
      clear hb hHeld
      refine hK.out _ _ hS2 (fun hHeld => ?_)
      clear hK K hS2
      refine norm_ (a' := ?_) ?_ ?_
      rotate_left
      · show Act.put _ (some 26) _ = _
        simp only [Act.put, Hl.s1, Hl.s2, Hl.s3, i64_w, i32_w]
        rfl
      refine Hl.pI 12 27 15 8191 HT_ rfl rfl ?_
      refine one_ (i := 13) (N := some 28) (Hl.ba 15 16383) rfl rfl (one_of HT_.out (by kernel_rfl)) (by decide) (fun K hK => ?_)
      refine Hl.gs Tryd.func42 (by kernel_rfl) rfl #[.bool t1, .bool t2] (by rfl) rfl rfl ?_
      with_reducible refine (impl_check.calls t1 t2 c _ HT3.out).mono ?_
      rintro e w' ⟨rfl, ⟨nd, rfl⟩⟩
      refine ⟨_, rfl, ?_⟩
      replace HB4 := Hl.am (pw_below_drewN HB4.out nd)
      replace HE4 := Hl.am (pw_below_drewN HE4.out nd)
      have hS2 : _ ∧ _ ∧ _ := ⟨pw_cell_below (pw_below_drewN (Below.refl _ _) nd) hHeld.1, pw_cell_below (pw_below_drewN (Below.refl _ _) nd) hHeld.2.1, pw_cell_below (pw_below_drewN (Below.refl _ _) nd) hHeld.2.2⟩
      clear hHeld
      refine hK.out _ _ hS2 (fun hHeld => ?_)
      clear hK K hS2
      refine norm_ (a' := ?_) ?_ ?_
      rotate_left
      · show Act.put _ (some 28) _ = _
        simp only [Act.put, Hl.s1, Hl.s2, Hl.s3, i64_w, i32_w]
        rfl
      refine Hl.pI 14 9 15 32767 HT_ rfl rfl ?_
      refine done_ (done_of HT_.out (by kernel_rfl)) ?_
      go_wp2
      go_meet
      case rel => exact ⟨rfl, HB4, HE4⟩
    · have d1 : decide ((l2.length : Int) ≤ 6) = false := decide_eq_false c6
      have d2 : decide (l2.length ≤ 6) = false := decide_eq_false (by omega)
      obtain rfl := D2.out c6
      refine start_ (n := 15) (S := (fun w' => w'.cell? ⟨gN, 0, none⟩ = some (.slice A0 l0.length c0) ∧ w'.cell? ⟨gL, 0, none⟩ = some (.slice A1 l1.length c1) ∧ w'.cell? ⟨gT, 0, none⟩ = some (.slice A2 l2.length c2))) (ds := []) (Hl.ba 15 0) (by kernel_rfl) rfl (by kernel_rfl) ⟨hq0, hq1, hq2⟩ (fun hHeld => ?_)
      have HBd := Hl.am (show Below w.heap.size w w3.drew from Below.drew HB3.out)
      have HBe := Hl.am (show Below w3.heap.size w3 w3.drew from Below.drew (Below.refl _ _))
      clear hq0 hq1 hq2
      generalize w3.drew = wd at hHeld HBd HBe ⊢
      refine with_tab rfl (fun HT_ => ?_)
      refine Hl.tJ 0 15 15 1 HT_ rfl rfl hHeld ?_; refine Hl.tJ 1 16 15 3 HT_ rfl rfl hHeld ?_; refine Hl.tJ 3 18 15 11 HT_ rfl rfl hHeld ?_; refine Hl.pI 4 19 15 27 HT_ rfl rfl ?_; refine Hl.pI 5 20 15 59 HT_ rfl rfl ?_
      refine one_ (i := 2) (N := some 17) (Hl.ba 15 63) rfl rfl (one_of HT_.out (by kernel_rfl)) (by decide) (fun K hK => ?_)
      refine Hl.gs Tryd.func43 (by kernel_rfl) rfl #[.slice A0 l0.length c0, .slice A1 l1.length c1] (by rfl) rfl rfl ?_
      with_reducible refine (impl_ValidPupils.calls k A0 c0 l0 A1 c1 l1 t1 wd (Kd.C_below HR0.out HBd.out) HC0.out (Kd.C_below HR1.out HBd.out) HC1.out HT1.out).mono ?_
      rintro e w4 ⟨rfl, hb⟩
      refine ⟨_, rfl, ?_⟩
      have HB4 := Hl.am (below_step HBd.out hb)
      have HE4 := Hl.am (below_step HBe.out hb)
      have hS2 : _ ∧ _ ∧ _ := ⟨pw_cell_below hb hHeld.1, pw_cell_below hb hHeld.2.1, pw_cell_below hb hHeld.2.2⟩
      clear hb HBd HBe hHeld
      refine hK.out _ _ hS2 (fun hHeld => ?_)
      clear hK K hS2
      refine norm_ (a' := ?_) ?_ ?_
      rotate_left
      · show Act.put _ (some 17) _ = _
        simp only [Act.put, Hl.s1, Hl.s2, Hl.s3, i64_w, i32_w]
        rfl
      refine Hl.pI 6 21 15 127 HT_ rfl rfl ?_; refine Hl.pU 7 22 15 255 HT_ rfl rfl ?_; refine Hl.pU 8 23 15 511 HT_ rfl rfl ?_; refine Hl.pU 9 24 15 1023 HT_ rfl rfl ?_; refine Hl.pU 10 25 15 2047 HT_ rfl rfl ?_; refine Hl.pU 11 26 15 4095 HT_ rfl rfl ?_; refine Hl.pI 12 27 15 8191 HT_ rfl rfl ?_
      refine one_ (i := 13) (N := some 28) (Hl.ba 15 16383) rfl rfl (one_of HT_.out (by kernel_rfl)) (by decide) (fun K hK => ?_)
      refine Hl.gs Tryd.func42 (by kernel_rfl) rfl #[.bool t1, .bool false] (by rfl) rfl rfl ?_
      with_reducible refine (impl_check.calls t1 false c _ HT3.out).mono ?_
      rintro e w' ⟨rfl, ⟨nd, rfl⟩⟩
      refine ⟨_, rfl, ?_⟩
      replace HB4 := Hl.am (pw_below_drewN HB4.out nd)
      replace HE4 := Hl.am (pw_below_drewN HE4.out nd)
      have hS2 : _ ∧ _ ∧ _ := ⟨pw_cell_below (pw_below_drewN (Below.refl _ _) nd) hHeld.1, pw_cell_below (pw_below_drewN (Below.refl _ _) nd) hHeld.2.1, pw_cell_below (pw_below_drewN (Below.refl _ _) nd) hHeld.2.2⟩
      clear hHeld
      refine hK.out _ _ hS2 (fun hHeld => ?_)
      clear hK K hS2
      refine norm_ (a' := ?_) ?_ ?_
      rotate_left
      · show Act.put _ (some 28) _ = _
        simp only [Act.put, Hl.s1, Hl.s2, Hl.s3, i64_w, i32_w]
        rfl
      refine Hl.pI 14 9 15 32767 HT_ rfl rfl ?_
      refine done_ (done_of HT_.out (by kernel_rfl)) ?_
      go_wp2
      go_meet
      case rel => exact ⟨rfl, HB4, HE4⟩
  case rest =>
    obtain ⟨rfl, HB4, HE4⟩ := hcut
    clear hq0 hq1 hq2
    by_cases e1 : c = 0
    case neg =>
      have h := HH.out
      rw [if_neg e1] at h
      simp only [Option.some.injEq, Prod.mk.injEq] at h
      obtain ⟨rfl, rfl, rfl⟩ := h
      have f1 : (c == 0) = false := beq_eq_false_iff_ne.2 e1
      have f2 : (c != 0) = true := bne_iff_ne.2 e1
      have f3 : decide (c = 0) = false := decide_eq_false e1
      clear e1
      go_wp2
      go_ret3
      exact ⟨_, rfl, Kd.R_nil _ _ _ _ _, HB4.out⟩
    subst e1
    have h := HH.out
    rw [if_pos rfl] at h
    clear HH
    have hq1 : wc.cell? ⟨gL, 0, none⟩ = some (.slice A1 l1.length c1) := (blk_cell (blk_below HBL3.out HE4.out) 0).trans rfl
    by_cases e2 : (l1.length : Int) > 6
    · rw [if_pos e2] at h
      simp only [Option.some.injEq, Prod.mk.injEq] at h
      obtain ⟨rfl, rfl, rfl⟩ := h
      have d1 : decide ((l1.length : Int) > 6) = true := decide_eq_true e2
      have d2 : decide ((6 : Int) < (l1.length : Int)) = true := decide_eq_true e2
      have d3 : decide (6 < l1.length) = true := decide_eq_true (by omega)
      clear e2
      go_wp2
      go_ret3
      exact ⟨_, rfl, Kd.R_nil _ _ _ _ _, HB4.out⟩
    · rw [if_neg e2] at h
      obtain ⟨⟨b, m⟩, A4, h⟩ := Option.bind_eq_some_iff.mp h
      simp only [Option.some.injEq, Prod.mk.injEq] at h
      obtain ⟨rfl, rfl, rfl⟩ := h
      have HW := Hl.am A4
      clear A4
      have d1 : decide ((l1.length : Int) > 6) = false := decide_eq_false e2
      have d2 : decide ((6 : Int) < (l1.length : Int)) = false := decide_eq_false e2
      have d3 : decide (6 < l1.length) = false := decide_eq_false (by omega)
      clear e2
      have XN := Hl.am (blk_below HBN3.out HE4.out)
      have XL := Hl.am (blk_below HBL3.out HE4.out)
      have XT := Hl.am (blk_below HBT.out HE4.out)
      have HB := HB4
      clear HB4 HE4 HBN3 HBL3 HBT HB3
      go_upto_region 7 with (first | ((with_reducible refine gate_dst (N := 35) rfl ?_); refine Kd.R_lit (Kd.int .i64) _ 2 ?hg (N := 35) ?hd (xs := ([] : List Int)) (inner := []) (ok := fun _ => True) (okp := fun _ => True) ?hr ?hp (fun _ hk => hk) trivial (Below.refl _ _) (Nat.le_refl _) (by simp) ?_; (case hd => rfl); (case hg => rfl); (case hr => first | (go_simp; done) | (go_simp; rfl)); (case hp => exact (Reps.none _ _)); intro v35 w35 ho hb hg_ hnew_; clear hg_ hnew_; obtain ⟨A35, c35, rfl, _, _⟩ := Kd.R_reads ho; have R35 := Hl.am (Kd.R_lower ho HB.out.size); have SZ := Hl.am (Kd.R_lt ho); replace XN := Hl.am (blk_below XN.out hb); replace XL := Hl.am (blk_below XL.out hb); replace XT := Hl.am (blk_below XT.out hb); replace HB := Hl.am (below_step HB.out hb); clear ho hb) | ((with_reducible refine gate_dst (N := 36) rfl ?_); refine Kd.R_lit (Kd.int .i64) _ 2 ?hg (N := 36) ?hd (xs := ([] : List Int)) (inner := []) (ok := fun _ => True) (okp := fun _ => True) ?hr ?hp (fun _ hk => hk) trivial (Below.refl _ _) (Nat.le_refl _) (by simp) ?_; (case hd => rfl); (case hg => rfl); (case hr => first | (go_simp; done) | (go_simp; rfl)); (case hp => exact (Reps.none _ _)); intro v36 w36 ho hb hg_ hnew_; clear hg_ hnew_; obtain ⟨A36, c36, rfl, _, _⟩ := Kd.R_reads ho; have NE := Hl.am (fun (k : Nat) (hk : (Value.slice A36 0 c36).ownBlock = some k) (e_ : some k = (Value.slice A35 0 c35).ownBlock) => Nat.lt_irrefl _ (Nat.lt_of_lt_of_le (SZ.out k e_.symm) (Kd.R_base ho k hk))); have R36 := Hl.am (Kd.R_lower ho HB.out.size); replace XN := Hl.am (blk_below XN.out hb); replace XL := Hl.am (blk_below XL.out hb); replace XT := Hl.am (blk_below XT.out hb); replace R35 := Hl.am (Kd.R_below R35.out hb); replace HB := Hl.am (below_step HB.out hb); clear ho hb) | ((with_reducible refine gate_dst (N := 10) rfl ?_); refine box_event ?hg (N := 10) ?hd (cs := #[.slice none 0 0]) (t := 22) ?hr ?_; (case hd => rfl); (case hg => rfl); (case hr => first | (go_simp; done) | (go_simp; rfl)); intro gB hg w10 hbk hb; have GXB := Hl.am (show gT < gB by rw [hg]; exact blk_lt XT.out); replace XN := Hl.am (blk_below XN.out hb); replace XL := Hl.am (blk_below XL.out hb); replace XT := Hl.am (blk_below XT.out hb); replace R35 := Hl.am (Kd.R_below R35.out hb); replace R36 := Hl.am (Kd.R_below R36.out hb); replace HB := Hl.am (below_step HB.out hb); have XB := Hl.am hbk; clear hg hbk hb) | ((with_reducible refine gate_dst (N := 11) rfl ?_); refine box_event ?hg (N := 11) ?hd (cs := #[.int .i64 0]) (t := 3) ?hr ?_; (case hd => rfl); (case hg => rfl); (case hr => first | (go_simp; done) | (go_simp; rfl)); intro gM hg w11 hbk hb; have GXM := Hl.am (show gB < gM by rw [hg]; exact blk_lt XB.out); replace XN := Hl.am (blk_below XN.out hb); replace XL := Hl.am (blk_below XL.out hb); replace XT := Hl.am (blk_below XT.out hb); replace XB := Hl.am (blk_below XB.out hb); replace R35 := Hl.am (Kd.R_below R35.out hb); replace R36 := Hl.am (Kd.R_below R36.out hb); replace HB := Hl.am (below_step HB.out hb); have XM := Hl.am hbk; clear hg hbk hb) | ((with_reducible refine gate_dst (N := 12) rfl ?_); refine box_event ?hg (N := 12) ?hd (cs := #[.slice none 0 0]) (t := 22) ?hr ?_; (case hd => rfl); (case hg => rfl); (case hr => first | (go_simp; done) | (go_simp; rfl)); intro gC hg w12 hbk hb; have GXC := Hl.am (show gM < gC by rw [hg]; exact blk_lt XM.out); replace XN := Hl.am (blk_below XN.out hb); replace XL := Hl.am (blk_below XL.out hb); replace XT := Hl.am (blk_below XT.out hb); replace XB := Hl.am (blk_below XB.out hb); replace XM := Hl.am (blk_below XM.out hb); replace R35 := Hl.am (Kd.R_below R35.out hb); replace R36 := Hl.am (Kd.R_below R36.out hb); replace HB := Hl.am (below_step HB.out hb); have XC := Hl.am hbk; clear hg hbk hb) | ((with_reducible refine gate_dst (N := 13) rfl ?_); refine box_event ?hg (N := 13) ?hd (cs := #[.int .i64 0]) (t := 3) ?hr ?_; (case hd => rfl); (case hg => rfl); (case hr => first | (go_simp; done) | (go_simp; rfl)); intro gY hg w13 hbk hb; have GXY := Hl.am (show gC < gY by rw [hg]; exact blk_lt XC.out); replace XN := Hl.am (blk_below XN.out hb); replace XL := Hl.am (blk_below XL.out hb); replace XT := Hl.am (blk_below XT.out hb); replace XB := Hl.am (blk_below XB.out hb); replace XM := Hl.am (blk_below XM.out hb); replace XC := Hl.am (blk_below XC.out hb); replace R35 := Hl.am (Kd.R_below R35.out hb); replace R36 := Hl.am (Kd.R_below R36.out hb); replace HB := Hl.am (below_step HB.out hb); have XY := Hl.am hbk; clear hg hbk hb; have fB : w13.frozen? ⟨gB, 0, none⟩ = false := blk_frozen XB.out 0; have fM : w13.frozen? ⟨gM, 0, none⟩ = false := blk_frozen XM.out 0; have fC : w13.frozen? ⟨gC, 0, none⟩ = false := blk_frozen XC.out 0; have fY : w13.frozen? ⟨gY, 0, none⟩ = false := blk_frozen XY.out 0; have kB : w13.cell? ⟨gB, 0, none⟩ = some (.slice none 0 0) := (blk_cell XB.out 0).trans rfl; have kM : w13.cell? ⟨gM, 0, none⟩ = some (.int .i64 0) := (blk_cell XM.out 0).trans rfl; have kC : w13.cell? ⟨gC, 0, none⟩ = some (.slice none 0 0) := (blk_cell XC.out 0).trans rfl; have kY : w13.cell? ⟨gY, 0, none⟩ = some (.int .i64 0) := (blk_cell XY.out 0).trans rfl; have nBM : gB ≠ gM := Nat.ne_of_lt GXM.out; have nMB : gM ≠ gB := Nat.ne_of_gt GXM.out; have nBC : gB ≠ gC := Nat.ne_of_lt (Nat.lt_trans GXM.out GXC.out); have nCB : gC ≠ gB := Nat.ne_of_gt (Nat.lt_trans GXM.out GXC.out); have nMC : gM ≠ gC := Nat.ne_of_lt GXC.out; have nCM : gC ≠ gM := Nat.ne_of_gt GXC.out; have nCY : gC ≠ gY := Nat.ne_of_lt GXY.out; have nYC : gY ≠ gC := Nat.ne_of_gt GXY.out; have nMY : gM ≠ gY := Nat.ne_of_lt (Nat.lt_trans GXC.out GXY.out); have nYM : gY ≠ gM := Nat.ne_of_gt (Nat.lt_trans GXC.out GXY.out); have nBY : gB ≠ gY := Nat.ne_of_lt (Nat.lt_trans GXM.out (Nat.lt_trans GXC.out GXY.out)); have nYB : gY ≠ gB := Nat.ne_of_gt (Nat.lt_trans GXM.out (Nat.lt_trans GXC.out GXY.out))))
      have GXN := Hl.am (show w.heap.size ≤ gN from GN.out)
      have GXL := Hl.am (show gN < gL from GL.out)
      have GXT := Hl.am (show gL < gT from GT.out)
      have YB := Hl.am (show ((((w13.setCell ⟨gB, 0, none⟩ (.slice A35 0 c35)).setCell ⟨gM, 0, none⟩ (.int .i64 (-1))).setCell ⟨gC, 0, none⟩ (.slice A36 0 c36)).setCell ⟨gY, 0, none⟩ (.int .i64 0)).heap[gB]? = _ from (blk_far (blk_far (blk_far (blk_set XB.out 0 (.slice A35 0 c35)) nBM (.int .i64 (-1))) nBC (.slice A36 0 c36)) nBY (.int .i64 0)))
      have YM := Hl.am (show ((((w13.setCell ⟨gB, 0, none⟩ (.slice A35 0 c35)).setCell ⟨gM, 0, none⟩ (.int .i64 (-1))).setCell ⟨gC, 0, none⟩ (.slice A36 0 c36)).setCell ⟨gY, 0, none⟩ (.int .i64 0)).heap[gM]? = _ from (blk_far (blk_far (blk_set (blk_far XM.out nMB (.slice A35 0 c35)) 0 (.int .i64 (-1))) nMC (.slice A36 0 c36)) nMY (.int .i64 0)))
      have YC := Hl.am (show ((((w13.setCell ⟨gB, 0, none⟩ (.slice A35 0 c35)).setCell ⟨gM, 0, none⟩ (.int .i64 (-1))).setCell ⟨gC, 0, none⟩ (.slice A36 0 c36)).setCell ⟨gY, 0, none⟩ (.int .i64 0)).heap[gC]? = _ from (blk_far (blk_set (blk_far (blk_far XC.out nCB (.slice A35 0 c35)) nCM (.int .i64 (-1))) 0 (.slice A36 0 c36)) nCY (.int .i64 0)))
      have YY := Hl.am (show ((((w13.setCell ⟨gB, 0, none⟩ (.slice A35 0 c35)).setCell ⟨gM, 0, none⟩ (.int .i64 (-1))).setCell ⟨gC, 0, none⟩ (.slice A36 0 c36)).setCell ⟨gY, 0, none⟩ (.int .i64 0)).heap[gY]? = _ from (blk_set (blk_far (blk_far (blk_far XY.out nYB (.slice A35 0 c35)) nYM (.int .i64 (-1))) nYC (.slice A36 0 c36)) 0 (.int .i64 0)))
      have YN := Hl.am (show ((((w13.setCell ⟨gB, 0, none⟩ (.slice A35 0 c35)).setCell ⟨gM, 0, none⟩ (.int .i64 (-1))).setCell ⟨gC, 0, none⟩ (.slice A36 0 c36)).setCell ⟨gY, 0, none⟩ (.int .i64 0)).heap[gN]? = _ from (blk_far (blk_far (blk_far (blk_far XN.out (show gN ≠ gB by have := GXB.out; have := GXT.out; have := GXL.out; have := GXM.out; have := GXC.out; have := GXY.out; omega) (.slice A35 0 c35)) (show gN ≠ gM by have := GXB.out; have := GXT.out; have := GXL.out; have := GXM.out; have := GXC.out; have := GXY.out; omega) (.int .i64 (-1))) (show gN ≠ gC by have := GXB.out; have := GXT.out; have := GXL.out; have := GXM.out; have := GXC.out; have := GXY.out; omega) (.slice A36 0 c36)) (show gN ≠ gY by have := GXB.out; have := GXT.out; have := GXL.out; have := GXM.out; have := GXC.out; have := GXY.out; omega) (.int .i64 0)))
      have YL := Hl.am (show ((((w13.setCell ⟨gB, 0, none⟩ (.slice A35 0 c35)).setCell ⟨gM, 0, none⟩ (.int .i64 (-1))).setCell ⟨gC, 0, none⟩ (.slice A36 0 c36)).setCell ⟨gY, 0, none⟩ (.int .i64 0)).heap[gL]? = _ from (blk_far (blk_far (blk_far (blk_far XL.out (show gL ≠ gB by have := GXB.out; have := GXT.out; have := GXL.out; have := GXM.out; have := GXC.out; have := GXY.out; omega) (.slice A35 0 c35)) (show gL ≠ gM by have := GXB.out; have := GXT.out; have := GXL.out; have := GXM.out; have := GXC.out; have := GXY.out; omega) (.int .i64 (-1))) (show gL ≠ gC by have := GXB.out; have := GXT.out; have := GXL.out; have := GXM.out; have := GXC.out; have := GXY.out; omega) (.slice A36 0 c36)) (show gL ≠ gY by have := GXB.out; have := GXT.out; have := GXL.out; have := GXM.out; have := GXC.out; have := GXY.out; omega) (.int .i64 0)))
      have YT := Hl.am (show ((((w13.setCell ⟨gB, 0, none⟩ (.slice A35 0 c35)).setCell ⟨gM, 0, none⟩ (.int .i64 (-1))).setCell ⟨gC, 0, none⟩ (.slice A36 0 c36)).setCell ⟨gY, 0, none⟩ (.int .i64 0)).heap[gT]? = _ from (blk_far (blk_far (blk_far (blk_far XT.out (show gT ≠ gB by have := GXB.out; have := GXT.out; have := GXL.out; have := GXM.out; have := GXC.out; have := GXY.out; omega) (.slice A35 0 c35)) (show gT ≠ gM by have := GXB.out; have := GXT.out; have := GXL.out; have := GXM.out; have := GXC.out; have := GXY.out; omega) (.int .i64 (-1))) (show gT ≠ gC by have := GXB.out; have := GXT.out; have := GXL.out; have := GXM.out; have := GXC.out; have := GXY.out; omega) (.slice A36 0 c36)) (show gT ≠ gY by have := GXB.out; have := GXT.out; have := GXL.out; have := GXM.out; have := GXC.out; have := GXY.out; omega) (.int .i64 0)))
      replace R35 := Hl.am (Kd.R_set (Kd.R_set (Kd.R_set (Kd.R_set R35.out XB.out (by decide) 0 (.slice A35 0 c35)) (blk_far XM.out nMB (.slice A35 0 c35)) (by decide) 0 (.int .i64 (-1))) (blk_far (blk_far XC.out nCB (.slice A35 0 c35)) nCM (.int .i64 (-1))) (by decide) 0 (.slice A36 0 c36)) (blk_far (blk_far (blk_far XY.out nYB (.slice A35 0 c35)) nYM (.int .i64 (-1))) nYC (.slice A36 0 c36)) (by decide) 0 (.int .i64 0))
      replace R36 := Hl.am (Kd.R_set (Kd.R_set (Kd.R_set (Kd.R_set R36.out XB.out (by decide) 0 (.slice A35 0 c35)) (blk_far XM.out nMB (.slice A35 0 c35)) (by decide) 0 (.int .i64 (-1))) (blk_far (blk_far XC.out nCB (.slice A35 0 c35)) nCM (.int .i64 (-1))) (by decide) 0 (.slice A36 0 c36)) (blk_far (blk_far (blk_far XY.out nYB (.slice A35 0 c35)) nYM (.int .i64 (-1))) nYC (.slice A36 0 c36)) (by decide) 0 (.int .i64 0))
      have hge : w.heap.size ≤ gB := by have := GXB.out; have := GXT.out; have := GXL.out; have := GXN.out; omega
      replace HB := Hl.am (Below.setCell (p := ⟨gY, 0, none⟩) (Below.setCell (p := ⟨gC, 0, none⟩) (Below.setCell (p := ⟨gM, 0, none⟩) (Below.setCell (p := ⟨gB, 0, none⟩) HB.out hge (.slice A35 0 c35)) (by have := GXM.out; show w.heap.size ≤ gM; omega) (.int .i64 (-1))) (by have := GXM.out; have := GXC.out; show w.heap.size ≤ gC; omega) (.slice A36 0 c36)) (by have := GXM.out; have := GXC.out; have := GXY.out; show w.heap.size ≤ gY; omega) (.int .i64 0))
      clear XB XM XC XY XN XL XT fB fM fC fY kB kM kC kY nBM nMB nBC nCB nMC nCM nCY nYC nMY nYM nBY nYB hge hq1
      generalize ((((w13.setCell ⟨gB, 0, none⟩ (.slice A35 0 c35)).setCell ⟨gM, 0, none⟩ (.int .i64 (-1))).setCell ⟨gC, 0, none⟩ (.slice A36 0 c36)).setCell ⟨gY, 0, none⟩ (.int .i64 0)) = wq at YB YM YC YY YN YL YT R35 R36 HB ⊢
      go_upto_region 8 with ((with_reducible refine gate_dst (N := 14) rfl ?_); refine box_event ?hg (N := 14) ?hd (cs := #[.nilFunc]) (t := 1) ?hr ?_; (case hd => rfl); (case hg => rfl); (case hr => first | (go_simp; done) | (go_simp; rfl)); intro gA hg w14 hbk hb; have GXA := Hl.am (show gY < gA by rw [hg]; exact blk_lt YY.out); replace YB := Hl.am (blk_below YB.out hb); replace YM := Hl.am (blk_below YM.out hb); replace YC := Hl.am (blk_below YC.out hb); replace YY := Hl.am (blk_below YY.out hb); replace YN := Hl.am (blk_below YN.out hb); replace YL := Hl.am (blk_below YL.out hb); replace YT := Hl.am (blk_below YT.out hb); replace R35 := Hl.am (Kd.R_below R35.out hb); replace R36 := Hl.am (Kd.R_below R36.out hb); replace HB := Hl.am (below_step HB.out hb); have YA := Hl.am hbk; clear hg hbk hb; have fA : w14.frozen? ⟨gA, 0, none⟩ = false := blk_frozen YA.out 0; have kA : w14.cell? ⟨gA, 0, none⟩ = some .nilFunc := (blk_cell YA.out 0).trans rfl)
      have hst : (store ⟨gA, 0, none⟩ (.func (.func 45) #[] #[.pointer (some ⟨gC, 0, none⟩), .pointer (some ⟨gT, 0, none⟩), .pointer (some ⟨gY, 0, none⟩), .pointer (some ⟨gM, 0, none⟩), .pointer (some ⟨gB, 0, none⟩), .pointer (some ⟨gL, 0, none⟩), .pointer (some ⟨gN, 0, none⟩), .pointer (some ⟨gA, 0, none⟩)])).run Tryd.prog w14 = stored Tryd.prog w14 ⟨gA, 0, none⟩ (.func (.func 45) #[] #[.pointer (some ⟨gC, 0, none⟩), .pointer (some ⟨gT, 0, none⟩), .pointer (some ⟨gY, 0, none⟩), .pointer (some ⟨gM, 0, none⟩), .pointer (some ⟨gB, 0, none⟩), .pointer (some ⟨gL, 0, none⟩), .pointer (some ⟨gN, 0, none⟩), .pointer (some ⟨gA, 0, none⟩)]) .plain := run_store _ _ _ _ _ rfl
      go_upto_region 9 with (fail)
      have hNe : impl_AssignPupils.Ne gC gT gY gM gB gL gN gA w.heap.size := ⟨⟨GXL.out, GXT.out, GXB.out, GXM.out, GXC.out, GXY.out, GXA.out⟩, GXN.out⟩
      have hbA : Below w.heap.size w (w14.setCell ⟨gA, 0, none⟩ (.func (.func 45) #[] #[.pointer (some ⟨gC, 0, none⟩), .pointer (some ⟨gT, 0, none⟩), .pointer (some ⟨gY, 0, none⟩), .pointer (some ⟨gM, 0, none⟩), .pointer (some ⟨gB, 0, none⟩), .pointer (some ⟨gL, 0, none⟩), .pointer (some ⟨gN, 0, none⟩), .pointer (some ⟨gA, 0, none⟩)])) := Below.setCell (p := ⟨gA, 0, none⟩) HB.out (by have := GXB.out; have := GXT.out; have := GXL.out; have := GXM.out; have := GXC.out; have := GXY.out; have := GXA.out; have := GXN.out; show w.heap.size ≤ gA; omega) _
      have hAt : impl_AssignPupils.At gC gT gY gM gB gL gN gA A0 c0 l0 A1 c1 l1 A2 c2 l2 w.heap.size (.slice A36 0 c36) [] (.slice A35 0 c35) [] (-1) 0 (w14.setCell ⟨gA, 0, none⟩ (.func (.func 45) #[] #[.pointer (some ⟨gC, 0, none⟩), .pointer (some ⟨gT, 0, none⟩), .pointer (some ⟨gY, 0, none⟩), .pointer (some ⟨gM, 0, none⟩), .pointer (some ⟨gB, 0, none⟩), .pointer (some ⟨gL, 0, none⟩), .pointer (some ⟨gN, 0, none⟩), .pointer (some ⟨gA, 0, none⟩)])) :=
        ⟨(blk_far YC.out (show gC ≠ gA by have := GXB.out; have := GXT.out; have := GXL.out; have := GXM.out; have := GXC.out; have := GXY.out; have := GXA.out; omega) (.func (.func 45) #[] #[.pointer (some ⟨gC, 0, none⟩), .pointer (some ⟨gT, 0, none⟩), .pointer (some ⟨gY, 0, none⟩), .pointer (some ⟨gM, 0, none⟩), .pointer (some ⟨gB, 0, none⟩), .pointer (some ⟨gL, 0, none⟩), .pointer (some ⟨gN, 0, none⟩), .pointer (some ⟨gA, 0, none⟩)])), (blk_far YT.out (show gT ≠ gA by have := GXB.out; have := GXT.out; have := GXL.out; have := GXM.out; have := GXC.out; have := GXY.out; have := GXA.out; omega) (.func (.func 45) #[] #[.pointer (some ⟨gC, 0, none⟩), .pointer (some ⟨gT, 0, none⟩), .pointer (some ⟨gY, 0, none⟩), .pointer (some ⟨gM, 0, none⟩), .pointer (some ⟨gB, 0, none⟩), .pointer (some ⟨gL, 0, none⟩), .pointer (some ⟨gN, 0, none⟩), .pointer (some ⟨gA, 0, none⟩)])), (blk_far YY.out (show gY ≠ gA by have := GXB.out; have := GXT.out; have := GXL.out; have := GXM.out; have := GXC.out; have := GXY.out; have := GXA.out; omega) (.func (.func 45) #[] #[.pointer (some ⟨gC, 0, none⟩), .pointer (some ⟨gT, 0, none⟩), .pointer (some ⟨gY, 0, none⟩), .pointer (some ⟨gM, 0, none⟩), .pointer (some ⟨gB, 0, none⟩), .pointer (some ⟨gL, 0, none⟩), .pointer (some ⟨gN, 0, none⟩), .pointer (some ⟨gA, 0, none⟩)])), (blk_far YM.out (show gM ≠ gA by have := GXB.out; have := GXT.out; have := GXL.out; have := GXM.out; have := GXC.out; have := GXY.out; have := GXA.out; omega) (.func (.func 45) #[] #[.pointer (some ⟨gC, 0, none⟩), .pointer (some ⟨gT, 0, none⟩), .pointer (some ⟨gY, 0, none⟩), .pointer (some ⟨gM, 0, none⟩), .pointer (some ⟨gB, 0, none⟩), .pointer (some ⟨gL, 0, none⟩), .pointer (some ⟨gN, 0, none⟩), .pointer (some ⟨gA, 0, none⟩)])), (blk_far YB.out (show gB ≠ gA by have := GXB.out; have := GXT.out; have := GXL.out; have := GXM.out; have := GXC.out; have := GXY.out; have := GXA.out; omega) (.func (.func 45) #[] #[.pointer (some ⟨gC, 0, none⟩), .pointer (some ⟨gT, 0, none⟩), .pointer (some ⟨gY, 0, none⟩), .pointer (some ⟨gM, 0, none⟩), .pointer (some ⟨gB, 0, none⟩), .pointer (some ⟨gL, 0, none⟩), .pointer (some ⟨gN, 0, none⟩), .pointer (some ⟨gA, 0, none⟩)])), (blk_far YL.out (show gL ≠ gA by have := GXB.out; have := GXT.out; have := GXL.out; have := GXM.out; have := GXC.out; have := GXY.out; have := GXA.out; omega) (.func (.func 45) #[] #[.pointer (some ⟨gC, 0, none⟩), .pointer (some ⟨gT, 0, none⟩), .pointer (some ⟨gY, 0, none⟩), .pointer (some ⟨gM, 0, none⟩), .pointer (some ⟨gB, 0, none⟩), .pointer (some ⟨gL, 0, none⟩), .pointer (some ⟨gN, 0, none⟩), .pointer (some ⟨gA, 0, none⟩)])), (blk_far YN.out (show gN ≠ gA by have := GXB.out; have := GXT.out; have := GXL.out; have := GXM.out; have := GXC.out; have := GXY.out; have := GXA.out; omega) (.func (.func 45) #[] #[.pointer (some ⟨gC, 0, none⟩), .pointer (some ⟨gT, 0, none⟩), .pointer (some ⟨gY, 0, none⟩), .pointer (some ⟨gM, 0, none⟩), .pointer (some ⟨gB, 0, none⟩), .pointer (some ⟨gL, 0, none⟩), .pointer (some ⟨gN, 0, none⟩), .pointer (some ⟨gA, 0, none⟩)])), blk_set YA.out 0 _, Kd.R_set R36.out YA.out (by decide) 0 _, Kd.R_set R35.out YA.out (by decide) 0 _, fun k hk e_ => NE.out k hk e_, fun W' h2 => Kd.C_below HR0.out (hbA.trans h2), fun W' h2 => Kd.C_below HR1.out (hbA.trans h2), fun W' h2 => Kd.C_below HR2.out (hbA.trans h2), hbA.size⟩
      have HAt := Hl.am hAt
      have HNe := Hl.am hNe
      have HBA := Hl.am hbA
      clear hAt hNe hbA hst YC YT YY YM YB YL YN YA R35 R36 NE HB fA kA
      generalize w14.setCell ⟨gA, 0, none⟩ (.func (.func 45) #[] #[.pointer (some ⟨gC, 0, none⟩), .pointer (some ⟨gT, 0, none⟩), .pointer (some ⟨gY, 0, none⟩), .pointer (some ⟨gM, 0, none⟩), .pointer (some ⟨gB, 0, none⟩), .pointer (some ⟨gL, 0, none⟩), .pointer (some ⟨gN, 0, none⟩), .pointer (some ⟨gA, 0, none⟩)]) = w15 at HAt HBA ⊢
      have kA : w15.cell? ⟨gA, 0, none⟩ = some (.func (.func 45) #[] #[.pointer (some ⟨gC, 0, none⟩), .pointer (some ⟨gT, 0, none⟩), .pointer (some ⟨gY, 0, none⟩), .pointer (some ⟨gM, 0, none⟩), .pointer (some ⟨gB, 0, none⟩), .pointer (some ⟨gL, 0, none⟩), .pointer (some ⟨gN, 0, none⟩), .pointer (some ⟨gA, 0, none⟩)]) := (blk_cell HAt.out.bA 0).trans rfl
      go_wp2_with (go_at_call 45; (with_reducible refine (impl_AssignPupils.walk gC gT gY gM gB gL gN gA A0 c0 l0 A1 c1 l1 A2 c2 l2 HC0.out HC1.out HC2.out w.heap.size HNe.out k k (Nat.le_refl _) (.slice A36 0 c36) [] (.slice A35 0 c35) [] (-1) 0 b m w15 HAt.out HW.out).mono ?_); rintro e w9 ⟨rfl, ⟨vc9, vb9, hA9⟩, hb9⟩; have HA9 := Hl.am hA9; have HB9 := Hl.am (HBA.out.trans hb9); clear hA9 hb9)
      have hc4 : w9.cell? ⟨gB, 0, none⟩ = some vb9 := (blk_cell HA9.out.bB 0).trans rfl
      have hc5 : w9.cell? ⟨gM, 0, none⟩ = some (.int .i64 m) := (blk_cell HA9.out.bM 0).trans rfl
      go_wp2
      repeat (go_quiet (fail); try go_wp2)
      go_ret3
      exact ⟨vb9, rfl, Kd.R_drewN HA9.out.best_ _, pw_below_drewN HB9.out _⟩

end Go.Proofs.YtafkckoikobnjaaDoor.PFnTasks
