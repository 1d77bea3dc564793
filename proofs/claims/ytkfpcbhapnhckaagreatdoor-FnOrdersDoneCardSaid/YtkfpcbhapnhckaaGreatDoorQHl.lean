-- what this claim names of YtkfpcbhapnhckaaGreatDoorHl (trim.py)

import Derived.Test.YtkfpcbhapnhckaaGreatDoorQWWords
import Derived.Test.YtkfpcbhapnhckaaGreatDoorQWMore
import Derived.WalkKit
import Derived.Below
import Derived.Test.YtkfpcbhapnhckaaGreatDoorQWLast
import Derived.Test.YtkfpcbhapnhckaaGreatDoorQWTab
namespace Go.Proofs.YtkfpcbhapnhckaaGreatDoor.Hl
open Go.RowKit Go.Proofs.YtkfpcbhapnhckaaGreatDoorW.PrintWords Go.Proofs.YtkfpcbhapnhckaaGreatDoorW.PrintLast
def fidx {α : Type} (p : α → Bool) (l : List α) : Int := match l.findIdx? p with | some i => (i : Int) | none => -1
theorem fidx_hit {α : Type} (p : α → Bool) (d : α) (l : List α) (k : Nat) (h : k < l.length) (hp : p (l.getD k d) = true) (hn : ∀ j, j < k → p (l.getD j d) = false) : fidx p l = k := by
  have : l.findIdx? p = some k := by
    rw [List.findIdx?_eq_some_iff_getElem]
    refine ⟨h, ?_, fun j hj => ?_⟩
    · rw [List.getD_eq_getElem?_getD, List.getElem?_eq_getElem h] at hp
      exact hp
    · have := hn j hj
      rw [List.getD_eq_getElem?_getD, List.getElem?_eq_getElem (by omega)] at this
      simpa using this
  unfold fidx
  rw [this]
theorem fidx_miss {α : Type} (p : α → Bool) (d : α) (l : List α) (hn : ∀ j, j < l.length → p (l.getD j d) = false) : fidx p l = -1 := by
  have : l.findIdx? p = none := by
    rw [List.findIdx?_eq_none_iff]
    intro x hx
    obtain ⟨i, hi, rfl⟩ := List.mem_iff_getElem.1 hx
    have := hn i hi
    rw [List.getD_eq_getElem?_getD, List.getElem?_eq_getElem hi] at this
    exact this
  unfold fidx
  rw [this]
theorem fidx_any {α : Type} (p : α → Bool) (l : List α) : decide (0 ≤ fidx p l) = l.any p := by
  unfold fidx
  cases h : l.findIdx? p with
  | none =>
    rw [List.findIdx?_eq_none_iff] at h
    have : l.any p = false := by
      rw [List.any_eq_false]
      intro x hx
      simp [h x hx]
    rw [this]
    decide
  | some i =>
    rw [List.findIdx?_eq_some_iff_getElem] at h
    obtain ⟨hi, hp, _⟩ := h
    have : l.any p = true := List.any_eq_true.2 ⟨_, List.getElem_mem hi, hp⟩
    rw [this]
    simp
def PredB {α : Type} (P : Program) (g : Nat) (lb : Array Value) (enc : α → Value) (p : α → Bool) (w : World) : Prop :=
  ∀ (W : World) (x : α), Below w.heap.size w W → Calls P g (#[enc x] ++ lb) W fun e w' => e = .returned (.bool (p x)) ∧ Below w.heap.size w w'
def tlS (cs l : List UInt8) : List UInt8 := l.dropWhile (fun c => cs.contains c)
def trS (cs l : List UInt8) : List UInt8 := (l.reverse.dropWhile (fun c => cs.contains c)).reverse
def strSz : Value → Nat
  | .string t => t.size
  | _ => 0
theorem data_split (t : ByteArray) (h : 0 < t.size) : t.data.toList = (t[0]'h) :: (t.extract 1 t.size).data.toList := by
  have hl : 0 < t.data.toList.length := h
  cases e : t.data.toList with
  | nil => rw [e] at hl; exact absurd hl (Nat.lt_irrefl _)
  | cons c l =>
    have h1 : (t.extract 1 t.size).data.toList = l := by
      have hs : t.size = l.length + 1 := by show t.data.size = _; rw [← Array.length_toList, e]; rfl
      rw [ByteArray.data_extract, Array.toList_extract, e, hs]
      simp [List.extract]
    have h2 : (t[0]'h) = c := by
      have : t.data.toList[0]? = some (t[0]'h) := by
        rw [List.getElem?_eq_getElem hl]
        rfl
      rw [e] at this
      exact (Option.some.inj this).symm
    rw [h1, h2]
theorem data_split_end (t : ByteArray) (h : t.size - 1 < t.size) : t.data.toList = (t.extract 0 (t.size - 1)).data.toList ++ [t[t.size - 1]'h] := by
  have hl : t.data.toList.length = t.size := by rw [Array.length_toList]; rfl
  have h1 : (t.extract 0 (t.size - 1)).data.toList = t.data.toList.take (t.size - 1) := by
    rw [ByteArray.data_extract, Array.toList_extract]
    simp [List.extract]
  have h2 : t.data.toList[t.size - 1]? = some (t[t.size - 1]'h) := by
    rw [List.getElem?_eq_getElem (by omega)]
    rfl
  rw [h1]
  conv => lhs; rw [← List.take_append_drop (t.size - 1) t.data.toList]
  congr 1
  rw [List.drop_eq_getElem_cons (by omega), List.drop_eq_nil_of_le (by omega)]
  rw [List.getElem?_eq_getElem (by omega)] at h2
  rw [Option.some.inj h2]
theorem tlS_in {cs : List UInt8} {t : ByteArray} (h : 0 < t.size) (hc : cs.contains (t[0]'h) = true) : tlS cs (t.extract 1 t.size).data.toList = tlS cs t.data.toList := by
  rw [data_split t h]
  unfold tlS
  rw [List.dropWhile_cons, if_pos hc]
theorem tlS_out {cs : List UInt8} {t : ByteArray} (h : 0 < t.size) (hc : cs.contains (t[0]'h) = false) : tlS cs t.data.toList = t.data.toList := by
  rw [data_split t h]
  unfold tlS
  rw [List.dropWhile_cons, if_neg (by rw [hc]; decide)]
theorem tlS_nil {cs : List UInt8} {t : ByteArray} (h : ¬ 0 < t.size) : tlS cs t.data.toList = t.data.toList := by
  have : t.data.toList = [] := List.length_eq_zero_iff.1 (by rw [Array.length_toList]; show t.size = 0; omega)
  rw [this]
  rfl
theorem trS_in {cs : List UInt8} {t : ByteArray} (h : t.size - 1 < t.size) (hc : cs.contains (t[t.size - 1]'h) = true) : trS cs (t.extract 0 (t.size - 1)).data.toList = trS cs t.data.toList := by
  rw [data_split_end t h]
  unfold trS
  rw [List.reverse_append, List.reverse_cons, List.reverse_nil, List.nil_append, List.singleton_append, List.dropWhile_cons, if_pos hc]
theorem trS_out {cs : List UInt8} {t : ByteArray} (h : t.size - 1 < t.size) (hc : cs.contains (t[t.size - 1]'h) = false) : trS cs t.data.toList = t.data.toList := by
  rw [data_split_end t h]
  unfold trS
  rw [List.reverse_append, List.reverse_cons, List.reverse_nil, List.nil_append, List.singleton_append, List.dropWhile_cons, if_neg (by rw [hc]; decide), List.reverse_cons, List.reverse_reverse]
theorem trS_nil {cs : List UInt8} {t : ByteArray} (h : ¬ 0 < t.size) : trS cs t.data.toList = t.data.toList := by
  have : t.data.toList = [] := List.length_eq_zero_iff.1 (by rw [Array.length_toList]; show t.size = 0; omega)
  rw [this]
  rfl
theorem mk_data (t : ByteArray) : (⟨t.data.toList.toArray⟩ : ByteArray) = t := by cases t; simp
theorem isSome_set (w : World) (b o b' o' : Nat) (v : Value) : ((w.setCell ⟨b, o, none⟩ v).cell? ⟨b', o', none⟩).isSome = (w.cell? ⟨b', o', none⟩).isSome := by
  by_cases h : (⟨b', o', none⟩ : Addr) = ⟨b, o, none⟩
  · rw [h]
    cases hc : w.cell? ⟨b, o, none⟩ with
    | some u => rw [World.cell?_setCell_same _ _ _ hc]; rfl
    | none =>
      cases h2 : (w.setCell ⟨b, o, none⟩ v).cell? ⟨b, o, none⟩ with
      | none => rfl
      | some u =>
        exfalso
        unfold World.cell? at hc h2
        unfold World.setCell at h2
        simp only [Array.getElem?_modify] at h2
        cases hb : w.heap[b]? with
        | none => simp [hb] at h2
        | some ob =>
          rw [hb] at hc
          simp only [hb, if_true, Option.map_some] at h2
          cases ob <;> simp_all
  · rw [World.cell?_setCell_other _ _ _ _ (fun e => h e.symm)]
theorem goesvL_ {P : Program} {Q : Exit → Act → World → Prop} {rest : List Oper} {opsA : Array Oper} {oi : Oper} {a : Act} {w : World} (N : Option Tmp) (hd : oi.dst = N) (hg : oi.guard = none) {f : FuncId} {fn : Func} {c : Operand} {as : Array Operand} {caps : Array Value} {ts : Array TypeId} (hf : P.funcs[f]? = some fn) (hname : (fn.name == "runtime.NumGoroutine") = false) (hb : fn.body.isSome = true) (args : Array Value)
    (hop : oi.op = .call { callee := .value c, args := as, argTypes := ts }) (hc : a.eval c = .func (.func f) #[] caps) (hargs : as.map a.eval ++ caps = args)
    (h : Calls P f args w fun e w' => ∃ v, e = .returned v ∧ wpList P opsA Q rest (a.put N v) w') : wpList P opsA Q (oi :: rest) a w := by
  refine wpList_plain hg fun K hK => ?_
  have he := enters_ hf hname hb args w
  have hrun : (execOp a.eval oi).run P w = .ok (.enter f args) w := by
    unfold execOp
    simp [hop, resolve, Deferred.ofValue, invoke, hc, hargs, he]
  unfold Oper.wp
  rw [hrun, Oper.upon_enter]
  refine h.mono fun e w'' hh => ?_
  obtain ⟨v, rfl, hk⟩ := hh
  subst hd
  exact hK _ _ hk
theorem am {p : Prop} (h : p) : Aside0 p := ⟨h⟩
theorem bb {w W W' : World} (h : Aside0 (Below w.heap.size w W)) (g : Below w.heap.size w W → Below w.heap.size w W' := by intro h_; repeat (first | (with_reducible first | exact h_ | apply below_alloc | apply pw_below_drewN | apply below_drew1 | refine below_set ?_ (Aside0.out (by assumption))) | exact h_ | exact Below.refl _ _)) : Below w.heap.size w W' := g h.out
theorem rr {α : Type} {d : Kd α} {e base : Nat} {W W' : World} {ok : Nat → Prop} {v : Value} {xs : List α} (h : Aside0 (d.R e W base ok v xs)) (g : d.R e W base ok v xs → d.R e W' base ok v xs := by intro h_; (with_reducible repeat (first | apply Kd.R_alloc | apply Kd.R_drewN | apply Kd.R_drew)); exact h_) : d.R e W' base ok v xs := g h.out
theorem kb {W W' : World} {g : Nat} {o : Obj} (h : Aside0 (W.heap[g]? = some o)) (g_ : W.heap[g]? = some o → W'.heap[g]? = some o := by intro h_; (with_reducible repeat (first | refine blk_drewN ?_ _ | refine blk_drew ?_ | refine blk_alloc ?_ _)); exact h_) : W'.heap[g]? = some o := g_ h.out
theorem cc {α : Type} {d : Kd α} {W W' : World} {A : Option Addr} {n : Nat} {xs : List α} (h : d.C W A n xs) (g : d.C W A n xs → d.C W' A n xs := by intro h_; repeat (first | exact h_ | (with_reducible refine Kd.C_alloc ?_ _) | (with_reducible refine Kd.C_drewN ?_ _) | (with_reducible refine Kd.C_drew ?_))) : d.C W' A n xs := g h
theorem hc {w W : World} {a : Addr} {v : Value} (h : Aside0 (Below w.heap.size w W)) (hv : w.cell? a = some v) : W.cell? a = some v := pw_cell_below h.out hv
theorem od {p : Prop} [Decidable p] (h : decide p = true := by first | (with_reducible assumption) | assumption) : p := of_decide_eq_true h
theorem gs {P : Program} {Q : Exit → Act → World → Prop} {ops : Array Oper} {oi : Oper} {N : Option Tmp} {a : Act} {w : World} {K : Act → World → Prop} {f : FuncId} {fn : Func} {as : Array Operand} {ts : Array TypeId} (hf : P.funcs[f]? = some fn) (hname : (fn.name == "runtime.NumGoroutine") = false) (hb : fn.body.isSome = true) (args : Array Value)
    (hw : Region.wanted oi (yielded ops a.tmps) = true) (hN : oi.dst = N) (hop : oi.op = .call { callee := .value (.func f), args := as, argTypes := ts })
    (h : Calls P f args w fun e w' => ∃ v, e = .returned v ∧ K (a.put N v) w') (hargs : as.map a.eval = args := by (try simp only [List.map_toArray, List.map_cons, List.map_nil]); first | done | rfl | (simp only [List.length_drop, List.length_take]; rfl)) : if Region.wanted oi (yielded ops a.tmps) = true then Oper.wp P oi a w K Q else K (a.put N undef) w := goes_ hf hname hb args hw hN hop hargs h
theorem gl {P : Program} {Q : Exit → Act → World → Prop} {ops : Array Oper} {rest : List Oper} {oi : Oper} {a : Act} {w : World} (N : Option Tmp) (hd : oi.dst = N) (hg : oi.guard = none) {f : FuncId} {fn : Func} {as : Array Operand} {ts : Array TypeId} (hf : P.funcs[f]? = some fn) (hname : (fn.name == "runtime.NumGoroutine") = false) (hb : fn.body.isSome = true) (args : Array Value)
    (hop : oi.op = .call { callee := .value (.func f), args := as, argTypes := ts })
    (h : Calls P f args w fun e w' => ∃ v, e = .returned v ∧ wpList P ops Q rest (a.put N v) w') (hargs : as.map a.eval = args := by (try simp only [List.map_toArray, List.map_cons, List.map_nil]); first | done | rfl | (simp only [List.length_drop, List.length_take]; rfl)) : wpList P ops Q (oi :: rest) a w := goesL_ N hd hg hf hname hb args hop hargs h
theorem s1 {α : Type} {l : List α} {i : Nat} {a : α} : l.toArray.setIfInBounds i a = (l.set i a).toArray := by simp
theorem s2 {α : Type} {x : α} {xs : List α} {a : α} : (x :: xs).set 0 a = a :: xs := rfl
theorem s3 {α : Type} {x : α} {xs : List α} {i : Nat} {a : α} : (x :: xs).set (i + 1) a = x :: xs.set i a := rfl
def ba (n m : Nat) : Array Bool := ((List.range n).map fun i => m.testBit i).toArray
section
variable {P : Program} {ops : Array Oper} {Q : Exit → Act → World → Prop} {md : Region.Mode} {S : World → Prop} {ds : List Nat}
theorem pI (i M n m : Nat) {T : Bool × List (List Nat × List Nat)} (HT : Aside0 (rtab md ops = T)) {oi : Oper} {v : Value} {fuel : Nat} {l : Array Bool} {a a' : Act} {w : World} (hi : ops[i]? = some oi) (hN : oi.dst = some M) (h : wpAnyLast P md ops Q S ds fuel (ba n m) a' w)
    (hk : anyT T l.toList (ba n m).toList i = true := by kernel_rfl) (hQ : ∀ c a w, Q (.panic c) (a.put oi.dst v) w → Q (.panic c) a w := by exact fun _ _ _ h => h)
    (hw : Region.wanted oi (yielded ops a.tmps) = true := by rfl) (hr : ∀ w, (execOp a.eval oi).run P w = .ok (.value v) w := by intro w'; go_simp; with_reducible rfl) (ha : a.put (some M) v = a' := by simp only [Act.put, Hl.s1, Hl.s2, Hl.s3, i64_w, i32_w]; rfl) :
    wpAnyLast P md ops Q S ds (fuel + 1) l a w := pure_ (ba n m) hi hN (any_of HT.out hk) hQ (Or.inl ⟨hw, hr⟩) ha h
theorem pU (i M n m : Nat) {T : Bool × List (List Nat × List Nat)} (HT : Aside0 (rtab md ops = T)) {oi : Oper} {fuel : Nat} {l : Array Bool} {a a' : Act} {w : World} (hi : ops[i]? = some oi) (hN : oi.dst = some M) (h : wpAnyLast P md ops Q S ds fuel (ba n m) a' w)
    (hk : anyT T l.toList (ba n m).toList i = true := by kernel_rfl) (hQ : ∀ c a w, Q (.panic c) (a.put oi.dst undef) w → Q (.panic c) a w := by exact fun _ _ _ h => h)
    (hw : Region.wanted oi (yielded ops a.tmps) = false := by rfl) (ha : a.put (some M) undef = a' := by simp only [Act.put, Hl.s1, Hl.s2, Hl.s3, i64_w, i32_w]; rfl) :
    wpAnyLast P md ops Q S ds (fuel + 1) l a w := pure_ (ba n m) hi hN (any_of HT.out hk) hQ (Or.inr ⟨hw, rfl⟩) ha h
theorem tI (i M n m : Nat) {T : Bool × List (List Nat × List Nat)} {B : List Nat} (HT : Aside0 (rtab md ops = T)) (HW : Aside0 (waitsOk T.2 B = true)) {oi : Oper} {v : Value} {fuel : Nat} {l : Array Bool} {a a' : Act} {w : World} (hi : ops[i]? = some oi) (hN : oi.dst = some M) (hS : S w) (h : wpAnyLast P md ops Q S ds fuel (ba n m) a' w)
    (hk : takeW T B ds l.toList (ba n m).toList i = true := by kernel_rfl) (hQ : ∀ c a w, Q (.panic c) (a.put oi.dst v) w → Q (.panic c) a w := by exact fun _ _ _ h => h)
    (hw : Region.wanted oi (yielded ops a.tmps) = true := by rfl) (hr : ∀ w, S w → (execOp a.eval oi).run P w = .ok (.value v) w := by intro w' hs_; repeat (have h_ := And.left hs_; replace hs_ := And.right hs_); go_simp; with_reducible rfl) (ha : a.put (some M) v = a' := by simp only [Act.put, Hl.s1, Hl.s2, Hl.s3, i64_w, i32_w]; rfl) :
    wpAnyLast P md ops Q S ds (fuel + 1) l a w := take_ (ba n m) hi hN (take_ofW HT.out HW.out hk) hQ (Or.inl ⟨hw, hr⟩) hS ha h
end
section
variable {P : Program} {ops : Array Oper} {Q : Exit → Act → World → Prop} {md : Region.Mode} {S : World → Prop} {ds : List Nat}
end
end Go.Proofs.YtkfpcbhapnhckaaGreatDoor.Hl
