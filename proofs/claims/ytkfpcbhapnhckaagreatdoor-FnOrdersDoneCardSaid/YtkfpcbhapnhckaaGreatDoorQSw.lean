-- what this claim names of YtkfpcbhapnhckaaGreatDoorSw (trim.py)

import Derived.Test.YtkfpcbhapnhckaaGreatDoorProg
import Derived.Test.YtkfpcbhapnhckaaGreatDoorQStb
import Derived.Shelf.SlSortCmp.Kit1
import Derived.Sort.WalkA
import Derived.Sort.WalkB2
import Derived.Sort.WalkB12
import Derived.Deep.LoopGhost
import Derived.Deep.DeepCutAuto
import Derived.Deep.CutBlock
import Derived.WalkKit
import Derived.Below
import Derived.Deep.Draws
import Derived.Deep.AppendLies
import Derived.Maps.AppendAt
import Derived.OwnWalk
import Derived.Laws.BytesArg
import Derived.Laws.MakeOwn
import Derived.Laws.OwnMore
import Derived.Deep.OwnRows
import Derived.Tactics
import Derived.Lib.ConvBytes
import Derived.Laws.Slices
import Derived.WalkKit
import Derived.KernelRfl
import Derived.RowKit3
import Derived.Deep.LoopGhost
import Derived.Deep.QuietTactic
import Derived.BigQuiet
import Derived.WideLaws
import Derived.Deep.DeepCutAuto
import Derived.Deep.CutBlock
import Derived.Deep.RegionHeld3
import Derived.Laws.Rows
import Derived.Lib.AppendStr
import Derived.ArgAppend
import Derived.Laws.IdiomCopy
import Derived.OrdersHeld
import Derived.Laws.BitsLemmas
import Derived.RowKit
import Derived.Laws.Cover1
import Derived.Shelf.Abstract
import Derived.Shelf.Strings.AsciiSet
import Derived.WalkSpells
import Derived.Shelf.Strconv.Itoa4
import Derived.Lib.AppendIntMem
import Derived.Lib.LaidTab
import Derived.MakeChecks
import Derived.Shelf.Strings.OnBuilder
import Derived.Test.YtkfpcbhapnhckaaGreatDoorQWMore
namespace Go.Proofs.YtkfpcbhapnhckaaGreatDoor.Sw
open Go.Shelf Go.RowKit Go.Lib Go.Sort Go.Proofs.YtkfpcbhapnhckaaGreatDoor.Stb
set_option linter.unusedVariables false
set_option linter.unusedSectionVars false
set_option linter.unusedSimpArgs false
variable {α : Type} [Inhabited α]
set_option maxHeartbeats 16000000 in
set_option maxRecDepth 1000000 in
theorem swapRange_calls (enc : α → Value) (cf : α → α → Int) (g : Nat) (cb : Array Value) (blk off cap L : Nat) (d0 : Array α) (w0 : World) (eg : ∀ args w, (callFunc g args).run Tryz.prog w = .ok (.enter g args) w) (hcmp : CmpLays1 Tryz.prog g cb enc cf blk off d0.size w0) (R : Row1 enc w0 blk off d0) (hL : d0.size = L) (hsz : L < 4611686018427387904) (a b n : Nat) (d : Array α) (w : World) (hd : d.size = L) (S : SW enc w0 blk off d w) (hab : a + n ≤ b) (hb : b + n ≤ L) :
    Calls Tryz.prog 161 #[.slice (some ⟨blk, off, none⟩) L cap, .int .i64 a, .int .i64 b, .int .i64 n, .func (.func g) #[] cb] w fun e w' => e = .returned (.tuple #[]) ∧ SW enc w0 blk off (swapRange a b n 0 d) w' := by
  have mixed : Tryz.prog.follows Departure.mixedOrders = true := by kernel_rfl
  have hcl0 := R.hO.cells
  simp only [Value.cells] at hcl0
  have hst := R.hO.store Tryz.prog
  have HC : Aside _ := hcmp
  clear hcmp
  have S0 : Aside (SW enc w0 blk off d w) := S
  clear S
  go_enter Tryz.func161, Tryz.ntmps161
  go_wp2
  go_loopg [10] n (fun kx s10 wr => ∃ (i : Nat) (dk : Array α), s10 = .int .i64 i ∧ i + kx = n ∧ dk.size = L ∧ Aside (SW enc w0 blk off dk wr) ∧ Hid (swapRange a b kx i dk = swapRange a b n 0 d))
  case atStart => exact ⟨0, d, rfl, by omega, hd, S0, rfl⟩
  case round =>
    clear S0
    obtain ⟨i, dk, rfl, hkx, hds, S1, heq⟩ := hrel
    cases gk with
    | zero =>
      obtain rfl : i = n := by omega
      have hz : ¬ (i : Int) < (i : Int) := Int.lt_irrefl _
      go_wp2
      go_end0
      exact ⟨rfl, by rw [← heq.out]; exact S1.out⟩
    | succ k1 =>
      have hlt : (i : Int) < (n : Int) := by omega
      go_wp2_with fail
      obtain ⟨iN1, hiN1⟩ : ∃ q, q = a + i := ⟨_, rfl⟩
      have ei1 : ((a : Int) + (i : Int)).toNat = iN1 := by omega
      have pi1 : (0 : Int) ≤ (a : Int) + (i : Int) := by omega
      have bi1 : (a : Int) + (i : Int) < (L : Int) := by omega
      have ri1 : IntKind.i64.wrap ((a : Int) + (i : Int)) = (a : Int) + (i : Int) := by rw [IntKind.wrap_i64]; omega
      obtain ⟨jN1, hjN1⟩ : ∃ q, q = b + i := ⟨_, rfl⟩
      have ej1 : ((b : Int) + (i : Int)).toNat = jN1 := by omega
      have pj1 : (0 : Int) ≤ (b : Int) + (i : Int) := by omega
      have bj1 : (b : Int) + (i : Int) < (L : Int) := by omega
      have rj1 : IntKind.i64.wrap ((b : Int) + (i : Int)) = (b : Int) + (i : Int) := by rw [IntKind.wrap_i64]; omega
      obtain ⟨x1, hx1⟩ : ∃ x, x = dk[a + i]! := ⟨_, rfl⟩
      obtain ⟨y1, hy1⟩ : ∃ x, x = dk[b + i]! := ⟨_, rfl⟩
      have S2 : Aside (SW enc w0 blk off (swp dk (a + i) (b + i)) ((wr.setCell ⟨blk, off + iN1, none⟩ (enc y1)).setCell ⟨blk, off + jN1, none⟩ (enc x1)).drew) := by rw [hiN1, hjN1, hx1, hy1]; exact S1.out.swapped R (a + i) (b + i) (by omega) (by omega)
      have ci1 := S1.out.c1 R (by omega) (a + i) (by omega)
      have fi1 := S1.out.f1 R (by omega) (a + i) (by omega)
      have cj1 := S1.out.c1 R (by omega) (b + i) (by omega)
      have fj1 := S1.out.f1 R (by omega) (b + i) (by omega)
      obtain ⟨u1, ck1⟩ := S1.out.c2 R (by omega) (a + i) (b + i) (by omega) (by omega) (enc y1)
      rw [← hjN1, ← hiN1] at ck1
      rw [← hx1, ← hiN1] at ci1
      rw [← hiN1] at fi1
      rw [← hy1, ← hjN1] at cj1
      rw [← hjN1] at fj1
      clear S1 hx1 hy1 hiN1 hjN1
      go_wp2_with fail
      go_big_region_o
      clear ci1 cj1 ck1 fi1 fj1
      generalize ((wr.setCell ⟨blk, off + iN1, none⟩ (enc y1)).setCell ⟨blk, off + jN1, none⟩ (enc x1)).drew = w2 at S2 ⊢
      clear ei1 ej1
      go_wp2
      go_roundg k1
      case measure => omega
      case rel => exact ⟨i + 1, swp dk (a + i) (b + i), by first | rfl | go_num | (congr 1; omega), by omega, by rw [size_swp]; exact hds, S2, heq⟩
theorem at_args {f : FuncId} {args args' : Array Value} {w : World} {Q : Ending → World → Prop} (h : args = args') (hc : Calls Tryz.prog f args' w Q) : Calls Tryz.prog f args w Q := h ▸ hc
set_option maxHeartbeats 16000000 in
set_option maxRecDepth 1000000 in
theorem rotate_calls (enc : α → Value) (cf : α → α → Int) (g : Nat) (cb : Array Value) (blk off cap L : Nat) (d0 : Array α) (w0 : World) (eg : ∀ args w, (callFunc g args).run Tryz.prog w = .ok (.enter g args) w) (hcmp : CmpLays1 Tryz.prog g cb enc cf blk off d0.size w0) (R : Row1 enc w0 blk off d0) (hL : d0.size = L) (hsz : L < 4611686018427387904) (a m b : Nat) (d : Array α) (w : World) (hd : d.size = L) (S : SW enc w0 blk off d w) (h1 : a < m) (h2 : m < b) (hb : b ≤ L) :
    Calls Tryz.prog 139 #[.slice (some ⟨blk, off, none⟩) L cap, .int .i64 a, .int .i64 m, .int .i64 b, .func (.func g) #[] cb] w fun e w' => e = .returned (.tuple #[]) ∧ SW enc w0 blk off (rotate d a m b) w' := by
  have mixed : Tryz.prog.follows Departure.mixedOrders = true := by kernel_rfl
  have hcl0 := R.hO.cells
  simp only [Value.cells] at hcl0
  have hst := R.hO.store Tryz.prog
  have HC : Aside _ := hcmp
  clear hcmp
  have S0 : Aside (SW enc w0 blk off d w) := S
  clear S
  have k1 : (m : Int) - (a : Int) = ((m - a : Nat) : Int) := by omega
  have k2 : (b : Int) - (m : Int) = ((b - m : Nat) : Int) := by omega
  go_enter Tryz.func139, Tryz.ntmps139
  go_wp2
  go_loopg [10, 11] (b - a) (fun kx s10 s11 wr => ∃ (i j : Nat) (dk : Array α), s10 = .int .i64 i ∧ s11 = .int .i64 j ∧ 0 < i ∧ 0 < j ∧ i + j ≤ kx ∧ a + i ≤ m ∧ m + j ≤ b ∧ dk.size = L ∧ Aside (SW enc w0 blk off dk wr) ∧ Hid (rotLoop m kx i j dk = rotate d a m b))
  case atStart => exact ⟨m - a, b - m, d, by first | rfl | (rw [← k1]) | (congr 1; omega), by first | rfl | (rw [← k2]) | (congr 1; omega), by omega, by omega, by omega, by omega, by omega, hd, S0, rfl⟩
  case round =>
    clear S0 k1 k2
    obtain ⟨i, j, dk, rfl, rfl, g1, g2, g3, g4, g5, hds, S1, heq⟩ := hrel
    have k1 : (m : Int) - (i : Int) = ((m - i : Nat) : Int) := by omega
    cases gk with
    | zero => omega
    | succ q1 =>
      have q0 := heq.out
      rw [rotLoop] at q0
      clear heq
      by_cases c : i = j
      ·
        rw [if_pos c] at q0
        subst c
        have hz : ((i : Int) != (i : Int)) = false := by simp
        go_wp2_with ((go_at_call 161; refine at_args (args' := #[.slice (some ⟨blk, off, none⟩) L cap, .int .i64 ((m - i : Nat) : Int), .int .i64 ((m : Nat) : Int), .int .i64 ((i : Nat) : Int), .func (.func g) #[] cb]) (by first | rfl | (simp only [k1]; done) | (simp [k1]; done)) ?_; refine (swapRange_calls enc cf g cb blk off cap L d0 w0 eg HC.out R hL hsz (m - i) m i dk _ hds S1.out (by omega) (by omega)).mono ?_; rintro e w' ⟨rfl, S20⟩; have S2 : Aside _ := S20; clear S20))
        go_end0
        exact ⟨rfl, by rw [← q0]; exact S2.out⟩
      ·
        rw [if_neg c] at q0
        have hz : ((i : Int) != (j : Int)) = true := by simp; omega
        by_cases c2 : j < i
        ·
          rw [if_pos c2] at q0
          have hz2 : (i : Int) > (j : Int) := by omega
          have hz3 : (j : Int) < (i : Int) := by omega
          have k2 : (i : Int) - (j : Int) = ((i - j : Nat) : Int) := by omega
          go_wp2_with ((go_at_call 161; refine at_args (args' := #[.slice (some ⟨blk, off, none⟩) L cap, .int .i64 ((m - i : Nat) : Int), .int .i64 ((m : Nat) : Int), .int .i64 ((j : Nat) : Int), .func (.func g) #[] cb]) (by first | rfl | (simp only [k1]; done) | (simp [k1]; done)) ?_; refine (swapRange_calls enc cf g cb blk off cap L d0 w0 eg HC.out R hL hsz (m - i) m j dk _ hds S1.out (by omega) (by omega)).mono ?_; rintro e w' ⟨rfl, S20⟩; have S2 : Aside _ := S20; clear S20))
          go_roundg q1
          case measure => omega
          case rel => exact ⟨i - j, j, _, by first | rfl | (rw [← k2]) | (congr 1; omega), rfl, by omega, g2, by omega, by omega, g5, by rw [swapRange_size]; exact hds, S2, q0⟩
        ·
          rw [if_neg c2] at q0
          have hz2 : ¬ (i : Int) > (j : Int) := by omega
          have hz3 : ¬ (j : Int) < (i : Int) := by omega
          have k2 : (j : Int) - (i : Int) = ((j - i : Nat) : Int) := by omega
          have k3 : (m : Int) + (j : Int) - (i : Int) = ((m + j - i : Nat) : Int) := by omega
          go_wp2_with ((go_at_call 161; refine at_args (args' := #[.slice (some ⟨blk, off, none⟩) L cap, .int .i64 ((m - i : Nat) : Int), .int .i64 ((m + j - i : Nat) : Int), .int .i64 ((i : Nat) : Int), .func (.func g) #[] cb]) (by first | rfl | (simp only [k1, k3]; done) | (simp [k1, k3]; done)) ?_; refine (swapRange_calls enc cf g cb blk off cap L d0 w0 eg HC.out R hL hsz (m - i) (m + j - i) i dk _ hds S1.out (by omega) (by omega)).mono ?_; rintro e w' ⟨rfl, S20⟩; have S2 : Aside _ := S20; clear S20))
          go_roundg q1
          case measure => omega
          case rel => exact ⟨i, j - i, _, rfl, by first | rfl | (rw [← k2]) | (congr 1; omega), g1, by omega, by omega, g4, by omega, by rw [swapRange_size]; exact hds, S2, q0⟩
set_option maxHeartbeats 16000000 in
set_option maxRecDepth 1000000 in
theorem symMerge_one (enc : α → Value) (cf : α → α → Int) (g : Nat) (cb : Array Value) (blk off cap L : Nat) (d0 : Array α) (w0 : World) (eg : ∀ args w, (callFunc g args).run Tryz.prog w = .ok (.enter g args) w) (hcmp : CmpLays1 Tryz.prog g cb enc cf blk off d0.size w0) (R : Row1 enc w0 blk off d0) (hL : d0.size = L) (hsz : L < 4611686018427387904) (f a m b : Nat) (d : Array α) (w : World) (hd : d.size = L) (S : SW enc w0 blk off d w) (h1 : a < m) (h2 : m < b) (hb : b ≤ L) (c1 : m - a = 1) :
    Calls Tryz.prog 106 #[.slice (some ⟨blk, off, none⟩) L cap, .int .i64 a, .int .i64 m, .int .i64 b, .func (.func g) #[] cb] w (fun e w' => e = .returned (.tuple #[]) ∧ SW enc w0 blk off (symMerge (ltOf cf) (f + 1) a m b d) w') := by
  have mixed : Tryz.prog.follows Departure.mixedOrders = true := by kernel_rfl
  have hcl0 := R.hO.cells
  simp only [Value.cells] at hcl0
  have hst := R.hO.store Tryz.prog
  have HC : Aside _ := hcmp
  clear hcmp
  have S0 : Aside (SW enc w0 blk off d w) := S
  clear S
  have ka : (m : Int) - (a : Int) = ((m - a : Nat) : Int) := by omega
  have kb : (b : Int) - (m : Int) = ((b - m : Nat) : Int) := by omega
  rw [symMerge, if_pos c1]
  have t1 : (((m - a : Nat) : Int) == 1) = true := by simp; omega
  have t2 : ((m : Int) - (a : Int) == 1) = true := by simp; omega
  go_enter Tryz.func106, Tryz.ntmps106
  go_wp2_with fail
  go_loopg [10, 11] (b - m) (fun kx si sj wr => ∃ (i j : Nat), si = .int .i64 i ∧ sj = .int .i64 j ∧ m ≤ i ∧ i ≤ j ∧ j ≤ b ∧ j - i ≤ kx ∧ Aside (SW enc w0 blk off d wr) ∧ Hid (bs (fun h => ltOf cf d[h]! d[a]!) kx i j = bs (fun h => ltOf cf d[h]! d[a]!) (b - m) (m) (b)))
  case atStart => exact ⟨m, b, by first | rfl | (congr 1; omega), by first | rfl | (congr 1; omega), Nat.le_refl _, by omega, Nat.le_refl _, Nat.le_refl _, S0, rfl⟩
  case round =>
    clear S0
    obtain ⟨i, j, rfl, rfl, g1, g2, g3, g4, S1, heq⟩ := hrel
    by_cases c : i < j
    ·
      cases gk with
      | zero => omega
      | succ q1 =>
      have hlt : (i : Int) < (j : Int) := by omega
      have q0 := heq.out
      rw [bs, if_pos c] at q0
      clear heq
      obtain ⟨h, hh⟩ : ∃ z, z = (i + j) / 2 := ⟨_, rfl⟩
      have m1h : ((i : Int) + (j : Int)) / 2 = (h : Int) := by omega
      have m2h : IntKind.u64.wrap ((i : Int) + (j : Int)) = (i : Int) + (j : Int) := by simp [IntKind.wrap, IntKind.bits, IntKind.signed]; omega
      rw [← hh] at q0
      have hb1 : i ≤ h := by omega
      have hb2 : h < j := by omega
      clear hh
      cases hv : ltOf cf d[h]! d[a]! with
      | true => as_aux_lemma =>
        go_wp2_with fail
        obtain ⟨iN3, hiN3⟩ : ∃ q, q = h := ⟨_, rfl⟩
        have ei3 : ((h : Int)).toNat = iN3 := by omega
        have pi3 : (0 : Int) ≤ (h : Int) := by omega
        have bi3 : (h : Int) < (L : Int) := by omega
        have ri3 : IntKind.i64.wrap ((h : Int)) = (h : Int) := by rw [IntKind.wrap_i64]; omega
        obtain ⟨jN3, hjN3⟩ : ∃ q, q = a := ⟨_, rfl⟩
        have ej3 : ((a : Int)).toNat = jN3 := by omega
        have pj3 : (0 : Int) ≤ (a : Int) := by omega
        have bj3 : (a : Int) < (L : Int) := by omega
        have rj3 : IntKind.i64.wrap ((a : Int)) = (a : Int) := by rw [IntKind.wrap_i64]; omega
        obtain ⟨x3, hx3⟩ : ∃ x, x = d[h]! := ⟨_, rfl⟩
        obtain ⟨y3, hy3⟩ : ∃ x, x = d[a]! := ⟨_, rfl⟩
        have li3 := S1.out.cl R (by omega) (h) (by omega)
        have lj3 := S1.out.cl R (by omega) (a) (by omega)
        rw [← hx3, ← hiN3] at li3
        rw [← hy3, ← hjN3] at lj3
        have hc3 := S1.out.cmp HC.out (by omega) x3 y3
        have hv3 : cf x3 y3 < 0 := by rw [hx3, hy3]; exact of_decide_eq_true hv
        have hd3 : decide (cf x3 y3 < 0) = true := decide_eq_true hv3
        clear hx3 hy3 hiN3 hjN3
        go_wp2_with fail
        go_quiet_grown (first | (go_at_fn g; refine Calls.grown_of (hc3 _ _)))
        have S2 : Aside (SW enc w0 blk off d (grow (wr.drewN nq) osq)) := S1.out.grown nq osq
        clear li3 lj3 hc3 S1
        generalize grow (wr.drewN nq) osq = w2 at S2 ⊢
        clear nq osq
        clear ei3 ej3
        rw [if_pos (by first | rfl | (simp only [hv]; rfl) | simp [hv])] at q0
        go_wp2
        go_roundg q1
        case measure => omega
        case rel => exact ⟨h + 1, j, by first | rfl | go_num | (congr 1; omega), by first | rfl | go_num | (congr 1; omega), by omega, by omega, by omega, by omega, S2, q0⟩
      | false => as_aux_lemma =>
        go_wp2_with fail
        obtain ⟨iN4, hiN4⟩ : ∃ q, q = h := ⟨_, rfl⟩
        have ei4 : ((h : Int)).toNat = iN4 := by omega
        have pi4 : (0 : Int) ≤ (h : Int) := by omega
        have bi4 : (h : Int) < (L : Int) := by omega
        have ri4 : IntKind.i64.wrap ((h : Int)) = (h : Int) := by rw [IntKind.wrap_i64]; omega
        obtain ⟨jN4, hjN4⟩ : ∃ q, q = a := ⟨_, rfl⟩
        have ej4 : ((a : Int)).toNat = jN4 := by omega
        have pj4 : (0 : Int) ≤ (a : Int) := by omega
        have bj4 : (a : Int) < (L : Int) := by omega
        have rj4 : IntKind.i64.wrap ((a : Int)) = (a : Int) := by rw [IntKind.wrap_i64]; omega
        obtain ⟨x4, hx4⟩ : ∃ x, x = d[h]! := ⟨_, rfl⟩
        obtain ⟨y4, hy4⟩ : ∃ x, x = d[a]! := ⟨_, rfl⟩
        have li4 := S1.out.cl R (by omega) (h) (by omega)
        have lj4 := S1.out.cl R (by omega) (a) (by omega)
        rw [← hx4, ← hiN4] at li4
        rw [← hy4, ← hjN4] at lj4
        have hc4 := S1.out.cmp HC.out (by omega) x4 y4
        have hv4 : ¬ cf x4 y4 < 0 := by rw [hx4, hy4]; exact of_decide_eq_false hv
        have hd4 : decide (cf x4 y4 < 0) = false := decide_eq_false hv4
        clear hx4 hy4 hiN4 hjN4
        go_wp2_with fail
        go_quiet_grown (first | (go_at_fn g; refine Calls.grown_of (hc4 _ _)))
        have S2 : Aside (SW enc w0 blk off d (grow (wr.drewN nq) osq)) := S1.out.grown nq osq
        clear li4 lj4 hc4 S1
        generalize grow (wr.drewN nq) osq = w2 at S2 ⊢
        clear nq osq
        clear ei4 ej4
        rw [if_neg (by first | rfl | (simp only [hv]; rfl) | simp [hv])] at q0
        go_wp2
        go_roundg q1
        case measure => omega
        case rel => exact ⟨i, h, by first | rfl | go_num | (congr 1; omega), by first | rfl | go_num | (congr 1; omega), by omega, by omega, by omega, by omega, S2, q0⟩
    ·
      have hlt : ¬ (i : Int) < (j : Int) := by omega
      have q0 := heq.out
      have q1 : ∀ z, bs (fun h => ltOf cf d[h]! d[a]!) z i j = i := by intro z; cases z with | zero => rfl | succ z => rw [bs, if_neg c]
      rw [q1] at q0
      clear heq q1
      have qe := q0
      clear q0
      have ki : (i : Int) - 1 = ((i - 1 : Nat) : Int) := by omega
      go_wp2_with fail
      go_loopg [13] (i - 1 - a) (fun kx sk wr => ∃ (k : Nat) (dk : Array α), sk = .int .i64 k ∧ k + kx = i - 1 ∧ dk.size = L ∧ Aside (SW enc w0 blk off dk wr) ∧ Hid (shUp kx k dk = shUp (i - 1 - a) (a) d))
      case atStart => exact ⟨a, d, rfl, by omega, hd, S1, rfl⟩
      case round =>
        clear S1
        obtain ⟨k, dk, rfl, g6, hds, S3, heq⟩ := hrel
        cases gk with
        | zero =>
          have hz : ¬ (k : Int) < (i : Int) - 1 := by omega
          go_wp2
          refine bodyPost_ret (results_none rfl _ _ _) rfl ?_
          exact ⟨rfl, by rw [← qe, ← heq.out]; exact S3.out⟩
        | succ q2 =>
          have hz : (k : Int) < (i : Int) - 1 := by omega
          go_wp2_with fail
          obtain ⟨iN2, hiN2⟩ : ∃ q, q = k := ⟨_, rfl⟩
          have ei2 : ((k : Int)).toNat = iN2 := by omega
          have pi2 : (0 : Int) ≤ (k : Int) := by omega
          have bi2 : (k : Int) < (L : Int) := by omega
          have ri2 : IntKind.i64.wrap ((k : Int)) = (k : Int) := by rw [IntKind.wrap_i64]; omega
          obtain ⟨jN2, hjN2⟩ : ∃ q, q = k + 1 := ⟨_, rfl⟩
          have ej2 : ((k : Int) + 1).toNat = jN2 := by omega
          have pj2 : (0 : Int) ≤ (k : Int) + 1 := by omega
          have bj2 : (k : Int) + 1 < (L : Int) := by omega
          have rj2 : IntKind.i64.wrap ((k : Int) + 1) = (k : Int) + 1 := by rw [IntKind.wrap_i64]; omega
          obtain ⟨x2, hx2⟩ : ∃ x, x = dk[k]! := ⟨_, rfl⟩
          obtain ⟨y2, hy2⟩ : ∃ x, x = dk[k + 1]! := ⟨_, rfl⟩
          have S4 : Aside (SW enc w0 blk off (swp dk (k) (k + 1)) ((wr.setCell ⟨blk, off + iN2, none⟩ (enc y2)).setCell ⟨blk, off + jN2, none⟩ (enc x2)).drew) := by rw [hiN2, hjN2, hx2, hy2]; exact S3.out.swapped R (k) (k + 1) (by omega) (by omega)
          have ci2 := S3.out.c1 R (by omega) (k) (by omega)
          have fi2 := S3.out.f1 R (by omega) (k) (by omega)
          have cj2 := S3.out.c1 R (by omega) (k + 1) (by omega)
          have fj2 := S3.out.f1 R (by omega) (k + 1) (by omega)
          obtain ⟨u2, ck2⟩ := S3.out.c2 R (by omega) (k) (k + 1) (by omega) (by omega) (enc y2)
          rw [← hjN2, ← hiN2] at ck2
          rw [← hx2, ← hiN2] at ci2
          rw [← hiN2] at fi2
          rw [← hy2, ← hjN2] at cj2
          rw [← hjN2] at fj2
          clear S3 hx2 hy2 hiN2 hjN2
          go_wp2_with fail
          go_big_region_o
          clear ci2 cj2 ck2 fi2 fj2
          generalize ((wr.setCell ⟨blk, off + iN2, none⟩ (enc y2)).setCell ⟨blk, off + jN2, none⟩ (enc x2)).drew = w3 at S4 ⊢
          clear ei2 ej2
          go_wp2
          go_roundg q2
          case measure => omega
          case rel => exact ⟨k + 1, swp dk (k) (k + 1), by first | rfl | go_num | (congr 1; omega), by omega, by rw [size_swp]; exact hds, S4, heq⟩
set_option maxHeartbeats 16000000 in
set_option maxRecDepth 1000000 in
theorem symMerge_last (enc : α → Value) (cf : α → α → Int) (g : Nat) (cb : Array Value) (blk off cap L : Nat) (d0 : Array α) (w0 : World) (eg : ∀ args w, (callFunc g args).run Tryz.prog w = .ok (.enter g args) w) (hcmp : CmpLays1 Tryz.prog g cb enc cf blk off d0.size w0) (R : Row1 enc w0 blk off d0) (hL : d0.size = L) (hsz : L < 4611686018427387904) (f a m b : Nat) (d : Array α) (w : World) (hd : d.size = L) (S : SW enc w0 blk off d w) (h1 : a < m) (h2 : m < b) (hb : b ≤ L) (c1 : ¬ m - a = 1) (c2 : b - m = 1) :
    Calls Tryz.prog 106 #[.slice (some ⟨blk, off, none⟩) L cap, .int .i64 a, .int .i64 m, .int .i64 b, .func (.func g) #[] cb] w (fun e w' => e = .returned (.tuple #[]) ∧ SW enc w0 blk off (symMerge (ltOf cf) (f + 1) a m b d) w') := by
  have mixed : Tryz.prog.follows Departure.mixedOrders = true := by kernel_rfl
  have hcl0 := R.hO.cells
  simp only [Value.cells] at hcl0
  have hst := R.hO.store Tryz.prog
  have HC : Aside _ := hcmp
  clear hcmp
  have S0 : Aside (SW enc w0 blk off d w) := S
  clear S
  have ka : (m : Int) - (a : Int) = ((m - a : Nat) : Int) := by omega
  have kb : (b : Int) - (m : Int) = ((b - m : Nat) : Int) := by omega
  rw [symMerge, if_neg c1, if_pos c2]
  have t1 : ((m : Int) - (a : Int) == 1) = false := by simp; omega
  have t1n : (((m - a : Nat) : Int) == 1) = false := by simp; omega
  have t2n : (((b - m : Nat) : Int) == 1) = true := by simp; omega
  have t2 : ((b : Int) - (m : Int) == 1) = true := by simp; omega
  go_enter Tryz.func106, Tryz.ntmps106
  go_wp2_with fail
  go_loopg [14, 15] (m - a) (fun kx si sj wr => ∃ (i j : Nat), si = .int .i64 i ∧ sj = .int .i64 j ∧ a ≤ i ∧ i ≤ j ∧ j ≤ m ∧ j - i ≤ kx ∧ Aside (SW enc w0 blk off d wr) ∧ Hid (bs (fun h => !ltOf cf d[m]! d[h]!) kx i j = bs (fun h => !ltOf cf d[m]! d[h]!) (m - a) (a) (m)))
  case atStart => exact ⟨a, m, by first | rfl | (congr 1; omega), by first | rfl | (congr 1; omega), Nat.le_refl _, by omega, Nat.le_refl _, Nat.le_refl _, S0, rfl⟩
  case round =>
    clear S0
    obtain ⟨i, j, rfl, rfl, g1, g2, g3, g4, S1, heq⟩ := hrel
    by_cases c : i < j
    ·
      cases gk with
      | zero => omega
      | succ q1 =>
      have hlt : (i : Int) < (j : Int) := by omega
      have q0 := heq.out
      rw [bs, if_pos c] at q0
      clear heq
      obtain ⟨h, hh⟩ : ∃ z, z = (i + j) / 2 := ⟨_, rfl⟩
      have m1h : ((i : Int) + (j : Int)) / 2 = (h : Int) := by omega
      have m2h : IntKind.u64.wrap ((i : Int) + (j : Int)) = (i : Int) + (j : Int) := by simp [IntKind.wrap, IntKind.bits, IntKind.signed]; omega
      rw [← hh] at q0
      have hb1 : i ≤ h := by omega
      have hb2 : h < j := by omega
      clear hh
      cases hv : ltOf cf d[m]! d[h]! with
      | true => as_aux_lemma =>
        go_wp2_with fail
        obtain ⟨iN6, hiN6⟩ : ∃ q, q = m := ⟨_, rfl⟩
        have ei6 : ((m : Int)).toNat = iN6 := by omega
        have pi6 : (0 : Int) ≤ (m : Int) := by omega
        have bi6 : (m : Int) < (L : Int) := by omega
        have ri6 : IntKind.i64.wrap ((m : Int)) = (m : Int) := by rw [IntKind.wrap_i64]; omega
        obtain ⟨jN6, hjN6⟩ : ∃ q, q = h := ⟨_, rfl⟩
        have ej6 : ((h : Int)).toNat = jN6 := by omega
        have pj6 : (0 : Int) ≤ (h : Int) := by omega
        have bj6 : (h : Int) < (L : Int) := by omega
        have rj6 : IntKind.i64.wrap ((h : Int)) = (h : Int) := by rw [IntKind.wrap_i64]; omega
        obtain ⟨x6, hx6⟩ : ∃ x, x = d[m]! := ⟨_, rfl⟩
        obtain ⟨y6, hy6⟩ : ∃ x, x = d[h]! := ⟨_, rfl⟩
        have li6 := S1.out.cl R (by omega) (m) (by omega)
        have lj6 := S1.out.cl R (by omega) (h) (by omega)
        rw [← hx6, ← hiN6] at li6
        rw [← hy6, ← hjN6] at lj6
        have hc6 := S1.out.cmp HC.out (by omega) x6 y6
        have hv6 : cf x6 y6 < 0 := by rw [hx6, hy6]; exact of_decide_eq_true hv
        have hd6 : decide (cf x6 y6 < 0) = true := decide_eq_true hv6
        clear hx6 hy6 hiN6 hjN6
        go_wp2_with fail
        go_quiet_grown (first | (go_at_fn g; refine Calls.grown_of (hc6 _ _)))
        have S2 : Aside (SW enc w0 blk off d (grow (wr.drewN nq) osq)) := S1.out.grown nq osq
        clear li6 lj6 hc6 S1
        generalize grow (wr.drewN nq) osq = w2 at S2 ⊢
        clear nq osq
        clear ei6 ej6
        rw [if_neg (by first | rfl | (simp only [hv]; rfl) | simp [hv])] at q0
        go_wp2
        go_roundg q1
        case measure => omega
        case rel => exact ⟨i, h, by first | rfl | go_num | (congr 1; omega), by first | rfl | go_num | (congr 1; omega), by omega, by omega, by omega, by omega, S2, q0⟩
      | false => as_aux_lemma =>
        go_wp2_with fail
        obtain ⟨iN7, hiN7⟩ : ∃ q, q = m := ⟨_, rfl⟩
        have ei7 : ((m : Int)).toNat = iN7 := by omega
        have pi7 : (0 : Int) ≤ (m : Int) := by omega
        have bi7 : (m : Int) < (L : Int) := by omega
        have ri7 : IntKind.i64.wrap ((m : Int)) = (m : Int) := by rw [IntKind.wrap_i64]; omega
        obtain ⟨jN7, hjN7⟩ : ∃ q, q = h := ⟨_, rfl⟩
        have ej7 : ((h : Int)).toNat = jN7 := by omega
        have pj7 : (0 : Int) ≤ (h : Int) := by omega
        have bj7 : (h : Int) < (L : Int) := by omega
        have rj7 : IntKind.i64.wrap ((h : Int)) = (h : Int) := by rw [IntKind.wrap_i64]; omega
        obtain ⟨x7, hx7⟩ : ∃ x, x = d[m]! := ⟨_, rfl⟩
        obtain ⟨y7, hy7⟩ : ∃ x, x = d[h]! := ⟨_, rfl⟩
        have li7 := S1.out.cl R (by omega) (m) (by omega)
        have lj7 := S1.out.cl R (by omega) (h) (by omega)
        rw [← hx7, ← hiN7] at li7
        rw [← hy7, ← hjN7] at lj7
        have hc7 := S1.out.cmp HC.out (by omega) x7 y7
        have hv7 : ¬ cf x7 y7 < 0 := by rw [hx7, hy7]; exact of_decide_eq_false hv
        have hd7 : decide (cf x7 y7 < 0) = false := decide_eq_false hv7
        clear hx7 hy7 hiN7 hjN7
        go_wp2_with fail
        go_quiet_grown (first | (go_at_fn g; refine Calls.grown_of (hc7 _ _)))
        have S2 : Aside (SW enc w0 blk off d (grow (wr.drewN nq) osq)) := S1.out.grown nq osq
        clear li7 lj7 hc7 S1
        generalize grow (wr.drewN nq) osq = w2 at S2 ⊢
        clear nq osq
        clear ei7 ej7
        rw [if_pos (by first | rfl | (simp only [hv]; rfl) | simp [hv])] at q0
        go_wp2
        go_roundg q1
        case measure => omega
        case rel => exact ⟨h + 1, j, by first | rfl | go_num | (congr 1; omega), by first | rfl | go_num | (congr 1; omega), by omega, by omega, by omega, by omega, S2, q0⟩
    ·
      have hlt : ¬ (i : Int) < (j : Int) := by omega
      have q0 := heq.out
      have q1 : ∀ z, bs (fun h => !ltOf cf d[m]! d[h]!) z i j = i := by intro z; cases z with | zero => rfl | succ z => rw [bs, if_neg c]
      rw [q1] at q0
      clear heq q1
      have qe := q0
      clear q0
      go_wp2_with fail
      go_loopg [17] (m - i) (fun kx sk wr => ∃ (k : Nat) (dk : Array α), sk = .int .i64 k ∧ (i + kx = k ∧ k ≤ m) ∧ dk.size = L ∧ Aside (SW enc w0 blk off dk wr) ∧ Hid (shDn kx k dk = shDn (m - i) (m) d))
      case atStart => exact ⟨m, d, rfl, by omega, hd, S1, rfl⟩
      case round =>
        clear S1
        obtain ⟨k, dk, rfl, g6, hds, S3, heq⟩ := hrel
        cases gk with
        | zero =>
          have hz : ¬ (k : Int) > (i : Int) := by omega
          go_wp2
          refine bodyPost_ret (results_none rfl _ _ _) rfl ?_
          exact ⟨rfl, by rw [← qe, ← heq.out]; exact S3.out⟩
        | succ q2 =>
          have hz : (k : Int) > (i : Int) := by omega
          go_wp2_with fail
          obtain ⟨iN5, hiN5⟩ : ∃ q, q = k := ⟨_, rfl⟩
          have ei5 : ((k : Int)).toNat = iN5 := by omega
          have pi5 : (0 : Int) ≤ (k : Int) := by omega
          have bi5 : (k : Int) < (L : Int) := by omega
          have ri5 : IntKind.i64.wrap ((k : Int)) = (k : Int) := by rw [IntKind.wrap_i64]; omega
          obtain ⟨jN5, hjN5⟩ : ∃ q, q = k - 1 := ⟨_, rfl⟩
          have ej5 : ((k : Int) - 1).toNat = jN5 := by omega
          have pj5 : (0 : Int) ≤ (k : Int) - 1 := by omega
          have bj5 : (k : Int) - 1 < (L : Int) := by omega
          have rj5 : IntKind.i64.wrap ((k : Int) - 1) = (k : Int) - 1 := by rw [IntKind.wrap_i64]; omega
          obtain ⟨x5, hx5⟩ : ∃ x, x = dk[k]! := ⟨_, rfl⟩
          obtain ⟨y5, hy5⟩ : ∃ x, x = dk[k - 1]! := ⟨_, rfl⟩
          have S4 : Aside (SW enc w0 blk off (swp dk (k) (k - 1)) ((wr.setCell ⟨blk, off + iN5, none⟩ (enc y5)).setCell ⟨blk, off + jN5, none⟩ (enc x5)).drew) := by rw [hiN5, hjN5, hx5, hy5]; exact S3.out.swapped R (k) (k - 1) (by omega) (by omega)
          have ci5 := S3.out.c1 R (by omega) (k) (by omega)
          have fi5 := S3.out.f1 R (by omega) (k) (by omega)
          have cj5 := S3.out.c1 R (by omega) (k - 1) (by omega)
          have fj5 := S3.out.f1 R (by omega) (k - 1) (by omega)
          obtain ⟨u5, ck5⟩ := S3.out.c2 R (by omega) (k) (k - 1) (by omega) (by omega) (enc y5)
          rw [← hjN5, ← hiN5] at ck5
          rw [← hx5, ← hiN5] at ci5
          rw [← hiN5] at fi5
          rw [← hy5, ← hjN5] at cj5
          rw [← hjN5] at fj5
          clear S3 hx5 hy5 hiN5 hjN5
          go_wp2_with fail
          go_big_region_o
          clear ci5 cj5 ck5 fi5 fj5
          generalize ((wr.setCell ⟨blk, off + iN5, none⟩ (enc y5)).setCell ⟨blk, off + jN5, none⟩ (enc x5)).drew = w3 at S4 ⊢
          clear ei5 ej5
          go_wp2
          go_roundg q2
          case measure => omega
          case rel => exact ⟨k - 1, swp dk (k) (k - 1), by first | rfl | go_num | (congr 1; omega), by omega, by rw [size_swp]; exact hds, S4, heq⟩
theorem symMerge_big (lt : α → α → Bool) (f a m b : Nat) (d d1 d2 d3 : Array α) (s en mid : Nat) (c1 : ¬ m - a = 1) (c2 : ¬ b - m = 1) (hm : mid = (a + b) / 2) (hs : smStart lt a m b d = s) (he : en = mid + m - s) (e1 : d1 = smRot s m en d) (e2 : d2 = if a < s ∧ s < mid then symMerge lt f a s mid d1 else d1) (e3 : d3 = if mid < en ∧ en < b then symMerge lt f mid en b d2 else d2) : symMerge lt (f + 1) a m b d = d3 := by
  subst hm he e1 e2 e3
  rw [symMerge, if_neg c1, if_neg c2, hs]
theorem smRot_size (s m en : Nat) (d : Array α) (h1 : s ≤ m) (h2 : m ≤ en) (h3 : en ≤ d.size) : (smRot s m en d).size = d.size := (smRot_spec s m en 0 d.size d h1 h2 (Nat.zero_le _) h3 (Nat.le_refl _)).1.1
theorem symMerge_size (lt : α → α → Bool) : ∀ (f a m b : Nat) (d : Array α), a < m → m < b → b ≤ d.size → (symMerge lt f a m b d).size = d.size := by
  intro f
  induction f with
  | zero => intro a m b d _ _ _; rfl
  | succ f ih =>
    intro a m b d h1 h2 hb
    by_cases c1 : m - a = 1
    · rw [symMerge, if_pos c1]
      have r := bs_range (fun h => lt d[h]! d[a]!) (b - m) m b (by omega)
      exact (shUp_spec 0 d.size _ _ d (Nat.zero_le _) (by omega) (Nat.le_refl _)).1.1
    by_cases c2 : b - m = 1
    · rw [symMerge, if_neg c1, if_pos c2]
      have r := bs_range (fun h => !lt d[m]! d[h]!) (m - a) a m (by omega)
      exact (shDn_spec 0 d.size _ _ d (by omega) (by omega) (Nat.le_refl _)).1.1
    obtain ⟨w1, w2, w3, w4, w5, w6, w7⟩ := smRange a m b h1 h2 c1 c2
    obtain ⟨r0, r1⟩ : smLo a m b ≤ smStart lt a m b d ∧ smStart lt a m b d ≤ smHi a m b := bs_range _ _ _ _ w2
    have z1 := smRot_size (smStart lt a m b d) m ((a + b) / 2 + m - smStart lt a m b d) d (by omega) (by omega) (by omega)
    have z2 : (if a < smStart lt a m b d ∧ smStart lt a m b d < (a + b) / 2 then symMerge lt f a (smStart lt a m b d) ((a + b) / 2) (smRot (smStart lt a m b d) m ((a + b) / 2 + m - smStart lt a m b d) d) else smRot (smStart lt a m b d) m ((a + b) / 2 + m - smStart lt a m b d) d).size = d.size := by
      split
      · rename_i h; rw [ih _ _ _ _ h.1 h.2 (by omega), z1]
      · exact z1
    rw [symMerge_big lt f a m b d _ _ _ _ _ _ c1 c2 rfl rfl rfl rfl rfl rfl]
    split
    · rename_i h; rw [ih _ _ _ _ h.1 h.2 (by omega), z2]
    · exact z2
set_option maxHeartbeats 16000000 in
set_option maxRecDepth 1000000 in
theorem symMerge_gen (enc : α → Value) (cf : α → α → Int) (g : Nat) (cb : Array Value) (blk off cap L : Nat) (d0 : Array α) (w0 : World) (eg : ∀ args w, (callFunc g args).run Tryz.prog w = .ok (.enter g args) w) (hcmp : CmpLays1 Tryz.prog g cb enc cf blk off d0.size w0) (R : Row1 enc w0 blk off d0) (hL : d0.size = L) (hsz : L < 4611686018427387904) (f a m b : Nat) (d : Array α) (w : World) (hd : d.size = L) (S : SW enc w0 blk off d w) (h1 : a < m) (h2 : m < b) (hb : b ≤ L) (IH : Aside (∀ (a m b : Nat) (d : Array α) (w : World), d.size = L → SW enc w0 blk off d w → a < m → m < b → b ≤ L → b - a ≤ f → Calls Tryz.prog 106 #[.slice (some ⟨blk, off, none⟩) L cap, .int .i64 a, .int .i64 m, .int .i64 b, .func (.func g) #[] cb] w (fun e w' => e = .returned (.tuple #[]) ∧ SW enc w0 blk off (symMerge (ltOf cf) f a m b d) w'))) (hf : b - a ≤ f + 1) (c1 : ¬ m - a = 1) (c2 : ¬ b - m = 1) :
    Calls Tryz.prog 106 #[.slice (some ⟨blk, off, none⟩) L cap, .int .i64 a, .int .i64 m, .int .i64 b, .func (.func g) #[] cb] w (fun e w' => e = .returned (.tuple #[]) ∧ SW enc w0 blk off (symMerge (ltOf cf) (f + 1) a m b d) w') := by
  have mixed : Tryz.prog.follows Departure.mixedOrders = true := by kernel_rfl
  have hcl0 := R.hO.cells
  simp only [Value.cells] at hcl0
  have hst := R.hO.store Tryz.prog
  have HC : Aside _ := hcmp
  clear hcmp
  have S0 : Aside (SW enc w0 blk off d w) := S
  clear S
  have ka : (m : Int) - (a : Int) = ((m - a : Nat) : Int) := by omega
  have kb : (b : Int) - (m : Int) = ((b - m : Nat) : Int) := by omega
  have t1 : ((m : Int) - (a : Int) == 1) = false := by simp; omega
  have t1n : (((m - a : Nat) : Int) == 1) = false := by simp; omega
  have t2n : (((b - m : Nat) : Int) == 1) = false := by simp; omega
  have t2 : ((b : Int) - (m : Int) == 1) = false := by simp; omega
  obtain ⟨mid, hmid⟩ : ∃ z, z = (a + b) / 2 := ⟨_, rfl⟩
  have m1mid : ((a : Int) + (b : Int)) / 2 = (mid : Int) := by omega
  have m2mid : IntKind.u64.wrap ((a : Int) + (b : Int)) = (a : Int) + (b : Int) := by simp [IntKind.wrap, IntKind.bits, IntKind.signed]; omega
  obtain ⟨w1, w2, w3, w4, w5, w6, w7⟩ := smRange a m b h1 h2 c1 c2
  rw [← hmid] at w4 w5 w6
  have est : smStart (ltOf cf) a m b d = bs (fun c => !ltOf cf d[mid + m - 1 - c]! d[c]!) (smHi a m b - smLo a m b) (smLo a m b) (smHi a m b) := by rw [hmid]; rfl
  have big := fun d1 d2 d3 s en => symMerge_big (ltOf cf) f a m b d d1 d2 d3 s en mid c1 c2 hmid
  have BIG : Aside _ := big
  clear big
  have lo1 : mid < m → smLo a m b = mid + m - b ∧ smHi a m b = mid := by intro h; unfold smLo smHi; rw [← hmid, if_pos h, if_pos h]; exact ⟨rfl, rfl⟩
  have lo2 : ¬ mid < m → smLo a m b = a ∧ smHi a m b = m := by intro h; unfold smLo smHi; rw [← hmid, if_neg h, if_neg h]; exact ⟨rfl, rfl⟩
  have hm0 : a < mid := by omega
  have hm9 : mid < b := by omega
  clear hmid
  generalize smLo a m b = lo at w1 w2 w6 w7 est lo1 lo2
  generalize smHi a m b = hi at w2 w3 w4 w5 est lo1 lo2
  have EST : Aside _ := est
  have LO1 : Aside _ := lo1
  have LO2 : Aside _ := lo2
  clear est lo1 lo2
  go_enter Tryz.func106, Tryz.ntmps106
  go_upto_if 140 with (fail)
  go_cut [20, 21] (fun v20 v21 wc => v20 = .int .i64 ((lo : Nat) : Int) ∧ v21 = .int .i64 ((hi : Nat) : Int) ∧ Aside (SW enc w0 blk off d wc))
  case first => as_aux_lemma =>
    by_cases c3 : mid < m
    ·
      obtain ⟨e1, e2⟩ := LO1.out c3
      have c3a : (m : Int) > (mid : Int) := by omega
      have c3b : (mid : Int) < (m : Int) := by omega
      go_wp2_with fail
      go_meet
      case rel => exact ⟨by first | rfl | (congr 1; omega), by first | rfl | (congr 1; omega), S0⟩
    ·
      obtain ⟨e1, e2⟩ := LO2.out c3
      have c3a : ¬ (m : Int) > (mid : Int) := by omega
      have c3b : ¬ (mid : Int) < (m : Int) := by omega
      go_wp2_with fail
      go_meet
      case rel => exact ⟨by first | rfl | (congr 1; omega), by first | rfl | (congr 1; omega), S0⟩
  case rest => as_aux_lemma =>
    obtain ⟨rfl, rfl, S9⟩ := hcut
    clear S0
    go_wp2_with fail
    go_loopg [20, 21] (hi - lo) (fun kx si sj wr => ∃ (i j : Nat), si = .int .i64 i ∧ sj = .int .i64 j ∧ lo ≤ i ∧ i ≤ j ∧ j ≤ hi ∧ j - i ≤ kx ∧ Aside (SW enc w0 blk off d wr) ∧ Hid (bs (fun c => !ltOf cf d[mid + m - 1 - c]! d[c]!) kx i j = bs (fun c => !ltOf cf d[mid + m - 1 - c]! d[c]!) (hi - lo) (lo) (hi)))
    case atStart => exact ⟨lo, hi, by first | rfl | (congr 1; omega), by first | rfl | (congr 1; omega), Nat.le_refl _, by omega, Nat.le_refl _, Nat.le_refl _, S9, rfl⟩
    case round =>
      clear S9
      obtain ⟨i, j, rfl, rfl, g1, g2, g3, g4, S1, heq⟩ := hrel
      by_cases c : i < j
      ·
        cases gk with
        | zero => omega
        | succ q1 =>
        have hlt : (i : Int) < (j : Int) := by omega
        have q0 := heq.out
        rw [bs, if_pos c] at q0
        clear heq
        obtain ⟨h, hh⟩ : ∃ z, z = (i + j) / 2 := ⟨_, rfl⟩
        have m1h : ((i : Int) + (j : Int)) / 2 = (h : Int) := by omega
        have m2h : IntKind.u64.wrap ((i : Int) + (j : Int)) = (i : Int) + (j : Int) := by simp [IntKind.wrap, IntKind.bits, IntKind.signed]; omega
        rw [← hh] at q0
        have hb1 : i ≤ h := by omega
        have hb2 : h < j := by omega
        clear hh
        obtain ⟨pc, hpc⟩ : ∃ q, q = mid + m - 1 - h := ⟨_, rfl⟩
        have kpc : (mid : Int) + (m : Int) - 1 - (h : Int) = (pc : Int) := by omega
        rw [← hpc] at q0
        have hpb : pc < b := by omega
        clear hpc
        cases hv : ltOf cf d[pc]! d[h]! with
        | true => as_aux_lemma =>
          go_wp2_with fail
          obtain ⟨iN8, hiN8⟩ : ∃ q, q = pc := ⟨_, rfl⟩
          have ei8 : ((pc : Int)).toNat = iN8 := by omega
          have pi8 : (0 : Int) ≤ (pc : Int) := by omega
          have bi8 : (pc : Int) < (L : Int) := by omega
          have ri8 : IntKind.i64.wrap ((pc : Int)) = (pc : Int) := by rw [IntKind.wrap_i64]; omega
          obtain ⟨jN8, hjN8⟩ : ∃ q, q = h := ⟨_, rfl⟩
          have ej8 : ((h : Int)).toNat = jN8 := by omega
          have pj8 : (0 : Int) ≤ (h : Int) := by omega
          have bj8 : (h : Int) < (L : Int) := by omega
          have rj8 : IntKind.i64.wrap ((h : Int)) = (h : Int) := by rw [IntKind.wrap_i64]; omega
          obtain ⟨x8, hx8⟩ : ∃ x, x = d[pc]! := ⟨_, rfl⟩
          obtain ⟨y8, hy8⟩ : ∃ x, x = d[h]! := ⟨_, rfl⟩
          have li8 := S1.out.cl R (by omega) (pc) (by omega)
          have lj8 := S1.out.cl R (by omega) (h) (by omega)
          rw [← hx8, ← hiN8] at li8
          rw [← hy8, ← hjN8] at lj8
          have hc8 := S1.out.cmp HC.out (by omega) x8 y8
          have hv8 : cf x8 y8 < 0 := by rw [hx8, hy8]; exact of_decide_eq_true hv
          have hd8 : decide (cf x8 y8 < 0) = true := decide_eq_true hv8
          clear hx8 hy8 hiN8 hjN8
          go_wp2_with fail
          go_quiet_grown (first | (go_at_fn g; refine Calls.grown_of (hc8 _ _)))
          have S2 : Aside (SW enc w0 blk off d (grow (wr.drewN nq) osq)) := S1.out.grown nq osq
          clear li8 lj8 hc8 S1
          generalize grow (wr.drewN nq) osq = w2 at S2 ⊢
          clear nq osq
          clear ei8 ej8
          rw [if_neg (by first | rfl | (simp only [hv]; rfl) | simp [hv])] at q0
          go_wp2
          go_roundg q1
          case measure => omega
          case rel => exact ⟨i, h, by first | rfl | go_num | (congr 1; omega), by first | rfl | go_num | (congr 1; omega), by omega, by omega, by omega, by omega, S2, q0⟩
        | false => as_aux_lemma =>
          go_wp2_with fail
          obtain ⟨iN9, hiN9⟩ : ∃ q, q = pc := ⟨_, rfl⟩
          have ei9 : ((pc : Int)).toNat = iN9 := by omega
          have pi9 : (0 : Int) ≤ (pc : Int) := by omega
          have bi9 : (pc : Int) < (L : Int) := by omega
          have ri9 : IntKind.i64.wrap ((pc : Int)) = (pc : Int) := by rw [IntKind.wrap_i64]; omega
          obtain ⟨jN9, hjN9⟩ : ∃ q, q = h := ⟨_, rfl⟩
          have ej9 : ((h : Int)).toNat = jN9 := by omega
          have pj9 : (0 : Int) ≤ (h : Int) := by omega
          have bj9 : (h : Int) < (L : Int) := by omega
          have rj9 : IntKind.i64.wrap ((h : Int)) = (h : Int) := by rw [IntKind.wrap_i64]; omega
          obtain ⟨x9, hx9⟩ : ∃ x, x = d[pc]! := ⟨_, rfl⟩
          obtain ⟨y9, hy9⟩ : ∃ x, x = d[h]! := ⟨_, rfl⟩
          have li9 := S1.out.cl R (by omega) (pc) (by omega)
          have lj9 := S1.out.cl R (by omega) (h) (by omega)
          rw [← hx9, ← hiN9] at li9
          rw [← hy9, ← hjN9] at lj9
          have hc9 := S1.out.cmp HC.out (by omega) x9 y9
          have hv9 : ¬ cf x9 y9 < 0 := by rw [hx9, hy9]; exact of_decide_eq_false hv
          have hd9 : decide (cf x9 y9 < 0) = false := decide_eq_false hv9
          clear hx9 hy9 hiN9 hjN9
          go_wp2_with fail
          go_quiet_grown (first | (go_at_fn g; refine Calls.grown_of (hc9 _ _)))
          have S2 : Aside (SW enc w0 blk off d (grow (wr.drewN nq) osq)) := S1.out.grown nq osq
          clear li9 lj9 hc9 S1
          generalize grow (wr.drewN nq) osq = w2 at S2 ⊢
          clear nq osq
          clear ei9 ej9
          rw [if_pos (by first | rfl | (simp only [hv]; rfl) | simp [hv])] at q0
          go_wp2
          go_roundg q1
          case measure => omega
          case rel => exact ⟨h + 1, j, by first | rfl | go_num | (congr 1; omega), by first | rfl | go_num | (congr 1; omega), by omega, by omega, by omega, by omega, S2, q0⟩
      ·
        have hlt : ¬ (i : Int) < (j : Int) := by omega
        have q0 := heq.out
        have q1 : ∀ z, bs (fun c => !ltOf cf d[mid + m - 1 - c]! d[c]!) z i j = i := by intro z; cases z with | zero => rfl | succ z => rw [bs, if_neg c]
        rw [q1] at q0
        clear heq q1
        have qe := q0.symm
        clear q0
        go_upto_region 38 with (fail)
        obtain ⟨en, hen⟩ : ∃ en, en = mid + m - i := ⟨_, rfl⟩
        have ken : (mid : Int) + (m : Int) - (i : Int) = (en : Int) := by omega
        have en1 : m ≤ en := by omega
        have en2 : en ≤ b := by omega
        have en3 : mid ≤ en := by omega
        have en4 : i ≤ mid := by omega
        have HEN : Aside _ := hen
        clear hen
        go_upto_region 39 with (fail)
        go_cut [185] (fun vt wc => ∃ t : Bool, vt = .bool t ∧ Aside (t = decide (i < m ∧ m < en)) ∧ Aside (SW enc w0 blk off d wc))
        case first => as_aux_lemma =>
          by_cases c4 : i < m
          ·
            by_cases c5 : m < en
            ·
              have c4a : (i : Int) < (m : Int) := by omega
              have c5a : (m : Int) < (en : Int) := by omega
              go_wp2_with fail
              go_meet
              case rel => exact ⟨_, rfl, show Aside _ from (decide_eq_true ⟨c4, c5⟩).symm, S1⟩
            ·
              have c4a : (i : Int) < (m : Int) := by omega
              have c5a : ¬ (m : Int) < (en : Int) := by omega
              go_wp2_with fail
              go_meet
              case rel => exact ⟨_, rfl, show Aside _ from (decide_eq_false (fun h => c5 h.2)).symm, S1⟩
          ·
            have c4a : ¬ (i : Int) < (m : Int) := by omega
            go_wp2_with fail
            go_meet
            case rel => exact ⟨_, rfl, show Aside _ from (decide_eq_false (fun h => c4 h.1)).symm, S1⟩
        case rest => as_aux_lemma =>
          obtain ⟨t, rfl, T1, S2⟩ := hcut
          clear S1
          go_upto_if 185 with (fail)
          go_cut [] (fun wc => ∃ d1 : Array α, d1.size = L ∧ Aside (SW enc w0 blk off d1 wc) ∧ Hid (d1 = smRot i m en d))
          case first => as_aux_lemma =>
            cases t with
            | true => as_aux_lemma =>
              obtain ⟨c4, c5⟩ := of_decide_eq_true T1.out.symm
              go_wp2_with ((go_at_call 139; refine at_args (args' := #[.slice (some ⟨blk, off, none⟩) L cap, .int .i64 ((i : Nat) : Int), .int .i64 ((m : Nat) : Int), .int .i64 ((en : Nat) : Int), .func (.func g) #[] cb]) (by first | rfl | (simp only [ken]; done) | (simp [ken]; done)) ?_; refine (rotate_calls enc cf g cb blk off cap L d0 w0 eg HC.out R hL hsz i m en d _ hd S2.out c4 c5 (by omega)).mono ?_; rintro e w' ⟨rfl, S30⟩; have S3 : Aside _ := S30; clear S30))
              go_meet
              case rel => exact ⟨smRot i m en d, (smRot_size i m en d (by omega) (by omega) (by omega)).trans hd, by unfold smRot; rw [if_pos ⟨c4, c5⟩]; exact S3, rfl⟩
            | false => as_aux_lemma =>
              have c4 := of_decide_eq_false T1.out.symm
              go_wp2_with fail
              go_meet
              case rel => exact ⟨d, hd, S2, by unfold smRot; rw [if_neg c4]; exact rfl⟩
          case rest => as_aux_lemma =>
            obtain ⟨d1, hd1, S3, E1⟩ := hcut
            clear S2
            go_upto_region 41 with (fail)
            go_cut [199] (fun vt wc => ∃ t : Bool, vt = .bool t ∧ Aside (t = decide (a < i ∧ i < mid)) ∧ Aside (SW enc w0 blk off d1 wc))
            case first => as_aux_lemma =>
              by_cases c4 : a < i
              ·
                by_cases c5 : i < mid
                ·
                  have c4a : (a : Int) < (i : Int) := by omega
                  have c5a : (i : Int) < (mid : Int) := by omega
                  go_wp2_with fail
                  go_meet
                  case rel => exact ⟨_, rfl, show Aside _ from (decide_eq_true ⟨c4, c5⟩).symm, S3⟩
                ·
                  have c4a : (a : Int) < (i : Int) := by omega
                  have c5a : ¬ (i : Int) < (mid : Int) := by omega
                  go_wp2_with fail
                  go_meet
                  case rel => exact ⟨_, rfl, show Aside _ from (decide_eq_false (fun h => c5 h.2)).symm, S3⟩
              ·
                have c4a : ¬ (a : Int) < (i : Int) := by omega
                go_wp2_with fail
                go_meet
                case rel => exact ⟨_, rfl, show Aside _ from (decide_eq_false (fun h => c4 h.1)).symm, S3⟩
            case rest => as_aux_lemma =>
              obtain ⟨t, rfl, T2, S4⟩ := hcut
              clear S3
              go_upto_if 199 with (fail)
              go_cut [] (fun wc => ∃ d2 : Array α, d2.size = L ∧ Aside (SW enc w0 blk off d2 wc) ∧ Hid (d2 = if a < i ∧ i < mid then symMerge (ltOf cf) f a i mid d1 else d1))
              case first => as_aux_lemma =>
                cases t with
                | true => as_aux_lemma =>
                  obtain ⟨c4, c5⟩ := of_decide_eq_true T2.out.symm
                  go_wp2_with ((go_at_call 106; refine at_args (args' := #[.slice (some ⟨blk, off, none⟩) L cap, .int .i64 ((a : Nat) : Int), .int .i64 ((i : Nat) : Int), .int .i64 ((mid : Nat) : Int), .func (.func g) #[] cb]) (by first | rfl | (simp only [ken]; done) | (simp [ken]; done)) ?_; refine (IH.out a i mid d1 _ hd1 S4.out c4 c5 (by omega) (by omega)).mono ?_; rintro e w' ⟨rfl, S50⟩; have S5 : Aside _ := S50; clear S50))
                  go_meet
                  case rel => exact ⟨_, by rw [symMerge_size _ _ _ _ _ _ c4 c5 (by omega)]; exact hd1, S5, by rw [if_pos ⟨c4, c5⟩]; exact rfl⟩
                | false => as_aux_lemma =>
                  have c4 := of_decide_eq_false T2.out.symm
                  go_wp2_with fail
                  go_meet
                  case rel => exact ⟨d1, hd1, S4, by rw [if_neg c4]; exact rfl⟩
              case rest => as_aux_lemma =>
                obtain ⟨d2, hd2, S5, E2⟩ := hcut
                clear S4
                go_upto_region 43 with (fail)
                go_cut [213] (fun vt wc => ∃ t : Bool, vt = .bool t ∧ Aside (t = decide (mid < en ∧ en < b)) ∧ Aside (SW enc w0 blk off d2 wc))
                case first => as_aux_lemma =>
                  by_cases c4 : mid < en
                  ·
                    by_cases c5 : en < b
                    ·
                      have c4a : (mid : Int) < (en : Int) := by omega
                      have c5a : (en : Int) < (b : Int) := by omega
                      go_wp2_with fail
                      go_meet
                      case rel => exact ⟨_, rfl, show Aside _ from (decide_eq_true ⟨c4, c5⟩).symm, S5⟩
                    ·
                      have c4a : (mid : Int) < (en : Int) := by omega
                      have c5a : ¬ (en : Int) < (b : Int) := by omega
                      go_wp2_with fail
                      go_meet
                      case rel => exact ⟨_, rfl, show Aside _ from (decide_eq_false (fun h => c5 h.2)).symm, S5⟩
                  ·
                    have c4a : ¬ (mid : Int) < (en : Int) := by omega
                    go_wp2_with fail
                    go_meet
                    case rel => exact ⟨_, rfl, show Aside _ from (decide_eq_false (fun h => c4 h.1)).symm, S5⟩
                case rest => as_aux_lemma =>
                  obtain ⟨t, rfl, T3, S6⟩ := hcut
                  clear S5
                  go_upto_if 213 with (fail)
                  cases t with
                  | true => as_aux_lemma =>
                    obtain ⟨c4, c5⟩ := of_decide_eq_true T3.out.symm
                    go_wp2_with ((go_at_call 106; refine at_args (args' := #[.slice (some ⟨blk, off, none⟩) L cap, .int .i64 ((mid : Nat) : Int), .int .i64 ((en : Nat) : Int), .int .i64 ((b : Nat) : Int), .func (.func g) #[] cb]) (by first | rfl | (simp only [ken]; done) | (simp [ken]; done)) ?_; refine (IH.out mid en b d2 _ hd2 S6.out c4 c5 (by omega) (by omega)).mono ?_; rintro e w' ⟨rfl, S70⟩; have S7 : Aside _ := S70; clear S70))
                    go_end0
                    exact ⟨rfl, by rw [BIG.out d1 d2 _ i en (EST.out.trans qe) HEN.out E1.out E2.out (by rw [if_pos ⟨c4, c5⟩])]; exact S7.out⟩
                  | false => as_aux_lemma =>
                    have c4 := of_decide_eq_false T3.out.symm
                    go_wp2_with fail
                    go_end0
                    exact ⟨rfl, by rw [BIG.out d1 d2 _ i en (EST.out.trans qe) HEN.out E1.out E2.out (by rw [if_neg c4])]; exact S6.out⟩
set_option maxHeartbeats 16000000 in
set_option maxRecDepth 1000000 in
theorem symMerge_calls (enc : α → Value) (cf : α → α → Int) (g : Nat) (cb : Array Value) (blk off cap L : Nat) (d0 : Array α) (w0 : World) (eg : ∀ args w, (callFunc g args).run Tryz.prog w = .ok (.enter g args) w) (hcmp : CmpLays1 Tryz.prog g cb enc cf blk off d0.size w0) (R : Row1 enc w0 blk off d0) (hL : d0.size = L) (hsz : L < 4611686018427387904) : ∀ (f a m b : Nat) (d : Array α) (w : World), d.size = L → SW enc w0 blk off d w → a < m → m < b → b ≤ L → b - a ≤ f →
    Calls Tryz.prog 106 #[.slice (some ⟨blk, off, none⟩) L cap, .int .i64 a, .int .i64 m, .int .i64 b, .func (.func g) #[] cb] w (fun e w' => e = .returned (.tuple #[]) ∧ SW enc w0 blk off (symMerge (ltOf cf) f a m b d) w') := by
  intro f
  induction f with
  | zero => intro a m b d w _ _ h1 h2 _ h3; omega
  | succ f ih =>
    intro a m b d w hd S h1 h2 hb hf
    by_cases c1 : m - a = 1
    · exact symMerge_one enc cf g cb blk off cap L d0 w0 eg hcmp R hL hsz f a m b d w hd S h1 h2 hb c1
    by_cases c2 : b - m = 1
    · exact symMerge_last enc cf g cb blk off cap L d0 w0 eg hcmp R hL hsz f a m b d w hd S h1 h2 hb c1 c2
    exact symMerge_gen enc cf g cb blk off cap L d0 w0 eg hcmp R hL hsz f a m b d w hd S h1 h2 hb ih hf c1 c2
end Go.Proofs.YtkfpcbhapnhckaaGreatDoor.Sw
