-- what this claim names of YtkfpcbhapnhckaaGreatDoorSv (trim.py)

import Derived.Test.YtkfpcbhapnhckaaGreatDoorProg
import Derived.Test.YtkfpcbhapnhckaaGreatDoorQStb
import Derived.Shelf.SlSortCmp.Kit1
import Derived.Sort.WalkA
import Derived.Sort.WalkB2
import Derived.Sort.WalkB12
import Derived.Deep.LoopGhost
import Derived.Deep.DeepCutAuto
import Derived.Deep.CutBlock
import Derived.WalkKit
import Derived.Below
import Derived.Deep.Draws
import Derived.Deep.AppendLies
import Derived.Maps.AppendAt
import Derived.OwnWalk
import Derived.Laws.BytesArg
import Derived.Laws.MakeOwn
import Derived.Laws.OwnMore
import Derived.Deep.OwnRows
import Derived.Tactics
import Derived.Lib.ConvBytes
import Derived.Laws.Slices
import Derived.WalkKit
import Derived.KernelRfl
import Derived.RowKit3
import Derived.Deep.LoopGhost
import Derived.Deep.QuietTactic
import Derived.BigQuiet
import Derived.WideLaws
import Derived.Deep.DeepCutAuto
import Derived.Deep.CutBlock
import Derived.Deep.RegionHeld3
import Derived.Laws.Rows
import Derived.Lib.AppendStr
import Derived.ArgAppend
import Derived.Laws.IdiomCopy
import Derived.OrdersHeld
import Derived.Laws.BitsLemmas
import Derived.RowKit
import Derived.Laws.Cover1
import Derived.Shelf.Abstract
import Derived.Shelf.Strings.AsciiSet
import Derived.WalkSpells
import Derived.Shelf.Strconv.Itoa4
import Derived.Lib.AppendIntMem
import Derived.Lib.LaidTab
import Derived.MakeChecks
import Derived.Shelf.Strings.OnBuilder
import Derived.Test.YtkfpcbhapnhckaaGreatDoorQWMore
import Derived.Test.YtkfpcbhapnhckaaGreatDoorQSw
namespace Go.Proofs.YtkfpcbhapnhckaaGreatDoor.Sw
open Go.Shelf Go.RowKit Go.Lib Go.Sort Go.Proofs.YtkfpcbhapnhckaaGreatDoor.Stb
set_option linter.unusedVariables false
set_option linter.unusedSectionVars false
set_option linter.unusedSimpArgs false
variable {α : Type} [Inhabited α]
def blocks (lt : α → α → Bool) (d : Array α) : Nat → Array α
  | 0 => d
  | k + 1 => insertionSort lt (blocks lt d k) (20 * k) (20 * k + 20)
theorem insInner_size (lt : α → α → Bool) (a : Nat) : ∀ (j : Nat) (d : Array α), (insInner lt a j d).size = d.size := by
  intro j
  induction j with
  | zero => intro d; unfold insInner; rfl
  | succ j ih =>
    intro d
    unfold insInner
    split
    · rw [ih, size_swp]
    · rfl
theorem insOuter_size (lt : α → α → Bool) (a b : Nat) : ∀ (n i : Nat) (d : Array α), b - i = n → (insOuter lt a b i d).size = d.size := by
  intro n
  induction n with
  | zero => intro i d h; rw [insOuter_stop lt a b i d (by omega)]
  | succ n ih =>
    intro i d h
    rw [insOuter_go lt a b i d (by omega), ih _ _ (by omega), insInner_size]
theorem ins_size (lt : α → α → Bool) (d : Array α) (a b : Nat) : (insertionSort lt d a b).size = d.size := insOuter_size lt a b _ _ d rfl
theorem blocks_size (lt : α → α → Bool) (d : Array α) : ∀ k, (blocks lt d k).size = d.size := by
  intro k
  induction k with
  | zero => rfl
  | succ k ih => rw [blocks, ins_size, ih]
theorem ins_none (lt : α → α → Bool) (d : Array α) (a : Nat) : insertionSort lt d a a = d := by unfold insertionSort insOuter; rw [if_neg (by omega)]
theorem stable_blocks (lt : α → α → Bool) (n k : Nat) (d : Array α) (h1 : 20 * k ≤ n) (h2 : n < 20 * k + 20) (h3 : n ≤ 40) : stable40 lt n d = if 20 < n then symMerge lt n 0 20 n (insertionSort lt (blocks lt d k) (20 * k) n) else insertionSort lt (blocks lt d k) (20 * k) n := by
  unfold stable40
  have hk : k = 0 ∨ k = 1 ∨ k = 2 := by omega
  rcases hk with rfl | rfl | rfl
  · rw [if_pos (show n < 20 by omega)]; rfl
  · rw [if_neg (show ¬ n < 20 by omega)]; rfl
  · obtain rfl : n = 40 := by omega
    have e : insertionSort lt (blocks lt d 2) (20 * 2) 40 = insertionSort lt (insertionSort lt d 0 20) 20 40 := ins_none lt _ 40
    rw [e]; rfl
set_option maxHeartbeats 16000000 in
set_option maxRecDepth 1000000 in
theorem stable_calls (enc : α → Value) (cf : α → α → Int) (g : Nat) (cb : Array Value) (blk off cap L : Nat) (d0 : Array α) (w0 : World) (eg : ∀ args w, (callFunc g args).run Tryz.prog w = .ok (.enter g args) w) (hcmp : CmpLays1 Tryz.prog g cb enc cf blk off d0.size w0) (R : Row1 enc w0 blk off d0) (hL : d0.size = L) (hsz : L < 4611686018427387904) (INS : Aside (∀ (a b : Nat) (d : Array α) (w : World), d.size = L → SW enc w0 blk off d w → a ≤ b → b ≤ L → Calls Tryz.prog 105 #[.slice (some ⟨blk, off, none⟩) L cap, .int .i64 a, .int .i64 b, .func (.func g) #[] cb] w (fun e w' => e = .returned (.tuple #[]) ∧ SW enc w0 blk off (insertionSort (ltOf cf) d a b) w'))) (h40 : L ≤ 40) (d : Array α) (w : World) (hd : d.size = L) (S : SW enc w0 blk off d w) :
    Calls Tryz.prog 95 #[.slice (some ⟨blk, off, none⟩) L cap, .int .i64 L, .func (.func g) #[] cb] w (fun e w' => e = .returned (.tuple #[]) ∧ SW enc w0 blk off (stable40 (ltOf cf) L d) w') := by
  have mixed : Tryz.prog.follows Departure.mixedOrders = true := by kernel_rfl
  have hcl0 := R.hO.cells
  simp only [Value.cells] at hcl0
  have hst := R.hO.store Tryz.prog
  have HC : Aside _ := hcmp
  clear hcmp
  have S0 : Aside (SW enc w0 blk off d w) := S
  clear S
  go_enter Tryz.func95, Tryz.ntmps95
  go_wp2
  go_loopg [7, 8] 3 (fun kx s7 s8 wr => ∃ (k : Nat), s7 = .int .i64 ((20 * k : Nat) : Int) ∧ s8 = .int .i64 ((20 * k + 20 : Nat) : Int) ∧ k + kx = 3 ∧ 20 * k ≤ L ∧ Aside (SW enc w0 blk off (blocks (ltOf cf) d k) wr))
  case atStart => exact ⟨0, by first | rfl | (congr 1; omega), by first | rfl | (congr 1; omega), by omega, by omega, S0⟩
  case round =>
    clear S0
    obtain ⟨k, rfl, rfl, hk, hle, S1⟩ := hrel
    have hbs := blocks_size (ltOf cf) d k
    by_cases c : 20 * k + 20 ≤ L
    ·
      cases gk with
      | zero => omega
      | succ q1 =>
      have ca : ((20 * k + 20 : Nat) : Int) ≤ (L : Int) := by omega
      have kb : ((20 * k + 20 : Nat) : Int) + 20 = ((20 * (k + 1) + 20 : Nat) : Int) := by omega
      have ke : 20 * (k + 1) = 20 * k + 20 := by omega
      go_wp2_with ((go_at_call 105; refine at_args (args' := #[.slice (some ⟨blk, off, none⟩) L cap, .int .i64 ((20 * k : Nat) : Int), .int .i64 ((20 * k + 20 : Nat) : Int), .func (.func g) #[] cb]) (by first | rfl | (simp only [kb]; done) | (simp [kb]; done)) ?_; refine (INS.out (20 * k) (20 * k + 20) _ _ (hbs.trans hd) S1.out (by omega) c).mono ?_; rintro e w' ⟨rfl, S20⟩; have S2 : Aside _ := S20; clear S20))
      go_roundg q1
      case measure => omega
      case rel => exact ⟨k + 1, by first | rfl | (rw [ke]) | (congr 1; omega), by first | rfl | (congr 1; omega) | (rw [← kb]), by omega, by omega, S2⟩
    ·
      have ca : ¬ ((20 * k + 20 : Nat) : Int) ≤ (L : Int) := by omega
      clear hk
      go_upto_region 6 with (fail)
      obtain ⟨d1, e1⟩ : ∃ d1, d1 = insertionSort (ltOf cf) (blocks (ltOf cf) d k) (20 * k) L := ⟨_, rfl⟩
      have est : stable40 (ltOf cf) L d = if 20 < L then symMerge (ltOf cf) L 0 20 L d1 else d1 := by rw [e1]; exact stable_blocks (ltOf cf) L k d hle (by omega) h40
      have hd1 : d1.size = L := by rw [e1, ins_size]; exact hbs.trans hd
      have EST : Aside _ := est
      clear est
      go_wp2_with ((go_at_call 105; refine at_args (args' := #[.slice (some ⟨blk, off, none⟩) L cap, .int .i64 ((20 * k : Nat) : Int), .int .i64 ((L : Nat) : Int), .func (.func g) #[] cb]) (by first | rfl | (simp only [ca]; done) | (simp [ca]; done)) ?_; refine (INS.out (20 * k) L _ _ (hbs.trans hd) S1.out hle (Nat.le_refl _)).mono ?_; rintro e w' ⟨rfl, S20⟩; have S2 : Aside _ := S20; clear S20))
      rw [← e1] at S2
      clear e1 hbs S1
      go_loopg [6, 7, 8, 9] 2 (fun kx s6 s7 s8 s9 wr => ∃ (dk : Array α), Aside (SW enc w0 blk off dk wr) ∧ ((s6 = .int .i64 20 ∧ kx = 2 ∧ dk = d1) ∨ (s6 = .int .i64 40 ∧ kx = 1 ∧ 20 < L ∧ dk = symMerge (ltOf cf) L 0 20 L d1)))
      case atStart => exact ⟨d1, S2, .inl ⟨rfl, rfl, rfl⟩⟩
      case round =>
        clear S2
        obtain ⟨dk, S3, ⟨rfl, hk, rfl⟩ | ⟨rfl, hk, hL20, rfl⟩⟩ := hrel
        ·
          by_cases c20 : 20 < L
          ·
            have c20a : (20 : Int) < (L : Int) := by omega
            cases gk with
            | zero => omega
            | succ g1 =>
            go_wp2
            go_loopg [7, 8] 2 (fun kx s7 s8 wr => ∃ (dj : Array α), Aside (SW enc w0 blk off dj wr) ∧ ((s7 = .int .i64 0 ∧ s8 = .int .i64 40 ∧ kx = 2 ∧ dj = dk) ∨ (s7 = .int .i64 40 ∧ s8 = .int .i64 80 ∧ kx = 1 ∧ Aside (L = 40) ∧ dj = symMerge (ltOf cf) L 0 20 L dk)))
            case atStart => exact ⟨dk, S3, .inl ⟨rfl, rfl, rfl, rfl⟩⟩
            case round =>
              clear S3
              obtain ⟨dj, S4, ⟨rfl, rfl, hj, rfl⟩ | ⟨rfl, rfl, hj, hL40, rfl⟩⟩ := hrel
              ·
                by_cases c40 : 40 ≤ L
                ·
                  have c40a : (40 : Int) ≤ (L : Int) := by omega
                  have HL : Aside (L = 40) := (show L = 40 by omega)
                  cases gk with
                  | zero => omega
                  | succ g2 =>
                  go_wp2_with ((go_at_call 106; refine at_args (args' := #[.slice (some ⟨blk, off, none⟩) L cap, .int .i64 ((0 : Nat) : Int), .int .i64 ((20 : Nat) : Int), .int .i64 ((40 : Nat) : Int), .func (.func g) #[] cb]) (by first | rfl | (simp only [c40a]; done) | (simp [c40a]; done)) ?_; refine (symMerge_calls enc cf g cb blk off cap L d0 w0 eg HC.out R hL hsz L 0 20 40 dj _ hd1 S4.out (by omega) (by omega) (by omega) (by omega)).mono ?_; rintro e w' ⟨rfl, S50⟩; have S5 : Aside _ := S50; clear S50))
                  go_roundg g2
                  case measure => omega
                  case rel => exact ⟨_, S5, .inr ⟨rfl, rfl, by omega, HL, by have hLe := HL.out; subst hLe; rfl⟩⟩
                ·
                  have c40a : ¬ (40 : Int) ≤ (L : Int) := by omega
                  go_wp2_with ((go_at_call 106; refine at_args (args' := #[.slice (some ⟨blk, off, none⟩) L cap, .int .i64 ((0 : Nat) : Int), .int .i64 ((20 : Nat) : Int), .int .i64 ((L : Nat) : Int), .func (.func g) #[] cb]) (by first | rfl | (simp only [c40a]; done) | (simp [c40a]; done)) ?_; refine (symMerge_calls enc cf g cb blk off cap L d0 w0 eg HC.out R hL hsz L 0 20 L dj _ hd1 S4.out (by omega) (by omega) (Nat.le_refl _) (by omega)).mono ?_; rintro e w' ⟨rfl, S50⟩; have S5 : Aside _ := S50; clear S50))
                  go_roundg g1
                  case measure => omega
                  case rel => exact ⟨_, S5, .inr ⟨rfl, by omega, c20, rfl⟩⟩
              ·
                have c40a : ¬ (80 : Int) ≤ (L : Int) := by have := hL40.out; omega
                have c60a : ¬ (60 : Int) < (L : Int) := by have := hL40.out; omega
                go_wp2_with fail
                go_roundg g1
                case measure => omega
                case rel => exact ⟨_, S4, .inr ⟨rfl, by omega, c20, rfl⟩⟩
          ·
            have c20a : ¬ (20 : Int) < (L : Int) := by omega
            go_wp2
            go_end0
            exact ⟨rfl, by rw [EST.out, if_neg c20]; exact S3.out⟩
        ·
          have c40a : ¬ (40 : Int) < (L : Int) := by omega
          go_wp2
          go_end0
          exact ⟨rfl, by rw [EST.out, if_pos hL20]; exact S3.out⟩
set_option maxHeartbeats 16000000 in
set_option maxRecDepth 1000000 in
theorem sortStable_calls (enc : α → Value) (cf : α → α → Int) (g : Nat) (cb : Array Value) (blk off cap L : Nat) (d0 : Array α) (w0 : World) (eg : ∀ args w, (callFunc g args).run Tryz.prog w = .ok (.enter g args) w) (hcmp : CmpLays1 Tryz.prog g cb enc cf blk off d0.size w0) (R : Row1 enc w0 blk off d0) (hL : d0.size = L) (hsz : L < 4611686018427387904) (INS : Aside (∀ (a b : Nat) (d : Array α) (w : World), d.size = L → SW enc w0 blk off d w → a ≤ b → b ≤ L → Calls Tryz.prog 105 #[.slice (some ⟨blk, off, none⟩) L cap, .int .i64 a, .int .i64 b, .func (.func g) #[] cb] w (fun e w' => e = .returned (.tuple #[]) ∧ SW enc w0 blk off (insertionSort (ltOf cf) d a b) w'))) (h40 : L ≤ 40) (d : Array α) (w : World) (hd : d.size = L) (S : SW enc w0 blk off d w) :
    Calls Tryz.prog 79 #[.slice (some ⟨blk, off, none⟩) L cap, .func (.func g) #[] cb] w (fun e w' => e = .returned (.tuple #[]) ∧ SW enc w0 blk off (stable40 (ltOf cf) L d) w') := by
  have mixed : Tryz.prog.follows Departure.mixedOrders = true := by kernel_rfl
  have hcl0 := R.hO.cells
  simp only [Value.cells] at hcl0
  have hst := R.hO.store Tryz.prog
  have HC : Aside _ := hcmp
  clear hcmp
  have S0 : Aside (SW enc w0 blk off d w) := S
  clear S
  go_enter Tryz.func79, Tryz.ntmps79
  go_wp2_with (go_at_call 95; refine at_args (args' := #[.slice (some ⟨blk, off, none⟩) L cap, .int .i64 ((L : Nat) : Int), .func (.func g) #[] cb]) (by first | rfl | (simp; done)) ?_; refine (stable_calls enc cf g cb blk off cap L d0 w0 eg HC.out R hL hsz INS h40 d _ hd S0.out).mono ?_; rintro e w' ⟨rfl, S1⟩)
  go_end0
  exact ⟨rfl, S1⟩
end Go.Proofs.YtkfpcbhapnhckaaGreatDoor.Sw
