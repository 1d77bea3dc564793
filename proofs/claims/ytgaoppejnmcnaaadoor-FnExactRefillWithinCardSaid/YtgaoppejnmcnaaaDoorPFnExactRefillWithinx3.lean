/- Written by a program of this session (ext.py): functions as plain Lean, and proofs that the code comes to them. No conditions but those that each theorem states. -/
import Derived.Test.YtgaoppejnmcnaaaDoorPFnExactRefillWithinx0
import Derived.Test.YtgaoppejnmcnaaaDoorPFnExactRefillWithinx1
import Derived.Test.YtgaoppejnmcnaaaDoorPFnExactRefillWithinx2
namespace Go.Proofs.YtgaoppejnmcnaaaDoor.PFnExactRefillWithin
open Go.RowKit Go.Proofs.YtgaoppejnmcnaaaDoorW.PrintWords Go.Proofs.YtgaoppejnmcnaaaDoorW.PrintLast Go.Proofs.YtgaoppejnmcnaaaDoorW.PrintMore
attribute [local go_sem] max2_int min2_int max_two min_two max_three min_three max_four min_four Go.Proofs.YtgaoppejnmcnaaaDoor.Hl.isSome_set   -- for this text's walks alone
set_option linter.unusedVariables false
set_option linter.unusedSimpArgs false

/-! ### spec_RefillWithin: function 9 -/
mutual
def spec_RefillWithin.wf : Nat → List S52 → List Int → Int → List Int → Int → List Int → Int → Int → Option (List Int × Int)
  | 0, _, _, _, _, _, _, _, _ => none
  | k + 1, l, s, B, best, cost, set, fr, c => if c > B then some (best, cost) else if set.length > best.length ∨ (set.length = best.length ∧ c < cost) then spec_RefillWithin.wl k l s B set c set fr c else spec_RefillWithin.wl k l s B best cost set fr c
def spec_RefillWithin.wl : Nat → List S52 → List Int → Int → List Int → Int → List Int → Int → Int → Option (List Int × Int)
  | 0, _, _, _, _, _, _, _, _ => none
  | k + 1, l, s, B, best, cost, set, i, c => if i < (s.length : Int) then (if 0 ≤ i then (if 0 ≤ rd s i ∧ rd s i < (l.length : Int) then (if set.length < 1000000 then ((spec_l23Refill.f (rd_T52 l (rd s i)).f0 (rd_T52 l (rd s i)).f1 (rd_T52 l (rd s i)).f2 (rd_T52 l (rd s i)).f3).bind fun t => (spec_RefillWithin.wf k l s B best cost (set ++ [rd s i]) (wrap64 (i + 1)) (wrap64 (c + t))).bind fun bt => spec_RefillWithin.wl k l s B bt.1 bt.2 set (wrap64 (i + 1)) c) else none) else none) else none) else some (best, cost)
end
theorem spec_RefillWithin.mono_l : ∀ k, (∀ a b c d e f g h, LeO (spec_RefillWithin.wf k a b c d e f g h) (spec_RefillWithin.wf (k + 1) a b c d e f g h)) ∧ (∀ a b c d e f g h, LeO (spec_RefillWithin.wl k a b c d e f g h) (spec_RefillWithin.wl (k + 1) a b c d e f g h))
  | 0 => ⟨fun _ _ _ _ _ _ _ _ r h => by simp [spec_RefillWithin.wf] at h, fun _ _ _ _ _ _ _ _ r h => by simp [spec_RefillWithin.wl] at h⟩
  | k + 1 => by
    obtain ⟨i1, i2⟩ := spec_RefillWithin.mono_l k
    refine ⟨?_, ?_⟩
    · intro a b c d e f g h
      unfold spec_RefillWithin.wf
      repeat' first
        | exact i2 _ _ _ _ _ _ _ _
        | exact LeO.refl _
        | exact LeO.none _
        | refine LeO.ite ?_ ?_
    · intro a b c d e f g h
      unfold spec_RefillWithin.wl
      repeat' first
        | exact i1 _ _ _ _ _ _ _ _
        | exact i2 _ _ _ _ _ _ _ _
        | (with_reducible exact LeO.refl _)
        | exact LeO.none _
        | refine LeO.ite ?_ ?_
        | refine LeO.bind ?_ (fun _ => ?_)
        | exact LeO.refl _
def spec_RefillWithin.f (k : Nat) (l0 : List S52) (a1 : Int) : Option (List Int × Int × Int) := (spec_l23Ok.f k l0).bind fun t1 => if t1 = true then ((spec_l00In.f a1 0 100000000).bind fun t2 => if t2 = true then ((spec_l23Short.f k l0).bind fun s => if (s.length : Int) > 10 then some ([], 0, 5) else (spec_RefillWithin.wf k l0 s a1 [] 0 [] 0 0).bind fun bt => some (bt.1, bt.2, 0)) else some ([], 0, 2)) else some ([], 0, 1)
theorem spec_RefillWithin.mono : ∀ a0 a1 k, LeO (spec_RefillWithin.f k a0 a1) (spec_RefillWithin.f (k + 1) a0 a1) := by
  intro a b k
  have i1 := (spec_RefillWithin.mono_l k).1
  unfold spec_RefillWithin.f
  repeat' first
    | exact i1 _ _ _ _ _ _ _ _
    | exact spec_l23Ok.mono _ _
    | exact spec_l23Short.mono _ _
    | (with_reducible exact LeO.refl _)
    | exact LeO.none _
    | refine LeO.ite ?_ ?_
    | refine LeO.bind ?_ (fun _ => ?_)
    | exact LeO.refl _
/-- What a walk asks of the world. -/
structure spec_RefillWithin.At (g : Nat) (Al : Option Addr) (cl : Nat) (l : List S52) (As : Option Addr) (cs : Nat) (s : List Int) (B : Int) (base : Nat) (vb : Value) (best : List Int) (cost : Int) (vset : Value) (set : List Int) (W : World) : Prop where
  blk : W.heap[g]? = some (.cells #[.slice Al l.length cl, .slice As s.length cs, .int .i64 B, vb, .int .i64 cost] 60 (0, 0))
  best_ : Kd.R (Kd.int .i64) 2 W base (fun k => k ≠ g) vb best
  set_ : Kd.R (Kd.int .i64) 2 W base (fun k => k ≠ g) vset set
  list_ : ∀ W', Kept W W' (fun k => k = g) → Kd.C k52 W' Al l.length l
  short_ : ∀ W', Kept W W' (fun k => k = g) → Kd.C (Kd.int .i64) W' As s.length s
  base_ : base ≤ W.heap.size
theorem spec_RefillWithin.At.on {g : Nat} {Al : Option Addr} {cl : Nat} {l : List S52} {As : Option Addr} {cs : Nat} {s : List Int} {B : Int} {base : Nat} {vb : Value} {best : List Int} {cost : Int} {vset : Value} {set : List Int} {W W' : World} (h : spec_RefillWithin.At g Al cl l As cs s B base vb best cost vset set W) (hk : Kept W W' (fun k => k = g)) (vb' : Value) (best' : List Int) (cost' : Int)
    (hb : W'.heap[g]? = some (.cells #[.slice Al l.length cl, .slice As s.length cs, .int .i64 B, vb', .int .i64 cost'] 60 (0, 0))) (hB : Kd.R (Kd.int .i64) 2 W' base (fun k => k ≠ g) vb' best') : spec_RefillWithin.At g Al cl l As cs s B base vb' best' cost' vset set W' :=
  ⟨hb, hB, Kd.R_kept h.set_ hk (fun k h1 h2 => h1 h2), Kd.C_kept_step h.list_ hk, Kd.C_kept_step h.short_ hk, Nat.le_trans h.base_ hk.1⟩
set_option maxHeartbeats 8000000 in
set_option maxRecDepth 100000 in
theorem spec_RefillWithin.walk (g : Nat) (Al : Option Addr) (cl : Nat) (l : List S52) (As : Option Addr) (cs : Nat) (s : List Int) (B : Int) (hcl : l.length ≤ cl) (hcs : s.length ≤ cs) (base : Nat) : ∀ (n k : Nat), k ≤ n → ∀ (vb : Value) (best : List Int) (cost : Int) (vset : Value) (set : List Int) (fr c : Int) (r1 : List Int) (r2 : Int) (W : World) (_ : spec_RefillWithin.At g Al cl l As cs s B base vb best cost vset set W) (_ : spec_RefillWithin.wf k l s B best cost set fr c = some (r1, r2)),
    Calls Tryd.prog 39 #[.pointer (some ⟨g, 0, none⟩), vset, .int .i64 fr, .int .i64 c] W fun e w' => e = .returned (.tuple #[]) ∧ (∃ vb', w'.heap[g]? = some (.cells #[.slice Al l.length cl, .slice As s.length cs, .int .i64 B, vb', .int .i64 r2] 60 (0, 0)) ∧ Kd.R (Kd.int .i64) 2 w' base (fun k => k ≠ g) vb' r1) ∧ Kept W w' (fun k => k = g) ∧ Below 0 W w' := by
  intro n
  induction n with
  | zero =>
    intro k hk vb best cost vset set fr c r1 r2 W _ h
    obtain rfl : k = 0 := by omega
    exact absurd h (by simp [spec_RefillWithin.wf])
  | succ n ih =>
    intro k hk vb best cost vset set fr c r1 r2 W hAt h
    cases k with
    | zero => exact absurd h (by simp [spec_RefillWithin.wf])
    | succ k =>
      rw [spec_RefillWithin.wf] at h
      have HA := Aside0.mk hAt
      have HK := Aside0.mk hk
      obtain ⟨vset0, vset1, rfl, hsl, _⟩ := Kd.R_reads hAt.set_
      obtain ⟨vb0, vb1, rfl, hbl, _⟩ := Kd.R_reads hAt.best_
      have hc1 : W.cell? ⟨g, 1, none⟩ = some (.slice As s.length cs) := (blk_cell hAt.blk 1).trans rfl
      have hc2 : W.cell? ⟨g, 2, none⟩ = some (.int .i64 B) := (blk_cell hAt.blk 2).trans rfl
      have hc3 : W.cell? ⟨g, 3, none⟩ = some (.slice vb0 best.length vb1) := (blk_cell hAt.blk 3).trans rfl
      have hc4 : W.cell? ⟨g, 4, none⟩ = some (.int .i64 cost) := (blk_cell hAt.blk 4).trans rfl
      clear hAt hk hsl hbl
      by_cases c1 : c > B
      · rw [if_pos c1] at h
        obtain ⟨rfl, rfl⟩ := Prod.mk.inj (Option.some.inj h)
        have d1 : decide (c > B) = true := decide_eq_true c1
        have d2 : decide (B < c) = true := decide_eq_true c1
        clear c1 h
        go_enter Tryd.func39, Tryd.ntmps39
        go_wp2
        refine bodyPost_ret (results_none rfl _ _ _) rfl ?_
        exact ⟨rfl, ⟨_, HA.out.blk, HA.out.best_⟩, Kept.refl _ _, Below.refl _ _⟩
      · rw [if_neg c1] at h
        have d1 : decide (c > B) = false := decide_eq_false c1
        have d2 : decide (B < c) = false := decide_eq_false c1
        clear c1
        obtain ⟨q, hq⟩ : ∃ q : Bool, q = decide (set.length > best.length ∨ (set.length = best.length ∧ c < cost)) := ⟨_, rfl⟩
        have HQ := Aside0.mk hq
        have HH := Aside0.mk h
        clear h hq
        go_enter Tryd.func39, Tryd.ntmps39
        go_upto_region 1 with (fail)
        go_cut [40] (fun v40 wc => v40 = .bool q ∧ wc = W)
        case first =>
          have hq := HQ.out
          clear HQ
          by_cases e1 : set.length > best.length
          · have f1 : decide ((best.length : Int) < (set.length : Int)) = true := decide_eq_true (by omega)
            have f2 : decide (best.length < set.length) = true := decide_eq_true (by omega)
            rw [decide_eq_true (.inl e1)] at hq
            subst hq
            clear e1
            go_wp2
            go_meet
            case rel => exact ⟨rfl, rfl⟩
          · have f1 : decide ((best.length : Int) < (set.length : Int)) = false := decide_eq_false (by omega)
            have f2 : decide (best.length < set.length) = false := decide_eq_false (by omega)
            by_cases e2 : set.length = best.length
            · have f3 : decide ((set.length : Int) = (best.length : Int)) = true := decide_eq_true (by omega)
              have f4 : decide (set.length = best.length) = true := decide_eq_true (by omega)
              have f5 : ((set.length : Int) == (best.length : Int)) = true := by rw [beq_iff_eq]; omega
              by_cases e3 : c < cost
              · have f6 : decide (c < cost) = true := decide_eq_true e3
                rw [decide_eq_true (.inr ⟨e2, e3⟩)] at hq
                subst hq
                clear e1 e2 e3
                go_wp2
                go_meet
                case rel => exact ⟨rfl, rfl⟩
              · have f6 : decide (c < cost) = false := decide_eq_false e3
                rw [decide_eq_false (by rintro (g1 | ⟨_, g2⟩); exact e1 g1; exact e3 g2)] at hq
                subst hq
                clear e1 e2 e3
                go_wp2
                go_meet
                case rel => exact ⟨rfl, rfl⟩
            · have f3 : decide ((set.length : Int) = (best.length : Int)) = false := decide_eq_false (by omega)
              have f4 : decide (set.length = best.length) = false := decide_eq_false (by omega)
              have f5 : ((set.length : Int) == (best.length : Int)) = false := by rw [beq_eq_false_iff_ne]; omega
              rw [decide_eq_false (by rintro (g1 | ⟨g2, _⟩); exact e1 g1; exact e2 g2)] at hq
              subst hq
              clear e1 e2
              go_wp2
              go_meet
              case rel => exact ⟨rfl, rfl⟩
        case rest =>
          obtain ⟨rfl, rfl⟩ := hcut
          go_upto_if 40 with (fail)
          go_cut [] (fun wc2 => ∃ (vbn : Value) (bestn : List Int) (costn : Int), Aside0 (spec_RefillWithin.At g Al cl l As cs s B base vbn bestn costn (.slice vset0 set.length vset1) set wc2) ∧ Aside0 (spec_RefillWithin.wl k l s B bestn costn set fr c = some (r1, r2)) ∧ Aside0 (Kept wc wc2 (fun k => k = g)) ∧ Aside0 (Below 0 wc wc2))
          case first =>
            have hq := HQ.out
            have hh := HH.out
            clear HQ HH
            cases q with
            | true =>
              have hz := of_decide_eq_true hq.symm
              rw [if_pos hz] at hh
              have hf3 : wc.frozen? ⟨g, 3, none⟩ = false := blk_frozen HA.out.blk 3
              have hf4 : wc.frozen? ⟨g, 4, none⟩ = false := blk_frozen HA.out.blk 4
              clear hq hz
              have HH := Aside0.mk hh
              clear hh
              go_wp2
              go_meet
              case rel =>
                have hk1 : Kept wc (wc.setCell ⟨g, 3, none⟩ (.slice vset0 set.length vset1)) (fun k => k = g) := Kept.setCell (S := fun k => k = g) (p := ⟨g, 3, none⟩) (Kept.refl wc (fun k => k = g)) (Or.inl rfl) _
                have hk : Kept wc ((wc.setCell ⟨g, 3, none⟩ (.slice vset0 set.length vset1)).setCell ⟨g, 4, none⟩ (.int .i64 c)) (fun k => k = g) := Kept.setCell (S := fun k => k = g) (p := ⟨g, 4, none⟩) hk1 (Or.inl rfl) _
                have hb2 := blk_set (blk_set HA.out.blk 3 (.slice vset0 set.length vset1)) 4 (.int .i64 c)
                simp only [List.setIfInBounds_toArray, List.set_cons_zero, List.set_cons_succ] at hb2
                exact ⟨_, set, c, ⟨HA.out.on hk _ set c hb2 (Kd.R_kept HA.out.set_ hk (fun k h1 h2 => h1 h2))⟩, HH, ⟨hk⟩, ⟨Below.setCell (p := ⟨g, 4, none⟩) (Below.setCell (p := ⟨g, 3, none⟩) (Below.refl 0 wc) (Nat.zero_le _) _) (Nat.zero_le _) _⟩⟩
            | false =>
              have hz := of_decide_eq_false hq.symm
              rw [if_neg hz] at hh
              clear hq hz
              have HH := Aside0.mk hh
              clear hh
              go_wp2
              go_meet
              case rel => exact ⟨_, best, cost, HA, HH, ⟨Kept.refl _ _⟩, ⟨Below.refl _ _⟩⟩
          case rest =>
            obtain ⟨vbn, bestn, costn, HA2, HH2, HK2, HL2⟩ := hcut
            clear HA HH HQ hc1 hc2 hc3 hc4
            go_wp2
            go_loopg [8] k (fun kq v8 w' => ∃ (vb2 : Value) (best2 : List Int) (cost2 i : Int), v8 = .int .i64 i ∧ Aside0 (spec_RefillWithin.At g Al cl l As cs s B base vb2 best2 cost2 (.slice vset0 set.length vset1) set w') ∧ Aside0 (spec_RefillWithin.wl kq l s B best2 cost2 set i c = some (r1, r2)) ∧ Aside0 (kq ≤ k) ∧ Aside0 (Kept wc w' (fun k => k = g)) ∧ Aside0 (Below 0 wc w'))
            case atStart => exact ⟨vbn, bestn, costn, fr, rfl, HA2, HH2, ⟨Nat.le_refl _⟩, ⟨Kept.refl _ _⟩, ⟨Below.refl _ _⟩⟩
            case round =>
              clear HA2 HH2
              obtain ⟨vb2, best2, cost2, i, rfl, HA, HH, HK1, HKK, HLL⟩ := hrel
              cases gk with
              | zero => exact absurd HH.out (by simp [spec_RefillWithin.wl])
              | succ k1 =>
                have h := HH.out
                clear HH
                rw [spec_RefillWithin.wl] at h
                have hc1 := (blk_cell HA.out.blk 1).trans (show _ = some (Value.slice As s.length cs) from rfl)
                by_cases e1 : i < (s.length : Int)
                · rw [if_pos e1] at h
                  have d3 : decide (i < (s.length : Int)) = true := decide_eq_true e1
                  by_cases e2 : 0 ≤ i
                  case neg => rw [if_neg e2] at h; exact absurd h (by simp)
                  rw [if_pos e2] at h
                  by_cases e3 : 0 ≤ rd s i ∧ rd s i < (l.length : Int)
                  case neg => rw [if_neg e3] at h; exact absurd h (by simp)
                  rw [if_pos e3] at h
                  by_cases e4 : set.length < 1000000
                  case neg => rw [if_neg e4] at h; exact absurd h (by simp)
                  rw [if_pos e4] at h
                  obtain ⟨t, A1, h⟩ := Option.bind_eq_some_iff.mp h
                  obtain ⟨⟨b1, c1⟩, A2, h⟩ := Option.bind_eq_some_iff.mp h
                  have HT1 := Aside0.mk A1
                  have HT2 := Aside0.mk A2
                  have HH := Aside0.mk h
                  have E1 := Aside0.mk e1
                  have E2 := Aside0.mk e2
                  have E3 := Aside0.mk e3
                  have E4 := Aside0.mk e4
                  clear A1 A2 h e1 e2 e3 e4
                  obtain ⟨ads, hAs, hx0⟩ := Kd.at_int (Kd.C_kept_now HA.out.short_ (Kept.refl _ _)) i E2.out E1.out
                  obtain ⟨adl, hAl, hy0, hy1, hy2, hy3⟩ := at_T52 (Kd.C_kept_now HA.out.list_ (Kept.refl _ _)) (rd s i) E3.out.1 E3.out.2
                  subst hAs hAl
                  have hc0 := (blk_cell HA.out.blk 0).trans (show _ = some (Value.slice (some adl) l.length cl) from rfl)
                  have p1 := eq_true E2.out
                  have p2 := eq_true E1.out
                  have p3 := eq_true E3.out.1
                  have p4 := eq_true E3.out.2
                  go_upto_region 7 with (fail)
                  refine start_ (n := 30) (S := fun w' => w'.cell? ⟨g, 0, none⟩ = some (.slice (some adl) l.length cl) ∧ w'.cell? ⟨g, 1, none⟩ = some (.slice (some ads) s.length cs) ∧ w'.cell? (ads.add i.toNat) = some (.int .i64 (rd s i))) (ds := [29]) (Hl.ba 30 0) (by kernel_rfl) rfl (by kernel_rfl) ⟨hc0, hc1, hx0⟩ (fun hHeld => ?_)
                  have HKd : Kept wr wr.drew (fun k => k = g) := Kept.drew (Kept.refl wr (fun k => k = g))
                  have HD : spec_RefillWithin.At g (some adl) cl l (some ads) cs s B base vb2 best2 cost2 (.slice vset0 set.length vset1) set wr.drew := HA.out.on HKd vb2 best2 cost2 HA.out.blk (Kd.R_kept HA.out.best_ HKd (fun k h1 h2 => h1 h2))
                  have hz0 : wr.drew.cell? _ = _ := hy0
                  have hz1 : wr.drew.cell? _ = _ := hy1
                  have hz2 : wr.drew.cell? _ = _ := hy2
                  have hz3 : wr.drew.cell? _ = _ := hy3
                  have HHD := Aside0.mk HD
                  have HHK := Aside0.mk HKd
                  have HLd := Aside0.mk (Below.drew (Below.refl 0 wr))
                  clear HD HKd hy0 hy1 hy2 hy3 hx0 hc0 hc1
                  generalize wr.drew = wd at hHeld HHD HHK HLd hz0 hz1 hz2 hz3 ⊢
                  have hc7 := hHeld.2.2
                  refine with_tab rfl (fun HT_ => ?_)
                  refine Hl.pI 0 59 30 1 HT_ rfl rfl ?_; refine Hl.pI 1 60 30 3 HT_ rfl rfl ?_; refine Hl.pI 3 62 30 11 HT_ rfl rfl ?_; refine Hl.pI 4 63 30 27 HT_ rfl rfl ?_; refine Hl.pI 5 64 30 59 HT_ rfl rfl ?_; refine Hl.tJ 6 65 30 123 HT_ rfl rfl hHeld ?_; refine Hl.pI 7 66 30 251 HT_ rfl rfl ?_; refine Hl.pI 8 67 30 507 HT_ rfl rfl ?_; refine Hl.tJ 9 68 30 1019 HT_ rfl rfl hHeld ?_; refine Hl.pI 12 71 30 5115 HT_ rfl rfl ?_; refine Hl.pI 13 72 30 13307 HT_ rfl rfl ?_; refine Hl.pI 14 73 30 29691 HT_ rfl rfl ?_; refine Hl.pI 15 74 30 62459 HT_ rfl rfl ?_; refine Hl.pI 16 75 30 127995 HT_ rfl rfl ?_; refine Hl.pI 17 76 30 259067 HT_ rfl rfl ?_; refine Hl.tJ 18 77 30 521211 HT_ rfl rfl hHeld ?_; refine Hl.pI 19 78 30 1045499 HT_ rfl rfl ?_; refine Hl.pI 20 79 30 2094075 HT_ rfl rfl ?_; refine Hl.pI 21 80 30 4191227 HT_ rfl rfl ?_; refine Hl.tJ 22 81 30 8385531 HT_ rfl rfl hHeld ?_; refine Hl.pI 23 82 30 16774139 HT_ rfl rfl ?_; refine Hl.pI 24 83 30 33551355 HT_ rfl rfl ?_; refine Hl.tJ 25 84 30 67105787 HT_ rfl rfl hHeld ?_; refine Hl.pI 26 85 30 134214651 HT_ rfl rfl ?_
                  have hgd : g < wd.heap.size := blk_lt HHD.out.blk
                  have HG := Aside0.mk hgd
                  clear hgd
                  refine join_ (σ := Value × Option Addr × Nat) 4 (Hl.ba 30 134215679) (fun x => [(61, x.1), (69, .slice x.2.1 1 x.2.2)]) (fun x W2 => (W2.cell? ⟨g, 0, none⟩ = some (.slice (some adl) l.length cl) ∧ W2.cell? ⟨g, 1, none⟩ = some (.slice (some ads) s.length cs) ∧ W2.cell? (ads.add i.toNat) = some (.int .i64 (rd s i))) ∧ Below wd.heap.size wd W2 ∧ Kd.R (Kd.int .i64) 2 W2 wd.heap.size (fun _ => True) x.1 set ∧ Kd.C (Kd.int .i64) W2 x.2.1 1 [rd s i]) ?_ ?_
                  rotate_left
                  · intro hJ
                    have HJ := Aside0.mk hJ
                    clear hJ
                    refine two_ (i := 2) (j := 10) (Ni := some 61) (Nj := some 69) (Hl.ba 30 134214655) (Hl.ba 30 134215675) rfl rfl rfl rfl (two_of HT_.out (by kernel_rfl)) (by decide) (by decide) (fun K hK => ?_) (fun K hK => ?_)
                    · obtain ⟨As2, cs2, hv2, hle2, hC2⟩ := Kd.R_reads HHD.out.set_
                      obtain ⟨rfl, rfl⟩ : vset0 = As2 ∧ vset1 = cs2 := by injection hv2 with h1 h2 h3; exact ⟨h1, h3⟩
                      refine Hl.gs Tryd.func63 (by kernel_rfl) rfl #[.slice vset0 set.length vset1] (by rfl) rfl rfl ?_
                      with_reducible refine (spec_l00Own.calls vset0 vset1 set set wd hC2 hle2 ?side1).mono ?_
                      (case side1 => have := E4.out; unfold spec_l00Own.f; simp only [Option.bind_some]; rw [if_pos (by simp; omega)]; simp)
                      rintro e w2 ⟨v61, rfl, ho, hb⟩
                      refine ⟨_, rfl, ?_⟩
                      have hS2 : w2.cell? ⟨g, 0, none⟩ = some (.slice (some adl) l.length cl) ∧ w2.cell? ⟨g, 1, none⟩ = some (.slice (some ads) s.length cs) ∧ w2.cell? (ads.add i.toNat) = some (.int .i64 (rd s i)) := ⟨pw_cell_below hb hHeld.1, pw_cell_below hb hHeld.2.1, pw_cell_below hb hHeld.2.2⟩
                      have HO := Aside0.mk ho
                      have HB := Aside0.mk hb
                      clear ho hb hv2 hle2 hC2
                      refine hK.out _ _ hS2 (fun hHeld => ?_)
                      clear hK K hS2
                      refine norm_ (a' := ?_) ?_ ?_
                      rotate_left
                      · show Act.put _ (some 61) _ = _
                        simp only [Act.put, Hl.s1, Hl.s2, Hl.s3, i64_w, i32_w]
                        rfl
                      refine one_ (i := 10) (N := some 69) (Hl.ba 30 134215679) rfl rfl (one_of HT_.out (by kernel_rfl)) (by decide) (fun K hK => ?_)
                      refine Kd.R_lit_step (Kd.int .i64) (w0 := w2) w2.heap.size 2 ?hw (N := 69) ?hd (xs := [rd s i]) (inner := [.int .i64 (rd s i)]) (ok := fun _ => True) (okp := fun _ => True) ?hr ?hp (fun _ hk => hk) trivial (Below.refl _ _) (Nat.le_refl _) (by simp) ?_
                      (case hw => rfl)
                      (case hd => rfl)
                      (case hr => first | (go_simp; done) | (go_simp; rfl))
                      (case hp => exact (Reps.one (show Kd.M (Kd.int .i64) _ _ _ (rd s i) [.int .i64 (rd s i)] from rfl) (Reps.none _ _)))
                      intro v69 w3 ho3 hb hg_ hnew_
                      clear hg_ hnew_
                      obtain ⟨A69, c69, rfl, _, hC69⟩ := Kd.R_reads ho3
                      have hS3 : w3.cell? ⟨g, 0, none⟩ = some (.slice (some adl) l.length cl) ∧ w3.cell? ⟨g, 1, none⟩ = some (.slice (some ads) s.length cs) ∧ w3.cell? (ads.add i.toNat) = some (.int .i64 (rd s i)) := ⟨pw_cell_below hb hHeld.1, pw_cell_below hb hHeld.2.1, pw_cell_below hb hHeld.2.2⟩
                      have HO3 := Aside0.mk (Kd.R_below HO.out hb)
                      have HB3 := Aside0.mk (below_step HB.out hb)
                      have HC3 := Aside0.mk hC69
                      clear HO HB hb ho3
                      refine hK.out _ _ hS3 (fun hHeld => ?_)
                      clear hK K hS3
                      refine norm_ (a' := ?_) ?_ ?_
                      rotate_left
                      · show Act.put _ (some 69) _ = _
                        simp only [Act.put, Hl.s1, Hl.s2, Hl.s3, i64_w, i32_w]
                        rfl
                      exact norm_ (by first | (simp only [putAll, Act.put, List.setIfInBounds_toArray, List.set_cons_zero, List.set_cons_succ]; done) | (simp only [putAll, Act.put, List.setIfInBounds_toArray, List.set_cons_zero, List.set_cons_succ]; rfl)) (HJ.out ((v61, A69, c69)) _ ⟨hHeld, HB3.out, HO3.out, HC3.out⟩)
                    · refine Kd.R_lit_step (Kd.int .i64) (w0 := wd) wd.heap.size 2 ?hw (N := 69) ?hd (xs := [rd s i]) (inner := [.int .i64 (rd s i)]) (ok := fun _ => True) (okp := fun _ => True) ?hr ?hp (fun _ hk => hk) trivial (Below.refl _ _) (Nat.le_refl _) (by simp) ?_
                      (case hw => rfl)
                      (case hd => rfl)
                      (case hr => first | (go_simp; done) | (go_simp; rfl))
                      (case hp => exact (Reps.one (show Kd.M (Kd.int .i64) _ _ _ (rd s i) [.int .i64 (rd s i)] from rfl) (Reps.none _ _)))
                      intro v69 w2 ho3 hb hg_ hnew_
                      clear hg_ hnew_
                      obtain ⟨A69, c69, rfl, _, hC69⟩ := Kd.R_reads ho3
                      have hS2 : w2.cell? ⟨g, 0, none⟩ = some (.slice (some adl) l.length cl) ∧ w2.cell? ⟨g, 1, none⟩ = some (.slice (some ads) s.length cs) ∧ w2.cell? (ads.add i.toNat) = some (.int .i64 (rd s i)) := ⟨pw_cell_below hb hHeld.1, pw_cell_below hb hHeld.2.1, pw_cell_below hb hHeld.2.2⟩
                      have HC3 := Aside0.mk hC69
                      have HB := Aside0.mk hb
                      clear ho3 hb hC69
                      refine hK.out _ _ hS2 (fun hHeld => ?_)
                      clear hK K hS2
                      refine norm_ (a' := ?_) ?_ ?_
                      rotate_left
                      · show Act.put _ (some 69) _ = _
                        simp only [Act.put, Hl.s1, Hl.s2, Hl.s3, i64_w, i32_w]
                        rfl
                      refine one_ (i := 2) (N := some 61) (Hl.ba 30 134215679) rfl rfl (one_of HT_.out (by kernel_rfl)) (by decide) (fun K hK => ?_)
                      obtain ⟨As2, cs2, hv2, hle2, hC2⟩ := Kd.R_reads (Kd.R_below HHD.out.set_ HB.out)
                      obtain ⟨rfl, rfl⟩ : vset0 = As2 ∧ vset1 = cs2 := by injection hv2 with h1 h2 h3; exact ⟨h1, h3⟩
                      refine Hl.gs Tryd.func63 (by kernel_rfl) rfl #[.slice vset0 set.length vset1] (by rfl) rfl rfl ?_
                      with_reducible refine (spec_l00Own.calls vset0 vset1 set set w2 hC2 hle2 ?side1).mono ?_
                      (case side1 => have := E4.out; unfold spec_l00Own.f; simp only [Option.bind_some]; rw [if_pos (by simp; omega)]; simp)
                      rintro e w3 ⟨v61, rfl, ho, hb⟩
                      refine ⟨_, rfl, ?_⟩
                      have hS3 : w3.cell? ⟨g, 0, none⟩ = some (.slice (some adl) l.length cl) ∧ w3.cell? ⟨g, 1, none⟩ = some (.slice (some ads) s.length cs) ∧ w3.cell? (ads.add i.toNat) = some (.int .i64 (rd s i)) := ⟨pw_cell_below hb hHeld.1, pw_cell_below hb hHeld.2.1, pw_cell_below hb hHeld.2.2⟩
                      have HO3 := Aside0.mk (Kd.R_lower ho HB.out.size)
                      have HB3 := Aside0.mk (below_step HB.out hb)
                      have HC4 := Aside0.mk (Kd.C_below HC3.out hb)
                      clear ho HB hb hv2 hle2 hC2 HC3
                      refine hK.out _ _ hS3 (fun hHeld => ?_)
                      clear hK K hS3
                      refine norm_ (a' := ?_) ?_ ?_
                      rotate_left
                      · show Act.put _ (some 61) _ = _
                        simp only [Act.put, Hl.s1, Hl.s2, Hl.s3, i64_w, i32_w]
                        rfl
                      exact norm_ (by first | (simp only [putAll, Act.put, List.setIfInBounds_toArray, List.set_cons_zero, List.set_cons_succ]; done) | (simp only [putAll, Act.put, List.setIfInBounds_toArray, List.set_cons_zero, List.set_cons_succ]; rfl)) (HJ.out ((v61, A69, c69)) _ ⟨hHeld, HB3.out, HO3.out, HC4.out⟩)
                  · rintro ⟨v61, A69, c69⟩ w2 ⟨hHeld, hb, ho, hC⟩
                    have HB := Aside0.mk hb
                    have HO := Aside0.mk ho
                    have HC := Aside0.mk hC
                    clear hb ho hC
                    refine norm_ (a' := ?_) ?_ ?_
                    rotate_left
                    · simp only [putAll, Act.put, List.setIfInBounds_toArray, List.set_cons_zero, List.set_cons_succ]
                      rfl
                    refine one_ (i := 11) (N := some 70) (Hl.ba 30 134217727) rfl rfl (one_of HT_.out (by kernel_rfl)) (by decide) (fun K hK => ?_)
                    refine Kd.R_append_rows_step (Kd.int .i64) (w0 := wd) wd.heap.size rfl (.tmp 61) (.tmp 69) 24 2 (.int .i64 0) 8 rfl Tryd.underlying24 info2 rfl (by decide) (by omega) v61 set [rd s i] A69 1 c69 (fun _ => True) (fun _ => False) rfl rfl HO.out HC.out (fun _ _ h => h) (fun _ h => h.elim) (fun _ _ => trivial) HB.out HB.out.size (by have := E4.out; omega) ?_
                    intro v70 w3 ho hb hg hat
                    clear hg hat
                    have HB3 := Aside0.mk hb
                    have HO3 := Aside0.mk ho
                    have hcS := pw_cell_below HB3.out hc7
                    have hS3 : w3.cell? ⟨g, 0, none⟩ = some (.slice (some adl) l.length cl) ∧ w3.cell? ⟨g, 1, none⟩ = some (.slice (some ads) s.length cs) ∧ w3.cell? (ads.add i.toNat) = some (.int .i64 (rd s i)) := ⟨(blk_cell ((hb.block g HG.out).trans HHD.out.blk) 0).trans rfl, (blk_cell ((hb.block g HG.out).trans HHD.out.blk) 1).trans rfl, hcS⟩
                    clear hb ho hcS HO HC HB hHeld
                    refine hK.out _ _ hS3 (fun hHeld => ?_)
                    clear hK K hS3
                    refine norm_ (a' := ?_) ?_ ?_
                    rotate_left
                    · show Act.put _ (some 70) _ = _
                      simp only [Act.put, Hl.s1, Hl.s2, Hl.s3, i64_w, i32_w]
                      rfl
                    refine one_ (i := 27) (N := some 86) (Hl.ba 30 268435455) rfl rfl (one_of HT_.out (by kernel_rfl)) (by decide) (fun K hK => ?_)
                    refine Hl.gs Tryd.func64 (by kernel_rfl) rfl #[.pointer (some (adl.add ((rd s i).toNat * 4)))] (by rfl) rfl rfl ?_
                    with_reducible refine (spec_l23Refill.calls (adl.add ((rd s i).toNat * 4)) _ _ _ _ t w3 (pw_cell_below HB3.out hz0) (pw_cell_below HB3.out hz1) (pw_cell_below HB3.out hz2) (pw_cell_below HB3.out hz3) HT1.out).mono ?_
                    rintro e w4 ⟨rfl, ⟨nd, rfl⟩⟩
                    refine ⟨_, rfl, ?_⟩
                    refine hK.out _ _ hHeld (fun hHeld => ?_)
                    clear hK K
                    refine norm_ (a' := ?_) ?_ ?_
                    rotate_left
                    · show Act.put _ (some 86) _ = _
                      simp only [Act.put, Hl.s1, Hl.s2, Hl.s3, i64_w, i32_w]
                      rfl
                    refine Hl.pI 28 87 30 536870911 HT_ rfl rfl ?_
                    refine last_ (i := 29) (N := some 88) (Hl.ba 30 1073741823) rfl rfl (one_of HT_.out (by kernel_rfl)) (by decide) (fun K hK => ?_)
                    have HAt4 : spec_RefillWithin.At g (some adl) cl l (some ads) cs s B base vb2 best2 cost2 v70 (set ++ [rd s i]) (w3.drewN nd) :=
                      ⟨(HB3.out.block g HG.out).trans HHD.out.blk, Kd.R_drewN (Kd.R_below HHD.out.best_ HB3.out) nd, Kd.R_lower (Kd.R_mono (Kd.R_bound (Kd.R_drewN HO3.out nd)) (fun k hk => by have h1 := hk.2.1; have h2 := HG.out; omega)) HHD.out.base_, Kd.C_kept_step HHD.out.list_ (Kept.drewN (Kept.of_below HB3.out _) nd), Kd.C_kept_step HHD.out.short_ (Kept.drewN (Kept.of_below HB3.out _) nd), Nat.le_trans HHD.out.base_ HB3.out.size⟩
                    refine Hl.gs Tryd.func39 (by kernel_rfl) rfl #[.pointer (some ⟨g, 0, none⟩), v70, .int .i64 (wrap64 (i + 1)), .int .i64 (wrap64 (c + t))] (by rfl) rfl rfl ?_
                    with_reducible refine (ih k1 (by have := HK1.out; have := HK.out; omega) vb2 best2 cost2 v70 (set ++ [rd s i]) (wrap64 (i + 1)) (wrap64 (c + t)) b1 c1 (w3.drewN nd) HAt4 HT2.out).mono ?_
                    rintro e w5 ⟨rfl, ⟨vb5, hb5, hR5⟩, hk5, hl5⟩
                    refine ⟨_, rfl, ?_⟩
                    have HA5 := Aside0.mk ((HHD.out.on ((Kept.drewN (Kept.of_below HB3.out _) nd).then_ hk5 (fun _ h => .inl h)) vb5 b1 c1 hb5 hR5))
                    have HK5 := Aside0.mk ((Kept.drewN (Kept.of_below HB3.out (fun k => k = g)) nd).then_ hk5 (fun _ h => .inl h))
                    have HL5 := Aside0.mk (((HB3.out.mono (Nat.zero_le _)).trans (pw_below_drewN (Below.refl 0 w3) nd)).trans hl5)
                    clear HAt4 hb5 hR5 hk5 hl5 HO3 HB3
                    refine hK.out _ _ ?_
                    clear hK K
                    refine norm_ (a' := ?_) ?_ ?_
                    rotate_left
                    · show Act.put _ (some 88) _ = _
                      simp only [Act.put, Hl.s1, Hl.s2, Hl.s3, i64_w, i32_w]
                      rfl
                    refine done_ (done_of HT_.out (by kernel_rfl)) ?_
                    try go_wp2
                    go_roundg k1
                    case measure => have := HK1.out; omega
                    case rel => exact ⟨vb5, b1, c1, wrap64 (i + 1), rfl, HA5, HH, ⟨by have := HK1.out; omega⟩, ⟨(HKK.out.then_ HHK.out (fun _ h => .inl h)).then_ HK5.out (fun _ h => .inl h)⟩, ⟨(HLL.out.trans HLd.out).trans HL5.out⟩⟩
                · rw [if_neg e1] at h
                  have d3 : decide (i < (s.length : Int)) = false := decide_eq_false e1
                  obtain ⟨rfl, rfl⟩ := Prod.mk.inj (Option.some.inj h)
                  clear h e1
                  go_wp2
                  go_end0
                  exact ⟨rfl, ⟨_, HA.out.blk, HA.out.best_⟩, HK2.out.then_ HKK.out (fun _ h => .inl h), HL2.out.trans HLL.out⟩
set_option maxHeartbeats 8000000 in
set_option maxRecDepth 100000 in
theorem spec_RefillWithin.calls (k : Nat) (A0 : Option Addr) (c0 : Nat) (l0 : List S52) (a1 : Int) (r1 : List Int) (r2 r3 : Int) (w : World) (hr0 : Kd.C k52 w A0 l0.length l0) (hc0 : l0.length ≤ c0) (h : spec_RefillWithin.f k l0 a1 = some (r1, r2, r3)) :
    Calls Tryd.prog 9 #[.slice A0 l0.length c0, .int .i64 a1] w fun e w' => ∃ v0_ : Value, e = .returned (.tuple #[v0_, .int .i64 r2, .int .i64 r3]) ∧ Kd.R (Kd.int .i64) 2 w' w.heap.size (fun _ => True) v0_ r1 ∧ Below w.heap.size w w' := by
  have HR0 := Hl.am hr0
  have HC0 := Hl.am hc0
  clear hr0 hc0
  have HB := Hl.am (Below.refl w.heap.size w)
  unfold spec_RefillWithin.f at h
  obtain ⟨t1, A1, h⟩ := Option.bind_eq_some_iff.mp h
  have A1 := Aside0.mk A1
  by_cases c1 : t1 = true
  case neg =>
    rw [if_neg c1] at h
    simp only [Option.some.injEq, Prod.mk.injEq] at h
    obtain ⟨rfl, rfl, rfl⟩ := h
    replace c1 := Bool.eq_false_iff.mpr c1
    subst c1
    go_enter Tryd.func9, Tryd.ntmps9
    go_wp2_with (((with_reducible refine gate_callee (f := 36) rfl ?_); refine Hl.gl (some 10) rfl rfl Tryd.func36 (by kernel_rfl) rfl #[.slice A0 l0.length c0] rfl ?_; (with_reducible refine (spec_l23Ok.calls k _ _ l0 false _ ?side1 ?side2 A1.out).mono ?_); (case side1 => exact Hl.cc HR0.out); (case side2 => exact HC0.out); rintro e w' ⟨rfl, ⟨nd, rfl⟩⟩; refine ⟨_, rfl, ?_⟩))
    go_ret3
    exact ⟨_, rfl, Kd.R_nil _ _ _ _ _, Hl.bb HB⟩
  rw [if_pos c1] at h
  subst c1
  obtain ⟨t2, A2, h⟩ := Option.bind_eq_some_iff.mp h
  have A2 := Aside0.mk A2
  by_cases c2 : t2 = true
  case neg =>
    rw [if_neg c2] at h
    simp only [Option.some.injEq, Prod.mk.injEq] at h
    obtain ⟨rfl, rfl, rfl⟩ := h
    replace c2 := Bool.eq_false_iff.mpr c2
    subst c2
    go_enter Tryd.func9, Tryd.ntmps9
    go_wp2_with (first | ((with_reducible refine gate_callee (f := 36) rfl ?_); refine Hl.gl (some 10) rfl rfl Tryd.func36 (by kernel_rfl) rfl #[.slice A0 l0.length c0] rfl ?_; (with_reducible refine (spec_l23Ok.calls k _ _ l0 true _ ?side1 ?side2 A1.out).mono ?_); (case side1 => exact Hl.cc HR0.out); (case side2 => exact HC0.out); rintro e w' ⟨rfl, ⟨nd, rfl⟩⟩; refine ⟨_, rfl, ?_⟩) | ((with_reducible refine gate_callee (f := 37) rfl ?_); refine Hl.gl (some 13) rfl rfl Tryd.func37 (by kernel_rfl) rfl #[.int .i64 a1, .int .i64 0, .int .i64 100000000] rfl ?_; (with_reducible refine (spec_l00In.calls a1 0 100000000 false _ A2.out).mono ?_); rintro e w' ⟨rfl, ⟨nd2, rfl⟩⟩; refine ⟨_, rfl, ?_⟩))
    go_ret3
    exact ⟨_, rfl, Kd.R_nil _ _ _ _ _, Hl.bb HB⟩
  rw [if_pos c2] at h
  subst c2
  obtain ⟨s, A3, h⟩ := Option.bind_eq_some_iff.mp h
  have A3 := Aside0.mk A3
  by_cases c3 : (s.length : Int) > 10
  · rw [if_pos c3] at h
    simp only [Option.some.injEq, Prod.mk.injEq] at h
    obtain ⟨rfl, rfl, rfl⟩ := h
    have d1 : decide ((s.length : Int) > 10) = true := decide_eq_true c3
    have d2 : decide ((10 : Int) < (s.length : Int)) = true := decide_eq_true c3
    have d3 : decide (10 < s.length) = true := decide_eq_true (by omega)
    clear c3
    go_enter Tryd.func9, Tryd.ntmps9
    go_wp2_with (first | ((with_reducible refine gate_callee (f := 36) rfl ?_); refine Hl.gl (some 10) rfl rfl Tryd.func36 (by kernel_rfl) rfl #[.slice A0 l0.length c0] rfl ?_; (with_reducible refine (spec_l23Ok.calls k _ _ l0 true _ ?side1 ?side2 A1.out).mono ?_); (case side1 => exact Hl.cc HR0.out); (case side2 => exact HC0.out); rintro e w' ⟨rfl, ⟨nd, rfl⟩⟩; refine ⟨_, rfl, ?_⟩) | ((with_reducible refine gate_callee (f := 37) rfl ?_); refine Hl.gl (some 13) rfl rfl Tryd.func37 (by kernel_rfl) rfl #[.int .i64 a1, .int .i64 0, .int .i64 100000000] rfl ?_; (with_reducible refine (spec_l00In.calls a1 0 100000000 true _ A2.out).mono ?_); rintro e w' ⟨rfl, ⟨nd2, rfl⟩⟩; refine ⟨_, rfl, ?_⟩) | ((with_reducible refine gate_callee (f := 38) rfl ?_); refine Hl.gl (some 16) rfl rfl Tryd.func38 (by kernel_rfl) rfl #[.slice A0 l0.length c0] rfl ?_; (with_reducible refine (spec_l23Short.calls k _ _ l0 s _ ?side1 ?side2 A3.out).mono ?_); (case side1 => exact Hl.cc HR0.out); (case side2 => exact HC0.out); rintro e w5 ⟨vs, rfl, ho0, hb⟩; obtain ⟨As, cs, rfl, hcs, _⟩ := Kd.R_reads ho0; refine ⟨_, rfl, ?_⟩; have HO := Hl.am (Kd.R_lower ho0 (below_size (Hl.bb HB))); have HCS := Hl.am hcs; replace HB := Hl.am (below_step (Hl.bb HB) hb); clear hb ho0 hcs))
    go_ret3
    exact ⟨_, rfl, Kd.R_nil _ _ _ _ _, Hl.bb HB⟩
  · rw [if_neg c3] at h
    obtain ⟨⟨b, c⟩, A4, h⟩ := Option.bind_eq_some_iff.mp h
    simp only [Option.some.injEq, Prod.mk.injEq] at h
    obtain ⟨rfl, rfl, rfl⟩ := h
    have A4 := Aside0.mk A4
    have d1 : decide ((s.length : Int) > 10) = false := decide_eq_false c3
    have d2 : decide ((10 : Int) < (s.length : Int)) = false := decide_eq_false c3
    have d3 : decide (10 < s.length) = false := decide_eq_false (by omega)
    clear c3
    go_enter Tryd.func9, Tryd.ntmps9
    go_upto_region 8 with (first | ((with_reducible refine gate_callee (f := 36) rfl ?_); refine Hl.gl (some 10) rfl rfl Tryd.func36 (by kernel_rfl) rfl #[.slice A0 l0.length c0] rfl ?_; (with_reducible refine (spec_l23Ok.calls k _ _ l0 true _ ?side1 ?side2 A1.out).mono ?_); (case side1 => exact Hl.cc HR0.out); (case side2 => exact HC0.out); rintro e w' ⟨rfl, ⟨nd, rfl⟩⟩; refine ⟨_, rfl, ?_⟩) | ((with_reducible refine gate_callee (f := 37) rfl ?_); refine Hl.gl (some 13) rfl rfl Tryd.func37 (by kernel_rfl) rfl #[.int .i64 a1, .int .i64 0, .int .i64 100000000] rfl ?_; (with_reducible refine (spec_l00In.calls a1 0 100000000 true _ A2.out).mono ?_); rintro e w' ⟨rfl, ⟨nd2, rfl⟩⟩; refine ⟨_, rfl, ?_⟩) | ((with_reducible refine gate_callee (f := 38) rfl ?_); refine Hl.gl (some 16) rfl rfl Tryd.func38 (by kernel_rfl) rfl #[.slice A0 l0.length c0] rfl ?_; (with_reducible refine (spec_l23Short.calls k _ _ l0 s _ ?side1 ?side2 A3.out).mono ?_); (case side1 => exact Hl.cc HR0.out); (case side2 => exact HC0.out); rintro e w5 ⟨vs, rfl, ho0, hb⟩; obtain ⟨As, cs, rfl, hcs, _⟩ := Kd.R_reads ho0; refine ⟨_, rfl, ?_⟩; have HO := Hl.am (Kd.R_lower ho0 (below_size (Hl.bb HB))); have HCS := Hl.am hcs; replace HB := Hl.am (below_step (Hl.bb HB) hb); clear hb ho0 hcs))
    go_upto_region 9 with (first | ((with_reducible refine gate_dst (N := 23) rfl ?_); refine Kd.R_lit (Kd.int .i64) _ 2 ?hg (N := 23) ?hd (xs := ([] : List Int)) (inner := []) (ok := fun _ => True) (okp := fun _ => True) ?hr ?hp (fun _ hk => hk) trivial (Below.refl _ _) (Nat.le_refl _) (by simp) ?_; (case hd => rfl); (case hg => rfl); (case hr => first | (go_simp; done) | (go_simp; rfl)); (case hp => exact (Reps.none _ _)); intro v23 w23 ho3 hb hg_ hnew_; clear hg_ hnew_; obtain ⟨A23, c23, rfl, _, _⟩ := Kd.R_reads ho3; have HO2 := Hl.am (Kd.R_below HO.out hb); have HV2 := Hl.am (Kd.R_lower ho3 (below_size (Hl.bb HB))); have HB0 := Hl.am (below_step (Hl.bb HB) hb); clear ho3 hb) | ((with_reducible refine gate_dst (N := 25) rfl ?_); refine box_event ?hg (N := 25) ?hd (cs := #[.slice A0 l0.length c0, .slice As s.length cs, .int .i64 a1, .slice A23 0 c23, .int .i64 0]) (t := 60) ?hr ?_; (case hd => rfl); (case hg => rfl); (case hr => first | (go_simp; done) | (go_simp; rfl)); intro g hg w7 hbk hb; have HG := Hl.am hg; have HK7 := Hl.am hbk; have HO3 := Hl.am (Kd.R_below (Kd.R_bound HO2.out) hb); have HV3 := Hl.am (Kd.R_below (Kd.R_bound HV2.out) hb); have HB1 := Hl.am (below_step HB0.out hb); have HL7 := Hl.am hb; clear hg hbk hb))
    go_upto_region 10 with (first | ((with_reducible refine gate_dst (N := 27) rfl ?_); refine Kd.R_lit (Kd.int .i64) _ 2 ?hg (N := 27) ?hd (xs := ([] : List Int)) (inner := []) (ok := fun _ => True) (okp := fun _ => True) ?hr ?hp (fun _ hk => hk) trivial (Below.refl _ _) (Nat.le_refl _) (by simp) ?_; (case hd => rfl); (case hg => rfl); (case hr => first | (go_simp; done) | (go_simp; rfl)); (case hp => exact (Reps.none _ _)); intro v27 w27 ho3 hb hg_ hnew_; clear hg_ hnew_; obtain ⟨A27, c27, rfl, _, _⟩ := Kd.R_reads ho3; have HO4 := Hl.am (Kd.R_below HO3.out hb); have HV4 := Hl.am (Kd.R_below HV3.out hb); have HS4 := Hl.am ho3; have HK8 := Hl.am ((hb.block g (blk_lt HK7.out)).trans HK7.out); have HB2 := Hl.am (below_step HB1.out hb); have HGL := Hl.am (blk_lt HK7.out); clear ho3 hb) | ((with_reducible refine gate_callee (f := 39) rfl ?_); have HAt : spec_RefillWithin.At g A0 c0 l0 As cs s a1 w.heap.size (.slice A23 0 c23) [] 0 (.slice A27 0 c27) [] w27 := ⟨HK8.out, Kd.R_mono HV4.out (fun k hk => by have h1 := hk.2.2.1; have h2 := HG.out; omega), Kd.R_lower (Kd.R_mono (Kd.R_bound HS4.out) (fun k hk => by have h1 := hk.2.1; have h2 := HGL.out; omega)) HB1.out.size, Kd.C_kept_came (Kd.heap_iso _ (Kd.heap_pair Kd.heap_string (Kd.heap_pair (Kd.heap_int _) (Kd.heap_pair (Kd.heap_int _) (Kd.heap_int _))))) HR0.out HB2.out (fun k hk => by have h1 := HG.out; have h2 := HB0.out.size; omega), Kd.C_kept_own HO4.out (fun k hk => by have h1 := hk.2.2.1; have h2 := HG.out; omega), HB2.out.size⟩; refine Hl.gl (some 28) rfl rfl Tryd.func39 (by kernel_rfl) rfl #[.pointer (some ⟨g, 0, none⟩), .slice A27 0 c27, .int .i64 0, .int .i64 0] rfl ?_; (with_reducible refine (spec_RefillWithin.walk g A0 c0 l0 As cs s a1 HC0.out HCS.out w.heap.size k k (Nat.le_refl _) (.slice A23 0 c23) [] 0 (.slice A27 0 c27) [] 0 0 b c w27 HAt A4.out).mono ?_); rintro e w9 ⟨rfl, ⟨vb, hb9, hR9⟩, hk9, hl9⟩; refine ⟨_, rfl, ?_⟩; have HB9 := Hl.am hb9; have HR9 := Hl.am hR9; have HK9 := Hl.am hk9; have HL9 := Hl.am hl9; clear HAt hb9 hR9 hk9 hl9))
    have hc3 : w9.cell? ⟨g, 3, none⟩ = some vb := (blk_cell HB9.out 3).trans rfl
    have hc4 : w9.cell? ⟨g, 4, none⟩ = some (.int .i64 c) := (blk_cell HB9.out 4).trans rfl
    go_wp2
    repeat (go_quiet (fail); try go_wp2)
    go_ret3
    have hBW : Below w.heap.size w w9 := ⟨HL9.out.os.trans HB2.out.os, HL9.out.tape.trans HB2.out.tape, HL9.out.output.trans HB2.out.output, Nat.le_trans HB2.out.size HK9.out.1, fun q hq => (HK9.out.2 q (Nat.lt_of_lt_of_le hq HB2.out.size) (fun e => by have h1 := HG.out; have h2 := HB0.out.size; omega)).trans (HB2.out.block q hq)⟩
    have HBW := Hl.am hBW
    have HRW := Hl.am (Kd.R_mono (ok' := fun _ => True) HR9.out (fun _ _ => trivial))
    exact ⟨vb, rfl, Hl.rr HRW, Hl.bb HBW⟩

/-! ### laws_toItem: function 40 -/
def laws_toItem.f (a0_0 : ByteArray) (a0_1 : Int) (a0_2 : Int) (a0_3 : Int) : Option (ByteArray × Int × Int × Int) := some (a0_0, a0_1, a0_2, a0_3)
set_option maxHeartbeats 8000000 in
set_option maxRecDepth 100000 in
theorem laws_toItem.calls (a0_0 : ByteArray) (a0_1 : Int) (a0_2 : Int) (a0_3 : Int) (r1 : ByteArray) (r2 : Int) (r3 : Int) (r4 : Int) (w : World) (h : laws_toItem.f a0_0 a0_1 a0_2 a0_3 = some (r1, r2, r3, r4)) :
  Calls Tryd.prog 40 #[.agg #[.string a0_0, .int .i64 a0_1, .int .i64 a0_2, .int .i64 a0_3]] w fun e w' => e = .returned (.agg #[.string r1, .int .i64 r2, .int .i64 r3, .int .i64 r4]) ∧ Below w.heap.size w w' := by
 have hu55 := Tryd.underlying55
 have hu52 := Tryd.underlying52
 have HB := Hl.am (Below.refl w.heap.size w)
 have H : (some (a0_0, a0_1, a0_2, a0_3)) = some (r1, r2, r3, r4) := h
 clear h
 simp only [Option.some.injEq, Prod.mk.injEq] at H
 obtain ⟨rfl, rfl, rfl, rfl⟩ := H
 go_enter Tryd.func40, Tryd.ntmps40
 go_wp2_with (first | ((with_reducible refine gate_dst (N := 1) rfl ?_); refine box_event ?hg (N := 1) ?hd (cs := #[.string a0_0, .int .i64 a0_1, .int .i64 a0_2, .int .i64 a0_3]) (t := 55) ?hr ?_; (case hd => rfl); (case hg => rfl); (case hr => first | (go_simp; done) | (go_simp; rfl)); intro gb130 hg w2 hbox hb; have BK130 := Hl.am (hbox); have GW130 := Hl.am ((by rw [hg]; exact (below_size (Hl.bb HB)) : w.heap.size ≤ gb130)); have GE130 := Hl.am ((by rw [hg]; exact (below_size (Hl.bb HB)) : w.heap.size ≤ gb130)); replace HB := Hl.am (below_step (Hl.bb HB) hb); clear hb hbox hg) | ((with_reducible refine gate_dst (N := 2) rfl ?_); refine box_event ?hg (N := 2) ?hd (cs := #[.string (⟨#[]⟩ : ByteArray), .int .i64 0, .int .i64 0, .int .i64 0]) (t := 52) ?hr ?_; (case hd => rfl); (case hg => rfl); (case hr => first | (go_simp; done) | (go_simp; rfl)); intro gb131 hg w3 hbox hb; have BK131 := Hl.am (hbox); have GW131 := Hl.am ((by rw [hg]; exact (below_size (Hl.bb HB)) : w.heap.size ≤ gb131)); have GE131 := Hl.am ((by rw [hg]; exact (below_size (Hl.bb HB)) : w.heap.size ≤ gb131)); replace HB := Hl.am (below_step (Hl.bb HB) hb); have NB130_131 := Hl.am ((by rw [hg]; exact Nat.ne_of_lt (blk_lt (g := gb130) (o := .cells #[.string a0_0, .int .i64 a0_1, .int .i64 a0_2, .int .i64 a0_3] 55 (0, 0)) (Hl.kb BK130)) : gb130 ≠ gb131)); have NB131_130 := Hl.am ((by rw [hg]; exact Nat.ne_of_gt (blk_lt (g := gb130) (o := .cells #[.string a0_0, .int .i64 a0_1, .int .i64 a0_2, .int .i64 a0_3] 55 (0, 0)) (Hl.kb BK130)) : gb131 ≠ gb130)); replace BK130 := Hl.am (blk_below (g := gb130) (o := .cells #[.string a0_0, .int .i64 a0_1, .int .i64 a0_2, .int .i64 a0_3] 55 (0, 0)) (Hl.kb BK130) hb); clear hb hbox hg) | ((with_reducible refine gate_dst (N := 3) rfl ?_); refine box_event ?hg (N := 3) ?hd (cs := #[.string (⟨#[]⟩ : ByteArray), .int .i64 0, .int .i64 0, .int .i64 0]) (t := 52) ?hr ?_; (case hd => rfl); (case hg => rfl); (case hr => first | (go_simp; done) | (go_simp; rfl)); intro gb132 hg w4 hbox hb; have BK132 := Hl.am (hbox); have GW132 := Hl.am ((by rw [hg]; exact (below_size (Hl.bb HB)) : w.heap.size ≤ gb132)); have GE132 := Hl.am ((by rw [hg]; exact (below_size (Hl.bb HB)) : w.heap.size ≤ gb132)); replace HB := Hl.am (below_step (Hl.bb HB) hb); have NB130_132 := Hl.am ((by rw [hg]; exact Nat.ne_of_lt (blk_lt (g := gb130) (o := .cells #[.string a0_0, .int .i64 a0_1, .int .i64 a0_2, .int .i64 a0_3] 55 (0, 0)) (Hl.kb BK130)) : gb130 ≠ gb132)); have NB132_130 := Hl.am ((by rw [hg]; exact Nat.ne_of_gt (blk_lt (g := gb130) (o := .cells #[.string a0_0, .int .i64 a0_1, .int .i64 a0_2, .int .i64 a0_3] 55 (0, 0)) (Hl.kb BK130)) : gb132 ≠ gb130)); replace BK130 := Hl.am (blk_below (g := gb130) (o := .cells #[.string a0_0, .int .i64 a0_1, .int .i64 a0_2, .int .i64 a0_3] 55 (0, 0)) (Hl.kb BK130) hb); have NB131_132 := Hl.am ((by rw [hg]; exact Nat.ne_of_lt (blk_lt (g := gb131) (o := .cells #[.string (⟨#[]⟩ : ByteArray), .int .i64 0, .int .i64 0, .int .i64 0] 52 (0, 0)) (Hl.kb BK131)) : gb131 ≠ gb132)); have NB132_131 := Hl.am ((by rw [hg]; exact Nat.ne_of_gt (blk_lt (g := gb131) (o := .cells #[.string (⟨#[]⟩ : ByteArray), .int .i64 0, .int .i64 0, .int .i64 0] 52 (0, 0)) (Hl.kb BK131)) : gb132 ≠ gb131)); replace BK131 := Hl.am (blk_below (g := gb131) (o := .cells #[.string (⟨#[]⟩ : ByteArray), .int .i64 0, .int .i64 0, .int .i64 0] 52 (0, 0)) (Hl.kb BK131) hb); clear hb hbox hg; have hnb5 := NB130_131.out; have hnc5 := NB131_130.out; have hnb6 := NB130_132.out; have hnc6 := NB132_130.out; have hcz7_0 : w4.cell? ⟨gb130, 0, none⟩ = some (.string a0_0) := (blk_cell BK130.out 0).trans rfl; have hcz7_1 : w4.cell? ⟨gb130, 1, none⟩ = some (.int .i64 a0_1) := (blk_cell BK130.out 1).trans rfl; have hcz7_2 : w4.cell? ⟨gb130, 2, none⟩ = some (.int .i64 a0_2) := (blk_cell BK130.out 2).trans rfl; have hcz7_3 : w4.cell? ⟨gb130, 3, none⟩ = some (.int .i64 a0_3) := (blk_cell BK130.out 3).trans rfl; have hfz7_0 := blk_frozen BK130.out 0; have hfz7_1 := blk_frozen BK130.out 1; have hfz7_2 := blk_frozen BK130.out 2; have hfz7_3 := blk_frozen BK130.out 3; have hnb8 := NB132_131.out; have hnc8 := NB131_132.out; have hcz9_0 : w4.cell? ⟨gb132, 0, none⟩ = some (.string (⟨#[]⟩ : ByteArray)) := (blk_cell BK132.out 0).trans rfl; have hcz9_1 : w4.cell? ⟨gb132, 1, none⟩ = some (.int .i64 0) := (blk_cell BK132.out 1).trans rfl; have hcz9_2 : w4.cell? ⟨gb132, 2, none⟩ = some (.int .i64 0) := (blk_cell BK132.out 2).trans rfl; have hcz9_3 : w4.cell? ⟨gb132, 3, none⟩ = some (.int .i64 0) := (blk_cell BK132.out 3).trans rfl; have hfz9_0 := blk_frozen BK132.out 0; have hfz9_1 := blk_frozen BK132.out 1; have hfz9_2 := blk_frozen BK132.out 2; have hfz9_3 := blk_frozen BK132.out 3; have hcz10_0 : w4.cell? ⟨gb131, 0, none⟩ = some (.string (⟨#[]⟩ : ByteArray)) := (blk_cell BK131.out 0).trans rfl; have hcz10_1 : w4.cell? ⟨gb131, 1, none⟩ = some (.int .i64 0) := (blk_cell BK131.out 1).trans rfl; have hcz10_2 : w4.cell? ⟨gb131, 2, none⟩ = some (.int .i64 0) := (blk_cell BK131.out 2).trans rfl; have hcz10_3 : w4.cell? ⟨gb131, 3, none⟩ = some (.int .i64 0) := (blk_cell BK131.out 3).trans rfl; have hfz10_0 := blk_frozen BK131.out 0; have hfz10_1 := blk_frozen BK131.out 1; have hfz10_2 := blk_frozen BK131.out 2; have hfz10_3 := blk_frozen BK131.out 3))
 refine bodyPost_ret (results_cell_row rfl _ _ gb131 52 #[.string a0_0, .int .i64 a0_1, .int .i64 a0_2, .int .i64 a0_3] (0, 0) _ rfl (by (with_reducible repeat (first | refine blk_drewN ?_ _ | refine blk_drew ?_ | refine blk_alloc ?_ _)); refine blk_put (cs := #[.string a0_0, .int .i64 a0_1, .int .i64 a0_2, .int .i64 0]) ?_ 3 _ rfl; (with_reducible repeat (first | refine blk_drewN ?_ _ | refine blk_drew ?_ | refine blk_alloc ?_ _)); refine blk_put (cs := #[.string a0_0, .int .i64 a0_1, .int .i64 0, .int .i64 0]) ?_ 2 _ rfl; (with_reducible repeat (first | refine blk_drewN ?_ _ | refine blk_drew ?_ | refine blk_alloc ?_ _)); refine blk_put (cs := #[.string a0_0, .int .i64 0, .int .i64 0, .int .i64 0]) ?_ 1 _ rfl; (with_reducible repeat (first | refine blk_drewN ?_ _ | refine blk_drew ?_ | refine blk_alloc ?_ _)); refine blk_put (cs := #[.string (⟨#[]⟩ : ByteArray), .int .i64 0, .int .i64 0, .int .i64 0]) ?_ 0 _ rfl; (with_reducible repeat (first | refine blk_drewN ?_ _ | refine blk_drew ?_ | refine blk_alloc ?_ _)); refine blk_far ?_ NB131_132.out _; (with_reducible repeat (first | refine blk_drewN ?_ _ | refine blk_drew ?_ | refine blk_alloc ?_ _)); refine blk_far ?_ NB131_132.out _; (with_reducible repeat (first | refine blk_drewN ?_ _ | refine blk_drew ?_ | refine blk_alloc ?_ _)); refine blk_far ?_ NB131_132.out _; (with_reducible repeat (first | refine blk_drewN ?_ _ | refine blk_drew ?_ | refine blk_alloc ?_ _)); refine blk_far ?_ NB131_132.out _; (with_reducible repeat (first | refine blk_drewN ?_ _ | refine blk_drew ?_ | refine blk_alloc ?_ _)); exact BK131.out) Tryd.underlying52 rfl (by kernel_rfl)) rfl ?_
 exact ⟨by first | rfl | (simp [errW_none, errW_some] <;> rfl) | (simp [*, errW_none, errW_some] <;> rfl), Hl.bb HB⟩

/-! ### laws_toItemS: function 10 -/
def laws_toItemS.l0 : Nat → List (S55) → List (S52) → Int → Option ((List (S52)))
 | 0, _, _, _ => none
 | k + 1, x0, x3, x4 => if x4 < (x0.length : Int) then (if 0 ≤ x4 then ((laws_toItem.f ((rd_T55 x0 x4).f0) ((rd_T55 x0 x4).f1) ((rd_T55 x0 x4).f2) ((rd_T55 x0 x4).f3)).bind fun bt137 => (if x4 < (x3.length : Int) then (laws_toItemS.l0 k x0 (x3.set (x4 : Int).toNat (⟨bt137.1, bt137.2.1, bt137.2.2.1, bt137.2.2.2⟩ : S52)) (wrap64 (x4 + 1))) else (none))) else (none)) else (some x3)
def laws_toItemS.f (k : Nat) (l0 : List (S55)) : Option ((List (S52))) := if 0 ≤ (l0.length : Int) then (if ((l0.length : Int) : Int).toNat ≤ 7036874417766 then (laws_toItemS.l0 k l0 (List.replicate ((l0.length : Int) : Int).toNat z52) 0) else (none)) else (none)
theorem laws_toItemS.mono_l : ∀ k, (∀ y0 y1 y2, LeO (laws_toItemS.l0 k y0 y1 y2) (laws_toItemS.l0 (k + 1) y0 y1 y2))
 | 0 => fun _ _ _ r h => by simp [laws_toItemS.l0] at h
 | k + 1 => by
  have ih0 := laws_toItemS.mono_l k
  ·
   intro y0 y1 y2
   unfold laws_toItemS.l0
   repeat' first
   | (with_reducible exact ih0 _ _ _)
   | (with_reducible exact LeO.refl _)
   | (with_reducible exact LeO.none _)
   | (with_reducible refine LeO.ite ?_ ?_)
   | (with_reducible refine LeO.bind ?_ (fun _ => ?_))
   | exact ih0 _ _ _
   | exact LeO.none _
   | refine LeO.ite ?_ ?_
   | refine LeO.bind ?_ (fun _ => ?_)
theorem laws_toItemS.mono : ∀ a0 k, LeO (laws_toItemS.f k a0) (laws_toItemS.f (k + 1) a0) := by
 intro a0 k
 have ih0 := laws_toItemS.mono_l k
 unfold laws_toItemS.f
 repeat' first
   | (with_reducible exact ih0 _ _ _)
   | (with_reducible exact LeO.refl _)
   | (with_reducible exact LeO.none _)
   | (with_reducible refine LeO.ite ?_ ?_)
   | (with_reducible refine LeO.bind ?_ (fun _ => ?_))
   | exact ih0 _ _ _
   | exact LeO.none _
   | refine LeO.ite ?_ ?_
   | refine LeO.bind ?_ (fun _ => ?_)
set_option maxHeartbeats 8000000 in
set_option maxRecDepth 100000 in
theorem laws_toItemS.calls (k : Nat) (A0 : Option Addr) (c0 : Nat) (l0 : List (S55)) (r : List (S52)) (w : World) (hr0 : Kd.C k55 w A0 l0.length l0) (hc0 : l0.length ≤ c0) (h : laws_toItemS.f k l0 = some r) :
  Calls Tryd.prog 10 #[.slice A0 l0.length c0] w fun e w' => ∃ v0_ : Value, e = .returned (v0_) ∧ Kd.R k52 52 w' w.heap.size (fun _ => True) v0_ r ∧ Below w.heap.size w w' := by
 have hu55 := Tryd.underlying55
 have hu52 := Tryd.underlying52
 have HR0 := Hl.am hr0
 have HC0 := Hl.am hc0
 clear hr0 hc0
 have HB := Hl.am (Below.refl w.heap.size w)
 have H : (if 0 ≤ (l0.length : Int) then (if ((l0.length : Int) : Int).toNat ≤ 7036874417766 then (laws_toItemS.l0 k l0 (List.replicate ((l0.length : Int) : Int).toNat z52) 0) else (none)) else (none)) = some r := h
 clear h
 by_cases c2 : 0 ≤ (l0.length : Int)
 ·
  rw [if_pos c2] at H
  have c2b0 := eq_true c2
  have c2b1 : decide (0 ≤ (l0.length : Int)) = true := decide_eq_true c2
  clear c2
  by_cases c3 : ((l0.length : Int) : Int).toNat ≤ 7036874417766
  ·
   rw [if_pos c3] at H
   have c3b0 := eq_true c3
   have c3b1 : decide (((l0.length : Int) : Int).toNat ≤ 7036874417766) = true := decide_eq_true c3
   clear c3
   obtain ⟨y133, hy133⟩ : ∃ y_ : List (S52), y_ = (List.replicate ((l0.length : Int) : Int).toNat z52) := ⟨_, rfl⟩
   replace H : (laws_toItemS.l0 k l0 y133 0) = some r := by first | (rw [hy133]; with_reducible exact H) | (have H2_ := (Option.bind_some _ _).symm.trans H; rw [hy133]; with_reducible exact H2_) | (have H2_ := (Option.bind_some _ _).symm.trans H; with_reducible exact H2_) | with_reducible exact H | (rw [hy133]; exact H) | exact H
   have Ny133 := Hl.am hy133
   clear hy133
   have H' := Hl.am H
   clear H
   go_enter Tryd.func10, Tryd.ntmps10
   go_wp2_with (first | ((with_reducible refine gate_dst (N := 7) rfl ?_); refine Kd.R_make k52 _ 52 rfl (N := 7) rfl 27 _ _ rfl (l0.length : Int) rfl rfl Tryd.underlying27 (.agg #[(.string ⟨#[]⟩), (.int .i64 0), (.int .i64 0), (.int .i64 0)]) 40 info52 rfl (by decide) (by omega) z52 (ok := fun _ => True) (okp := fun _ => True) (k52_mkM _ _ _ z52 ) (fun _ hk => hk) trivial (Hl.od) (Nat.le_trans (Nat.mul_le_mul_right _ (Hl.od : (l0.length : Int).toNat ≤ 7036874417766)) (by omega)) (Below.refl _ _) (Nat.le_refl _) ?_; intro v134 w4 ho5 hb hg_ hnew_; clear hg_ hnew_; (first | rw [← Ny133.out] at ho5 | (simp only [Int.reduceToNat] at ho5; rw [← Ny133.out] at ho5)); have HO135 := Hl.am (Kd.R_lower ho5 (below_size (Hl.bb HB))); replace HB := Hl.am (below_step (Hl.bb HB) hb); clear hb ho5))
   go_loopg [4] k (fun kq v4 w' => ∃ (x3_1 : List (S52)) (x4_1 : Int), v4 = .int .i64 x4_1 ∧ Aside0 (laws_toItemS.l0 kq l0 x3_1 x4_1 = some r) ∧ Aside0 (kq ≤ k) ∧ Aside0 (Kd.R k52 52 w' w.heap.size (fun _ => True) v134 x3_1) ∧ Aside0 (Below w.heap.size w w'))
   case atStart => exact ⟨(y133), (0), (by first | rfl | (simp; done) | (simp [*]; done)), H', ⟨Nat.le_refl _⟩, ⟨Hl.rr HO135⟩, ⟨Hl.bb HB⟩⟩
   case round =>
    clear H'
    try clear c1
    try clear c2
    try clear c2b0
    try clear c2b1
    try clear p2
    try clear c3
    try clear c3b0
    try clear c3b1
    obtain ⟨x3_1, x4_1, rfl, HA, HK1, HO_3, HB⟩ := hrel
    cases gk with
    | zero => exact absurd HA.out (by simp [laws_toItemS.l0])
    | succ k1 =>
     have H := HA.out
     clear HA
     simp only [laws_toItemS.l0] at H
     by_cases c6 : x4_1 < (l0.length : Int)
     ·
      rw [if_pos c6] at H
      have c6b0 : decide (x4_1 < (l0.length : Int)) = true := decide_eq_true c6
      clear c6
      by_cases c7 : 0 ≤ x4_1
      ·
       rw [if_pos c7] at H
       have c7b0 : decide (0 ≤ x4_1) = true := decide_eq_true c7
       clear c7
       replace H := Option.bind_eq_some_iff.mp H
       obtain ⟨⟨t137, t138, t139, t140⟩, A80, H⟩ := H
       (try dsimp only at H)
       have A8 := Hl.am A80
       clear A80
       by_cases c9 : x4_1 < (x3_1.length : Int)
       ·
        rw [if_pos c9] at H
        have c9b0 : decide (x4_1 < (x3_1.length : Int)) = true := decide_eq_true c9
        clear c9
        obtain ⟨y141, hy141⟩ : ∃ y_ : List (S52), y_ = (x3_1.set (x4_1 : Int).toNat (⟨t137, t138, t139, t140⟩ : S52)) := ⟨_, rfl⟩
        replace H : (laws_toItemS.l0 k1 l0 y141 (wrap64 (x4_1 + 1))) = some r := by first | (rw [hy141]; with_reducible exact H) | (have H2_ := (Option.bind_some _ _).symm.trans H; rw [hy141]; with_reducible exact H2_) | (have H2_ := (Option.bind_some _ _).symm.trans H; with_reducible exact H2_) | with_reducible exact H | (rw [hy141]; exact H) | exact H
        have Ny141 := Hl.am hy141
        clear hy141
        have H' := Hl.am H
        clear H
        have p136 : 0 ≤ (x4_1 : Int) := Hl.od
        have q136 : x4_1 < (l0.length : Int) := Hl.od
        obtain ⟨ad136, e136, hx136_0, hx136_1, hx136_2, hx136_3⟩ := at_T55 HR0.out x4_1 p136 q136
        cases e136
        replace hx136_0 := Hl.hc HB hx136_0
        replace hx136_1 := Hl.hc HB hx136_1
        replace hx136_2 := Hl.hc HB hx136_2
        replace hx136_3 := Hl.hc HB hx136_3
        replace p136 := eq_true p136
        replace q136 := eq_true q136
        go_wp2_with (first | ((with_reducible refine gate_callee (f := 40) rfl ?_); refine Hl.gl (some 20) rfl rfl Tryd.func40 (by kernel_rfl) rfl #[.agg #[.string ((rd_T55 l0 x4_1).f0), .int .i64 ((rd_T55 l0 x4_1).f1), .int .i64 ((rd_T55 l0 x4_1).f2), .int .i64 ((rd_T55 l0 x4_1).f3)]] rfl ?_; (with_reducible refine (laws_toItem.calls ((rd_T55 l0 x4_1).f0) ((rd_T55 l0 x4_1).f1) ((rd_T55 l0 x4_1).f2) ((rd_T55 l0 x4_1).f3) t137 t138 t139 t140 _ A8.out).mono ?_); rintro e w11 ⟨rfl, hb⟩; refine ⟨_, rfl, ?_⟩; replace HO_3 := Hl.am (Kd.R_below (Hl.rr HO_3) hb); replace HB := Hl.am (below_step (Hl.bb HB) hb); (try clear hb); have p10 : 0 ≤ (x4_1 : Int) := Hl.od; have q10 : (x4_1 : Int) < ((x3_1.length : Int) : Int) := Hl.od; obtain ⟨go10, co10, eo10, gb10, gl10, cl10, HG10⟩ := Kd.R_form HO_3.out (by omega); (first | cases eo10 | (injection eo10 with ea_ en_ ec_; (first | subst ea_ | (injection ea_ with ea_; subst ea_)); subst ec_; clear en_)); have GB10 := Hl.am gb10; have GG10 := Hl.am HG10; clear gb10 gl10 HG10; obtain ⟨ce10, hcl10, hM10, hcc10, hfr10⟩ := Kd.R_elem HO_3.out z52 (x4_1 : Int) p10 q10; obtain rfl := k52_openM hM10; have hx10_0 : w11.cell? ⟨go10, (x4_1 : Int).toNat * 4, none⟩ = some (.string ((rd_T52 x3_1 x4_1).f0)) := hcc10 0 _ rfl; have hx10_1 : w11.cell? ⟨go10, (x4_1 : Int).toNat * 4 + 1, none⟩ = some (.int .i64 ((rd_T52 x3_1 x4_1).f1)) := hcc10 1 _ rfl; have hx10_2 : w11.cell? ⟨go10, (x4_1 : Int).toNat * 4 + 2, none⟩ = some (.int .i64 ((rd_T52 x3_1 x4_1).f2)) := hcc10 2 _ rfl; have hx10_3 : w11.cell? ⟨go10, (x4_1 : Int).toNat * 4 + 3, none⟩ = some (.int .i64 ((rd_T52 x3_1 x4_1).f3)) := hcc10 3 _ rfl; have hf10_0 : w11.frozen? ⟨go10, (x4_1 : Int).toNat * 4, none⟩ = false := hfr10 0; have hf10_1 : w11.frozen? ⟨go10, (x4_1 : Int).toNat * 4 + 1, none⟩ = false := hfr10 1; have hf10_2 : w11.frozen? ⟨go10, (x4_1 : Int).toNat * 4 + 2, none⟩ = false := hfr10 2; have hf10_3 : w11.frozen? ⟨go10, (x4_1 : Int).toNat * 4 + 3, none⟩ = false := hfr10 3; clear hcl10 hcc10 hfr10 hM10; replace p10 := eq_true p10; replace q10 := eq_true q10; have HX12 := Hl.am (show Kd.R k52 52 w11 w.heap.size (fun _ => True) (.slice (some ⟨go10, 0, none⟩) x3_1.length co10) x3_1 from (Hl.rr HO_3)); obtain ⟨ce12, hcl12, hM12, hcc12, hfr12⟩ := Kd.R_elem HX12.out z52 (x4_1 : Int) (Hl.od) (by have h_ : (x4_1 : Int) < ((x3_1.length : Int) : Int) := Hl.od; first | exact h_ | (have e_ := (Kd.R_reads' HO_3.out).1; omega) | simpa using h_); obtain rfl := k52_openM hM12; have HP12 := Kd.R_seg HX12.out (x4_1 : Int) (Hl.od) (by have h_ : (x4_1 : Int) < ((x3_1.length : Int) : Int) := Hl.od; first | exact h_ | (have e_ := (Kd.R_reads' HO_3.out).1; omega) | simpa using h_) (seg := [.string t137, .int .i64 t138, .int .i64 t139, .int .i64 t140]) (j := 0) hcl12 hcc12 (show 4 ≤ 4 from by decide) (x' := (⟨t137, t138, t139, t140⟩ : S52)) (k52_mkM _ _ _ (⟨t137, t138, t139, t140⟩ : S52) ) (fun _ hk => hk); have hx12_0 := hcc12 0 _ rfl; (try simp only [show (k52).sz = 4 from rfl, Nat.mul_one, Nat.add_zero] at hx12_0); have hf12_0 := hfr12 0; (try simp only [show (k52).sz = 4 from rfl, Nat.mul_one, Nat.add_zero] at hf12_0); have hx12_1 := hcc12 1 _ rfl; (try simp only [show (k52).sz = 4 from rfl, Nat.mul_one, Nat.add_zero] at hx12_1); have hf12_1 := hfr12 1; (try simp only [show (k52).sz = 4 from rfl, Nat.mul_one, Nat.add_zero] at hf12_1); have hx12_2 := hcc12 2 _ rfl; (try simp only [show (k52).sz = 4 from rfl, Nat.mul_one, Nat.add_zero] at hx12_2); have hf12_2 := hfr12 2; (try simp only [show (k52).sz = 4 from rfl, Nat.mul_one, Nat.add_zero] at hf12_2); have hx12_3 := hcc12 3 _ rfl; (try simp only [show (k52).sz = 4 from rfl, Nat.mul_one, Nat.add_zero] at hx12_3); have hf12_3 := hfr12 3; (try simp only [show (k52).sz = 4 from rfl, Nat.mul_one, Nat.add_zero] at hf12_3); clear hcl12 hcc12 hfr12 hM12) | ((with_reducible refine gate_store (t := 52) (p := 21) rfl ?_); refine store_event (t := 52) (p := 21) (v := ?vo_w13) (w1 := ((((w11.setCell ⟨go10, (x4_1 : Int).toNat * 4, none⟩ (.string t137)).setCell ⟨go10, (x4_1 : Int).toNat * 4 + 1, none⟩ (.int .i64 t138)).setCell ⟨go10, (x4_1 : Int).toNat * 4 + 2, none⟩ (.int .i64 t139)).setCell ⟨go10, (x4_1 : Int).toNat * 4 + 3, none⟩ (.int .i64 t140))) ?hg ?ho ?hn ?hr ?_; (case ho => rfl); (case hg => rfl); (case hn => rfl); (case hr => first | (go_simp; done) | (go_simp; rfl)); intro w13 hw; have hg : w11.grownBy w13 (some go10) := (by rw [hw]; exact HP12.2); have hp_ : Kd.R k52 52 w13 w.heap.size (fun _ => True) (.slice (some ⟨go10, 0, none⟩) x3_1.length co10) y141 := (by rw [hw, Ny141.out]; exact HP12.1); clear HP12; replace HO_3 := Hl.am (hp_); replace HB := Hl.am ((by rw [hw]; exact below_set (below_set (below_set (below_set (HB.out) GB10.out) GB10.out) GB10.out) GB10.out : Below w.heap.size w w13)); clear hg hw hp_))
        go_roundg k1
        case measure => have := HK1.out; omega
        case rel => exact ⟨(y141), (wrap64 (x4_1 + 1)), (by first | rfl | (simp; done) | (simp [*]; done)), H', ⟨by have := HK1.out; omega⟩, ⟨Hl.rr HO_3⟩, ⟨Hl.bb HB⟩⟩
       ·
        rw [if_neg c9] at H
        exact absurd H (by simp)
      ·
       rw [if_neg c7] at H
       exact absurd H (by simp)
     ·
      rw [if_neg c6] at H
      have c6b0 : decide (x4_1 < (l0.length : Int)) = false := decide_eq_false c6
      clear c6
      obtain rfl := Option.some.inj H
      go_wp2
      go_ret
      exact ⟨_, by first | rfl | (simp [errW_none, errW_some] <;> rfl) | (simp [*, errW_none, errW_some] <;> rfl), Hl.rr HO_3, Hl.bb HB⟩
  ·
   rw [if_neg c3] at H
   exact absurd H (by simp)
 ·
  rw [if_neg c2] at H
  exact absurd H (by simp)

/-! ### impl_check: function 41 -/
def impl_check.f (a0 : Bool) (a1 : Bool) : Option (Int) := if a0 = true then (if a1 = true then (some 0) else (some 2)) else (some 1)
set_option maxHeartbeats 8000000 in
set_option maxRecDepth 100000 in
theorem impl_check.calls (a0 : Bool) (a1 : Bool) (r : Int) (w : World) (h : impl_check.f a0 a1 = some r) :
  Calls Tryd.prog 41 #[.bool a0, .bool a1] w fun e w' => e = .returned (.int .i64 r) ∧ Drawn0 w w' := by
 have H : (if a0 = true then (if a1 = true then (some 0) else (some 2)) else (some 1)) = some r := h
 clear h
 by_cases c3 : a0 = true
 ·
  subst c3
  have H1 : (if a1 = true then (some 0) else (some 2)) = some r := by rw [if_pos rfl] at H; exact H
  clear H
  have H := H1
  clear H1
  by_cases c4 : a1 = true
  ·
   subst c4
   have H1 : (some 0) = some r := by rw [if_pos rfl] at H; exact H
   clear H
   have H := H1
   clear H1
   obtain rfl := Option.some.inj H
   go_enter Tryd.func41, Tryd.ntmps41
   go_wp2
   go_ret
   exact ⟨by first | rfl | (simp; done) | (simp [*]; done), by repeat (first | exact Drawn0.refl _ | apply Drawn0.step)⟩
  ·
   replace c4 := Bool.eq_false_iff.mpr c4
   subst c4
   have H1 : (some 2) = some r := by rw [if_neg (show ¬ (false = true) by decide)] at H; exact H
   clear H
   have H := H1
   clear H1
   obtain rfl := Option.some.inj H
   go_enter Tryd.func41, Tryd.ntmps41
   go_wp2
   go_ret
   exact ⟨by first | rfl | (simp; done) | (simp [*]; done), by repeat (first | exact Drawn0.refl _ | apply Drawn0.step)⟩
 ·
  replace c3 := Bool.eq_false_iff.mpr c3
  subst c3
  have H1 : (some 1) = some r := by rw [if_neg (show ¬ (false = true) by decide)] at H; exact H
  clear H
  have H := H1
  clear H1
  obtain rfl := Option.some.inj H
  go_enter Tryd.func41, Tryd.ntmps41
  go_wp2
  go_ret
  exact ⟨by first | rfl | (simp; done) | (simp [*]; done), by repeat (first | exact Drawn0.refl _ | apply Drawn0.step)⟩

/-! ### strings_Trim: function 71 -/
open Go.Shelf in
def strings_Trim.ren227 : Go.Shelf.Ren := ⟨fun | 227 => 79 | n => n, fun | 9 => 9 | 116 => 95 | 4 => 4 | 0 => 0 | 3 => 3 | 5 => 5 | n => n, fun | n => n⟩
open Go.Shelf in
theorem strings_Trim.lays227 : Go.Proofs.Lays.n227 Tryd.prog strings_Trim.ren227 := { mixed := by kernel_rfl, f227 := Tryd.func79.trans (congrArg some (by kernel_rfl)), t0 := Tryd.underlying0, a0 := Tryd.isAgg0, z0 := Tryd.sizeOf0, v0 := Tryd.zeroValue0, t3 := Tryd.underlying3, a3 := Tryd.isAgg3, z3 := Tryd.sizeOf3, v3 := Tryd.zeroValue3, t4 := Tryd.underlying4, a4 := Tryd.isAgg4, z4 := Tryd.sizeOf4, v4 := Tryd.zeroValue4, t5 := Tryd.underlying5, a5 := Tryd.isAgg5, z5 := Tryd.sizeOf5, v5 := Tryd.zeroValue5, t9 := Tryd.underlying9, a9 := Tryd.isAgg9, z9 := Tryd.sizeOf9, v9 := Tryd.zeroValue9, t116 := Tryd.underlying95, a116 := Tryd.isAgg95, z116 := Tryd.sizeOf95 }
open Go.Lib in
theorem strings_Trim.makeSet (hv116 : ∀ w, (zeroValue 95).run Tryd.prog w = .ok (.agg (Array.replicate 256 (.bool false))) w) (chars : ByteArray) (w : World) (hs : chars.size < 4294967281) (hascii : ∀ (j : Nat) b, chars.data.toList[j]? = some b → b.toNat < 128) :
    Calls Tryd.prog 79 #[.string chars] w fun e w' => e = .returned (.tuple #[.agg (Lib.setCells chars.data.toList), .bool true]) ∧ w' = w.alloc (.cells (Lib.setCells chars.data.toList) 95) := Any.strings_makeASCIISet strings_Trim.lays227 hv116 (by kernel_rfl) chars w hs hascii
set_option maxHeartbeats 8000000 in
set_option maxRecDepth 100000 in
theorem strings_Trim.has (b : Nat) (x : UInt8) (v : Bool) (w : World) (hc : w.cell? ⟨b, x.toNat, none⟩ = some (.bool v)) :
    Calls Tryd.prog 86 #[.pointer (some ⟨b, 0, none⟩), .int .u8 x.toNat] w fun e w' => e = .returned (.bool v) ∧ w' = w := by
  have hx := x.toNat_lt
  have h1 : (x.toNat : Int) < 256 := by omega
  go_enter Tryd.func86, Tryd.ntmps86
  go_wp2
  go_ret
  exact ⟨rfl, rfl⟩
/-- The bytes of a name. -/
def strings_Trim.set : List UInt8 := [97, 98, 99, 100, 101, 102, 103, 104, 105, 106, 107, 108, 109, 110, 111, 112, 113, 114, 115, 116, 117, 118, 119, 120, 121, 122, 48, 49, 50, 51, 52, 53, 54, 55, 56, 57, 45]
def strings_Trim.f (a0 a1 : ByteArray) : Option ByteArray := if 0 < a0.size ∧ a0.size ≤ 9223372036854775807 ∧ a1.data.toList = strings_Trim.set then some ⟨(Hl.tlS strings_Trim.set (Hl.trS strings_Trim.set a0.data.toList)).toArray⟩ else none
set_option maxHeartbeats 8000000 in
set_option maxRecDepth 100000 in
theorem strings_Trim.left (cs : List UInt8) (s : ByteArray) (b : Nat) (w : World) (hset : ∀ x : UInt8, w.cell? ⟨b, x.toNat, none⟩ = some (.bool (cs.contains x))) :
    Calls Tryd.prog 80 #[.string s, .pointer (some ⟨b, 0, none⟩)] w fun e w' => e = .returned (.string ⟨(Hl.tlS cs s.data.toList).toArray⟩) ∧ w' = w := by
  have HS := Aside0.mk hset
  clear hset
  go_enter Tryd.func80, Tryd.ntmps80
  go_wp2
  go_loop [0] (fun v => ∃ t : ByteArray, v = .string t ∧ Aside0 (Hl.tlS cs t.data.toList = Hl.tlS cs s.data.toList)) (fun v => Hl.strSz v)
  case atStart => exact ⟨s, rfl, ⟨rfl⟩⟩
  case round =>
    obtain ⟨t, rfl, HT⟩ := hrel
    by_cases h0 : 0 < t.size
    · have hcx := HS.out (t[0]'h0)
      have ht := Hl.mk_data t
      cases hin : cs.contains (t[0]'h0) <;> rw [hin] at hcx
      · have HI := Aside0.mk (Hl.tlS_out h0 hin)
        clear hin
        go_wp2_with (go_at_call 86; refine (strings_Trim.has b (t[0]'h0) _ _ hcx).mono ?_; rintro e w' ⟨rfl, hw⟩; rw [hw])
        go_ret
        refine ⟨?_, rfl⟩
        rw [← HT.out, HI.out, Hl.mk_data]
        rfl
      · have HI := Aside0.mk (Hl.tlS_in h0 hin)
        clear hin
        go_wp2_with (go_at_call 86; refine (strings_Trim.has b (t[0]'h0) _ _ hcx).mono ?_; rintro e w' ⟨rfl, hw⟩; rw [hw])
        go_round
        case rel => exact ⟨t.extract 1 t.size, rfl, ⟨HI.out.trans HT.out⟩⟩
        case measure =>
          show (t.extract 1 t.size).size < t.size
          rw [ByteArray.size_extract]
          omega
    · have HI := Aside0.mk (Hl.tlS_nil (cs := cs) h0)
      go_wp2
      go_ret
      refine ⟨?_, rfl⟩
      rw [← HT.out, HI.out, Hl.mk_data]
      rfl
set_option maxHeartbeats 8000000 in
set_option maxRecDepth 100000 in
theorem strings_Trim.right (cs : List UInt8) (s : ByteArray) (b : Nat) (w : World) (hs : s.size ≤ 9223372036854775807) (hset : ∀ x : UInt8, w.cell? ⟨b, x.toNat, none⟩ = some (.bool (cs.contains x))) :
    Calls Tryd.prog 81 #[.string s, .pointer (some ⟨b, 0, none⟩)] w fun e w' => e = .returned (.string ⟨(Hl.trS cs s.data.toList).toArray⟩) ∧ w' = w := by
  have HS := Aside0.mk hset
  clear hset
  go_enter Tryd.func81, Tryd.ntmps81
  go_wp2
  go_loop [0] (fun v => ∃ t : ByteArray, v = .string t ∧ t.size ≤ 9223372036854775807 ∧ Aside0 (Hl.trS cs t.data.toList = Hl.trS cs s.data.toList)) (fun v => Hl.strSz v)
  case atStart => exact ⟨s, rfl, hs, ⟨rfl⟩⟩
  case round =>
    obtain ⟨t, rfl, hts, HT⟩ := hrel
    by_cases h0 : 0 < t.size
    · have h1 : t.size - 1 < t.size := by omega
      have hcx := HS.out (t[t.size - 1]'h1)
      have h2 : ((t.size : Int) - 1).toNat = t.size - 1 := by omega
      have h3 : 1 ≤ t.size := h0
      cases hin : cs.contains (t[t.size - 1]'h1) <;> rw [hin] at hcx
      · have HI := Aside0.mk (Hl.trS_out h1 hin)
        clear hin
        go_wp2_with (go_at_call 86; refine (strings_Trim.has b (t[t.size - 1]'h1) _ _ hcx).mono ?_; rintro e w' ⟨rfl, hw⟩; rw [hw])
        go_ret
        refine ⟨?_, rfl⟩
        rw [← HT.out, HI.out, Hl.mk_data]
        rfl
      · have HI := Aside0.mk (Hl.trS_in h1 hin)
        clear hin
        go_wp2_with (go_at_call 86; refine (strings_Trim.has b (t[t.size - 1]'h1) _ _ hcx).mono ?_; rintro e w' ⟨rfl, hw⟩; rw [hw])
        go_round
        case rel => exact ⟨t.extract 0 (t.size - 1), rfl, (by rw [ByteArray.size_extract]; omega), ⟨HI.out.trans HT.out⟩⟩
        case measure =>
          show (t.extract 0 (t.size - 1)).size < t.size
          rw [ByteArray.size_extract]
          omega
    · have HI := Aside0.mk (Hl.trS_nil (cs := cs) h0)
      go_wp2
      go_ret
      refine ⟨?_, rfl⟩
      rw [← HT.out, HI.out, Hl.mk_data]
      rfl
set_option maxHeartbeats 8000000 in
set_option maxRecDepth 100000 in
theorem strings_Trim.calls (a0 a1 : ByteArray) (r : ByteArray) (w : World) (h : strings_Trim.f a0 a1 = some r) :
    Calls Tryd.prog 71 #[.string a0, .string a1] w fun e w' => e = .returned (.string r) ∧ Below w.heap.size w w' := by
  unfold strings_Trim.f at h
  split at h
  case isFalse => cases h
  case isTrue hc =>
  obtain ⟨h0, hs, hset⟩ := hc
  obtain rfl := Option.some.inj h
  clear h
  have h116 : (Tryd.prog.info? 95).map (fun i => (i.zero, i.size)) = some (some (.agg (Array.replicate 256 (.bool false))), 256) := by kernel_rfl
  have hv116 := (zero_of_info h116).1
  have hi116 := (zero_of_info h116).2
  have hcsz : a1.size = 37 := by
    show a1.data.size = 37
    rw [← Array.length_toList, hset]
    rfl
  have hM := strings_Trim.makeSet hv116 a1 w (by omega) (by
    rw [hset]
    have hall : (strings_Trim.set.all fun b => decide (b.toNat < 128)) = true := by decide
    exact fun _ b hb => of_decide_eq_true (List.all_eq_true.1 hall b (List.mem_of_getElem? hb)))
  rw [hset] at hM
  generalize strings_Trim.set = cs at hM hset ⊢
  have hemp : a1.toList.isEmpty = false := by
    rw [Lib.toList_data]
    cases h : a1.data.toList with
    | nil =>
      have : a1.data.toList.length = 37 := by rw [Array.length_toList]; exact hcsz
      rw [h] at this
      cases this
    | cons _ _ => rfl
  have hemps : a0.toList.isEmpty = false := by
    rw [Lib.toList_data]
    cases h : a0.data.toList with
    | nil =>
      have : 0 < a0.data.toList.length := by rw [Array.length_toList]; exact h0
      rw [h] at this
      exact absurd this (Nat.lt_irrefl _)
    | cons _ _ => rfl
  have hn1 : ((a1.size : Int) == 1) = false := beq_eq_false_iff_ne.2 (by omega)
  have hsc : (storeCells ⟨w.heap.size + 1, 0, none⟩ (Lib.setCells cs).toList 0).run Tryd.prog ((w.alloc (.cells (Lib.setCells cs) 95)).alloc (.cells (Array.replicate 256 (.bool false)) 95)) = .ok () ((w.alloc (.cells (Lib.setCells cs) 95)).alloc (.cells (Lib.setCells cs) 95)) := by
    have := run_storeCells_new (P := Tryd.prog) (w.alloc (.cells (Lib.setCells cs) 95)) 95 (Array.replicate 256 (.bool false)) (Lib.setCells cs) (by rw [Lib.setCells_size]; exact hi116) (by rw [Lib.setCells_size, Array.size_replicate]) (Lib.setCells_one _)
    simpa using this
  have hsz := Lib.setCells_size cs
  have hcellAt : ∀ x : UInt8, ((w.alloc (.cells (Lib.setCells cs) 95)).alloc (.cells (Lib.setCells cs) 95)).cell? ⟨w.heap.size + 1, x.toNat, none⟩ = some (.bool (cs.contains x)) := fun x => by
    rw [World.cell?_alloc_at _ _ _ _ (by simp), Lib.setCells_at]
  have HC := Aside0.mk hcellAt
  have HS := Aside0.mk hs
  clear hcellAt hcsz hset hs
  have z116 := Tryd.sizeOf95
  go_enter Tryd.func71, Tryd.ntmps71
  go_wp2_with (first
    | (go_at_call 79; refine hM.mono ?_; rintro e w' ⟨rfl, hw⟩; rw [hw])
    | (go_at_call 81; refine (strings_Trim.right cs a0 (w.heap.size + 1) _ HS.out HC.out).mono ?_; rintro e w' ⟨rfl, hw⟩; rw [hw])
    | (go_at_call 80; refine (strings_Trim.left cs _ (w.heap.size + 1) _ HC.out).mono ?_; rintro e w' ⟨rfl, hw⟩; rw [hw]))
  go_ret
  exact ⟨rfl, ((Below.refl _ w).alloc (Nat.le_refl _) _).alloc (by simp) _⟩

end Go.Proofs.YtgaoppejnmcnaaaDoor.PFnExactRefillWithin
