/- Written by a program of this session (ext.py): functions as plain Lean, and proofs that the code comes to them. No conditions but those that each theorem states. -/
import Derived.Test.YtafkckoikobnjaaDoorPFnExactPractisex0
import Derived.Test.YtafkckoikobnjaaDoorPFnExactPractisex8
namespace Go.Proofs.YtafkckoikobnjaaDoor.PFnExactPractise
open Go.RowKit Go.Proofs.YtafkckoikobnjaaDoorW.PrintWords Go.Proofs.YtafkckoikobnjaaDoorW.PrintLast Go.Proofs.YtafkckoikobnjaaDoorW.PrintMore
attribute [local go_sem] max2_int min2_int max_two min_two max_three min_three max_four min_four Go.Proofs.YtafkckoikobnjaaDoor.Hl.isSome_set   -- for this text's walks alone
set_option linter.unusedVariables false
set_option linter.unusedSimpArgs false

/-! ### laws_markPupilS: function 14 -/
def laws_markPupilS.l0 : Nat → List S56 → Int → Int → Option (Int × List S56)
 | 0, _, _, _ => none
 | k + 1, x0, x1, x5 => if x5 < (x0.length : Int) then (if 0 ≤ x5 then ((laws_markText.f k x1).bind fun t => (laws_markInt64S.f k (rd_T56 x0 x5).f2 (wrap64 (wrap64 (x1 + 1) + 1))).bind fun q => laws_markPupilS.l0 k (x0.set x5.toNat ⟨t, wrap64 (x1 + 1), q.2⟩) q.1 (wrap64 (x5 + 1))) else none) else some (x1, x0)
def laws_markPupilS.f (k : Nat) (l0 : List S56) (a1 : Int) : Option (Int × List S56) := laws_markPupilS.l0 k l0 a1 0
theorem laws_markPupilS.mono_l : ∀ k, (∀ y0 y1 y2, LeO (laws_markPupilS.l0 k y0 y1 y2) (laws_markPupilS.l0 (k + 1) y0 y1 y2))
  | 0 => fun _ _ _ r h => by simp [laws_markPupilS.l0] at h
  | k + 1 => by
    have ih0 := laws_markPupilS.mono_l k
    · intro y0 y1 y2
      unfold laws_markPupilS.l0
      repeat' first
      | (with_reducible exact ih0 _ _ _)
      | (with_reducible exact laws_markText.mono _ _)
      | (with_reducible exact laws_markInt64S.mono _ _ _)
      | (with_reducible exact LeO.refl _)
      | (with_reducible exact LeO.none _)
      | (with_reducible refine LeO.ite ?_ ?_)
      | (with_reducible refine LeO.bind ?_ (fun _ => ?_))
      | exact ih0 _ _ _
      | exact laws_markText.mono _ _
      | exact laws_markInt64S.mono _ _ _
      | exact LeO.none _
      | refine LeO.ite ?_ ?_
      | refine LeO.bind ?_ (fun _ => ?_)
theorem laws_markPupilS.mono : ∀ a0 a1 k, LeO (laws_markPupilS.f k a0 a1) (laws_markPupilS.f (k + 1) a0 a1) := by
  intro a0 a1 k
  have ih0 := laws_markPupilS.mono_l k
  unfold laws_markPupilS.f
  repeat' first
      | (with_reducible exact ih0 _ _ _)
      | (with_reducible exact laws_markText.mono _ _)
      | (with_reducible exact laws_markInt64S.mono _ _ _)
      | (with_reducible exact LeO.refl _)
      | (with_reducible exact LeO.none _)
      | (with_reducible refine LeO.ite ?_ ?_)
      | (with_reducible refine LeO.bind ?_ (fun _ => ?_))
      | exact ih0 _ _ _
      | exact laws_markText.mono _ _
      | exact laws_markInt64S.mono _ _ _
      | exact LeO.none _
      | refine LeO.ite ?_ ?_
      | refine LeO.bind ?_ (fun _ => ?_)
/-- Element i of a row of one's own: its cells, and what stores into its first two cells and into its inner row leave. -/
theorem laws_markPupilS.elem {W : World} {base : Nat} {ok : Nat → Prop} {g n cap : Nat} {xs : List S56} {i : Int} (h : Kd.S k56 56 W base ok (.slice (some ⟨g, 0, none⟩) n cap) xs) (h0 : 0 ≤ i) (h1 : i < n) :
    ∃ (oki : Nat → Prop) (v2 : Value), W.cell? ⟨g, i.toNat * 3, none⟩ = some (.string (rd_T56 xs i).f0) ∧ W.cell? ⟨g, i.toNat * 3 + 1, none⟩ = some (.int .i64 (rd_T56 xs i).f1) ∧ W.cell? ⟨g, i.toNat * 3 + 2, none⟩ = some v2 ∧
      (∀ j, W.frozen? ⟨g, i.toNat * 3 + j, none⟩ = false) ∧ (∀ k, oki k → ok k ∧ k ≠ g) ∧ base ≤ g ∧ ok g ∧
      ∀ t m, Kd.R (Kd.int .i64) 2 ((W.setCell ⟨g, i.toNat * 3, none⟩ (.string t)).setCell ⟨g, i.toNat * 3 + 1, none⟩ (.int .i64 m)) base oki v2 (rd_T56 xs i).f2 ∧
        ∀ W4 ds, Kept ((W.setCell ⟨g, i.toNat * 3, none⟩ (.string t)).setCell ⟨g, i.toNat * 3 + 1, none⟩ (.int .i64 m)) W4 oki → (∃ ok', Kd.R (Kd.int .i64) 2 W4 base ok' v2 ds) →
          Kd.S k56 56 W4 base ok (.slice (some ⟨g, 0, none⟩) n cap) (xs.set i.toNat ⟨t, m, ds⟩) := by
  have hbg := Kd.S_base h g (by simp [Value.ownBlock])
  have hog := (Kd.S_R h).1 g (by simp [Value.ownBlock])
  obtain ⟨oki, c, hcl, hM, hcc, hfr, hoki, hH⟩ := Kd.S_elem h z56 i h0 h1
  have hM' : k56.M W base oki (rd_T56 xs i) c := hM
  obtain ⟨v2, rfl, hR⟩ := k56_openM hM'
  refine ⟨oki, v2, hcc 0 _ rfl, hcc 1 _ rfl, hcc 2 _ rfl, hfr, hoki, hbg, hog, fun t m => ?_⟩
  obtain ⟨hH1, hg1⟩ := Kd.H_seg hH h0 h1 (seg := [.string t]) (j := 0) (by show 0 + 1 ≤ 3; omega) (by simp [Value.oneCell'])
  obtain ⟨hH2, hg2⟩ := Kd.H_seg hH1 h0 h1 (seg := [.int .i64 m]) (j := 1) (by show 1 + 1 ≤ 3; omega) (by simp [Value.oneCell'])
  have e1 : W.setCells g (i.toNat * 3 + 0) [.string t] = W.setCell ⟨g, i.toNat * 3, none⟩ (.string t) := rfl
  have hsz : k56.sz = 3 := rfl
  rw [hsz] at hH2 hg2 hH1 hg1
  rw [e1] at hH2 hg2 hg1
  have hne : ∀ k, oki k → some k ≠ some g := fun k hk e => (hoki k hk).2 (by injection e)
  have hR2 := Kd.R_grown (Kd.R_grown hR hg1 hne) hg2 hne
  refine ⟨hR2, fun W4 ds hk hds => ?_⟩
  obtain ⟨ok', hds⟩ := hds
  have hH3 := Kd.H_kept hH2 hk (fun k _ h2 => h2)
  refine Kd.H_back hH3 (x' := ⟨t, m, ds⟩) (okp := oki) (k56_mkM _ _ _ ⟨t, m, ds⟩ (Kd.R_reok rfl hds (fun k e => hR.1 k e))) (fun _ hk => hk)
set_option maxHeartbeats 8000000 in
set_option maxRecDepth 100000 in
theorem laws_markPupilS.calls (k : Nat) (P0_ : Nat → Prop) (u9000_ : Value) (l0 : List S56) (a1 : Int) (r1 : Int) (r2 : List S56) (w0 w : World) (hB : Below w0.heap.size w0 w) (ho0 : Kd.S k56 56 w w0.heap.size P0_ u9000_ l0) (h : laws_markPupilS.f k l0 a1 = some (r1, r2)) :
    Calls Tryd.prog 14 #[u9000_, .int .i64 a1] w fun e w' => e = .returned (.int .i64 r1) ∧ Kd.S k56 56 w' w0.heap.size (fun k_ => (P0_ k_ ∨ w.heap.size ≤ k_)) u9000_ r2 ∧ Below w0.heap.size w0 w' ∧ Kept w w' (fun k_ => P0_ k_) := by
  have hu := Tryd.underlying56
  have HO0 := Aside0.mk ho0
  have HB := Aside0.mk hB
  have HW0 := Aside0.mk hB.size
  clear hB ho0
  have H' := Aside0.mk (show laws_markPupilS.l0 k l0 a1 0 = some (r1, r2) from h)
  clear h
  go_enter Tryd.func14, Tryd.ntmps14
  go_wp2
  go_loopg [1, 5] k (fun kq v1 v5 w' => ∃ (x0 : List S56) (x1 x5 : Int), v1 = .int .i64 x1 ∧ v5 = .int .i64 x5 ∧ Aside0 (laws_markPupilS.l0 kq x0 x1 x5 = some (r1, r2)) ∧ Aside0 (kq ≤ k) ∧ Aside0 (Kd.S k56 56 w' w0.heap.size P0_ u9000_ x0) ∧ Aside0 (Kept w w' (fun k_ => P0_ k_)) ∧ Aside0 (Below w0.heap.size w0 w'))
  case atStart => exact ⟨l0, a1, 0, rfl, rfl, H', ⟨Nat.le_refl _⟩, HO0, ⟨Kept.refl _ _⟩, HB⟩
  case round =>
    clear H' HO0 HB
    obtain ⟨x0, x1, x5, rfl, rfl, HA, HK1, HO, HK, HB⟩ := hrel
    cases gk with
    | zero => exact absurd HA.out (by simp [laws_markPupilS.l0])
    | succ k1 =>
      have H := HA.out
      clear HA
      simp only [laws_markPupilS.l0] at H
      obtain ⟨A, cp, eu⟩ := Kd.S_slice HO.out
      subst eu
      by_cases c3 : x5 < (x0.length : Int)
      · rw [if_pos c3] at H
        have c3b : decide (x5 < (x0.length : Int)) = true := decide_eq_true c3
        by_cases c4 : 0 ≤ x5
        · rw [if_pos c4] at H
          obtain ⟨t, ht, H⟩ := Option.bind_eq_some_iff.1 H
          obtain ⟨⟨q1, q2⟩, hq, H⟩ := Option.bind_eq_some_iff.1 H
          obtain ⟨g, cap, e0, hb0, _, _⟩ := Kd.S_form HO.out (by omega)
          cases e0
          have hmt := laws_markText.calls k1 x1 t wr ht
          have c3' := eq_true c3
          have c4' := eq_true c4
          have HT := Aside0.mk hq
          have HN := Aside0.mk H
          clear hq H ht
          go_wp2_with (first
            | (go_at_call 39; refine hmt.mono ?_; rintro e w1 ⟨rfl, hb1⟩; clear hmt
               have HO1 := Aside0.mk (Kd.S_below HO.out hb1)
               have HB1 := Aside0.mk (HB.out.trans (hb1.mono HB.out.size))
               have HK1_ := Aside0.mk (HK.out.below hb1)
               clear HO HB HK hb1
               obtain ⟨oki, v2, hc0, hc1, hc2, hfr, hoki, hbg, hog, hst⟩ := laws_markPupilS.elem HO1.out c4 c3
               obtain ⟨A2, c2, rfl⟩ := Kd.R_slice (hst t (wrap64 (x1 + 1))).1
               have hf0 := hfr 0
               have hf1 := hfr 1
               simp only [Nat.add_zero] at hf0
               have HF := Aside0.mk hfr
               have HI := Aside0.mk hoki
               have HS := Aside0.mk hst
               have HG := Aside0.mk hbg
               have HGO := Aside0.mk hog
               clear hfr hoki hst hbg hog)
            | (go_at_call 13
               refine (laws_markInt64S.calls k1 oki _ _ _ q1 q2 w0 _ ?_ (HS.out t (wrap64 (x1 + 1))).1 HT.out).mono ?_
               · exact below_set (below_set HB1.out HG.out) HG.out
               rintro e w4 ⟨rfl, hr4, hb4, hk4⟩))
          go_roundg k1
          case measure => have := HK1.out; omega
          case rel =>
            refine ⟨_, _, _, rfl, rfl, HN, ⟨by have := HK1.out; omega⟩, ⟨(HS.out t (wrap64 (x1 + 1))).2 _ _ (hk4.mono (fun _ h => h)) ⟨_, hr4⟩⟩, ⟨?_⟩, ⟨hb4⟩⟩
            exact ((HK1_.out.setCell (.inl HGO.out) _).setCell (.inl HGO.out) _).then_ hk4 (fun _ h => .inl (HI.out _ h).1)
        · rw [if_neg c4] at H
          cases H
      · rw [if_neg c3] at H
        have c3b : decide (x5 < (x0.length : Int)) = false := decide_eq_false c3
        obtain ⟨rfl, rfl⟩ := Prod.mk.inj (Option.some.inj H)
        clear H c3
        go_wp2
        go_ret
        exact ⟨rfl, Kd.S_mono HO.out (fun _ hk => .inl hk), HB.out, HK.out⟩

/-! ### laws_heldInt64S: function 18 -/
def laws_heldInt64S.l0 : Nat → List Int → Int → Int → Option (Int)
 | 0, _, _, _ => none
 | k + 1, x0, x1, x5 => if x5 < (x0.length : Int) then (if 0 ≤ x5 then (if (rd x0 x5) = x1 then (laws_heldInt64S.l0 k x0 (wrap64 (x1 + 1)) (wrap64 (x5 + 1))) else (some (-1))) else (none)) else (some x1)
def laws_heldInt64S.f (k : Nat) (l0 : List Int) (a1 : Int) : Option (Int) := laws_heldInt64S.l0 k l0 a1 0
theorem laws_heldInt64S.mono_l : ∀ k, (∀ y0 y1 y2, LeO (laws_heldInt64S.l0 k y0 y1 y2) (laws_heldInt64S.l0 (k + 1) y0 y1 y2))
 | 0 => fun _ _ _ r h => by simp [laws_heldInt64S.l0] at h
 | k + 1 => by
  have ih0 := laws_heldInt64S.mono_l k
  ·
   intro y0 y1 y2
   unfold laws_heldInt64S.l0
   repeat' first
   | (with_reducible exact ih0 _ _ _)
   | (with_reducible exact LeO.refl _)
   | (with_reducible exact LeO.none _)
   | (with_reducible refine LeO.ite ?_ ?_)
   | (with_reducible refine LeO.bind ?_ (fun _ => ?_))
   | exact ih0 _ _ _
   | exact LeO.none _
   | refine LeO.ite ?_ ?_
   | refine LeO.bind ?_ (fun _ => ?_)
theorem laws_heldInt64S.mono : ∀ a0 a1 k, LeO (laws_heldInt64S.f k a0 a1) (laws_heldInt64S.f (k + 1) a0 a1) := by
 intro a0 a1 k
 have ih0 := laws_heldInt64S.mono_l k
 unfold laws_heldInt64S.f
 repeat' first
   | (with_reducible exact ih0 _ _ _)
   | (with_reducible exact LeO.refl _)
   | (with_reducible exact LeO.none _)
   | (with_reducible refine LeO.ite ?_ ?_)
   | (with_reducible refine LeO.bind ?_ (fun _ => ?_))
   | exact ih0 _ _ _
   | exact LeO.none _
   | refine LeO.ite ?_ ?_
   | refine LeO.bind ?_ (fun _ => ?_)
set_option maxHeartbeats 8000000 in
set_option maxRecDepth 100000 in
theorem laws_heldInt64S.calls (k : Nat) (A0 : Option Addr) (c0 : Nat) (l0 : List Int) (a1 : Int) (r : Int) (w : World) (hr0 : Kd.C (Kd.int .i64) w A0 l0.length l0) (hc0 : l0.length ≤ c0) (h : laws_heldInt64S.f k l0 a1 = some r) :
  Calls Tryd.prog 18 #[.slice A0 l0.length c0, .int .i64 a1] w fun e w' => e = .returned (.int .i64 r) ∧ Drawn0 w w' := by
 have HR0 := Hl.am hr0
 have HC0 := Hl.am hc0
 clear hr0 hc0
 have H : (laws_heldInt64S.l0 k l0 a1 0) = some r := h
 clear h
 have H' := Hl.am H
 clear H
 go_enter Tryd.func18, Tryd.ntmps18
 go_wp2
 go_loopg [1, 5] k (fun kq v1 v5 w' => ∃ (x1_1 : Int) (x5_1 : Int), v1 = .int .i64 x1_1 ∧ v5 = .int .i64 x5_1 ∧ Aside0 (laws_heldInt64S.l0 kq l0 x1_1 x5_1 = some r) ∧ Aside0 (kq ≤ k) ∧ Drawn0 w w')
 case atStart => exact ⟨(a1), (0), (by first | rfl | (simp; done) | (simp [*]; done)), (by first | rfl | (simp; done) | (simp [*]; done)), H', ⟨Nat.le_refl _⟩, by repeat (first | exact Drawn0.refl _ | apply Drawn0.step)⟩
 case round =>
  clear H'
  try clear c1
  try clear p2
  obtain ⟨x1_1, x5_1, rfl, rfl, HA, HK1, ⟨m1, rfl⟩⟩ := hrel
  cases gk with
  | zero => exact absurd HA.out (by simp [laws_heldInt64S.l0])
  | succ k1 =>
   have H := HA.out
   clear HA
   simp only [laws_heldInt64S.l0] at H
   by_cases c3 : x5_1 < (l0.length : Int)
   ·
    rw [if_pos c3] at H
    have c3b0 : decide (x5_1 < (l0.length : Int)) = true := decide_eq_true c3
    clear c3
    by_cases c4 : 0 ≤ x5_1
    ·
     rw [if_pos c4] at H
     have c4b0 : decide (0 ≤ x5_1) = true := decide_eq_true c4
     clear c4
     by_cases c5 : (rd l0 x5_1) = x1_1
     ·
      rw [if_pos c5] at H
      have c5b0 : ((rd l0 x5_1) == x1_1) = true := beq_iff_eq.mpr c5
      have c5b1 : ((rd l0 x5_1) != x1_1) = false := bne_eq_false_iff_eq.mpr c5
      clear c5
      have H' := Hl.am H
      clear H
      have p239 : 0 ≤ (x5_1 : Int) := Hl.od
      have q239 : x5_1 < (l0.length : Int) := Hl.od
      obtain ⟨ad239, e239, hx239_0⟩ := Kd.at_int HR0.out x5_1 p239 q239
      cases e239
      replace p239 := eq_true p239
      replace q239 := eq_true q239
      go_wp2
      go_roundg k1
      case measure => have := HK1.out; omega
      case rel => exact ⟨(wrap64 (x1_1 + 1)), (wrap64 (x5_1 + 1)), (by first | rfl | (simp; done) | (simp [*]; done)), (by first | rfl | (simp; done) | (simp [*]; done)), H', ⟨by have := HK1.out; omega⟩, by repeat (first | exact Drawn0.refl _ | apply Drawn0.step)⟩
     ·
      rw [if_neg c5] at H
      have c5b0 : ((rd l0 x5_1) == x1_1) = false := beq_eq_false_iff_ne.mpr c5
      have c5b1 : ((rd l0 x5_1) != x1_1) = true := bne_iff_ne.mpr c5
      obtain rfl := Option.some.inj H
      have p239 : 0 ≤ (x5_1 : Int) := Hl.od
      have q239 : x5_1 < (l0.length : Int) := Hl.od
      obtain ⟨ad239, e239, hx239_0⟩ := Kd.at_int HR0.out x5_1 p239 q239
      cases e239
      replace p239 := eq_true p239
      replace q239 := eq_true q239
      go_wp2
      go_ret
      exact ⟨by first | rfl | (simp; done) | (simp [*]; done), by repeat (first | exact Drawn0.refl _ | apply Drawn0.step)⟩
    ·
     rw [if_neg c4] at H
     exact absurd H (by simp)
   ·
    rw [if_neg c3] at H
    have c3b0 : decide (x5_1 < (l0.length : Int)) = false := decide_eq_false c3
    clear c3
    obtain rfl := Option.some.inj H
    go_wp2
    go_ret
    exact ⟨by first | rfl | (simp; done) | (simp [*]; done), by repeat (first | exact Drawn0.refl _ | apply Drawn0.step)⟩

end Go.Proofs.YtafkckoikobnjaaDoor.PFnExactPractise
