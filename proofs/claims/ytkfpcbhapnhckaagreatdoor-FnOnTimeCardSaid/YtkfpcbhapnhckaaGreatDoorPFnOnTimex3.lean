/- Written by a program of this session (ext.py): functions as plain Lean, and proofs that the code comes to them. No conditions but those that each theorem states. -/
import Derived.Test.YtkfpcbhapnhckaaGreatDoorPFnOnTimex0
import Derived.Test.YtkfpcbhapnhckaaGreatDoorPFnOnTimex2
namespace Go.Proofs.YtkfpcbhapnhckaaGreatDoor.PFnOnTime
open Go.RowKit Go.Proofs.YtkfpcbhapnhckaaGreatDoorW.PrintWords Go.Proofs.YtkfpcbhapnhckaaGreatDoorW.PrintLast Go.Proofs.YtkfpcbhapnhckaaGreatDoorW.PrintMore
attribute [local go_sem] max2_int min2_int max_two min_two max_three min_three max_four min_four Go.Proofs.YtkfpcbhapnhckaaGreatDoor.Hl.isSome_set   -- for this text's walks alone
set_option linter.unusedVariables false
set_option linter.unusedSimpArgs false

/-! ### spec_l24Draw: function 51 -/
/-- What a spoilt order is like. -/
def spec_l24Draw.sp (s : List Int) (p h : Int) (x : S33) : Option (S33 × Int × Int) := (spec_l00Src_pick.f s p h 4).bind fun q => if q.1 = 0 then ((spec_l00Src_text.f s q.2.1 q.2.2 ([(⟨#[]⟩ : ByteArray), (⟨#[83, 99, 104, 111, 111, 108]⟩ : ByteArray), (⟨#[97, 32, 98]⟩ : ByteArray)] : List ByteArray)).bind fun t => some (⟨t.1, x.f1, x.f2, x.f3⟩, t.2.1, t.2.2)) else if q.1 = 1 then ((spec_l00Src_among.f s q.2.1 q.2.2 ([(-1), 0, 1, 200, 201] : List Int)).bind fun t => some (⟨x.f0, t.1, x.f2, x.f3⟩, t.2.1, t.2.2)) else if q.1 = 2 then ((spec_l00Src_among.f s q.2.1 q.2.2 ([(-1), 0, 1, 100, 101, (-9223372036854775808)] : List Int)).bind fun t => some (⟨x.f0, x.f1, t.1, x.f3⟩, t.2.1, t.2.2)) else if q.1 = 3 then ((spec_l00Src_among.f s q.2.1 q.2.2 ([(-1), 0, 20000, 20001] : List Int)).bind fun t => some (⟨x.f0, x.f1, x.f2, t.1⟩, t.2.1, t.2.2)) else some (x, q.2.1, q.2.2)
theorem spec_l24Draw.keep4 {w w1 w2 : World} {g gb : Nat} (h : KeepBut w w1 g none) (hg : w1.grownBy w2 (some gb)) : KeepBut w w2 g (some gb) :=
  ⟨Nat.le_trans h.1 hg.size, fun i hi h1 h2 => (hg.block i (Nat.lt_of_lt_of_le hi h.1) h2).trans (h.2 i hi h1 (by simp))⟩
theorem spec_l24Draw.same4 (xs : List S33) (i : Int) (h0 : 0 ≤ i) : xs.set i.toNat (rd_T33 xs i) = xs := by
  unfold rd_T33
  apply List.ext_getElem?
  intro j
  rw [List.getElem?_set]
  by_cases h : i.toNat = j
  · subst h
    by_cases hl : i.toNat < xs.length
    · simp [hl]
    · simp [hl]
  · rw [if_neg h]
theorem spec_l24Draw.cells4 {W : World} {base gb n cap : Nat} {ok : Nat → Prop} {xs : List S33} (h : Kd.R k33 33 W base ok (.slice (some ⟨gb, 0, none⟩) n cap) xs) (i : Int) (h0 : 0 ≤ i) (hi : i < n) : ∀ (j : Nat) (u : Value), ([.string (rd_T33 xs i).f0, .int .i64 (rd_T33 xs i).f1, .int .i64 (rd_T33 xs i).f2, .int .i64 (rd_T33 xs i).f3] : List Value)[j]? = some u → W.cell? ⟨gb, i.toNat * 4 + j, none⟩ = some u := by
  obtain ⟨c, hcl, hM, hcc, _⟩ := Kd.R_elem h z33 i h0 hi
  have e := k33_openM hM
  intro j u hu
  exact hcc j u (by rw [e]; exact hu)

set_option maxHeartbeats 8000000 in
set_option maxRecDepth 100000 in
/-- spec.l24Spoil at an element of a row that the caller has made. -/
theorem spec_l24Draw.spoil (g : Nat) (s : List Int) (p h : Int) (gb n cap base : Nat) (xs : List S33) (i : Int) (y : S33) (p2 h2 : Int) (w0 w : World) (hI : IsS92 w0 w g s p h) (hB : Below w0.heap.size w0 w) (hO : Kd.R k33 33 w base (fun _ => True) (.slice (some ⟨gb, 0, none⟩) n cap) xs) (h0 : 0 ≤ i) (hi : i < n) (hbase : w0.heap.size ≤ base) (hf : spec_l24Draw.sp s p h (rd_T33 xs i) = some (y, p2, h2)) :
    Calls Tryz.prog 54 #[.pointer (some ⟨g, 0, none⟩), .pointer (some ⟨gb, i.toNat * 4, none⟩)] w fun e w' => e = .returned (.tuple #[]) ∧ Kd.R k33 33 w' base (fun _ => True) (.slice (some ⟨gb, 0, none⟩) n cap) (xs.set i.toNat y) ∧ IsS92 w0 w' g s p2 h2 ∧ Below w0.heap.size w0 w' ∧ KeepBut w w' g (some gb) := by
  have hu := Tryz.underlying33
  have hne : gb ≠ g := by
    have := IsS92.own_ne hI hO (by decide)
    intro e
    exact this (by rw [← e]; rfl)
  unfold spec_l24Draw.sp at hf
  obtain ⟨⟨q, p1, h1⟩, A1, hf⟩ := Option.bind_eq_some_iff.1 hf
  dsimp only at hf
  have HA1 := Aside0.mk A1
  have HI0 := Aside0.mk hI
  have HB := Aside0.mk hB
  have HK := Aside0.mk (KeepBut.refl w g none)
  have HO := Aside0.mk hO
  have H0 := Aside0.mk h0
  have H1 := Aside0.mk hi
  have HBS := Aside0.mk hbase
  have HNE := Aside0.mk hne
  clear A1 hI hB hO h0 hi hbase hne
  by_cases c0 : q = 0
  · rw [if_pos c0] at hf
    obtain ⟨⟨t, p3, h3⟩, A2, hf⟩ := Option.bind_eq_some_iff.1 hf
    dsimp only at hf A2
    have HA2 := Aside0.mk A2
    simp only [Option.some.injEq, Prod.mk.injEq] at hf
    obtain ⟨rfl, rfl, rfl⟩ := hf
    clear A2
    obtain ⟨L, hL⟩ : ∃ L : List ByteArray, L = ([(⟨#[]⟩ : ByteArray), (⟨#[83, 99, 104, 111, 111, 108]⟩ : ByteArray), (⟨#[97, 32, 98]⟩ : ByteArray)] : List ByteArray) := ⟨_, rfl⟩
    rw [← hL] at HA2
    have HL := Aside0.mk hL
    clear hL
    subst c0
    go_enter Tryz.func54, Tryz.ntmps54
    go_wp2_with (first | ((with_reducible refine gate_callee (f := 64) rfl ?_); refine Hl.gl (some 5) rfl rfl Tryz.func64 (by kernel_rfl) rfl #[.pointer (some ⟨g, 0, none⟩), .int .i64 4] rfl ?_; refine (spec_l00Src_pick.calls g s p h 4 _ p1 h1 w0 _ ?s1 ?s2 HA1.out).mono ?_; (case s1 => exact (by repeat (first | (with_reducible first | exact HI0.out | apply IsS92.alloc | apply IsS92.drewN | apply IsS92.drew) | exact HI0.out))); (case s2 => exact (by repeat (first | (with_reducible first | exact HB.out | apply below_alloc | apply pw_below_drewN | apply below_drew1) | exact HB.out | exact Below.refl _ _))); rintro e w1 ⟨rfl, hi, hb, hk⟩; refine ⟨_, rfl, ?_⟩; replace HK := Aside0.mk (KeepBut.trans (by repeat (first | (with_reducible first | exact HK.out | apply keep_drewN | apply keep_drew | apply keep_alloc) | exact HK.out)) hk (.inl rfl)); replace HO := Aside0.mk (Kd.R_mono (Kd.R_keep (IsS92.apart (show IsS92 w0 _ g s p h from by repeat (first | (with_reducible first | exact HI0.out | apply IsS92.alloc | apply IsS92.drewN | apply IsS92.drew) | exact HI0.out)) HO.out (by decide)) hk (fun _ h => h.2)) (fun _ h => h.1)); replace HB := Aside0.mk hb; replace HI0 := Aside0.mk hi; clear hb hk hi) | ((with_reducible refine gate_dst (N := 10) rfl ?_); refine Kd.R_lit Kd.string _ 9 ?hg (N := 10) ?hd (xs := ([(⟨#[]⟩ : ByteArray), (⟨#[83, 99, 104, 111, 111, 108]⟩ : ByteArray), (⟨#[97, 32, 98]⟩ : ByteArray)] : List ByteArray)) (inner := [.string (⟨#[]⟩ : ByteArray), .string (⟨#[83, 99, 104, 111, 111, 108]⟩ : ByteArray), .string (⟨#[97, 32, 98]⟩ : ByteArray)]) (ok := fun _ => True) (okp := fun _ => True) ?hr ?hp (fun _ hk => hk) trivial (Below.refl _ _) (Nat.le_refl _) (by simp) ?_; (case hd => rfl); (case hg => rfl); (case hr => first | (go_simp; done) | (go_simp; rfl)); (case hp => exact (Reps.one (show Kd.M Kd.string _ _ _ (⟨#[]⟩ : ByteArray) [.string (⟨#[]⟩ : ByteArray)] from rfl) (Reps.one (show Kd.M Kd.string _ _ _ (⟨#[83, 99, 104, 111, 111, 108]⟩ : ByteArray) [.string (⟨#[83, 99, 104, 111, 111, 108]⟩ : ByteArray)] from rfl) (Reps.one (show Kd.M Kd.string _ _ _ (⟨#[97, 32, 98]⟩ : ByteArray) [.string (⟨#[97, 32, 98]⟩ : ByteArray)] from rfl) (Reps.none _ _))))); intro v2 w2 ho2 hb hg_ hnew_; clear hg_ hnew_; rw [← HL.out] at ho2; have HO2 := Aside0.mk ho2; replace HO := Aside0.mk (Kd.R_below HO.out hb); replace HK := Aside0.mk (KeepBut.trans (by repeat (first | (with_reducible first | exact HK.out | apply keep_drewN | apply keep_drew | apply keep_alloc) | exact HK.out)) (KeepBut.of_below hb g none) (.inl rfl)); replace HB := Aside0.mk (below_step (by repeat (first | (with_reducible first | exact HB.out | apply below_alloc | apply pw_below_drewN | apply below_drew1) | exact HB.out | exact Below.refl _ _)) hb); replace HI0 := Aside0.mk (IsS92.below (by repeat (first | (with_reducible first | exact HI0.out | apply IsS92.alloc | apply IsS92.drewN | apply IsS92.drew) | exact HI0.out)) hb); clear hb ho2; obtain ⟨A3, c3, e3⟩ := Kd.R_slice HO2.out; subst e3) | ((with_reducible refine gate_callee (f := 84) rfl ?_); refine Hl.gl (some 11) rfl rfl Tryz.func84 (by kernel_rfl) rfl #[.pointer (some ⟨g, 0, none⟩), .slice A3 L.length c3] rfl ?_; refine (spec_l00Src_text.calls g s p1 h1 _ _ L t p3 h3 w0 _ ?s1 ?s2 ?s3 ?s4 ?s5 HA2.out).mono ?_; (case s1 => exact (by repeat (first | (with_reducible first | exact HI0.out | apply IsS92.alloc | apply IsS92.drewN | apply IsS92.drew) | exact HI0.out))); (case s2 => exact (by repeat (first | (with_reducible first | exact HB.out | apply below_alloc | apply pw_below_drewN | apply below_drew1) | exact HB.out | exact Below.refl _ _))); (case s3 => exact (Kd.R_reads' HO2.out).2.2); (case s4 => exact (Kd.R_reads' HO2.out).2.1); (case s5 => exact far_slice (IsS92.own_ne HI0.out HO2.out (by decide))); rintro e w3 ⟨rfl, hi, hb, hk⟩; refine ⟨_, rfl, ?_⟩; replace HK := Aside0.mk (KeepBut.trans (by repeat (first | (with_reducible first | exact HK.out | apply keep_drewN | apply keep_drew | apply keep_alloc) | exact HK.out)) hk (.inl rfl)); replace HO := Aside0.mk (Kd.R_mono (Kd.R_keep (IsS92.apart (show IsS92 w0 _ g s p1 h1 from by repeat (first | (with_reducible first | exact HI0.out | apply IsS92.alloc | apply IsS92.drewN | apply IsS92.drew) | exact HI0.out)) HO.out (by decide)) hk (fun _ h => h.2)) (fun _ h => h.1)); clear HO2; replace HB := Aside0.mk hb; replace HI0 := Aside0.mk hi; clear hb hk hi) | ((with_reducible refine gate_store (t := 9) (p := 13) rfl ?_); refine Kd.R_store k33  base rfl rfl 9 (.tmp 13) (.tmp 11) rfl 33 (g := gb) (n := n) (cap := cap) (o' := i.toNat * 4 + 0) i 0 xs (⟨t, (rd_T33 xs i).f1, (rd_T33 xs i).f2, (rd_T33 xs i).f3⟩ : S33) (.string t) [.string t] [.string (rd_T33 xs i).f0, .int .i64 (rd_T33 xs i).f1, .int .i64 (rd_T33 xs i).f2, .int .i64 (rd_T33 xs i).f3] (fun _ => True) (fun _ => False) ?e1 rfl ?e2 rfl (by kernel_rfl) (by intro q_ hq_; obtain rfl := List.mem_singleton.1 hq_; rfl) HO.out H0.out H1.out rfl ?e3 (by show 0 + 1 ≤ 4; decide) (k33_mkM _ _ _ _) (fun _ hk => hk.elim) (Below.refl _ _) ?_; (case e1 => first | (go_simp; done) | (go_simp; rfl) | rfl); (case e2 => first | (go_simp; done) | (go_simp; rfl) | rfl); (case e3 => exact spec_l24Draw.cells4 HO.out i H0.out H1.out); intro w4 hO4 _hB4 hG4; have HO4 := Aside0.mk hO4; have HG4 := Aside0.mk hG4; clear hO4 _hB4 hG4))
    go_end0
    exact ⟨rfl, HO4.out, IsS92.grown HI0.out HG4.out (by intro e; injection e with e; exact HNE.out e.symm), HB.out.grown HG4.out HB.out.size (fun k e => by injection e with e; subst e; exact Nat.le_trans HBS.out (Kd.R_base HO.out _ rfl)), spec_l24Draw.keep4 HK.out HG4.out⟩
  rw [if_neg c0] at hf
  have d0 : decide (q = 0) = false := decide_eq_false c0
  have e0 : (q == 0) = false := by rw [beq_eq_false_iff_ne]; exact c0
  by_cases c1 : q = 1
  · rw [if_pos c1] at hf
    obtain ⟨⟨t, p3, h3⟩, A2, hf⟩ := Option.bind_eq_some_iff.1 hf
    dsimp only at hf A2
    have HA2 := Aside0.mk A2
    simp only [Option.some.injEq, Prod.mk.injEq] at hf
    obtain ⟨rfl, rfl, rfl⟩ := hf
    clear A2
    obtain ⟨L, hL⟩ : ∃ L : List Int, L = ([(-1), 0, 1, 200, 201] : List Int) := ⟨_, rfl⟩
    rw [← hL] at HA2
    have HL := Aside0.mk hL
    clear hL
    subst c1
    go_enter Tryz.func54, Tryz.ntmps54
    go_wp2_with (first | ((with_reducible refine gate_callee (f := 64) rfl ?_); refine Hl.gl (some 5) rfl rfl Tryz.func64 (by kernel_rfl) rfl #[.pointer (some ⟨g, 0, none⟩), .int .i64 4] rfl ?_; refine (spec_l00Src_pick.calls g s p h 4 _ p1 h1 w0 _ ?s1 ?s2 HA1.out).mono ?_; (case s1 => exact (by repeat (first | (with_reducible first | exact HI0.out | apply IsS92.alloc | apply IsS92.drewN | apply IsS92.drew) | exact HI0.out))); (case s2 => exact (by repeat (first | (with_reducible first | exact HB.out | apply below_alloc | apply pw_below_drewN | apply below_drew1) | exact HB.out | exact Below.refl _ _))); rintro e w1 ⟨rfl, hi, hb, hk⟩; refine ⟨_, rfl, ?_⟩; replace HK := Aside0.mk (KeepBut.trans (by repeat (first | (with_reducible first | exact HK.out | apply keep_drewN | apply keep_drew | apply keep_alloc) | exact HK.out)) hk (.inl rfl)); replace HO := Aside0.mk (Kd.R_mono (Kd.R_keep (IsS92.apart (show IsS92 w0 _ g s p h from by repeat (first | (with_reducible first | exact HI0.out | apply IsS92.alloc | apply IsS92.drewN | apply IsS92.drew) | exact HI0.out)) HO.out (by decide)) hk (fun _ h => h.2)) (fun _ h => h.1)); replace HB := Aside0.mk hb; replace HI0 := Aside0.mk hi; clear hb hk hi) | ((with_reducible refine gate_dst (N := 18) rfl ?_); refine Kd.R_lit (Kd.int .i64) _ 2 ?hg (N := 18) ?hd (xs := ([(-1), 0, 1, 200, 201] : List Int)) (inner := [.int .i64 (-1), .int .i64 0, .int .i64 1, .int .i64 200, .int .i64 201]) (ok := fun _ => True) (okp := fun _ => True) ?hr ?hp (fun _ hk => hk) trivial (Below.refl _ _) (Nat.le_refl _) (by simp) ?_; (case hd => rfl); (case hg => rfl); (case hr => first | (go_simp; done) | (go_simp; rfl)); (case hp => exact (Reps.one (show Kd.M (Kd.int .i64) _ _ _ (-1) [.int .i64 (-1)] from rfl) (Reps.one (show Kd.M (Kd.int .i64) _ _ _ 0 [.int .i64 0] from rfl) (Reps.one (show Kd.M (Kd.int .i64) _ _ _ 1 [.int .i64 1] from rfl) (Reps.one (show Kd.M (Kd.int .i64) _ _ _ 200 [.int .i64 200] from rfl) (Reps.one (show Kd.M (Kd.int .i64) _ _ _ 201 [.int .i64 201] from rfl) (Reps.none _ _))))))); intro v2 w2 ho2 hb hg_ hnew_; clear hg_ hnew_; rw [← HL.out] at ho2; have HO2 := Aside0.mk ho2; replace HO := Aside0.mk (Kd.R_below HO.out hb); replace HK := Aside0.mk (KeepBut.trans (by repeat (first | (with_reducible first | exact HK.out | apply keep_drewN | apply keep_drew | apply keep_alloc) | exact HK.out)) (KeepBut.of_below hb g none) (.inl rfl)); replace HB := Aside0.mk (below_step (by repeat (first | (with_reducible first | exact HB.out | apply below_alloc | apply pw_below_drewN | apply below_drew1) | exact HB.out | exact Below.refl _ _)) hb); replace HI0 := Aside0.mk (IsS92.below (by repeat (first | (with_reducible first | exact HI0.out | apply IsS92.alloc | apply IsS92.drewN | apply IsS92.drew) | exact HI0.out)) hb); clear hb ho2; obtain ⟨A3, c3, e3⟩ := Kd.R_slice HO2.out; subst e3) | ((with_reducible refine gate_callee (f := 58) rfl ?_); refine Hl.gl (some 19) rfl rfl Tryz.func58 (by kernel_rfl) rfl #[.pointer (some ⟨g, 0, none⟩), .slice A3 L.length c3] rfl ?_; refine (spec_l00Src_among.calls g s p1 h1 _ _ L t p3 h3 w0 _ ?s1 ?s2 ?s3 ?s4 ?s5 HA2.out).mono ?_; (case s1 => exact (by repeat (first | (with_reducible first | exact HI0.out | apply IsS92.alloc | apply IsS92.drewN | apply IsS92.drew) | exact HI0.out))); (case s2 => exact (by repeat (first | (with_reducible first | exact HB.out | apply below_alloc | apply pw_below_drewN | apply below_drew1) | exact HB.out | exact Below.refl _ _))); (case s3 => exact (Kd.R_reads' HO2.out).2.2); (case s4 => exact (Kd.R_reads' HO2.out).2.1); (case s5 => exact far_slice (IsS92.own_ne HI0.out HO2.out (by decide))); rintro e w3 ⟨rfl, hi, hb, hk⟩; refine ⟨_, rfl, ?_⟩; replace HK := Aside0.mk (KeepBut.trans (by repeat (first | (with_reducible first | exact HK.out | apply keep_drewN | apply keep_drew | apply keep_alloc) | exact HK.out)) hk (.inl rfl)); replace HO := Aside0.mk (Kd.R_mono (Kd.R_keep (IsS92.apart (show IsS92 w0 _ g s p1 h1 from by repeat (first | (with_reducible first | exact HI0.out | apply IsS92.alloc | apply IsS92.drewN | apply IsS92.drew) | exact HI0.out)) HO.out (by decide)) hk (fun _ h => h.2)) (fun _ h => h.1)); clear HO2; replace HB := Aside0.mk hb; replace HI0 := Aside0.mk hi; clear hb hk hi) | ((with_reducible refine gate_store (t := 2) (p := 21) rfl ?_); refine Kd.R_store k33  base rfl rfl 2 (.tmp 21) (.tmp 19) rfl 33 (g := gb) (n := n) (cap := cap) (o' := i.toNat * 4 + 1) i 1 xs (⟨(rd_T33 xs i).f0, t, (rd_T33 xs i).f2, (rd_T33 xs i).f3⟩ : S33) (.int .i64 t) [.int .i64 t] [.string (rd_T33 xs i).f0, .int .i64 (rd_T33 xs i).f1, .int .i64 (rd_T33 xs i).f2, .int .i64 (rd_T33 xs i).f3] (fun _ => True) (fun _ => False) ?e1 rfl ?e2 rfl (by kernel_rfl) (by intro q_ hq_; obtain rfl := List.mem_singleton.1 hq_; rfl) HO.out H0.out H1.out rfl ?e3 (by show 1 + 1 ≤ 4; decide) (k33_mkM _ _ _ _) (fun _ hk => hk.elim) (Below.refl _ _) ?_; (case e1 => first | (go_simp; done) | (go_simp; rfl) | rfl); (case e2 => first | (go_simp; done) | (go_simp; rfl) | rfl); (case e3 => exact spec_l24Draw.cells4 HO.out i H0.out H1.out); intro w4 hO4 _hB4 hG4; have HO4 := Aside0.mk hO4; have HG4 := Aside0.mk hG4; clear hO4 _hB4 hG4))
    go_end0
    exact ⟨rfl, HO4.out, IsS92.grown HI0.out HG4.out (by intro e; injection e with e; exact HNE.out e.symm), HB.out.grown HG4.out HB.out.size (fun k e => by injection e with e; subst e; exact Nat.le_trans HBS.out (Kd.R_base HO.out _ rfl)), spec_l24Draw.keep4 HK.out HG4.out⟩
  rw [if_neg c1] at hf
  have d1 : decide (q = 1) = false := decide_eq_false c1
  have e1 : (q == 1) = false := by rw [beq_eq_false_iff_ne]; exact c1
  by_cases c2 : q = 2
  · rw [if_pos c2] at hf
    obtain ⟨⟨t, p3, h3⟩, A2, hf⟩ := Option.bind_eq_some_iff.1 hf
    dsimp only at hf A2
    have HA2 := Aside0.mk A2
    simp only [Option.some.injEq, Prod.mk.injEq] at hf
    obtain ⟨rfl, rfl, rfl⟩ := hf
    clear A2
    obtain ⟨L, hL⟩ : ∃ L : List Int, L = ([(-1), 0, 1, 100, 101, (-9223372036854775808)] : List Int) := ⟨_, rfl⟩
    rw [← hL] at HA2
    have HL := Aside0.mk hL
    clear hL
    subst c2
    go_enter Tryz.func54, Tryz.ntmps54
    go_wp2_with (first | ((with_reducible refine gate_callee (f := 64) rfl ?_); refine Hl.gl (some 5) rfl rfl Tryz.func64 (by kernel_rfl) rfl #[.pointer (some ⟨g, 0, none⟩), .int .i64 4] rfl ?_; refine (spec_l00Src_pick.calls g s p h 4 _ p1 h1 w0 _ ?s1 ?s2 HA1.out).mono ?_; (case s1 => exact (by repeat (first | (with_reducible first | exact HI0.out | apply IsS92.alloc | apply IsS92.drewN | apply IsS92.drew) | exact HI0.out))); (case s2 => exact (by repeat (first | (with_reducible first | exact HB.out | apply below_alloc | apply pw_below_drewN | apply below_drew1) | exact HB.out | exact Below.refl _ _))); rintro e w1 ⟨rfl, hi, hb, hk⟩; refine ⟨_, rfl, ?_⟩; replace HK := Aside0.mk (KeepBut.trans (by repeat (first | (with_reducible first | exact HK.out | apply keep_drewN | apply keep_drew | apply keep_alloc) | exact HK.out)) hk (.inl rfl)); replace HO := Aside0.mk (Kd.R_mono (Kd.R_keep (IsS92.apart (show IsS92 w0 _ g s p h from by repeat (first | (with_reducible first | exact HI0.out | apply IsS92.alloc | apply IsS92.drewN | apply IsS92.drew) | exact HI0.out)) HO.out (by decide)) hk (fun _ h => h.2)) (fun _ h => h.1)); replace HB := Aside0.mk hb; replace HI0 := Aside0.mk hi; clear hb hk hi) | ((with_reducible refine gate_dst (N := 26) rfl ?_); refine Kd.R_lit (Kd.int .i64) _ 2 ?hg (N := 26) ?hd (xs := ([(-1), 0, 1, 100, 101, (-9223372036854775808)] : List Int)) (inner := [.int .i64 (-1), .int .i64 0, .int .i64 1, .int .i64 100, .int .i64 101, .int .i64 (-9223372036854775808)]) (ok := fun _ => True) (okp := fun _ => True) ?hr ?hp (fun _ hk => hk) trivial (Below.refl _ _) (Nat.le_refl _) (by simp) ?_; (case hd => rfl); (case hg => rfl); (case hr => first | (go_simp; done) | (go_simp; rfl)); (case hp => exact (Reps.one (show Kd.M (Kd.int .i64) _ _ _ (-1) [.int .i64 (-1)] from rfl) (Reps.one (show Kd.M (Kd.int .i64) _ _ _ 0 [.int .i64 0] from rfl) (Reps.one (show Kd.M (Kd.int .i64) _ _ _ 1 [.int .i64 1] from rfl) (Reps.one (show Kd.M (Kd.int .i64) _ _ _ 100 [.int .i64 100] from rfl) (Reps.one (show Kd.M (Kd.int .i64) _ _ _ 101 [.int .i64 101] from rfl) (Reps.one (show Kd.M (Kd.int .i64) _ _ _ (-9223372036854775808) [.int .i64 (-9223372036854775808)] from rfl) (Reps.none _ _)))))))); intro v2 w2 ho2 hb hg_ hnew_; clear hg_ hnew_; rw [← HL.out] at ho2; have HO2 := Aside0.mk ho2; replace HO := Aside0.mk (Kd.R_below HO.out hb); replace HK := Aside0.mk (KeepBut.trans (by repeat (first | (with_reducible first | exact HK.out | apply keep_drewN | apply keep_drew | apply keep_alloc) | exact HK.out)) (KeepBut.of_below hb g none) (.inl rfl)); replace HB := Aside0.mk (below_step (by repeat (first | (with_reducible first | exact HB.out | apply below_alloc | apply pw_below_drewN | apply below_drew1) | exact HB.out | exact Below.refl _ _)) hb); replace HI0 := Aside0.mk (IsS92.below (by repeat (first | (with_reducible first | exact HI0.out | apply IsS92.alloc | apply IsS92.drewN | apply IsS92.drew) | exact HI0.out)) hb); clear hb ho2; obtain ⟨A3, c3, e3⟩ := Kd.R_slice HO2.out; subst e3) | ((with_reducible refine gate_callee (f := 58) rfl ?_); refine Hl.gl (some 27) rfl rfl Tryz.func58 (by kernel_rfl) rfl #[.pointer (some ⟨g, 0, none⟩), .slice A3 L.length c3] rfl ?_; refine (spec_l00Src_among.calls g s p1 h1 _ _ L t p3 h3 w0 _ ?s1 ?s2 ?s3 ?s4 ?s5 HA2.out).mono ?_; (case s1 => exact (by repeat (first | (with_reducible first | exact HI0.out | apply IsS92.alloc | apply IsS92.drewN | apply IsS92.drew) | exact HI0.out))); (case s2 => exact (by repeat (first | (with_reducible first | exact HB.out | apply below_alloc | apply pw_below_drewN | apply below_drew1) | exact HB.out | exact Below.refl _ _))); (case s3 => exact (Kd.R_reads' HO2.out).2.2); (case s4 => exact (Kd.R_reads' HO2.out).2.1); (case s5 => exact far_slice (IsS92.own_ne HI0.out HO2.out (by decide))); rintro e w3 ⟨rfl, hi, hb, hk⟩; refine ⟨_, rfl, ?_⟩; replace HK := Aside0.mk (KeepBut.trans (by repeat (first | (with_reducible first | exact HK.out | apply keep_drewN | apply keep_drew | apply keep_alloc) | exact HK.out)) hk (.inl rfl)); replace HO := Aside0.mk (Kd.R_mono (Kd.R_keep (IsS92.apart (show IsS92 w0 _ g s p1 h1 from by repeat (first | (with_reducible first | exact HI0.out | apply IsS92.alloc | apply IsS92.drewN | apply IsS92.drew) | exact HI0.out)) HO.out (by decide)) hk (fun _ h => h.2)) (fun _ h => h.1)); clear HO2; replace HB := Aside0.mk hb; replace HI0 := Aside0.mk hi; clear hb hk hi) | ((with_reducible refine gate_store (t := 2) (p := 29) rfl ?_); refine Kd.R_store k33  base rfl rfl 2 (.tmp 29) (.tmp 27) rfl 33 (g := gb) (n := n) (cap := cap) (o' := i.toNat * 4 + 2) i 2 xs (⟨(rd_T33 xs i).f0, (rd_T33 xs i).f1, t, (rd_T33 xs i).f3⟩ : S33) (.int .i64 t) [.int .i64 t] [.string (rd_T33 xs i).f0, .int .i64 (rd_T33 xs i).f1, .int .i64 (rd_T33 xs i).f2, .int .i64 (rd_T33 xs i).f3] (fun _ => True) (fun _ => False) ?e1 rfl ?e2 rfl (by kernel_rfl) (by intro q_ hq_; obtain rfl := List.mem_singleton.1 hq_; rfl) HO.out H0.out H1.out rfl ?e3 (by show 2 + 1 ≤ 4; decide) (k33_mkM _ _ _ _) (fun _ hk => hk.elim) (Below.refl _ _) ?_; (case e1 => first | (go_simp; done) | (go_simp; rfl) | rfl); (case e2 => first | (go_simp; done) | (go_simp; rfl) | rfl); (case e3 => exact spec_l24Draw.cells4 HO.out i H0.out H1.out); intro w4 hO4 _hB4 hG4; have HO4 := Aside0.mk hO4; have HG4 := Aside0.mk hG4; clear hO4 _hB4 hG4))
    go_end0
    exact ⟨rfl, HO4.out, IsS92.grown HI0.out HG4.out (by intro e; injection e with e; exact HNE.out e.symm), HB.out.grown HG4.out HB.out.size (fun k e => by injection e with e; subst e; exact Nat.le_trans HBS.out (Kd.R_base HO.out _ rfl)), spec_l24Draw.keep4 HK.out HG4.out⟩
  rw [if_neg c2] at hf
  have d2 : decide (q = 2) = false := decide_eq_false c2
  have e2 : (q == 2) = false := by rw [beq_eq_false_iff_ne]; exact c2
  by_cases c3 : q = 3
  · rw [if_pos c3] at hf
    obtain ⟨⟨t, p3, h3⟩, A2, hf⟩ := Option.bind_eq_some_iff.1 hf
    dsimp only at hf A2
    have HA2 := Aside0.mk A2
    simp only [Option.some.injEq, Prod.mk.injEq] at hf
    obtain ⟨rfl, rfl, rfl⟩ := hf
    clear A2
    obtain ⟨L, hL⟩ : ∃ L : List Int, L = ([(-1), 0, 20000, 20001] : List Int) := ⟨_, rfl⟩
    rw [← hL] at HA2
    have HL := Aside0.mk hL
    clear hL
    subst c3
    go_enter Tryz.func54, Tryz.ntmps54
    go_wp2_with (first | ((with_reducible refine gate_callee (f := 64) rfl ?_); refine Hl.gl (some 5) rfl rfl Tryz.func64 (by kernel_rfl) rfl #[.pointer (some ⟨g, 0, none⟩), .int .i64 4] rfl ?_; refine (spec_l00Src_pick.calls g s p h 4 _ p1 h1 w0 _ ?s1 ?s2 HA1.out).mono ?_; (case s1 => exact (by repeat (first | (with_reducible first | exact HI0.out | apply IsS92.alloc | apply IsS92.drewN | apply IsS92.drew) | exact HI0.out))); (case s2 => exact (by repeat (first | (with_reducible first | exact HB.out | apply below_alloc | apply pw_below_drewN | apply below_drew1) | exact HB.out | exact Below.refl _ _))); rintro e w1 ⟨rfl, hi, hb, hk⟩; refine ⟨_, rfl, ?_⟩; replace HK := Aside0.mk (KeepBut.trans (by repeat (first | (with_reducible first | exact HK.out | apply keep_drewN | apply keep_drew | apply keep_alloc) | exact HK.out)) hk (.inl rfl)); replace HO := Aside0.mk (Kd.R_mono (Kd.R_keep (IsS92.apart (show IsS92 w0 _ g s p h from by repeat (first | (with_reducible first | exact HI0.out | apply IsS92.alloc | apply IsS92.drewN | apply IsS92.drew) | exact HI0.out)) HO.out (by decide)) hk (fun _ h => h.2)) (fun _ h => h.1)); replace HB := Aside0.mk hb; replace HI0 := Aside0.mk hi; clear hb hk hi) | ((with_reducible refine gate_dst (N := 34) rfl ?_); refine Kd.R_lit (Kd.int .i64) _ 2 ?hg (N := 34) ?hd (xs := ([(-1), 0, 20000, 20001] : List Int)) (inner := [.int .i64 (-1), .int .i64 0, .int .i64 20000, .int .i64 20001]) (ok := fun _ => True) (okp := fun _ => True) ?hr ?hp (fun _ hk => hk) trivial (Below.refl _ _) (Nat.le_refl _) (by simp) ?_; (case hd => rfl); (case hg => rfl); (case hr => first | (go_simp; done) | (go_simp; rfl)); (case hp => exact (Reps.one (show Kd.M (Kd.int .i64) _ _ _ (-1) [.int .i64 (-1)] from rfl) (Reps.one (show Kd.M (Kd.int .i64) _ _ _ 0 [.int .i64 0] from rfl) (Reps.one (show Kd.M (Kd.int .i64) _ _ _ 20000 [.int .i64 20000] from rfl) (Reps.one (show Kd.M (Kd.int .i64) _ _ _ 20001 [.int .i64 20001] from rfl) (Reps.none _ _)))))); intro v2 w2 ho2 hb hg_ hnew_; clear hg_ hnew_; rw [← HL.out] at ho2; have HO2 := Aside0.mk ho2; replace HO := Aside0.mk (Kd.R_below HO.out hb); replace HK := Aside0.mk (KeepBut.trans (by repeat (first | (with_reducible first | exact HK.out | apply keep_drewN | apply keep_drew | apply keep_alloc) | exact HK.out)) (KeepBut.of_below hb g none) (.inl rfl)); replace HB := Aside0.mk (below_step (by repeat (first | (with_reducible first | exact HB.out | apply below_alloc | apply pw_below_drewN | apply below_drew1) | exact HB.out | exact Below.refl _ _)) hb); replace HI0 := Aside0.mk (IsS92.below (by repeat (first | (with_reducible first | exact HI0.out | apply IsS92.alloc | apply IsS92.drewN | apply IsS92.drew) | exact HI0.out)) hb); clear hb ho2; obtain ⟨A3, c3, e3⟩ := Kd.R_slice HO2.out; subst e3) | ((with_reducible refine gate_callee (f := 58) rfl ?_); refine Hl.gl (some 35) rfl rfl Tryz.func58 (by kernel_rfl) rfl #[.pointer (some ⟨g, 0, none⟩), .slice A3 L.length c3] rfl ?_; refine (spec_l00Src_among.calls g s p1 h1 _ _ L t p3 h3 w0 _ ?s1 ?s2 ?s3 ?s4 ?s5 HA2.out).mono ?_; (case s1 => exact (by repeat (first | (with_reducible first | exact HI0.out | apply IsS92.alloc | apply IsS92.drewN | apply IsS92.drew) | exact HI0.out))); (case s2 => exact (by repeat (first | (with_reducible first | exact HB.out | apply below_alloc | apply pw_below_drewN | apply below_drew1) | exact HB.out | exact Below.refl _ _))); (case s3 => exact (Kd.R_reads' HO2.out).2.2); (case s4 => exact (Kd.R_reads' HO2.out).2.1); (case s5 => exact far_slice (IsS92.own_ne HI0.out HO2.out (by decide))); rintro e w3 ⟨rfl, hi, hb, hk⟩; refine ⟨_, rfl, ?_⟩; replace HK := Aside0.mk (KeepBut.trans (by repeat (first | (with_reducible first | exact HK.out | apply keep_drewN | apply keep_drew | apply keep_alloc) | exact HK.out)) hk (.inl rfl)); replace HO := Aside0.mk (Kd.R_mono (Kd.R_keep (IsS92.apart (show IsS92 w0 _ g s p1 h1 from by repeat (first | (with_reducible first | exact HI0.out | apply IsS92.alloc | apply IsS92.drewN | apply IsS92.drew) | exact HI0.out)) HO.out (by decide)) hk (fun _ h => h.2)) (fun _ h => h.1)); clear HO2; replace HB := Aside0.mk hb; replace HI0 := Aside0.mk hi; clear hb hk hi) | ((with_reducible refine gate_store (t := 2) (p := 37) rfl ?_); refine Kd.R_store k33  base rfl rfl 2 (.tmp 37) (.tmp 35) rfl 33 (g := gb) (n := n) (cap := cap) (o' := i.toNat * 4 + 3) i 3 xs (⟨(rd_T33 xs i).f0, (rd_T33 xs i).f1, (rd_T33 xs i).f2, t⟩ : S33) (.int .i64 t) [.int .i64 t] [.string (rd_T33 xs i).f0, .int .i64 (rd_T33 xs i).f1, .int .i64 (rd_T33 xs i).f2, .int .i64 (rd_T33 xs i).f3] (fun _ => True) (fun _ => False) ?e1 rfl ?e2 rfl (by kernel_rfl) (by intro q_ hq_; obtain rfl := List.mem_singleton.1 hq_; rfl) HO.out H0.out H1.out rfl ?e3 (by show 3 + 1 ≤ 4; decide) (k33_mkM _ _ _ _) (fun _ hk => hk.elim) (Below.refl _ _) ?_; (case e1 => first | (go_simp; done) | (go_simp; rfl) | rfl); (case e2 => first | (go_simp; done) | (go_simp; rfl) | rfl); (case e3 => exact spec_l24Draw.cells4 HO.out i H0.out H1.out); intro w4 hO4 _hB4 hG4; have HO4 := Aside0.mk hO4; have HG4 := Aside0.mk hG4; clear hO4 _hB4 hG4))
    go_end0
    exact ⟨rfl, HO4.out, IsS92.grown HI0.out HG4.out (by intro e; injection e with e; exact HNE.out e.symm), HB.out.grown HG4.out HB.out.size (fun k e => by injection e with e; subst e; exact Nat.le_trans HBS.out (Kd.R_base HO.out _ rfl)), spec_l24Draw.keep4 HK.out HG4.out⟩
  rw [if_neg c3] at hf
  have d3 : decide (q = 3) = false := decide_eq_false c3
  have e3 : (q == 3) = false := by rw [beq_eq_false_iff_ne]; exact c3
  simp only [Option.some.injEq, Prod.mk.injEq] at hf
  obtain ⟨rfl, rfl, rfl⟩ := hf
  go_enter Tryz.func54, Tryz.ntmps54
  go_wp2_with (first | ((with_reducible refine gate_callee (f := 64) rfl ?_); refine Hl.gl (some 5) rfl rfl Tryz.func64 (by kernel_rfl) rfl #[.pointer (some ⟨g, 0, none⟩), .int .i64 4] rfl ?_; refine (spec_l00Src_pick.calls g s p h 4 _ p1 h1 w0 _ ?s1 ?s2 HA1.out).mono ?_; (case s1 => exact (by repeat (first | (with_reducible first | exact HI0.out | apply IsS92.alloc | apply IsS92.drewN | apply IsS92.drew) | exact HI0.out))); (case s2 => exact (by repeat (first | (with_reducible first | exact HB.out | apply below_alloc | apply pw_below_drewN | apply below_drew1) | exact HB.out | exact Below.refl _ _))); rintro e w1 ⟨rfl, hi, hb, hk⟩; refine ⟨_, rfl, ?_⟩; replace HK := Aside0.mk (KeepBut.trans (by repeat (first | (with_reducible first | exact HK.out | apply keep_drewN | apply keep_drew | apply keep_alloc) | exact HK.out)) hk (.inl rfl)); replace HO := Aside0.mk (Kd.R_mono (Kd.R_keep (IsS92.apart (show IsS92 w0 _ g s p h from by repeat (first | (with_reducible first | exact HI0.out | apply IsS92.alloc | apply IsS92.drewN | apply IsS92.drew) | exact HI0.out)) HO.out (by decide)) hk (fun _ h => h.2)) (fun _ h => h.1)); replace HB := Aside0.mk hb; replace HI0 := Aside0.mk hi; clear hb hk hi))
  go_end0
  exact ⟨rfl, by rw [spec_l24Draw.same4 _ _ H0.out]; exact HO.out, HI0.out, HB.out, ⟨HK.out.1, fun i_ hi_ hg_ _ => HK.out.2 i_ hi_ hg_ (by simp)⟩⟩
theorem spec_l24Draw.grow4 (W : World) (gb j : Nat) (u : Value) : W.grownBy (W.setCell ⟨gb, j, none⟩ u) (some gb) :=
  ⟨rfl, rfl, rfl, by simp [World.setCell], fun k _ hk => Below.heap_setCell W ⟨gb, j, none⟩ u k (fun e => hk (by rw [e]))⟩
set_option maxHeartbeats 8000000 in
set_option maxRecDepth 100000 in
/-- spec.l24Spoil at a variable that the caller has made. -/
theorem spec_l24Draw.spoilB (g : Nat) (s : List Int) (p h : Int) (gb : Nat) (x : S33) (y : S33) (p2 h2 : Int) (w0 w : World) (hI : IsS92 w0 w g s p h) (hB : Below w0.heap.size w0 w) (hX : w.heap[gb]? = some (.cells #[.string x.f0, .int .i64 x.f1, .int .i64 x.f2, .int .i64 x.f3] 33 (0, 0))) (hne : gb ≠ g) (hge : w0.heap.size ≤ gb) (hf : spec_l24Draw.sp s p h x = some (y, p2, h2)) :
    Calls Tryz.prog 54 #[.pointer (some ⟨g, 0, none⟩), .pointer (some ⟨gb, 0, none⟩)] w fun e w' => e = .returned (.tuple #[]) ∧ w'.heap[gb]? = some (.cells #[.string y.f0, .int .i64 y.f1, .int .i64 y.f2, .int .i64 y.f3] 33 (0, 0)) ∧ IsS92 w0 w' g s p2 h2 ∧ Below w0.heap.size w0 w' ∧ KeepBut w w' g (some gb) := by
  have hu := Tryz.underlying33
  unfold spec_l24Draw.sp at hf
  obtain ⟨⟨q, p1, h1⟩, A1, hf⟩ := Option.bind_eq_some_iff.1 hf
  dsimp only at hf
  have HA1 := Aside0.mk A1
  have HI0 := Aside0.mk hI
  have HB := Aside0.mk hB
  have HK := Aside0.mk (KeepBut.refl w g none)
  have HX := Aside0.mk hX
  have HNE := Aside0.mk hne
  have HGE := Aside0.mk hge
  clear A1 hI hB hX hne hge
  by_cases c0 : q = 0
  · rw [if_pos c0] at hf
    obtain ⟨⟨t, p3, h3⟩, A2, hf⟩ := Option.bind_eq_some_iff.1 hf
    dsimp only at hf A2
    have HA2 := Aside0.mk A2
    simp only [Option.some.injEq, Prod.mk.injEq] at hf
    obtain ⟨rfl, rfl, rfl⟩ := hf
    clear A2
    obtain ⟨L, hL⟩ : ∃ L : List ByteArray, L = ([(⟨#[]⟩ : ByteArray), (⟨#[83, 99, 104, 111, 111, 108]⟩ : ByteArray), (⟨#[97, 32, 98]⟩ : ByteArray)] : List ByteArray) := ⟨_, rfl⟩
    rw [← hL] at HA2
    have HL := Aside0.mk hL
    clear hL
    subst c0
    go_enter Tryz.func54, Tryz.ntmps54
    go_wp2_with (first | ((with_reducible refine gate_callee (f := 64) rfl ?_); refine Hl.gl (some 5) rfl rfl Tryz.func64 (by kernel_rfl) rfl #[.pointer (some ⟨g, 0, none⟩), .int .i64 4] rfl ?_; refine (spec_l00Src_pick.calls g s p h 4 _ p1 h1 w0 _ ?s1 ?s2 HA1.out).mono ?_; (case s1 => exact (by repeat (first | (with_reducible first | exact HI0.out | apply IsS92.alloc | apply IsS92.drewN | apply IsS92.drew) | exact HI0.out))); (case s2 => exact (by repeat (first | (with_reducible first | exact HB.out | apply below_alloc | apply pw_below_drewN | apply below_drew1) | exact HB.out | exact Below.refl _ _))); rintro e w1 ⟨rfl, hi, hb, hk⟩; refine ⟨_, rfl, ?_⟩; replace HK := Aside0.mk (KeepBut.trans (by repeat (first | (with_reducible first | exact HK.out | apply keep_drewN | apply keep_drew | apply keep_alloc) | exact HK.out)) hk (.inl rfl)); replace HX := Aside0.mk (KeepBut.blk hk HX.out HNE.out (by simp)); replace HB := Aside0.mk hb; replace HI0 := Aside0.mk hi; clear hb hk hi) | ((with_reducible refine gate_dst (N := 10) rfl ?_); refine Kd.R_lit Kd.string _ 9 ?hg (N := 10) ?hd (xs := ([(⟨#[]⟩ : ByteArray), (⟨#[83, 99, 104, 111, 111, 108]⟩ : ByteArray), (⟨#[97, 32, 98]⟩ : ByteArray)] : List ByteArray)) (inner := [.string (⟨#[]⟩ : ByteArray), .string (⟨#[83, 99, 104, 111, 111, 108]⟩ : ByteArray), .string (⟨#[97, 32, 98]⟩ : ByteArray)]) (ok := fun _ => True) (okp := fun _ => True) ?hr ?hp (fun _ hk => hk) trivial (Below.refl _ _) (Nat.le_refl _) (by simp) ?_; (case hd => rfl); (case hg => rfl); (case hr => first | (go_simp; done) | (go_simp; rfl)); (case hp => exact (Reps.one (show Kd.M Kd.string _ _ _ (⟨#[]⟩ : ByteArray) [.string (⟨#[]⟩ : ByteArray)] from rfl) (Reps.one (show Kd.M Kd.string _ _ _ (⟨#[83, 99, 104, 111, 111, 108]⟩ : ByteArray) [.string (⟨#[83, 99, 104, 111, 111, 108]⟩ : ByteArray)] from rfl) (Reps.one (show Kd.M Kd.string _ _ _ (⟨#[97, 32, 98]⟩ : ByteArray) [.string (⟨#[97, 32, 98]⟩ : ByteArray)] from rfl) (Reps.none _ _))))); intro v2 w2 ho2 hb hg_ hnew_; clear hg_ hnew_; rw [← HL.out] at ho2; have HO2 := Aside0.mk ho2; replace HX := Aside0.mk (blk_below HX.out hb); replace HK := Aside0.mk (KeepBut.trans (by repeat (first | (with_reducible first | exact HK.out | apply keep_drewN | apply keep_drew | apply keep_alloc) | exact HK.out)) (KeepBut.of_below hb g none) (.inl rfl)); replace HB := Aside0.mk (below_step (by repeat (first | (with_reducible first | exact HB.out | apply below_alloc | apply pw_below_drewN | apply below_drew1) | exact HB.out | exact Below.refl _ _)) hb); replace HI0 := Aside0.mk (IsS92.below (by repeat (first | (with_reducible first | exact HI0.out | apply IsS92.alloc | apply IsS92.drewN | apply IsS92.drew) | exact HI0.out)) hb); clear hb ho2; obtain ⟨A3, c3, e3⟩ := Kd.R_slice HO2.out; subst e3) | ((with_reducible refine gate_callee (f := 84) rfl ?_); refine Hl.gl (some 11) rfl rfl Tryz.func84 (by kernel_rfl) rfl #[.pointer (some ⟨g, 0, none⟩), .slice A3 L.length c3] rfl ?_; refine (spec_l00Src_text.calls g s p1 h1 _ _ L t p3 h3 w0 _ ?s1 ?s2 ?s3 ?s4 ?s5 HA2.out).mono ?_; (case s1 => exact (by repeat (first | (with_reducible first | exact HI0.out | apply IsS92.alloc | apply IsS92.drewN | apply IsS92.drew) | exact HI0.out))); (case s2 => exact (by repeat (first | (with_reducible first | exact HB.out | apply below_alloc | apply pw_below_drewN | apply below_drew1) | exact HB.out | exact Below.refl _ _))); (case s3 => exact (Kd.R_reads' HO2.out).2.2); (case s4 => exact (Kd.R_reads' HO2.out).2.1); (case s5 => exact far_slice (IsS92.own_ne HI0.out HO2.out (by decide))); rintro e w3 ⟨rfl, hi, hb, hk⟩; refine ⟨_, rfl, ?_⟩; replace HK := Aside0.mk (KeepBut.trans (by repeat (first | (with_reducible first | exact HK.out | apply keep_drewN | apply keep_drew | apply keep_alloc) | exact HK.out)) hk (.inl rfl)); replace HX := Aside0.mk (KeepBut.blk hk HX.out HNE.out (by simp)); clear HO2; replace HB := Aside0.mk hb; replace HI0 := Aside0.mk hi; clear hb hk hi; have hcj : w3.cell? ⟨gb, 0, none⟩ = some (.string x.f0) := (blk_cell HX.out 0).trans rfl; have hfj : w3.frozen? ⟨gb, 0, none⟩ = false := blk_frozen HX.out 0; have HW3 := Aside0.mk (show w3 = w3 from rfl)))
    go_end0
    have HG4 := spec_l24Draw.grow4 w3 gb 0 (.string t)
    exact ⟨rfl, by simpa using blk_set HX.out 0 (.string t), IsS92.grown HI0.out HG4 (by intro e; injection e with e; exact HNE.out e.symm), HB.out.grown HG4 HB.out.size (fun k e => by injection e with e; subst e; exact HGE.out), spec_l24Draw.keep4 HK.out HG4⟩
  rw [if_neg c0] at hf
  have d0 : decide (q = 0) = false := decide_eq_false c0
  have e0 : (q == 0) = false := by rw [beq_eq_false_iff_ne]; exact c0
  by_cases c1 : q = 1
  · rw [if_pos c1] at hf
    obtain ⟨⟨t, p3, h3⟩, A2, hf⟩ := Option.bind_eq_some_iff.1 hf
    dsimp only at hf A2
    have HA2 := Aside0.mk A2
    simp only [Option.some.injEq, Prod.mk.injEq] at hf
    obtain ⟨rfl, rfl, rfl⟩ := hf
    clear A2
    obtain ⟨L, hL⟩ : ∃ L : List Int, L = ([(-1), 0, 1, 200, 201] : List Int) := ⟨_, rfl⟩
    rw [← hL] at HA2
    have HL := Aside0.mk hL
    clear hL
    subst c1
    go_enter Tryz.func54, Tryz.ntmps54
    go_wp2_with (first | ((with_reducible refine gate_callee (f := 64) rfl ?_); refine Hl.gl (some 5) rfl rfl Tryz.func64 (by kernel_rfl) rfl #[.pointer (some ⟨g, 0, none⟩), .int .i64 4] rfl ?_; refine (spec_l00Src_pick.calls g s p h 4 _ p1 h1 w0 _ ?s1 ?s2 HA1.out).mono ?_; (case s1 => exact (by repeat (first | (with_reducible first | exact HI0.out | apply IsS92.alloc | apply IsS92.drewN | apply IsS92.drew) | exact HI0.out))); (case s2 => exact (by repeat (first | (with_reducible first | exact HB.out | apply below_alloc | apply pw_below_drewN | apply below_drew1) | exact HB.out | exact Below.refl _ _))); rintro e w1 ⟨rfl, hi, hb, hk⟩; refine ⟨_, rfl, ?_⟩; replace HK := Aside0.mk (KeepBut.trans (by repeat (first | (with_reducible first | exact HK.out | apply keep_drewN | apply keep_drew | apply keep_alloc) | exact HK.out)) hk (.inl rfl)); replace HX := Aside0.mk (KeepBut.blk hk HX.out HNE.out (by simp)); replace HB := Aside0.mk hb; replace HI0 := Aside0.mk hi; clear hb hk hi) | ((with_reducible refine gate_dst (N := 18) rfl ?_); refine Kd.R_lit (Kd.int .i64) _ 2 ?hg (N := 18) ?hd (xs := ([(-1), 0, 1, 200, 201] : List Int)) (inner := [.int .i64 (-1), .int .i64 0, .int .i64 1, .int .i64 200, .int .i64 201]) (ok := fun _ => True) (okp := fun _ => True) ?hr ?hp (fun _ hk => hk) trivial (Below.refl _ _) (Nat.le_refl _) (by simp) ?_; (case hd => rfl); (case hg => rfl); (case hr => first | (go_simp; done) | (go_simp; rfl)); (case hp => exact (Reps.one (show Kd.M (Kd.int .i64) _ _ _ (-1) [.int .i64 (-1)] from rfl) (Reps.one (show Kd.M (Kd.int .i64) _ _ _ 0 [.int .i64 0] from rfl) (Reps.one (show Kd.M (Kd.int .i64) _ _ _ 1 [.int .i64 1] from rfl) (Reps.one (show Kd.M (Kd.int .i64) _ _ _ 200 [.int .i64 200] from rfl) (Reps.one (show Kd.M (Kd.int .i64) _ _ _ 201 [.int .i64 201] from rfl) (Reps.none _ _))))))); intro v2 w2 ho2 hb hg_ hnew_; clear hg_ hnew_; rw [← HL.out] at ho2; have HO2 := Aside0.mk ho2; replace HX := Aside0.mk (blk_below HX.out hb); replace HK := Aside0.mk (KeepBut.trans (by repeat (first | (with_reducible first | exact HK.out | apply keep_drewN | apply keep_drew | apply keep_alloc) | exact HK.out)) (KeepBut.of_below hb g none) (.inl rfl)); replace HB := Aside0.mk (below_step (by repeat (first | (with_reducible first | exact HB.out | apply below_alloc | apply pw_below_drewN | apply below_drew1) | exact HB.out | exact Below.refl _ _)) hb); replace HI0 := Aside0.mk (IsS92.below (by repeat (first | (with_reducible first | exact HI0.out | apply IsS92.alloc | apply IsS92.drewN | apply IsS92.drew) | exact HI0.out)) hb); clear hb ho2; obtain ⟨A3, c3, e3⟩ := Kd.R_slice HO2.out; subst e3) | ((with_reducible refine gate_callee (f := 58) rfl ?_); refine Hl.gl (some 19) rfl rfl Tryz.func58 (by kernel_rfl) rfl #[.pointer (some ⟨g, 0, none⟩), .slice A3 L.length c3] rfl ?_; refine (spec_l00Src_among.calls g s p1 h1 _ _ L t p3 h3 w0 _ ?s1 ?s2 ?s3 ?s4 ?s5 HA2.out).mono ?_; (case s1 => exact (by repeat (first | (with_reducible first | exact HI0.out | apply IsS92.alloc | apply IsS92.drewN | apply IsS92.drew) | exact HI0.out))); (case s2 => exact (by repeat (first | (with_reducible first | exact HB.out | apply below_alloc | apply pw_below_drewN | apply below_drew1) | exact HB.out | exact Below.refl _ _))); (case s3 => exact (Kd.R_reads' HO2.out).2.2); (case s4 => exact (Kd.R_reads' HO2.out).2.1); (case s5 => exact far_slice (IsS92.own_ne HI0.out HO2.out (by decide))); rintro e w3 ⟨rfl, hi, hb, hk⟩; refine ⟨_, rfl, ?_⟩; replace HK := Aside0.mk (KeepBut.trans (by repeat (first | (with_reducible first | exact HK.out | apply keep_drewN | apply keep_drew | apply keep_alloc) | exact HK.out)) hk (.inl rfl)); replace HX := Aside0.mk (KeepBut.blk hk HX.out HNE.out (by simp)); clear HO2; replace HB := Aside0.mk hb; replace HI0 := Aside0.mk hi; clear hb hk hi; have hcj : w3.cell? ⟨gb, 1, none⟩ = some (.int .i64 x.f1) := (blk_cell HX.out 1).trans rfl; have hfj : w3.frozen? ⟨gb, 1, none⟩ = false := blk_frozen HX.out 1; have HW3 := Aside0.mk (show w3 = w3 from rfl)))
    go_end0
    have HG4 := spec_l24Draw.grow4 w3 gb 1 (.int .i64 t)
    exact ⟨rfl, by simpa using blk_set HX.out 1 (.int .i64 t), IsS92.grown HI0.out HG4 (by intro e; injection e with e; exact HNE.out e.symm), HB.out.grown HG4 HB.out.size (fun k e => by injection e with e; subst e; exact HGE.out), spec_l24Draw.keep4 HK.out HG4⟩
  rw [if_neg c1] at hf
  have d1 : decide (q = 1) = false := decide_eq_false c1
  have e1 : (q == 1) = false := by rw [beq_eq_false_iff_ne]; exact c1
  by_cases c2 : q = 2
  · rw [if_pos c2] at hf
    obtain ⟨⟨t, p3, h3⟩, A2, hf⟩ := Option.bind_eq_some_iff.1 hf
    dsimp only at hf A2
    have HA2 := Aside0.mk A2
    simp only [Option.some.injEq, Prod.mk.injEq] at hf
    obtain ⟨rfl, rfl, rfl⟩ := hf
    clear A2
    obtain ⟨L, hL⟩ : ∃ L : List Int, L = ([(-1), 0, 1, 100, 101, (-9223372036854775808)] : List Int) := ⟨_, rfl⟩
    rw [← hL] at HA2
    have HL := Aside0.mk hL
    clear hL
    subst c2
    go_enter Tryz.func54, Tryz.ntmps54
    go_wp2_with (first | ((with_reducible refine gate_callee (f := 64) rfl ?_); refine Hl.gl (some 5) rfl rfl Tryz.func64 (by kernel_rfl) rfl #[.pointer (some ⟨g, 0, none⟩), .int .i64 4] rfl ?_; refine (spec_l00Src_pick.calls g s p h 4 _ p1 h1 w0 _ ?s1 ?s2 HA1.out).mono ?_; (case s1 => exact (by repeat (first | (with_reducible first | exact HI0.out | apply IsS92.alloc | apply IsS92.drewN | apply IsS92.drew) | exact HI0.out))); (case s2 => exact (by repeat (first | (with_reducible first | exact HB.out | apply below_alloc | apply pw_below_drewN | apply below_drew1) | exact HB.out | exact Below.refl _ _))); rintro e w1 ⟨rfl, hi, hb, hk⟩; refine ⟨_, rfl, ?_⟩; replace HK := Aside0.mk (KeepBut.trans (by repeat (first | (with_reducible first | exact HK.out | apply keep_drewN | apply keep_drew | apply keep_alloc) | exact HK.out)) hk (.inl rfl)); replace HX := Aside0.mk (KeepBut.blk hk HX.out HNE.out (by simp)); replace HB := Aside0.mk hb; replace HI0 := Aside0.mk hi; clear hb hk hi) | ((with_reducible refine gate_dst (N := 26) rfl ?_); refine Kd.R_lit (Kd.int .i64) _ 2 ?hg (N := 26) ?hd (xs := ([(-1), 0, 1, 100, 101, (-9223372036854775808)] : List Int)) (inner := [.int .i64 (-1), .int .i64 0, .int .i64 1, .int .i64 100, .int .i64 101, .int .i64 (-9223372036854775808)]) (ok := fun _ => True) (okp := fun _ => True) ?hr ?hp (fun _ hk => hk) trivial (Below.refl _ _) (Nat.le_refl _) (by simp) ?_; (case hd => rfl); (case hg => rfl); (case hr => first | (go_simp; done) | (go_simp; rfl)); (case hp => exact (Reps.one (show Kd.M (Kd.int .i64) _ _ _ (-1) [.int .i64 (-1)] from rfl) (Reps.one (show Kd.M (Kd.int .i64) _ _ _ 0 [.int .i64 0] from rfl) (Reps.one (show Kd.M (Kd.int .i64) _ _ _ 1 [.int .i64 1] from rfl) (Reps.one (show Kd.M (Kd.int .i64) _ _ _ 100 [.int .i64 100] from rfl) (Reps.one (show Kd.M (Kd.int .i64) _ _ _ 101 [.int .i64 101] from rfl) (Reps.one (show Kd.M (Kd.int .i64) _ _ _ (-9223372036854775808) [.int .i64 (-9223372036854775808)] from rfl) (Reps.none _ _)))))))); intro v2 w2 ho2 hb hg_ hnew_; clear hg_ hnew_; rw [← HL.out] at ho2; have HO2 := Aside0.mk ho2; replace HX := Aside0.mk (blk_below HX.out hb); replace HK := Aside0.mk (KeepBut.trans (by repeat (first | (with_reducible first | exact HK.out | apply keep_drewN | apply keep_drew | apply keep_alloc) | exact HK.out)) (KeepBut.of_below hb g none) (.inl rfl)); replace HB := Aside0.mk (below_step (by repeat (first | (with_reducible first | exact HB.out | apply below_alloc | apply pw_below_drewN | apply below_drew1) | exact HB.out | exact Below.refl _ _)) hb); replace HI0 := Aside0.mk (IsS92.below (by repeat (first | (with_reducible first | exact HI0.out | apply IsS92.alloc | apply IsS92.drewN | apply IsS92.drew) | exact HI0.out)) hb); clear hb ho2; obtain ⟨A3, c3, e3⟩ := Kd.R_slice HO2.out; subst e3) | ((with_reducible refine gate_callee (f := 58) rfl ?_); refine Hl.gl (some 27) rfl rfl Tryz.func58 (by kernel_rfl) rfl #[.pointer (some ⟨g, 0, none⟩), .slice A3 L.length c3] rfl ?_; refine (spec_l00Src_among.calls g s p1 h1 _ _ L t p3 h3 w0 _ ?s1 ?s2 ?s3 ?s4 ?s5 HA2.out).mono ?_; (case s1 => exact (by repeat (first | (with_reducible first | exact HI0.out | apply IsS92.alloc | apply IsS92.drewN | apply IsS92.drew) | exact HI0.out))); (case s2 => exact (by repeat (first | (with_reducible first | exact HB.out | apply below_alloc | apply pw_below_drewN | apply below_drew1) | exact HB.out | exact Below.refl _ _))); (case s3 => exact (Kd.R_reads' HO2.out).2.2); (case s4 => exact (Kd.R_reads' HO2.out).2.1); (case s5 => exact far_slice (IsS92.own_ne HI0.out HO2.out (by decide))); rintro e w3 ⟨rfl, hi, hb, hk⟩; refine ⟨_, rfl, ?_⟩; replace HK := Aside0.mk (KeepBut.trans (by repeat (first | (with_reducible first | exact HK.out | apply keep_drewN | apply keep_drew | apply keep_alloc) | exact HK.out)) hk (.inl rfl)); replace HX := Aside0.mk (KeepBut.blk hk HX.out HNE.out (by simp)); clear HO2; replace HB := Aside0.mk hb; replace HI0 := Aside0.mk hi; clear hb hk hi; have hcj : w3.cell? ⟨gb, 2, none⟩ = some (.int .i64 x.f2) := (blk_cell HX.out 2).trans rfl; have hfj : w3.frozen? ⟨gb, 2, none⟩ = false := blk_frozen HX.out 2; have HW3 := Aside0.mk (show w3 = w3 from rfl)))
    go_end0
    have HG4 := spec_l24Draw.grow4 w3 gb 2 (.int .i64 t)
    exact ⟨rfl, by simpa using blk_set HX.out 2 (.int .i64 t), IsS92.grown HI0.out HG4 (by intro e; injection e with e; exact HNE.out e.symm), HB.out.grown HG4 HB.out.size (fun k e => by injection e with e; subst e; exact HGE.out), spec_l24Draw.keep4 HK.out HG4⟩
  rw [if_neg c2] at hf
  have d2 : decide (q = 2) = false := decide_eq_false c2
  have e2 : (q == 2) = false := by rw [beq_eq_false_iff_ne]; exact c2
  by_cases c3 : q = 3
  · rw [if_pos c3] at hf
    obtain ⟨⟨t, p3, h3⟩, A2, hf⟩ := Option.bind_eq_some_iff.1 hf
    dsimp only at hf A2
    have HA2 := Aside0.mk A2
    simp only [Option.some.injEq, Prod.mk.injEq] at hf
    obtain ⟨rfl, rfl, rfl⟩ := hf
    clear A2
    obtain ⟨L, hL⟩ : ∃ L : List Int, L = ([(-1), 0, 20000, 20001] : List Int) := ⟨_, rfl⟩
    rw [← hL] at HA2
    have HL := Aside0.mk hL
    clear hL
    subst c3
    go_enter Tryz.func54, Tryz.ntmps54
    go_wp2_with (first | ((with_reducible refine gate_callee (f := 64) rfl ?_); refine Hl.gl (some 5) rfl rfl Tryz.func64 (by kernel_rfl) rfl #[.pointer (some ⟨g, 0, none⟩), .int .i64 4] rfl ?_; refine (spec_l00Src_pick.calls g s p h 4 _ p1 h1 w0 _ ?s1 ?s2 HA1.out).mono ?_; (case s1 => exact (by repeat (first | (with_reducible first | exact HI0.out | apply IsS92.alloc | apply IsS92.drewN | apply IsS92.drew) | exact HI0.out))); (case s2 => exact (by repeat (first | (with_reducible first | exact HB.out | apply below_alloc | apply pw_below_drewN | apply below_drew1) | exact HB.out | exact Below.refl _ _))); rintro e w1 ⟨rfl, hi, hb, hk⟩; refine ⟨_, rfl, ?_⟩; replace HK := Aside0.mk (KeepBut.trans (by repeat (first | (with_reducible first | exact HK.out | apply keep_drewN | apply keep_drew | apply keep_alloc) | exact HK.out)) hk (.inl rfl)); replace HX := Aside0.mk (KeepBut.blk hk HX.out HNE.out (by simp)); replace HB := Aside0.mk hb; replace HI0 := Aside0.mk hi; clear hb hk hi) | ((with_reducible refine gate_dst (N := 34) rfl ?_); refine Kd.R_lit (Kd.int .i64) _ 2 ?hg (N := 34) ?hd (xs := ([(-1), 0, 20000, 20001] : List Int)) (inner := [.int .i64 (-1), .int .i64 0, .int .i64 20000, .int .i64 20001]) (ok := fun _ => True) (okp := fun _ => True) ?hr ?hp (fun _ hk => hk) trivial (Below.refl _ _) (Nat.le_refl _) (by simp) ?_; (case hd => rfl); (case hg => rfl); (case hr => first | (go_simp; done) | (go_simp; rfl)); (case hp => exact (Reps.one (show Kd.M (Kd.int .i64) _ _ _ (-1) [.int .i64 (-1)] from rfl) (Reps.one (show Kd.M (Kd.int .i64) _ _ _ 0 [.int .i64 0] from rfl) (Reps.one (show Kd.M (Kd.int .i64) _ _ _ 20000 [.int .i64 20000] from rfl) (Reps.one (show Kd.M (Kd.int .i64) _ _ _ 20001 [.int .i64 20001] from rfl) (Reps.none _ _)))))); intro v2 w2 ho2 hb hg_ hnew_; clear hg_ hnew_; rw [← HL.out] at ho2; have HO2 := Aside0.mk ho2; replace HX := Aside0.mk (blk_below HX.out hb); replace HK := Aside0.mk (KeepBut.trans (by repeat (first | (with_reducible first | exact HK.out | apply keep_drewN | apply keep_drew | apply keep_alloc) | exact HK.out)) (KeepBut.of_below hb g none) (.inl rfl)); replace HB := Aside0.mk (below_step (by repeat (first | (with_reducible first | exact HB.out | apply below_alloc | apply pw_below_drewN | apply below_drew1) | exact HB.out | exact Below.refl _ _)) hb); replace HI0 := Aside0.mk (IsS92.below (by repeat (first | (with_reducible first | exact HI0.out | apply IsS92.alloc | apply IsS92.drewN | apply IsS92.drew) | exact HI0.out)) hb); clear hb ho2; obtain ⟨A3, c3, e3⟩ := Kd.R_slice HO2.out; subst e3) | ((with_reducible refine gate_callee (f := 58) rfl ?_); refine Hl.gl (some 35) rfl rfl Tryz.func58 (by kernel_rfl) rfl #[.pointer (some ⟨g, 0, none⟩), .slice A3 L.length c3] rfl ?_; refine (spec_l00Src_among.calls g s p1 h1 _ _ L t p3 h3 w0 _ ?s1 ?s2 ?s3 ?s4 ?s5 HA2.out).mono ?_; (case s1 => exact (by repeat (first | (with_reducible first | exact HI0.out | apply IsS92.alloc | apply IsS92.drewN | apply IsS92.drew) | exact HI0.out))); (case s2 => exact (by repeat (first | (with_reducible first | exact HB.out | apply below_alloc | apply pw_below_drewN | apply below_drew1) | exact HB.out | exact Below.refl _ _))); (case s3 => exact (Kd.R_reads' HO2.out).2.2); (case s4 => exact (Kd.R_reads' HO2.out).2.1); (case s5 => exact far_slice (IsS92.own_ne HI0.out HO2.out (by decide))); rintro e w3 ⟨rfl, hi, hb, hk⟩; refine ⟨_, rfl, ?_⟩; replace HK := Aside0.mk (KeepBut.trans (by repeat (first | (with_reducible first | exact HK.out | apply keep_drewN | apply keep_drew | apply keep_alloc) | exact HK.out)) hk (.inl rfl)); replace HX := Aside0.mk (KeepBut.blk hk HX.out HNE.out (by simp)); clear HO2; replace HB := Aside0.mk hb; replace HI0 := Aside0.mk hi; clear hb hk hi; have hcj : w3.cell? ⟨gb, 3, none⟩ = some (.int .i64 x.f3) := (blk_cell HX.out 3).trans rfl; have hfj : w3.frozen? ⟨gb, 3, none⟩ = false := blk_frozen HX.out 3; have HW3 := Aside0.mk (show w3 = w3 from rfl)))
    go_end0
    have HG4 := spec_l24Draw.grow4 w3 gb 3 (.int .i64 t)
    exact ⟨rfl, by simpa using blk_set HX.out 3 (.int .i64 t), IsS92.grown HI0.out HG4 (by intro e; injection e with e; exact HNE.out e.symm), HB.out.grown HG4 HB.out.size (fun k e => by injection e with e; subst e; exact HGE.out), spec_l24Draw.keep4 HK.out HG4⟩
  rw [if_neg c3] at hf
  have d3 : decide (q = 3) = false := decide_eq_false c3
  have e3 : (q == 3) = false := by rw [beq_eq_false_iff_ne]; exact c3
  simp only [Option.some.injEq, Prod.mk.injEq] at hf
  obtain ⟨rfl, rfl, rfl⟩ := hf
  go_enter Tryz.func54, Tryz.ntmps54
  go_wp2_with (first | ((with_reducible refine gate_callee (f := 64) rfl ?_); refine Hl.gl (some 5) rfl rfl Tryz.func64 (by kernel_rfl) rfl #[.pointer (some ⟨g, 0, none⟩), .int .i64 4] rfl ?_; refine (spec_l00Src_pick.calls g s p h 4 _ p1 h1 w0 _ ?s1 ?s2 HA1.out).mono ?_; (case s1 => exact (by repeat (first | (with_reducible first | exact HI0.out | apply IsS92.alloc | apply IsS92.drewN | apply IsS92.drew) | exact HI0.out))); (case s2 => exact (by repeat (first | (with_reducible first | exact HB.out | apply below_alloc | apply pw_below_drewN | apply below_drew1) | exact HB.out | exact Below.refl _ _))); rintro e w1 ⟨rfl, hi, hb, hk⟩; refine ⟨_, rfl, ?_⟩; replace HK := Aside0.mk (KeepBut.trans (by repeat (first | (with_reducible first | exact HK.out | apply keep_drewN | apply keep_drew | apply keep_alloc) | exact HK.out)) hk (.inl rfl)); replace HX := Aside0.mk (KeepBut.blk hk HX.out HNE.out (by simp)); replace HB := Aside0.mk hb; replace HI0 := Aside0.mk hi; clear hb hk hi))
  go_end0
  exact ⟨rfl, HX.out, HI0.out, HB.out, ⟨HK.out.1, fun i_ hi_ hg_ _ => HK.out.2 i_ hi_ hg_ (by simp)⟩⟩
mutual
def spec_l24Draw.j0 : Nat → List (S33) → Int → List Int → Int → Int → Option ((List (S33)) × Int × Int)
 | 0, _, _, _, _, _ => none
 | k + 1, x3, x4, x1000, x1001, x1002 => spec_l24Draw.l0 k x3 x4 x4 x1000 x1001 x1002
def spec_l24Draw.l0 : Nat → List (S33) → Int → Int → List Int → Int → Int → Option ((List (S33)) × Int × Int)
 | 0, _, _, _, _, _, _ => none
 | k + 1, x3, x4, x5, x1000, x1001, x1002 => if x5 > 0 then ((spec_l24New.f x1000 x1001 x1002).bind fun bt152 => (if x3.length < 3518437208883 then (spec_l24Draw.l0 k (x3 ++ [(⟨bt152.1, bt152.2.1, bt152.2.2.1, bt152.2.2.2.1⟩ : S33)]) x4 (wrap64 (x5 - 1)) x1000 bt152.2.2.2.2.1 bt152.2.2.2.2.2) else (none))) else (if x4 > 0 then ((spec_l00Src_one.f x1000 x1001 x1002 10).bind fun bt161 => (if bt161.1 = true then ((spec_l00Src_pick.f x1000 bt161.2.1 bt161.2.2 x4).bind fun bt164 => (if 0 ≤ bt164.1 then (if bt164.1 < (x3.length : Int) then ((spec_l24Draw.sp x1000 bt164.2.1 bt164.2.2 (rd_T33 x3 bt164.1)).bind fun y => (some (x3.set bt164.1.toNat y.1, y.2.1, y.2.2))) else none) else none)) else (some (x3, bt161.2.1, bt161.2.2)))) else (some (x3, x1001, x1002)))
end
def spec_l24Draw.f (k : Nat) (s0_0 : List Int) (s0_1 : Int) (s0_2 : Int) : Option ((List (S33)) × Int × Int) := (some (([] : List (S33)) : List (S33))).bind fun y140 => ((spec_l00Src_pick.f s0_0 s0_1 s0_2 8).bind fun bt143 => ((spec_l00Src_one.f s0_0 bt143.2.1 bt143.2.2 20).bind fun bt146 => (if bt146.1 = true then ((spec_l00Src_pick.f s0_0 bt146.2.1 bt146.2.2 2).bind fun bt149 => (spec_l24Draw.j0 k y140 (wrap64 (40 + bt149.1)) s0_0 bt149.2.1 bt149.2.2)) else (spec_l24Draw.j0 k y140 bt143.1 s0_0 bt146.2.1 bt146.2.2))))
theorem spec_l24Draw.mono_l : ∀ k, (∀ y0 y1 y2 y3 y4, LeO (spec_l24Draw.j0 k y0 y1 y2 y3 y4) (spec_l24Draw.j0 (k + 1) y0 y1 y2 y3 y4)) ∧ (∀ y0 y1 y2 y3 y4 y5, LeO (spec_l24Draw.l0 k y0 y1 y2 y3 y4 y5) (spec_l24Draw.l0 (k + 1) y0 y1 y2 y3 y4 y5))
 | 0 => ⟨fun _ _ _ _ _ r h => by simp [spec_l24Draw.j0] at h, fun _ _ _ _ _ _ r h => by simp [spec_l24Draw.l0] at h⟩
 | k + 1 => by
  obtain ⟨ih0, ih1⟩ := spec_l24Draw.mono_l k
  refine ⟨?_, ?_⟩
  ·
   intro y0 y1 y2 y3 y4
   unfold spec_l24Draw.j0
   repeat' first
   | (with_reducible exact ih0 _ _ _ _ _)
   | (with_reducible exact ih1 _ _ _ _ _ _)
   | (with_reducible exact LeO.refl _)
   | (with_reducible exact LeO.none _)
   | (with_reducible refine LeO.ite ?_ ?_)
   | (with_reducible refine LeO.bind ?_ (fun _ => ?_))
   | exact ih0 _ _ _ _ _
   | exact ih1 _ _ _ _ _ _
   | exact LeO.none _
   | refine LeO.ite ?_ ?_
   | refine LeO.bind ?_ (fun _ => ?_)
  ·
   intro y0 y1 y2 y3 y4 y5
   unfold spec_l24Draw.l0
   repeat' first
   | (with_reducible exact ih0 _ _ _ _ _)
   | (with_reducible exact ih1 _ _ _ _ _ _)
   | (with_reducible exact LeO.refl _)
   | (with_reducible exact LeO.none _)
   | (with_reducible refine LeO.ite ?_ ?_)
   | (with_reducible refine LeO.bind ?_ (fun _ => ?_))
   | exact ih0 _ _ _ _ _
   | exact ih1 _ _ _ _ _ _
   | exact LeO.none _
   | refine LeO.ite ?_ ?_
   | refine LeO.bind ?_ (fun _ => ?_)
theorem spec_l24Draw.mono : ∀ a0 a1 a2 k, LeO (spec_l24Draw.f k a0 a1 a2) (spec_l24Draw.f (k + 1) a0 a1 a2) := by
 intro a0 a1 a2 k
 obtain ⟨ih0, ih1⟩ := spec_l24Draw.mono_l k
 unfold spec_l24Draw.f
 repeat' first
   | (with_reducible exact ih0 _ _ _ _ _)
   | (with_reducible exact ih1 _ _ _ _ _ _)
   | (with_reducible exact LeO.refl _)
   | (with_reducible exact LeO.none _)
   | (with_reducible refine LeO.ite ?_ ?_)
   | (with_reducible refine LeO.bind ?_ (fun _ => ?_))
   | exact ih0 _ _ _ _ _
   | exact ih1 _ _ _ _ _ _
   | exact LeO.none _
   | refine LeO.ite ?_ ?_
   | refine LeO.bind ?_ (fun _ => ?_)
set_option maxHeartbeats 8000000 in
set_option maxRecDepth 100000 in
theorem spec_l24Draw.calls (k : Nat) (g : Nat) (s0_0 : List Int) (s0_1 : Int) (s0_2 : Int) (r1 : List (S33)) (r2 : Int) (r3 : Int) (w0 w : World) (hI : IsS92 w0 w g s0_0 s0_1 s0_2) (hB : Below w0.heap.size w0 w) (h : spec_l24Draw.f k s0_0 s0_1 s0_2 = some (r1, r2, r3)) :
  Calls Tryz.prog 51 #[.pointer (some ⟨g, 0, none⟩)] w fun e w' => ∃ v0_ : Value, e = .returned (v0_) ∧ Kd.R k33 33 w' w.heap.size (fun _ => True) v0_ r1 ∧ IsS92 w0 w' g s0_0 r2 r3 ∧ Below w0.heap.size w0 w' ∧ KeepBut w w' g none := by
 have HI0 := Hl.am hI
 have HK := Hl.am (KeepBut.refl w g none)
 have HL := Hl.am hB.size
 clear hI
 have HW0 := Hl.am hB.size
 have HB := Hl.am hB
 clear hB
 have H : ((some (([] : List (S33)) : List (S33))).bind fun y140 => ((spec_l00Src_pick.f s0_0 s0_1 s0_2 8).bind fun bt143 => ((spec_l00Src_one.f s0_0 bt143.2.1 bt143.2.2 20).bind fun bt146 => (if bt146.1 = true then ((spec_l00Src_pick.f s0_0 bt146.2.1 bt146.2.2 2).bind fun bt149 => (spec_l24Draw.j0 k y140 (wrap64 (40 + bt149.1)) s0_0 bt149.2.1 bt149.2.2)) else (spec_l24Draw.j0 k y140 bt143.1 s0_0 bt146.2.1 bt146.2.2))))) = some (r1, r2, r3) := h
 clear h
 obtain ⟨y140, hy140⟩ : ∃ y_ : List (S33), y_ = (([] : List (S33))) := ⟨_, rfl⟩
 replace H : ((spec_l00Src_pick.f s0_0 s0_1 s0_2 8).bind fun bt143 => ((spec_l00Src_one.f s0_0 bt143.2.1 bt143.2.2 20).bind fun bt146 => (if bt146.1 = true then ((spec_l00Src_pick.f s0_0 bt146.2.1 bt146.2.2 2).bind fun bt149 => (spec_l24Draw.j0 k y140 (wrap64 (40 + bt149.1)) s0_0 bt149.2.1 bt149.2.2)) else (spec_l24Draw.j0 k y140 bt143.1 s0_0 bt146.2.1 bt146.2.2)))) = some (r1, r2, r3) := by first | (rw [hy140]; with_reducible exact H) | (have H2_ := (Option.bind_some _ _).symm.trans H; rw [hy140]; with_reducible exact H2_) | (have H2_ := (Option.bind_some _ _).symm.trans H; with_reducible exact H2_) | with_reducible exact H | (rw [hy140]; exact H) | exact H
 have Ny140 := Hl.am hy140
 clear hy140
 replace H := Option.bind_eq_some_iff.mp H
 obtain ⟨⟨t143, t144, t145⟩, A20, H⟩ := H
 (try dsimp only at H)
 have A2 := Hl.am A20
 clear A20
 replace H := Option.bind_eq_some_iff.mp H
 obtain ⟨⟨t146, t147, t148⟩, A30, H⟩ := H
 (try dsimp only at H)
 have A3 := Hl.am A30
 clear A30
 have HC4 := Hl.am H
 clear H
 go_enter Tryz.func51, Tryz.ntmps51
 go_upto_if 10 with (first | ((with_reducible refine gate_dst (N := 6) rfl ?_); refine Kd.R_lit k33 _ 33 ?hg (N := 6) ?hd (xs := ([] : List (S33))) (inner := []) (ok := fun _ => True) (okp := fun _ => True) ?hr ?hp (fun _ hk => hk) trivial (Below.refl _ _) (Nat.le_refl _) (by simp) ?_; (case hd => rfl); (case hg => rfl); (case hr => first | (go_simp; done) | (go_simp; rfl)); (case hp => exact (Reps.none _ _)); intro v141 w5 ho6 hb hg_ hnew_; clear hg_ hnew_; (first | rw [← Ny140.out] at ho6 | (simp only [Int.reduceToNat] at ho6; rw [← Ny140.out] at ho6)); have HO142 := Hl.am (Kd.R_lower ho6 (keep_size (w := w) (g := g) (row := none) (by repeat (first | (with_reducible first | exact HK.out | apply KeepBut.set_ | apply keep_drewN | apply keep_drew | apply keep_alloc) | exact HK.out)))); replace HK := Hl.am (KeepBut.trans (by repeat (first | (with_reducible first | exact HK.out | apply KeepBut.set_ | apply keep_drewN | apply keep_drew | apply keep_alloc) | exact HK.out)) (KeepBut.of_below hb g none) (.inl rfl)); replace HB := Hl.am (below_step (by repeat (first | (with_reducible first | exact HB.out | apply below_alloc | apply pw_below_drewN | apply below_drew1 | refine below_set ?_ (IsS92.ge HI0.out)) | exact HB.out | exact Below.refl _ _)) hb); replace HI0 := Hl.am (IsS92.below (by repeat (first | (with_reducible first | exact HI0.out | apply IsS92.alloc | apply IsS92.drewN | apply IsS92.drew | apply IsS92.set_1 | apply IsS92.set_2) | exact HI0.out)) hb); clear hb ho6) | ((with_reducible refine gate_callee (f := 64) rfl ?_); refine Hl.gl (some 8) rfl rfl Tryz.func64 (by kernel_rfl) rfl #[.pointer (some ⟨g, 0, none⟩), .int .i64 8] rfl ?_; (with_reducible refine (spec_l00Src_pick.calls g s0_0 s0_1 s0_2 8 t143 t144 t145 w0 _ ?side1 ?side2 A2.out).mono ?_); (case side1 => repeat (first | (with_reducible first | exact HI0.out | apply IsS92.alloc | apply IsS92.drewN | apply IsS92.drew | apply IsS92.set_1 | apply IsS92.set_2) | exact HI0.out)); (case side2 => repeat (first | (with_reducible first | exact HB.out | apply below_alloc | apply pw_below_drewN | apply below_drew1 | refine below_set ?_ (IsS92.ge HI0.out)) | exact HB.out | exact Below.refl _ _)); rintro e w7 ⟨rfl, hi, hb, hk⟩; refine ⟨_, rfl, ?_⟩; replace HO142 := Hl.am (Kd.R_mono (Kd.R_keep (IsS92.apart (show IsS92 w0 _ g s0_0 s0_1 s0_2 from by repeat (first | (with_reducible first | exact HI0.out | apply IsS92.alloc | apply IsS92.drewN | apply IsS92.drew | apply IsS92.set_1 | apply IsS92.set_2) | exact HI0.out)) (Hl.rr HO142) (by decide)) hk (fun _ h => h.2)) (fun _ h => h.1)); replace HK := Hl.am (KeepBut.trans (by repeat (first | (with_reducible first | exact HK.out | apply KeepBut.set_ | apply keep_drewN | apply keep_drew | apply keep_alloc) | exact HK.out)) hk (.inl rfl)); replace HB := Hl.am (hb); replace HI0 := Hl.am (hi); (try clear hb); (try clear hk); (try clear hi)) | ((with_reducible refine gate_callee (f := 53) rfl ?_); refine Hl.gl (some 10) rfl rfl Tryz.func53 (by kernel_rfl) rfl #[.pointer (some ⟨g, 0, none⟩), .int .i64 20] rfl ?_; (with_reducible refine (spec_l00Src_one.calls g s0_0 t144 t145 20 t146 t147 t148 w0 _ ?side1 ?side2 A3.out).mono ?_); (case side1 => repeat (first | (with_reducible first | exact HI0.out | apply IsS92.alloc | apply IsS92.drewN | apply IsS92.drew | apply IsS92.set_1 | apply IsS92.set_2) | exact HI0.out)); (case side2 => repeat (first | (with_reducible first | exact HB.out | apply below_alloc | apply pw_below_drewN | apply below_drew1 | refine below_set ?_ (IsS92.ge HI0.out)) | exact HB.out | exact Below.refl _ _)); rintro e w8 ⟨rfl, hi, hb, hk⟩; refine ⟨_, rfl, ?_⟩; replace HO142 := Hl.am (Kd.R_mono (Kd.R_keep (IsS92.apart (show IsS92 w0 _ g s0_0 t144 t145 from by repeat (first | (with_reducible first | exact HI0.out | apply IsS92.alloc | apply IsS92.drewN | apply IsS92.drew | apply IsS92.set_1 | apply IsS92.set_2) | exact HI0.out)) (Hl.rr HO142) (by decide)) hk (fun _ h => h.2)) (fun _ h => h.1)); replace HK := Hl.am (KeepBut.trans (by repeat (first | (with_reducible first | exact HK.out | apply KeepBut.set_ | apply keep_drewN | apply keep_drew | apply keep_alloc) | exact HK.out)) hk (.inl rfl)); replace HB := Hl.am (hb); replace HI0 := Hl.am (hi); (try clear hb); (try clear hk); (try clear hi)))
 (try simp only [Act.put, List.setIfInBounds_toArray, List.set_cons_zero, List.set_cons_succ])
 go_cut [4] (fun v4 wc => ∃ (kq : Nat) (x4_3 : Int) (x1001_3 : Int) (x1002_3 : Int), v4 = .int .i64 x4_3 ∧ Aside0 (spec_l24Draw.j0 kq y140 x4_3 s0_0 x1001_3 x1002_3 = some (r1, r2, r3)) ∧ Aside0 (kq ≤ k) ∧ Aside0 (Kd.R k33 33 wc w.heap.size (fun _ => True) v141 y140) ∧ Aside0 (IsS92 w0 wc g s0_0 x1001_3 x1002_3) ∧ Aside0 (KeepBut w wc g none) ∧ Aside0 (Below w0.heap.size w0 wc))
 case first =>
  have H := HC4.out
  clear HC4
  by_cases c9 : t146 = true
  ·
   subst c9
   have H1 : ((spec_l00Src_pick.f s0_0 t147 t148 2).bind fun bt149 => (spec_l24Draw.j0 k y140 (wrap64 (40 + bt149.1)) s0_0 bt149.2.1 bt149.2.2)) = some (r1, r2, r3) := by rw [if_pos rfl] at H; exact H
   clear H
   have H := H1
   clear H1
   replace H := Option.bind_eq_some_iff.mp H
   obtain ⟨⟨t149, t150, t151⟩, A100, H⟩ := H
   replace H : (spec_l24Draw.j0 k y140 (wrap64 (40 + t149)) s0_0 t150 t151) = some (r1, r2, r3) := H
   have A10 := Hl.am A100
   clear A100
   have H' := Hl.am H
   clear H
   go_wp2_with (first | ((with_reducible refine gate_callee (f := 64) rfl ?_); refine Hl.gl (some 12) rfl rfl Tryz.func64 (by kernel_rfl) rfl #[.pointer (some ⟨g, 0, none⟩), .int .i64 2] rfl ?_; (with_reducible refine (spec_l00Src_pick.calls g s0_0 t147 t148 2 t149 t150 t151 w0 _ ?side1 ?side2 A10.out).mono ?_); (case side1 => repeat (first | (with_reducible first | exact HI0.out | apply IsS92.alloc | apply IsS92.drewN | apply IsS92.drew | apply IsS92.set_1 | apply IsS92.set_2) | exact HI0.out)); (case side2 => repeat (first | (with_reducible first | exact HB.out | apply below_alloc | apply pw_below_drewN | apply below_drew1 | refine below_set ?_ (IsS92.ge HI0.out)) | exact HB.out | exact Below.refl _ _)); rintro e w11 ⟨rfl, hi, hb, hk⟩; refine ⟨_, rfl, ?_⟩; replace HO142 := Hl.am (Kd.R_mono (Kd.R_keep (IsS92.apart (show IsS92 w0 _ g s0_0 t147 t148 from by repeat (first | (with_reducible first | exact HI0.out | apply IsS92.alloc | apply IsS92.drewN | apply IsS92.drew | apply IsS92.set_1 | apply IsS92.set_2) | exact HI0.out)) (Hl.rr HO142) (by decide)) hk (fun _ h => h.2)) (fun _ h => h.1)); replace HK := Hl.am (KeepBut.trans (by repeat (first | (with_reducible first | exact HK.out | apply KeepBut.set_ | apply keep_drewN | apply keep_drew | apply keep_alloc) | exact HK.out)) hk (.inl rfl)); replace HB := Hl.am (hb); replace HI0 := Hl.am (hi); (try clear hb); (try clear hk); (try clear hi)))
   go_meet
   case rel => exact ⟨_, (wrap64 (40 + t149)), (t150), (t151), (by first | rfl | (simp; done) | (simp [*]; done)), H', ⟨by first | omega | exact Nat.le_refl _⟩, ⟨Hl.rr HO142⟩, ⟨by repeat (first | (with_reducible first | exact HI0.out | apply IsS92.alloc | apply IsS92.drewN | apply IsS92.drew | apply IsS92.set_1 | apply IsS92.set_2) | exact HI0.out)⟩, ⟨by repeat (first | (with_reducible first | exact HK.out | apply KeepBut.set_ | apply keep_drewN | apply keep_drew | apply keep_alloc) | exact HK.out)⟩, ⟨by repeat (first | (with_reducible first | exact HB.out | apply below_alloc | apply pw_below_drewN | apply below_drew1 | refine below_set ?_ (IsS92.ge HI0.out)) | exact HB.out | exact Below.refl _ _)⟩⟩
  ·
   replace c9 := Bool.eq_false_iff.mpr c9
   subst c9
   have H1 : (spec_l24Draw.j0 k y140 t143 s0_0 t147 t148) = some (r1, r2, r3) := by rw [if_neg (show ¬ (false = true) by decide)] at H; exact H
   clear H
   have H := H1
   clear H1
   have H' := Hl.am H
   clear H
   go_wp2
   go_meet
   case rel => exact ⟨_, (t143), (t147), (t148), (by first | rfl | (simp; done) | (simp [*]; done)), H', ⟨by first | omega | exact Nat.le_refl _⟩, ⟨Hl.rr HO142⟩, ⟨by repeat (first | (with_reducible first | exact HI0.out | apply IsS92.alloc | apply IsS92.drewN | apply IsS92.drew | apply IsS92.set_1 | apply IsS92.set_2) | exact HI0.out)⟩, ⟨by repeat (first | (with_reducible first | exact HK.out | apply KeepBut.set_ | apply keep_drewN | apply keep_drew | apply keep_alloc) | exact HK.out)⟩, ⟨by repeat (first | (with_reducible first | exact HB.out | apply below_alloc | apply pw_below_drewN | apply below_drew1 | refine below_set ?_ (IsS92.ge HI0.out)) | exact HB.out | exact Below.refl _ _)⟩⟩
 case rest =>
  clear HC4
  try clear p2
  try clear c5
  try clear c6
  try clear p6
  try clear c9
  obtain ⟨kq, x4_3, x1001_3, x1002_3, rfl, HA, HJ3, HO_3, HI0, HK, HB⟩ := hcut
  cases kq with
  | zero => exact absurd HA.out (by simp [spec_l24Draw.j0])
  | succ kj3 =>
   have H := HA.out
   clear HA
   simp only [spec_l24Draw.j0] at H
   have H' := Hl.am H
   clear H
   go_wp2
   go_loopg [3, 5] kj3 (fun kq v3 v5 w' => ∃ (x3_2 : List (S33)) (x5_2 : Int) (x1001_2 : Int) (x1002_2 : Int), v5 = .int .i64 x5_2 ∧ Aside0 (spec_l24Draw.l0 kq x3_2 x4_3 x5_2 s0_0 x1001_2 x1002_2 = some (r1, r2, r3)) ∧ Aside0 (kq ≤ kj3) ∧ Aside0 (Kd.R k33 33 w' w.heap.size (fun _ => True) v3 x3_2) ∧ Aside0 (IsS92 w0 w' g s0_0 x1001_2 x1002_2) ∧ Aside0 (KeepBut w w' g none) ∧ Aside0 (Below w0.heap.size w0 w'))
   case atStart => exact ⟨(y140), (x4_3), (x1001_3), (x1002_3), (by first | rfl | (simp; done) | (simp [*]; done)), H', ⟨Nat.le_refl _⟩, ⟨Hl.rr HO_3⟩, ⟨by repeat (first | (with_reducible first | exact HI0.out | apply IsS92.alloc | apply IsS92.drewN | apply IsS92.drew | apply IsS92.set_1 | apply IsS92.set_2) | exact HI0.out)⟩, ⟨by repeat (first | (with_reducible first | exact HK.out | apply KeepBut.set_ | apply keep_drewN | apply keep_drew | apply keep_alloc) | exact HK.out)⟩, ⟨by repeat (first | (with_reducible first | exact HB.out | apply below_alloc | apply pw_below_drewN | apply below_drew1 | refine below_set ?_ (IsS92.ge HI0.out)) | exact HB.out | exact Below.refl _ _)⟩⟩
   case round =>
    clear H'
    try clear p2
    try clear c5
    try clear c6
    try clear p6
    try clear c9
    try clear p2
    try clear p6
    obtain ⟨x3_2, x5_2, x1001_2, x1002_2, rfl, HA, HK2, HO_3, HI0, HK, HB⟩ := hrel
    cases gk with
    | zero => exact absurd HA.out (by simp [spec_l24Draw.l0])
    | succ k2 =>
     have H := HA.out
     clear HA
     simp only [spec_l24Draw.l0] at H
     by_cases c12 : x5_2 > 0
     ·
      rw [if_pos c12] at H
      have c12b0 : decide (0 < x5_2) = true := decide_eq_true c12
      clear c12
      replace H := Option.bind_eq_some_iff.mp H
      obtain ⟨⟨t152, t153, t154, t155, t156, t157⟩, A130, H⟩ := H
      (try dsimp only at H)
      have A13 := Hl.am A130
      clear A130
      by_cases c14 : x3_2.length < 3518437208883
      ·
       rw [if_pos c14] at H
       have LMc14 := Hl.am c14
       clear c14
       obtain ⟨y158, hy158⟩ : ∃ y_ : List (S33), y_ = (x3_2 ++ [(⟨t152, t153, t154, t155⟩ : S33)]) := ⟨_, rfl⟩
       replace H : (spec_l24Draw.l0 k2 y158 x4_3 (wrap64 (x5_2 - 1)) s0_0 t156 t157) = some (r1, r2, r3) := by first | (rw [hy158]; with_reducible exact H) | (have H2_ := (Option.bind_some _ _).symm.trans H; rw [hy158]; with_reducible exact H2_) | (have H2_ := (Option.bind_some _ _).symm.trans H; with_reducible exact H2_) | with_reducible exact H | (rw [hy158]; exact H) | exact H
       have Ny158 := Hl.am hy158
       clear hy158
       have H' := Hl.am H
       clear H
       go_wp2_with (first | ((with_reducible refine gate_callee (f := 52) rfl ?_); refine Hl.gl (some 21) rfl rfl Tryz.func52 (by kernel_rfl) rfl #[.pointer (some ⟨g, 0, none⟩)] rfl ?_; (with_reducible refine (spec_l24New.calls g s0_0 x1001_2 x1002_2 t152 t153 t154 t155 t156 t157 w0 _ ?side1 ?side2 A13.out).mono ?_); (case side1 => repeat (first | (with_reducible first | exact HI0.out | apply IsS92.alloc | apply IsS92.drewN | apply IsS92.drew | apply IsS92.set_1 | apply IsS92.set_2) | exact HI0.out)); (case side2 => repeat (first | (with_reducible first | exact HB.out | apply below_alloc | apply pw_below_drewN | apply below_drew1 | refine below_set ?_ (IsS92.ge HI0.out)) | exact HB.out | exact Below.refl _ _)); rintro e w15 ⟨rfl, hi, hb, hk⟩; refine ⟨_, rfl, ?_⟩; replace HO_3 := Hl.am (Kd.R_mono (Kd.R_keep (IsS92.apart (show IsS92 w0 _ g s0_0 x1001_2 x1002_2 from by repeat (first | (with_reducible first | exact HI0.out | apply IsS92.alloc | apply IsS92.drewN | apply IsS92.drew | apply IsS92.set_1 | apply IsS92.set_2) | exact HI0.out)) (Hl.rr HO_3) (by decide)) hk (fun _ h => h.2)) (fun _ h => h.1)); replace HK := Hl.am (KeepBut.trans (by repeat (first | (with_reducible first | exact HK.out | apply KeepBut.set_ | apply keep_drewN | apply keep_drew | apply keep_alloc) | exact HK.out)) hk (.inl rfl)); replace HB := Hl.am (hb); replace HI0 := Hl.am (hi); (try clear hb); (try clear hk); (try clear hi)) | ((with_reducible refine gate_builtin (b := .append) (xs := #[.tmp 19, .tmp 22]) rfl ?_); at_builtin; refine Kd.R_append k33 w.heap.size rfl (.tmp 19) (.tmp 22) 24 33 (.agg #[(.string ⟨#[]⟩), (.int .i64 0), (.int .i64 0), (.int .i64 0)]) 40 rfl Tryz.underlying24 info33 rfl (by decide) (by omega) u3 x3_2 (⟨t152, t153, t154, t155⟩ : S33) [.string t152, .int .i64 t153, .int .i64 t154, .int .i64 t155] (fun _ => True) (fun _ => False) rfl rfl ?aP (fun _ hk => hk.elim) ?aF ?aO (Below.refl _ _) ?aS ?aL ?_; (case aP => exact k33_mkM _ _ _ (⟨t152, t153, t154, t155⟩ : S33)); (case aF => exact (fun _ _ => trivial)); (case aO => exact (Hl.rr HO_3)); (case aS => exact (keep_size (w := w) (g := g) (row := none) (by repeat (first | (with_reducible first | exact HK.out | apply KeepBut.set_ | apply keep_drewN | apply keep_drew | apply keep_alloc) | exact HK.out)))); (case aL => have := LMc14.out; omega); intro v159 w16 ho hb hg hat; rw [← Ny158.out] at ho; replace HB := Hl.am (below_weaken (by repeat (first | (with_reducible first | exact HB.out | apply below_alloc | apply pw_below_drewN | apply below_drew1 | refine below_set ?_ (IsS92.ge HI0.out)) | exact HB.out | exact Below.refl _ _)) HL.out hb); replace HI0 := Hl.am (IsS92.grown (by repeat (first | (with_reducible first | exact HI0.out | apply IsS92.alloc | apply IsS92.drewN | apply IsS92.drew | apply IsS92.set_1 | apply IsS92.set_2) | exact HI0.out)) hg (IsS92.own_ne HI0.out HO_3.out (by decide))); replace HK := Hl.am (KeepBut.trans (by repeat (first | (with_reducible first | exact HK.out | apply KeepBut.set_ | apply keep_drewN | apply keep_drew | apply keep_alloc) | exact HK.out)) (KeepBut.of_grown hg g) (Kd.R_base2 HO_3.out)); have HO160 := Hl.am (ho); clear HO_3; clear ho hb hg hat))
       go_roundg k2
       case measure => have := HJ3.out; have := HK2.out; omega
       case rel => exact ⟨(y158), (wrap64 (x5_2 - 1)), (t156), (t157), (by first | rfl | (simp; done) | (simp [*]; done)), H', ⟨by have := HJ3.out; have := HK2.out; omega⟩, ⟨Hl.rr HO160⟩, ⟨by repeat (first | (with_reducible first | exact HI0.out | apply IsS92.alloc | apply IsS92.drewN | apply IsS92.drew | apply IsS92.set_1 | apply IsS92.set_2) | exact HI0.out)⟩, ⟨by repeat (first | (with_reducible first | exact HK.out | apply KeepBut.set_ | apply keep_drewN | apply keep_drew | apply keep_alloc) | exact HK.out)⟩, ⟨by repeat (first | (with_reducible first | exact HB.out | apply below_alloc | apply pw_below_drewN | apply below_drew1 | refine below_set ?_ (IsS92.ge HI0.out)) | exact HB.out | exact Below.refl _ _)⟩⟩
      ·
       rw [if_neg c14] at H
       exact absurd H (by simp)
     ·
      rw [if_neg c12] at H
      have c12b0 : decide (0 < x5_2) = false := decide_eq_false c12
      clear c12
      by_cases c17 : x4_3 > 0
      ·
       rw [if_pos c17] at H
       have c17b0 : decide (0 < x4_3) = true := decide_eq_true c17
       clear c17
       replace H := Option.bind_eq_some_iff.mp H
       obtain ⟨⟨t161, t162, t163⟩, A180, H⟩ := H
       (try dsimp only at H)
       have A18 := Hl.am A180
       clear A180
       by_cases c19 : t161 = true
       ·
        subst c19
        rw [if_pos rfl] at H
        replace H := Option.bind_eq_some_iff.mp H
        obtain ⟨⟨t164, t165, t166⟩, A200, H⟩ := H
        (try dsimp only at H)
        have A20 := Hl.am A200
        clear A200
        by_cases e1 : 0 ≤ t164
        case neg => rw [if_neg e1] at H; exact absurd H (by simp)
        rw [if_pos e1] at H
        by_cases e2 : t164 < (x3_2.length : Int)
        case neg => rw [if_neg e2] at H; exact absurd H (by simp)
        rw [if_pos e2] at H
        replace H := Option.bind_eq_some_iff.mp H
        obtain ⟨⟨t167, t168, t169⟩, A210, H⟩ := H
        replace H : (some (x3_2.set t164.toNat t167, t168, t169)) = some (r1, r2, r3) := H
        have A21 := Hl.am A210
        clear A210
        simp only [Option.some.injEq, Prod.mk.injEq] at H
        obtain ⟨rfl, rfl, rfl⟩ := H
        obtain ⟨gb, cb, eb, _, _, _⟩ := Kd.R_form HO_3.out (by omega)
        subst eb
        have E1 := Hl.am e1
        have E2 := Hl.am e2
        have e3 : ¬ (t164 < 0) := by omega
        have e4 : t164.toNat < x3_2.length := by omega
        go_wp2_with (first | (go_at_call 53; (with_reducible refine (spec_l00Src_one.calls g s0_0 x1001_2 x1002_2 10 true t162 t163 w0 _ ?side1 ?side2 A18.out).mono ?_); (case side1 => repeat (first | (with_reducible first | exact HI0.out | apply IsS92.alloc | apply IsS92.drewN | apply IsS92.drew | apply IsS92.set_1 | apply IsS92.set_2) | exact HI0.out)); (case side2 => repeat (first | (with_reducible first | exact HB.out | apply below_alloc | apply pw_below_drewN | apply below_drew1 | refine below_set ?_ (IsS92.ge HI0.out)) | exact HB.out | exact Below.refl _ _)); rintro e w21 ⟨rfl, hi, hb, hk⟩; replace HO_3 := Hl.am (Kd.R_mono (Kd.R_keep (IsS92.apart (show IsS92 w0 _ g s0_0 x1001_2 x1002_2 from by repeat (first | (with_reducible first | exact HI0.out | apply IsS92.alloc | apply IsS92.drewN | apply IsS92.drew | apply IsS92.set_1 | apply IsS92.set_2) | exact HI0.out)) (Hl.rr HO_3) (by decide)) hk (fun _ h => h.2)) (fun _ h => h.1)); replace HK := Hl.am (KeepBut.trans (by repeat (first | (with_reducible first | exact HK.out | apply KeepBut.set_ | apply keep_drewN | apply keep_drew | apply keep_alloc) | exact HK.out)) hk (.inl rfl)); replace HB := Hl.am (hb); replace HI0 := Hl.am (hi); (try clear hb); (try clear hk); (try clear hi)) | ((with_reducible refine gate_callee (f := 64) rfl ?_); refine Hl.gl (some 34) rfl rfl Tryz.func64 (by kernel_rfl) rfl #[.pointer (some ⟨g, 0, none⟩), .int .i64 x4_3] rfl ?_; (with_reducible refine (spec_l00Src_pick.calls g s0_0 t162 t163 x4_3 t164 t165 t166 w0 _ ?side1 ?side2 A20.out).mono ?_); (case side1 => repeat (first | (with_reducible first | exact HI0.out | apply IsS92.alloc | apply IsS92.drewN | apply IsS92.drew | apply IsS92.set_1 | apply IsS92.set_2) | exact HI0.out)); (case side2 => repeat (first | (with_reducible first | exact HB.out | apply below_alloc | apply pw_below_drewN | apply below_drew1 | refine below_set ?_ (IsS92.ge HI0.out)) | exact HB.out | exact Below.refl _ _)); rintro e w22 ⟨rfl, hi, hb, hk⟩; refine ⟨_, rfl, ?_⟩; replace HO_3 := Hl.am (Kd.R_mono (Kd.R_keep (IsS92.apart (show IsS92 w0 _ g s0_0 t162 t163 from by repeat (first | (with_reducible first | exact HI0.out | apply IsS92.alloc | apply IsS92.drewN | apply IsS92.drew | apply IsS92.set_1 | apply IsS92.set_2) | exact HI0.out)) (Hl.rr HO_3) (by decide)) hk (fun _ h => h.2)) (fun _ h => h.1)); replace HK := Hl.am (KeepBut.trans (by repeat (first | (with_reducible first | exact HK.out | apply KeepBut.set_ | apply keep_drewN | apply keep_drew | apply keep_alloc) | exact HK.out)) hk (.inl rfl)); replace HB := Hl.am (hb); replace HI0 := Hl.am (hi); (try clear hb); (try clear hk); (try clear hi)) | ((with_reducible refine gate_callee (f := 54) rfl ?_); refine Hl.gl (some 36) rfl rfl Tryz.func54 (by kernel_rfl) rfl #[.pointer (some ⟨g, 0, none⟩), .pointer (some ⟨gb, t164.toNat * 4, none⟩)] rfl ?_; (with_reducible refine (spec_l24Draw.spoil g s0_0 t165 t166 gb x3_2.length cb w.heap.size x3_2 t164 t167 t168 t169 w0 _ ?side1 ?side2 ?side3 E1.out E2.out HW0.out A21.out).mono ?_); (case side1 => repeat (first | (with_reducible first | exact HI0.out | apply IsS92.alloc | apply IsS92.drewN | apply IsS92.drew | apply IsS92.set_1 | apply IsS92.set_2) | exact HI0.out)); (case side2 => repeat (first | (with_reducible first | exact HB.out | apply below_alloc | apply pw_below_drewN | apply below_drew1 | refine below_set ?_ (IsS92.ge HI0.out)) | exact HB.out | exact Below.refl _ _)); (case side3 => exact Hl.rr HO_3); rintro e w23 ⟨rfl, hR, hi, hb, hk⟩; refine ⟨_, rfl, ?_⟩; replace HK := Hl.am (KeepBut.trans (by repeat (first | (with_reducible first | exact HK.out | apply KeepBut.set_ | apply keep_drewN | apply keep_drew | apply keep_alloc) | exact HK.out)) hk (.inr ⟨gb, rfl, Kd.R_base HO_3.out gb rfl⟩)); replace HO_3 := Hl.am hR; replace HB := Hl.am (hb); replace HI0 := Hl.am (hi); (try clear hb); (try clear hk); (try clear hi); (try clear hR)))
        go_ret
        exact ⟨_, by first | rfl | (simp [errW_none, errW_some] <;> rfl) | (simp [*, errW_none, errW_some] <;> rfl), Hl.rr HO_3, by repeat (first | (with_reducible first | exact HI0.out | apply IsS92.alloc | apply IsS92.drewN | apply IsS92.drew | apply IsS92.set_1 | apply IsS92.set_2) | exact HI0.out), by repeat (first | (with_reducible first | exact HB.out | apply below_alloc | apply pw_below_drewN | apply below_drew1 | refine below_set ?_ (IsS92.ge HI0.out)) | exact HB.out | exact Below.refl _ _), by repeat (first | (with_reducible first | exact HK.out | apply KeepBut.set_ | apply keep_drewN | apply keep_drew | apply keep_alloc) | exact HK.out)⟩
       ·
        replace c19 := Bool.eq_false_iff.mpr c19
        subst c19
        have H1 : (some (x3_2, t162, t163)) = some (r1, r2, r3) := by rw [if_neg (show ¬ (false = true) by decide)] at H; exact H
        clear H
        have H := H1
        clear H1
        simp only [Option.some.injEq, Prod.mk.injEq] at H
        obtain ⟨rfl, rfl, rfl⟩ := H
        go_wp2_with (first | (go_at_call 53; (with_reducible refine (spec_l00Src_one.calls g s0_0 x1001_2 x1002_2 10 false t162 t163 w0 _ ?side1 ?side2 A18.out).mono ?_); (case side1 => repeat (first | (with_reducible first | exact HI0.out | apply IsS92.alloc | apply IsS92.drewN | apply IsS92.drew | apply IsS92.set_1 | apply IsS92.set_2) | exact HI0.out)); (case side2 => repeat (first | (with_reducible first | exact HB.out | apply below_alloc | apply pw_below_drewN | apply below_drew1 | refine below_set ?_ (IsS92.ge HI0.out)) | exact HB.out | exact Below.refl _ _)); rintro e w23 ⟨rfl, hi, hb, hk⟩; replace HO_3 := Hl.am (Kd.R_mono (Kd.R_keep (IsS92.apart (show IsS92 w0 _ g s0_0 x1001_2 x1002_2 from by repeat (first | (with_reducible first | exact HI0.out | apply IsS92.alloc | apply IsS92.drewN | apply IsS92.drew | apply IsS92.set_1 | apply IsS92.set_2) | exact HI0.out)) (Hl.rr HO_3) (by decide)) hk (fun _ h => h.2)) (fun _ h => h.1)); replace HK := Hl.am (KeepBut.trans (by repeat (first | (with_reducible first | exact HK.out | apply KeepBut.set_ | apply keep_drewN | apply keep_drew | apply keep_alloc) | exact HK.out)) hk (.inl rfl)); replace HB := Hl.am (hb); replace HI0 := Hl.am (hi); (try clear hb); (try clear hk); (try clear hi)))
        go_ret
        exact ⟨_, by first | rfl | (simp [errW_none, errW_some] <;> rfl) | (simp [*, errW_none, errW_some] <;> rfl), Hl.rr HO_3, by repeat (first | (with_reducible first | exact HI0.out | apply IsS92.alloc | apply IsS92.drewN | apply IsS92.drew | apply IsS92.set_1 | apply IsS92.set_2) | exact HI0.out), by repeat (first | (with_reducible first | exact HB.out | apply below_alloc | apply pw_below_drewN | apply below_drew1 | refine below_set ?_ (IsS92.ge HI0.out)) | exact HB.out | exact Below.refl _ _), by repeat (first | (with_reducible first | exact HK.out | apply KeepBut.set_ | apply keep_drewN | apply keep_drew | apply keep_alloc) | exact HK.out)⟩
      ·
       rw [if_neg c17] at H
       have c17b0 : decide (0 < x4_3) = false := decide_eq_false c17
       clear c17
       simp only [Option.some.injEq, Prod.mk.injEq] at H
       obtain ⟨rfl, rfl, rfl⟩ := H
       go_wp2
       go_ret
       exact ⟨_, by first | rfl | (simp [errW_none, errW_some] <;> rfl) | (simp [*, errW_none, errW_some] <;> rfl), Hl.rr HO_3, by repeat (first | (with_reducible first | exact HI0.out | apply IsS92.alloc | apply IsS92.drewN | apply IsS92.drew | apply IsS92.set_1 | apply IsS92.set_2) | exact HI0.out), by repeat (first | (with_reducible first | exact HB.out | apply below_alloc | apply pw_below_drewN | apply below_drew1 | refine below_set ?_ (IsS92.ge HI0.out)) | exact HB.out | exact Below.refl _ _), by repeat (first | (with_reducible first | exact HK.out | apply KeepBut.set_ | apply keep_drewN | apply keep_drew | apply keep_alloc) | exact HK.out)⟩


/-! ### spec_l24Each: function 62 -/
def spec_l24Each.f (s0_0 : List Int) (s0_1 : Int) (s0_2 : Int) : Option (Int × Int × Int) := (spec_l00Src_one.f s0_0 s0_1 s0_2 10).bind fun bt140 => (if bt140.1 = true then ((spec_l00Src_among.f s0_0 bt140.2.1 bt140.2.2 (([(-1), 0, 1, 100, 101] : List Int))).bind fun bt146 => (some (bt146.1, bt146.2.1, bt146.2.2))) else ((spec_l00Src_pick.f s0_0 bt140.2.1 bt140.2.2 6).bind fun bt149 => (some (wrap64 (1 + bt149.1), bt149.2.1, bt149.2.2))))
set_option maxHeartbeats 8000000 in
set_option maxRecDepth 100000 in
theorem spec_l24Each.calls (g : Nat) (s0_0 : List Int) (s0_1 : Int) (s0_2 : Int) (r1 : Int) (r2 : Int) (r3 : Int) (w0 w : World) (hI : IsS92 w0 w g s0_0 s0_1 s0_2) (hB : Below w0.heap.size w0 w) (h : spec_l24Each.f s0_0 s0_1 s0_2 = some (r1, r2, r3)) :
  Calls Tryz.prog 62 #[.pointer (some ⟨g, 0, none⟩)] w fun e w' => e = .returned (.int .i64 r1) ∧ IsS92 w0 w' g s0_0 r2 r3 ∧ Below w0.heap.size w0 w' ∧ KeepBut w w' g none := by
 have HI0 := Hl.am hI
 have HK := Hl.am (KeepBut.refl w g none)
 have HL := Hl.am hB.size
 clear hI
 have HW0 := Hl.am hB.size
 have HB := Hl.am hB
 clear hB
 have H : ((spec_l00Src_one.f s0_0 s0_1 s0_2 10).bind fun bt140 => (if bt140.1 = true then ((spec_l00Src_among.f s0_0 bt140.2.1 bt140.2.2 (([(-1), 0, 1, 100, 101] : List Int))).bind fun bt146 => (some (bt146.1, bt146.2.1, bt146.2.2))) else ((spec_l00Src_pick.f s0_0 bt140.2.1 bt140.2.2 6).bind fun bt149 => (some (wrap64 (1 + bt149.1), bt149.2.1, bt149.2.2))))) = some (r1, r2, r3) := h
 clear h
 replace H := Option.bind_eq_some_iff.mp H
 obtain ⟨⟨t140, t141, t142⟩, A20, H⟩ := H
 (try dsimp only at H)
 have A2 := Hl.am A20
 clear A20
 by_cases c3 : t140 = true
 ·
  subst c3
  have H1 : ((spec_l00Src_among.f s0_0 t141 t142 (([(-1), 0, 1, 100, 101] : List Int))).bind fun bt146 => (some (bt146.1, bt146.2.1, bt146.2.2))) = some (r1, r2, r3) := by rw [if_pos rfl] at H; exact H
  clear H
  have H := H1
  clear H1
  obtain ⟨y143, hy143⟩ : ∃ y_ : List Int, y_ = (([(-1), 0, 1, 100, 101] : List Int)) := ⟨_, rfl⟩
  replace H : ((spec_l00Src_among.f s0_0 t141 t142 y143).bind fun bt146 => (some (bt146.1, bt146.2.1, bt146.2.2))) = some (r1, r2, r3) := by first | (rw [hy143]; with_reducible exact H) | (have H2_ := (Option.bind_some _ _).symm.trans H; rw [hy143]; with_reducible exact H2_) | (have H2_ := (Option.bind_some _ _).symm.trans H; with_reducible exact H2_) | with_reducible exact H | (rw [hy143]; exact H) | exact H
  have Ny143 := Hl.am hy143
  clear hy143
  replace H := Option.bind_eq_some_iff.mp H
  obtain ⟨⟨t146, t147, t148⟩, A40, H⟩ := H
  replace H : (some (t146, t147, t148)) = some (r1, r2, r3) := H
  have A4 := Hl.am A40
  clear A40
  simp only [Option.some.injEq, Prod.mk.injEq] at H
  obtain ⟨rfl, rfl, rfl⟩ := H
  go_enter Tryz.func62, Tryz.ntmps62
  go_wp2_with (first | ((with_reducible refine gate_callee (f := 53) rfl ?_); refine Hl.gl (some 4) rfl rfl Tryz.func53 (by kernel_rfl) rfl #[.pointer (some ⟨g, 0, none⟩), .int .i64 10] rfl ?_; (with_reducible refine (spec_l00Src_one.calls g s0_0 s0_1 s0_2 10 true t141 t142 w0 _ ?side1 ?side2 A2.out).mono ?_); (case side1 => repeat (first | (with_reducible first | exact HI0.out | apply IsS92.alloc | apply IsS92.drewN | apply IsS92.drew | apply IsS92.set_1 | apply IsS92.set_2) | exact HI0.out)); (case side2 => repeat (first | (with_reducible first | exact HB.out | apply below_alloc | apply pw_below_drewN | apply below_drew1 | refine below_set ?_ (IsS92.ge HI0.out)) | exact HB.out | exact Below.refl _ _)); rintro e w5 ⟨rfl, hi, hb, hk⟩; refine ⟨_, rfl, ?_⟩; replace HK := Hl.am (KeepBut.trans (by repeat (first | (with_reducible first | exact HK.out | apply KeepBut.set_ | apply keep_drewN | apply keep_drew | apply keep_alloc) | exact HK.out)) hk (.inl rfl)); replace HB := Hl.am (hb); replace HI0 := Hl.am (hi); (try clear hb); (try clear hk); (try clear hi)) | ((with_reducible refine gate_dst (N := 6) rfl ?_); refine Kd.R_lit (Kd.int .i64) _ 2 ?hg (N := 6) ?hd (xs := ([(-1), 0, 1, 100, 101] : List Int)) (inner := [.int .i64 (-1), .int .i64 0, .int .i64 1, .int .i64 100, .int .i64 101]) (ok := fun _ => True) (okp := fun _ => True) ?hr ?hp (fun _ hk => hk) trivial (Below.refl _ _) (Nat.le_refl _) (by simp) ?_; (case hd => rfl); (case hg => rfl); (case hr => first | (go_simp; done) | (go_simp; rfl)); (case hp => exact (Reps.one (show Kd.M (Kd.int .i64) _ _ _ (-1) [.int .i64 (-1)] from rfl) (Reps.one (show Kd.M (Kd.int .i64) _ _ _ 0 [.int .i64 0] from rfl) (Reps.one (show Kd.M (Kd.int .i64) _ _ _ 1 [.int .i64 1] from rfl) (Reps.one (show Kd.M (Kd.int .i64) _ _ _ 100 [.int .i64 100] from rfl) (Reps.one (show Kd.M (Kd.int .i64) _ _ _ 101 [.int .i64 101] from rfl) (Reps.none _ _))))))); intro v144 w6 ho7 hb hg_ hnew_; clear hg_ hnew_; (first | rw [← Ny143.out] at ho7 | (simp only [Int.reduceToNat] at ho7; rw [← Ny143.out] at ho7)); have HO145 := Hl.am (Kd.R_lower ho7 (keep_size (w := w) (g := g) (row := none) (by repeat (first | (with_reducible first | exact HK.out | apply KeepBut.set_ | apply keep_drewN | apply keep_drew | apply keep_alloc) | exact HK.out)))); replace HK := Hl.am (KeepBut.trans (by repeat (first | (with_reducible first | exact HK.out | apply KeepBut.set_ | apply keep_drewN | apply keep_drew | apply keep_alloc) | exact HK.out)) (KeepBut.of_below hb g none) (.inl rfl)); replace HB := Hl.am (below_step (by repeat (first | (with_reducible first | exact HB.out | apply below_alloc | apply pw_below_drewN | apply below_drew1 | refine below_set ?_ (IsS92.ge HI0.out)) | exact HB.out | exact Below.refl _ _)) hb); replace HI0 := Hl.am (IsS92.below (by repeat (first | (with_reducible first | exact HI0.out | apply IsS92.alloc | apply IsS92.drewN | apply IsS92.drew | apply IsS92.set_1 | apply IsS92.set_2) | exact HI0.out)) hb); clear hb ho7; obtain ⟨Ao8, co8, eo8⟩ := Kd.R_slice HO145.out; subst eo8) | ((with_reducible refine gate_callee (f := 58) rfl ?_); refine Hl.gl (some 7) rfl rfl Tryz.func58 (by kernel_rfl) rfl #[.pointer (some ⟨g, 0, none⟩), .slice Ao8 y143.length co8] rfl ?_; (with_reducible refine (spec_l00Src_among.calls g s0_0 t141 t142 _ _ y143 t146 t147 t148 w0 _ ?side1 ?side2 ?side3 ?side4 ?side5 A4.out).mono ?_); (case side1 => repeat (first | (with_reducible first | exact HI0.out | apply IsS92.alloc | apply IsS92.drewN | apply IsS92.drew | apply IsS92.set_1 | apply IsS92.set_2) | exact HI0.out)); (case side2 => repeat (first | (with_reducible first | exact HB.out | apply below_alloc | apply pw_below_drewN | apply below_drew1 | refine below_set ?_ (IsS92.ge HI0.out)) | exact HB.out | exact Below.refl _ _)); (case side3 => exact Hl.cc ((Kd.R_reads' HO145.out).2.2)); (case side4 => exact (Kd.R_reads' HO145.out).2.1); (case side5 => exact far_slice (IsS92.own_ne HI0.out HO145.out (by decide))); rintro e w9 ⟨rfl, hi, hb, hk⟩; refine ⟨_, rfl, ?_⟩; replace HO145 := Hl.am (Kd.R_mono (Kd.R_keep (IsS92.apart (show IsS92 w0 _ g s0_0 t141 t142 from by repeat (first | (with_reducible first | exact HI0.out | apply IsS92.alloc | apply IsS92.drewN | apply IsS92.drew | apply IsS92.set_1 | apply IsS92.set_2) | exact HI0.out)) (Hl.rr HO145) (by decide)) hk (fun _ h => h.2)) (fun _ h => h.1)); replace HK := Hl.am (KeepBut.trans (by repeat (first | (with_reducible first | exact HK.out | apply KeepBut.set_ | apply keep_drewN | apply keep_drew | apply keep_alloc) | exact HK.out)) hk (.inl rfl)); replace HB := Hl.am (hb); replace HI0 := Hl.am (hi); (try clear hb); (try clear hk); (try clear hi)))
  go_ret
  exact ⟨by first | rfl | (simp [errW_none, errW_some] <;> rfl) | (simp [*, errW_none, errW_some] <;> rfl), by repeat (first | (with_reducible first | exact HI0.out | apply IsS92.alloc | apply IsS92.drewN | apply IsS92.drew | apply IsS92.set_1 | apply IsS92.set_2) | exact HI0.out), by repeat (first | (with_reducible first | exact HB.out | apply below_alloc | apply pw_below_drewN | apply below_drew1 | refine below_set ?_ (IsS92.ge HI0.out)) | exact HB.out | exact Below.refl _ _), by repeat (first | (with_reducible first | exact HK.out | apply KeepBut.set_ | apply keep_drewN | apply keep_drew | apply keep_alloc) | exact HK.out)⟩
 ·
  replace c3 := Bool.eq_false_iff.mpr c3
  subst c3
  have H1 : ((spec_l00Src_pick.f s0_0 t141 t142 6).bind fun bt149 => (some (wrap64 (1 + bt149.1), bt149.2.1, bt149.2.2))) = some (r1, r2, r3) := by rw [if_neg (show ¬ (false = true) by decide)] at H; exact H
  clear H
  have H := H1
  clear H1
  replace H := Option.bind_eq_some_iff.mp H
  obtain ⟨⟨t149, t150, t151⟩, A100, H⟩ := H
  replace H : (some (wrap64 (1 + t149), t150, t151)) = some (r1, r2, r3) := H
  have A10 := Hl.am A100
  clear A100
  simp only [Option.some.injEq, Prod.mk.injEq] at H
  obtain ⟨rfl, rfl, rfl⟩ := H
  go_enter Tryz.func62, Tryz.ntmps62
  go_wp2_with (first | ((with_reducible refine gate_callee (f := 53) rfl ?_); refine Hl.gl (some 4) rfl rfl Tryz.func53 (by kernel_rfl) rfl #[.pointer (some ⟨g, 0, none⟩), .int .i64 10] rfl ?_; (with_reducible refine (spec_l00Src_one.calls g s0_0 s0_1 s0_2 10 false t141 t142 w0 _ ?side1 ?side2 A2.out).mono ?_); (case side1 => repeat (first | (with_reducible first | exact HI0.out | apply IsS92.alloc | apply IsS92.drewN | apply IsS92.drew | apply IsS92.set_1 | apply IsS92.set_2) | exact HI0.out)); (case side2 => repeat (first | (with_reducible first | exact HB.out | apply below_alloc | apply pw_below_drewN | apply below_drew1 | refine below_set ?_ (IsS92.ge HI0.out)) | exact HB.out | exact Below.refl _ _)); rintro e w11 ⟨rfl, hi, hb, hk⟩; refine ⟨_, rfl, ?_⟩; replace HK := Hl.am (KeepBut.trans (by repeat (first | (with_reducible first | exact HK.out | apply KeepBut.set_ | apply keep_drewN | apply keep_drew | apply keep_alloc) | exact HK.out)) hk (.inl rfl)); replace HB := Hl.am (hb); replace HI0 := Hl.am (hi); (try clear hb); (try clear hk); (try clear hi)) | ((with_reducible refine gate_callee (f := 64) rfl ?_); refine Hl.gl (some 9) rfl rfl Tryz.func64 (by kernel_rfl) rfl #[.pointer (some ⟨g, 0, none⟩), .int .i64 6] rfl ?_; (with_reducible refine (spec_l00Src_pick.calls g s0_0 t141 t142 6 t149 t150 t151 w0 _ ?side1 ?side2 A10.out).mono ?_); (case side1 => repeat (first | (with_reducible first | exact HI0.out | apply IsS92.alloc | apply IsS92.drewN | apply IsS92.drew | apply IsS92.set_1 | apply IsS92.set_2) | exact HI0.out)); (case side2 => repeat (first | (with_reducible first | exact HB.out | apply below_alloc | apply pw_below_drewN | apply below_drew1 | refine below_set ?_ (IsS92.ge HI0.out)) | exact HB.out | exact Below.refl _ _)); rintro e w12 ⟨rfl, hi, hb, hk⟩; refine ⟨_, rfl, ?_⟩; replace HK := Hl.am (KeepBut.trans (by repeat (first | (with_reducible first | exact HK.out | apply KeepBut.set_ | apply keep_drewN | apply keep_drew | apply keep_alloc) | exact HK.out)) hk (.inl rfl)); replace HB := Hl.am (hb); replace HI0 := Hl.am (hi); (try clear hb); (try clear hk); (try clear hi)))
  go_ret
  exact ⟨by first | rfl | (simp [errW_none, errW_some] <;> rfl) | (simp [*, errW_none, errW_some] <;> rfl), by repeat (first | (with_reducible first | exact HI0.out | apply IsS92.alloc | apply IsS92.drewN | apply IsS92.drew | apply IsS92.set_1 | apply IsS92.set_2) | exact HI0.out), by repeat (first | (with_reducible first | exact HB.out | apply below_alloc | apply pw_below_drewN | apply below_drew1 | refine below_set ?_ (IsS92.ge HI0.out)) | exact HB.out | exact Below.refl _ _), by repeat (first | (with_reducible first | exact HK.out | apply KeepBut.set_ | apply keep_drewN | apply keep_drew | apply keep_alloc) | exact HK.out)⟩

/-! ### spec_l24Both: function 36 -/
def spec_l24Both.f (k : Nat) (l0 : List Int) : Option ((List (S33)) × Int) := (spec_l00From.f l0).bind fun bt152 => ((spec_l24Draw.f k bt152.1 bt152.2.1 bt152.2.2).bind fun bt156 => ((spec_l24Each.f bt152.1 bt156.2.1 bt156.2.2).bind fun bt161 => (some (bt156.1, bt161.1))))
theorem spec_l24Both.mono : ∀ a0 k, LeO (spec_l24Both.f k a0) (spec_l24Both.f (k + 1) a0) := by
 intro a0 k
 unfold spec_l24Both.f
 repeat' first
   | (with_reducible exact spec_l24Draw.mono _ _ _ _)
   | (with_reducible exact LeO.refl _)
   | (with_reducible exact LeO.none _)
   | (with_reducible refine LeO.ite ?_ ?_)
   | (with_reducible refine LeO.bind ?_ (fun _ => ?_))
   | exact spec_l24Draw.mono _ _ _ _
   | exact LeO.none _
   | refine LeO.ite ?_ ?_
   | refine LeO.bind ?_ (fun _ => ?_)
set_option maxHeartbeats 8000000 in
set_option maxRecDepth 100000 in
theorem spec_l24Both.calls (k : Nat) (A0 : Option Addr) (c0 : Nat) (l0 : List Int) (r1 : List (S33)) (r2 : Int) (w : World) (hr0 : Kd.C (Kd.int .u8) w A0 l0.length l0) (hc0 : l0.length ≤ c0) (h : spec_l24Both.f k l0 = some (r1, r2)) :
  Calls Tryz.prog 36 #[.slice A0 l0.length c0] w fun e w' => ∃ v0_ : Value, e = .returned (.tuple #[v0_, .int .i64 r2]) ∧ Kd.R k33 33 w' w.heap.size (fun _ => True) v0_ r1 ∧ Below w.heap.size w w' := by
 have HR0 := Hl.am hr0
 have HC0 := Hl.am hc0
 clear hr0 hc0
 have HB := Hl.am (Below.refl w.heap.size w)
 have H : ((spec_l00From.f l0).bind fun bt152 => ((spec_l24Draw.f k bt152.1 bt152.2.1 bt152.2.2).bind fun bt156 => ((spec_l24Each.f bt152.1 bt156.2.1 bt156.2.2).bind fun bt161 => (some (bt156.1, bt161.1))))) = some (r1, r2) := h
 clear h
 replace H := Option.bind_eq_some_iff.mp H
 obtain ⟨⟨t152, t153, t154⟩, A20, H⟩ := H
 (try dsimp only at H)
 have A2 := Hl.am A20
 clear A20
 replace H := Option.bind_eq_some_iff.mp H
 obtain ⟨⟨t156, t159, t160⟩, A30, H⟩ := H
 replace H : ((spec_l24Each.f t152 t159 t160).bind fun bt161 => (some (t156, bt161.1))) = some (r1, r2) := H
 have A3 := Hl.am A30
 clear A30
 replace H := Option.bind_eq_some_iff.mp H
 obtain ⟨⟨t161, t162, t163⟩, A40, H⟩ := H
 replace H : (some (t156, t161)) = some (r1, r2) := H
 have A4 := Hl.am A40
 clear A40
 simp only [Option.some.injEq, Prod.mk.injEq] at H
 obtain ⟨rfl, rfl⟩ := H
 go_enter Tryz.func36, Tryz.ntmps36
 go_wp2_with (first | ((with_reducible refine gate_callee (f := 50) rfl ?_); refine Hl.gl (some 7) rfl rfl Tryz.func50 (by kernel_rfl) rfl #[.slice A0 l0.length c0] rfl ?_; (with_reducible refine (spec_l00From.calls _ _ l0 t152 t153 t154 w _ ?side1 ?side2 ?side3 A2.out).mono ?_); (case side1 => repeat (first | (with_reducible first | exact HB.out | apply below_alloc | apply pw_below_drewN | apply below_drew1) | exact HB.out | exact Below.refl _ _)); (case side2 => exact HR0.out); (case side3 => exact HC0.out); rintro e w5 ⟨g155, rfl, hi, hb, hb2⟩; refine ⟨_, rfl, ?_⟩; replace HB := Hl.am (hb); have HI155 := Hl.am (hi); (try clear hb); (try clear hb2); (try clear hi)) | ((with_reducible refine gate_callee (f := 51) rfl ?_); refine Hl.gl (some 9) rfl rfl Tryz.func51 (by kernel_rfl) rfl #[.pointer (some ⟨g155, 0, none⟩)] rfl ?_; (with_reducible refine (spec_l24Draw.calls k g155 t152 t153 t154 t156 t159 t160 w _ ?side1 ?side2 A3.out).mono ?_); (case side1 => repeat (first | (with_reducible first | exact HI155.out | apply IsS92.alloc | apply IsS92.drewN | apply IsS92.drew | apply IsS92.set_1 | apply IsS92.set_2) | exact HI155.out)); (case side2 => repeat (first | (with_reducible first | exact HB.out | apply below_alloc | apply pw_below_drewN | apply below_drew1 | refine below_set ?_ (IsS92.ge HI155.out)) | exact HB.out | exact Below.refl _ _)); rintro e w6 ⟨v157, rfl, ho0, hi, hb, hk⟩; refine ⟨_, rfl, ?_⟩; have HO158 := Hl.am (Kd.R_lower ho0 (below_size (by repeat (first | (with_reducible first | exact HB.out | apply below_alloc | apply pw_below_drewN | apply below_drew1 | refine below_set ?_ (IsS92.ge HI155.out)) | exact HB.out | exact Below.refl _ _)))); replace HB := Hl.am (hb); replace HI155 := Hl.am (hi); (try clear hb); (try clear hk); (try clear hi); (try clear ho0)) | ((with_reducible refine gate_callee (f := 62) rfl ?_); refine Hl.gl (some 12) rfl rfl Tryz.func62 (by kernel_rfl) rfl #[.pointer (some ⟨g155, 0, none⟩)] rfl ?_; (with_reducible refine (spec_l24Each.calls g155 t152 t159 t160 t161 t162 t163 w _ ?side1 ?side2 A4.out).mono ?_); (case side1 => repeat (first | (with_reducible first | exact HI155.out | apply IsS92.alloc | apply IsS92.drewN | apply IsS92.drew | apply IsS92.set_1 | apply IsS92.set_2) | exact HI155.out)); (case side2 => repeat (first | (with_reducible first | exact HB.out | apply below_alloc | apply pw_below_drewN | apply below_drew1 | refine below_set ?_ (IsS92.ge HI155.out)) | exact HB.out | exact Below.refl _ _)); rintro e w7 ⟨rfl, hi, hb, hk⟩; refine ⟨_, rfl, ?_⟩; replace HO158 := Hl.am (Kd.R_mono (Kd.R_keep (IsS92.apart (show IsS92 w _ g155 t152 t159 t160 from by repeat (first | (with_reducible first | exact HI155.out | apply IsS92.alloc | apply IsS92.drewN | apply IsS92.drew | apply IsS92.set_1 | apply IsS92.set_2) | exact HI155.out)) (Hl.rr HO158) (by decide)) hk (fun _ h => h.2)) (fun _ h => h.1)); replace HB := Hl.am (hb); replace HI155 := Hl.am (hi); (try clear hb); (try clear hk); (try clear hi)))
 go_ret2
 exact ⟨_, by first | rfl | (simp [errW_none, errW_some] <;> rfl) | (simp [*, errW_none, errW_some] <;> rfl), Hl.rr HO158, by repeat (first | (with_reducible first | exact HB.out | apply below_alloc | apply pw_below_drewN | apply below_drew1 | refine below_set ?_ (IsS92.ge HI155.out)) | exact HB.out | exact Below.refl _ _)⟩

/-! ### spec_DrawOnTimeMost: function 6 -/
def spec_DrawOnTimeMost.f (k : Nat) (l0 : List Int) : Option ((List (S33)) × Int) := (spec_l24Both.f k l0).bind fun bt164 => (some (bt164.1, bt164.2))
theorem spec_DrawOnTimeMost.mono : ∀ a0 k, LeO (spec_DrawOnTimeMost.f k a0) (spec_DrawOnTimeMost.f (k + 1) a0) := by
 intro a0 k
 unfold spec_DrawOnTimeMost.f
 repeat' first
   | (with_reducible exact spec_l24Both.mono _ _)
   | (with_reducible exact LeO.refl _)
   | (with_reducible exact LeO.none _)
   | (with_reducible refine LeO.ite ?_ ?_)
   | (with_reducible refine LeO.bind ?_ (fun _ => ?_))
   | exact spec_l24Both.mono _ _
   | exact LeO.none _
   | refine LeO.ite ?_ ?_
   | refine LeO.bind ?_ (fun _ => ?_)
set_option maxHeartbeats 8000000 in
set_option maxRecDepth 100000 in
theorem spec_DrawOnTimeMost.calls (k : Nat) (A0 : Option Addr) (c0 : Nat) (l0 : List Int) (r1 : List (S33)) (r2 : Int) (w : World) (hr0 : Kd.C (Kd.int .u8) w A0 l0.length l0) (hc0 : l0.length ≤ c0) (h : spec_DrawOnTimeMost.f k l0 = some (r1, r2)) :
  Calls Tryz.prog 6 #[.slice A0 l0.length c0] w fun e w' => ∃ v0_ : Value, e = .returned (.tuple #[v0_, .int .i64 r2]) ∧ Kd.R k33 33 w' w.heap.size (fun _ => True) v0_ r1 ∧ Below w.heap.size w w' := by
 have HR0 := Hl.am hr0
 have HC0 := Hl.am hc0
 clear hr0 hc0
 have HB := Hl.am (Below.refl w.heap.size w)
 have H : ((spec_l24Both.f k l0).bind fun bt164 => (some (bt164.1, bt164.2))) = some (r1, r2) := h
 clear h
 replace H := Option.bind_eq_some_iff.mp H
 obtain ⟨⟨t164, t165⟩, A20, H⟩ := H
 replace H : (some (t164, t165)) = some (r1, r2) := H
 have A2 := Hl.am A20
 clear A20
 simp only [Option.some.injEq, Prod.mk.injEq] at H
 obtain ⟨rfl, rfl⟩ := H
 go_enter Tryz.func6, Tryz.ntmps6
 go_wp2_with (first | ((with_reducible refine gate_callee (f := 36) rfl ?_); refine Hl.gl (some 5) rfl rfl Tryz.func36 (by kernel_rfl) rfl #[.slice A0 l0.length c0] rfl ?_; (with_reducible refine (spec_l24Both.calls k _ _ l0 t164 t165 _ ?side1 ?side2 A2.out).mono ?_); (case side1 => exact Hl.cc HR0.out); (case side2 => exact HC0.out); rintro e w3 ⟨v166, rfl, ho0, hb⟩; refine ⟨_, rfl, ?_⟩; have HO167 := Hl.am (Kd.R_lower ho0 (below_size (Hl.bb HB))); replace HB := Hl.am (below_step (Hl.bb HB) hb); (try clear hb); (try clear ho0)))
 go_ret2
 exact ⟨_, by first | rfl | (simp [errW_none, errW_some] <;> rfl) | (simp [*, errW_none, errW_some] <;> rfl), Hl.rr HO167, Hl.bb HB⟩

/-! ### impl_within: function 78 -/
def impl_within.f (a0 : Int) (a1 : Int) (a2 : Int) : Option (Bool) := if a0 ≥ a1 then (some (decide (a0 ≤ a2))) else (some false)
set_option maxHeartbeats 8000000 in
set_option maxRecDepth 100000 in
theorem impl_within.calls (a0 : Int) (a1 : Int) (a2 : Int) (r : Bool) (w : World) (h : impl_within.f a0 a1 a2 = some r) :
  Calls Tryz.prog 78 #[.int .i64 a0, .int .i64 a1, .int .i64 a2] w fun e w' => e = .returned (.bool r) ∧ Drawn0 w w' := by
 have H : (if a0 ≥ a1 then (some (decide (a0 ≤ a2))) else (some false)) = some r := h
 clear h
 by_cases c4 : a0 ≥ a1
 ·
  rw [if_pos c4] at H
  have c4b0 : decide (a1 ≤ a0) = true := decide_eq_true c4
  clear c4
  obtain rfl := Option.some.inj H
  go_enter Tryz.func78, Tryz.ntmps78
  go_wp2
  go_ret
  exact ⟨by first | rfl | (simp; done) | (simp [*]; done), by repeat (first | exact Drawn0.refl _ | apply Drawn0.step)⟩
 ·
  rw [if_neg c4] at H
  have c4b0 : decide (a1 ≤ a0) = false := decide_eq_false c4
  clear c4
  obtain rfl := Option.some.inj H
  go_enter Tryz.func78, Tryz.ntmps78
  go_wp2
  go_ret
  exact ⟨by first | rfl | (simp; done) | (simp [*]; done), by repeat (first | exact Drawn0.refl _ | apply Drawn0.step)⟩

/-! ### impl_isSize: function 59 -/
def impl_isSize.f (a0 : Int) : Option (Bool) := (impl_within.f a0 1 200).bind fun t168 => (some t168)
set_option maxHeartbeats 8000000 in
set_option maxRecDepth 100000 in
theorem impl_isSize.calls (a0 : Int) (r : Bool) (w : World) (h : impl_isSize.f a0 = some r) :
  Calls Tryz.prog 59 #[.int .i64 a0] w fun e w' => e = .returned (.bool r) ∧ Drawn0 w w' := by
 have H : ((impl_within.f a0 1 200).bind fun t168 => (some t168)) = some r := h
 clear h
 replace H := Option.bind_eq_some_iff.mp H
 obtain ⟨t168, A20, H⟩ := H
 replace H : (some t168) = some r := H
 have A2 := Hl.am A20
 clear A20
 obtain rfl := Option.some.inj H
 go_enter Tryz.func59, Tryz.ntmps59
 go_wp2_with (first | ((with_reducible refine gate_callee (f := 78) rfl ?_); refine Hl.gl (some 4) rfl rfl Tryz.func78 (by kernel_rfl) rfl #[.int .i64 a0, .int .i64 1, .int .i64 200] rfl ?_; (with_reducible refine (impl_within.calls a0 1 200 t168 _ A2.out).mono ?_); rintro e w' ⟨rfl, ⟨nd, rfl⟩⟩; refine ⟨_, rfl, ?_⟩))
 go_ret
 exact ⟨by first | rfl | (simp; done) | (simp [*]; done), by repeat (first | exact Drawn0.refl _ | apply Drawn0.step)⟩

/-! ### strings_Trim: function 98 -/
open Go.Shelf in
def strings_Trim.ren227 : Go.Shelf.Ren := ⟨fun | 227 => 120 | n => n, fun | 9 => 9 | 116 => 126 | 4 => 4 | 0 => 0 | 3 => 3 | 5 => 5 | n => n, fun | n => n⟩
open Go.Shelf in
theorem strings_Trim.lays227 : Go.Proofs.Lays.n227 Tryz.prog strings_Trim.ren227 := { mixed := by kernel_rfl, f227 := Tryz.func120.trans (congrArg some (by kernel_rfl)), t0 := Tryz.underlying0, a0 := Tryz.isAgg0, z0 := Tryz.sizeOf0, v0 := Tryz.zeroValue0, t3 := Tryz.underlying3, a3 := Tryz.isAgg3, z3 := Tryz.sizeOf3, v3 := Tryz.zeroValue3, t4 := Tryz.underlying4, a4 := Tryz.isAgg4, z4 := Tryz.sizeOf4, v4 := Tryz.zeroValue4, t5 := Tryz.underlying5, a5 := Tryz.isAgg5, z5 := Tryz.sizeOf5, v5 := Tryz.zeroValue5, t9 := Tryz.underlying9, a9 := Tryz.isAgg9, z9 := Tryz.sizeOf9, v9 := Tryz.zeroValue9, t116 := Tryz.underlying126, a116 := Tryz.isAgg126, z116 := Tryz.sizeOf126 }
open Go.Lib in
theorem strings_Trim.makeSet (hv116 : ∀ w, (zeroValue 126).run Tryz.prog w = .ok (.agg (Array.replicate 256 (.bool false))) w) (chars : ByteArray) (w : World) (hs : chars.size < 4294967281) (hascii : ∀ (j : Nat) b, chars.data.toList[j]? = some b → b.toNat < 128) :
    Calls Tryz.prog 120 #[.string chars] w fun e w' => e = .returned (.tuple #[.agg (Lib.setCells chars.data.toList), .bool true]) ∧ w' = w.alloc (.cells (Lib.setCells chars.data.toList) 126) := Any.strings_makeASCIISet strings_Trim.lays227 hv116 (by kernel_rfl) chars w hs hascii
set_option maxHeartbeats 8000000 in
set_option maxRecDepth 100000 in
theorem strings_Trim.has (b : Nat) (x : UInt8) (v : Bool) (w : World) (hc : w.cell? ⟨b, x.toNat, none⟩ = some (.bool v)) :
    Calls Tryz.prog 146 #[.pointer (some ⟨b, 0, none⟩), .int .u8 x.toNat] w fun e w' => e = .returned (.bool v) ∧ w' = w := by
  have hx := x.toNat_lt
  have h1 : (x.toNat : Int) < 256 := by omega
  go_enter Tryz.func146, Tryz.ntmps146
  go_wp2
  go_ret
  exact ⟨rfl, rfl⟩
/-- The bytes of a name. -/
def strings_Trim.set : List UInt8 := [97, 98, 99, 100, 101, 102, 103, 104, 105, 106, 107, 108, 109, 110, 111, 112, 113, 114, 115, 116, 117, 118, 119, 120, 121, 122, 48, 49, 50, 51, 52, 53, 54, 55, 56, 57, 45]
def strings_Trim.f (a0 a1 : ByteArray) : Option ByteArray := if 0 < a0.size ∧ a0.size ≤ 9223372036854775807 ∧ a1.data.toList = strings_Trim.set then some ⟨(Hl.tlS strings_Trim.set (Hl.trS strings_Trim.set a0.data.toList)).toArray⟩ else none
set_option maxHeartbeats 8000000 in
set_option maxRecDepth 100000 in
theorem strings_Trim.left (cs : List UInt8) (s : ByteArray) (b : Nat) (w : World) (hset : ∀ x : UInt8, w.cell? ⟨b, x.toNat, none⟩ = some (.bool (cs.contains x))) :
    Calls Tryz.prog 121 #[.string s, .pointer (some ⟨b, 0, none⟩)] w fun e w' => e = .returned (.string ⟨(Hl.tlS cs s.data.toList).toArray⟩) ∧ w' = w := by
  have HS := Aside0.mk hset
  clear hset
  go_enter Tryz.func121, Tryz.ntmps121
  go_wp2
  go_loop [0] (fun v => ∃ t : ByteArray, v = .string t ∧ Aside0 (Hl.tlS cs t.data.toList = Hl.tlS cs s.data.toList)) (fun v => Hl.strSz v)
  case atStart => exact ⟨s, rfl, ⟨rfl⟩⟩
  case round =>
    obtain ⟨t, rfl, HT⟩ := hrel
    by_cases h0 : 0 < t.size
    · have hcx := HS.out (t[0]'h0)
      have ht := Hl.mk_data t
      cases hin : cs.contains (t[0]'h0) <;> rw [hin] at hcx
      · have HI := Aside0.mk (Hl.tlS_out h0 hin)
        clear hin
        go_wp2_with (go_at_call 146; refine (strings_Trim.has b (t[0]'h0) _ _ hcx).mono ?_; rintro e w' ⟨rfl, hw⟩; rw [hw])
        go_ret
        refine ⟨?_, rfl⟩
        rw [← HT.out, HI.out, Hl.mk_data]
        rfl
      · have HI := Aside0.mk (Hl.tlS_in h0 hin)
        clear hin
        go_wp2_with (go_at_call 146; refine (strings_Trim.has b (t[0]'h0) _ _ hcx).mono ?_; rintro e w' ⟨rfl, hw⟩; rw [hw])
        go_round
        case rel => exact ⟨t.extract 1 t.size, rfl, ⟨HI.out.trans HT.out⟩⟩
        case measure =>
          show (t.extract 1 t.size).size < t.size
          rw [ByteArray.size_extract]
          omega
    · have HI := Aside0.mk (Hl.tlS_nil (cs := cs) h0)
      go_wp2
      go_ret
      refine ⟨?_, rfl⟩
      rw [← HT.out, HI.out, Hl.mk_data]
      rfl
set_option maxHeartbeats 8000000 in
set_option maxRecDepth 100000 in
theorem strings_Trim.right (cs : List UInt8) (s : ByteArray) (b : Nat) (w : World) (hs : s.size ≤ 9223372036854775807) (hset : ∀ x : UInt8, w.cell? ⟨b, x.toNat, none⟩ = some (.bool (cs.contains x))) :
    Calls Tryz.prog 122 #[.string s, .pointer (some ⟨b, 0, none⟩)] w fun e w' => e = .returned (.string ⟨(Hl.trS cs s.data.toList).toArray⟩) ∧ w' = w := by
  have HS := Aside0.mk hset
  clear hset
  go_enter Tryz.func122, Tryz.ntmps122
  go_wp2
  go_loop [0] (fun v => ∃ t : ByteArray, v = .string t ∧ t.size ≤ 9223372036854775807 ∧ Aside0 (Hl.trS cs t.data.toList = Hl.trS cs s.data.toList)) (fun v => Hl.strSz v)
  case atStart => exact ⟨s, rfl, hs, ⟨rfl⟩⟩
  case round =>
    obtain ⟨t, rfl, hts, HT⟩ := hrel
    by_cases h0 : 0 < t.size
    · have h1 : t.size - 1 < t.size := by omega
      have hcx := HS.out (t[t.size - 1]'h1)
      have h2 : ((t.size : Int) - 1).toNat = t.size - 1 := by omega
      have h3 : 1 ≤ t.size := h0
      cases hin : cs.contains (t[t.size - 1]'h1) <;> rw [hin] at hcx
      · have HI := Aside0.mk (Hl.trS_out h1 hin)
        clear hin
        go_wp2_with (go_at_call 146; refine (strings_Trim.has b (t[t.size - 1]'h1) _ _ hcx).mono ?_; rintro e w' ⟨rfl, hw⟩; rw [hw])
        go_ret
        refine ⟨?_, rfl⟩
        rw [← HT.out, HI.out, Hl.mk_data]
        rfl
      · have HI := Aside0.mk (Hl.trS_in h1 hin)
        clear hin
        go_wp2_with (go_at_call 146; refine (strings_Trim.has b (t[t.size - 1]'h1) _ _ hcx).mono ?_; rintro e w' ⟨rfl, hw⟩; rw [hw])
        go_round
        case rel => exact ⟨t.extract 0 (t.size - 1), rfl, (by rw [ByteArray.size_extract]; omega), ⟨HI.out.trans HT.out⟩⟩
        case measure =>
          show (t.extract 0 (t.size - 1)).size < t.size
          rw [ByteArray.size_extract]
          omega
    · have HI := Aside0.mk (Hl.trS_nil (cs := cs) h0)
      go_wp2
      go_ret
      refine ⟨?_, rfl⟩
      rw [← HT.out, HI.out, Hl.mk_data]
      rfl
set_option maxHeartbeats 8000000 in
set_option maxRecDepth 100000 in
theorem strings_Trim.calls (a0 a1 : ByteArray) (r : ByteArray) (w : World) (h : strings_Trim.f a0 a1 = some r) :
    Calls Tryz.prog 98 #[.string a0, .string a1] w fun e w' => e = .returned (.string r) ∧ Below w.heap.size w w' := by
  unfold strings_Trim.f at h
  split at h
  case isFalse => cases h
  case isTrue hc =>
  obtain ⟨h0, hs, hset⟩ := hc
  obtain rfl := Option.some.inj h
  clear h
  have h116 : (Tryz.prog.info? 126).map (fun i => (i.zero, i.size)) = some (some (.agg (Array.replicate 256 (.bool false))), 256) := by kernel_rfl
  have hv116 := (zero_of_info h116).1
  have hi116 := (zero_of_info h116).2
  have hcsz : a1.size = 37 := by
    show a1.data.size = 37
    rw [← Array.length_toList, hset]
    rfl
  have hM := strings_Trim.makeSet hv116 a1 w (by omega) (by
    rw [hset]
    have hall : (strings_Trim.set.all fun b => decide (b.toNat < 128)) = true := by decide
    exact fun _ b hb => of_decide_eq_true (List.all_eq_true.1 hall b (List.mem_of_getElem? hb)))
  rw [hset] at hM
  generalize strings_Trim.set = cs at hM hset ⊢
  have hemp : a1.toList.isEmpty = false := by
    rw [Lib.toList_data]
    cases h : a1.data.toList with
    | nil =>
      have : a1.data.toList.length = 37 := by rw [Array.length_toList]; exact hcsz
      rw [h] at this
      cases this
    | cons _ _ => rfl
  have hemps : a0.toList.isEmpty = false := by
    rw [Lib.toList_data]
    cases h : a0.data.toList with
    | nil =>
      have : 0 < a0.data.toList.length := by rw [Array.length_toList]; exact h0
      rw [h] at this
      exact absurd this (Nat.lt_irrefl _)
    | cons _ _ => rfl
  have hn1 : ((a1.size : Int) == 1) = false := beq_eq_false_iff_ne.2 (by omega)
  have hsc : (storeCells ⟨w.heap.size + 1, 0, none⟩ (Lib.setCells cs).toList 0).run Tryz.prog ((w.alloc (.cells (Lib.setCells cs) 126)).alloc (.cells (Array.replicate 256 (.bool false)) 126)) = .ok () ((w.alloc (.cells (Lib.setCells cs) 126)).alloc (.cells (Lib.setCells cs) 126)) := by
    have := run_storeCells_new (P := Tryz.prog) (w.alloc (.cells (Lib.setCells cs) 126)) 126 (Array.replicate 256 (.bool false)) (Lib.setCells cs) (by rw [Lib.setCells_size]; exact hi116) (by rw [Lib.setCells_size, Array.size_replicate]) (Lib.setCells_one _)
    simpa using this
  have hsz := Lib.setCells_size cs
  have hcellAt : ∀ x : UInt8, ((w.alloc (.cells (Lib.setCells cs) 126)).alloc (.cells (Lib.setCells cs) 126)).cell? ⟨w.heap.size + 1, x.toNat, none⟩ = some (.bool (cs.contains x)) := fun x => by
    rw [World.cell?_alloc_at _ _ _ _ (by simp), Lib.setCells_at]
  have HC := Aside0.mk hcellAt
  have HS := Aside0.mk hs
  clear hcellAt hcsz hset hs
  have z116 := Tryz.sizeOf126
  go_enter Tryz.func98, Tryz.ntmps98
  go_wp2_with (first
    | (go_at_call 120; refine hM.mono ?_; rintro e w' ⟨rfl, hw⟩; rw [hw])
    | (go_at_call 122; refine (strings_Trim.right cs a0 (w.heap.size + 1) _ HS.out HC.out).mono ?_; rintro e w' ⟨rfl, hw⟩; rw [hw])
    | (go_at_call 121; refine (strings_Trim.left cs _ (w.heap.size + 1) _ HC.out).mono ?_; rintro e w' ⟨rfl, hw⟩; rw [hw]))
  go_ret
  exact ⟨rfl, ((Below.refl _ w).alloc (Nat.le_refl _) _).alloc (by simp) _⟩

end Go.Proofs.YtkfpcbhapnhckaaGreatDoor.PFnOnTime
