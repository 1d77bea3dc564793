/- Written by a program (ext.py). No conditions but those that each theorem states. -/
import Derived.Test.YtkfpcbhapnhckaaGreatDoorPFnOrdersDonex0
import Derived.Test.YtkfpcbhapnhckaaGreatDoorPFnOrdersDonex4
namespace Go.Proofs.YtkfpcbhapnhckaaGreatDoor.PFnOrdersDone
open Go.RowKit Go.Proofs.YtkfpcbhapnhckaaGreatDoorW.PrintWords Go.Proofs.YtkfpcbhapnhckaaGreatDoorW.PrintLast Go.Proofs.YtkfpcbhapnhckaaGreatDoorW.PrintMore
attribute [local go_sem] max2_int min2_int max_two min_two max_three min_three max_four min_four Go.Proofs.YtkfpcbhapnhckaaGreatDoor.Hl.isSome_set
set_option linter.unusedVariables false
set_option linter.unusedSimpArgs false

/-! ### spec_l24Draw: function 51 -/
/-- What a spoilt order is like. -/
def spec_l24Draw.sp (s : List Int) (p h : Int) (x : S33) : Option (S33 × Int × Int) := (spec_l00Src_pick.f s p h 4).bind fun q => if q.1 = 0 then ((spec_l00Src_text.f s q.2.1 q.2.2 ([(⟨#[]⟩ : ByteArray), (⟨#[83, 99, 104, 111, 111, 108]⟩ : ByteArray), (⟨#[97, 32, 98]⟩ : ByteArray)] : List ByteArray)).bind fun t => some (⟨t.1, x.f1, x.f2, x.f3⟩, t.2.1, t.2.2)) else if q.1 = 1 then ((spec_l00Src_among.f s q.2.1 q.2.2 ([(-1), 0, 1, 200, 201] : List Int)).bind fun t => some (⟨x.f0, t.1, x.f2, x.f3⟩, t.2.1, t.2.2)) else if q.1 = 2 then ((spec_l00Src_among.f s q.2.1 q.2.2 ([(-1), 0, 1, 100, 101, (-9223372036854775808)] : List Int)).bind fun t => some (⟨x.f0, x.f1, t.1, x.f3⟩, t.2.1, t.2.2)) else if q.1 = 3 then ((spec_l00Src_among.f s q.2.1 q.2.2 ([(-1), 0, 20000, 20001] : List Int)).bind fun t => some (⟨x.f0, x.f1, x.f2, t.1⟩, t.2.1, t.2.2)) else some (x, q.2.1, q.2.2)
theorem spec_l24Draw.keep4 {w w1 w2 : World} {g gb : Nat} (h : KeepBut w w1 g none) (hg : w1.grownBy w2 (some gb)) : KeepBut w w2 g (some gb) :=
  ⟨Nat.le_trans h.1 hg.size, fun i hi h1 h2 => (hg.block i (Nat.lt_of_lt_of_le hi h.1) h2).trans (h.2 i hi h1 (by simp))⟩
theorem spec_l24Draw.same4 (xs : List S33) (i : Int) (h0 : 0 ≤ i) : xs.set i.toNat (rd_T33 xs i) = xs := by
  unfold rd_T33
  apply List.ext_getElem?
  intro j
  rw [List.getElem?_set]
  by_cases h : i.toNat = j
  · subst h
    by_cases hl : i.toNat < xs.length
    · simp [hl]
    · simp [hl]
  · rw [if_neg h]
theorem spec_l24Draw.cells4 {W : World} {base gb n cap : Nat} {ok : Nat → Prop} {xs : List S33} (h : Kd.R k33 33 W base ok (.slice (some ⟨gb, 0, none⟩) n cap) xs) (i : Int) (h0 : 0 ≤ i) (hi : i < n) : ∀ (j : Nat) (u : Value), ([.string (rd_T33 xs i).f0, .int .i64 (rd_T33 xs i).f1, .int .i64 (rd_T33 xs i).f2, .int .i64 (rd_T33 xs i).f3] : List Value)[j]? = some u → W.cell? ⟨gb, i.toNat * 4 + j, none⟩ = some u := by
  obtain ⟨c, hcl, hM, hcc, _⟩ := Kd.R_elem h z33 i h0 hi
  have e := k33_openM hM
  intro j u hu
  exact hcc j u (by rw [e]; exact hu)

set_option maxHeartbeats 8000000 in
set_option maxRecDepth 100000 in
/-- spec.l24Spoil at an element of a row that the caller has made. -/
theorem spec_l24Draw.spoil (g : Nat) (s : List Int) (p h : Int) (gb n cap base : Nat) (xs : List S33) (i : Int) (y : S33) (p2 h2 : Int) (w0 w : World) (hI : IsS92 w0 w g s p h) (hB : Below w0.heap.size w0 w) (hO : Kd.R k33 33 w base (fun _ => True) (.slice (some ⟨gb, 0, none⟩) n cap) xs) (h0 : 0 ≤ i) (hi : i < n) (hbase : w0.heap.size ≤ base) (hf : spec_l24Draw.sp s p h (rd_T33 xs i) = some (y, p2, h2)) :
    Calls Tryz.prog 54 #[.pointer (some ⟨g, 0, none⟩), .pointer (some ⟨gb, i.toNat * 4, none⟩)] w fun e w' => e = .returned (.tuple #[]) ∧ Kd.R k33 33 w' base (fun _ => True) (.slice (some ⟨gb, 0, none⟩) n cap) (xs.set i.toNat y) ∧ IsS92 w0 w' g s p2 h2 ∧ Below w0.heap.size w0 w' ∧ KeepBut w w' g (some gb) := by
  have hu := Tryz.underlying33
  have hne : gb ≠ g := by
    have := IsS92.own_ne hI hO (by decide)
    intro e
    exact this (by rw [← e]; rfl)
  unfold spec_l24Draw.sp at hf
  obtain ⟨⟨q, p1, h1⟩, A1, hf⟩ := Option.bind_eq_some_iff.1 hf
  dsimp only at hf
  have HA1 := Aside0.mk A1
  have HI0 := Aside0.mk hI
  have HB := Aside0.mk hB
  have HK := Aside0.mk (KeepBut.refl w g none)
  have HO := Aside0.mk hO
  have H0 := Aside0.mk h0
  have H1 := Aside0.mk hi
  have HBS := Aside0.mk hbase
  have HNE := Aside0.mk hne
  clear A1 hI hB hO h0 hi hbase hne
  by_cases c0 : q = 0
  · rw [if_pos c0] at hf
    obtain ⟨⟨t, p3, h3⟩, A2, hf⟩ := Option.bind_eq_some_iff.1 hf
    dsimp only at hf A2
    have HA2 := Aside0.mk A2
    simp only [Option.some.injEq, Prod.mk.injEq] at hf
    obtain ⟨rfl, rfl, rfl⟩ := hf
    clear A2
    obtain ⟨L, hL⟩ : ∃ L : List ByteArray, L = ([(⟨#[]⟩ : ByteArray), (⟨#[83, 99, 104, 111, 111, 108]⟩ : ByteArray), (⟨#[97, 32, 98]⟩ : ByteArray)] : List ByteArray) := ⟨_, rfl⟩
    rw [← hL] at HA2
    have HL := Aside0.mk hL
    clear hL
    subst c0
    go_enter Tryz.func54, Tryz.ntmps54
    go_wp2_with (first | ((with_reducible refine gate_callee (f := 64) rfl ?_); refine Hl.gl (some 5) rfl rfl Tryz.func64 (by kernel_rfl) rfl #[.pointer (some ⟨g, 0, none⟩), .int .i64 4] rfl ?_; refine (spec_l00Src_pick.calls g s p h 4 _ p1 h1 w0 _ ?s1 ?s2 HA1.out).mono ?_; (case s1 => exact (iS_ HI0)); (case s2 => exact (Hl.bb HB)); rintro e w1 ⟨rfl, hi, hb, hk⟩; refine ⟨_, rfl, ?_⟩; replace HK := Aside0.mk (KeepBut.trans (kS_ HK) hk (.inl rfl)); replace HO := Aside0.mk (Kd.R_mono (Kd.R_keep (IsS92.apart (show IsS92 w0 _ g s p h from iS_ HI0) HO.out (by decide)) hk (fun _ h => h.2)) (fun _ h => h.1)); replace HB := Aside0.mk hb; replace HI0 := Aside0.mk hi; clear hb hk hi) | ((with_reducible refine gate_dst (N := 10) rfl ?_); refine Kd.R_lit Kd.string _ 9 ?hg (N := 10) ?hd (xs := ([(⟨#[]⟩ : ByteArray), (⟨#[83, 99, 104, 111, 111, 108]⟩ : ByteArray), (⟨#[97, 32, 98]⟩ : ByteArray)] : List ByteArray)) (inner := [.string (⟨#[]⟩ : ByteArray), .string (⟨#[83, 99, 104, 111, 111, 108]⟩ : ByteArray), .string (⟨#[97, 32, 98]⟩ : ByteArray)]) (ok := fun _ => True) (okp := fun _ => True) ?hr ?hp (fun _ hk => hk) trivial (Below.refl _ _) (Nat.le_refl _) (by simp) ?_; (case hd => rfl); (case hg => rfl); (case hr => first | (go_simp; done) | (go_simp; rfl)); (case hp => exact (Reps.one (show Kd.M Kd.string _ _ _ (⟨#[]⟩ : ByteArray) [.string (⟨#[]⟩ : ByteArray)] from rfl) (Reps.one (show Kd.M Kd.string _ _ _ (⟨#[83, 99, 104, 111, 111, 108]⟩ : ByteArray) [.string (⟨#[83, 99, 104, 111, 111, 108]⟩ : ByteArray)] from rfl) (Reps.one (show Kd.M Kd.string _ _ _ (⟨#[97, 32, 98]⟩ : ByteArray) [.string (⟨#[97, 32, 98]⟩ : ByteArray)] from rfl) (Reps.none _ _))))); intro v2 w2 ho2 hb hg_ hnew_; clear hg_ hnew_; rw [← HL.out] at ho2; have HO2 := Aside0.mk ho2; replace HO := Aside0.mk (Kd.R_below HO.out hb); replace HK := Aside0.mk (KeepBut.trans (kS_ HK) (KeepBut.of_below hb g none) (.inl rfl)); replace HB := Aside0.mk (below_step (Hl.bb HB) hb); replace HI0 := Aside0.mk (IsS92.below (iS_ HI0) hb); clear hb ho2; obtain ⟨A3, c3, e3⟩ := Kd.R_slice HO2.out; subst e3) | ((with_reducible refine gate_callee (f := 84) rfl ?_); refine Hl.gl (some 11) rfl rfl Tryz.func84 (by kernel_rfl) rfl #[.pointer (some ⟨g, 0, none⟩), .slice A3 L.length c3] rfl ?_; refine (spec_l00Src_text.calls g s p1 h1 _ _ L t p3 h3 w0 _ ?s1 ?s2 ?s3 ?s4 ?s5 HA2.out).mono ?_; (case s1 => exact (iS_ HI0)); (case s2 => exact (Hl.bb HB)); (case s3 => exact (Kd.R_reads' HO2.out).2.2); (case s4 => exact (Kd.R_reads' HO2.out).2.1); (case s5 => exact far_slice (IsS92.own_ne HI0.out HO2.out (by decide))); rintro e w3 ⟨rfl, hi, hb, hk⟩; refine ⟨_, rfl, ?_⟩; replace HK := Aside0.mk (KeepBut.trans (kS_ HK) hk (.inl rfl)); replace HO := Aside0.mk (Kd.R_mono (Kd.R_keep (IsS92.apart (show IsS92 w0 _ g s p1 h1 from iS_ HI0) HO.out (by decide)) hk (fun _ h => h.2)) (fun _ h => h.1)); clear HO2; replace HB := Aside0.mk hb; replace HI0 := Aside0.mk hi; clear hb hk hi) | ((with_reducible refine gate_store (t := 9) (p := 13) rfl ?_); refine Kd.R_store k33  base rfl rfl 9 (.tmp 13) (.tmp 11) rfl 33 (g := gb) (n := n) (cap := cap) (o' := i.toNat * 4 + 0) i 0 xs (⟨t, (rd_T33 xs i).f1, (rd_T33 xs i).f2, (rd_T33 xs i).f3⟩ : S33) (.string t) [.string t] [.string (rd_T33 xs i).f0, .int .i64 (rd_T33 xs i).f1, .int .i64 (rd_T33 xs i).f2, .int .i64 (rd_T33 xs i).f3] (fun _ => True) (fun _ => False) ?e1 rfl ?e2 rfl (by kernel_rfl) (by intro q_ hq_; obtain rfl := List.mem_singleton.1 hq_; rfl) HO.out H0.out H1.out rfl ?e3 (by show 0 + 1 ≤ 4; decide) (k33_mkM _ _ _ _) (fun _ hk => hk.elim) (Below.refl _ _) ?_; (case e1 => first | (go_simp; done) | (go_simp; rfl) | rfl); (case e2 => first | (go_simp; done) | (go_simp; rfl) | rfl); (case e3 => exact spec_l24Draw.cells4 HO.out i H0.out H1.out); intro w4 hO4 _hB4 hG4; have HO4 := Aside0.mk hO4; have HG4 := Aside0.mk hG4; clear hO4 _hB4 hG4))
    go_end0
    exact ⟨rfl, HO4.out, IsS92.grown HI0.out HG4.out (by intro e; injection e with e; exact HNE.out e.symm), HB.out.grown HG4.out HB.out.size (fun k e => by injection e with e; subst e; exact Nat.le_trans HBS.out (Kd.R_base HO.out _ rfl)), spec_l24Draw.keep4 HK.out HG4.out⟩
  rw [if_neg c0] at hf
  have d0 : decide (q = 0) = false := decide_eq_false c0
  have e0 : (q == 0) = false := by rw [beq_eq_false_iff_ne]; exact c0
  by_cases c1 : q = 1
  · rw [if_pos c1] at hf
    obtain ⟨⟨t, p3, h3⟩, A2, hf⟩ := Option.bind_eq_some_iff.1 hf
    dsimp only at hf A2
    have HA2 := Aside0.mk A2
    simp only [Option.some.injEq, Prod.mk.injEq] at hf
    obtain ⟨rfl, rfl, rfl⟩ := hf
    clear A2
    obtain ⟨L, hL⟩ : ∃ L : List Int, L = ([(-1), 0, 1, 200, 201] : List Int) := ⟨_, rfl⟩
    rw [← hL] at HA2
    have HL := Aside0.mk hL
    clear hL
    subst c1
    go_enter Tryz.func54, Tryz.ntmps54
    go_wp2_with (first | ((with_reducible refine gate_callee (f := 64) rfl ?_); refine Hl.gl (some 5) rfl rfl Tryz.func64 (by kernel_rfl) rfl #[.pointer (some ⟨g, 0, none⟩), .int .i64 4] rfl ?_; refine (spec_l00Src_pick.calls g s p h 4 _ p1 h1 w0 _ ?s1 ?s2 HA1.out).mono ?_; (case s1 => exact (iS_ HI0)); (case s2 => exact (Hl.bb HB)); rintro e w1 ⟨rfl, hi, hb, hk⟩; refine ⟨_, rfl, ?_⟩; replace HK := Aside0.mk (KeepBut.trans (kS_ HK) hk (.inl rfl)); replace HO := Aside0.mk (Kd.R_mono (Kd.R_keep (IsS92.apart (show IsS92 w0 _ g s p h from iS_ HI0) HO.out (by decide)) hk (fun _ h => h.2)) (fun _ h => h.1)); replace HB := Aside0.mk hb; replace HI0 := Aside0.mk hi; clear hb hk hi) | ((with_reducible refine gate_dst (N := 18) rfl ?_); refine Kd.R_lit (Kd.int .i64) _ 2 ?hg (N := 18) ?hd (xs := ([(-1), 0, 1, 200, 201] : List Int)) (inner := [.int .i64 (-1), .int .i64 0, .int .i64 1, .int .i64 200, .int .i64 201]) (ok := fun _ => True) (okp := fun _ => True) ?hr ?hp (fun _ hk => hk) trivial (Below.refl _ _) (Nat.le_refl _) (by simp) ?_; (case hd => rfl); (case hg => rfl); (case hr => first | (go_simp; done) | (go_simp; rfl)); (case hp => exact (Reps.one (show Kd.M (Kd.int .i64) _ _ _ (-1) [.int .i64 (-1)] from rfl) (Reps.one (show Kd.M (Kd.int .i64) _ _ _ 0 [.int .i64 0] from rfl) (Reps.one (show Kd.M (Kd.int .i64) _ _ _ 1 [.int .i64 1] from rfl) (Reps.one (show Kd.M (Kd.int .i64) _ _ _ 200 [.int .i64 200] from rfl) (Reps.one (show Kd.M (Kd.int .i64) _ _ _ 201 [.int .i64 201] from rfl) (Reps.none _ _))))))); intro v2 w2 ho2 hb hg_ hnew_; clear hg_ hnew_; rw [← HL.out] at ho2; have HO2 := Aside0.mk ho2; replace HO := Aside0.mk (Kd.R_below HO.out hb); replace HK := Aside0.mk (KeepBut.trans (kS_ HK) (KeepBut.of_below hb g none) (.inl rfl)); replace HB := Aside0.mk (below_step (Hl.bb HB) hb); replace HI0 := Aside0.mk (IsS92.below (iS_ HI0) hb); clear hb ho2; obtain ⟨A3, c3, e3⟩ := Kd.R_slice HO2.out; subst e3) | ((with_reducible refine gate_callee (f := 58) rfl ?_); refine Hl.gl (some 19) rfl rfl Tryz.func58 (by kernel_rfl) rfl #[.pointer (some ⟨g, 0, none⟩), .slice A3 L.length c3] rfl ?_; refine (spec_l00Src_among.calls g s p1 h1 _ _ L t p3 h3 w0 _ ?s1 ?s2 ?s3 ?s4 ?s5 HA2.out).mono ?_; (case s1 => exact (iS_ HI0)); (case s2 => exact (Hl.bb HB)); (case s3 => exact (Kd.R_reads' HO2.out).2.2); (case s4 => exact (Kd.R_reads' HO2.out).2.1); (case s5 => exact far_slice (IsS92.own_ne HI0.out HO2.out (by decide))); rintro e w3 ⟨rfl, hi, hb, hk⟩; refine ⟨_, rfl, ?_⟩; replace HK := Aside0.mk (KeepBut.trans (kS_ HK) hk (.inl rfl)); replace HO := Aside0.mk (Kd.R_mono (Kd.R_keep (IsS92.apart (show IsS92 w0 _ g s p1 h1 from iS_ HI0) HO.out (by decide)) hk (fun _ h => h.2)) (fun _ h => h.1)); clear HO2; replace HB := Aside0.mk hb; replace HI0 := Aside0.mk hi; clear hb hk hi) | ((with_reducible refine gate_store (t := 2) (p := 21) rfl ?_); refine Kd.R_store k33  base rfl rfl 2 (.tmp 21) (.tmp 19) rfl 33 (g := gb) (n := n) (cap := cap) (o' := i.toNat * 4 + 1) i 1 xs (⟨(rd_T33 xs i).f0, t, (rd_T33 xs i).f2, (rd_T33 xs i).f3⟩ : S33) (.int .i64 t) [.int .i64 t] [.string (rd_T33 xs i).f0, .int .i64 (rd_T33 xs i).f1, .int .i64 (rd_T33 xs i).f2, .int .i64 (rd_T33 xs i).f3] (fun _ => True) (fun _ => False) ?e1 rfl ?e2 rfl (by kernel_rfl) (by intro q_ hq_; obtain rfl := List.mem_singleton.1 hq_; rfl) HO.out H0.out H1.out rfl ?e3 (by show 1 + 1 ≤ 4; decide) (k33_mkM _ _ _ _) (fun _ hk => hk.elim) (Below.refl _ _) ?_; (case e1 => first | (go_simp; done) | (go_simp; rfl) | rfl); (case e2 => first | (go_simp; done) | (go_simp; rfl) | rfl); (case e3 => exact spec_l24Draw.cells4 HO.out i H0.out H1.out); intro w4 hO4 _hB4 hG4; have HO4 := Aside0.mk hO4; have HG4 := Aside0.mk hG4; clear hO4 _hB4 hG4))
    go_end0
    exact ⟨rfl, HO4.out, IsS92.grown HI0.out HG4.out (by intro e; injection e with e; exact HNE.out e.symm), HB.out.grown HG4.out HB.out.size (fun k e => by injection e with e; subst e; exact Nat.le_trans HBS.out (Kd.R_base HO.out _ rfl)), spec_l24Draw.keep4 HK.out HG4.out⟩
  rw [if_neg c1] at hf
  have d1 : decide (q = 1) = false := decide_eq_false c1
  have e1 : (q == 1) = false := by rw [beq_eq_false_iff_ne]; exact c1
  by_cases c2 : q = 2
  · rw [if_pos c2] at hf
    obtain ⟨⟨t, p3, h3⟩, A2, hf⟩ := Option.bind_eq_some_iff.1 hf
    dsimp only at hf A2
    have HA2 := Aside0.mk A2
    simp only [Option.some.injEq, Prod.mk.injEq] at hf
    obtain ⟨rfl, rfl, rfl⟩ := hf
    clear A2
    obtain ⟨L, hL⟩ : ∃ L : List Int, L = ([(-1), 0, 1, 100, 101, (-9223372036854775808)] : List Int) := ⟨_, rfl⟩
    rw [← hL] at HA2
    have HL := Aside0.mk hL
    clear hL
    subst c2
    go_enter Tryz.func54, Tryz.ntmps54
    go_wp2_with (first | ((with_reducible refine gate_callee (f := 64) rfl ?_); refine Hl.gl (some 5) rfl rfl Tryz.func64 (by kernel_rfl) rfl #[.pointer (some ⟨g, 0, none⟩), .int .i64 4] rfl ?_; refine (spec_l00Src_pick.calls g s p h 4 _ p1 h1 w0 _ ?s1 ?s2 HA1.out).mono ?_; (case s1 => exact (iS_ HI0)); (case s2 => exact (Hl.bb HB)); rintro e w1 ⟨rfl, hi, hb, hk⟩; refine ⟨_, rfl, ?_⟩; replace HK := Aside0.mk (KeepBut.trans (kS_ HK) hk (.inl rfl)); replace HO := Aside0.mk (Kd.R_mono (Kd.R_keep (IsS92.apart (show IsS92 w0 _ g s p h from iS_ HI0) HO.out (by decide)) hk (fun _ h => h.2)) (fun _ h => h.1)); replace HB := Aside0.mk hb; replace HI0 := Aside0.mk hi; clear hb hk hi) | ((with_reducible refine gate_dst (N := 26) rfl ?_); refine Kd.R_lit (Kd.int .i64) _ 2 ?hg (N := 26) ?hd (xs := ([(-1), 0, 1, 100, 101, (-9223372036854775808)] : List Int)) (inner := [.int .i64 (-1), .int .i64 0, .int .i64 1, .int .i64 100, .int .i64 101, .int .i64 (-9223372036854775808)]) (ok := fun _ => True) (okp := fun _ => True) ?hr ?hp (fun _ hk => hk) trivial (Below.refl _ _) (Nat.le_refl _) (by simp) ?_; (case hd => rfl); (case hg => rfl); (case hr => first | (go_simp; done) | (go_simp; rfl)); (case hp => exact (Reps.one (show Kd.M (Kd.int .i64) _ _ _ (-1) [.int .i64 (-1)] from rfl) (Reps.one (show Kd.M (Kd.int .i64) _ _ _ 0 [.int .i64 0] from rfl) (Reps.one (show Kd.M (Kd.int .i64) _ _ _ 1 [.int .i64 1] from rfl) (Reps.one (show Kd.M (Kd.int .i64) _ _ _ 100 [.int .i64 100] from rfl) (Reps.one (show Kd.M (Kd.int .i64) _ _ _ 101 [.int .i64 101] from rfl) (Reps.one (show Kd.M (Kd.int .i64) _ _ _ (-9223372036854775808) [.int .i64 (-9223372036854775808)] from rfl) (Reps.none _ _)))))))); intro v2 w2 ho2 hb hg_ hnew_; clear hg_ hnew_; rw [← HL.out] at ho2; have HO2 := Aside0.mk ho2; replace HO := Aside0.mk (Kd.R_below HO.out hb); replace HK := Aside0.mk (KeepBut.trans (kS_ HK) (KeepBut.of_below hb g none) (.inl rfl)); replace HB := Aside0.mk (below_step (Hl.bb HB) hb); replace HI0 := Aside0.mk (IsS92.below (iS_ HI0) hb); clear hb ho2; obtain ⟨A3, c3, e3⟩ := Kd.R_slice HO2.out; subst e3) | ((with_reducible refine gate_callee (f := 58) rfl ?_); refine Hl.gl (some 27) rfl rfl Tryz.func58 (by kernel_rfl) rfl #[.pointer (some ⟨g, 0, none⟩), .slice A3 L.length c3] rfl ?_; refine (spec_l00Src_among.calls g s p1 h1 _ _ L t p3 h3 w0 _ ?s1 ?s2 ?s3 ?s4 ?s5 HA2.out).mono ?_; (case s1 => exact (iS_ HI0)); (case s2 => exact (Hl.bb HB)); (case s3 => exact (Kd.R_reads' HO2.out).2.2); (case s4 => exact (Kd.R_reads' HO2.out).2.1); (case s5 => exact far_slice (IsS92.own_ne HI0.out HO2.out (by decide))); rintro e w3 ⟨rfl, hi, hb, hk⟩; refine ⟨_, rfl, ?_⟩; replace HK := Aside0.mk (KeepBut.trans (kS_ HK) hk (.inl rfl)); replace HO := Aside0.mk (Kd.R_mono (Kd.R_keep (IsS92.apart (show IsS92 w0 _ g s p1 h1 from iS_ HI0) HO.out (by decide)) hk (fun _ h => h.2)) (fun _ h => h.1)); clear HO2; replace HB := Aside0.mk hb; replace HI0 := Aside0.mk hi; clear hb hk hi) | ((with_reducible refine gate_store (t := 2) (p := 29) rfl ?_); refine Kd.R_store k33  base rfl rfl 2 (.tmp 29) (.tmp 27) rfl 33 (g := gb) (n := n) (cap := cap) (o' := i.toNat * 4 + 2) i 2 xs (⟨(rd_T33 xs i).f0, (rd_T33 xs i).f1, t, (rd_T33 xs i).f3⟩ : S33) (.int .i64 t) [.int .i64 t] [.string (rd_T33 xs i).f0, .int .i64 (rd_T33 xs i).f1, .int .i64 (rd_T33 xs i).f2, .int .i64 (rd_T33 xs i).f3] (fun _ => True) (fun _ => False) ?e1 rfl ?e2 rfl (by kernel_rfl) (by intro q_ hq_; obtain rfl := List.mem_singleton.1 hq_; rfl) HO.out H0.out H1.out rfl ?e3 (by show 2 + 1 ≤ 4; decide) (k33_mkM _ _ _ _) (fun _ hk => hk.elim) (Below.refl _ _) ?_; (case e1 => first | (go_simp; done) | (go_simp; rfl) | rfl); (case e2 => first | (go_simp; done) | (go_simp; rfl) | rfl); (case e3 => exact spec_l24Draw.cells4 HO.out i H0.out H1.out); intro w4 hO4 _hB4 hG4; have HO4 := Aside0.mk hO4; have HG4 := Aside0.mk hG4; clear hO4 _hB4 hG4))
    go_end0
    exact ⟨rfl, HO4.out, IsS92.grown HI0.out HG4.out (by intro e; injection e with e; exact HNE.out e.symm), HB.out.grown HG4.out HB.out.size (fun k e => by injection e with e; subst e; exact Nat.le_trans HBS.out (Kd.R_base HO.out _ rfl)), spec_l24Draw.keep4 HK.out HG4.out⟩
  rw [if_neg c2] at hf
  have d2 : decide (q = 2) = false := decide_eq_false c2
  have e2 : (q == 2) = false := by rw [beq_eq_false_iff_ne]; exact c2
  by_cases c3 : q = 3
  · rw [if_pos c3] at hf
    obtain ⟨⟨t, p3, h3⟩, A2, hf⟩ := Option.bind_eq_some_iff.1 hf
    dsimp only at hf A2
    have HA2 := Aside0.mk A2
    simp only [Option.some.injEq, Prod.mk.injEq] at hf
    obtain ⟨rfl, rfl, rfl⟩ := hf
    clear A2
    obtain ⟨L, hL⟩ : ∃ L : List Int, L = ([(-1), 0, 20000, 20001] : List Int) := ⟨_, rfl⟩
    rw [← hL] at HA2
    have HL := Aside0.mk hL
    clear hL
    subst c3
    go_enter Tryz.func54, Tryz.ntmps54
    go_wp2_with (first | ((with_reducible refine gate_callee (f := 64) rfl ?_); refine Hl.gl (some 5) rfl rfl Tryz.func64 (by kernel_rfl) rfl #[.pointer (some ⟨g, 0, none⟩), .int .i64 4] rfl ?_; refine (spec_l00Src_pick.calls g s p h 4 _ p1 h1 w0 _ ?s1 ?s2 HA1.out).mono ?_; (case s1 => exact (iS_ HI0)); (case s2 => exact (Hl.bb HB)); rintro e w1 ⟨rfl, hi, hb, hk⟩; refine ⟨_, rfl, ?_⟩; replace HK := Aside0.mk (KeepBut.trans (kS_ HK) hk (.inl rfl)); replace HO := Aside0.mk (Kd.R_mono (Kd.R_keep (IsS92.apart (show IsS92 w0 _ g s p h from iS_ HI0) HO.out (by decide)) hk (fun _ h => h.2)) (fun _ h => h.1)); replace HB := Aside0.mk hb; replace HI0 := Aside0.mk hi; clear hb hk hi) | ((with_reducible refine gate_dst (N := 34) rfl ?_); refine Kd.R_lit (Kd.int .i64) _ 2 ?hg (N := 34) ?hd (xs := ([(-1), 0, 20000, 20001] : List Int)) (inner := [.int .i64 (-1), .int .i64 0, .int .i64 20000, .int .i64 20001]) (ok := fun _ => True) (okp := fun _ => True) ?hr ?hp (fun _ hk => hk) trivial (Below.refl _ _) (Nat.le_refl _) (by simp) ?_; (case hd => rfl); (case hg => rfl); (case hr => first | (go_simp; done) | (go_simp; rfl)); (case hp => exact (Reps.one (show Kd.M (Kd.int .i64) _ _ _ (-1) [.int .i64 (-1)] from rfl) (Reps.one (show Kd.M (Kd.int .i64) _ _ _ 0 [.int .i64 0] from rfl) (Reps.one (show Kd.M (Kd.int .i64) _ _ _ 20000 [.int .i64 20000] from rfl) (Reps.one (show Kd.M (Kd.int .i64) _ _ _ 20001 [.int .i64 20001] from rfl) (Reps.none _ _)))))); intro v2 w2 ho2 hb hg_ hnew_; clear hg_ hnew_; rw [← HL.out] at ho2; have HO2 := Aside0.mk ho2; replace HO := Aside0.mk (Kd.R_below HO.out hb); replace HK := Aside0.mk (KeepBut.trans (kS_ HK) (KeepBut.of_below hb g none) (.inl rfl)); replace HB := Aside0.mk (below_step (Hl.bb HB) hb); replace HI0 := Aside0.mk (IsS92.below (iS_ HI0) hb); clear hb ho2; obtain ⟨A3, c3, e3⟩ := Kd.R_slice HO2.out; subst e3) | ((with_reducible refine gate_callee (f := 58) rfl ?_); refine Hl.gl (some 35) rfl rfl Tryz.func58 (by kernel_rfl) rfl #[.pointer (some ⟨g, 0, none⟩), .slice A3 L.length c3] rfl ?_; refine (spec_l00Src_among.calls g s p1 h1 _ _ L t p3 h3 w0 _ ?s1 ?s2 ?s3 ?s4 ?s5 HA2.out).mono ?_; (case s1 => exact (iS_ HI0)); (case s2 => exact (Hl.bb HB)); (case s3 => exact (Kd.R_reads' HO2.out).2.2); (case s4 => exact (Kd.R_reads' HO2.out).2.1); (case s5 => exact far_slice (IsS92.own_ne HI0.out HO2.out (by decide))); rintro e w3 ⟨rfl, hi, hb, hk⟩; refine ⟨_, rfl, ?_⟩; replace HK := Aside0.mk (KeepBut.trans (kS_ HK) hk (.inl rfl)); replace HO := Aside0.mk (Kd.R_mono (Kd.R_keep (IsS92.apart (show IsS92 w0 _ g s p1 h1 from iS_ HI0) HO.out (by decide)) hk (fun _ h => h.2)) (fun _ h => h.1)); clear HO2; replace HB := Aside0.mk hb; replace HI0 := Aside0.mk hi; clear hb hk hi) | ((with_reducible refine gate_store (t := 2) (p := 37) rfl ?_); refine Kd.R_store k33  base rfl rfl 2 (.tmp 37) (.tmp 35) rfl 33 (g := gb) (n := n) (cap := cap) (o' := i.toNat * 4 + 3) i 3 xs (⟨(rd_T33 xs i).f0, (rd_T33 xs i).f1, (rd_T33 xs i).f2, t⟩ : S33) (.int .i64 t) [.int .i64 t] [.string (rd_T33 xs i).f0, .int .i64 (rd_T33 xs i).f1, .int .i64 (rd_T33 xs i).f2, .int .i64 (rd_T33 xs i).f3] (fun _ => True) (fun _ => False) ?e1 rfl ?e2 rfl (by kernel_rfl) (by intro q_ hq_; obtain rfl := List.mem_singleton.1 hq_; rfl) HO.out H0.out H1.out rfl ?e3 (by show 3 + 1 ≤ 4; decide) (k33_mkM _ _ _ _) (fun _ hk => hk.elim) (Below.refl _ _) ?_; (case e1 => first | (go_simp; done) | (go_simp; rfl) | rfl); (case e2 => first | (go_simp; done) | (go_simp; rfl) | rfl); (case e3 => exact spec_l24Draw.cells4 HO.out i H0.out H1.out); intro w4 hO4 _hB4 hG4; have HO4 := Aside0.mk hO4; have HG4 := Aside0.mk hG4; clear hO4 _hB4 hG4))
    go_end0
    exact ⟨rfl, HO4.out, IsS92.grown HI0.out HG4.out (by intro e; injection e with e; exact HNE.out e.symm), HB.out.grown HG4.out HB.out.size (fun k e => by injection e with e; subst e; exact Nat.le_trans HBS.out (Kd.R_base HO.out _ rfl)), spec_l24Draw.keep4 HK.out HG4.out⟩
  rw [if_neg c3] at hf
  have d3 : decide (q = 3) = false := decide_eq_false c3
  have e3 : (q == 3) = false := by rw [beq_eq_false_iff_ne]; exact c3
  simp only [Option.some.injEq, Prod.mk.injEq] at hf
  obtain ⟨rfl, rfl, rfl⟩ := hf
  go_enter Tryz.func54, Tryz.ntmps54
  go_wp2_with (first | ((with_reducible refine gate_callee (f := 64) rfl ?_); refine Hl.gl (some 5) rfl rfl Tryz.func64 (by kernel_rfl) rfl #[.pointer (some ⟨g, 0, none⟩), .int .i64 4] rfl ?_; refine (spec_l00Src_pick.calls g s p h 4 _ p1 h1 w0 _ ?s1 ?s2 HA1.out).mono ?_; (case s1 => exact (iS_ HI0)); (case s2 => exact (Hl.bb HB)); rintro e w1 ⟨rfl, hi, hb, hk⟩; refine ⟨_, rfl, ?_⟩; replace HK := Aside0.mk (KeepBut.trans (kS_ HK) hk (.inl rfl)); replace HO := Aside0.mk (Kd.R_mono (Kd.R_keep (IsS92.apart (show IsS92 w0 _ g s p h from iS_ HI0) HO.out (by decide)) hk (fun _ h => h.2)) (fun _ h => h.1)); replace HB := Aside0.mk hb; replace HI0 := Aside0.mk hi; clear hb hk hi))
  go_end0
  exact ⟨rfl, by rw [spec_l24Draw.same4 _ _ H0.out]; exact HO.out, HI0.out, HB.out, ⟨HK.out.1, fun i_ hi_ hg_ _ => HK.out.2 i_ hi_ hg_ (by simp)⟩⟩
theorem spec_l24Draw.grow4 (W : World) (gb j : Nat) (u : Value) : W.grownBy (W.setCell ⟨gb, j, none⟩ u) (some gb) :=
  ⟨rfl, rfl, rfl, by simp [World.setCell], fun k _ hk => Below.heap_setCell W ⟨gb, j, none⟩ u k (fun e => hk (by rw [e]))⟩
set_option maxHeartbeats 8000000 in
set_option maxRecDepth 100000 in
/-- spec.l24Spoil at a variable that the caller has made. -/
theorem spec_l24Draw.spoilB (g : Nat) (s : List Int) (p h : Int) (gb : Nat) (x : S33) (y : S33) (p2 h2 : Int) (w0 w : World) (hI : IsS92 w0 w g s p h) (hB : Below w0.heap.size w0 w) (hX : w.heap[gb]? = some (.cells #[.string x.f0, .int .i64 x.f1, .int .i64 x.f2, .int .i64 x.f3] 33 (0, 0))) (hne : gb ≠ g) (hge : w0.heap.size ≤ gb) (hf : spec_l24Draw.sp s p h x = some (y, p2, h2)) :
    Calls Tryz.prog 54 #[.pointer (some ⟨g, 0, none⟩), .pointer (some ⟨gb, 0, none⟩)] w fun e w' => e = .returned (.tuple #[]) ∧ w'.heap[gb]? = some (.cells #[.string y.f0, .int .i64 y.f1, .int .i64 y.f2, .int .i64 y.f3] 33 (0, 0)) ∧ IsS92 w0 w' g s p2 h2 ∧ Below w0.heap.size w0 w' ∧ KeepBut w w' g (some gb) := by
  have hu := Tryz.underlying33
  unfold spec_l24Draw.sp at hf
  obtain ⟨⟨q, p1, h1⟩, A1, hf⟩ := Option.bind_eq_some_iff.1 hf
  dsimp only at hf
  have HA1 := Aside0.mk A1
  have HI0 := Aside0.mk hI
  have HB := Aside0.mk hB
  have HK := Aside0.mk (KeepBut.refl w g none)
  have HX := Aside0.mk hX
  have HNE := Aside0.mk hne
  have HGE := Aside0.mk hge
  clear A1 hI hB hX hne hge
  by_cases c0 : q = 0
  · rw [if_pos c0] at hf
    obtain ⟨⟨t, p3, h3⟩, A2, hf⟩ := Option.bind_eq_some_iff.1 hf
    dsimp only at hf A2
    have HA2 := Aside0.mk A2
    simp only [Option.some.injEq, Prod.mk.injEq] at hf
    obtain ⟨rfl, rfl, rfl⟩ := hf
    clear A2
    obtain ⟨L, hL⟩ : ∃ L : List ByteArray, L = ([(⟨#[]⟩ : ByteArray), (⟨#[83, 99, 104, 111, 111, 108]⟩ : ByteArray), (⟨#[97, 32, 98]⟩ : ByteArray)] : List ByteArray) := ⟨_, rfl⟩
    rw [← hL] at HA2
    have HL := Aside0.mk hL
    clear hL
    subst c0
    go_enter Tryz.func54, Tryz.ntmps54
    go_wp2_with (first | ((with_reducible refine gate_callee (f := 64) rfl ?_); refine Hl.gl (some 5) rfl rfl Tryz.func64 (by kernel_rfl) rfl #[.pointer (some ⟨g, 0, none⟩), .int .i64 4] rfl ?_; refine (spec_l00Src_pick.calls g s p h 4 _ p1 h1 w0 _ ?s1 ?s2 HA1.out).mono ?_; (case s1 => exact (iS_ HI0)); (case s2 => exact (Hl.bb HB)); rintro e w1 ⟨rfl, hi, hb, hk⟩; refine ⟨_, rfl, ?_⟩; replace HK := Aside0.mk (KeepBut.trans (kS_ HK) hk (.inl rfl)); replace HX := Aside0.mk (KeepBut.blk hk HX.out HNE.out (by simp)); replace HB := Aside0.mk hb; replace HI0 := Aside0.mk hi; clear hb hk hi) | ((with_reducible refine gate_dst (N := 10) rfl ?_); refine Kd.R_lit Kd.string _ 9 ?hg (N := 10) ?hd (xs := ([(⟨#[]⟩ : ByteArray), (⟨#[83, 99, 104, 111, 111, 108]⟩ : ByteArray), (⟨#[97, 32, 98]⟩ : ByteArray)] : List ByteArray)) (inner := [.string (⟨#[]⟩ : ByteArray), .string (⟨#[83, 99, 104, 111, 111, 108]⟩ : ByteArray), .string (⟨#[97, 32, 98]⟩ : ByteArray)]) (ok := fun _ => True) (okp := fun _ => True) ?hr ?hp (fun _ hk => hk) trivial (Below.refl _ _) (Nat.le_refl _) (by simp) ?_; (case hd => rfl); (case hg => rfl); (case hr => first | (go_simp; done) | (go_simp; rfl)); (case hp => exact (Reps.one (show Kd.M Kd.string _ _ _ (⟨#[]⟩ : ByteArray) [.string (⟨#[]⟩ : ByteArray)] from rfl) (Reps.one (show Kd.M Kd.string _ _ _ (⟨#[83, 99, 104, 111, 111, 108]⟩ : ByteArray) [.string (⟨#[83, 99, 104, 111, 111, 108]⟩ : ByteArray)] from rfl) (Reps.one (show Kd.M Kd.string _ _ _ (⟨#[97, 32, 98]⟩ : ByteArray) [.string (⟨#[97, 32, 98]⟩ : ByteArray)] from rfl) (Reps.none _ _))))); intro v2 w2 ho2 hb hg_ hnew_; clear hg_ hnew_; rw [← HL.out] at ho2; have HO2 := Aside0.mk ho2; replace HX := Aside0.mk (blk_below HX.out hb); replace HK := Aside0.mk (KeepBut.trans (kS_ HK) (KeepBut.of_below hb g none) (.inl rfl)); replace HB := Aside0.mk (below_step (Hl.bb HB) hb); replace HI0 := Aside0.mk (IsS92.below (iS_ HI0) hb); clear hb ho2; obtain ⟨A3, c3, e3⟩ := Kd.R_slice HO2.out; subst e3) | ((with_reducible refine gate_callee (f := 84) rfl ?_); refine Hl.gl (some 11) rfl rfl Tryz.func84 (by kernel_rfl) rfl #[.pointer (some ⟨g, 0, none⟩), .slice A3 L.length c3] rfl ?_; refine (spec_l00Src_text.calls g s p1 h1 _ _ L t p3 h3 w0 _ ?s1 ?s2 ?s3 ?s4 ?s5 HA2.out).mono ?_; (case s1 => exact (iS_ HI0)); (case s2 => exact (Hl.bb HB)); (case s3 => exact (Kd.R_reads' HO2.out).2.2); (case s4 => exact (Kd.R_reads' HO2.out).2.1); (case s5 => exact far_slice (IsS92.own_ne HI0.out HO2.out (by decide))); rintro e w3 ⟨rfl, hi, hb, hk⟩; refine ⟨_, rfl, ?_⟩; replace HK := Aside0.mk (KeepBut.trans (kS_ HK) hk (.inl rfl)); replace HX := Aside0.mk (KeepBut.blk hk HX.out HNE.out (by simp)); clear HO2; replace HB := Aside0.mk hb; replace HI0 := Aside0.mk hi; clear hb hk hi; have hcj : w3.cell? ⟨gb, 0, none⟩ = some (.string x.f0) := (blk_cell HX.out 0).trans rfl; have hfj : w3.frozen? ⟨gb, 0, none⟩ = false := blk_frozen HX.out 0; have HW3 := Aside0.mk (show w3 = w3 from rfl)))
    go_end0
    have HG4 := spec_l24Draw.grow4 w3 gb 0 (.string t)
    exact ⟨rfl, by simpa using blk_set HX.out 0 (.string t), IsS92.grown HI0.out HG4 (by intro e; injection e with e; exact HNE.out e.symm), HB.out.grown HG4 HB.out.size (fun k e => by injection e with e; subst e; exact HGE.out), spec_l24Draw.keep4 HK.out HG4⟩
  rw [if_neg c0] at hf
  have d0 : decide (q = 0) = false := decide_eq_false c0
  have e0 : (q == 0) = false := by rw [beq_eq_false_iff_ne]; exact c0
  by_cases c1 : q = 1
  · rw [if_pos c1] at hf
    obtain ⟨⟨t, p3, h3⟩, A2, hf⟩ := Option.bind_eq_some_iff.1 hf
    dsimp only at hf A2
    have HA2 := Aside0.mk A2
    simp only [Option.some.injEq, Prod.mk.injEq] at hf
    obtain ⟨rfl, rfl, rfl⟩ := hf
    clear A2
    obtain ⟨L, hL⟩ : ∃ L : List Int, L = ([(-1), 0, 1, 200, 201] : List Int) := ⟨_, rfl⟩
    rw [← hL] at HA2
    have HL := Aside0.mk hL
    clear hL
    subst c1
    go_enter Tryz.func54, Tryz.ntmps54
    go_wp2_with (first | ((with_reducible refine gate_callee (f := 64) rfl ?_); refine Hl.gl (some 5) rfl rfl Tryz.func64 (by kernel_rfl) rfl #[.pointer (some ⟨g, 0, none⟩), .int .i64 4] rfl ?_; refine (spec_l00Src_pick.calls g s p h 4 _ p1 h1 w0 _ ?s1 ?s2 HA1.out).mono ?_; (case s1 => exact (iS_ HI0)); (case s2 => exact (Hl.bb HB)); rintro e w1 ⟨rfl, hi, hb, hk⟩; refine ⟨_, rfl, ?_⟩; replace HK := Aside0.mk (KeepBut.trans (kS_ HK) hk (.inl rfl)); replace HX := Aside0.mk (KeepBut.blk hk HX.out HNE.out (by simp)); replace HB := Aside0.mk hb; replace HI0 := Aside0.mk hi; clear hb hk hi) | ((with_reducible refine gate_dst (N := 18) rfl ?_); refine Kd.R_lit (Kd.int .i64) _ 2 ?hg (N := 18) ?hd (xs := ([(-1), 0, 1, 200, 201] : List Int)) (inner := [.int .i64 (-1), .int .i64 0, .int .i64 1, .int .i64 200, .int .i64 201]) (ok := fun _ => True) (okp := fun _ => True) ?hr ?hp (fun _ hk => hk) trivial (Below.refl _ _) (Nat.le_refl _) (by simp) ?_; (case hd => rfl); (case hg => rfl); (case hr => first | (go_simp; done) | (go_simp; rfl)); (case hp => exact (Reps.one (show Kd.M (Kd.int .i64) _ _ _ (-1) [.int .i64 (-1)] from rfl) (Reps.one (show Kd.M (Kd.int .i64) _ _ _ 0 [.int .i64 0] from rfl) (Reps.one (show Kd.M (Kd.int .i64) _ _ _ 1 [.int .i64 1] from rfl) (Reps.one (show Kd.M (Kd.int .i64) _ _ _ 200 [.int .i64 200] from rfl) (Reps.one (show Kd.M (Kd.int .i64) _ _ _ 201 [.int .i64 201] from rfl) (Reps.none _ _))))))); intro v2 w2 ho2 hb hg_ hnew_; clear hg_ hnew_; rw [← HL.out] at ho2; have HO2 := Aside0.mk ho2; replace HX := Aside0.mk (blk_below HX.out hb); replace HK := Aside0.mk (KeepBut.trans (kS_ HK) (KeepBut.of_below hb g none) (.inl rfl)); replace HB := Aside0.mk (below_step (Hl.bb HB) hb); replace HI0 := Aside0.mk (IsS92.below (iS_ HI0) hb); clear hb ho2; obtain ⟨A3, c3, e3⟩ := Kd.R_slice HO2.out; subst e3) | ((with_reducible refine gate_callee (f := 58) rfl ?_); refine Hl.gl (some 19) rfl rfl Tryz.func58 (by kernel_rfl) rfl #[.pointer (some ⟨g, 0, none⟩), .slice A3 L.length c3] rfl ?_; refine (spec_l00Src_among.calls g s p1 h1 _ _ L t p3 h3 w0 _ ?s1 ?s2 ?s3 ?s4 ?s5 HA2.out).mono ?_; (case s1 => exact (iS_ HI0)); (case s2 => exact (Hl.bb HB)); (case s3 => exact (Kd.R_reads' HO2.out).2.2); (case s4 => exact (Kd.R_reads' HO2.out).2.1); (case s5 => exact far_slice (IsS92.own_ne HI0.out HO2.out (by decide))); rintro e w3 ⟨rfl, hi, hb, hk⟩; refine ⟨_, rfl, ?_⟩; replace HK := Aside0.mk (KeepBut.trans (kS_ HK) hk (.inl rfl)); replace HX := Aside0.mk (KeepBut.blk hk HX.out HNE.out (by simp)); clear HO2; replace HB := Aside0.mk hb; replace HI0 := Aside0.mk hi; clear hb hk hi; have hcj : w3.cell? ⟨gb, 1, none⟩ = some (.int .i64 x.f1) := (blk_cell HX.out 1).trans rfl; have hfj : w3.frozen? ⟨gb, 1, none⟩ = false := blk_frozen HX.out 1; have HW3 := Aside0.mk (show w3 = w3 from rfl)))
    go_end0
    have HG4 := spec_l24Draw.grow4 w3 gb 1 (.int .i64 t)
    exact ⟨rfl, by simpa using blk_set HX.out 1 (.int .i64 t), IsS92.grown HI0.out HG4 (by intro e; injection e with e; exact HNE.out e.symm), HB.out.grown HG4 HB.out.size (fun k e => by injection e with e; subst e; exact HGE.out), spec_l24Draw.keep4 HK.out HG4⟩
  rw [if_neg c1] at hf
  have d1 : decide (q = 1) = false := decide_eq_false c1
  have e1 : (q == 1) = false := by rw [beq_eq_false_iff_ne]; exact c1
  by_cases c2 : q = 2
  · rw [if_pos c2] at hf
    obtain ⟨⟨t, p3, h3⟩, A2, hf⟩ := Option.bind_eq_some_iff.1 hf
    dsimp only at hf A2
    have HA2 := Aside0.mk A2
    simp only [Option.some.injEq, Prod.mk.injEq] at hf
    obtain ⟨rfl, rfl, rfl⟩ := hf
    clear A2
    obtain ⟨L, hL⟩ : ∃ L : List Int, L = ([(-1), 0, 1, 100, 101, (-9223372036854775808)] : List Int) := ⟨_, rfl⟩
    rw [← hL] at HA2
    have HL := Aside0.mk hL
    clear hL
    subst c2
    go_enter Tryz.func54, Tryz.ntmps54
    go_wp2_with (first | ((with_reducible refine gate_callee (f := 64) rfl ?_); refine Hl.gl (some 5) rfl rfl Tryz.func64 (by kernel_rfl) rfl #[.pointer (some ⟨g, 0, none⟩), .int .i64 4] rfl ?_; refine (spec_l00Src_pick.calls g s p h 4 _ p1 h1 w0 _ ?s1 ?s2 HA1.out).mono ?_; (case s1 => exact (iS_ HI0)); (case s2 => exact (Hl.bb HB)); rintro e w1 ⟨rfl, hi, hb, hk⟩; refine ⟨_, rfl, ?_⟩; replace HK := Aside0.mk (KeepBut.trans (kS_ HK) hk (.inl rfl)); replace HX := Aside0.mk (KeepBut.blk hk HX.out HNE.out (by simp)); replace HB := Aside0.mk hb; replace HI0 := Aside0.mk hi; clear hb hk hi) | ((with_reducible refine gate_dst (N := 26) rfl ?_); refine Kd.R_lit (Kd.int .i64) _ 2 ?hg (N := 26) ?hd (xs := ([(-1), 0, 1, 100, 101, (-9223372036854775808)] : List Int)) (inner := [.int .i64 (-1), .int .i64 0, .int .i64 1, .int .i64 100, .int .i64 101, .int .i64 (-9223372036854775808)]) (ok := fun _ => True) (okp := fun _ => True) ?hr ?hp (fun _ hk => hk) trivial (Below.refl _ _) (Nat.le_refl _) (by simp) ?_; (case hd => rfl); (case hg => rfl); (case hr => first | (go_simp; done) | (go_simp; rfl)); (case hp => exact (Reps.one (show Kd.M (Kd.int .i64) _ _ _ (-1) [.int .i64 (-1)] from rfl) (Reps.one (show Kd.M (Kd.int .i64) _ _ _ 0 [.int .i64 0] from rfl) (Reps.one (show Kd.M (Kd.int .i64) _ _ _ 1 [.int .i64 1] from rfl) (Reps.one (show Kd.M (Kd.int .i64) _ _ _ 100 [.int .i64 100] from rfl) (Reps.one (show Kd.M (Kd.int .i64) _ _ _ 101 [.int .i64 101] from rfl) (Reps.one (show Kd.M (Kd.int .i64) _ _ _ (-9223372036854775808) [.int .i64 (-9223372036854775808)] from rfl) (Reps.none _ _)))))))); intro v2 w2 ho2 hb hg_ hnew_; clear hg_ hnew_; rw [← HL.out] at ho2; have HO2 := Aside0.mk ho2; replace HX := Aside0.mk (blk_below HX.out hb); replace HK := Aside0.mk (KeepBut.trans (kS_ HK) (KeepBut.of_below hb g none) (.inl rfl)); replace HB := Aside0.mk (below_step (Hl.bb HB) hb); replace HI0 := Aside0.mk (IsS92.below (iS_ HI0) hb); clear hb ho2; obtain ⟨A3, c3, e3⟩ := Kd.R_slice HO2.out; subst e3) | ((with_reducible refine gate_callee (f := 58) rfl ?_); refine Hl.gl (some 27) rfl rfl Tryz.func58 (by kernel_rfl) rfl #[.pointer (some ⟨g, 0, none⟩), .slice A3 L.length c3] rfl ?_; refine (spec_l00Src_among.calls g s p1 h1 _ _ L t p3 h3 w0 _ ?s1 ?s2 ?s3 ?s4 ?s5 HA2.out).mono ?_; (case s1 => exact (iS_ HI0)); (case s2 => exact (Hl.bb HB)); (case s3 => exact (Kd.R_reads' HO2.out).2.2); (case s4 => exact (Kd.R_reads' HO2.out).2.1); (case s5 => exact far_slice (IsS92.own_ne HI0.out HO2.out (by decide))); rintro e w3 ⟨rfl, hi, hb, hk⟩; refine ⟨_, rfl, ?_⟩; replace HK := Aside0.mk (KeepBut.trans (kS_ HK) hk (.inl rfl)); replace HX := Aside0.mk (KeepBut.blk hk HX.out HNE.out (by simp)); clear HO2; replace HB := Aside0.mk hb; replace HI0 := Aside0.mk hi; clear hb hk hi; have hcj : w3.cell? ⟨gb, 2, none⟩ = some (.int .i64 x.f2) := (blk_cell HX.out 2).trans rfl; have hfj : w3.frozen? ⟨gb, 2, none⟩ = false := blk_frozen HX.out 2; have HW3 := Aside0.mk (show w3 = w3 from rfl)))
    go_end0
    have HG4 := spec_l24Draw.grow4 w3 gb 2 (.int .i64 t)
    exact ⟨rfl, by simpa using blk_set HX.out 2 (.int .i64 t), IsS92.grown HI0.out HG4 (by intro e; injection e with e; exact HNE.out e.symm), HB.out.grown HG4 HB.out.size (fun k e => by injection e with e; subst e; exact HGE.out), spec_l24Draw.keep4 HK.out HG4⟩
  rw [if_neg c2] at hf
  have d2 : decide (q = 2) = false := decide_eq_false c2
  have e2 : (q == 2) = false := by rw [beq_eq_false_iff_ne]; exact c2
  by_cases c3 : q = 3
  · rw [if_pos c3] at hf
    obtain ⟨⟨t, p3, h3⟩, A2, hf⟩ := Option.bind_eq_some_iff.1 hf
    dsimp only at hf A2
    have HA2 := Aside0.mk A2
    simp only [Option.some.injEq, Prod.mk.injEq] at hf
    obtain ⟨rfl, rfl, rfl⟩ := hf
    clear A2
    obtain ⟨L, hL⟩ : ∃ L : List Int, L = ([(-1), 0, 20000, 20001] : List Int) := ⟨_, rfl⟩
    rw [← hL] at HA2
    have HL := Aside0.mk hL
    clear hL
    subst c3
    go_enter Tryz.func54, Tryz.ntmps54
    go_wp2_with (first | ((with_reducible refine gate_callee (f := 64) rfl ?_); refine Hl.gl (some 5) rfl rfl Tryz.func64 (by kernel_rfl) rfl #[.pointer (some ⟨g, 0, none⟩), .int .i64 4] rfl ?_; refine (spec_l00Src_pick.calls g s p h 4 _ p1 h1 w0 _ ?s1 ?s2 HA1.out).mono ?_; (case s1 => exact (iS_ HI0)); (case s2 => exact (Hl.bb HB)); rintro e w1 ⟨rfl, hi, hb, hk⟩; refine ⟨_, rfl, ?_⟩; replace HK := Aside0.mk (KeepBut.trans (kS_ HK) hk (.inl rfl)); replace HX := Aside0.mk (KeepBut.blk hk HX.out HNE.out (by simp)); replace HB := Aside0.mk hb; replace HI0 := Aside0.mk hi; clear hb hk hi) | ((with_reducible refine gate_dst (N := 34) rfl ?_); refine Kd.R_lit (Kd.int .i64) _ 2 ?hg (N := 34) ?hd (xs := ([(-1), 0, 20000, 20001] : List Int)) (inner := [.int .i64 (-1), .int .i64 0, .int .i64 20000, .int .i64 20001]) (ok := fun _ => True) (okp := fun _ => True) ?hr ?hp (fun _ hk => hk) trivial (Below.refl _ _) (Nat.le_refl _) (by simp) ?_; (case hd => rfl); (case hg => rfl); (case hr => first | (go_simp; done) | (go_simp; rfl)); (case hp => exact (Reps.one (show Kd.M (Kd.int .i64) _ _ _ (-1) [.int .i64 (-1)] from rfl) (Reps.one (show Kd.M (Kd.int .i64) _ _ _ 0 [.int .i64 0] from rfl) (Reps.one (show Kd.M (Kd.int .i64) _ _ _ 20000 [.int .i64 20000] from rfl) (Reps.one (show Kd.M (Kd.int .i64) _ _ _ 20001 [.int .i64 20001] from rfl) (Reps.none _ _)))))); intro v2 w2 ho2 hb hg_ hnew_; clear hg_ hnew_; rw [← HL.out] at ho2; have HO2 := Aside0.mk ho2; replace HX := Aside0.mk (blk_below HX.out hb); replace HK := Aside0.mk (KeepBut.trans (kS_ HK) (KeepBut.of_below hb g none) (.inl rfl)); replace HB := Aside0.mk (below_step (Hl.bb HB) hb); replace HI0 := Aside0.mk (IsS92.below (iS_ HI0) hb); clear hb ho2; obtain ⟨A3, c3, e3⟩ := Kd.R_slice HO2.out; subst e3) | ((with_reducible refine gate_callee (f := 58) rfl ?_); refine Hl.gl (some 35) rfl rfl Tryz.func58 (by kernel_rfl) rfl #[.pointer (some ⟨g, 0, none⟩), .slice A3 L.length c3] rfl ?_; refine (spec_l00Src_among.calls g s p1 h1 _ _ L t p3 h3 w0 _ ?s1 ?s2 ?s3 ?s4 ?s5 HA2.out).mono ?_; (case s1 => exact (iS_ HI0)); (case s2 => exact (Hl.bb HB)); (case s3 => exact (Kd.R_reads' HO2.out).2.2); (case s4 => exact (Kd.R_reads' HO2.out).2.1); (case s5 => exact far_slice (IsS92.own_ne HI0.out HO2.out (by decide))); rintro e w3 ⟨rfl, hi, hb, hk⟩; refine ⟨_, rfl, ?_⟩; replace HK := Aside0.mk (KeepBut.trans (kS_ HK) hk (.inl rfl)); replace HX := Aside0.mk (KeepBut.blk hk HX.out HNE.out (by simp)); clear HO2; replace HB := Aside0.mk hb; replace HI0 := Aside0.mk hi; clear hb hk hi; have hcj : w3.cell? ⟨gb, 3, none⟩ = some (.int .i64 x.f3) := (blk_cell HX.out 3).trans rfl; have hfj : w3.frozen? ⟨gb, 3, none⟩ = false := blk_frozen HX.out 3; have HW3 := Aside0.mk (show w3 = w3 from rfl)))
    go_end0
    have HG4 := spec_l24Draw.grow4 w3 gb 3 (.int .i64 t)
    exact ⟨rfl, by simpa using blk_set HX.out 3 (.int .i64 t), IsS92.grown HI0.out HG4 (by intro e; injection e with e; exact HNE.out e.symm), HB.out.grown HG4 HB.out.size (fun k e => by injection e with e; subst e; exact HGE.out), spec_l24Draw.keep4 HK.out HG4⟩
  rw [if_neg c3] at hf
  have d3 : decide (q = 3) = false := decide_eq_false c3
  have e3 : (q == 3) = false := by rw [beq_eq_false_iff_ne]; exact c3
  simp only [Option.some.injEq, Prod.mk.injEq] at hf
  obtain ⟨rfl, rfl, rfl⟩ := hf
  go_enter Tryz.func54, Tryz.ntmps54
  go_wp2_with (first | ((with_reducible refine gate_callee (f := 64) rfl ?_); refine Hl.gl (some 5) rfl rfl Tryz.func64 (by kernel_rfl) rfl #[.pointer (some ⟨g, 0, none⟩), .int .i64 4] rfl ?_; refine (spec_l00Src_pick.calls g s p h 4 _ p1 h1 w0 _ ?s1 ?s2 HA1.out).mono ?_; (case s1 => exact (iS_ HI0)); (case s2 => exact (Hl.bb HB)); rintro e w1 ⟨rfl, hi, hb, hk⟩; refine ⟨_, rfl, ?_⟩; replace HK := Aside0.mk (KeepBut.trans (kS_ HK) hk (.inl rfl)); replace HX := Aside0.mk (KeepBut.blk hk HX.out HNE.out (by simp)); replace HB := Aside0.mk hb; replace HI0 := Aside0.mk hi; clear hb hk hi))
  go_end0
  exact ⟨rfl, HX.out, HI0.out, HB.out, ⟨HK.out.1, fun i_ hi_ hg_ _ => HK.out.2 i_ hi_ hg_ (by simp)⟩⟩
mutual
def spec_l24Draw.j0 : Nat → List (S33) → Int → List Int → Int → Int → Option ((List (S33)) × Int × Int)
 | 0, _, _, _, _, _ => none
 | k + 1, x3, x4, x1000, x1001, x1002 => spec_l24Draw.l0 k x3 x4 x4 x1000 x1001 x1002
def spec_l24Draw.l0 : Nat → List (S33) → Int → Int → List Int → Int → Int → Option ((List (S33)) × Int × Int)
 | 0, _, _, _, _, _, _ => none
 | k + 1, x3, x4, x5, x1000, x1001, x1002 => if x5 > 0 then ((spec_l24New.f x1000 x1001 x1002).bind fun bt152 => (if x3.length < 3518437208883 then (spec_l24Draw.l0 k (x3 ++ [(⟨bt152.1, bt152.2.1, bt152.2.2.1, bt152.2.2.2.1⟩ : S33)]) x4 (wrap64 (x5 - 1)) x1000 bt152.2.2.2.2.1 bt152.2.2.2.2.2) else (none))) else (if x4 > 0 then ((spec_l00Src_one.f x1000 x1001 x1002 10).bind fun bt161 => (if bt161.1 = true then ((spec_l00Src_pick.f x1000 bt161.2.1 bt161.2.2 x4).bind fun bt164 => (if 0 ≤ bt164.1 then (if bt164.1 < (x3.length : Int) then ((spec_l24Draw.sp x1000 bt164.2.1 bt164.2.2 (rd_T33 x3 bt164.1)).bind fun y => (some (x3.set bt164.1.toNat y.1, y.2.1, y.2.2))) else none) else none)) else (some (x3, bt161.2.1, bt161.2.2)))) else (some (x3, x1001, x1002)))
end
def spec_l24Draw.f (k : Nat) (s0_0 : List Int) (s0_1 : Int) (s0_2 : Int) : Option ((List (S33)) × Int × Int) := (some (([] : List (S33)) : List (S33))).bind fun y140 => ((spec_l00Src_pick.f s0_0 s0_1 s0_2 8).bind fun bt143 => ((spec_l00Src_one.f s0_0 bt143.2.1 bt143.2.2 20).bind fun bt146 => (if bt146.1 = true then ((spec_l00Src_pick.f s0_0 bt146.2.1 bt146.2.2 2).bind fun bt149 => (spec_l24Draw.j0 k y140 (wrap64 (40 + bt149.1)) s0_0 bt149.2.1 bt149.2.2)) else (spec_l24Draw.j0 k y140 bt143.1 s0_0 bt146.2.1 bt146.2.2))))
theorem spec_l24Draw.mono_l : ∀ k, (∀ y0 y1 y2 y3 y4, LeO (spec_l24Draw.j0 k y0 y1 y2 y3 y4) (spec_l24Draw.j0 (k + 1) y0 y1 y2 y3 y4)) ∧ (∀ y0 y1 y2 y3 y4 y5, LeO (spec_l24Draw.l0 k y0 y1 y2 y3 y4 y5) (spec_l24Draw.l0 (k + 1) y0 y1 y2 y3 y4 y5))
 | 0 => ⟨fun _ _ _ _ _ r h => by simp [spec_l24Draw.j0] at h, fun _ _ _ _ _ _ r h => by simp [spec_l24Draw.l0] at h⟩
 | k + 1 => by
  obtain ⟨ih0, ih1⟩ := spec_l24Draw.mono_l k
  refine ⟨?_, ?_⟩
  ·
   intro y0 y1 y2 y3 y4
   unfold spec_l24Draw.j0
   repeat' first
   | (with_reducible exact ih0 _ _ _ _ _)
   | (with_reducible exact ih1 _ _ _ _ _ _)
   | (with_reducible exact LeO.refl _)
   | (with_reducible exact LeO.none _)
   | (with_reducible refine LeO.ite ?_ ?_)
   | (with_reducible refine LeO.bind ?_ (fun _ => ?_))
   | exact ih0 _ _ _ _ _
   | exact ih1 _ _ _ _ _ _
   | exact LeO.none _
   | refine LeO.ite ?_ ?_
   | refine LeO.bind ?_ (fun _ => ?_)
  ·
   intro y0 y1 y2 y3 y4 y5
   unfold spec_l24Draw.l0
   repeat' first
   | (with_reducible exact ih0 _ _ _ _ _)
   | (with_reducible exact ih1 _ _ _ _ _ _)
   | (with_reducible exact LeO.refl _)
   | (with_reducible exact LeO.none _)
   | (with_reducible refine LeO.ite ?_ ?_)
   | (with_reducible refine LeO.bind ?_ (fun _ => ?_))
   | exact ih0 _ _ _ _ _
   | exact ih1 _ _ _ _ _ _
   | exact LeO.none _
   | refine LeO.ite ?_ ?_
   | refine LeO.bind ?_ (fun _ => ?_)
theorem spec_l24Draw.mono : ∀ a0 a1 a2 k, LeO (spec_l24Draw.f k a0 a1 a2) (spec_l24Draw.f (k + 1) a0 a1 a2) := by
 intro a0 a1 a2 k
 obtain ⟨ih0, ih1⟩ := spec_l24Draw.mono_l k
 unfold spec_l24Draw.f
 repeat' first
   | (with_reducible exact ih0 _ _ _ _ _)
   | (with_reducible exact ih1 _ _ _ _ _ _)
   | (with_reducible exact LeO.refl _)
   | (with_reducible exact LeO.none _)
   | (with_reducible refine LeO.ite ?_ ?_)
   | (with_reducible refine LeO.bind ?_ (fun _ => ?_))
   | exact ih0 _ _ _ _ _
   | exact ih1 _ _ _ _ _ _
   | exact LeO.none _
   | refine LeO.ite ?_ ?_
   | refine LeO.bind ?_ (fun _ => ?_)
set_option maxHeartbeats 8000000 in
set_option maxRecDepth 100000 in
theorem spec_l24Draw.calls (k : Nat) (g : Nat) (s0_0 : List Int) (s0_1 : Int) (s0_2 : Int) (r1 : List (S33)) (r2 : Int) (r3 : Int) (w0 w : World) (hI : IsS92 w0 w g s0_0 s0_1 s0_2) (hB : Below w0.heap.size w0 w) (h : spec_l24Draw.f k s0_0 s0_1 s0_2 = some (r1, r2, r3)) :
  Calls Tryz.prog 51 #[.pointer (some ⟨g, 0, none⟩)] w fun e w' => ∃ v0_ : Value, e = .returned (v0_) ∧ Kd.R k33 33 w' w.heap.size (fun _ => True) v0_ r1 ∧ IsS92 w0 w' g s0_0 r2 r3 ∧ Below w0.heap.size w0 w' ∧ KeepBut w w' g none := by
 have HI0 := Hl.am hI
 have HK := Hl.am (KeepBut.refl w g none)
 have HL := Hl.am hB.size
 clear hI
 have HW0 := Hl.am hB.size
 have HB := Hl.am hB
 clear hB
 have H := h
 unfold spec_l24Draw.f at H
 clear h
 obtain ⟨y140, hy140⟩ : ∃ y_ : List (S33), y_ = (([] : List (S33))) := ⟨_, rfl⟩
 replace H : ((spec_l00Src_pick.f s0_0 s0_1 s0_2 8).bind fun bt143 => ((spec_l00Src_one.f s0_0 bt143.2.1 bt143.2.2 20).bind fun bt146 => (if bt146.1 = true then ((spec_l00Src_pick.f s0_0 bt146.2.1 bt146.2.2 2).bind fun bt149 => (spec_l24Draw.j0 k y140 (wrap64 (40 + bt149.1)) s0_0 bt149.2.1 bt149.2.2)) else (spec_l24Draw.j0 k y140 bt143.1 s0_0 bt146.2.1 bt146.2.2)))) = some (r1, r2, r3) := rH_ hy140 H
 have Ny140 := Hl.am hy140
 clear hy140
 obtain ⟨⟨t143, t144, t145⟩, A20, H⟩ := bE_ H
 (try dsimp only at H)
 have A2 := Hl.am A20
 clear A20
 obtain ⟨⟨t146, t147, t148⟩, A30, H⟩ := bE_ H
 (try dsimp only at H)
 have A3 := Hl.am A30
 clear A30
 have HC4 := Hl.am H
 clear H
 go_enter Tryz.func51, Tryz.ntmps51
 go_upto_if 10 with (first | ((with_reducible refine gate_dst (N := 6) rfl ?_); refine Kd.R_lit k33 _ 33 ?hg (N := 6) ?hd (xs := ([] : List (S33))) (inner := []) (ok := fun _ => True) (okp := fun _ => True) ?hr ?hp (fun _ hk => hk) trivial (Below.refl _ _) (Nat.le_refl _) (by simp) ?_; (case hd => rfl); (case hg => rfl); (case hr => first | (go_simp; done) | (go_simp; rfl)); (case hp => exact (Reps.none _ _)); intro v141 w5 ho6 hb hg_ hnew_; clear hg_ hnew_; (first | rw [← Ny140.out] at ho6 | (simp only [Int.reduceToNat] at ho6; rw [← Ny140.out] at ho6)); have HO142 := Hl.am (Kd.R_lower ho6 (keep_size (w := w) (g := g) (row := none) (kS_ HK))); replace HK := Hl.am (KeepBut.trans (kS_ HK) (KeepBut.of_below hb g none) (.inl rfl)); replace HB := Hl.am (below_step (bI_ HB) hb); replace HI0 := Hl.am (IsS92.below (iS_ HI0) hb); clear hb ho6) | ((with_reducible refine gate_callee (f := 64) rfl ?_); refine Hl.gl (some 8) rfl rfl Tryz.func64 (by kernel_rfl) rfl #[.pointer (some ⟨g, 0, none⟩), .int .i64 8] rfl ?_; (with_reducible refine (spec_l00Src_pick.calls g s0_0 s0_1 s0_2 8 t143 t144 t145 w0 _ ?side1 ?side2 A2.out).mono ?_); (case side1 => exact iS_ HI0); (case side2 => exact bI_ HB); rintro e w7 ⟨rfl, hi, hb, hk⟩; refine ⟨_, rfl, ?_⟩; replace HO142 := Hl.am (Kd.R_mono (Kd.R_keep (IsS92.apart (show IsS92 w0 _ g s0_0 s0_1 s0_2 from iS_ HI0) (Hl.rr HO142) (by decide)) hk (fun _ h => h.2)) (fun _ h => h.1)); replace HK := Hl.am (KeepBut.trans (kS_ HK) hk (.inl rfl)); replace HB := Hl.am (hb); replace HI0 := Hl.am (hi); (try clear hb); (try clear hk); (try clear hi)) | ((with_reducible refine gate_callee (f := 53) rfl ?_); refine Hl.gl (some 10) rfl rfl Tryz.func53 (by kernel_rfl) rfl #[.pointer (some ⟨g, 0, none⟩), .int .i64 20] rfl ?_; (with_reducible refine (spec_l00Src_one.calls g s0_0 t144 t145 20 t146 t147 t148 w0 _ ?side1 ?side2 A3.out).mono ?_); (case side1 => exact iS_ HI0); (case side2 => exact bI_ HB); rintro e w8 ⟨rfl, hi, hb, hk⟩; refine ⟨_, rfl, ?_⟩; replace HO142 := Hl.am (Kd.R_mono (Kd.R_keep (IsS92.apart (show IsS92 w0 _ g s0_0 t144 t145 from iS_ HI0) (Hl.rr HO142) (by decide)) hk (fun _ h => h.2)) (fun _ h => h.1)); replace HK := Hl.am (KeepBut.trans (kS_ HK) hk (.inl rfl)); replace HB := Hl.am (hb); replace HI0 := Hl.am (hi); (try clear hb); (try clear hk); (try clear hi)))
 (try simp only [Act.put, List.setIfInBounds_toArray, List.set_cons_zero, List.set_cons_succ])
 go_cut [4] (fun v4 wc => ∃ (kq : Nat) (x4_3 : Int) (x1001_3 : Int) (x1002_3 : Int), v4 = .int .i64 x4_3 ∧ Aside0 (spec_l24Draw.j0 kq y140 x4_3 s0_0 x1001_3 x1002_3 = some (r1, r2, r3)) ∧ Aside0 (kq ≤ k) ∧ Aside0 (Kd.R k33 33 wc w.heap.size (fun _ => True) v141 y140) ∧ Aside0 (IsS92 w0 wc g s0_0 x1001_3 x1002_3) ∧ Aside0 (KeepBut w wc g none) ∧ Aside0 (Below w0.heap.size w0 wc))
 case first =>
  have H := HC4.out
  clear HC4
  by_cases c9 : t146 = true
  ·
   subst c9
   rw [if_pos rfl] at H
   (try dsimp only at H)
   obtain ⟨⟨t149, t150, t151⟩, A100, H⟩ := bE_ H
   replace H : (spec_l24Draw.j0 k y140 (wrap64 (40 + t149)) s0_0 t150 t151) = some (r1, r2, r3) := H
   have A10 := Hl.am A100
   clear A100
   have H' := Hl.am H
   clear H
   go_wp2_with (first | ((with_reducible refine gate_callee (f := 64) rfl ?_); refine Hl.gl (some 12) rfl rfl Tryz.func64 (by kernel_rfl) rfl #[.pointer (some ⟨g, 0, none⟩), .int .i64 2] rfl ?_; (with_reducible refine (spec_l00Src_pick.calls g s0_0 t147 t148 2 t149 t150 t151 w0 _ ?side1 ?side2 A10.out).mono ?_); (case side1 => exact iS_ HI0); (case side2 => exact bI_ HB); rintro e w11 ⟨rfl, hi, hb, hk⟩; refine ⟨_, rfl, ?_⟩; replace HO142 := Hl.am (Kd.R_mono (Kd.R_keep (IsS92.apart (show IsS92 w0 _ g s0_0 t147 t148 from iS_ HI0) (Hl.rr HO142) (by decide)) hk (fun _ h => h.2)) (fun _ h => h.1)); replace HK := Hl.am (KeepBut.trans (kS_ HK) hk (.inl rfl)); replace HB := Hl.am (hb); replace HI0 := Hl.am (hi); (try clear hb); (try clear hk); (try clear hi)))
   go_meet
   case rel => exact ⟨_, (wrap64 (40 + t149)), (t150), (t151), (by first | rfl | (simp; done) | (simp [*]; done)), H', ⟨by first | omega | exact Nat.le_refl _⟩, ⟨Hl.rr HO142⟩, ⟨iS_ HI0⟩, ⟨kS_ HK⟩, ⟨bI_ HB⟩⟩
  ·
   replace c9 := Bool.eq_false_iff.mpr c9
   subst c9
   rw [if_neg (show ¬ (false = true) by decide)] at H
   (try dsimp only at H)
   have H' := Hl.am H
   clear H
   go_wp2
   go_meet
   case rel => exact ⟨_, (t143), (t147), (t148), (by first | rfl | (simp; done) | (simp [*]; done)), H', ⟨by first | omega | exact Nat.le_refl _⟩, ⟨Hl.rr HO142⟩, ⟨iS_ HI0⟩, ⟨kS_ HK⟩, ⟨bI_ HB⟩⟩
 case rest =>
  clear HC4
  obtain ⟨kq, x4_3, x1001_3, x1002_3, rfl, HA, HJ3, HO_3, HI0, HK, HB⟩ := hcut
  cases kq with
  | zero => exact absurd HA.out (by simp [spec_l24Draw.j0])
  | succ kj3 =>
   have H := HA.out
   clear HA
   simp only [spec_l24Draw.j0] at H
   have H' := Hl.am H
   clear H
   go_wp2
   go_loopg [3, 5] kj3 (fun kq v3 v5 w' => ∃ (x3_2 : List (S33)) (x5_2 : Int) (x1001_2 : Int) (x1002_2 : Int), v5 = .int .i64 x5_2 ∧ Aside0 (spec_l24Draw.l0 kq x3_2 x4_3 x5_2 s0_0 x1001_2 x1002_2 = some (r1, r2, r3)) ∧ Aside0 (kq ≤ kj3) ∧ Aside0 (Kd.R k33 33 w' w.heap.size (fun _ => True) v3 x3_2) ∧ Aside0 (IsS92 w0 w' g s0_0 x1001_2 x1002_2) ∧ Aside0 (KeepBut w w' g none) ∧ Aside0 (Below w0.heap.size w0 w'))
   case atStart => exact ⟨(y140), (x4_3), (x1001_3), (x1002_3), (by first | rfl | (simp; done) | (simp [*]; done)), H', ⟨Nat.le_refl _⟩, ⟨Hl.rr HO_3⟩, ⟨iS_ HI0⟩, ⟨kS_ HK⟩, ⟨bI_ HB⟩⟩
   case round =>
    clear H'
    obtain ⟨x3_2, x5_2, x1001_2, x1002_2, rfl, HA, HK2, HO_3, HI0, HK, HB⟩ := hrel
    cases gk with
    | zero => exact absurd HA.out (by simp [spec_l24Draw.l0])
    | succ k2 =>
     have H := HA.out
     clear HA
     simp only [spec_l24Draw.l0] at H
     by_cases c12 : x5_2 > 0
     ·
      rw [if_pos c12] at H
      have c12b0 : decide (0 < x5_2) = true := decide_eq_true c12
      clear c12
      obtain ⟨⟨t152, t153, t154, t155, t156, t157⟩, A130, H⟩ := bE_ H
      (try dsimp only at H)
      have A13 := Hl.am A130
      clear A130
      by_cases c14 : x3_2.length < 3518437208883
      ·
       rw [if_pos c14] at H
       have LMc14 := Hl.am c14
       clear c14
       obtain ⟨y158, hy158⟩ : ∃ y_ : List (S33), y_ = (x3_2 ++ [(⟨t152, t153, t154, t155⟩ : S33)]) := ⟨_, rfl⟩
       replace H : (spec_l24Draw.l0 k2 y158 x4_3 (wrap64 (x5_2 - 1)) s0_0 t156 t157) = some (r1, r2, r3) := rH_ hy158 H
       have Ny158 := Hl.am hy158
       clear hy158
       have H' := Hl.am H
       clear H
       go_wp2_with (first | ((with_reducible refine gate_callee (f := 52) rfl ?_); refine Hl.gl (some 21) rfl rfl Tryz.func52 (by kernel_rfl) rfl #[.pointer (some ⟨g, 0, none⟩)] rfl ?_; (with_reducible refine (spec_l24New.calls g s0_0 x1001_2 x1002_2 t152 t153 t154 t155 t156 t157 w0 _ ?side1 ?side2 A13.out).mono ?_); (case side1 => exact iS_ HI0); (case side2 => exact bI_ HB); rintro e w15 ⟨rfl, hi, hb, hk⟩; refine ⟨_, rfl, ?_⟩; replace HO_3 := Hl.am (Kd.R_mono (Kd.R_keep (IsS92.apart (show IsS92 w0 _ g s0_0 x1001_2 x1002_2 from iS_ HI0) (Hl.rr HO_3) (by decide)) hk (fun _ h => h.2)) (fun _ h => h.1)); replace HK := Hl.am (KeepBut.trans (kS_ HK) hk (.inl rfl)); replace HB := Hl.am (hb); replace HI0 := Hl.am (hi); (try clear hb); (try clear hk); (try clear hi)) | ((with_reducible refine gate_builtin (b := .append) (xs := #[.tmp 19, .tmp 22]) rfl ?_); at_builtin; refine Kd.R_append k33 w.heap.size rfl (.tmp 19) (.tmp 22) 24 33 (.agg #[(.string ⟨#[]⟩), (.int .i64 0), (.int .i64 0), (.int .i64 0)]) 40 rfl Tryz.underlying24 info33 rfl (by decide) (by omega) u3 x3_2 (⟨t152, t153, t154, t155⟩ : S33) [.string t152, .int .i64 t153, .int .i64 t154, .int .i64 t155] (fun _ => True) (fun _ => False) rfl rfl ?aP (fun _ hk => hk.elim) ?aF ?aO (Below.refl _ _) ?aS ?aL ?_; (case aP => exact k33_mkM _ _ _ (⟨t152, t153, t154, t155⟩ : S33)); (case aF => exact (fun _ _ => trivial)); (case aO => exact (Hl.rr HO_3)); (case aS => exact (keep_size (w := w) (g := g) (row := none) (kS_ HK))); (case aL => have := LMc14.out; omega); intro v159 w16 ho hb hg hat; rw [← Ny158.out] at ho; replace HB := Hl.am (below_weaken (bI_ HB) HL.out hb); replace HI0 := Hl.am (IsS92.grown (iS_ HI0) hg (IsS92.own_ne HI0.out HO_3.out (by decide))); replace HK := Hl.am (KeepBut.trans (kS_ HK) (KeepBut.of_grown hg g) (Kd.R_base2 HO_3.out)); have HO160 := Hl.am (ho); clear HO_3; clear ho hb hg hat))
       go_roundg k2
       case measure => have := HJ3.out; have := HK2.out; omega
       case rel => exact ⟨(y158), (wrap64 (x5_2 - 1)), (t156), (t157), (by first | rfl | (simp; done) | (simp [*]; done)), H', ⟨by have := HJ3.out; have := HK2.out; omega⟩, ⟨Hl.rr HO160⟩, ⟨iS_ HI0⟩, ⟨kS_ HK⟩, ⟨bI_ HB⟩⟩
      ·
       rw [if_neg c14] at H
       exact absurd H (by simp)
     ·
      rw [if_neg c12] at H
      have c12b0 : decide (0 < x5_2) = false := decide_eq_false c12
      clear c12
      by_cases c17 : x4_3 > 0
      ·
       rw [if_pos c17] at H
       have c17b0 : decide (0 < x4_3) = true := decide_eq_true c17
       clear c17
       obtain ⟨⟨t161, t162, t163⟩, A180, H⟩ := bE_ H
       (try dsimp only at H)
       have A18 := Hl.am A180
       clear A180
       by_cases c19 : t161 = true
       ·
        subst c19
        rw [if_pos rfl] at H
        obtain ⟨⟨t164, t165, t166⟩, A200, H⟩ := bE_ H
        (try dsimp only at H)
        have A20 := Hl.am A200
        clear A200
        by_cases e1 : 0 ≤ t164
        case neg => rw [if_neg e1] at H; exact absurd H (by simp)
        rw [if_pos e1] at H
        by_cases e2 : t164 < (x3_2.length : Int)
        case neg => rw [if_neg e2] at H; exact absurd H (by simp)
        rw [if_pos e2] at H
        obtain ⟨⟨t167, t168, t169⟩, A210, H⟩ := bE_ H
        replace H : (some (x3_2.set t164.toNat t167, t168, t169)) = some (r1, r2, r3) := H
        have A21 := Hl.am A210
        clear A210
        simp only [Option.some.injEq, Prod.mk.injEq] at H
        obtain ⟨rfl, rfl, rfl⟩ := H
        obtain ⟨gb, cb, eb, _, _, _⟩ := Kd.R_form HO_3.out (by omega)
        subst eb
        have E1 := Hl.am e1
        have E2 := Hl.am e2
        have e3 : ¬ (t164 < 0) := by omega
        have e4 : t164.toNat < x3_2.length := by omega
        go_wp2_with (first | (go_at_call 53; (with_reducible refine (spec_l00Src_one.calls g s0_0 x1001_2 x1002_2 10 true t162 t163 w0 _ ?side1 ?side2 A18.out).mono ?_); (case side1 => exact iS_ HI0); (case side2 => exact bI_ HB); rintro e w21 ⟨rfl, hi, hb, hk⟩; replace HO_3 := Hl.am (Kd.R_mono (Kd.R_keep (IsS92.apart (show IsS92 w0 _ g s0_0 x1001_2 x1002_2 from iS_ HI0) (Hl.rr HO_3) (by decide)) hk (fun _ h => h.2)) (fun _ h => h.1)); replace HK := Hl.am (KeepBut.trans (kS_ HK) hk (.inl rfl)); replace HB := Hl.am (hb); replace HI0 := Hl.am (hi); (try clear hb); (try clear hk); (try clear hi)) | ((with_reducible refine gate_callee (f := 64) rfl ?_); refine Hl.gl (some 34) rfl rfl Tryz.func64 (by kernel_rfl) rfl #[.pointer (some ⟨g, 0, none⟩), .int .i64 x4_3] rfl ?_; (with_reducible refine (spec_l00Src_pick.calls g s0_0 t162 t163 x4_3 t164 t165 t166 w0 _ ?side1 ?side2 A20.out).mono ?_); (case side1 => exact iS_ HI0); (case side2 => exact bI_ HB); rintro e w22 ⟨rfl, hi, hb, hk⟩; refine ⟨_, rfl, ?_⟩; replace HO_3 := Hl.am (Kd.R_mono (Kd.R_keep (IsS92.apart (show IsS92 w0 _ g s0_0 t162 t163 from iS_ HI0) (Hl.rr HO_3) (by decide)) hk (fun _ h => h.2)) (fun _ h => h.1)); replace HK := Hl.am (KeepBut.trans (kS_ HK) hk (.inl rfl)); replace HB := Hl.am (hb); replace HI0 := Hl.am (hi); (try clear hb); (try clear hk); (try clear hi)) | ((with_reducible refine gate_callee (f := 54) rfl ?_); refine Hl.gl (some 36) rfl rfl Tryz.func54 (by kernel_rfl) rfl #[.pointer (some ⟨g, 0, none⟩), .pointer (some ⟨gb, t164.toNat * 4, none⟩)] rfl ?_; (with_reducible refine (spec_l24Draw.spoil g s0_0 t165 t166 gb x3_2.length cb w.heap.size x3_2 t164 t167 t168 t169 w0 _ ?side1 ?side2 ?side3 E1.out E2.out HW0.out A21.out).mono ?_); (case side1 => exact iS_ HI0); (case side2 => exact bI_ HB); (case side3 => exact Hl.rr HO_3); rintro e w23 ⟨rfl, hR, hi, hb, hk⟩; refine ⟨_, rfl, ?_⟩; replace HK := Hl.am (KeepBut.trans (kS_ HK) hk (.inr ⟨gb, rfl, Kd.R_base HO_3.out gb rfl⟩)); replace HO_3 := Hl.am hR; replace HB := Hl.am (hb); replace HI0 := Hl.am (hi); (try clear hb); (try clear hk); (try clear hi); (try clear hR)))
        go_ret
        exact ⟨_, eW_, Hl.rr HO_3, iS_ HI0, bI_ HB, kS_ HK⟩
       ·
        replace c19 := Bool.eq_false_iff.mpr c19
        subst c19
        rw [if_neg (show ¬ (false = true) by decide)] at H
        (try dsimp only at H)
        simp only [Option.some.injEq, Prod.mk.injEq] at H
        obtain ⟨rfl, rfl, rfl⟩ := H
        go_wp2_with (first | (go_at_call 53; (with_reducible refine (spec_l00Src_one.calls g s0_0 x1001_2 x1002_2 10 false t162 t163 w0 _ ?side1 ?side2 A18.out).mono ?_); (case side1 => exact iS_ HI0); (case side2 => exact bI_ HB); rintro e w23 ⟨rfl, hi, hb, hk⟩; replace HO_3 := Hl.am (Kd.R_mono (Kd.R_keep (IsS92.apart (show IsS92 w0 _ g s0_0 x1001_2 x1002_2 from iS_ HI0) (Hl.rr HO_3) (by decide)) hk (fun _ h => h.2)) (fun _ h => h.1)); replace HK := Hl.am (KeepBut.trans (kS_ HK) hk (.inl rfl)); replace HB := Hl.am (hb); replace HI0 := Hl.am (hi); (try clear hb); (try clear hk); (try clear hi)))
        go_ret
        exact ⟨_, eW_, Hl.rr HO_3, iS_ HI0, bI_ HB, kS_ HK⟩
      ·
       rw [if_neg c17] at H
       have c17b0 : decide (0 < x4_3) = false := decide_eq_false c17
       clear c17
       simp only [Option.some.injEq, Prod.mk.injEq] at H
       obtain ⟨rfl, rfl, rfl⟩ := H
       go_wp2
       go_ret
       exact ⟨_, eW_, Hl.rr HO_3, iS_ HI0, bI_ HB, kS_ HK⟩


/-! ### spec_l24Each: function 62 -/
def spec_l24Each.f (s0_0 : List Int) (s0_1 : Int) (s0_2 : Int) : Option (Int × Int × Int) := (spec_l00Src_one.f s0_0 s0_1 s0_2 10).bind fun bt171 => (if bt171.1 = true then ((spec_l00Src_among.f s0_0 bt171.2.1 bt171.2.2 (([(-1), 0, 1, 100, 101] : List Int))).bind fun bt177 => (some (bt177.1, bt177.2.1, bt177.2.2))) else ((spec_l00Src_pick.f s0_0 bt171.2.1 bt171.2.2 6).bind fun bt180 => (some (wrap64 (1 + bt180.1), bt180.2.1, bt180.2.2))))
set_option maxHeartbeats 8000000 in
set_option maxRecDepth 100000 in
theorem spec_l24Each.calls (g : Nat) (s0_0 : List Int) (s0_1 : Int) (s0_2 : Int) (r1 : Int) (r2 : Int) (r3 : Int) (w0 w : World) (hI : IsS92 w0 w g s0_0 s0_1 s0_2) (hB : Below w0.heap.size w0 w) (h : spec_l24Each.f s0_0 s0_1 s0_2 = some (r1, r2, r3)) :
  Calls Tryz.prog 62 #[.pointer (some ⟨g, 0, none⟩)] w fun e w' => e = .returned (.int .i64 r1) ∧ IsS92 w0 w' g s0_0 r2 r3 ∧ Below w0.heap.size w0 w' ∧ KeepBut w w' g none := by
 have HI0 := Hl.am hI
 have HK := Hl.am (KeepBut.refl w g none)
 have HL := Hl.am hB.size
 clear hI
 have HW0 := Hl.am hB.size
 have HB := Hl.am hB
 clear hB
 have H := h
 unfold spec_l24Each.f at H
 clear h
 obtain ⟨⟨t171, t172, t173⟩, A20, H⟩ := bE_ H
 (try dsimp only at H)
 have A2 := Hl.am A20
 clear A20
 by_cases c3 : t171 = true
 ·
  subst c3
  rw [if_pos rfl] at H
  (try dsimp only at H)
  obtain ⟨y174, hy174⟩ : ∃ y_ : List Int, y_ = (([(-1), 0, 1, 100, 101] : List Int)) := ⟨_, rfl⟩
  replace H : ((spec_l00Src_among.f s0_0 t172 t173 y174).bind fun bt177 => (some (bt177.1, bt177.2.1, bt177.2.2))) = some (r1, r2, r3) := rH_ hy174 H
  have Ny174 := Hl.am hy174
  clear hy174
  obtain ⟨⟨t177, t178, t179⟩, A40, H⟩ := bE_ H
  replace H : (some (t177, t178, t179)) = some (r1, r2, r3) := H
  have A4 := Hl.am A40
  clear A40
  simp only [Option.some.injEq, Prod.mk.injEq] at H
  obtain ⟨rfl, rfl, rfl⟩ := H
  go_enter Tryz.func62, Tryz.ntmps62
  go_wp2_with (first | ((with_reducible refine gate_callee (f := 53) rfl ?_); refine Hl.gl (some 4) rfl rfl Tryz.func53 (by kernel_rfl) rfl #[.pointer (some ⟨g, 0, none⟩), .int .i64 10] rfl ?_; (with_reducible refine (spec_l00Src_one.calls g s0_0 s0_1 s0_2 10 true t172 t173 w0 _ ?side1 ?side2 A2.out).mono ?_); (case side1 => exact iS_ HI0); (case side2 => exact bI_ HB); rintro e w5 ⟨rfl, hi, hb, hk⟩; refine ⟨_, rfl, ?_⟩; replace HK := Hl.am (KeepBut.trans (kS_ HK) hk (.inl rfl)); replace HB := Hl.am (hb); replace HI0 := Hl.am (hi); (try clear hb); (try clear hk); (try clear hi)) | ((with_reducible refine gate_dst (N := 6) rfl ?_); refine Kd.R_lit (Kd.int .i64) _ 2 ?hg (N := 6) ?hd (xs := ([(-1), 0, 1, 100, 101] : List Int)) (inner := [.int .i64 (-1), .int .i64 0, .int .i64 1, .int .i64 100, .int .i64 101]) (ok := fun _ => True) (okp := fun _ => True) ?hr ?hp (fun _ hk => hk) trivial (Below.refl _ _) (Nat.le_refl _) (by simp) ?_; (case hd => rfl); (case hg => rfl); (case hr => first | (go_simp; done) | (go_simp; rfl)); (case hp => exact (Reps.one (show Kd.M (Kd.int .i64) _ _ _ (-1) [.int .i64 (-1)] from rfl) (Reps.one (show Kd.M (Kd.int .i64) _ _ _ 0 [.int .i64 0] from rfl) (Reps.one (show Kd.M (Kd.int .i64) _ _ _ 1 [.int .i64 1] from rfl) (Reps.one (show Kd.M (Kd.int .i64) _ _ _ 100 [.int .i64 100] from rfl) (Reps.one (show Kd.M (Kd.int .i64) _ _ _ 101 [.int .i64 101] from rfl) (Reps.none _ _))))))); intro v175 w6 ho7 hb hg_ hnew_; clear hg_ hnew_; (first | rw [← Ny174.out] at ho7 | (simp only [Int.reduceToNat] at ho7; rw [← Ny174.out] at ho7)); have HO176 := Hl.am (Kd.R_lower ho7 (keep_size (w := w) (g := g) (row := none) (kS_ HK))); replace HK := Hl.am (KeepBut.trans (kS_ HK) (KeepBut.of_below hb g none) (.inl rfl)); replace HB := Hl.am (below_step (bI_ HB) hb); replace HI0 := Hl.am (IsS92.below (iS_ HI0) hb); clear hb ho7; obtain ⟨Ao8, co8, eo8⟩ := Kd.R_slice HO176.out; subst eo8) | ((with_reducible refine gate_callee (f := 58) rfl ?_); refine Hl.gl (some 7) rfl rfl Tryz.func58 (by kernel_rfl) rfl #[.pointer (some ⟨g, 0, none⟩), .slice Ao8 y174.length co8] rfl ?_; (with_reducible refine (spec_l00Src_among.calls g s0_0 t172 t173 _ _ y174 t177 t178 t179 w0 _ ?side1 ?side2 ?side3 ?side4 ?side5 A4.out).mono ?_); (case side1 => exact iS_ HI0); (case side2 => exact bI_ HB); (case side3 => exact Hl.cc ((Kd.R_reads' HO176.out).2.2)); (case side4 => exact (Kd.R_reads' HO176.out).2.1); (case side5 => exact far_slice (IsS92.own_ne HI0.out HO176.out (by decide))); rintro e w9 ⟨rfl, hi, hb, hk⟩; refine ⟨_, rfl, ?_⟩; replace HO176 := Hl.am (Kd.R_mono (Kd.R_keep (IsS92.apart (show IsS92 w0 _ g s0_0 t172 t173 from iS_ HI0) (Hl.rr HO176) (by decide)) hk (fun _ h => h.2)) (fun _ h => h.1)); replace HK := Hl.am (KeepBut.trans (kS_ HK) hk (.inl rfl)); replace HB := Hl.am (hb); replace HI0 := Hl.am (hi); (try clear hb); (try clear hk); (try clear hi)))
  go_ret
  exact ⟨eW_, iS_ HI0, bI_ HB, kS_ HK⟩
 ·
  replace c3 := Bool.eq_false_iff.mpr c3
  subst c3
  rw [if_neg (show ¬ (false = true) by decide)] at H
  (try dsimp only at H)
  obtain ⟨⟨t180, t181, t182⟩, A100, H⟩ := bE_ H
  replace H : (some (wrap64 (1 + t180), t181, t182)) = some (r1, r2, r3) := H
  have A10 := Hl.am A100
  clear A100
  simp only [Option.some.injEq, Prod.mk.injEq] at H
  obtain ⟨rfl, rfl, rfl⟩ := H
  go_enter Tryz.func62, Tryz.ntmps62
  go_wp2_with (first | ((with_reducible refine gate_callee (f := 53) rfl ?_); refine Hl.gl (some 4) rfl rfl Tryz.func53 (by kernel_rfl) rfl #[.pointer (some ⟨g, 0, none⟩), .int .i64 10] rfl ?_; (with_reducible refine (spec_l00Src_one.calls g s0_0 s0_1 s0_2 10 false t172 t173 w0 _ ?side1 ?side2 A2.out).mono ?_); (case side1 => exact iS_ HI0); (case side2 => exact bI_ HB); rintro e w11 ⟨rfl, hi, hb, hk⟩; refine ⟨_, rfl, ?_⟩; replace HK := Hl.am (KeepBut.trans (kS_ HK) hk (.inl rfl)); replace HB := Hl.am (hb); replace HI0 := Hl.am (hi); (try clear hb); (try clear hk); (try clear hi)) | ((with_reducible refine gate_callee (f := 64) rfl ?_); refine Hl.gl (some 9) rfl rfl Tryz.func64 (by kernel_rfl) rfl #[.pointer (some ⟨g, 0, none⟩), .int .i64 6] rfl ?_; (with_reducible refine (spec_l00Src_pick.calls g s0_0 t172 t173 6 t180 t181 t182 w0 _ ?side1 ?side2 A10.out).mono ?_); (case side1 => exact iS_ HI0); (case side2 => exact bI_ HB); rintro e w12 ⟨rfl, hi, hb, hk⟩; refine ⟨_, rfl, ?_⟩; replace HK := Hl.am (KeepBut.trans (kS_ HK) hk (.inl rfl)); replace HB := Hl.am (hb); replace HI0 := Hl.am (hi); (try clear hb); (try clear hk); (try clear hi)))
  go_ret
  exact ⟨eW_, iS_ HI0, bI_ HB, kS_ HK⟩

/-! ### spec_l00Own: function 46 -/
def spec_l00Own.f (l0 : List Int) : Option (List Int) := (some (([] : List Int) : List Int)).bind fun y183 => (if y183.length + l0.length < 17592186044416 then (some (y183 ++ l0)) else (none))
set_option maxHeartbeats 8000000 in
set_option maxRecDepth 100000 in
theorem spec_l00Own.calls (A0 : Option Addr) (c0 : Nat) (l0 : List Int) (r : List Int) (w : World) (hr0 : Kd.C (Kd.int .i64) w A0 l0.length l0) (hc0 : l0.length ≤ c0) (h : spec_l00Own.f l0 = some r) :
  Calls Tryz.prog 46 #[.slice A0 l0.length c0] w fun e w' => ∃ v0_ : Value, e = .returned (v0_) ∧ Kd.R (Kd.int .i64) 2 w' w.heap.size (fun _ => True) v0_ r ∧ Below w.heap.size w w' := by
 have HR0 := Hl.am hr0
 have HC0 := Hl.am hc0
 clear hr0 hc0
 have HB := Hl.am (Below.refl w.heap.size w)
 have H : ((some (([] : List Int) : List Int)).bind fun y183 => (if y183.length + l0.length < 17592186044416 then (some (y183 ++ l0)) else (none))) = some r := h
 clear h
 obtain ⟨y183, hy183⟩ : ∃ y_ : List Int, y_ = (([] : List Int)) := ⟨_, rfl⟩
 replace H : (if y183.length + l0.length < 17592186044416 then (some (y183 ++ l0)) else (none)) = some r := rH_ hy183 H
 have Ny183 := Hl.am hy183
 clear hy183
 by_cases c2 : y183.length + l0.length < 17592186044416
 ·
  rw [if_pos c2] at H
  have LMc2 := Hl.am c2
  clear c2
  obtain ⟨y186, hy186⟩ : ∃ y_ : List Int, y_ = (y183 ++ l0) := ⟨_, rfl⟩
  replace H : (some y186) = some r := rH_ hy186 H
  have Ny186 := Hl.am hy186
  clear hy186
  obtain rfl := Option.some.inj H
  go_enter Tryz.func46, Tryz.ntmps46
  go_wp2_with (first | ((with_reducible refine gate_dst (N := 3) rfl ?_); refine Kd.R_lit (Kd.int .i64) _ 2 ?hg (N := 3) ?hd (xs := ([] : List Int)) (inner := []) (ok := fun _ => True) (okp := fun _ => True) ?hr ?hp (fun _ hk => hk) trivial (Below.refl _ _) (Nat.le_refl _) (by simp) ?_; (case hd => rfl); (case hg => rfl); (case hr => first | (go_simp; done) | (go_simp; rfl)); (case hp => exact (Reps.none _ _)); intro v184 w3 ho4 hb hg_ hnew_; clear hg_ hnew_; (first | rw [← Ny183.out] at ho4 | (simp only [Int.reduceToNat] at ho4; rw [← Ny183.out] at ho4)); have HO185 := Hl.am (Kd.R_lower ho4 (below_size (Hl.bb HB))); replace HB := bT_ HB hb; clear hb ho4) | ((with_reducible refine gate_builtin (b := .append) (xs := #[.tmp 3, .tmp 4]) rfl ?_); at_builtin; refine Kd.R_append_rows (Kd.int .i64) (w0 := w) w.heap.size rfl (.tmp 3) (.tmp 4) 29 2 (.int .i64 0) 8 rfl Tryz.underlying29 info2 rfl (by decide) (by omega) v184 y183 l0 _ _ _ (fun _ => True) (fun _ => False) rfl rfl ?aO ?aR (fun _ _ h => h) (fun _ h => h.elim) ?aF ?aB ?aS ?aL ?_; (case aR => exact Hl.cc (Kd.C_below HR0.out HB.out)); (case aB => exact (Hl.bb HB)); (case aF => exact (fun _ _ => trivial)); (case aO => exact (Hl.rr HO185)); (case aS => exact (below_size (Hl.bb HB))); (case aL => have := LMc2.out; omega); intro v187 w5 ho hb hg hat; rw [← Ny186.out] at ho; replace HB := Hl.am (hb); have HO188 := Hl.am (ho); clear HO185; clear ho hb hg hat))
  go_ret
  exact ⟨_, eW_, Hl.rr HO188, Hl.bb HB⟩
 ·
  rw [if_neg c2] at H
  exact absurd H (by simp)

/-! ### spec_l18Perm: function 63 -/
def spec_l18Perm.l0 : Nat → Int → List Int → Int → List Int → Int → Int → Option (List Int × Int × Int)
 | 0, _, _, _, _, _, _ => none
 | k + 1, x1, x5, x6, x1000, x1001, x1002 => if x6 < x1 then ((spec_l00Src_pick.f x1000 x1001 x1002 (wrap64 (x6 + 1))).bind fun bt192 => (if 0 ≤ bt192.1 then (if bt192.1 ≤ (x5.length : Int) then ((spec_l00Own.f (x5.take (bt192.1 : Int).toNat)).bind fun t199 => (if t199.length < 17592186044416 then ((some (t199 ++ [x6] : List Int)).bind fun y202 => ((some (x5.drop (bt192.1 : Int).toNat : List Int)).bind fun y205 => (if y202.length + y205.length < 17592186044416 then (spec_l18Perm.l0 k x1 (y202 ++ y205) (wrap64 (x6 + 1)) x1000 bt192.2.1 bt192.2.2) else (none)))) else (none))) else (none)) else (none))) else (some (x5, x1001, x1002))
def spec_l18Perm.f (k : Nat) (s0_0 : List Int) (s0_1 : Int) (s0_2 : Int) (a1 : Int) : Option (List Int × Int × Int) := spec_l18Perm.l0 k a1 (([] : List Int)) 0 s0_0 s0_1 s0_2
theorem spec_l18Perm.mono_l : ∀ k, (∀ y0 y1 y2 y3 y4 y5, LeO (spec_l18Perm.l0 k y0 y1 y2 y3 y4 y5) (spec_l18Perm.l0 (k + 1) y0 y1 y2 y3 y4 y5))
 | 0 => fun _ _ _ _ _ _ r h => by simp [spec_l18Perm.l0] at h
 | k + 1 => by
  have ih0 := spec_l18Perm.mono_l k
  ·
   intro y0 y1 y2 y3 y4 y5
   unfold spec_l18Perm.l0
   repeat' first
   | (with_reducible exact ih0 _ _ _ _ _ _)
   | (with_reducible exact LeO.refl _)
   | (with_reducible exact LeO.none _)
   | (with_reducible refine LeO.ite ?_ ?_)
   | (with_reducible refine LeO.bind ?_ (fun _ => ?_))
   | exact ih0 _ _ _ _ _ _
   | exact LeO.none _
   | refine LeO.ite ?_ ?_
   | refine LeO.bind ?_ (fun _ => ?_)
theorem spec_l18Perm.mono : ∀ a0 a1 a2 a3 k, LeO (spec_l18Perm.f k a0 a1 a2 a3) (spec_l18Perm.f (k + 1) a0 a1 a2 a3) := by
 intro a0 a1 a2 a3 k
 have ih0 := spec_l18Perm.mono_l k
 unfold spec_l18Perm.f
 repeat' first
   | (with_reducible exact ih0 _ _ _ _ _ _)
   | (with_reducible exact LeO.refl _)
   | (with_reducible exact LeO.none _)
   | (with_reducible refine LeO.ite ?_ ?_)
   | (with_reducible refine LeO.bind ?_ (fun _ => ?_))
   | exact ih0 _ _ _ _ _ _
   | exact LeO.none _
   | refine LeO.ite ?_ ?_
   | refine LeO.bind ?_ (fun _ => ?_)
set_option maxHeartbeats 8000000 in
set_option maxRecDepth 100000 in
theorem spec_l18Perm.calls (k : Nat) (g : Nat) (s0_0 : List Int) (s0_1 : Int) (s0_2 : Int) (a1 : Int) (r1 : List Int) (r2 : Int) (r3 : Int) (w0 w : World) (hI : IsS92 w0 w g s0_0 s0_1 s0_2) (hB : Below w0.heap.size w0 w) (h : spec_l18Perm.f k s0_0 s0_1 s0_2 a1 = some (r1, r2, r3)) :
  Calls Tryz.prog 63 #[.pointer (some ⟨g, 0, none⟩), .int .i64 a1] w fun e w' => ∃ v0_ : Value, e = .returned (v0_) ∧ Kd.R (Kd.int .i64) 2 w' w.heap.size (fun _ => True) v0_ r1 ∧ IsS92 w0 w' g s0_0 r2 r3 ∧ Below w0.heap.size w0 w' ∧ KeepBut w w' g none := by
 have HI0 := Hl.am hI
 have HK := Hl.am (KeepBut.refl w g none)
 have HL := Hl.am hB.size
 clear hI
 have HW0 := Hl.am hB.size
 have HB := Hl.am hB
 clear hB
 have H : (spec_l18Perm.l0 k a1 (([] : List Int)) 0 s0_0 s0_1 s0_2) = some (r1, r2, r3) := h
 clear h
 obtain ⟨y189, hy189⟩ : ∃ y_ : List Int, y_ = (([] : List Int)) := ⟨_, rfl⟩
 replace H : (spec_l18Perm.l0 k a1 y189 0 s0_0 s0_1 s0_2) = some (r1, r2, r3) := rH_ hy189 H
 have Ny189 := Hl.am hy189
 clear hy189
 have H' := Hl.am H
 clear H
 go_enter Tryz.func63, Tryz.ntmps63
 go_wp2_with (first | ((with_reducible refine gate_dst (N := 9) rfl ?_); refine Kd.R_lit (Kd.int .i64) _ 2 ?hg (N := 9) ?hd (xs := ([] : List Int)) (inner := []) (ok := fun _ => True) (okp := fun _ => True) ?hr ?hp (fun _ hk => hk) trivial (Below.refl _ _) (Nat.le_refl _) (by simp) ?_; (case hd => rfl); (case hg => rfl); (case hr => first | (go_simp; done) | (go_simp; rfl)); (case hp => exact (Reps.none _ _)); intro v190 w3 ho4 hb hg_ hnew_; clear hg_ hnew_; (first | rw [← Ny189.out] at ho4 | (simp only [Int.reduceToNat] at ho4; rw [← Ny189.out] at ho4)); have HO191 := Hl.am (Kd.R_lower ho4 (keep_size (w := w) (g := g) (row := none) (kS_ HK))); replace HK := Hl.am (KeepBut.trans (kS_ HK) (KeepBut.of_below hb g none) (.inl rfl)); replace HB := Hl.am (below_step (bI_ HB) hb); replace HI0 := Hl.am (IsS92.below (iS_ HI0) hb); clear hb ho4))
 go_loopg [5, 6] k (fun kq v5 v6 w' => ∃ (x5_1 : List Int) (x6_1 : Int) (x1001_1 : Int) (x1002_1 : Int), v6 = .int .i64 x6_1 ∧ Aside0 (spec_l18Perm.l0 kq a1 x5_1 x6_1 s0_0 x1001_1 x1002_1 = some (r1, r2, r3)) ∧ Aside0 (kq ≤ k) ∧ Aside0 (Kd.R (Kd.int .i64) 2 w' w.heap.size (fun _ => True) v5 x5_1) ∧ Aside0 (IsS92 w0 w' g s0_0 x1001_1 x1002_1) ∧ Aside0 (KeepBut w w' g none) ∧ Aside0 (Below w0.heap.size w0 w'))
 case atStart => exact ⟨(y189), (0), (s0_1), (s0_2), (by first | rfl | (simp; done) | (simp [*]; done)), H', ⟨Nat.le_refl _⟩, ⟨Hl.rr HO191⟩, ⟨iS_ HI0⟩, ⟨kS_ HK⟩, ⟨bI_ HB⟩⟩
 case round =>
  clear H'
  obtain ⟨x5_1, x6_1, x1001_1, x1002_1, rfl, HA, HK1, HO_5, HI0, HK, HB⟩ := hrel
  cases gk with
  | zero => exact absurd HA.out (by simp [spec_l18Perm.l0])
  | succ k1 =>
   have H := HA.out
   clear HA
   simp only [spec_l18Perm.l0] at H
   by_cases c5 : x6_1 < a1
   ·
    rw [if_pos c5] at H
    have c5b0 : decide (x6_1 < a1) = true := decide_eq_true c5
    clear c5
    obtain ⟨⟨t192, t193, t194⟩, A60, H⟩ := bE_ H
    (try dsimp only at H)
    have A6 := Hl.am A60
    clear A60
    by_cases c7 : 0 ≤ t192
    ·
     rw [if_pos c7] at H
     have c7b0 := eq_true c7
     have c7b1 : decide (0 ≤ t192) = true := decide_eq_true c7
     clear c7
     by_cases c8 : t192 ≤ (x5_1.length : Int)
     ·
      rw [if_pos c8] at H
      have c8b0 := eq_true c8
      have c8b1 : decide (t192 ≤ (x5_1.length : Int)) = true := decide_eq_true c8
      clear c8
      obtain ⟨y195, hy195⟩ : ∃ y_ : List Int, y_ = (x5_1.take (t192 : Int).toNat) := ⟨_, rfl⟩
      replace H : ((spec_l00Own.f y195).bind fun t199 => (if t199.length < 17592186044416 then ((some (t199 ++ [x6_1] : List Int)).bind fun y202 => ((some (x5_1.drop (t192 : Int).toNat : List Int)).bind fun y205 => (if y202.length + y205.length < 17592186044416 then (spec_l18Perm.l0 k1 a1 (y202 ++ y205) (wrap64 (x6_1 + 1)) s0_0 t193 t194) else (none)))) else (none))) = some (r1, r2, r3) := rH_ hy195 H
      have Ny195 := Hl.am hy195
      clear hy195
      obtain ⟨t199, A90, H⟩ := bE_ H
      (try dsimp only at H)
      have A9 := Hl.am A90
      clear A90
      by_cases c10 : t199.length < 17592186044416
      ·
       rw [if_pos c10] at H
       have LMc10 := Hl.am c10
       clear c10
       obtain ⟨y202, hy202⟩ : ∃ y_ : List Int, y_ = (t199 ++ [x6_1]) := ⟨_, rfl⟩
       replace H : ((some (x5_1.drop (t192 : Int).toNat : List Int)).bind fun y205 => (if y202.length + y205.length < 17592186044416 then (spec_l18Perm.l0 k1 a1 (y202 ++ y205) (wrap64 (x6_1 + 1)) s0_0 t193 t194) else (none))) = some (r1, r2, r3) := rH_ hy202 H
       have Ny202 := Hl.am hy202
       clear hy202
       have c11b0 := eq_true (Hl.od : 0 ≤ t192)
       have c12b0 := eq_true (Hl.od : t192 ≤ (x5_1.length : Int))
       obtain ⟨y205, hy205⟩ : ∃ y_ : List Int, y_ = (x5_1.drop (t192 : Int).toNat) := ⟨_, rfl⟩
       replace H : (if y202.length + y205.length < 17592186044416 then (spec_l18Perm.l0 k1 a1 (y202 ++ y205) (wrap64 (x6_1 + 1)) s0_0 t193 t194) else (none)) = some (r1, r2, r3) := rH_ hy205 H
       have Ny205 := Hl.am hy205
       clear hy205
       by_cases c13 : y202.length + y205.length < 17592186044416
       ·
        rw [if_pos c13] at H
        have LMc13 := Hl.am c13
        clear c13
        obtain ⟨y209, hy209⟩ : ∃ y_ : List Int, y_ = (y202 ++ y205) := ⟨_, rfl⟩
        replace H : (spec_l18Perm.l0 k1 a1 y209 (wrap64 (x6_1 + 1)) s0_0 t193 t194) = some (r1, r2, r3) := rH_ hy209 H
        have Ny209 := Hl.am hy209
        clear hy209
        have H' := Hl.am H
        clear H
        go_wp2_with (first | ((with_reducible refine gate_callee (f := 64) rfl ?_); refine Hl.gl (some 18) rfl rfl Tryz.func64 (by kernel_rfl) rfl #[.pointer (some ⟨g, 0, none⟩), .int .i64 (wrap64 (x6_1 + 1))] rfl ?_; (with_reducible refine (spec_l00Src_pick.calls g s0_0 x1001_1 x1002_1 (wrap64 (x6_1 + 1)) t192 t193 t194 w0 _ ?side1 ?side2 A6.out).mono ?_); (case side1 => exact iS_ HI0); (case side2 => exact bI_ HB); rintro e w14 ⟨rfl, hi, hb, hk⟩; refine ⟨_, rfl, ?_⟩; replace HO_5 := Hl.am (Kd.R_mono (Kd.R_keep (IsS92.apart (show IsS92 w0 _ g s0_0 x1001_1 x1002_1 from iS_ HI0) (Hl.rr HO_5) (by decide)) hk (fun _ h => h.2)) (fun _ h => h.1)); replace HK := Hl.am (KeepBut.trans (kS_ HK) hk (.inl rfl)); replace HB := Hl.am (hb); replace HI0 := Hl.am (hi); (try clear hb); (try clear hk); (try clear hi); obtain ⟨Ao16, co16, eo16⟩ := Kd.R_slice HO_5.out; subst eo16; have q15 : (t192 : Int) ≤ ((x5_1.length : Int) : Int) := Hl.od; obtain ⟨i015, hi015, _, hsz15, _⟩ := info_parts info2; have hroom15 : x5_1.length ≤ co16 := (Kd.R_reads' HO_5.out).2.1; have hC15 : Kd.C (Kd.int .i64) _ Ao16 x5_1.length x5_1 := (Kd.R_reads' HO_5.out).2.2; have hcut15 := cut_to (P := Tryz.prog) 29 2 .i64 Tryz.underlying29 hi015 Ao16 x5_1.length co16 t192 (Hl.od) q15 hroom15; have hr15 := Kd.C_take (m := (t192 : Int).toNat) hC15 (by omega); have hy15 : y195.length = (t192 : Int).toNat := (by rw [Ny195.out, List.length_take]; omega); rw [← Ny195.out] at hr15; rw [← hy15] at hcut15; have HR198 := Hl.am hr15; have HC198 := Hl.am (show y195.length ≤ co16 from by omega); clear hr15 hC15 hroom15 hi015 hsz15; have KY15 := Hl.am hy15; clear hy15; have KL15 := Hl.am (show (t192 : Int).toNat ≤ x5_1.length from by omega); replace q15 := eq_true q15) | ((with_reducible refine gate_callee (f := 46) rfl ?_); refine Hl.gl (some 22) rfl rfl Tryz.func46 (by kernel_rfl) rfl #[.slice Ao16 y195.length co16] rfl ?_; (with_reducible refine (spec_l00Own.calls _ _ y195 t199 _ ?side1 ?side2 A9.out).mono ?_); (case side1 => repeat (first | exact (by repeat (first | (with_reducible exact HR198.out) | (with_reducible refine Kd.C_alloc ?_ _) | (with_reducible refine Kd.C_drewN ?_ _) | (with_reducible refine Kd.C_drew ?_) | exact HR198.out)) | (with_reducible refine Kd.C_alloc ?_ _) | (with_reducible refine Kd.C_drewN ?_ _) | (with_reducible refine Kd.C_drew ?_))); (case side2 => exact HC198.out); rintro e w17 ⟨v200, rfl, ho0, hb⟩; refine ⟨_, rfl, ?_⟩; have HO201 := Hl.am (Kd.R_lower (Kd.R_new' ho0 (Kd.R_lt (Hl.rr HO_5))) (keep_size (w := w) (g := g) (row := none) (kS_ HK))); replace HO_5 := Hl.am (Kd.R_elder' (Hl.rr HO_5) (Kd.R_base ho0) hb); replace HR198 := Hl.am (Kd.C_below (by repeat (first | (with_reducible exact HR198.out) | (with_reducible refine Kd.C_alloc ?_ _) | (with_reducible refine Kd.C_drewN ?_ _) | (with_reducible refine Kd.C_drew ?_) | exact HR198.out)) hb); replace HK := Hl.am (KeepBut.trans (kS_ HK) (KeepBut.of_below hb g none) (.inl rfl)); replace HB := Hl.am (below_step (bI_ HB) hb); replace HI0 := Hl.am (IsS92.below (iS_ HI0) hb); (try clear hb); (try clear ho0)) | ((with_reducible refine gate_builtin (b := .append) (xs := #[.tmp 22, .tmp 24]) rfl ?_); at_builtin; refine Kd.R_append (Kd.int .i64) w.heap.size rfl (.tmp 22) (.tmp 24) 29 2 (.int .i64 0) 8 rfl Tryz.underlying29 info2 rfl (by decide) (by omega) v200 t199 x6_1 [.int .i64 x6_1] (fun k_ => some k_ ≠ (.slice Ao16 x5_1.length co16 : Value).ownBlock) (fun _ => False) rfl rfl ?aP (fun _ hk => hk.elim) ?aF ?aO (Below.refl _ _) ?aS ?aL ?_; (case aP => exact rfl); (case aF => exact (fun k_ hk => Kd.fresh' (Kd.R_lt (Hl.rr HO_5)) k_ hk)); (case aO => exact (by (with_reducible repeat (first | apply Kd.R_alloc | apply Kd.R_drewN | apply Kd.R_drew)); exact Kd.R_mono HO201.out (fun _ hk => hk.2))); (case aS => exact (keep_size (w := w) (g := g) (row := none) (kS_ HK))); (case aL => have := LMc10.out; omega); intro v203 w18 ho hb hg hat; rw [← Ny202.out] at ho; replace HB := Hl.am (below_weaken (bI_ HB) HL.out hb); replace HI0 := Hl.am (IsS92.grown (iS_ HI0) hg (IsS92.own_ne HI0.out HO201.out (by decide))); replace HK := Hl.am (KeepBut.trans (kS_ HK) (KeepBut.of_grown hg g) (Kd.R_base2 HO201.out)); replace HR198 := Hl.am ((show Kd.C (Kd.int .i64) w18 Ao16 y195.length y195 from by rw [Ny195.out]; exact Kd.C_take (m := (t192 : Int).toNat) ((Kd.R_reads' (Kd.R_after (ok := (fun _ => True)) (Hl.rr HO_5) hg hat)).2.2) KL15.out)); replace HO_5 := Hl.am (Kd.R_after (ok := (fun _ => True)) (Hl.rr HO_5) hg hat); have HO204 := Hl.am (ho); clear HO201; clear ho hb hg hat; have q19 : (t192 : Int) ≤ ((x5_1.length : Int) : Int) := Hl.od; obtain ⟨i019, hi019, _, hsz19, _⟩ := info_parts info2; have hroom19 : x5_1.length ≤ co16 := (Kd.R_reads' HO_5.out).2.1; have hC19 : Kd.C (Kd.int .i64) _ Ao16 x5_1.length x5_1 := (Kd.R_reads' HO_5.out).2.2; have q019 : (0 : Int) ≤ (t192 : Int) := Hl.od; have hcut19 := cut_from (P := Tryz.prog) 29 2 .i64 Tryz.underlying29 hi019 1 hsz19 Ao16 x5_1.length co16 t192 q019 q19; have hr19 := Kd.C_drop (m := (t192 : Int).toNat) (c := co16) hC19 (by omega) hroom19; obtain ⟨A19, hA19⟩ : ∃ A1, A1 = (if co16 = (t192 : Int).toNat then Ao16 else (Ao16 : Option Addr).map (·.add ((t192 : Int).toNat * 1))) := ⟨_, rfl⟩; obtain ⟨c19, hc19⟩ : ∃ c1, c1 = co16 - (t192 : Int).toNat := ⟨_, rfl⟩; have hy19 : y205.length = x5_1.length - (t192 : Int).toNat := (by rw [Ny205.out, List.length_drop] <;> omega); rw [show (x5_1).drop (t192 : Int).toNat = y205 from Ny205.out.symm] at hr19; replace hr19 : Kd.C (Kd.int .i64) _ A19 y205.length y205 := (by rw [hA19]; exact hr19); rw [← hy19, ← hA19, ← hc19] at hcut19; have HR208 := Hl.am hr19; have HC208 := Hl.am (show y205.length ≤ c19 from by rw [hy19, hc19]; exact Nat.sub_le_sub_right hroom19 _); clear hr19 hC19 hroom19 hi019 hsz19 hc19; have KY19 := Hl.am hy19; have KA19 := Hl.am hA19; clear hy19 hA19; have KL19 := Hl.am (show (t192 : Int).toNat ≤ x5_1.length from by omega); replace q19 := eq_true q19) | ((with_reducible refine gate_builtin (b := .append) (xs := #[.tmp 26, .tmp 29]) rfl ?_); at_builtin; refine Kd.R_append_rows (Kd.int .i64) w.heap.size rfl (.tmp 26) (.tmp 29) 29 2 (.int .i64 0) 8 rfl Tryz.underlying29 info2 rfl (by decide) (by omega) v203 y202 y205 _ _ _ (fun k_ => some k_ ≠ (.slice Ao16 x5_1.length co16 : Value).ownBlock) (fun _ => False) rfl rfl ?aO ?aR (fun _ _ h => h) (fun _ h => h.elim) ?aF (Below.refl _ _) ?aS ?aL ?_; (case aR => repeat (first | exact (by repeat (first | (with_reducible exact HR208.out) | (with_reducible refine Kd.C_alloc ?_ _) | (with_reducible refine Kd.C_drewN ?_ _) | (with_reducible refine Kd.C_drew ?_) | exact HR208.out)) | (with_reducible refine Kd.C_alloc ?_ _) | (with_reducible refine Kd.C_drewN ?_ _) | (with_reducible refine Kd.C_drew ?_))); (case aF => exact (fun k_ hk => Kd.fresh' (Kd.R_lt (Hl.rr HO_5)) k_ hk)); (case aO => exact (Hl.rr HO204)); (case aS => exact (keep_size (w := w) (g := g) (row := none) (kS_ HK))); (case aL => have := LMc13.out; omega); intro v210 w20 ho hb hg hat; rw [← Ny209.out] at ho; replace HB := Hl.am (below_weaken (bI_ HB) HL.out hb); replace HI0 := Hl.am (IsS92.grown (iS_ HI0) hg (IsS92.own_ne HI0.out HO204.out (by decide))); replace HK := Hl.am (KeepBut.trans (kS_ HK) (KeepBut.of_grown hg g) (Kd.R_base2 HO204.out)); replace HR198 := Hl.am ((show Kd.C (Kd.int .i64) w20 Ao16 y195.length y195 from by rw [Ny195.out]; exact Kd.C_take (m := (t192 : Int).toNat) ((Kd.R_reads' (Kd.R_after (ok := (fun _ => True)) (Hl.rr HO_5) hg hat)).2.2) KL15.out)); replace HR208 := Hl.am ((show Kd.C (Kd.int .i64) w20 A19 y205.length y205 from by rw [Ny205.out, KA19.out]; exact Kd.C_drop (m := (t192 : Int).toNat) (c := co16) ((Kd.R_reads' (Kd.R_after (ok := (fun _ => True)) (Hl.rr HO_5) hg hat)).2.2) KL19.out ((Kd.R_reads' (Kd.R_after (ok := (fun _ => True)) (Hl.rr HO_5) hg hat)).2.1))); replace HO_5 := Hl.am (Kd.R_after (ok := (fun _ => True)) (Hl.rr HO_5) hg hat); have HO211 := Hl.am (ho); clear HO204; clear ho hb hg hat))
        go_roundg k1
        case measure => have := HK1.out; omega
        case rel => exact ⟨(y209), (wrap64 (x6_1 + 1)), (t193), (t194), (by first | rfl | (simp; done) | (simp [*]; done)), H', ⟨by have := HK1.out; omega⟩, ⟨by (with_reducible repeat (first | apply Kd.R_alloc | apply Kd.R_drewN | apply Kd.R_drew)); exact Kd.R_mono HO211.out (fun _ hk => trivial)⟩, ⟨iS_ HI0⟩, ⟨kS_ HK⟩, ⟨bI_ HB⟩⟩
       ·
        rw [if_neg c13] at H
        exact absurd H (by simp)
      ·
       rw [if_neg c10] at H
       exact absurd H (by simp)
     ·
      rw [if_neg c8] at H
      exact absurd H (by simp)
    ·
     rw [if_neg c7] at H
     exact absurd H (by simp)
   ·
    rw [if_neg c5] at H
    have c5b0 : decide (x6_1 < a1) = false := decide_eq_false c5
    clear c5
    simp only [Option.some.injEq, Prod.mk.injEq] at H
    obtain ⟨rfl, rfl, rfl⟩ := H
    go_wp2
    go_ret
    exact ⟨_, eW_, Hl.rr HO_5, iS_ HI0, bI_ HB, kS_ HK⟩

/-! ### spec_DrawDoneDays: function 20 -/
def spec_DrawDoneDays.f (k : Nat) (l0 : List Int) : Option ((List (S33)) × Int × List Int) := (spec_l00From.f l0).bind fun bt212 => ((spec_l24Draw.f k bt212.1 bt212.2.1 bt212.2.2).bind fun bt216 => ((spec_l24Each.f bt212.1 bt216.2.1 bt216.2.2).bind fun bt221 => ((spec_l18Perm.f k bt212.1 bt221.2.1 bt221.2.2 (bt216.1.length : Int)).bind fun bt224 => ((spec_l00Src_pick.f bt212.1 bt224.2.1 bt224.2.2 12).bind fun bt229 => (if bt229.1 = 0 then (if bt224.1.length < 17592186044416 then (some (bt216.1, bt221.1, (bt224.1 ++ [0]))) else (none)) else (if bt229.1 = 1 then (if (bt224.1.length : Int) > 0 then ((spec_l00Src_among.f bt212.1 bt229.2.1 bt229.2.2 (([(-1), 0, wrap64 ((bt224.1.length : Int) - 1), (bt224.1.length : Int)] : List Int))).bind fun bt238 => (if 0 < (bt224.1.length : Int) then (some (bt216.1, bt221.1, (bt224.1.set (0 : Int).toNat bt238.1))) else (none))) else (some (bt216.1, bt221.1, bt224.1))) else (some (bt216.1, bt221.1, bt224.1))))))))
theorem spec_DrawDoneDays.mono : ∀ a0 k, LeO (spec_DrawDoneDays.f k a0) (spec_DrawDoneDays.f (k + 1) a0) := by
 intro a0 k
 unfold spec_DrawDoneDays.f
 repeat' first
   | (with_reducible exact spec_l18Perm.mono _ _ _ _ _)
   | (with_reducible exact spec_l24Draw.mono _ _ _ _)
   | (with_reducible exact LeO.refl _)
   | (with_reducible exact LeO.none _)
   | (with_reducible refine LeO.ite ?_ ?_)
   | (with_reducible refine LeO.bind ?_ (fun _ => ?_))
   | exact spec_l18Perm.mono _ _ _ _ _
   | exact spec_l24Draw.mono _ _ _ _
   | exact LeO.none _
   | refine LeO.ite ?_ ?_
   | refine LeO.bind ?_ (fun _ => ?_)
set_option maxHeartbeats 8000000 in
set_option maxRecDepth 100000 in
theorem spec_DrawDoneDays.calls (k : Nat) (A0 : Option Addr) (c0 : Nat) (l0 : List Int) (r1 : List (S33)) (r2 : Int) (r3 : List Int) (w : World) (hr0 : Kd.C (Kd.int .u8) w A0 l0.length l0) (hc0 : l0.length ≤ c0) (h : spec_DrawDoneDays.f k l0 = some (r1, r2, r3)) :
  Calls Tryz.prog 20 #[.slice A0 l0.length c0] w fun e w' => ∃ v0_ v2_ : Value, e = .returned (.tuple #[v0_, .int .i64 r2, v2_]) ∧ Kd.R k33 33 w' w.heap.size (fun _ => True) v0_ r1 ∧ Kd.R (Kd.int .i64) 2 w' w.heap.size (fun _ => True) v2_ r3 ∧ Below w.heap.size w w' := by
 have HR0 := Hl.am hr0
 have HC0 := Hl.am hc0
 clear hr0 hc0
 have HB := Hl.am (Below.refl w.heap.size w)
 have H := h
 unfold spec_DrawDoneDays.f at H
 clear h
 obtain ⟨⟨t212, t213, t214⟩, A20, H⟩ := bE_ H
 (try dsimp only at H)
 have A2 := Hl.am A20
 clear A20
 obtain ⟨⟨t216, t219, t220⟩, A30, H⟩ := bE_ H
 (try dsimp only at H)
 have A3 := Hl.am A30
 clear A30
 obtain ⟨⟨t221, t222, t223⟩, A40, H⟩ := bE_ H
 (try dsimp only at H)
 have A4 := Hl.am A40
 clear A40
 obtain ⟨⟨t224, t227, t228⟩, A50, H⟩ := bE_ H
 (try dsimp only at H)
 have A5 := Hl.am A50
 clear A50
 obtain ⟨⟨t229, t230, t231⟩, A60, H⟩ := bE_ H
 (try dsimp only at H)
 have A6 := Hl.am A60
 clear A60
 by_cases c7 : t229 = 0
 ·
  rw [if_pos c7] at H
  have c7b0 : (t229 == 0) = true := beq_iff_eq.mpr c7
  have c7b1 : (t229 != 0) = false := bne_eq_false_iff_eq.mpr c7
  clear c7
  by_cases c8 : t224.length < 17592186044416
  ·
   rw [if_pos c8] at H
   have LMc8 := Hl.am c8
   clear c8
   obtain ⟨y232, hy232⟩ : ∃ y_ : List Int, y_ = (t224 ++ [0]) := ⟨_, rfl⟩
   replace H : (some (t216, t221, y232)) = some (r1, r2, r3) := rH_ hy232 H
   have Ny232 := Hl.am hy232
   clear hy232
   simp only [Option.some.injEq, Prod.mk.injEq] at H
   obtain ⟨rfl, rfl, rfl⟩ := H
   go_enter Tryz.func20, Tryz.ntmps20
   go_wp2_with (first | ((with_reducible refine gate_callee (f := 50) rfl ?_); refine Hl.gl (some 10) rfl rfl Tryz.func50 (by kernel_rfl) rfl #[.slice A0 l0.length c0] rfl ?_; (with_reducible refine (spec_l00From.calls _ _ l0 t212 t213 t214 w _ ?side1 ?side2 ?side3 A2.out).mono ?_); (case side1 => exact Hl.bb HB); (case side2 => exact HR0.out); (case side3 => exact HC0.out); rintro e w9 ⟨g215, rfl, hi, hb, hb2⟩; refine ⟨_, rfl, ?_⟩; replace HB := Hl.am (hb); have HI215 := Hl.am (hi); (try clear hb); (try clear hb2); (try clear hi)) | ((with_reducible refine gate_callee (f := 51) rfl ?_); refine Hl.gl (some 12) rfl rfl Tryz.func51 (by kernel_rfl) rfl #[.pointer (some ⟨g215, 0, none⟩)] rfl ?_; (with_reducible refine (spec_l24Draw.calls k g215 t212 t213 t214 t216 t219 t220 w _ ?side1 ?side2 A3.out).mono ?_); (case side1 => exact iS_ HI215); (case side2 => exact bI_ HB); rintro e w10 ⟨v217, rfl, ho0, hi, hb, hk⟩; refine ⟨_, rfl, ?_⟩; have HO218 := Hl.am (Kd.R_lower ho0 (below_size (bI_ HB))); replace HB := Hl.am (hb); replace HI215 := Hl.am (hi); (try clear hb); (try clear hk); (try clear hi); (try clear ho0)) | ((with_reducible refine gate_callee (f := 62) rfl ?_); refine Hl.gl (some 14) rfl rfl Tryz.func62 (by kernel_rfl) rfl #[.pointer (some ⟨g215, 0, none⟩)] rfl ?_; (with_reducible refine (spec_l24Each.calls g215 t212 t219 t220 t221 t222 t223 w _ ?side1 ?side2 A4.out).mono ?_); (case side1 => exact iS_ HI215); (case side2 => exact bI_ HB); rintro e w11 ⟨rfl, hi, hb, hk⟩; refine ⟨_, rfl, ?_⟩; replace HO218 := Hl.am (Kd.R_mono (Kd.R_keep (IsS92.apart (show IsS92 w _ g215 t212 t219 t220 from iS_ HI215) (Hl.rr HO218) (by decide)) hk (fun _ h => h.2)) (fun _ h => h.1)); replace HB := Hl.am (hb); replace HI215 := Hl.am (hi); (try clear hb); (try clear hk); (try clear hi); obtain ⟨Ao12, co12, eo12⟩ := Kd.R_slice HO218.out; subst eo12) | ((with_reducible refine gate_callee (f := 63) rfl ?_); refine Hl.gl (some 18) rfl rfl Tryz.func63 (by kernel_rfl) rfl #[.pointer (some ⟨g215, 0, none⟩), .int .i64 (t216.length : Int)] rfl ?_; (with_reducible refine (spec_l18Perm.calls k g215 t212 t222 t223 (t216.length : Int) t224 t227 t228 w _ ?side1 ?side2 A5.out).mono ?_); (case side1 => exact iS_ HI215); (case side2 => exact bI_ HB); rintro e w13 ⟨v225, rfl, ho0, hi, hb, hk⟩; refine ⟨_, rfl, ?_⟩; replace HO218 := Hl.am (Kd.R_mono (Kd.R_keep (IsS92.apart (show IsS92 w _ g215 t212 t222 t223 from iS_ HI215) (Hl.rr HO218) (by decide)) hk (fun _ h => h.2)) (fun _ h => h.1)); have HO226 := Hl.am (Kd.R_lower ho0 (below_size (bI_ HB))); replace HB := Hl.am (hb); replace HI215 := Hl.am (hi); (try clear hb); (try clear hk); (try clear hi); (try clear ho0)) | ((with_reducible refine gate_callee (f := 64) rfl ?_); refine Hl.gl (some 20) rfl rfl Tryz.func64 (by kernel_rfl) rfl #[.pointer (some ⟨g215, 0, none⟩), .int .i64 12] rfl ?_; (with_reducible refine (spec_l00Src_pick.calls g215 t212 t227 t228 12 t229 t230 t231 w _ ?side1 ?side2 A6.out).mono ?_); (case side1 => exact iS_ HI215); (case side2 => exact bI_ HB); rintro e w14 ⟨rfl, hi, hb, hk⟩; refine ⟨_, rfl, ?_⟩; replace HO218 := Hl.am (Kd.R_mono (Kd.R_keep (IsS92.apart (show IsS92 w _ g215 t212 t227 t228 from iS_ HI215) (Hl.rr HO218) (by decide)) hk (fun _ h => h.2)) (fun _ h => h.1)); replace HO226 := Hl.am (Kd.R_mono (Kd.R_keep (IsS92.apart (show IsS92 w _ g215 t212 t227 t228 from iS_ HI215) (Hl.rr HO226) (by decide)) hk (fun _ h => h.2)) (fun _ h => h.1)); replace HB := Hl.am (hb); replace HI215 := Hl.am (hi); (try clear hb); (try clear hk); (try clear hi)) | ((with_reducible refine gate_builtin (b := .append) (xs := #[.tmp 23, .tmp 24]) rfl ?_); at_builtin; refine Kd.R_append (Kd.int .i64) (w0 := w) w.heap.size rfl (.tmp 23) (.tmp 24) 29 2 (.int .i64 0) 8 rfl Tryz.underlying29 info2 rfl (by decide) (by omega) v225 t224 0 [.int .i64 0] (fun _ => True) (fun _ => False) rfl rfl ?aP (fun _ hk => hk.elim) ?aF ?aO ?aB ?aS ?aL ?_; (case aP => exact rfl); (case aB => exact (bI_ HB)); (case aF => exact (fun _ _ => trivial)); (case aO => exact (Hl.rr HO226)); (case aS => exact (below_size (bI_ HB))); (case aL => have := LMc8.out; omega); intro v233 w15 ho hb hg hat; rw [← Ny232.out] at ho; replace HI215 := Hl.am (IsS92.grown (iS_ HI215) hg (IsS92.own_ne HI215.out HO226.out (by decide))); replace HO218 := Hl.am (Kd.R_over' (Hl.rr HO218) (Kd.R_typed (Hl.rr HO226)) (by decide) hg); replace HB := Hl.am (hb); have HO234 := Hl.am (ho); clear HO226; clear ho hb hg hat))
   go_ret3
   exact ⟨_, _, eW_, Hl.rr HO218, Hl.rr HO234, bI_ HB⟩
  ·
   rw [if_neg c8] at H
   exact absurd H (by simp)
 ·
  rw [if_neg c7] at H
  have c7b0 : (t229 == 0) = false := beq_eq_false_iff_ne.mpr c7
  have c7b1 : (t229 != 0) = true := bne_iff_ne.mpr c7
  by_cases c16 : t229 = 1
  ·
   rw [if_pos c16] at H
   have c16b0 : (t229 == 1) = true := beq_iff_eq.mpr c16
   have c16b1 : (t229 != 1) = false := bne_eq_false_iff_eq.mpr c16
   clear c16
   by_cases c17 : (t224.length : Int) > 0
   ·
    rw [if_pos c17] at H
    have c17b0 : decide (0 < (t224.length : Int)) = true := decide_eq_true c17
    have c17b1 : decide (0 < t224.length) = true := decide_eq_true (by omega)
    clear c17
    obtain ⟨y235, hy235⟩ : ∃ y_ : List Int, y_ = (([(-1), 0, wrap64 ((t224.length : Int) - 1), (t224.length : Int)] : List Int)) := ⟨_, rfl⟩
    replace H : ((spec_l00Src_among.f t212 t230 t231 y235).bind fun bt238 => (if 0 < (t224.length : Int) then (some (t216, t221, (t224.set (0 : Int).toNat bt238.1))) else (none))) = some (r1, r2, r3) := rH_ hy235 H
    have Ny235 := Hl.am hy235
    clear hy235
    obtain ⟨⟨t238, t239, t240⟩, A180, H⟩ := bE_ H
    replace H : (if 0 < (t224.length : Int) then (some (t216, t221, (t224.set (0 : Int).toNat t238))) else (none)) = some (r1, r2, r3) := H
    have A18 := Hl.am A180
    clear A180
    by_cases c19 : 0 < (t224.length : Int)
    ·
     rw [if_pos c19] at H
     have c19b0 : decide (0 < (t224.length : Int)) = true := decide_eq_true c19
     have c19b1 : decide (0 < t224.length) = true := decide_eq_true (by omega)
     clear c19
     obtain ⟨y241, hy241⟩ : ∃ y_ : List Int, y_ = (t224.set (0 : Int).toNat t238) := ⟨_, rfl⟩
     replace H : (some (t216, t221, y241)) = some (r1, r2, r3) := rH_ hy241 H
     have Ny241 := Hl.am hy241
     clear hy241
     simp only [Option.some.injEq, Prod.mk.injEq] at H
     obtain ⟨rfl, rfl, rfl⟩ := H
     go_enter Tryz.func20, Tryz.ntmps20
     go_wp2_with (first | ((with_reducible refine gate_callee (f := 50) rfl ?_); refine Hl.gl (some 10) rfl rfl Tryz.func50 (by kernel_rfl) rfl #[.slice A0 l0.length c0] rfl ?_; (with_reducible refine (spec_l00From.calls _ _ l0 t212 t213 t214 w _ ?side1 ?side2 ?side3 A2.out).mono ?_); (case side1 => exact Hl.bb HB); (case side2 => exact HR0.out); (case side3 => exact HC0.out); rintro e w21 ⟨g215, rfl, hi, hb, hb2⟩; refine ⟨_, rfl, ?_⟩; replace HB := Hl.am (hb); have HI215 := Hl.am (hi); (try clear hb); (try clear hb2); (try clear hi)) | ((with_reducible refine gate_callee (f := 51) rfl ?_); refine Hl.gl (some 12) rfl rfl Tryz.func51 (by kernel_rfl) rfl #[.pointer (some ⟨g215, 0, none⟩)] rfl ?_; (with_reducible refine (spec_l24Draw.calls k g215 t212 t213 t214 t216 t219 t220 w _ ?side1 ?side2 A3.out).mono ?_); (case side1 => exact iS_ HI215); (case side2 => exact bI_ HB); rintro e w22 ⟨v217, rfl, ho0, hi, hb, hk⟩; refine ⟨_, rfl, ?_⟩; have HO218 := Hl.am (Kd.R_lower ho0 (below_size (bI_ HB))); replace HB := Hl.am (hb); replace HI215 := Hl.am (hi); (try clear hb); (try clear hk); (try clear hi); (try clear ho0)) | ((with_reducible refine gate_callee (f := 62) rfl ?_); refine Hl.gl (some 14) rfl rfl Tryz.func62 (by kernel_rfl) rfl #[.pointer (some ⟨g215, 0, none⟩)] rfl ?_; (with_reducible refine (spec_l24Each.calls g215 t212 t219 t220 t221 t222 t223 w _ ?side1 ?side2 A4.out).mono ?_); (case side1 => exact iS_ HI215); (case side2 => exact bI_ HB); rintro e w23 ⟨rfl, hi, hb, hk⟩; refine ⟨_, rfl, ?_⟩; replace HO218 := Hl.am (Kd.R_mono (Kd.R_keep (IsS92.apart (show IsS92 w _ g215 t212 t219 t220 from iS_ HI215) (Hl.rr HO218) (by decide)) hk (fun _ h => h.2)) (fun _ h => h.1)); replace HB := Hl.am (hb); replace HI215 := Hl.am (hi); (try clear hb); (try clear hk); (try clear hi); obtain ⟨Ao24, co24, eo24⟩ := Kd.R_slice HO218.out; subst eo24) | ((with_reducible refine gate_callee (f := 63) rfl ?_); refine Hl.gl (some 18) rfl rfl Tryz.func63 (by kernel_rfl) rfl #[.pointer (some ⟨g215, 0, none⟩), .int .i64 (t216.length : Int)] rfl ?_; (with_reducible refine (spec_l18Perm.calls k g215 t212 t222 t223 (t216.length : Int) t224 t227 t228 w _ ?side1 ?side2 A5.out).mono ?_); (case side1 => exact iS_ HI215); (case side2 => exact bI_ HB); rintro e w25 ⟨v225, rfl, ho0, hi, hb, hk⟩; refine ⟨_, rfl, ?_⟩; replace HO218 := Hl.am (Kd.R_mono (Kd.R_keep (IsS92.apart (show IsS92 w _ g215 t212 t222 t223 from iS_ HI215) (Hl.rr HO218) (by decide)) hk (fun _ h => h.2)) (fun _ h => h.1)); have HO226 := Hl.am (Kd.R_lower ho0 (below_size (bI_ HB))); replace HB := Hl.am (hb); replace HI215 := Hl.am (hi); (try clear hb); (try clear hk); (try clear hi); (try clear ho0)) | ((with_reducible refine gate_callee (f := 64) rfl ?_); refine Hl.gl (some 20) rfl rfl Tryz.func64 (by kernel_rfl) rfl #[.pointer (some ⟨g215, 0, none⟩), .int .i64 12] rfl ?_; (with_reducible refine (spec_l00Src_pick.calls g215 t212 t227 t228 12 t229 t230 t231 w _ ?side1 ?side2 A6.out).mono ?_); (case side1 => exact iS_ HI215); (case side2 => exact bI_ HB); rintro e w26 ⟨rfl, hi, hb, hk⟩; refine ⟨_, rfl, ?_⟩; replace HO218 := Hl.am (Kd.R_mono (Kd.R_keep (IsS92.apart (show IsS92 w _ g215 t212 t227 t228 from iS_ HI215) (Hl.rr HO218) (by decide)) hk (fun _ h => h.2)) (fun _ h => h.1)); replace HO226 := Hl.am (Kd.R_mono (Kd.R_keep (IsS92.apart (show IsS92 w _ g215 t212 t227 t228 from iS_ HI215) (Hl.rr HO226) (by decide)) hk (fun _ h => h.2)) (fun _ h => h.1)); replace HB := Hl.am (hb); replace HI215 := Hl.am (hi); (try clear hb); (try clear hk); (try clear hi); obtain ⟨Ao27, co27, eo27⟩ := Kd.R_slice HO226.out; subst eo27) | ((with_reducible refine gate_dst (N := 38) rfl ?_); refine Kd.R_lit (Kd.int .i64) _ 2 ?hg (N := 38) ?hd (xs := ([(-1), 0, wrap64 ((t224.length : Int) - 1), (t224.length : Int)] : List Int)) (inner := [.int .i64 (-1), .int .i64 0, .int .i64 (wrap64 ((t224.length : Int) - 1)), .int .i64 (t224.length : Int)]) (ok := fun _ => True) (okp := fun _ => True) ?hr ?hp (fun _ hk => hk) trivial (Below.refl _ _) (Nat.le_refl _) (by simp) ?_; (case hd => rfl); (case hg => rfl); (case hr => first | (go_simp; done) | (go_simp; rfl)); (case hp => exact (Reps.one (show Kd.M (Kd.int .i64) _ _ _ (-1) [.int .i64 (-1)] from rfl) (Reps.one (show Kd.M (Kd.int .i64) _ _ _ 0 [.int .i64 0] from rfl) (Reps.one (show Kd.M (Kd.int .i64) _ _ _ (wrap64 ((t224.length : Int) - 1)) [.int .i64 (wrap64 ((t224.length : Int) - 1))] from rfl) (Reps.one (show Kd.M (Kd.int .i64) _ _ _ (t224.length : Int) [.int .i64 (t224.length : Int)] from rfl) (Reps.none _ _)))))); intro v236 w28 ho29 hb hg_ hnew_; clear hg_ hnew_; (first | rw [← Ny235.out] at ho29 | (simp only [Int.reduceToNat] at ho29; rw [← Ny235.out] at ho29)); replace HO218 := rB_ HO218 hb; have HO237 := Hl.am (Kd.R_lower (Kd.R_new' ho29 (Kd.R_lt (Hl.rr HO226))) (below_size (bI_ HB))); replace HO226 := Hl.am (Kd.R_elder' (Hl.rr HO226) (Kd.R_base ho29) hb); replace HB := Hl.am (below_step (bI_ HB) hb); replace HI215 := Hl.am (IsS92.below (iS_ HI215) hb); clear hb ho29; obtain ⟨Ao30, co30, eo30⟩ := Kd.R_slice HO237.out; subst eo30) | ((with_reducible refine gate_callee (f := 58) rfl ?_); refine Hl.gl (some 39) rfl rfl Tryz.func58 (by kernel_rfl) rfl #[.pointer (some ⟨g215, 0, none⟩), .slice Ao30 y235.length co30] rfl ?_; (with_reducible refine (spec_l00Src_among.calls g215 t212 t230 t231 _ _ y235 t238 t239 t240 w _ ?side1 ?side2 ?side3 ?side4 ?side5 A18.out).mono ?_); (case side1 => exact iS_ HI215); (case side2 => exact bI_ HB); (case side3 => exact Hl.cc ((Kd.R_reads' HO237.out).2.2)); (case side4 => exact (Kd.R_reads' HO237.out).2.1); (case side5 => exact far_slice (IsS92.own_ne HI215.out HO237.out (by decide))); rintro e w31 ⟨rfl, hi, hb, hk⟩; refine ⟨_, rfl, ?_⟩; replace HO218 := Hl.am (Kd.R_mono (Kd.R_keep (IsS92.apart (show IsS92 w _ g215 t212 t230 t231 from iS_ HI215) (Hl.rr HO218) (by decide)) hk (fun _ h => h.2)) (fun _ h => h.1)); replace HO226 := Hl.am (Kd.R_mono (Kd.R_keep (IsS92.apart (show IsS92 w _ g215 t212 t230 t231 from iS_ HI215) (Hl.rr HO226) (by decide)) hk (fun _ h => h.2)) (fun _ h => h.1)); replace HO237 := Hl.am (Kd.R_mono (Kd.R_keep (IsS92.apart (show IsS92 w _ g215 t212 t230 t231 from iS_ HI215) (Hl.rr HO237) (by decide)) hk (fun _ h => h.2)) (fun _ h => h.1)); replace HB := Hl.am (hb); replace HI215 := Hl.am (hi); (try clear hb); (try clear hk); (try clear hi); have p20 : 0 ≤ (0 : Int) := (by omega); have q20 : (0 : Int) < ((t224.length : Int) : Int) := Hl.od; have qi20 : (0 < t224.length) = True := eq_true (by omega); obtain ⟨go20, co20, eo20, gb20, gl20, cl20, HG20⟩ := Kd.R_form HO226.out (by omega); (first | cases eo20 | (injection eo20 with ea_ en_ ec_; (first | subst ea_ | (injection ea_ with ea_; subst ea_)); subst ec_; clear en_)); have GB20 := Hl.am gb20; have GG20 := Hl.am HG20; clear gb20 gl20 HG20; obtain ⟨hx20_0, hf20_0⟩ := Kd.R_celln 0 HO226.out (0 : Int) p20 q20; (try rw [show ((0 : Int)).toNat = 0 from rfl] at hx20_0); (try simp only [Nat.reduceMul, Nat.zero_mul, Nat.zero_add, Nat.reduceAdd] at hx20_0); (try rw [show ((0 : Int)).toNat = 0 from rfl] at hf20_0); (try simp only [Nat.reduceMul, Nat.zero_mul, Nat.zero_add, Nat.reduceAdd] at hf20_0); replace p20 := eq_true p20; replace q20 := eq_true q20; have n_ := Hl.am (Kd.R_mono (ok' := (fun k_ => some k_ ≠ (.slice Ao30 y235.length co30 : Value).ownBlock)) HO226.out (fun k_ hk => hk.2)); clear HO226; have HO226 := n_; clear n_; obtain ⟨hy32_, hz32_⟩ := Kd.R_celln 0 HO226.out (0 : Int) (by omega) (Hl.od); (try simp only [Int.reduceToNat, Int.toNat_zero, Int.toNat_ofNat, Nat.reduceMul, Nat.zero_mul, Nat.zero_add] at hy32_ hz32_); (try rw [show ((0 : Int)).toNat = 0 from rfl] at hy32_); (try rw [show ((0 : Int)).toNat = 0 from rfl] at hz32_); have HP32 := Kd.R_putg HO226.out (0 : Int) t238) | ((with_reducible refine gate_store (t := 2) (p := 40) rfl ?_); refine store_event (t := 2) (p := 40) (v := ?vo_w33) (w1 := (w31.setCell ⟨go20, (0 : Int).toNat, none⟩ (.int .i64 t238))) ?hg ?ho ?hn ?hr ?_; (case ho => rfl); (case hg => rfl); (case hn => rfl); (case hr => first | (go_simp; done) | (go_simp; rfl)); intro w33 hw; have hg : w31.grownBy w33 (some go20) := (by rw [hw]; exact HP32.2); have hp_ : Kd.R (Kd.int .i64) 2 w33 w.heap.size (fun k_ => some k_ ≠ (.slice Ao30 y235.length co30 : Value).ownBlock) (.slice (some ⟨go20, 0, none⟩) t224.length co27) y241 := (by rw [hw, Ny241.out]; exact HP32.1); clear HP32; replace HI215 := Hl.am (IsS92.grown (iS_ HI215) hg (IsS92.own_ne HI215.out HO226.out (by decide))); replace HO218 := Hl.am (Kd.R_over' (v := (.slice (some ⟨go20, 0, none⟩) t224.length co27)) (Hl.rr HO218) (Kd.R_typed HO226.out) (by decide) hg); replace HO226 := Hl.am (hp_); replace HO237 := Hl.am (Kd.R_after (v := (.slice (some ⟨go20, 0, none⟩) t224.length co27)) (v1 := (.slice (some ⟨go20, 0, none⟩) t224.length co27)) (ok := (fun _ => True)) (Hl.rr HO237) hg (.inl rfl)); replace HB := Hl.am ((by rw [hw]; exact below_set (HB.out) GB20.out : Below w.heap.size w w33)); clear hg hw hp_))
     go_ret3
     exact ⟨_, _, eW_, Hl.rr HO218, by (with_reducible repeat (first | apply Kd.R_alloc | apply Kd.R_drewN | apply Kd.R_drew)); exact Kd.R_mono HO226.out (fun _ hk => trivial), bI_ HB⟩
    ·
     rw [if_neg c19] at H
     exact absurd H (by simp)
   ·
    rw [if_neg c17] at H
    have c17b0 : decide (0 < (t224.length : Int)) = false := decide_eq_false c17
    have c17b1 : decide (0 < t224.length) = false := decide_eq_false (by omega)
    clear c17
    simp only [Option.some.injEq, Prod.mk.injEq] at H
    obtain ⟨rfl, rfl, rfl⟩ := H
    go_enter Tryz.func20, Tryz.ntmps20
    go_wp2_with (first | ((with_reducible refine gate_callee (f := 50) rfl ?_); refine Hl.gl (some 10) rfl rfl Tryz.func50 (by kernel_rfl) rfl #[.slice A0 l0.length c0] rfl ?_; (with_reducible refine (spec_l00From.calls _ _ l0 t212 t213 t214 w _ ?side1 ?side2 ?side3 A2.out).mono ?_); (case side1 => exact Hl.bb HB); (case side2 => exact HR0.out); (case side3 => exact HC0.out); rintro e w34 ⟨g215, rfl, hi, hb, hb2⟩; refine ⟨_, rfl, ?_⟩; replace HB := Hl.am (hb); have HI215 := Hl.am (hi); (try clear hb); (try clear hb2); (try clear hi)) | ((with_reducible refine gate_callee (f := 51) rfl ?_); refine Hl.gl (some 12) rfl rfl Tryz.func51 (by kernel_rfl) rfl #[.pointer (some ⟨g215, 0, none⟩)] rfl ?_; (with_reducible refine (spec_l24Draw.calls k g215 t212 t213 t214 t216 t219 t220 w _ ?side1 ?side2 A3.out).mono ?_); (case side1 => exact iS_ HI215); (case side2 => exact bI_ HB); rintro e w35 ⟨v217, rfl, ho0, hi, hb, hk⟩; refine ⟨_, rfl, ?_⟩; have HO218 := Hl.am (Kd.R_lower ho0 (below_size (bI_ HB))); replace HB := Hl.am (hb); replace HI215 := Hl.am (hi); (try clear hb); (try clear hk); (try clear hi); (try clear ho0)) | ((with_reducible refine gate_callee (f := 62) rfl ?_); refine Hl.gl (some 14) rfl rfl Tryz.func62 (by kernel_rfl) rfl #[.pointer (some ⟨g215, 0, none⟩)] rfl ?_; (with_reducible refine (spec_l24Each.calls g215 t212 t219 t220 t221 t222 t223 w _ ?side1 ?side2 A4.out).mono ?_); (case side1 => exact iS_ HI215); (case side2 => exact bI_ HB); rintro e w36 ⟨rfl, hi, hb, hk⟩; refine ⟨_, rfl, ?_⟩; replace HO218 := Hl.am (Kd.R_mono (Kd.R_keep (IsS92.apart (show IsS92 w _ g215 t212 t219 t220 from iS_ HI215) (Hl.rr HO218) (by decide)) hk (fun _ h => h.2)) (fun _ h => h.1)); replace HB := Hl.am (hb); replace HI215 := Hl.am (hi); (try clear hb); (try clear hk); (try clear hi); obtain ⟨Ao37, co37, eo37⟩ := Kd.R_slice HO218.out; subst eo37) | ((with_reducible refine gate_callee (f := 63) rfl ?_); refine Hl.gl (some 18) rfl rfl Tryz.func63 (by kernel_rfl) rfl #[.pointer (some ⟨g215, 0, none⟩), .int .i64 (t216.length : Int)] rfl ?_; (with_reducible refine (spec_l18Perm.calls k g215 t212 t222 t223 (t216.length : Int) t224 t227 t228 w _ ?side1 ?side2 A5.out).mono ?_); (case side1 => exact iS_ HI215); (case side2 => exact bI_ HB); rintro e w38 ⟨v225, rfl, ho0, hi, hb, hk⟩; refine ⟨_, rfl, ?_⟩; replace HO218 := Hl.am (Kd.R_mono (Kd.R_keep (IsS92.apart (show IsS92 w _ g215 t212 t222 t223 from iS_ HI215) (Hl.rr HO218) (by decide)) hk (fun _ h => h.2)) (fun _ h => h.1)); have HO226 := Hl.am (Kd.R_lower ho0 (below_size (bI_ HB))); replace HB := Hl.am (hb); replace HI215 := Hl.am (hi); (try clear hb); (try clear hk); (try clear hi); (try clear ho0)) | ((with_reducible refine gate_callee (f := 64) rfl ?_); refine Hl.gl (some 20) rfl rfl Tryz.func64 (by kernel_rfl) rfl #[.pointer (some ⟨g215, 0, none⟩), .int .i64 12] rfl ?_; (with_reducible refine (spec_l00Src_pick.calls g215 t212 t227 t228 12 t229 t230 t231 w _ ?side1 ?side2 A6.out).mono ?_); (case side1 => exact iS_ HI215); (case side2 => exact bI_ HB); rintro e w39 ⟨rfl, hi, hb, hk⟩; refine ⟨_, rfl, ?_⟩; replace HO218 := Hl.am (Kd.R_mono (Kd.R_keep (IsS92.apart (show IsS92 w _ g215 t212 t227 t228 from iS_ HI215) (Hl.rr HO218) (by decide)) hk (fun _ h => h.2)) (fun _ h => h.1)); replace HO226 := Hl.am (Kd.R_mono (Kd.R_keep (IsS92.apart (show IsS92 w _ g215 t212 t227 t228 from iS_ HI215) (Hl.rr HO226) (by decide)) hk (fun _ h => h.2)) (fun _ h => h.1)); replace HB := Hl.am (hb); replace HI215 := Hl.am (hi); (try clear hb); (try clear hk); (try clear hi); obtain ⟨Ao40, co40, eo40⟩ := Kd.R_slice HO226.out; subst eo40))
    go_ret3
    exact ⟨_, _, eW_, Hl.rr HO218, Hl.rr HO226, bI_ HB⟩
  ·
   rw [if_neg c16] at H
   have c16b0 : (t229 == 1) = false := beq_eq_false_iff_ne.mpr c16
   have c16b1 : (t229 != 1) = true := bne_iff_ne.mpr c16
   simp only [Option.some.injEq, Prod.mk.injEq] at H
   obtain ⟨rfl, rfl, rfl⟩ := H
   go_enter Tryz.func20, Tryz.ntmps20
   go_wp2_with (first | ((with_reducible refine gate_callee (f := 50) rfl ?_); refine Hl.gl (some 10) rfl rfl Tryz.func50 (by kernel_rfl) rfl #[.slice A0 l0.length c0] rfl ?_; (with_reducible refine (spec_l00From.calls _ _ l0 t212 t213 t214 w _ ?side1 ?side2 ?side3 A2.out).mono ?_); (case side1 => exact Hl.bb HB); (case side2 => exact HR0.out); (case side3 => exact HC0.out); rintro e w41 ⟨g215, rfl, hi, hb, hb2⟩; refine ⟨_, rfl, ?_⟩; replace HB := Hl.am (hb); have HI215 := Hl.am (hi); (try clear hb); (try clear hb2); (try clear hi)) | ((with_reducible refine gate_callee (f := 51) rfl ?_); refine Hl.gl (some 12) rfl rfl Tryz.func51 (by kernel_rfl) rfl #[.pointer (some ⟨g215, 0, none⟩)] rfl ?_; (with_reducible refine (spec_l24Draw.calls k g215 t212 t213 t214 t216 t219 t220 w _ ?side1 ?side2 A3.out).mono ?_); (case side1 => exact iS_ HI215); (case side2 => exact bI_ HB); rintro e w42 ⟨v217, rfl, ho0, hi, hb, hk⟩; refine ⟨_, rfl, ?_⟩; have HO218 := Hl.am (Kd.R_lower ho0 (below_size (bI_ HB))); replace HB := Hl.am (hb); replace HI215 := Hl.am (hi); (try clear hb); (try clear hk); (try clear hi); (try clear ho0)) | ((with_reducible refine gate_callee (f := 62) rfl ?_); refine Hl.gl (some 14) rfl rfl Tryz.func62 (by kernel_rfl) rfl #[.pointer (some ⟨g215, 0, none⟩)] rfl ?_; (with_reducible refine (spec_l24Each.calls g215 t212 t219 t220 t221 t222 t223 w _ ?side1 ?side2 A4.out).mono ?_); (case side1 => exact iS_ HI215); (case side2 => exact bI_ HB); rintro e w43 ⟨rfl, hi, hb, hk⟩; refine ⟨_, rfl, ?_⟩; replace HO218 := Hl.am (Kd.R_mono (Kd.R_keep (IsS92.apart (show IsS92 w _ g215 t212 t219 t220 from iS_ HI215) (Hl.rr HO218) (by decide)) hk (fun _ h => h.2)) (fun _ h => h.1)); replace HB := Hl.am (hb); replace HI215 := Hl.am (hi); (try clear hb); (try clear hk); (try clear hi); obtain ⟨Ao44, co44, eo44⟩ := Kd.R_slice HO218.out; subst eo44) | ((with_reducible refine gate_callee (f := 63) rfl ?_); refine Hl.gl (some 18) rfl rfl Tryz.func63 (by kernel_rfl) rfl #[.pointer (some ⟨g215, 0, none⟩), .int .i64 (t216.length : Int)] rfl ?_; (with_reducible refine (spec_l18Perm.calls k g215 t212 t222 t223 (t216.length : Int) t224 t227 t228 w _ ?side1 ?side2 A5.out).mono ?_); (case side1 => exact iS_ HI215); (case side2 => exact bI_ HB); rintro e w45 ⟨v225, rfl, ho0, hi, hb, hk⟩; refine ⟨_, rfl, ?_⟩; replace HO218 := Hl.am (Kd.R_mono (Kd.R_keep (IsS92.apart (show IsS92 w _ g215 t212 t222 t223 from iS_ HI215) (Hl.rr HO218) (by decide)) hk (fun _ h => h.2)) (fun _ h => h.1)); have HO226 := Hl.am (Kd.R_lower ho0 (below_size (bI_ HB))); replace HB := Hl.am (hb); replace HI215 := Hl.am (hi); (try clear hb); (try clear hk); (try clear hi); (try clear ho0)) | ((with_reducible refine gate_callee (f := 64) rfl ?_); refine Hl.gl (some 20) rfl rfl Tryz.func64 (by kernel_rfl) rfl #[.pointer (some ⟨g215, 0, none⟩), .int .i64 12] rfl ?_; (with_reducible refine (spec_l00Src_pick.calls g215 t212 t227 t228 12 t229 t230 t231 w _ ?side1 ?side2 A6.out).mono ?_); (case side1 => exact iS_ HI215); (case side2 => exact bI_ HB); rintro e w46 ⟨rfl, hi, hb, hk⟩; refine ⟨_, rfl, ?_⟩; replace HO218 := Hl.am (Kd.R_mono (Kd.R_keep (IsS92.apart (show IsS92 w _ g215 t212 t227 t228 from iS_ HI215) (Hl.rr HO218) (by decide)) hk (fun _ h => h.2)) (fun _ h => h.1)); replace HO226 := Hl.am (Kd.R_mono (Kd.R_keep (IsS92.apart (show IsS92 w _ g215 t212 t227 t228 from iS_ HI215) (Hl.rr HO226) (by decide)) hk (fun _ h => h.2)) (fun _ h => h.1)); replace HB := Hl.am (hb); replace HI215 := Hl.am (hi); (try clear hb); (try clear hk); (try clear hi)))
   go_ret3
   exact ⟨_, _, eW_, Hl.rr HO218, Hl.rr HO226, bI_ HB⟩

end Go.Proofs.YtkfpcbhapnhckaaGreatDoor.PFnOrdersDone
