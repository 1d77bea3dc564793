/- Both read an order's text alike: the order whose text it is, or none. No conditions beyond the statement's own. -/
import Derived.Test.YtipiikjeidiojaaDoorPl
import Derived.Test.YtipiikjeidiojaaDoorPFnExactReadOrderx0
import Derived.Test.YtipiikjeidiojaaDoorPFnExactReadOrderx1
import Derived.Test.YtipiikjeidiojaaDoorPFnExactReadOrderx2
import Derived.Test.YtipiikjeidiojaaDoorPFnExactReadOrderx3
import Derived.Test.YtipiikjeidiojaaDoorPFnExactReadOrderx4
import Derived.Test.YtipiikjeidiojaaDoorPFnExactReadOrderx5
import Derived.Test.YtipiikjeidiojaaDoorPFnExactReadOrderx6
namespace Go.Proofs.YtipiikjeidiojaaDoor.Pure
open Go.RowKit Go.Proofs.YtipiikjeidiojaaDoor.PFnExactReadOrder Go.Proofs.YtipiikjeidiojaaDoor.Pl Go.Proofs.YtipiikjeidiojaaDoorW.PrintWords Go.Proofs.YtipiikjeidiojaaDoorW.PrintLast
set_option linter.unusedVariables false
set_option linter.unusedSimpArgs false


/-- A number's decimal form. -/
def dec (n : Int) : ByteArray := ⟨(Lib.itoa n).toArray⟩
/-- The digits of u ahead of what is written already. -/
def dgs (u : Nat) (out : List Int) : List Int := (if u = 0 then [] else (Lib.decDigits u).map (fun b => (b.toNat : Int))) ++ out
theorem dgs_step {u : Nat} (h : u ≠ 0) (out : List Int) : dgs u out = dgs (u / 10) (((48 + u % 10 : Nat) : Int) :: out) := by
  unfold dgs
  rw [if_neg h, Lib.decDigits]
  by_cases h10 : u < 10
  · rw [dif_pos h10, if_pos (by omega)]
    have : u % 10 = u := Nat.mod_eq_of_lt h10
    simp [this]
    omega
  · rw [dif_neg h10, if_neg (by omega)]
    simp
    omega
def decFin (n : Int) (out : List Int) : ByteArray := if out.length = 0 then ⟨#[48]⟩ else if n < 0 then (⟨#[45]⟩ : ByteArray) ++ strOfNums out else strOfNums out
theorem l01Dec_l0 (n : Int) : ∀ (d : Nat) (m : Int) (out : List Int), m.natAbs < 10 ^ d → out.length + d ≤ 25 → -9223372036854775808 ≤ m → m ≤ 9223372036854775807 → Ev (fun k => spec_l01Dec.l0 k n out m) (decFin n (dgs m.natAbs out)) := by
  have h0 : ∀ out : List Int, out.length ≤ 25 → Ev (fun k => spec_l01Dec.l0 k n out 0) (decFin n (dgs 0 out)) := by
    intro out ho
    have e : dgs 0 out = out := rfl
    rw [e]
    unfold decFin
    refine Ev.succ ?_
    simp only [spec_l01Dec.l0]
    refine Ev.pos (by trivial) ?_
    by_cases hz : out.length = 0
    · rw [if_pos hz]; exact Ev.pos (by omega) (Ev.now _)
    · rw [if_neg hz]
      refine Ev.neg (by omega) ?_
      refine Ev.ite (fun hn => ?_) (fun hn => ?_)
      · rw [if_pos hn]; exact Ev.pos (by rw [strOfNums_size]; omega) (Ev.now _)
      · rw [if_neg hn]; exact Ev.now _
  intro d
  induction d with
  | zero =>
    intro m out h1 h2 _ _
    obtain rfl : m = 0 := by omega
    exact h0 out (by omega)
  | succ d ih =>
    intro m out h1 h2 h3 h4
    by_cases hm : m = 0
    · subst hm; exact h0 out (by omega)
    · have hu : m.natAbs ≠ 0 := by omega
      have hd : Int.tdiv m 10 = if m < 0 then -((m.natAbs / 10 : Nat) : Int) else ((m.natAbs / 10 : Nat) : Int) := by
        by_cases hn : m < 0
        · rw [if_pos hn]; obtain ⟨u, rfl⟩ : ∃ u : Nat, m = -(u : Int) := ⟨m.natAbs, by omega⟩
          rw [Int.neg_tdiv]; simp [Int.natAbs_neg, Int.ofNat_tdiv]
        · rw [if_neg hn]; obtain ⟨u, rfl⟩ : ∃ u : Nat, m = (u : Int) := ⟨m.natAbs, by omega⟩
          simp [Int.ofNat_tdiv]
      have hr : Int.tmod m 10 = if m < 0 then -((m.natAbs % 10 : Nat) : Int) else ((m.natAbs % 10 : Nat) : Int) := by
        have := Int.tmod_def m 10
        rw [this, hd]
        split <;> omega
      have hw : wrap64 (Int.tdiv m 10) = Int.tdiv m 10 := by rw [hd]; apply w64 <;> split <;> omega
      have hab : (Int.tdiv m 10).natAbs = m.natAbs / 10 := by rw [hd]; split <;> omega
      have hstep := ih (Int.tdiv m 10) (((48 + m.natAbs % 10 : Nat) : Int) :: out) (by rw [hab]; rw [Nat.pow_succ] at h1; omega) (by simp; omega) (by rw [hd]; split <;> omega) (by rw [hd]; split <;> omega)
      rw [hab, ← dgs_step hu] at hstep
      refine Ev.succ ?_
      simp only [spec_l01Dec.l0, hw, Option.bind_some]
      refine Ev.neg hm (Ev.ite (fun c => ?_) (fun c => ?_))
      · have e : (wrap64 (48 + (wrap64 (-(Int.tmod m 10))))) % 256 = ((48 + m.natAbs % 10 : Nat) : Int) := by
          rw [hr] at c ⊢
          split at c <;> rename_i hn
          · rw [if_pos hn, w64 (x := - -((m.natAbs % 10 : Nat) : Int)) (by omega) (by omega), w64 (by omega) (by omega)]; omega
          · omega
        rw [e]
        exact Ev.pos (by simp; omega) hstep
      · have e : (wrap64 (48 + (Int.tmod m 10))) % 256 = ((48 + m.natAbs % 10 : Nat) : Int) := by
          have : Int.tmod m 10 = ((m.natAbs % 10 : Nat) : Int) := by rw [hr] at c ⊢; split at c <;> omega
          rw [this, w64 (by omega) (by omega)]; omega
        rw [e]
        exact Ev.pos (by simp; omega) hstep
theorem decDigits_ne (u : Nat) : (Lib.decDigits u).length ≠ 0 := by
  rw [Lib.decDigits]; split <;> simp
theorem nums_str (l : List UInt8) : strOfNums (l.map (fun b => (b.toNat : Int))) = ⟨l.toArray⟩ := by
  unfold strOfNums
  congr 2
  rw [List.map_map]
  conv => rhs; rw [← List.map_id l]
  apply List.map_congr_left
  intro b _
  simp
theorem l01Dec_ev (n : Int) (h0 : -9223372036854775808 ≤ n) (h1 : n ≤ 9223372036854775807) : Ev (fun k => spec_l01Dec.f k n) (dec n) := by
  unfold spec_l01Dec.f
  have h := l01Dec_l0 n 20 n [] (by omega) (by simp) h0 h1
  have e : decFin n (dgs n.natAbs []) = dec n := by
    unfold decFin dgs dec Lib.itoa
    by_cases hz : n = 0
    · subst hz
      have : Lib.decDigits 0 = [48] := by rw [Lib.decDigits]; rfl
      simp [this]
    · rw [if_neg (show n.natAbs ≠ 0 by omega), List.append_nil, nums_str, List.length_map, if_neg (decDigits_ne _)]
      by_cases hn : n < 0
      · rw [if_pos hn, if_pos hn]
        apply ByteArray.ext
        simp
      · rw [if_neg hn, if_neg hn]
        rw [show n.natAbs = n.toNat by omega]
  rw [e] at h
  exact h
theorem dec_size (n : Int) (h0 : -9223372036854775808 ≤ n) (h1 : n ≤ 9223372036854775807) : (dec n).size ≤ 21 := by
  have hl : ∀ d u : Nat, u < 10 ^ (d + 1) → (Lib.decDigits u).length ≤ d + 1 := by
    intro d
    induction d with
    | zero => intro u h; rw [Lib.decDigits, dif_pos (by omega)]; simp
    | succ d ih =>
      intro u h
      rw [Lib.decDigits]
      split
      · simp
      · have := ih (u / 10) (by rw [Nat.pow_succ] at h; omega)
        simp
        omega
  unfold dec Lib.itoa
  split
  · have := hl 19 n.natAbs (by omega)
    simp [ByteArray.size]
    omega
  · have := hl 19 n.toNat (by omega)
    simp [ByteArray.size]
    omega

theorem l00In_eq (a b c : Int) : spec_l00In.f a b c = some (decide (b ≤ a ∧ a ≤ c)) := by
  unfold spec_l00In.f
  by_cases h : a ≥ b
  · rw [if_pos h]
    by_cases h2 : a ≤ c
    · rw [decide_eq_true h2, decide_eq_true ⟨h, h2⟩]
    · rw [decide_eq_false h2, decide_eq_false (fun x => h2 x.2)]
  · rw [if_neg h, decide_eq_false (fun x => h x.1)]

/-- A byte of a name. -/
def NmB (c : Int) : Prop := (97 ≤ c ∧ c ≤ 122) ∨ (48 ≤ c ∧ c ≤ 57) ∨ c = 45
/-- A name. -/
def IsNm (s : ByteArray) : Prop := (1 ≤ s.size ∧ s.size ≤ 12) ∧ (97 ≤ bt s 0 ∧ bt s 0 ≤ 122) ∧ ∀ i : Nat, i < s.size → NmB (bt s (i : Int))
theorem toList_nil (s : ByteArray) : s.toList = ([] : List UInt8) ↔ s.size = 0 := by
  rw [ByteArray.toList_eq]
  constructor
  · intro h
    have := congrArg List.length h
    rw [Array.length_toList] at this
    exact this
  · intro h
    exact List.length_eq_zero_iff.1 (by rw [Array.length_toList]; exact h)
theorem small_eq (a : Int) : spec_l01Small.f a = some (decide (97 ≤ a ∧ a ≤ 122)) := by
  unfold spec_l01Small.f
  by_cases h : a ≥ 97
  · rw [if_pos h]
    by_cases h2 : a ≤ 122
    · rw [decide_eq_true h2, decide_eq_true ⟨h, h2⟩]
    · rw [decide_eq_false h2, decide_eq_false (fun x => h2 x.2)]
  · rw [if_neg h, decide_eq_false (fun x => h x.1)]
theorem digit_eq (a : Int) : spec_l01Digit.f a = some (decide (48 ≤ a ∧ a ≤ 57)) := by
  unfold spec_l01Digit.f
  by_cases h : a ≥ 48
  · rw [if_pos h]
    by_cases h2 : a ≤ 57
    · rw [decide_eq_true h2, decide_eq_true ⟨h, h2⟩]
    · rw [decide_eq_false h2, decide_eq_false (fun x => h2 x.2)]
  · rw [if_neg h, decide_eq_false (fun x => h x.1)]
theorem specIsName_ev (s : ByteArray) : ∃ r, Ev (fun k => spec_IsName.f k s) r ∧ (r = true ↔ IsNm s) := by
  have j0t : Ev (fun k => spec_IsName.j0 k s true) false := by
    refine Ev.succ ?_
    simp only [spec_IsName.j0]
    exact Ev.pos (by first | rfl | trivial) (Ev.now _)
  by_cases h0 : s.size = 0
  · exact ⟨false, by unfold spec_IsName.f; exact Ev.pos ((toList_nil s).2 h0) j0t, ⟨fun h => (by cases h), fun h => by have := h.1; omega⟩⟩
  by_cases h12 : (s.size : Int) > 12
  · exact ⟨false, by unfold spec_IsName.f; exact Ev.neg (fun h => h0 ((toList_nil s).1 h)) (Ev.pos h12 j0t), ⟨fun h => (by cases h), fun h => by have := h.1; omega⟩⟩
  by_cases hf : 97 ≤ bt s 0 ∧ bt s 0 ≤ 122
  · have h1 : Ev (fun k => spec_IsName.l0 k s (s.size : Int)) true := by
      refine Ev.succ ?_
      simp only [spec_IsName.l0]
      exact Ev.neg (by omega) (Ev.now _)
    have h2 : ∀ i, i < s.size → ¬ NmB (bt s (i : Int)) → Ev (fun k => spec_IsName.l0 k s (i : Int)) false := by
      intro i hi hp
      unfold NmB at hp
      (refine Ev.succ ?_; simp only [spec_IsName.l0, small_eq, digit_eq, Option.bind_some, decide_eq_true_eq, Bool.not_eq_true', decide_eq_false_iff_not]; repeat' (first | exact Ev.now _ | refine Ev.ite (fun _ => ?_) (fun _ => ?_)))
      all_goals (exfalso; omega)
    have h3 : ∀ i, i < s.size → NmB (bt s (i : Int)) → ∀ r, Ev (fun k => spec_IsName.l0 k s ((i + 1 : Nat) : Int)) r → Ev (fun k => spec_IsName.l0 k s (i : Int)) r := by
      intro i hi hp r h
      have hs : wrap64 ((i : Int) + 1) = ((i + 1 : Nat) : Int) := w64_succ (by omega)
      unfold NmB at hp
      (refine Ev.succ ?_; simp only [spec_IsName.l0, small_eq, digit_eq, hs, Option.bind_some, decide_eq_true_eq, Bool.not_eq_true', decide_eq_false_iff_not]; repeat' (first | exact Ev.now _ | exact h | refine Ev.ite (fun _ => ?_) (fun _ => ?_)))
      all_goals (exfalso; omega)
    obtain ⟨r, hr, hiff⟩ := all_ev (L := fun k i => spec_IsName.l0 k s i) h1 h2 h3
    refine ⟨r, ?_, hiff.trans ⟨fun h => ⟨by omega, hf, h.1⟩, fun h => ⟨h.2.2, rfl⟩⟩⟩
    unfold spec_IsName.f
    refine Ev.neg (fun h => h0 ((toList_nil s).1 h)) (Ev.neg h12 (Ev.pos (by omega) (Ev.bnd0 (small_eq _) (Ev.succ ?_))))
    simp only [spec_IsName.j0]
    exact Ev.neg (by rw [decide_eq_true hf]; decide) hr
  · refine ⟨false, ?_, ⟨fun h => (by cases h), fun h => absurd h.2.1 hf⟩⟩
    unfold spec_IsName.f
    refine Ev.neg (fun h => h0 ((toList_nil s).1 h)) (Ev.neg h12 (Ev.pos (by omega) (Ev.bnd0 (small_eq _) ?_)))
    rw [decide_eq_false hf]
    exact j0t

/-- An order is right. -/
def GoodO (s : ByteArray) (a b c : Int) : Prop := IsNm s ∧ (1 ≤ a ∧ a ≤ 200) ∧ (1 ≤ b ∧ b ≤ 100) ∧ (0 ≤ c ∧ c ≤ 20000)
theorem l24One_ev (s : ByteArray) (a b c : Int) : ∃ r, Ev (fun k => spec_l24One.f k s a b c) r ∧ (r = true ↔ GoodO s a b c) := by
  unfold spec_l24One.f
  obtain ⟨n, hn, hi⟩ := specIsName_ev s
  by_cases h0 : n = true
  · by_cases h1 : 1 ≤ a ∧ a ≤ 200
    · by_cases h2 : 1 ≤ b ∧ b ≤ 100
      · exact ⟨decide (0 ≤ c ∧ c ≤ 20000), Ev.bnd hn (Ev.pos h0 (Ev.bnd0 (l00In_eq _ _ _) (Ev.pos (decide_eq_true h1) (Ev.bnd0 (l00In_eq _ _ _) (Ev.pos (decide_eq_true h2) (Ev.bnd0 (l00In_eq _ _ _) (Ev.now _))))))),
          ⟨fun h => ⟨hi.1 h0, h1, h2, of_decide_eq_true h⟩, fun h => decide_eq_true h.2.2.2⟩⟩
      · exact ⟨false, Ev.bnd hn (Ev.pos h0 (Ev.bnd0 (l00In_eq _ _ _) (Ev.pos (decide_eq_true h1) (Ev.bnd0 (l00In_eq _ _ _) (Ev.neg (by simpa using h2) (Ev.now _)))))), ⟨fun h => by simp at h, fun h => absurd h.2.2.1 h2⟩⟩
    · exact ⟨false, Ev.bnd hn (Ev.pos h0 (Ev.bnd0 (l00In_eq _ _ _) (Ev.neg (by simpa using h1) (Ev.now _)))), ⟨fun h => by simp at h, fun h => absurd h.2.1 h1⟩⟩
  · exact ⟨false, Ev.bnd hn (Ev.neg h0 (Ev.now _)), ⟨fun h => by simp at h, fun h => absurd (hi.2 h.1) h0⟩⟩

theorem Decimal_eq (n : Int) (h0 : -9223372036854775808 ≤ n) (h1 : n ≤ 9223372036854775807) : impl_Decimal.f n = some (dec n) := by
  unfold impl_Decimal.f strconv_FormatInt.f
  rw [if_pos ⟨h0, h1, rfl⟩]
  rfl

/-- The number that digits spell, on top of what has been read. -/
def dval (acc : Nat) (l : List UInt8) : Nat := l.foldl (fun a c => a * 10 + (c.toNat - 48)) acc
def IsDg (c : UInt8) : Prop := 48 ≤ c.toNat ∧ c.toNat ≤ 57
theorem dval_app (acc : Nat) (l r : List UInt8) : dval acc (l ++ r) = dval (dval acc l) r := by
  unfold dval
  rw [List.foldl_append]
theorem ofNat_dg (d : Nat) (h : d < 10) : (UInt8.ofNat (48 + d)).toNat = 48 + d := by
  simp
  omega
theorem decDigits_spec : ∀ (n u : Nat), u < n → (∀ c ∈ Lib.decDigits u, IsDg c) ∧ dval 0 (Lib.decDigits u) = u ∧ Lib.decDigits u ≠ [] := by
  intro n
  induction n with
  | zero => intro u h; omega
  | succ n ih =>
    intro u hu
    rw [Lib.decDigits]
    by_cases h : u < 10
    · rw [dif_pos h]
      refine ⟨fun c hc => ?_, ?_, by simp⟩
      · rw [List.mem_singleton.1 hc]
        unfold IsDg
        rw [ofNat_dg u h]
        omega
      · unfold dval
        simp only [List.foldl_cons, List.foldl_nil]
        rw [ofNat_dg u h]
        omega
    · rw [dif_neg h]
      obtain ⟨h1, h2, h3⟩ := ih (u / 10) (by omega)
      refine ⟨fun c hc => ?_, ?_, by simp⟩
      · rcases List.mem_append.1 hc with hc | hc
        · exact h1 c hc
        · rw [List.mem_singleton.1 hc]
          unfold IsDg
          rw [ofNat_dg _ (Nat.mod_lt _ (by omega))]
          omega
      · rw [dval_app, h2]
        unfold dval
        simp only [List.foldl_cons, List.foldl_nil]
        rw [ofNat_dg _ (Nat.mod_lt _ (by omega))]
        omega
theorem dval_mono : ∀ (l : List UInt8) (acc : Nat), acc ≤ dval acc l := by
  intro l
  induction l with
  | nil => intro acc; exact Nat.le_refl _
  | cons c l ih =>
    intro acc
    have := ih (acc * 10 + (c.toNat - 48))
    unfold dval at this ⊢
    simp only [List.foldl_cons]
    omega
theorem dval_lt : ∀ (l : List UInt8) (acc m : Nat), (∀ c ∈ l, IsDg c) → acc < 10 ^ m → dval acc l < 10 ^ (m + l.length) := by
  intro l
  induction l with
  | nil => intro acc m _ h; exact h
  | cons c l ih =>
    intro acc m hd h
    have hc := hd c (by simp)
    unfold IsDg at hc
    have := ih (acc * 10 + (c.toNat - 48)) (m + 1) (fun x hx => hd x (by simp [hx])) (by rw [Nat.pow_succ]; omega)
    rw [List.length_cons, show m + (l.length + 1) = m + 1 + l.length by omega]
    exact this
theorem parseUint_dval : ∀ (l : List UInt8) (acc : Nat), (∀ c ∈ l, IsDg c) → dval acc l < 1844674407370955162 → Lib.parseUint10 acc l = .ok (dval acc l) := by
  intro l
  induction l with
  | nil => intro acc _ _; rfl
  | cons c l ih =>
    intro acc hd hb
    have hc := hd c (by simp)
    unfold IsDg at hc
    have e : dval acc (c :: l) = dval (acc * 10 + (c.toNat - 48)) l := rfl
    have hm := dval_mono l (acc * 10 + (c.toNat - 48))
    rw [e] at hb ⊢
    unfold Lib.parseUint10
    rw [if_pos hc, if_neg (by omega), if_neg (by omega)]
    exact ih _ (fun x hx => hd x (by simp [hx])) hb
theorem parse_itoa (n : Int) (h0 : -1000000000000000000 < n) (h1 : n < 1000000000000000000) : Lib.parseIntB 64 (Lib.itoa n) = .ok n := by
  rw [Lib.parseIntB_64]
  unfold Lib.itoa
  by_cases hn : n < 0
  · rw [if_pos hn]
    obtain ⟨d1, d2, d3⟩ := decDigits_spec (n.natAbs + 1) n.natAbs (by omega)
    have hp := parseUint_dval (Lib.decDigits n.natAbs) 0 d1 (by rw [d2]; omega)
    rw [d2] at hp
    have hm : Lib.parseMag (Lib.decDigits n.natAbs) = .ok n.natAbs := by
      unfold Lib.parseMag
      rw [if_neg d3, hp]
    unfold Lib.atoiAll
    have e45 : (45 : UInt8).toNat = 45 := rfl
    simp only [e45, or_true, if_true, hm]
    rw [if_neg (by omega), if_neg (by omega)]
    congr 1
    omega
  · rw [if_neg hn]
    obtain ⟨d1, d2, d3⟩ := decDigits_spec (n.toNat + 1) n.toNat (by omega)
    have hp := parseUint_dval (Lib.decDigits n.toNat) 0 d1 (by rw [d2]; omega)
    rw [d2] at hp
    have hm : Lib.parseMag (Lib.decDigits n.toNat) = .ok n.toNat := by
      unfold Lib.parseMag
      rw [if_neg d3, hp]
    cases e : Lib.decDigits n.toNat with
    | nil => exact absurd e d3
    | cons c r =>
      have hc := d1 c (by rw [e]; simp)
      unfold IsDg at hc
      unfold Lib.atoiAll
      have hcc : ¬ (c.toNat = 43 ∨ c.toNat = 45) := by omega
      have hc5 : ¬ c.toNat = 45 := by omega
      rw [e] at hm
      dsimp only
      rw [if_neg hcc, hm]
      dsimp only
      rw [if_neg (by omega), if_neg (by omega), if_neg hc5]
      congr 1
      omega
/-- What is behind a minus sign. -/
def tailOf (s : ByteArray) : ByteArray := if s.data.toList.head? = some 45 then s.extract 1 s.size else s
def specNum (s : ByteArray) (r : Int × Bool) : Prop :=
  ∃ t : ByteArray, t = tailOf s ∧ ((¬ (1 ≤ t.size ∧ t.size ≤ 18) ∧ r = (0, false)) ∨ ((1 ≤ t.size ∧ t.size ≤ 18) ∧ (((∃ c ∈ t.data.toList, ¬ IsDg c) ∧ r = (0, false)) ∨
    ((∀ c ∈ t.data.toList, IsDg c) ∧ ∃ n : Int, (n = if t.size < s.size then -(dval 0 t.data.toList : Int) else (dval 0 t.data.toList : Int)) ∧ r = if (dec n).toList = s.toList then (n, true) else (0, false)))))
theorem bt_list (s : ByteArray) (i : Nat) (h : i < s.size) : bt s (i : Int) = ((s.data.toList[i]'(by rw [Array.length_toList]; exact h)).toNat : Int) := by
  rw [← bt_at s (i : Int) (by rw [Int.toNat_natCast]; exact h)]
  simp only [Int.toNat_natCast, Array.getElem_toList]
  rfl
theorem num_loop (s t : ByteArray) (ht : t.size ≤ 18) (hs : s.size ≤ 1048576) : ∃ r, Ev (fun k => spec_l01Number.l0 k s t 0 0) r ∧ (((∃ c ∈ t.data.toList, ¬ IsDg c) ∧ r = (0, false)) ∨
    ((∀ c ∈ t.data.toList, IsDg c) ∧ ∃ n : Int, (n = if t.size < s.size then -(dval 0 t.data.toList : Int) else (dval 0 t.data.toList : Int)) ∧ r = if (dec n).toList = s.toList then (n, true) else (0, false))) := by
  have hlen : t.data.toList.length = t.size := Array.length_toList
  have key := back (p := fun i => ∀ acc : Nat, acc < 10 ^ i → ∃ r, Ev (fun k => spec_l01Number.l0 k s t (acc : Nat) (i : Nat)) r ∧ (((∃ c ∈ t.data.toList.drop i, ¬ IsDg c) ∧ r = (0, false)) ∨
    ((∀ c ∈ t.data.toList.drop i, IsDg c) ∧ ∃ n : Int, (n = if t.size < s.size then -(dval acc (t.data.toList.drop i) : Int) else (dval acc (t.data.toList.drop i) : Int)) ∧ r = if (dec n).toList = s.toList then (n, true) else (0, false)))) (n := t.size) ?_ ?_ 0 (Nat.zero_le _) 0 (by simp)
  · simpa using key
  · intro acc hacc
    have h18 : (10 : Nat) ^ t.size ≤ 10 ^ 18 := Nat.pow_le_pow_right (by omega) ht
    have hb : acc < 1000000000000000000 := by omega
    have hd : t.data.toList.drop t.size = [] := by rw [← hlen]; exact List.drop_length
    rw [hd]
    have hv : dval acc [] = acc := rfl
    rw [hv]
    have hw : wrap64 (-(acc : Int)) = -(acc : Int) := w64 (by omega) (by omega)
    by_cases hc : t.size < s.size
    · refine ⟨if (dec (-(acc : Int))).toList = s.toList then (-(acc : Int), true) else (0, false), Ev.succ ?_, .inr ⟨by simp, _, rfl, by rw [if_pos hc]⟩⟩
      simp only [spec_l01Number.l0, hw]
      refine Ev.neg (by omega) (Ev.pos (by omega) (Ev.bnd (l01Dec_ev _ (by omega) (by omega)) ?_))
      refine Ev.ite (fun c => ?_) (fun c => ?_)
      · rw [if_pos c]; exact Ev.now _
      · rw [if_neg c]; exact Ev.now _
    · refine ⟨if (dec (acc : Int)).toList = s.toList then ((acc : Int), true) else (0, false), Ev.succ ?_, .inr ⟨by simp, _, rfl, by rw [if_neg hc]⟩⟩
      simp only [spec_l01Number.l0]
      refine Ev.neg (by omega) (Ev.neg (by omega) (Ev.bnd (l01Dec_ev _ (by omega) (by omega)) ?_))
      refine Ev.ite (fun c => ?_) (fun c => ?_)
      · rw [if_pos c]; exact Ev.now _
      · rw [if_neg c]; exact Ev.now _
  · intro i hi ih acc hacc
    have h18 : (10 : Nat) ^ (i + 1) ≤ 10 ^ 18 := Nat.pow_le_pow_right (by omega) (by omega)
    rw [Nat.pow_succ] at h18
    have hdr : t.data.toList.drop i = t.data.toList[i] :: t.data.toList.drop (i + 1) := List.drop_eq_getElem_cons (by omega)
    have hbt := bt_list t i hi
    by_cases hc : IsDg t.data.toList[i]
    · have hc' := hc
      unfold IsDg at hc'
      obtain ⟨r, hr, hx⟩ := ih (acc * 10 + (t.data.toList[i].toNat - 48)) (by rw [Nat.pow_succ]; omega)
      refine ⟨r, Ev.succ ?_, ?_⟩
      · have e1 : wrap64 (wrap64 (10 * (acc : Int)) + ((bt t (i : Int) - 48) % 256)) = ((acc * 10 + (t.data.toList[i].toNat - 48) : Nat) : Int) := by
          rw [hbt, w64 (x := 10 * (acc : Int)) (by omega) (by omega), w64 (by omega) (by omega)]
          omega
        simp only [spec_l01Number.l0, e1, w64_succ (show i < 9223372036854775807 by omega)]
        exact Ev.pos (by omega) (Ev.pos (by omega) (Ev.bnd0 (digit_eq _) (Ev.pos (decide_eq_true (by rw [hbt]; omega)) hr)))
      · rw [hdr]
        rcases hx with ⟨⟨c, h1, h2⟩, h3⟩ | ⟨h1, n, h2, h3⟩
        · exact .inl ⟨⟨c, by simp [h1], h2⟩, h3⟩
        · refine .inr ⟨fun c hm => ?_, n, h2, h3⟩
          rcases List.mem_cons.1 hm with rfl | hm
          · exact hc
          · exact h1 c hm
    · refine ⟨(0, false), Ev.succ ?_, .inl ⟨⟨t.data.toList[i], by rw [hdr]; simp, hc⟩, rfl⟩⟩
      unfold IsDg at hc
      simp only [spec_l01Number.l0]
      exact Ev.pos (by omega) (Ev.pos (by omega) (Ev.bnd0 (digit_eq _) (Ev.neg (by rw [decide_eq_true_eq, hbt]; omega) (Ev.now _))))
theorem num_ev (s : ByteArray) (hs : s.size ≤ 1048576) : ∃ r, Ev (fun k => spec_l01Number.f k s) r ∧ specNum s r := by
  have hlen : s.data.toList.length = s.size := Array.length_toList
  have fin : ∀ t : ByteArray, t = tailOf s → ∃ r, Ev (fun k => spec_l01Number.j1 k s t) r ∧ specNum s r := by
    intro t ht
    by_cases h1 : (t.size : Int) < 1
    · refine ⟨(0, false), Ev.succ ?_, t, ht, .inl ⟨by omega, rfl⟩⟩
      simp only [spec_l01Number.j1]
      refine Ev.pos h1 (Ev.succ ?_)
      simp only [spec_l01Number.j2]
      exact Ev.pos (by first | rfl | trivial) (Ev.now _)
    · by_cases h2 : (t.size : Int) > 18
      · refine ⟨(0, false), Ev.succ ?_, t, ht, .inl ⟨by omega, rfl⟩⟩
        simp only [spec_l01Number.j1]
        refine Ev.neg h1 (Ev.succ ?_)
        simp only [spec_l01Number.j2]
        exact Ev.pos (decide_eq_true h2) (Ev.now _)
      · obtain ⟨r, hr, hx⟩ := num_loop s t (by omega) hs
        refine ⟨r, Ev.succ ?_, t, ht, .inr ⟨by omega, hx⟩⟩
        simp only [spec_l01Number.j1]
        refine Ev.neg h1 (Ev.succ ?_)
        simp only [spec_l01Number.j2]
        exact Ev.neg (by simpa using h2) hr
  unfold spec_l01Number.f
  by_cases h0 : s.toList = ([] : List UInt8)
  · have hz := (toList_nil s).1 h0
    obtain ⟨r, hr, hx⟩ := fin s (by
      unfold tailOf
      rw [if_neg (by rw [List.length_eq_zero_iff.1 (hlen.trans hz)]; simp)])
    refine ⟨r, Ev.pos h0 (Ev.succ ?_), hx⟩
    simp only [spec_l01Number.j0]
    exact Ev.neg (by simp) hr
  · have hz : 0 < s.size := Nat.pos_of_ne_zero (fun h => h0 ((toList_nil s).2 h))
    have hhd : s.data.toList.head? = some (s.data.toList[0]'(by omega)) := by
      rw [List.head?_eq_getElem?, List.getElem?_eq_getElem]
    have hbt := bt_list s 0 hz
    by_cases hc : s.data.toList[0]'(by omega) = 45
    · obtain ⟨r, hr, hx⟩ := fin (s.extract 1 s.size) (by
        unfold tailOf
        rw [if_pos (by rw [hhd, hc])])
      refine ⟨r, Ev.neg h0 (Ev.pos (by omega) (Ev.succ ?_)), hx⟩
      have hb : (bt s 0 == 45) = true := by
        have : bt s ((0 : Nat) : Int) = 45 := by rw [hbt, hc]; rfl
        exact beq_iff_eq.2 this
      simp only [spec_l01Number.j0, hb]
      exact Ev.pos (by first | rfl | trivial) (Ev.pos (by omega) hr)
    · obtain ⟨r, hr, hx⟩ := fin s (by
        unfold tailOf
        rw [if_neg (by rw [hhd]; simpa using hc)])
      refine ⟨r, Ev.neg h0 (Ev.pos (by omega) (Ev.succ ?_)), hx⟩
      have hb : (bt s 0 == 45) = false := by
        rw [beq_eq_false_iff_ne]
        intro h
        apply hc
        apply UInt8.toNat_inj.1
        have h' : bt s ((0 : Nat) : Int) = 45 := h
        rw [hbt] at h'
        have : (45 : UInt8).toNat = 45 := rfl
        omega
      simp only [spec_l01Number.j0, hb]
      exact Ev.neg (by simp) hr
theorem dec_list (n : Int) : (dec n).data.toList = Lib.itoa n := by
  unfold dec
  simp
theorem tail_list (s : ByteArray) : (tailOf s).data.toList = Lib.trimPrefix s.data.toList [45] := by
  unfold tailOf Lib.trimPrefix Lib.hasPrefix
  cases e : s.data.toList with
  | nil => simp [e]
  | cons c r =>
    have hlen : s.data.toList.length = s.size := Array.length_toList
    rw [e, List.length_cons] at hlen
    by_cases hc : c = 45
    · subst hc
      have ht : List.take (s.size - 1) r = r := List.take_of_length_le (by omega)
      simp [e, List.isPrefixOf, ht]
    · have : ¬ (45 : UInt8) = c := fun h => hc h.symm
      simp [e, hc, List.isPrefixOf, this]
theorem trim_itoa (v : Int) : Lib.trimPrefix (Lib.itoa v) [45] = Lib.decDigits v.natAbs := by
  obtain ⟨d1, d2, d3⟩ := decDigits_spec (v.natAbs + 1) v.natAbs (by omega)
  unfold Lib.itoa Lib.trimPrefix Lib.hasPrefix
  by_cases hn : v < 0
  · rw [if_pos hn]
    simp [List.isPrefixOf]
  · rw [if_neg hn]
    have e : v.toNat = v.natAbs := by omega
    rw [e]
    cases h : Lib.decDigits v.natAbs with
    | nil => exact absurd h d3
    | cons c r =>
      have hc := d1 c (by rw [h]; simp)
      unfold IsDg at hc
      have : ¬ (45 : UInt8) = c := by
        intro h45
        subst h45
        have : (45 : UInt8).toNat = 45 := rfl
        omega
      simp [List.isPrefixOf, this]
/-- Both read a number alike. -/
theorem read_both (s : ByteArray) (hs : s.size ≤ 1048576) : ∃ r, Ev (fun k => spec_l01Number.f k s) r ∧ impl_ReadDecimal.f s = some r := by
  obtain ⟨r, hr, t, ht, hx⟩ := num_ev s hs
  refine ⟨r, hr, ?_⟩
  have htl : t.data.toList = Lib.trimPrefix s.data.toList [45] := by rw [ht]; exact tail_list s
  have htz : t.data.toList.length = t.size := Array.length_toList
  have hsz : s.data.toList.length = s.size := Array.length_toList
  unfold impl_ReadDecimal.f
  rw [if_pos hs]
  congr 1
  rw [ByteArray.toList_eq]
  by_cases himp : ∃ v, Lib.parseIntB 64 s.data.toList = .ok v ∧ Lib.itoa v = s.data.toList ∧ (Lib.trimPrefix s.data.toList [45]).length ≤ 18
  · obtain ⟨v, hp, hv, hl⟩ := himp
    rw [hp]
    show (if Lib.itoa v = s.data.toList ∧ (Lib.trimPrefix s.data.toList [45]).length ≤ 18 then (v, true) else (0, false)) = r
    rw [if_pos ⟨hv, hl⟩]
    have hT : t.data.toList = Lib.decDigits v.natAbs := by rw [htl, ← hv]; exact trim_itoa v
    obtain ⟨d1, d2, d3⟩ := decDigits_spec (v.natAbs + 1) v.natAbs (by omega)
    have hne : 1 ≤ t.size := by
      rw [← htz, hT]
      exact List.length_pos_iff.2 d3
    rw [← htl, htz] at hl
    rcases hx with ⟨hx, _⟩ | ⟨_, ⟨⟨c, h1, h2⟩, _⟩ | ⟨_, n, hn, hr2⟩⟩
    · exact absurd ⟨hne, hl⟩ hx
    · exact absurd (d1 c (by rw [← hT]; exact h1)) h2
    · have hnv : n = v := by
        rw [hn, hT, d2]
        have hL : s.data.toList = Lib.itoa v := hv.symm
        by_cases hneg : v < 0
        · have : s.size = t.size + 1 := by
            rw [← hsz, ← htz, hT, hL]
            unfold Lib.itoa
            rw [if_pos hneg]
            simp
          rw [if_pos (by omega)]
          omega
        · have : s.size = t.size := by
            rw [← hsz, ← htz, hT, hL]
            unfold Lib.itoa
            rw [if_neg hneg]
            congr 2
            omega
          rw [if_neg (by omega)]
          omega
      rw [hr2, hnv, ByteArray.toList_eq, ByteArray.toList_eq, dec_list, if_pos hv]
  · have hlhs : (match Lib.parseIntB 64 s.data.toList with
        | .ok v => if Lib.itoa v = s.data.toList ∧ (Lib.trimPrefix s.data.toList [45]).length ≤ 18 then (v, true) else (0, false)
        | _ => ((0 : Int), false)) = (0, false) := by
      cases hp : Lib.parseIntB 64 s.data.toList with
      | ok v =>
        show (if Lib.itoa v = s.data.toList ∧ (Lib.trimPrefix s.data.toList [45]).length ≤ 18 then (v, true) else (0, false)) = (0, false)
        rw [if_neg (fun h => himp ⟨v, hp, h.1, h.2⟩)]
      | range => rfl
      | _ => rfl
    refine hlhs.trans ?_
    rcases hx with ⟨_, hx⟩ | ⟨hsz2, ⟨_, hx⟩ | ⟨hd, n, hn, hr2⟩⟩
    · exact hx.symm
    · exact hx.symm
    · rw [hr2]
      by_cases hc : (dec n).toList = s.toList
      · exfalso
        rw [ByteArray.toList_eq, ByteArray.toList_eq, dec_list] at hc
        have hlt := dval_lt t.data.toList 0 0 hd (by decide)
        have h18 : (10 : Nat) ^ (0 + t.data.toList.length) ≤ 10 ^ 18 := Nat.pow_le_pow_right (by omega) (by omega)
        have hn0 : -1000000000000000000 < n ∧ n < 1000000000000000000 := by
          rw [hn]
          split <;> omega
        exact himp ⟨n, by rw [← hc]; exact parse_itoa n hn0.1 hn0.2, hc, by rw [← htl, htz]; exact hsz2.2⟩
      · rw [if_neg hc]

theorem within_eq (a b c : Int) : impl_within.f a b c = some (decide (b ≤ a ∧ a ≤ c)) := by
  unfold impl_within.f
  by_cases h : a ≥ b
  · rw [if_pos h]
    by_cases h2 : a ≤ c
    · rw [decide_eq_true h2, decide_eq_true ⟨h, h2⟩]
    · rw [decide_eq_false h2, decide_eq_false (fun x => h2 x.2)]
  · rw [if_neg h, decide_eq_false (fun x => h x.1)]

theorem set_has (c : UInt8) : strings_Trim.set.contains c = true ↔ NmB (c.toNat : Int) := by
  have key : ∀ n, n < 256 → (strings_Trim.set.contains (UInt8.ofNat n) = decide ((97 ≤ n ∧ n ≤ 122) ∨ (48 ≤ n ∧ n ≤ 57) ∨ n = 45)) := by decide +kernel
  have h := key c.toNat c.toNat_lt
  rw [UInt8.ofNat_toNat] at h
  rw [h, decide_eq_true_eq]
  unfold NmB
  omega
theorem dropW_nil (p : UInt8 → Bool) : ∀ l : List UInt8, l.dropWhile p = [] ↔ ∀ c ∈ l, p c = true := by
  intro l
  induction l with
  | nil => simp
  | cons a l ih =>
    rw [List.dropWhile_cons]
    by_cases h : p a = true
    · rw [if_pos h, ih]
      simp [h]
    · rw [if_neg h]
      simp [h]
theorem dropW_head (p : UInt8 → Bool) : ∀ l : List UInt8, ∀ a r, l.dropWhile p = a :: r → p a = false := by
  intro l
  induction l with
  | nil => intro a r h; simp at h
  | cons b l ih =>
    intro a r h
    rw [List.dropWhile_cons] at h
    by_cases hb : p b = true
    · rw [if_pos hb] at h
      exact ih a r h
    · rw [if_neg hb] at h
      injection h with h1 h2
      rw [← h1]
      simpa using hb
theorem trim_nil (cs l : List UInt8) : Hl.tlS cs (Hl.trS cs l) = [] ↔ ∀ c ∈ l, cs.contains c = true := by
  unfold Hl.tlS
  rw [dropW_nil]
  unfold Hl.trS
  constructor
  · intro h
    cases e : l.reverse.dropWhile (fun c => cs.contains c) with
    | nil =>
      rw [dropW_nil] at e
      intro c hc
      exact e c (List.mem_reverse.2 hc)
    | cons a r =>
      have h1 := dropW_head _ _ a r e
      have h2 := h a (by rw [e]; simp)
      rw [h1] at h2
      cases h2
  · intro h c hc
    have h1 := List.mem_reverse.1 hc
    have h2 : c ∈ l.reverse := (List.dropWhile_sublist _).mem h1
    exact h c (List.mem_reverse.1 h2)
theorem all_bytes (s : ByteArray) (p : Int → Prop) : (∀ c ∈ s.data.toList, p (c.toNat : Int)) ↔ ∀ i : Nat, i < s.size → p (bt s (i : Int)) := by
  have hb : ∀ (i : Nat) (hi : i < s.size), bt s (i : Int) = ((s[i]'hi).toNat : Int) := by
    intro i hi
    have := bt_at s (i : Int) (by rw [Int.toNat_natCast]; exact hi)
    rw [← this]
    simp only [Int.toNat_natCast]
  constructor
  · intro h i hi
    rw [hb i hi]
    exact h _ (Array.getElem_mem_toList (xs := s.data) hi)
  · intro h c hc
    obtain ⟨i, hi, rfl⟩ := List.mem_iff_getElem.1 hc
    have hi' : i < s.size := by rw [Array.length_toList] at hi; exact hi
    have := h i hi'
    rw [hb i hi'] at this
    exact this
theorem IsName_ev (s : ByteArray) : ∃ r, impl_IsName.f s = some r ∧ (r = true ↔ IsNm s) := by
  unfold impl_IsName.f
  by_cases h1 : (s.size : Int) < 1
  · exact ⟨false, by rw [if_pos h1], ⟨fun h => (by cases h), fun h => by have := h.1; omega⟩⟩
  by_cases h2 : (s.size : Int) > 12
  · exact ⟨false, by rw [if_neg h1, if_pos h2], ⟨fun h => (by cases h), fun h => by have := h.1; omega⟩⟩
  by_cases h3 : bt s 0 < 97
  · exact ⟨false, by rw [if_neg h1, if_neg h2, if_pos (by omega), if_pos h3], ⟨fun h => (by cases h), fun h => by have := h.2.1; omega⟩⟩
  by_cases h4 : bt s 0 > 122
  · exact ⟨false, by rw [if_neg h1, if_neg h2, if_pos (by omega), if_neg h3, if_pos h4], ⟨fun h => (by cases h), fun h => by have := h.2.1; omega⟩⟩
  refine ⟨_, by rw [if_neg h1, if_neg h2, if_pos (by omega), if_neg h3, if_neg h4]; unfold strings_Trim.f; rw [if_pos ⟨by omega, by omega, rfl⟩]; rfl, ?_⟩
  rw [beq_iff_eq, ByteArray.toList_eq]
  show Hl.tlS strings_Trim.set (Hl.trS strings_Trim.set s.data.toList) = [] ↔ IsNm s
  rw [trim_nil]
  have e : (∀ c ∈ s.data.toList, strings_Trim.set.contains c = true) ↔ ∀ c ∈ s.data.toList, NmB (c.toNat : Int) :=
    ⟨fun h c hc => (set_has c).1 (h c hc), fun h c hc => (set_has c).2 (h c hc)⟩
  rw [e, all_bytes]
  exact ⟨fun h => ⟨by omega, by omega, h⟩, fun h => h.2.2⟩

theorem isSize_eq (a : Int) : impl_isSize.f a = some (decide (1 ≤ a ∧ a ≤ 200)) := by
  unfold impl_isSize.f
  rw [within_eq]
  rfl

theorem isOrder_eq (s : ByteArray) (a b c : Int) : ∃ r, impl_isOrder.f s a b c = some r ∧ (r = true ↔ GoodO s a b c) := by
  unfold impl_isOrder.f impl_isSize.f
  obtain ⟨n, hn, hi⟩ := IsName_ev s
  simp only [hn, within_eq, Option.bind_some, decide_eq_true_eq]
  by_cases h0 : n = true
  · by_cases h1 : 1 ≤ a ∧ a ≤ 200
    · by_cases h2 : 1 ≤ b ∧ b ≤ 100
      · exact ⟨_, by rw [if_pos h0, if_pos h1, if_pos h2], ⟨fun h => ⟨hi.1 h0, h1, h2, of_decide_eq_true h⟩, fun h => decide_eq_true h.2.2.2⟩⟩
      · exact ⟨false, by rw [if_pos h0, if_pos h1, if_neg h2], ⟨fun h => by simp at h, fun h => absurd h.2.2.1 h2⟩⟩
    · exact ⟨false, by rw [if_pos h0, if_neg h1], ⟨fun h => by simp at h, fun h => absurd h.2.1 h1⟩⟩
  · exact ⟨false, by rw [if_neg h0], ⟨fun h => by simp at h, fun h => absurd (hi.2 h.1) h0⟩⟩

theorem decDigits_len : ∀ (m u : Nat), u < 10 ^ (m + 1) → (Lib.decDigits u).length ≤ m + 1 := by
  intro m
  induction m with
  | zero =>
    intro u h
    rw [Lib.decDigits, dif_pos (by simpa using h)]
    simp
  | succ m ih =>
    intro u h
    rw [Lib.decDigits]
    split
    · simp
    · have := ih (u / 10) (by rw [Nat.pow_succ] at h; omega)
      rw [List.length_append]
      simp
      omega
theorem read_dec (n : Int) (h0 : -1000000 ≤ n) (h1 : n ≤ 1000000) : impl_ReadDecimal.f (dec n) = some (n, true) := by
  have hz := dec_size n (by omega) (by omega)
  unfold impl_ReadDecimal.f
  rw [if_pos (by omega), ByteArray.toList_eq, dec_list, parse_itoa n (by omega) (by omega)]
  have hl := decDigits_len 6 n.natAbs (by omega)
  simp only [trim_itoa]
  rw [if_pos ⟨trivial, by omega⟩]
theorem dec_mem (n : Int) : ∀ x ∈ (dec n).data.toList, IsDg x ∨ x = 45 := by
  intro x hx
  rw [dec_list] at hx
  unfold Lib.itoa at hx
  split at hx
  · rcases List.mem_cons.1 hx with h | h
    · exact .inr h
    · exact .inl ((decDigits_spec _ _ (Nat.lt_succ_self _)).1 x h)
  · exact .inl ((decDigits_spec _ _ (Nat.lt_succ_self _)).1 x hx)
theorem ext_list (s : ByteArray) (a b : Nat) : (s.extract a b).data.toList = (s.data.toList.drop a).take (b - a) := by
  rw [Lib.extract_eq]
theorem ba_ext {a b : ByteArray} (h : a.data.toList = b.data.toList) : a = b := by
  apply ByteArray.ext
  exact Array.ext' h
theorem name_mem (w : ByteArray) (hw : IsNm w) : ∀ x ∈ w.data.toList, NmB (x.toNat : Int) := by
  intro x hx
  obtain ⟨i, hi, he⟩ := List.mem_iff_getElem.1 hx
  have hz : w.data.toList.length = w.size := Array.length_toList
  have hb := hw.2.2 i (by omega)
  rw [bt_list w i (by omega), he] at hb
  exact hb
theorem dec_not (n : Int) (c : UInt8) (hc : ¬ IsDg c ∧ c ≠ 45) : c ∉ (dec n).data.toList := fun h => (dec_mem n c h).elim hc.1 hc.2
theorem name_not (w : ByteArray) (hw : IsNm w) (c : UInt8) (hc : ¬ NmB (c.toNat : Int)) : c ∉ w.data.toList := fun h => hc (name_mem w hw c h)
theorem idx_app (c : UInt8) (t q : List UInt8) : ∀ p : List UInt8, c ∉ p → Lib.index (p ++ (c :: t ++ q)) (c :: t) = (p.length : Int) := by
  intro p
  induction p with
  | nil =>
    intro _
    have h : (c :: t).isPrefixOf (c :: (t ++ q)) = true := by
      rw [List.isPrefixOf_iff_prefix]
      exact ⟨q, rfl⟩
    show Lib.index (c :: (t ++ q)) (c :: t) = 0
    unfold Lib.index
    rw [if_pos h]
  | cons a p ih =>
    intro hp
    rw [List.mem_cons, not_or] at hp
    have h : (c :: t).isPrefixOf (a :: (p ++ (c :: t ++ q))) = false := by
      have e : (c == a) = false := beq_eq_false_iff_ne.2 hp.1
      simp [List.isPrefixOf, e]
    show Lib.index (a :: (p ++ (c :: t ++ q))) (c :: t) = _
    unfold Lib.index
    rw [h, ih hp.2]
    have e : ((p.length : Int) == -1) = false := by rw [beq_eq_false_iff_ne]; omega
    simp [e]
theorem cut_app (x sep p q : ByteArray) (c : UInt8) (t : List UInt8) (hs : sep.data.toList = c :: t) (hx : x.data.toList = p.data.toList ++ (c :: t ++ q.data.toList)) (hp : c ∉ p.data.toList) (hz : x.size < 4294967281) : strings_Cut.f x sep = some (p, q, true) := by
  unfold strings_Cut.f
  have e : Lib.cut x.data.toList sep.data.toList = (p.data.toList, q.data.toList, true) := by
    unfold Lib.cut
    rw [hs, hx, idx_app _ _ _ _ hp, if_pos (by omega), Int.toNat_natCast]
    have h1 : (p.data.toList ++ (c :: t ++ q.data.toList)).take p.data.toList.length = p.data.toList := List.take_left' rfl
    have h2 : (p.data.toList ++ (c :: t ++ q.data.toList)).drop (p.data.toList.length + (c :: t).length) = q.data.toList := by
      rw [← List.append_assoc]
      exact List.drop_left' (by simp)
    rw [h1, h2]
  rw [if_pos hz, e]
theorem cut_any (x sep : ByteArray) (hz : x.size ≤ 1048576) : ∃ p q b, strings_Cut.f x sep = some (p, q, b) ∧ p.size ≤ 1048576 ∧ q.size ≤ 1048576 := by
  unfold strings_Cut.f
  have hl : x.data.toList.length = x.size := Array.length_toList
  refine ⟨_, _, _, if_pos (by omega), ?_, ?_⟩
  · show (Lib.cut x.data.toList sep.data.toList).1.toArray.size ≤ _
    rw [List.size_toArray]
    unfold Lib.cut
    split
    · dsimp only
      rw [List.length_take]
      omega
    · dsimp only
      omega
  · show (Lib.cut x.data.toList sep.data.toList).2.1.toArray.size ≤ _
    rw [List.size_toArray]
    unfold Lib.cut
    split
    · dsimp only
      rw [List.length_drop]
      omega
    · exact Nat.zero_le _
/-- A text cut at each byte c. -/
def splitL (c : UInt8) : List UInt8 → List (List UInt8)
  | [] => [[]]
  | x :: l => if x = c then [] :: splitL c l else match splitL c l with
    | [] => []
    | h :: r => (x :: h) :: r
def joinL (c : UInt8) : List (List UInt8) → List UInt8
  | [] => []
  | [a] => a
  | a :: b :: r => a ++ c :: joinL c (b :: r)
theorem splitL_ne (c : UInt8) : ∀ l, splitL c l ≠ [] := by
  intro l
  induction l with
  | nil => simp [splitL]
  | cons x l ih =>
    unfold splitL
    split
    · simp
    · cases h : splitL c l with
      | nil => exact absurd h ih
      | cons => simp
theorem splitL_one (c : UInt8) : ∀ p, c ∉ p → splitL c p = [p] := by
  intro p
  induction p with
  | nil => intro _; rfl
  | cons x p ih =>
    intro hp
    rw [List.mem_cons, not_or] at hp
    unfold splitL
    rw [if_neg (fun e => hp.1 e.symm), ih hp.2]
theorem splitL_app (c : UInt8) (q : List UInt8) : ∀ p, c ∉ p → splitL c (p ++ c :: q) = p :: splitL c q := by
  intro p
  induction p with
  | nil => intro _; show splitL c (c :: q) = _; rw [splitL, if_pos rfl]
  | cons x p ih =>
    intro hp
    rw [List.mem_cons, not_or] at hp
    show splitL c (x :: (p ++ c :: q)) = _
    rw [splitL, if_neg (fun e => hp.1 e.symm), ih hp.2]
theorem splitL_join (c : UInt8) : ∀ l, joinL c (splitL c l) = l := by
  intro l
  induction l with
  | nil => rfl
  | cons x l ih =>
    unfold splitL
    split
    · rename_i e
      cases h : splitL c l with
      | nil => exact absurd h (splitL_ne c l)
      | cons a r =>
        rw [h] at ih
        show [] ++ c :: joinL c (a :: r) = _
        rw [ih, e]
        rfl
    · cases h : splitL c l with
      | nil => exact absurd h (splitL_ne c l)
      | cons a r =>
        rw [h] at ih
        cases r with
        | nil => show x :: a = _; rw [← ih]; rfl
        | cons b r => show (x :: a) ++ c :: joinL c (b :: r) = _; rw [← ih]; rfl
theorem splitL_len (c : UInt8) : ∀ l, ∀ y ∈ splitL c l, y.length ≤ l.length := by
  intro l
  induction l with
  | nil => intro y hy; simp [splitL] at hy; simp [hy]
  | cons x l ih =>
    unfold splitL
    split
    · intro y hy
      rcases List.mem_cons.1 hy with h | h
      · simp [h]
      · have := ih y h; simp; omega
    · cases h : splitL c l with
      | nil => intro y hy; simp at hy
      | cons a r =>
        rw [h] at ih
        intro y hy
        rcases List.mem_cons.1 hy with h | h
        · have := ih a (List.mem_cons_self ..)
          simp [h]
          exact this
        · have := ih y (List.mem_cons_of_mem _ h); simp; omega
def mkB (l : List UInt8) : ByteArray := ⟨l.toArray⟩
theorem mkB_list (l : List UInt8) : (mkB l).data.toList = l := by simp [mkB]
theorem mkB_size (l : List UInt8) : (mkB l).size = l.length := by show l.toArray.size = _; simp
theorem mkB_data (b : ByteArray) : mkB b.data.toList = b := ba_ext (mkB_list _)
/-- What the reference cuts a text into. -/
theorem l01Split_ev (x : ByteArray) (hx : x.size ≤ 1048576) (c : UInt8) (cn : Int) (hc : (c.toNat : Int) = cn) : Ev (fun k => spec_l01Split.f k x cn) ((splitL c x.data.toList).map mkB) := by
  have hl : x.data.toList.length = x.size := Array.length_toList
  have key : ∀ i, i ≤ x.size → ∀ (a : Nat) (out : List ByteArray), a ≤ i → c ∉ (x.data.toList.drop a).take (i - a) → out.length ≤ a → Ev (fun k => spec_l01Split.l0 k x cn out (a : Nat) (i : Nat)) (out ++ (splitL c (x.data.toList.drop a)).map mkB) := by
    refine back ?_ ?_
    · intro a out ha hn ho
      have e1 : (x.data.toList.drop a).take (x.size - a) = x.data.toList.drop a := List.take_of_length_le (by rw [List.length_drop]; omega)
      rw [e1] at hn
      rw [splitL_one c _ hn]
      have e2 : x.extract a x.size = mkB (x.data.toList.drop a) := ba_ext (by rw [ext_list, e1, mkB_list])
      refine Ev.succ ?_
      simp only [spec_l01Split.l0, Int.toNat_natCast, e2]
      exact Ev.neg (by omega) (Ev.pos (by omega) (Ev.pos (by omega) (Ev.pos (by omega) (Ev.now _))))
    · intro i hi ih a out ha hn ho
      have hw : wrap64 ((i : Int) + 1) = ((i + 1 : Nat) : Int) := w64_succ (by omega)
      have hsp : x.data.toList.drop a = (x.data.toList.drop a).take (i - a) ++ (x.data.toList[i]'(by omega)) :: x.data.toList.drop (i + 1) := by
        conv => lhs; rw [← List.take_append_drop (i - a) (x.data.toList.drop a)]
        rw [List.drop_drop, show a + (i - a) = i by omega, List.drop_eq_getElem_cons (show i < x.data.toList.length by omega)]
      refine Ev.succ ?_
      simp only [spec_l01Split.l0, Int.toNat_natCast, hw]
      refine Ev.pos (by omega) (Ev.pos (by omega) (Ev.ite (fun h => ?_) (fun h => ?_)))
      · have hb : (x.data.toList[i]'(by omega)) = c := by
          rw [bt_list x i (by omega), ← hc] at h
          exact UInt8.toNat_inj.1 (by omega)
        have e2 : x.extract a i = mkB ((x.data.toList.drop a).take (i - a)) := ba_ext (by rw [ext_list, mkB_list])
        have h2 := ih (i + 1) (out ++ [mkB ((x.data.toList.drop a).take (i - a))]) (Nat.le_refl _) (by rw [Nat.sub_self, List.take_zero]; simp) (by rw [List.length_append]; simp; omega)
        rw [e2]
        have e4 : splitL c (x.data.toList.drop a) = (x.data.toList.drop a).take (i - a) :: splitL c (x.data.toList.drop (i + 1)) := by
          conv => lhs; rw [hsp, hb]
          exact splitL_app c _ _ hn
        rw [e4, List.map_cons]
        rw [List.append_assoc] at h2
        exact Ev.pos (by omega) (Ev.pos (by omega) (Ev.pos (by omega) (Ev.pos (by omega) h2)))
      · have hb : c ≠ (x.data.toList[i]'(by omega)) := by
          intro e
          apply h
          rw [bt_list x i (by omega), ← hc, e]
        refine ih a out (by omega) ?_ ho
        have e3 : (x.data.toList.drop a).take (i + 1 - a) = (x.data.toList.drop a).take (i - a) ++ [x.data.toList[i]'(by omega)] := by
          rw [show i + 1 - a = (i - a) + 1 by omega, List.take_succ_eq_append_getElem (by rw [List.length_drop]; omega)]
          congr 1
          rw [List.getElem_drop]
          congr 2
          omega
        rw [e3, List.mem_append, not_or]
        exact ⟨hn, by simpa using hb⟩
  have := key 0 (Nat.zero_le _) 0 [] (Nat.le_refl _) (by simp) (Nat.le_refl _)
  rw [List.drop_zero] at this
  exact this

/-- An order's text. -/
def otext (n : ByteArray) (a b c : Int) : ByteArray := ((((((n ++ (⟨#[58, 32]⟩ : ByteArray)) ++ dec b) ++ (⟨#[120]⟩ : ByteArray)) ++ dec a) ++ (⟨#[32, 98, 121, 32]⟩ : ByteArray)) ++ dec c)
theorem otext_list (n : ByteArray) (a b c : Int) : (otext n a b c).data.toList = n.data.toList ++ (58 :: [32] ++ ((dec b).data.toList ++ (120 :: [] ++ ((dec a).data.toList ++ (32 :: [98, 121, 32] ++ (dec c).data.toList))))) := by
  unfold otext
  simp
theorem orderText_eq (n : ByteArray) (a b c : Int) (hn : n.size ≤ 1048576) (ha : -9223372036854775808 ≤ a ∧ a ≤ 9223372036854775807) (hb : -9223372036854775808 ≤ b ∧ b ≤ 9223372036854775807) (hc : -9223372036854775808 ≤ c ∧ c ≤ 9223372036854775807) : impl_OrderText.f n a b c = some (otext n a b c) ∨ (impl_OrderText.f n a b c = some ⟨#[]⟩ ∧ ¬ GoodO n a b c) := by
  obtain ⟨o, ho, hoi⟩ := isOrder_eq n a b c
  have sa := dec_size _ ha.1 ha.2
  have sb := dec_size _ hb.1 hb.2
  have sc := dec_size _ hc.1 hc.2
  unfold impl_OrderText.f
  simp only [ho, Decimal_eq _ hb.1 hb.2, Decimal_eq _ ha.1 ha.2, Decimal_eq _ hc.1 hc.2, Option.bind_some]
  by_cases h : o = true
  · left
    rw [if_pos h]
    repeat' rw [if_pos (by (try simp only [ByteArray.size_append, show (⟨#[58, 32]⟩ : ByteArray).size = 2 from rfl, show (⟨#[120]⟩ : ByteArray).size = 1 from rfl, show (⟨#[32, 98, 121, 32]⟩ : ByteArray).size = 4 from rfl]); omega)]
    rfl
  · right
    exact ⟨by rw [if_neg h], fun g => h (hoi.2 g)⟩
/-- The text of a right order is read. -/
theorem read_good (n : ByteArray) (a b c : Int) (g : GoodO n a b c) (hz : (otext n a b c).size ≤ 1048576) : impl_ReadOrder.f (otext n a b c) = some (n, a, b, c, true) := by
  obtain ⟨gn, ga, gb, gc⟩ := g
  have hns := gn.1
  have sa := dec_size a (by omega) (by omega)
  have sb := dec_size b (by omega) (by omega)
  have sc := dec_size c (by omega) (by omega)
  have n58 : (58 : UInt8) ∉ n.data.toList := name_not n gn _ (by unfold NmB; decide)
  have d32 : ∀ v : Int, (32 : UInt8) ∉ (dec v).data.toList := fun v => dec_not v _ (by unfold IsDg; decide)
  have d120 : ∀ v : Int, (120 : UInt8) ∉ (dec v).data.toList := fun v => dec_not v _ (by unfold IsDg; decide)
  have c1 := cut_app (otext n a b c) ⟨#[58, 32]⟩ n ((dec b ++ ((⟨#[120]⟩ : ByteArray) ++ dec a)) ++ ((⟨#[32, 98, 121, 32]⟩ : ByteArray) ++ dec c)) 58 [32] rfl (by rw [otext_list]; simp) n58 (by omega)
  have c2 := cut_app ((dec b ++ ((⟨#[120]⟩ : ByteArray) ++ dec a)) ++ ((⟨#[32, 98, 121, 32]⟩ : ByteArray) ++ dec c)) ⟨#[32, 98, 121, 32]⟩ (dec b ++ ((⟨#[120]⟩ : ByteArray) ++ dec a)) (dec c) 32 [98, 121, 32] rfl (by simp) (by
    have e : (dec b ++ ((⟨#[120]⟩ : ByteArray) ++ dec a)).data.toList = (dec b).data.toList ++ (120 :: (dec a).data.toList) := by simp
    rw [e]
    simp only [List.mem_append, List.mem_cons, not_or]
    exact ⟨d32 b, by decide, d32 a⟩) (by
    simp only [ByteArray.size_append, show (⟨#[120]⟩ : ByteArray).size = 1 from rfl, show (⟨#[32, 98, 121, 32]⟩ : ByteArray).size = 4 from rfl]
    omega)
  have c3 := cut_app (dec b ++ ((⟨#[120]⟩ : ByteArray) ++ dec a)) ⟨#[120]⟩ (dec b) (dec a) 120 [] rfl (by simp) (d120 b) (by
    simp only [ByteArray.size_append, show (⟨#[120]⟩ : ByteArray).size = 1 from rfl]
    omega)
  obtain ⟨o, ho, hoi⟩ := isOrder_eq n a b c
  obtain rfl : o = true := hoi.2 ⟨gn, ga, gb, gc⟩
  unfold impl_ReadOrder.f
  simp only [c1, c2, c3, read_dec a (by omega) (by omega), read_dec b (by omega) (by omega), read_dec c (by omega) (by omega), ho, Option.bind_some, if_true]
  rcases orderText_eq n a b c (by omega) (by omega) (by omega) (by omega) with h | h
  · rw [h]
    simp
  · exact absurd ⟨gn, ga, gb, gc⟩ h.2
theorem good_bd {n : ByteArray} {a b c : Int} (g : GoodO n a b c) : n.size ≤ 1048576 ∧ (-9223372036854775808 ≤ a ∧ a ≤ 9223372036854775807) ∧ (-9223372036854775808 ≤ b ∧ b ≤ 9223372036854775807) ∧ (-9223372036854775808 ≤ c ∧ c ≤ 9223372036854775807) := by
  obtain ⟨gn, ga, gb, gc⟩ := g
  have := gn.1
  omega
/-- What is read is an order of that text, or none. -/
theorem read_some (s : ByteArray) (hz : s.size ≤ 1048576) : ∃ r, impl_ReadOrder.f s = some r ∧ (r = ((⟨#[]⟩ : ByteArray), 0, 0, 0, false) ∨ ∃ n a b c, r = (n, a, b, c, true) ∧ GoodO n a b c ∧ otext n a b c = s) := by
  obtain ⟨p, q, b1, e1, z1, z2⟩ := cut_any s ⟨#[58, 32]⟩ hz
  obtain ⟨p2, q2, b2, e2, z3, z4⟩ := cut_any q ⟨#[32, 98, 121, 32]⟩ z2
  obtain ⟨p3, q3, b3, e3, z5, z6⟩ := cut_any p2 ⟨#[120]⟩ z3
  obtain ⟨⟨v1, o1⟩, _, r1⟩ := read_both p3 z5
  obtain ⟨⟨v2, o2⟩, _, r2⟩ := read_both q3 z6
  obtain ⟨⟨v3, o3⟩, _, r3⟩ := read_both q2 z4
  obtain ⟨o, ho, hoi⟩ := isOrder_eq p v2 v1 v3
  unfold impl_ReadOrder.f
  simp only [e1, e2, e3, r1, r2, r3, ho, Option.bind_some]
  cases o1 with
  | false => exact ⟨_, by simp, .inl rfl⟩
  | true =>
    cases o2 with
    | false => exact ⟨_, by simp, .inl rfl⟩
    | true =>
      cases o3 with
      | false => exact ⟨_, by simp, .inl rfl⟩
      | true =>
        cases o with
        | false => exact ⟨_, by simp, .inl rfl⟩
        | true =>
          have g := hoi.1 rfl
          have gb := good_bd g
          rcases orderText_eq p v2 v1 v3 gb.1 gb.2.1 gb.2.2.1 gb.2.2.2 with h | h
          · by_cases h2 : (otext p v2 v1 v3).toList = s.toList
            · refine ⟨(p, v2, v1, v3, true), by simp [h, h2], .inr ⟨p, v2, v1, v3, rfl, g, ?_⟩⟩
              rw [ByteArray.toList_eq, ByteArray.toList_eq] at h2
              exact ba_ext h2
            · exact ⟨_, by simp [h, h2], .inl rfl⟩
          · exact absurd g h.2
theorem num_true (s : ByteArray) (v : Int) (hs : s.size ≤ 1048576) (h : Ev (fun k => spec_l01Number.f k s) (v, true)) : s = dec v := by
  obtain ⟨r, hr, t, _, hx⟩ := num_ev s hs
  obtain rfl := Ev.uniq hr h
  rcases hx with ⟨_, h⟩ | ⟨_, ⟨_, h⟩ | ⟨_, n, _, h⟩⟩
  · exact absurd (congrArg Prod.snd h) (by simp)
  · exact absurd (congrArg Prod.snd h) (by simp)
  · by_cases e : (dec n).toList = s.toList
    · rw [if_pos e] at h
      obtain rfl := congrArg Prod.fst h
      rw [ByteArray.toList_eq, ByteArray.toList_eq] at e
      exact (ba_ext e).symm
    · rw [if_neg e] at h
      exact absurd (congrArg Prod.snd h) (by simp)
theorem four {α : Type} (l : List α) (h : (l.length : Int) = 4) : ∃ a b c d, l = [a, b, c, d] := by
  match l, h with
  | [], h => simp at h
  | [_], h => simp at h
  | [_, _], h => simp at h
  | [_, _, _], h => simp at h
  | [a, b, c, d], _ => exact ⟨a, b, c, d, rfl⟩
  | _ :: _ :: _ :: _ :: _ :: r, h => simp at h; omega
theorem twoL {α : Type} (l : List α) (h : (l.length : Int) = 2) : ∃ a b, l = [a, b] := by
  match l, h with
  | [], h => simp at h
  | [_], h => simp at h
  | [a, b], _ => exact ⟨a, b, rfl⟩
  | _ :: _ :: _ :: r, h => simp at h; omega
theorem map_split (x : ByteArray) (c : UInt8) (w : List ByteArray) (h : (splitL c x.data.toList).map mkB = w) : joinL c (w.map (fun b => b.data.toList)) = x.data.toList ∧ ∀ y ∈ w, y.size ≤ x.size := by
  subst h
  constructor
  · rw [List.map_map]
    have : ((fun b : ByteArray => b.data.toList) ∘ mkB) = id := by funext l; exact mkB_list l
    rw [this, List.map_id, splitL_join]
  · intro y hy
    obtain ⟨z, hz, rfl⟩ := List.mem_map.1 hy
    rw [mkB_size]
    exact splitL_len c _ z hz
theorem last_col (p : ByteArray) (h0 : p.size ≠ 0) (h : bt p ((p.size - 1 : Nat) : Int) = 58) : p.data.toList = (p.extract 0 (p.size - 1)).data.toList ++ [58] := by
  have hl : p.data.toList.length = p.size := Array.length_toList
  rw [bt_list p (p.size - 1) (by omega)] at h
  have e : p.data.toList[p.size - 1]'(by omega) = 58 := UInt8.toNat_inj.1 (by rw [show (58 : UInt8).toNat = 58 from rfl]; omega)
  rw [ext_list, List.drop_zero, Nat.sub_zero]
  conv => lhs; rw [← List.take_append_drop (p.size - 1) p.data.toList]
  rw [List.drop_eq_getElem_cons (by omega), e, List.drop_eq_nil_of_le (by omega)]
/-- What the reference reads. -/
theorem spec_read (s : ByteArray) (hz : s.size ≤ 1048576) : ∃ r, Ev (fun k => spec_ReadOrder.f k s) r ∧ (r = ((⟨#[]⟩ : ByteArray), 0, 0, 0, false) ∨ ∃ n a b c, r = (n, a, b, c, true) ∧ GoodO n a b c ∧ otext n a b c = s) := by
  have hsp := l01Split_ev s hz 32 32 rfl
  generalize hw : (splitL 32 s.data.toList).map mkB = w at hsp
  obtain ⟨hj, hy⟩ := map_split s 32 w hw
  unfold spec_ReadOrder.f
  have jt : ∀ w, Ev (fun k => spec_ReadOrder.j0 k w true) ((⟨#[]⟩ : ByteArray), (0 : Int), (0 : Int), (0 : Int), false) := fun w => Ev.succ (by
    simp only [spec_ReadOrder.j0]
    exact Ev.pos (by first | rfl | trivial) (Ev.now _))
  by_cases h4 : (w.length : Int) = 4
  case neg => exact ⟨_, Ev.bnd hsp (Ev.neg h4 (jt w)), .inl rfl⟩
  obtain ⟨p0, p1, p2, p3, rfl⟩ := four w h4
  have hl4 : (([p0, p1, p2, p3] : List ByteArray).length : Int) = 4 := rfl
  have g0 : rdOf ByteArray.empty [p0, p1, p2, p3] 0 = p0 := rfl
  have g1 : rdOf ByteArray.empty [p0, p1, p2, p3] 1 = p1 := rfl
  have g2 : rdOf ByteArray.empty [p0, p1, p2, p3] 2 = p2 := rfl
  have g3 : rdOf ByteArray.empty [p0, p1, p2, p3] 3 = p3 := rfl
  have y0 := hy p0 (by simp)
  have y1 := hy p1 (by simp)
  have y3 := hy p3 (by simp)
  by_cases h2 : p2.toList = ([98, 121] : List UInt8)
  case neg => exact ⟨_, Ev.bnd hsp (Ev.pos hl4 (Ev.pos (by first | decide | simp) (Ev.neg h2 (jt _)))), .inl rfl⟩
  by_cases hp : p0.toList = ([] : List UInt8)
  · exact ⟨_, Ev.bnd hsp (Ev.pos hl4 (Ev.pos (by first | decide | simp) (Ev.pos h2 (Ev.pos (by first | decide | simp) (Ev.pos hp (jt _)))))), .inl rfl⟩
  have hp0 : p0.size ≠ 0 := fun h => hp ((toList_nil p0).2 h)
  have hws : wrap64 ((p0.size : Int) - 1) = ((p0.size - 1 : Nat) : Int) := by rw [w64 (by omega) (by omega)]; omega
  obtain ⟨r, hr, hrr⟩ : ∃ r, Ev (fun k => spec_ReadOrder.j0 k [p0, p1, p2, p3] ((bt p0 ((p0.size - 1 : Nat) : Int)) != 58)) r ∧ (r = ((⟨#[]⟩ : ByteArray), 0, 0, 0, false) ∨ ∃ n a b c, r = (n, a, b, c, true) ∧ GoodO n a b c ∧ otext n a b c = s) := by
    by_cases h58 : bt p0 ((p0.size - 1 : Nat) : Int) = 58
    case neg =>
      have e : ((bt p0 ((p0.size - 1 : Nat) : Int)) != 58) = true := by simp [h58]
      rw [e]
      exact ⟨_, jt _, .inl rfl⟩
    have e : ((bt p0 ((p0.size - 1 : Nat) : Int)) != 58) = false := by simp [h58]
    rw [e]
    have hs2 := l01Split_ev p1 (by omega) 120 120 rfl
    generalize hv : (splitL 120 p1.data.toList).map mkB = v at hs2
    obtain ⟨hj2, hy2⟩ := map_split p1 120 v hv
    by_cases h5 : (v.length : Int) = 2
    case neg =>
      refine ⟨_, Ev.succ ?_, .inl rfl⟩
      simp only [spec_ReadOrder.j0, hl4, g1]
      exact Ev.neg (by simp) (Ev.pos (by decide) (Ev.bnd hs2 (Ev.neg h5 (Ev.now _))))
    obtain ⟨q0, q1, rfl⟩ := twoL v h5
    have hl2 : (([q0, q1] : List ByteArray).length : Int) = 2 := rfl
    have k0 : rdOf ByteArray.empty [q0, q1] 0 = q0 := rfl
    have k1 : rdOf ByteArray.empty [q0, q1] 1 = q1 := rfl
    have z0 := hy2 q0 (by simp)
    have z1 := hy2 q1 (by simp)
    obtain ⟨⟨v1, o1⟩, n1, _⟩ := read_both q0 (by omega)
    obtain ⟨⟨v2, o2⟩, n2, _⟩ := read_both q1 (by omega)
    obtain ⟨⟨v3, o3⟩, n3, _⟩ := read_both p3 (by omega)
    obtain ⟨o, ho, hoi⟩ := l24One_ev (p0.extract 0 (p0.size - 1)) v2 v1 v3
    have fin : ∀ r, Ev (fun k => if o1 = true then (if o2 = true then (if o3 = true then ((spec_l24One.f k (p0.extract 0 (p0.size - 1)) v2 v1 v3).bind fun t159 => (if t159 = true then (some (p0.extract 0 (p0.size - 1), v2, v1, v3, true)) else (some ((⟨#[]⟩ : ByteArray), 0, 0, 0, false)))) else (some ((⟨#[]⟩ : ByteArray), 0, 0, 0, false))) else (some ((⟨#[]⟩ : ByteArray), 0, 0, 0, false))) else (some ((⟨#[]⟩ : ByteArray), 0, 0, 0, false))) r → Ev (fun k => spec_ReadOrder.j0 k [p0, p1, p2, p3] false) r := by
      intro r hr
      refine Ev.succ ?_
      simp only [spec_ReadOrder.j0, hl4, g0, g1, g3, hws, Int.toNat_natCast]
      refine Ev.neg (by simp) (Ev.pos (by decide) (Ev.bnd hs2 ?_))
      simp only [hl2, k0, k1]
      exact Ev.pos (by first | rfl | trivial) (Ev.pos (by decide) (Ev.bnd n1 (Ev.pos (by decide) (Ev.bnd n2 (Ev.pos (by decide) (Ev.bnd n3 (Ev.pos (by decide) (Ev.pos (by omega) (Ev.pos (by omega) hr)))))))))
    cases o1 with
    | false => exact ⟨_, fin _ (Ev.neg (by simp) (Ev.now _)), .inl rfl⟩
    | true =>
      cases o2 with
      | false => exact ⟨_, fin _ (Ev.pos rfl (Ev.neg (by simp) (Ev.now _))), .inl rfl⟩
      | true =>
        cases o3 with
        | false => exact ⟨_, fin _ (Ev.pos rfl (Ev.pos rfl (Ev.neg (by simp) (Ev.now _)))), .inl rfl⟩
        | true =>
          cases o with
          | false => exact ⟨_, fin _ (Ev.pos rfl (Ev.pos rfl (Ev.pos rfl (Ev.bnd ho (Ev.neg (by simp) (Ev.now _)))))), .inl rfl⟩
          | true =>
            refine ⟨_, fin _ (Ev.pos rfl (Ev.pos rfl (Ev.pos rfl (Ev.bnd ho (Ev.pos rfl (Ev.now _)))))), .inr ⟨_, _, _, _, rfl, hoi.1 rfl, ?_⟩⟩
            apply ba_ext
            have a1 := num_true q0 v1 (by omega) n1
            have a2 := num_true q1 v2 (by omega) n2
            have a3 := num_true p3 v3 (by omega) n3
            have a0 := last_col p0 hp0 h58
            rw [ByteArray.toList_eq] at h2
            rw [otext_list, ← a1, ← a2, ← a3, ← hj]
            show _ = p0.data.toList ++ 32 :: (p1.data.toList ++ 32 :: (p2.data.toList ++ 32 :: p3.data.toList))
            rw [← hj2, a0, h2]
            show _ = ((p0.extract 0 (p0.size - 1)).data.toList ++ [58]) ++ 32 :: ((q0.data.toList ++ 120 :: q1.data.toList) ++ 32 :: ([98, 121] ++ 32 :: p3.data.toList))
            simp
  exact ⟨r, Ev.bnd hsp (Ev.pos hl4 (Ev.pos (by first | decide | simp) (Ev.pos h2 (Ev.pos (by first | decide | simp) (Ev.neg hp (Ev.pos (by rw [g0, hws]; omega) (Ev.pos (by rw [g0, hws]; omega) (by simp only [g0, hws]; exact hr)))))))), hrr⟩
/-- The reference reads the text of a right order. -/
theorem spec_good (n : ByteArray) (a b c : Int) (g : GoodO n a b c) (hz : (otext n a b c).size ≤ 1048576) (r : ByteArray × Int × Int × Int × Bool) (hr : Ev (fun k => spec_ReadOrder.f k (otext n a b c)) r) : r.2.2.2.2 = true := by
  obtain ⟨gn, ga, gb, gc⟩ := g
  have hns := gn.1
  have n32 : (32 : UInt8) ∉ n.data.toList := name_not n gn _ (by unfold NmB; decide)
  have d32 : ∀ v : Int, (32 : UInt8) ∉ (dec v).data.toList := fun v => dec_not v _ (by unfold IsDg; decide)
  have d120 : ∀ v : Int, (120 : UInt8) ∉ (dec v).data.toList := fun v => dec_not v _ (by unfold IsDg; decide)
  have hsp := l01Split_ev (otext n a b c) hz 32 32 rfl
  have e1 : (otext n a b c).data.toList = (n.data.toList ++ [58]) ++ 32 :: (((dec b).data.toList ++ 120 :: (dec a).data.toList) ++ 32 :: ([98, 121] ++ 32 :: (dec c).data.toList)) := by rw [otext_list]; simp
  have e2 : (splitL 32 (otext n a b c).data.toList).map mkB = [n ++ (⟨#[58]⟩ : ByteArray), dec b ++ ((⟨#[120]⟩ : ByteArray) ++ dec a), (⟨#[98, 121]⟩ : ByteArray), dec c] := by
    rw [e1, splitL_app, splitL_app, splitL_app, splitL_one _ _ (d32 c)]
    · simp only [List.map_cons, List.map_nil]
      refine congr (congrArg List.cons (ba_ext ?_)) (congr (congrArg List.cons (ba_ext ?_)) (congr (congrArg List.cons (ba_ext ?_)) (congrArg (fun x => [x]) (ba_ext ?_))))
      all_goals (rw [mkB_list]; try simp)
    · decide
    · simp only [List.mem_append, List.mem_cons, not_or]
      exact ⟨d32 b, by decide, d32 a⟩
    · simp only [List.mem_append, List.mem_cons, not_or]
      exact ⟨n32, by decide, by simp⟩
  rw [e2] at hsp
  have x1 : (n ++ (⟨#[58]⟩ : ByteArray)).size = n.size + 1 := ByteArray.size_append
  have x2 : (n ++ (⟨#[58]⟩ : ByteArray)).extract 0 (n ++ (⟨#[58]⟩ : ByteArray)).size.pred = n := by
    rw [x1]
    apply ba_ext
    rw [ext_list]
    have hl : n.data.toList.length = n.size := Array.length_toList
    simp [hl]
  have x3 : bt (n ++ (⟨#[58]⟩ : ByteArray)) (n.size : Int) = 58 := by
    rw [bt_list _ n.size (by omega)]
    have hl : n.data.toList.length = n.size := Array.length_toList
    have : (n ++ (⟨#[58]⟩ : ByteArray)).data.toList = n.data.toList ++ [58] := by simp
    simp only [this]
    rw [List.getElem_append_right (by omega)]
    simp [hl]
  have sa := dec_size a (by omega) (by omega)
  have sb := dec_size b (by omega) (by omega)
  have sc := dec_size c (by omega) (by omega)
  have hs2 := l01Split_ev (dec b ++ ((⟨#[120]⟩ : ByteArray) ++ dec a)) (by simp only [ByteArray.size_append, show (⟨#[120]⟩ : ByteArray).size = 1 from rfl]; omega) 120 120 rfl
  have e3 : (splitL 120 (dec b ++ ((⟨#[120]⟩ : ByteArray) ++ dec a)).data.toList).map mkB = [dec b, dec a] := by
    have : (dec b ++ ((⟨#[120]⟩ : ByteArray) ++ dec a)).data.toList = (dec b).data.toList ++ 120 :: (dec a).data.toList := by simp
    rw [this, splitL_app _ _ _ (d120 b), splitL_one _ _ (d120 a)]
    simp only [List.map_cons, List.map_nil, mkB_data]
  rw [e3] at hs2
  have num : ∀ v : Int, -1000000 ≤ v → v ≤ 1000000 → Ev (fun k => spec_l01Number.f k (dec v)) (v, true) := by
    intro v h0 h1
    obtain ⟨r, q1, q2⟩ := read_both (dec v) (by have := dec_size v (by omega) (by omega); omega)
    rw [read_dec v h0 h1] at q2
    obtain rfl := Option.some.inj q2
    exact q1
  obtain ⟨o, ho, hoi⟩ := l24One_ev n a b c
  obtain rfl : o = true := hoi.2 ⟨gn, ga, gb, gc⟩
  have hgoal : Ev (fun k => spec_ReadOrder.f k (otext n a b c)) (n, a, b, c, true) := by
    generalize hP : n ++ (⟨#[58]⟩ : ByteArray) = P at *
    generalize hM : dec b ++ ((⟨#[120]⟩ : ByteArray) ++ dec a) = M at *
    have hws : wrap64 ((P.size : Int) - 1) = (n.size : Int) := by rw [w64 (by omega) (by omega)]; omega
    rw [x1] at x2
    have hl4 : (([P, M, (⟨#[98, 121]⟩ : ByteArray), dec c] : List ByteArray).length : Int) = 4 := rfl
    have g0 : rdOf ByteArray.empty [P, M, (⟨#[98, 121]⟩ : ByteArray), dec c] 0 = P := rfl
    have g1 : rdOf ByteArray.empty [P, M, (⟨#[98, 121]⟩ : ByteArray), dec c] 1 = M := rfl
    have g2 : rdOf ByteArray.empty [P, M, (⟨#[98, 121]⟩ : ByteArray), dec c] 2 = (⟨#[98, 121]⟩ : ByteArray) := rfl
    have g3 : rdOf ByteArray.empty [P, M, (⟨#[98, 121]⟩ : ByteArray), dec c] 3 = dec c := rfl
    have hl2 : (([dec b, dec a] : List ByteArray).length : Int) = 2 := rfl
    have k0 : rdOf ByteArray.empty [dec b, dec a] 0 = dec b := rfl
    have k1 : rdOf ByteArray.empty [dec b, dec a] 1 = dec a := rfl
    have hx2 : P.extract 0 n.size = n := x2
    have hne : ((58 : Int) != 58) = false := by decide
    have hj : Ev (fun k => spec_ReadOrder.j0 k [P, M, (⟨#[98, 121]⟩ : ByteArray), dec c] false) (n, a, b, c, true) := by
      refine Ev.succ ?_
      simp only [spec_ReadOrder.j0, hl4, g0, g1, g3, hws, Int.toNat_natCast, hx2]
      refine Ev.neg (by simp) (Ev.pos (by decide) (Ev.bnd hs2 ?_))
      simp only [hl2, k0, k1]
      exact Ev.pos (by first | rfl | trivial) (Ev.pos (by decide) (Ev.bnd (num b (by omega) (by omega)) (Ev.pos (by decide) (Ev.bnd (num a (by omega) (by omega)) (Ev.pos (by decide) (Ev.bnd (num c (by omega) (by omega)) (Ev.pos (by decide) (Ev.pos (by omega) (Ev.pos (by omega) (Ev.pos rfl (Ev.pos rfl (Ev.pos rfl (Ev.bnd ho (Ev.pos rfl (Ev.now _)))))))))))))))
    unfold spec_ReadOrder.f
    refine Ev.bnd hsp ?_
    simp only [hl4, g0, g2, hws, x3, hne]
    exact Ev.pos (by first | rfl | trivial) (Ev.pos (by decide) (Ev.pos (by rw [ByteArray.toList_eq]) (Ev.pos (by decide) (Ev.neg (by rw [toList_nil]; omega) (Ev.pos (by omega) (Ev.pos (by omega) hj))))))
  rw [Ev.uniq hr hgoal]
theorem FnExactReadOrder : laws_FnExactReadOrder.Pure := by
  intro s g0
  apply Ev.rounds
  unfold laws_FnExactReadOrder.f
  by_cases n0 : (s.size : Int) > 1048576
  · exact Ev.pos n0 (Ev.now _)
  have hz : s.size ≤ 1048576 := by omega
  obtain ⟨r, hi, hir⟩ := read_some s hz
  obtain ⟨t, hs, hst⟩ := spec_read s hz
  have e : t = r := by
    rcases hir with rfl | ⟨n, a, b, c, rfl, g, rfl⟩
    · rcases hst with h | ⟨n, a, b, c, rfl, g, rfl⟩
      · exact h
      · have := read_good n a b c g hz
        rw [hi] at this
        exact absurd (congrArg (fun x => x.map (fun y => y.2.2.2.2)) this) (by simp)
    · have ht := spec_good n a b c g hz t hs
      rcases hst with h | ⟨n', a', b', c', rfl, g', h'⟩
      · rw [h] at ht
        exact absurd ht (by simp)
      · have := read_good n' a' b' c' g' (by rw [h']; exact hz)
        rw [h', hi] at this
        exact (Option.some.inj this).symm
  subst e
  obtain ⟨n, a, b, c, f⟩ := t
  refine Ev.neg n0 (Ev.bnd hs (Ev.bnd0 hi ?_))
  have q : laws_eqOrder.f n a b c n a b c = some true := by
    unfold laws_eqOrder.f
    simp
  have hb : (f != f) = false := bne_self_eq_false _
  simp only [hb]
  exact Ev.bnd0 q (Ev.pos rfl (Ev.neg (by simp) (Ev.now _)))

end Go.Proofs.YtipiikjeidiojaaDoor.Pure
