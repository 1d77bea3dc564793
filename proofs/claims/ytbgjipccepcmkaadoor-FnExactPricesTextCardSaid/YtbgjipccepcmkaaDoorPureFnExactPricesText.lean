/- Both write the prices alike. No conditions beyond the statement's own. -/
import Derived.Test.YtbgjipccepcmkaaDoorPl
import Derived.Test.YtbgjipccepcmkaaDoorPFnExactPricesTextx0
import Derived.Test.YtbgjipccepcmkaaDoorPFnExactPricesTextx1
import Derived.Test.YtbgjipccepcmkaaDoorPFnExactPricesTextx2
import Derived.Test.YtbgjipccepcmkaaDoorPFnExactPricesTextx3
import Derived.Test.YtbgjipccepcmkaaDoorPFnExactPricesTextx4
import Derived.Test.YtbgjipccepcmkaaDoorPFnExactPricesTextx5
import Derived.Test.YtbgjipccepcmkaaDoorPFnExactPricesTextx6
import Derived.Test.YtbgjipccepcmkaaDoorPFnExactPricesTextx7
namespace Go.Proofs.YtbgjipccepcmkaaDoor.Pure
open Go.RowKit Go.Proofs.YtbgjipccepcmkaaDoor.PFnExactPricesText Go.Proofs.YtbgjipccepcmkaaDoor.Pl Go.Proofs.YtbgjipccepcmkaaDoorW.PrintWords Go.Proofs.YtbgjipccepcmkaaDoorW.PrintLast
set_option linter.unusedVariables false
set_option linter.unusedSimpArgs false

def cvListed (x : S49) : S46 := ⟨x.f0, x.f1, x.f2⟩
theorem toListedS_ev (l : List S49) (hl : l.length ≤ 1048576) : Ev (fun k => laws_toListedS.f k l) (l.map cvListed) := by
  unfold laws_toListedS.f
  refine Ev.pos (by omega) (Ev.pos (by rw [Int.toNat_natCast]; omega) ?_)
  simp only [Int.toNat_natCast]
  refine fill_ev (L := fun k x i => laws_toListedS.l0 k l x i) l cvListed z46 z49 (fun x hx => ?_) (fun i x r hi hx h => ?_)
  · refine Ev.succ ?_
    simp only [laws_toListedS.l0]
    exact Ev.neg (by omega) (Ev.now _)
  · refine Ev.succ ?_
    simp only [laws_toListedS.l0, laws_toListed.f, Option.bind_some]
    refine Ev.pos (by omega) (Ev.pos (by omega) (Ev.pos (by omega) ?_))
    rw [w64_succ (by omega)]
    exact h

theorem eqListedS_refl (l : List S46) (hl : l.length ≤ 1099511627776) : Ev (fun k => laws_eqListedS.f k l l) true := by
  unfold laws_eqListedS.f
  refine Ev.pos rfl ?_
  refine back (p := fun i => Ev (fun k => laws_eqListedS.l0 k l l (i : Nat)) true) (n := l.length) ?_ ?_ 0 (Nat.zero_le _)
  · refine Ev.succ ?_
    simp only [laws_eqListedS.l0]
    exact Ev.neg (by omega) (Ev.now _)
  · intro i hi h
    refine Ev.succ ?_
    simp only [laws_eqListedS.l0, laws_eqListed.f, ↓reduceIte, Option.bind_some]
    refine Ev.pos (by omega) (Ev.pos (by omega) (Ev.pos (by omega) ?_))
    rw [w64_succ (by omega)]
    exact h

theorem szListedS_ev (l : List S49) (a : Int) (hl : l.length ≤ 9223372036854775807) (h0 : 0 ≤ a) (h1 : a ≤ 1048576) : ∃ r, laws_szListedS.f l a = some r ∧ (r < 0 ∨ (0 ≤ r ∧ r ≤ a ∧ (l.length : Int) ≤ a)) := by
  have hw : wrap64 (a - (l.length : Int)) = a - l.length := w64 (by omega) (by omega)
  unfold laws_szListedS.f
  rw [hw]
  by_cases h : a - (l.length : Int) < 0
  · exact ⟨_, if_pos h, .inl (by omega)⟩
  · exact ⟨_, if_neg h, .inr ⟨by omega, by omega, by omega⟩⟩

theorem l00In_eq (a b c : Int) : spec_l00In.f a b c = some (decide (b ≤ a ∧ a ≤ c)) := by
  unfold spec_l00In.f
  by_cases h : a ≥ b
  · rw [if_pos h]
    by_cases h2 : a ≤ c
    · rw [decide_eq_true h2, decide_eq_true ⟨h, h2⟩]
    · rw [decide_eq_false h2, decide_eq_false (fun x => h2 x.2)]
  · rw [if_neg h, decide_eq_false (fun x => h x.1)]

/-- Row i of a list of prices is right. -/
def GoodP (l : List S46) (i : Nat) : Prop :=
  (1 ≤ (rd_T46 l i).f0 ∧ (rd_T46 l i).f0 ≤ 200) ∧ (1 ≤ (rd_T46 l i).f1 ∧ (rd_T46 l i).f1 ≤ 1000000) ∧ (0 ≤ (rd_T46 l i).f2 ∧ (rd_T46 l i).f2 ≤ 1000000) ∧
    (0 < i → (rd_T46 l ((i : Int) - 1)).f0 < (rd_T46 l i).f0 ∧ (rd_T46 l ((i : Int) - 1)).f1 ≤ (rd_T46 l i).f1)
/-- The prices are valid. -/
def OkP (l : List S46) : Prop := (∀ i, i < l.length → GoodP l i) ∧ l.length ≤ 12
theorem l26Ok_ev (l : List S46) (hl : l.length ≤ 1099511627776) : ∃ r, Ev (fun k => spec_l26Ok.f k l) r ∧ (r = true ↔ OkP l) := by
  unfold spec_l26Ok.f
  have h1 : Ev (fun k => spec_l26Ok.l0 k l (l.length : Int)) (decide ((l.length : Int) ≤ 12)) := by
    refine Ev.succ ?_
    simp only [spec_l26Ok.l0]
    exact Ev.neg (by omega) (Ev.now _)
  have h2 : ∀ i, i < l.length → ¬ GoodP l i → Ev (fun k => spec_l26Ok.l0 k l (i : Int)) false := by
    intro i hi hp
    have hw : wrap64 ((i : Int) - 1) = (i : Int) - 1 := w64 (by omega) (by omega)
    unfold GoodP at hp
    (refine Ev.succ ?_; simp only [spec_l26Ok.l0, l00In_eq, hw, Option.bind_some, decide_eq_true_eq, Bool.not_eq_true', decide_eq_false_iff_not]; repeat' (first | exact Ev.now _ | refine Ev.ite (fun _ => ?_) (fun _ => ?_)))
    all_goals (exfalso; omega)
  have h3 : ∀ i, i < l.length → GoodP l i → ∀ r, Ev (fun k => spec_l26Ok.l0 k l ((i + 1 : Nat) : Int)) r → Ev (fun k => spec_l26Ok.l0 k l (i : Int)) r := by
    intro i hi hp r h
    have hw : wrap64 ((i : Int) - 1) = (i : Int) - 1 := w64 (by omega) (by omega)
    have hs : wrap64 ((i : Int) + 1) = ((i + 1 : Nat) : Int) := w64_succ (by omega)
    unfold GoodP at hp
    (refine Ev.succ ?_; simp only [spec_l26Ok.l0, l00In_eq, hw, hs, Option.bind_some, decide_eq_true_eq, Bool.not_eq_true', decide_eq_false_iff_not]; repeat' (first | exact Ev.now _ | exact h | refine Ev.ite (fun _ => ?_) (fun _ => ?_)))
    all_goals (exfalso; omega)
  obtain ⟨r, hr, hiff⟩ := all_ev (L := fun k i => spec_l26Ok.l0 k l i) h1 h2 h3
  refine ⟨r, hr, hiff.trans ⟨fun h => ⟨h.1, ?_⟩, fun h => ⟨h.1, ?_⟩⟩⟩
  · have := of_decide_eq_true h.2
    omega
  · have := h.2
    exact decide_eq_true (by omega)
theorem good_at (l : List S46) (ok : OkP l) (i : Int) (h0 : 0 ≤ i) (h1 : i < (l.length : Int)) :
    (1 ≤ (rd_T46 l i).f1 ∧ (rd_T46 l i).f1 ≤ 1000000) ∧ (0 ≤ (rd_T46 l i).f2 ∧ (rd_T46 l i).f2 ≤ 1000000) := by
  have g := ok.1 i.toNat (by omega)
  unfold GoodP at g
  rw [Int.toNat_of_nonneg h0] at g
  exact ⟨g.2.1, g.2.2.1⟩

/-- A number's decimal form. -/
def dec (n : Int) : ByteArray := ⟨(Lib.itoa n).toArray⟩
/-- The digits of u ahead of what is written already. -/
def dgs (u : Nat) (out : List Int) : List Int := (if u = 0 then [] else (Lib.decDigits u).map (fun b => (b.toNat : Int))) ++ out
theorem dgs_step {u : Nat} (h : u ≠ 0) (out : List Int) : dgs u out = dgs (u / 10) (((48 + u % 10 : Nat) : Int) :: out) := by
  unfold dgs
  rw [if_neg h, Lib.decDigits]
  by_cases h10 : u < 10
  · rw [dif_pos h10, if_pos (by omega)]
    have : u % 10 = u := Nat.mod_eq_of_lt h10
    simp [this]
    omega
  · rw [dif_neg h10, if_neg (by omega)]
    simp
    omega
def decFin (n : Int) (out : List Int) : ByteArray := if out.length = 0 then ⟨#[48]⟩ else if n < 0 then (⟨#[45]⟩ : ByteArray) ++ strOfNums out else strOfNums out
theorem l01Dec_l0 (n : Int) : ∀ (d : Nat) (m : Int) (out : List Int), m.natAbs < 10 ^ d → out.length + d ≤ 25 → -9223372036854775808 ≤ m → m ≤ 9223372036854775807 → Ev (fun k => spec_l01Dec.l0 k n out m) (decFin n (dgs m.natAbs out)) := by
  have h0 : ∀ out : List Int, out.length ≤ 25 → Ev (fun k => spec_l01Dec.l0 k n out 0) (decFin n (dgs 0 out)) := by
    intro out ho
    have e : dgs 0 out = out := rfl
    rw [e]
    unfold decFin
    refine Ev.succ ?_
    simp only [spec_l01Dec.l0]
    refine Ev.pos (by trivial) ?_
    by_cases hz : out.length = 0
    · rw [if_pos hz]; exact Ev.pos (by omega) (Ev.now _)
    · rw [if_neg hz]
      refine Ev.neg (by omega) ?_
      refine Ev.ite (fun hn => ?_) (fun hn => ?_)
      · rw [if_pos hn]; exact Ev.pos (by rw [strOfNums_size]; omega) (Ev.now _)
      · rw [if_neg hn]; exact Ev.now _
  intro d
  induction d with
  | zero =>
    intro m out h1 h2 _ _
    obtain rfl : m = 0 := by omega
    exact h0 out (by omega)
  | succ d ih =>
    intro m out h1 h2 h3 h4
    by_cases hm : m = 0
    · subst hm; exact h0 out (by omega)
    · have hu : m.natAbs ≠ 0 := by omega
      have hd : Int.tdiv m 10 = if m < 0 then -((m.natAbs / 10 : Nat) : Int) else ((m.natAbs / 10 : Nat) : Int) := by
        by_cases hn : m < 0
        · rw [if_pos hn]; obtain ⟨u, rfl⟩ : ∃ u : Nat, m = -(u : Int) := ⟨m.natAbs, by omega⟩
          rw [Int.neg_tdiv]; simp [Int.natAbs_neg, Int.ofNat_tdiv]
        · rw [if_neg hn]; obtain ⟨u, rfl⟩ : ∃ u : Nat, m = (u : Int) := ⟨m.natAbs, by omega⟩
          simp [Int.ofNat_tdiv]
      have hr : Int.tmod m 10 = if m < 0 then -((m.natAbs % 10 : Nat) : Int) else ((m.natAbs % 10 : Nat) : Int) := by
        have := Int.tmod_def m 10
        rw [this, hd]
        split <;> omega
      have hw : wrap64 (Int.tdiv m 10) = Int.tdiv m 10 := by rw [hd]; apply w64 <;> split <;> omega
      have hab : (Int.tdiv m 10).natAbs = m.natAbs / 10 := by rw [hd]; split <;> omega
      have hstep := ih (Int.tdiv m 10) (((48 + m.natAbs % 10 : Nat) : Int) :: out) (by rw [hab]; rw [Nat.pow_succ] at h1; omega) (by simp; omega) (by rw [hd]; split <;> omega) (by rw [hd]; split <;> omega)
      rw [hab, ← dgs_step hu] at hstep
      refine Ev.succ ?_
      simp only [spec_l01Dec.l0, hw, Option.bind_some]
      refine Ev.neg hm (Ev.ite (fun c => ?_) (fun c => ?_))
      · have e : (wrap64 (48 + (wrap64 (-(Int.tmod m 10))))) % 256 = ((48 + m.natAbs % 10 : Nat) : Int) := by
          rw [hr] at c ⊢
          split at c <;> rename_i hn
          · rw [if_pos hn, w64 (x := - -((m.natAbs % 10 : Nat) : Int)) (by omega) (by omega), w64 (by omega) (by omega)]; omega
          · omega
        rw [e]
        exact Ev.pos (by simp; omega) hstep
      · have e : (wrap64 (48 + (Int.tmod m 10))) % 256 = ((48 + m.natAbs % 10 : Nat) : Int) := by
          have : Int.tmod m 10 = ((m.natAbs % 10 : Nat) : Int) := by rw [hr] at c ⊢; split at c <;> omega
          rw [this, w64 (by omega) (by omega)]; omega
        rw [e]
        exact Ev.pos (by simp; omega) hstep
theorem decDigits_ne (u : Nat) : (Lib.decDigits u).length ≠ 0 := by
  rw [Lib.decDigits]; split <;> simp
theorem nums_str (l : List UInt8) : strOfNums (l.map (fun b => (b.toNat : Int))) = ⟨l.toArray⟩ := by
  unfold strOfNums
  congr 2
  rw [List.map_map]
  conv => rhs; rw [← List.map_id l]
  apply List.map_congr_left
  intro b _
  simp
theorem l01Dec_ev (n : Int) (h0 : -9223372036854775808 ≤ n) (h1 : n ≤ 9223372036854775807) : Ev (fun k => spec_l01Dec.f k n) (dec n) := by
  unfold spec_l01Dec.f
  have h := l01Dec_l0 n 20 n [] (by omega) (by simp) h0 h1
  have e : decFin n (dgs n.natAbs []) = dec n := by
    unfold decFin dgs dec Lib.itoa
    by_cases hz : n = 0
    · subst hz
      have : Lib.decDigits 0 = [48] := by rw [Lib.decDigits]; rfl
      simp [this]
    · rw [if_neg (show n.natAbs ≠ 0 by omega), List.append_nil, nums_str, List.length_map, if_neg (decDigits_ne _)]
      by_cases hn : n < 0
      · rw [if_pos hn, if_pos hn]
        apply ByteArray.ext
        simp
      · rw [if_neg hn, if_neg hn]
        rw [show n.natAbs = n.toNat by omega]
  rw [e] at h
  exact h
theorem dec_size (n : Int) (h0 : -9223372036854775808 ≤ n) (h1 : n ≤ 9223372036854775807) : (dec n).size ≤ 21 := by
  have hl : ∀ d u : Nat, u < 10 ^ (d + 1) → (Lib.decDigits u).length ≤ d + 1 := by
    intro d
    induction d with
    | zero => intro u h; rw [Lib.decDigits, dif_pos (by omega)]; simp
    | succ d ih =>
      intro u h
      rw [Lib.decDigits]
      split
      · simp
      · have := ih (u / 10) (by rw [Nat.pow_succ] at h; omega)
        simp
        omega
  unfold dec Lib.itoa
  split
  · have := hl 19 n.natAbs (by omega)
    simp [ByteArray.size]
    omega
  · have := hl 19 n.toNat (by omega)
    simp [ByteArray.size]
    omega

theorem within_eq (a b c : Int) : impl_within.f a b c = some (decide (b ≤ a ∧ a ≤ c)) := by
  unfold impl_within.f
  by_cases h : a ≥ b
  · rw [if_pos h]
    by_cases h2 : a ≤ c
    · rw [decide_eq_true h2, decide_eq_true ⟨h, h2⟩]
    · rw [decide_eq_false h2, decide_eq_false (fun x => h2 x.2)]
  · rw [if_neg h, decide_eq_false (fun x => h x.1)]

theorem isSize_eq (a : Int) : impl_isSize.f a = some (decide (1 ≤ a ∧ a ≤ 200)) := by
  unfold impl_isSize.f
  rw [within_eq]
  rfl

theorem ValidPrices_ev (l : List S46) (hl : l.length ≤ 1099511627776) : ∃ r, Ev (fun k => impl_ValidPrices.f k l) r ∧ (r = true ↔ OkP l) := by
  unfold impl_ValidPrices.f
  have h1 : Ev (fun k => impl_ValidPrices.l0 k l l (l.length : Int) (l.length : Int)) (decide ((l.length : Int) ≤ 12)) := by
    refine Ev.succ ?_
    simp only [impl_ValidPrices.l0]
    exact Ev.neg (by omega) (Ev.now _)
  have h2 : ∀ i, i < l.length → ¬ GoodP l i → Ev (fun k => impl_ValidPrices.l0 k l l (l.length : Int) (i : Int)) false := by
    intro i hi hp
    have hw : wrap64 ((i : Int) - 1) = (i : Int) - 1 := w64 (by omega) (by omega)
    unfold GoodP at hp
    (refine Ev.succ ?_; simp only [impl_ValidPrices.l0, isSize_eq, within_eq, hw, Option.bind_some, decide_eq_true_eq, Bool.not_eq_true', decide_eq_false_iff_not]; repeat' (first | exact Ev.now _ | refine Ev.ite (fun _ => ?_) (fun _ => ?_) | (refine Ev.succ ?_; simp only [impl_ValidPrices.j1, hw, Option.bind_some, decide_eq_true_eq, Bool.not_eq_true', decide_eq_false_iff_not])))
    all_goals (exfalso; first | omega | simp_all)
  have h3 : ∀ i, i < l.length → GoodP l i → ∀ r, Ev (fun k => impl_ValidPrices.l0 k l l (l.length : Int) ((i + 1 : Nat) : Int)) r → Ev (fun k => impl_ValidPrices.l0 k l l (l.length : Int) (i : Int)) r := by
    intro i hi hp r h
    have hw : wrap64 ((i : Int) - 1) = (i : Int) - 1 := w64 (by omega) (by omega)
    have hs : wrap64 ((i : Int) + 1) = ((i + 1 : Nat) : Int) := w64_succ (by omega)
    unfold GoodP at hp
    (refine Ev.succ ?_; simp only [impl_ValidPrices.l0, isSize_eq, within_eq, hw, hs, Option.bind_some, decide_eq_true_eq, Bool.not_eq_true', decide_eq_false_iff_not]; repeat' (first | exact Ev.now _ | exact h | refine Ev.ite (fun _ => ?_) (fun _ => ?_) | (refine Ev.succ ?_; simp only [impl_ValidPrices.j1, hw, hs, Option.bind_some, decide_eq_true_eq, Bool.not_eq_true', decide_eq_false_iff_not])))
    all_goals (exfalso; first | omega | simp_all)
  obtain ⟨r, hr, hiff⟩ := all_ev (L := fun k i => impl_ValidPrices.l0 k l l (l.length : Int) i) h1 h2 h3
  refine ⟨r, hr, hiff.trans ⟨fun h => ⟨h.1, ?_⟩, fun h => ⟨h.1, ?_⟩⟩⟩
  · have := of_decide_eq_true h.2
    omega
  · have := h.2
    exact decide_eq_true (by omega)

theorem Decimal_eq (n : Int) (h0 : -9223372036854775808 ≤ n) (h1 : n ≤ 9223372036854775807) : impl_Decimal.f n = some (dec n) := by
  unfold impl_Decimal.f strconv_FormatInt.f
  rw [if_pos ⟨h0, h1, rfl⟩]
  rfl

/-- What a row of prices reads as. -/
def rowT (x : S46) : ByteArray := (((dec x.f0 ++ (⟨#[58]⟩ : ByteArray)) ++ dec x.f1) ++ (⟨#[43]⟩ : ByteArray)) ++ dec x.f2
def joinT (ws : List ByteArray) : ByteArray := ⟨(Lib.join (ws.map (·.data.toList)) (⟨#[32]⟩ : ByteArray).data.toList).toArray⟩
theorem joinTail_app (sep : List UInt8) (r s : List (List UInt8)) : Lib.joinTail sep (r ++ s) = Lib.joinTail sep r ++ Lib.joinTail sep s := by simp [Lib.joinTail]
theorem joinT_nil : joinT [] = ⟨#[]⟩ := rfl
theorem joinT_one (x : ByteArray) : joinT [x] = x := by
  unfold joinT
  simp only [List.map_cons, List.map_nil, Lib.join_one]
theorem joinT_snoc (ws : List ByteArray) (x : ByteArray) (h : ws ≠ []) : joinT (ws ++ [x]) = (joinT ws ++ (⟨#[32]⟩ : ByteArray)) ++ x := by
  cases ws with
  | nil => exact absurd rfl h
  | cons a r =>
    unfold joinT
    simp only [List.cons_append, List.map_cons, List.map_append, List.map_nil, Lib.join_cons, joinTail_app]
    apply ByteArray.ext
    simp [Lib.joinTail]
def Rng (l : List S46) : Prop := ∀ i : Nat, i < l.length → (-9223372036854775808 ≤ (rd_T46 l (i : Int)).f0 ∧ (rd_T46 l (i : Int)).f0 ≤ 9223372036854775807) ∧ (-9223372036854775808 ≤ (rd_T46 l (i : Int)).f1 ∧ (rd_T46 l (i : Int)).f1 ≤ 9223372036854775807) ∧ (-9223372036854775808 ≤ (rd_T46 l (i : Int)).f2 ∧ (rd_T46 l (i : Int)).f2 ≤ 9223372036854775807)
theorem text_loop (l : List S46) (hl : l.length ≤ 12) (hr : Rng l) : ∃ t, Ev (fun k => spec_PricesText.l0 k l (⟨#[]⟩ : ByteArray) 0) t ∧ Ev (fun k => impl_PricesText.l0 k [] l (l.length : Int) 0) t := by
  refine back (p := fun i => ∀ ws : List ByteArray, ws.length = i → (joinT ws).size ≤ 100 * i → ∃ t, Ev (fun k => spec_PricesText.l0 k l (joinT ws) (i : Nat)) t ∧ Ev (fun k => impl_PricesText.l0 k ws l (l.length : Int) (i : Nat)) t) (n := l.length) ?_ ?_ 0 (Nat.zero_le _) [] rfl (by rw [joinT_nil]; decide)
  · intro ws hw hz
    refine ⟨joinT ws, Ev.succ ?_, Ev.succ ?_⟩
    · simp only [spec_PricesText.l0]
      exact Ev.neg (by omega) (Ev.now _)
    · simp only [impl_PricesText.l0]
      refine Ev.neg (by omega) (Ev.bnd0 (a := joinT ws) ?_ (Ev.now _))
      unfold strings_Join.f
      have e : (Lib.join (ws.map (·.data.toList)) (⟨#[32]⟩ : ByteArray).data.toList).length = (joinT ws).size := by simp [joinT, ByteArray.size]
      rw [e, if_pos ⟨by omega, by omega⟩]
      rfl
  · intro i hi ih ws hw hz
    have hs : wrap64 ((i : Int) + 1) = ((i + 1 : Nat) : Int) := w64_succ (by omega)
    obtain ⟨⟨a1, a2⟩, ⟨b1, b2⟩, ⟨c1, c2⟩⟩ := hr i hi
    have ea := l01Dec_ev _ a1 a2
    have eb := l01Dec_ev _ b1 b2
    have ec := l01Dec_ev _ c1 c2
    have fa := Decimal_eq _ a1 a2
    have fb := Decimal_eq _ b1 b2
    have fc := Decimal_eq _ c1 c2
    have sa := dec_size _ a1 a2
    have sb := dec_size _ b1 b2
    have sc := dec_size _ c1 c2
    have ht : (rowT (rd_T46 l (i : Int))).size ≤ 65 := by
      unfold rowT
      simp only [ByteArray.size_append, show (⟨#[58]⟩ : ByteArray).size = 1 from rfl, show (⟨#[43]⟩ : ByteArray).size = 1 from rfl]
      omega
    obtain ⟨t, h1, h2⟩ := ih (ws ++ [rowT (rd_T46 l (i : Int))]) (by simp [hw]) (by
      by_cases h : ws = []
      · subst h; rw [List.nil_append, joinT_one]; omega
      · rw [joinT_snoc _ _ h]; simp only [ByteArray.size_append, show (⟨#[32]⟩ : ByteArray).size = 1 from rfl]; omega)
    refine ⟨t, Ev.succ ?_, Ev.succ ?_⟩
    · simp only [spec_PricesText.l0, hs]
      refine Ev.pos (by omega) (Ev.ite (fun hp => ?_) (fun hp => ?_))
      · rw [joinT_snoc _ _ (by intro h; subst h; simp at hw; omega)] at h1
        refine Ev.pos ?_ (Ev.pos (by omega) (Ev.bnd ea (Ev.pos ?_ (Ev.bnd eb (Ev.pos ?_ (Ev.pos ?_ (Ev.bnd ec (Ev.pos ?_ (Ev.pos ?_ h1)))))))))
        all_goals ((try simp only [ByteArray.size_append, show (⟨#[58]⟩ : ByteArray).size = 1 from rfl, show (⟨#[43]⟩ : ByteArray).size = 1 from rfl, show (⟨#[32]⟩ : ByteArray).size = 1 from rfl]); omega)
      · obtain rfl : ws = [] := List.length_eq_zero_iff.1 (by omega)
        rw [List.nil_append, joinT_one] at h1
        have e : (joinT [] ++ rowT (rd_T46 l (i : Int))) = rowT (rd_T46 l (i : Int)) := by rw [joinT_nil]; exact ByteArray.empty_append
        rw [← e] at h1
        refine Ev.pos (by omega) (Ev.bnd ea (Ev.pos ?_ (Ev.bnd eb (Ev.pos ?_ (Ev.pos ?_ (Ev.bnd ec (Ev.pos ?_ (Ev.pos ?_ h1))))))))
        all_goals ((try simp only [ByteArray.size_append, show (⟨#[58]⟩ : ByteArray).size = 1 from rfl, show (⟨#[43]⟩ : ByteArray).size = 1 from rfl, show (⟨#[32]⟩ : ByteArray).size = 1 from rfl]); omega)
    · simp only [impl_PricesText.l0, hs, fa, fb, fc, Option.bind_some]
      refine Ev.pos (by omega) (Ev.pos (by omega) (Ev.pos (by omega) (Ev.pos ?_ (Ev.pos ?_ (Ev.pos ?_ (Ev.pos ?_ (Ev.pos ?_ h2)))))))
      all_goals ((try simp only [ByteArray.size_append, show (⟨#[58]⟩ : ByteArray).size = 1 from rfl, show (⟨#[43]⟩ : ByteArray).size = 1 from rfl, show (⟨#[32]⟩ : ByteArray).size = 1 from rfl]); omega)
theorem text_both (l : List S46) (hl : l.length ≤ 1048576) (hr : Rng l) : ∃ t, Ev (fun k => spec_PricesText.f k l) t ∧ Ev (fun k => impl_PricesText.f k l) t := by
  unfold spec_PricesText.f impl_PricesText.f
  obtain ⟨b, hs, hb⟩ := l26Ok_ev l (by omega)
  obtain ⟨b', hi, hb'⟩ := ValidPrices_ev l (by omega)
  obtain rfl : b' = b := beq_iff hb' hb
  by_cases h : b' = true
  · obtain ⟨t, h1, h2⟩ := text_loop l (hb.1 h).2 hr
    exact ⟨t, Ev.bnd hs (Ev.pos h h1), Ev.bnd hi (Ev.pos h h2)⟩
  · exact ⟨_, Ev.bnd hs (Ev.neg h (Ev.now _)), Ev.bnd hi (Ev.neg h (Ev.now _))⟩
theorem FnExactPricesText : laws_FnExactPricesText.Pure := by
  intro x0 g0
  apply Ev.rounds
  unfold laws_FnExactPricesText.f
  obtain ⟨r0, e0, c0⟩ := szListedS_ev x0 1048576 g0.1 (by omega) (by omega)
  refine Ev.bnd0 e0 ?_
  by_cases n0 : r0 < 0
  · exact Ev.pos n0 (Ev.now _)
  refine Ev.neg n0 ?_
  have t0 := toListedS_ev x0 (by omega)
  have hr : Rng (x0.map cvListed) := by
    intro i hi
    rw [List.length_map] at hi
    have e : rd_T46 (x0.map cvListed) (i : Int) = cvListed x0[i] := by
      unfold rd_T46
      rw [toNat_cast, getD_lt _ _ _ (by simpa using hi)]
      simp
    rw [e]
    obtain ⟨w0, w1, w2⟩ := g0.2 _ (List.getElem_mem hi)
    exact ⟨wf64 w0, wf64 w1, wf64 w2⟩
  obtain ⟨t, hs, hi⟩ := text_both (x0.map cvListed) (by simp; omega) hr
  refine Ev.bnd t0 (Ev.bnd hs (Ev.bnd t0 (Ev.bnd hi (Ev.pos rfl ?_))))
  exact Ev.bnd t0 (Ev.bnd (eqListedS_refl _ (by simp; omega)) (Ev.pos rfl (Ev.now _)))

end Go.Proofs.YtbgjipccepcmkaaDoor.Pure
