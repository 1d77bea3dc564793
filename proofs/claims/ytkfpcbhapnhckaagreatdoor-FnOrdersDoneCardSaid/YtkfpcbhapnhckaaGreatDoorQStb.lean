-- what this claim names of YtkfpcbhapnhckaaGreatDoorStb (trim.py)

import Derived.Sort.LotA
namespace Go.Proofs.YtkfpcbhapnhckaaGreatDoor.Stb
open Go.Sort
set_option linter.unusedVariables false
set_option linter.unusedSectionVars false
variable {α : Type} [Inhabited α]
def swapRange (a b : Nat) : Nat → Nat → Array α → Array α
  | 0, _, d => d
  | k + 1, i, d => swapRange a b k (i + 1) (swp d (a + i) (b + i))
def rotLoop (m : Nat) : Nat → Nat → Nat → Array α → Array α
  | 0, _, _, d => d
  | f + 1, i, j, d => if i = j then swapRange (m - i) m i 0 d else if j < i then rotLoop m f (i - j) j (swapRange (m - i) m j 0 d) else rotLoop m f i (j - i) (swapRange (m - i) (m + j - i) i 0 d)
def rotate (d : Array α) (a m b : Nat) : Array α := rotLoop m (b - a) (m - a) (b - m) d
def bs (f : Nat → Bool) : Nat → Nat → Nat → Nat
  | 0, i, _ => i
  | k + 1, i, j => if i < j then (if f ((i + j) / 2) then bs f k ((i + j) / 2 + 1) j else bs f k i ((i + j) / 2)) else i
def shUp : Nat → Nat → Array α → Array α
  | 0, _, d => d
  | r + 1, k, d => shUp r (k + 1) (swp d k (k + 1))
def shDn : Nat → Nat → Array α → Array α
  | 0, _, d => d
  | r + 1, k, d => shDn r (k - 1) (swp d k (k - 1))
def smLo (a m b : Nat) : Nat := if (a + b) / 2 < m then (a + b) / 2 + m - b else a
def smHi (a m b : Nat) : Nat := if (a + b) / 2 < m then (a + b) / 2 else m
def smStart (lt : α → α → Bool) (a m b : Nat) (d : Array α) : Nat := bs (fun c => !lt d[(a + b) / 2 + m - 1 - c]! d[c]!) (smHi a m b - smLo a m b) (smLo a m b) (smHi a m b)
def smRot (start m en : Nat) (d : Array α) : Array α := if start < m ∧ m < en then rotate d start m en else d
def symMerge (lt : α → α → Bool) : Nat → Nat → Nat → Nat → Array α → Array α
  | 0, _, _, _, d => d
  | f + 1, a, m, b, d =>
    if m - a = 1 then shUp (bs (fun h => lt d[h]! d[a]!) (b - m) m b - 1 - a) a d
    else if b - m = 1 then shDn (m - bs (fun h => !lt d[m]! d[h]!) (m - a) a m) m d
    else
      let start := smStart lt a m b d
      let en := (a + b) / 2 + m - start
      let d1 := smRot start m en d
      let d2 := if a < start ∧ start < (a + b) / 2 then symMerge lt f a start ((a + b) / 2) d1 else d1
      if (a + b) / 2 < en ∧ en < b then symMerge lt f ((a + b) / 2) en b d2 else d2
def stable40 (lt : α → α → Bool) (n : Nat) (d : Array α) : Array α :=
  let d1 := if n < 20 then insertionSort lt d 0 n else insertionSort lt (insertionSort lt d 0 20) 20 n
  if 20 < n then symMerge lt n 0 20 n d1 else d1
theorem swapRange_size (a b : Nat) : ∀ (k i : Nat) (d : Array α), (swapRange a b k i d).size = d.size := by
  intro k
  induction k with
  | zero => intro i d; rfl
  | succ k ih => intro i d; rw [swapRange, ih, size_swp]
theorem swapRange_get (a b : Nat) : ∀ (k i : Nat) (d : Array α), a + (i + k) ≤ b → b + (i + k) ≤ d.size → ∀ x, (swapRange a b k i d)[x]! = if a + i ≤ x ∧ x < a + (i + k) then d[x + (b - a)]! else if b + i ≤ x ∧ x < b + (i + k) then d[x - (b - a)]! else d[x]! := by
  intro k
  induction k with
  | zero =>
    intro i d h1 h2 x
    rw [swapRange, if_neg (by omega), if_neg (by omega)]
  | succ k ih =>
    intro i d h1 h2 x
    have g := swp_get d (show a + i < d.size by omega) (show b + i < d.size by omega)
    rw [swapRange, ih (i + 1) _ (by omega) (by rw [size_swp]; omega)]
    simp only [g]
    repeat' split
    all_goals first
      | (exfalso; omega)
      | rfl
      | exact congrArg (fun z => d[z]!) (by omega)
theorem swapRange_perm (a b lo hi : Nat) : ∀ (k i : Nat) (d : Array α), lo ≤ a → a + (i + k) ≤ b → b + (i + k) ≤ hi → hi ≤ d.size → PermIn lo hi d (swapRange a b k i d) := by
  intro k
  induction k with
  | zero => intro i d _ _ _ _; exact permIn_refl d lo hi
  | succ k ih =>
    intro i d h0 h1 h2 h3
    exact permIn_trans _ _ _ lo hi (swp_permIn d lo hi (a + i) (b + i) (by omega) (by omega) (by omega) (by omega) h3) (ih (i + 1) _ h0 (by omega) (by omega) (by rw [size_swp]; exact h3))
theorem rotLoop_spec (m lo hi : Nat) : ∀ (f i j : Nat) (d : Array α), 0 < i → 0 < j → i + j ≤ f → lo + i ≤ m → m + j ≤ hi → hi ≤ d.size →
    PermIn lo hi d (rotLoop m f i j d) ∧ ∀ x, (rotLoop m f i j d)[x]! = if m - i ≤ x ∧ x < m - i + j then d[x + i]! else if m - i + j ≤ x ∧ x < m + j then d[x - j]! else d[x]! := by
  intro f
  induction f with
  | zero => intro i j d h1 h2 h3; omega
  | succ f ih =>
    intro i j d h1 h2 h3 h4 h5 h6
    rw [rotLoop]
    by_cases e : i = j
    · subst e
      rw [if_pos rfl]
      refine ⟨swapRange_perm _ _ lo hi _ _ d (by omega) (by omega) (by omega) h6, fun x => ?_⟩
      rw [swapRange_get _ _ _ _ d (by omega) (by omega)]
      repeat' split
      all_goals first
        | (exfalso; omega)
        | rfl
        | exact congrArg (fun z => d[z]!) (by omega)
    · rw [if_neg e]
      by_cases c : j < i
      · rw [if_pos c]
        have p := swapRange_perm (m - i) m lo hi j 0 d (by omega) (by omega) (by omega) h6
        obtain ⟨q1, q2⟩ := ih (i - j) j (swapRange (m - i) m j 0 d) (by omega) h2 (by omega) (by omega) h5 (by rw [swapRange_size]; exact h6)
        refine ⟨permIn_trans _ _ _ lo hi p q1, fun x => ?_⟩
        rw [q2]
        simp only [swapRange_get (m - i) m j 0 d (by omega) (by omega)]
        repeat' split
        all_goals first
          | (exfalso; omega)
          | rfl
          | exact congrArg (fun z => d[z]!) (by omega)
      · rw [if_neg c]
        have p := swapRange_perm (m - i) (m + j - i) lo hi i 0 d (by omega) (by omega) (by omega) h6
        obtain ⟨q1, q2⟩ := ih i (j - i) (swapRange (m - i) (m + j - i) i 0 d) h1 (by omega) (by omega) h4 (by omega) (by rw [swapRange_size]; exact h6)
        refine ⟨permIn_trans _ _ _ lo hi p q1, fun x => ?_⟩
        rw [q2]
        simp only [swapRange_get (m - i) (m + j - i) i 0 d (by omega) (by omega)]
        repeat' split
        all_goals first
          | (exfalso; omega)
          | rfl
          | exact congrArg (fun z => d[z]!) (by omega)
theorem bs_range (f : Nat → Bool) : ∀ (k i j : Nat), i ≤ j → i ≤ bs f k i j ∧ bs f k i j ≤ j := by
  intro k
  induction k with
  | zero => intro i j h; exact ⟨Nat.le_refl _, h⟩
  | succ k ih =>
    intro i j h
    rw [bs]
    by_cases c : i < j
    · rw [if_pos c]
      by_cases g : f ((i + j) / 2) = true
      · rw [if_pos g]
        have := ih ((i + j) / 2 + 1) j (by omega)
        omega
      · rw [if_neg g]
        have := ih i ((i + j) / 2) (by omega)
        omega
    · rw [if_neg c]
      omega
theorem bs_spec (f : Nat → Bool) (lo hi : Nat) (mono : ∀ x y, lo ≤ x → x ≤ y → y < hi → f y = true → f x = true) : ∀ (k i j : Nat), lo ≤ i → i ≤ j → j ≤ hi → j - i ≤ k → (∀ x, lo ≤ x → x < i → f x = true) → (∀ x, j ≤ x → x < hi → f x = false) →
    (∀ x, lo ≤ x → x < bs f k i j → f x = true) ∧ (∀ x, bs f k i j ≤ x → x < hi → f x = false) := by
  intro k
  induction k with
  | zero =>
    intro i j h1 h2 h3 h4 a b
    obtain rfl : i = j := by omega
    exact ⟨a, b⟩
  | succ k ih =>
    intro i j h1 h2 h3 h4 a b
    rw [bs]
    by_cases c : i < j
    · rw [if_pos c]
      by_cases g : f ((i + j) / 2) = true
      · rw [if_pos g]
        exact ih _ _ (by omega) (by omega) h3 (by omega) (fun x hx1 hx2 => mono x ((i + j) / 2) hx1 (by omega) (by omega) g) b
      · rw [if_neg g]
        refine ih _ _ h1 (by omega) (by omega) (by omega) a (fun x hx1 hx2 => ?_)
        cases hf : f x with
        | false => rfl
        | true => exact absurd (mono ((i + j) / 2) x (by omega) hx1 hx2 hf) g
    · rw [if_neg c]
      obtain rfl : i = j := by omega
      exact ⟨a, b⟩
theorem shUp_spec (lo hi : Nat) : ∀ (r k : Nat) (d : Array α), lo ≤ k → k + r < hi → hi ≤ d.size → PermIn lo hi d (shUp r k d) ∧ ∀ x, (shUp r k d)[x]! = if k ≤ x ∧ x < k + r then d[x + 1]! else if x = k + r then d[k]! else d[x]! := by
  intro r
  induction r with
  | zero =>
    intro k d h0 h1 h2
    refine ⟨permIn_refl d lo hi, fun x => ?_⟩
    rw [shUp, if_neg (by omega)]
    split
    · rename_i e; rw [e]; rfl
    · rfl
  | succ r ih =>
    intro k d h0 h1 h2
    have g := swp_get d (show k < d.size by omega) (show k + 1 < d.size by omega)
    obtain ⟨q1, q2⟩ := ih (k + 1) (swp d k (k + 1)) (by omega) (by omega) (by rw [size_swp]; exact h2)
    rw [shUp]
    refine ⟨permIn_trans _ _ _ lo hi (swp_permIn d lo hi k (k + 1) (by omega) (by omega) (by omega) (by omega) h2) q1, fun x => ?_⟩
    rw [q2]
    simp only [g]
    repeat' split
    all_goals first
      | exact absurd trivial (by assumption)
      | (exfalso; omega)
      | rfl
      | exact congrArg (fun z => d[z]!) (by omega)
theorem shDn_spec (lo hi : Nat) : ∀ (r k : Nat) (d : Array α), lo + r ≤ k → k < hi → hi ≤ d.size → PermIn lo hi d (shDn r k d) ∧ ∀ x, (shDn r k d)[x]! = if x = k - r then d[k]! else if k - r < x ∧ x ≤ k then d[x - 1]! else d[x]! := by
  intro r
  induction r with
  | zero =>
    intro k d h0 h1 h2
    refine ⟨permIn_refl d lo hi, fun x => ?_⟩
    rw [shDn]
    split
    · rename_i e; rw [e]; rfl
    · rw [if_neg (by omega)]
  | succ r ih =>
    intro k d h0 h1 h2
    have g := swp_get d (show k < d.size by omega) (show k - 1 < d.size by omega)
    obtain ⟨q1, q2⟩ := ih (k - 1) (swp d k (k - 1)) (by omega) (by omega) (by rw [size_swp]; exact h2)
    rw [shDn]
    refine ⟨permIn_trans _ _ _ lo hi (swp_permIn d lo hi k (k - 1) (by omega) (by omega) (by omega) (by omega) h2) q1, fun x => ?_⟩
    rw [q2]
    simp only [g]
    repeat' split
    all_goals first
      | exact absurd trivial (by assumption)
      | (exfalso; omega)
      | rfl
      | exact congrArg (fun z => d[z]!) (by omega)
theorem lt_of_le_lt {lt : α → α → Bool} (hS : SWO lt) {x y z : α} (h : lt y x = false) (g : lt y z = true) : lt x z = true := by
  cases e : lt x z with
  | true => rfl
  | false =>
    have := hS.ntrans y x z h e
    rw [g] at this
    cases this
theorem sorted_le {lt : α → α → Bool} (hS : SWO lt) {a b : Nat} {d : Array α} (h : SortedIn lt a b d) {i j : Nat} (h1 : a ≤ i) (h2 : i ≤ j) (h3 : j < b) : lt d[j]! d[i]! = false := by
  rcases Nat.lt_or_ge i j with g | g
  · exact h i j h1 g h3
  · obtain rfl : i = j := by omega
    exact hS.irrefl _
theorem smRange (a m b : Nat) (h1 : a < m) (h2 : m < b) (h3 : m - a ≠ 1) (h4 : b - m ≠ 1) : a ≤ smLo a m b ∧ smLo a m b ≤ smHi a m b ∧ smHi a m b ≤ m ∧ smHi a m b ≤ (a + b) / 2 ∧ m ≤ (a + b) / 2 + m - smHi a m b ∧ (a + b) / 2 + m - smLo a m b ≤ b ∧ smLo a m b < m := by
  unfold smLo smHi
  split <;> omega
theorem smRot_spec (start m en lo hi : Nat) (d : Array α) (h1 : start ≤ m) (h2 : m ≤ en) (h3 : lo ≤ start) (h4 : en ≤ hi) (h5 : hi ≤ d.size) :
    PermIn lo hi d (smRot start m en d) ∧ ∀ x, (smRot start m en d)[x]! = if start ≤ x ∧ x < start + (en - m) then d[x + (m - start)]! else if start + (en - m) ≤ x ∧ x < en then d[x - (en - m)]! else d[x]! := by
  unfold smRot rotate
  split
  · rename_i h
    obtain ⟨q1, q2⟩ := rotLoop_spec m lo hi (en - start) (m - start) (en - m) d (by omega) (by omega) (by omega) (by omega) (by omega) h5
    refine ⟨q1, fun x => ?_⟩
    rw [q2]
    repeat' split
    all_goals first
      | (exfalso; omega)
      | rfl
      | exact congrArg (fun z => d[z]!) (by omega)
  · refine ⟨permIn_refl d lo hi, fun x => ?_⟩
    repeat' split
    all_goals first
      | (exfalso; omega)
      | rfl
      | exact congrArg (fun z => d[z]!) (by omega)
def Agree (lt lt' : α → α → Bool) (a m b : Nat) (d : Array α) : Prop := ∀ p q, a ≤ p → p < m → m ≤ q → q < b → lt d[q]! d[p]! = lt' d[q]! d[p]!
theorem symMerge_spec (lt lt' : α → α → Bool) (hS : SWO lt') : ∀ (f a m b : Nat) (d : Array α), a < m → m < b → b ≤ d.size → b - a ≤ f → SortedIn lt' a m d → SortedIn lt' m b d → Agree lt lt' a m b d →
    PermIn a b d (symMerge lt f a m b d) ∧ SortedIn lt' a b (symMerge lt f a m b d) := by
  intro f
  induction f with
  | zero => intro a m b d h1 h2 _ h3; omega
  | succ f ih =>
    intro a m b d h1 h2 hb hf sl sr ag
    rw [symMerge]
    by_cases c1 : m - a = 1
    · rw [if_pos c1]
      obtain ⟨r0, r1⟩ := bs_range (fun h => lt d[h]! d[a]!) (b - m) m b (by omega)
      have mono : ∀ x y, m ≤ x → x ≤ y → y < b → (fun h => lt d[h]! d[a]!) y = true → (fun h => lt d[h]! d[a]!) x = true := by
        intro x y hx hxy hy g
        simp only [ag a x (by omega) h1 hx (by omega), ag a y (by omega) h1 (by omega) hy] at g ⊢
        exact lt_of_le_lt hS (sorted_le hS sr hx hxy hy) g
      obtain ⟨g1, g2⟩ := bs_spec (fun h => lt d[h]! d[a]!) m b mono (b - m) m b (Nat.le_refl _) (by omega) (Nat.le_refl _) (by omega) (fun x _ _ => by omega) (fun x _ _ => by omega)
      generalize bs (fun h => lt d[h]! d[a]!) (b - m) m b = r at r0 r1 g1 g2
      obtain ⟨q1, q2⟩ := shUp_spec a b (r - 1 - a) a d (Nat.le_refl _) (by omega) hb
      refine ⟨q1, fun i j hi hij hj => ?_⟩
      have lo : ∀ x, m ≤ x → x < r → lt' d[x]! d[a]! = true := fun x hx hx2 => by
        have := g1 x hx hx2
        simp only [ag a x (by omega) h1 hx (by omega)] at this
        exact this
      have hi' : ∀ x, r ≤ x → x < b → lt' d[x]! d[a]! = false := fun x hx hx2 => by
        have := g2 x hx hx2
        simp only [ag a x (by omega) h1 (by omega) hx2] at this
        exact this
      rw [q2, q2]
      by_cases k1 : a ≤ i ∧ i < a + (r - 1 - a)
      · rw [if_pos k1]
        by_cases k2 : a ≤ j ∧ j < a + (r - 1 - a)
        · rw [if_pos k2]; exact sr (i + 1) (j + 1) (by omega) (by omega) (by omega)
        · rw [if_neg k2]
          by_cases k3 : j = a + (r - 1 - a)
          · rw [if_pos k3]
            exact hS.asymmA (lo (i + 1) (by omega) (by omega))
          · rw [if_neg k3]
            exact sr (i + 1) j (by omega) (by omega) hj
      · rw [if_neg k1]
        by_cases k3 : i = a + (r - 1 - a)
        · rw [if_pos k3, if_neg (by omega), if_neg (by omega)]
          exact hi' j (by omega) hj
        · rw [if_neg k3, if_neg (by omega), if_neg (by omega)]
          exact sr i j (by omega) hij hj
    · rw [if_neg c1]
      by_cases c2 : b - m = 1
      · rw [if_pos c2]
        obtain ⟨r0, r1⟩ := bs_range (fun h => !lt d[m]! d[h]!) (m - a) a m (by omega)
        have mono : ∀ x y, a ≤ x → x ≤ y → y < m → (fun h => !lt d[m]! d[h]!) y = true → (fun h => !lt d[m]! d[h]!) x = true := by
          intro x y hx hxy hy g
          simp only [ag x m hx (by omega) (Nat.le_refl _) h2, ag y m (by omega) hy (Nat.le_refl _) h2, Bool.not_eq_true'] at g ⊢
          exact hS.ntrans _ _ _ g (sorted_le hS sl hx hxy hy)
        obtain ⟨g1, g2⟩ := bs_spec (fun h => !lt d[m]! d[h]!) a m mono (m - a) a m (Nat.le_refl _) (by omega) (Nat.le_refl _) (by omega) (fun x _ _ => by omega) (fun x _ _ => by omega)
        generalize bs (fun h => !lt d[m]! d[h]!) (m - a) a m = r at r0 r1 g1 g2
        obtain ⟨q1, q2⟩ := shDn_spec a b (m - r) m d (by omega) h2 hb
        refine ⟨q1, fun i j hi hij hj => ?_⟩
        have lo : ∀ x, a ≤ x → x < r → lt' d[m]! d[x]! = false := fun x hx hx2 => by
          have := g1 x hx hx2
          simp only [ag x m hx (by omega) (Nat.le_refl _) h2, Bool.not_eq_true'] at this
          exact this
        have hi' : ∀ x, r ≤ x → x < m → lt' d[m]! d[x]! = true := fun x hx hx2 => by
          have := g2 x hx hx2
          simp only [ag x m (by omega) hx2 (Nat.le_refl _) h2, Bool.not_eq_false'] at this
          exact this
        rw [q2, q2]
        by_cases k1 : i = m - (m - r)
        · rw [if_pos k1, if_neg (by omega), if_pos (by omega)]
          exact hS.asymmA (hi' (j - 1) (by omega) (by omega))
        · rw [if_neg k1]
          by_cases k2 : m - (m - r) < i ∧ i ≤ m
          · rw [if_pos k2, if_neg (by omega), if_pos (by omega)]
            exact sl (i - 1) (j - 1) (by omega) (by omega) (by omega)
          · rw [if_neg k2]
            by_cases k3 : j = m - (m - r)
            · rw [if_pos k3]
              exact lo i hi (by omega)
            · rw [if_neg k3]
              by_cases k4 : m - (m - r) < j ∧ j ≤ m
              · rw [if_pos k4]
                exact sorted_le hS sl hi (by omega) (by omega)
              · rw [if_neg k4]
                exact sl i j hi hij (by omega)
      · rw [if_neg c2]
        obtain ⟨w1, w2, w3, w4, w5, w6, w7⟩ := smRange a m b h1 h2 c1 c2
        obtain ⟨r0, r1⟩ := bs_range (fun c => !lt d[(a + b) / 2 + m - 1 - c]! d[c]!) (smHi a m b - smLo a m b) (smLo a m b) (smHi a m b) w2
        have mono : ∀ x y, smLo a m b ≤ x → x ≤ y → y < smHi a m b → (fun c => !lt d[(a + b) / 2 + m - 1 - c]! d[c]!) y = true → (fun c => !lt d[(a + b) / 2 + m - 1 - c]! d[c]!) x = true := by
          intro x y hx hxy hy g
          simp only [ag x ((a + b) / 2 + m - 1 - x) (by omega) (by omega) (by omega) (by omega), ag y ((a + b) / 2 + m - 1 - y) (by omega) (by omega) (by omega) (by omega), Bool.not_eq_true'] at g ⊢
          exact hS.ntrans _ _ _ (sorted_le hS sr (by omega) (show (a + b) / 2 + m - 1 - y ≤ (a + b) / 2 + m - 1 - x by omega) (by omega)) (hS.ntrans _ _ _ g (sorted_le hS sl (by omega) hxy (by omega)))
        obtain ⟨g1, g2⟩ := bs_spec (fun c => !lt d[(a + b) / 2 + m - 1 - c]! d[c]!) (smLo a m b) (smHi a m b) mono (smHi a m b - smLo a m b) (smLo a m b) (smHi a m b) (Nat.le_refl _) w2 (Nat.le_refl _) (Nat.le_refl _) (fun x _ _ => by omega) (fun x _ _ => by omega)
        have estart : smStart lt a m b d = bs (fun c => !lt d[(a + b) / 2 + m - 1 - c]! d[c]!) (smHi a m b - smLo a m b) (smLo a m b) (smHi a m b) := rfl
        rw [estart]
        clear estart
        generalize bs (fun c => !lt d[(a + b) / 2 + m - 1 - c]! d[c]!) (smHi a m b - smLo a m b) (smLo a m b) (smHi a m b) = s at r0 r1 g1 g2 ⊢
        obtain ⟨mid, hmid⟩ : ∃ mid, mid = (a + b) / 2 := ⟨_, rfl⟩
        have hm1 : a < mid := by omega
        have hm2 : mid < b := by omega
        have low : ∀ c, smLo a m b ≤ c → c < s → lt' d[mid + m - 1 - c]! d[c]! = false := fun c k1 k2 => by
          have := g1 c k1 k2
          rw [← hmid] at this
          simp only [ag c (mid + m - 1 - c) (by omega) (by omega) (by omega) (by omega), Bool.not_eq_true'] at this
          exact this
        have high : ∀ c, s ≤ c → c < smHi a m b → lt' d[mid + m - 1 - c]! d[c]! = true := fun c k1 k2 => by
          have := g2 c k1 k2
          rw [← hmid] at this
          simp only [ag c (mid + m - 1 - c) (by omega) (by omega) (by omega) (by omega), Bool.not_eq_false'] at this
          exact this
        have hlo : s = smLo a m b → s = a ∨ mid + m - s = b := by
          intro e; rw [e]; unfold smLo; split <;> omega
        have hhi : s = smHi a m b → mid + m - s = m ∨ s = m := by
          intro e; rw [e]; unfold smHi; split <;> omega
        rw [← hmid] at w4 w5 w6 ⊢
        clear g1 g2 mono
        obtain ⟨en, hen⟩ : ∃ en, en = mid + m - s := ⟨_, rfl⟩
        rw [← hen] at hlo hhi
        simp only [← hen]
        have e1 : m ≤ en := by omega
        have e2 : en ≤ b := by omega
        have e3 : s ≤ mid := by omega
        have e4 : s + (en - m) = mid := by omega
        have e5 : mid ≤ en := by omega

        have L3 : ∀ x y, a ≤ x → x < s → en ≤ y → y < b → lt' d[y]! d[x]! = false := by
          intro x y k1 k2 k3 k4
          by_cases e : s = smLo a m b
          · rcases hlo e with h | h <;> omega
          · have h := low (s - 1) (by omega) (by omega)
            rw [show mid + m - 1 - (s - 1) = en by omega] at h
            exact hS.ntrans _ _ _ (sorted_le hS sr e1 k3 k4) (hS.ntrans _ _ _ h (sorted_le hS sl k1 (by omega) (by omega)))
        have L4 : ∀ x y, m ≤ x → x < en → s ≤ y → y < m → lt' d[y]! d[x]! = false := by
          intro x y k1 k2 k3 k4
          by_cases e : s = smHi a m b
          · rcases hhi e with h | h <;> omega
          · have h := hS.asymmA (high s (Nat.le_refl _) (by omega))
            rw [show mid + m - 1 - s = en - 1 by omega] at h
            exact hS.ntrans _ _ _ (sorted_le hS sl (by omega) k3 k4) (hS.ntrans _ _ _ h (sorted_le hS sr k1 (by omega) (by omega)))
        obtain ⟨p1, v1⟩ := smRot_spec s m en a b d (by omega) e1 (by omega) e2 hb
        rw [e4] at v1
        generalize smRot s m en d = d1 at p1 v1 ⊢
        have z1 : b ≤ d1.size := by rw [p1.1]; exact hb
        have vA : ∀ x, x < s → d1[x]! = d[x]! := fun x k => by rw [v1, if_neg (by omega), if_neg (by omega)]
        have vB : ∀ x, s ≤ x → x < mid → d1[x]! = d[x + (m - s)]! := fun x k1 k2 => by rw [v1, if_pos ⟨k1, k2⟩]
        have vC : ∀ x, mid ≤ x → x < en → d1[x]! = d[x - (en - m)]! := fun x k1 k2 => by rw [v1, if_neg (by omega), if_pos ⟨k1, k2⟩]
        have vD : ∀ x, en ≤ x → d1[x]! = d[x]! := fun x k => by rw [v1, if_neg (by omega), if_neg (by omega)]
        have sAB : ∀ x y, a ≤ x → x < mid → mid ≤ y → y < b → lt' d1[y]! d1[x]! = false := by
          intro x y k1 k2 k3 k4
          by_cases hx : x < s
          · rw [vA x hx]
            by_cases hy : y < en
            · rw [vC y k3 hy]; exact sorted_le hS sl k1 (by omega) (by omega)
            · rw [vD y (by omega)]; exact L3 x y k1 hx (by omega) k4
          · rw [vB x (by omega) k2]
            by_cases hy : y < en
            · rw [vC y k3 hy]; exact L4 _ _ (by omega) (by omega) (by omega) (by omega)
            · rw [vD y (by omega)]; exact sorted_le hS sr (by omega) (by omega) k4

        have H2 : PermIn a mid d1 (if a < s ∧ s < mid then symMerge lt f a s mid d1 else d1) ∧ SortedIn lt' a mid (if a < s ∧ s < mid then symMerge lt f a s mid d1 else d1) := by
          by_cases h : a < s ∧ s < mid
          · rw [if_pos h]
            refine ih a s mid d1 h.1 h.2 (by omega) (by omega) (fun i j k1 k2 k3 => ?_) (fun i j k1 k2 k3 => ?_) (fun p q k1 k2 k3 k4 => ?_)
            · rw [vA i (by omega), vA j k3]; exact sl i j k1 k2 (by omega)
            · rw [vB i k1 (by omega), vB j (by omega) k3]; exact sr _ _ (by omega) (by omega) (by omega)
            · rw [vA p k2, vB q k3 k4]; exact ag _ _ k1 (by omega) (by omega) (by omega)
          · rw [if_neg h]
            refine ⟨permIn_refl d1 a mid, fun i j k1 k2 k3 => ?_⟩
            by_cases hs : s ≤ a
            · rw [vB i (by omega) (by omega), vB j (by omega) k3]; exact sr _ _ (by omega) (by omega) (by omega)
            · rw [vA i (by omega), vA j (by omega)]; exact sl i j k1 k2 (by omega)
        generalize (if a < s ∧ s < mid then symMerge lt f a s mid d1 else d1) = d2 at H2 ⊢
        have z2 : b ≤ d2.size := by rw [H2.1.1]; exact z1
        have same2 : ∀ x, mid ≤ x → d2[x]! = d1[x]! := fun x k => H2.1.2.1 x (.inr k)
        have H3 : PermIn mid b d2 (if mid < en ∧ en < b then symMerge lt f mid en b d2 else d2) ∧ SortedIn lt' mid b (if mid < en ∧ en < b then symMerge lt f mid en b d2 else d2) := by
          by_cases h : mid < en ∧ en < b
          · rw [if_pos h]
            refine ih mid en b d2 h.1 h.2 z2 (by omega) (fun i j k1 k2 k3 => ?_) (fun i j k1 k2 k3 => ?_) (fun p q k1 k2 k3 k4 => ?_)
            · rw [same2 i k1, same2 j (by omega), vC i k1 (by omega), vC j (by omega) k3]; exact sl _ _ (by omega) (by omega) (by omega)
            · rw [same2 i (by omega), same2 j (by omega), vD i k1, vD j (by omega)]; exact sr _ _ (by omega) (by omega) k3
            · rw [same2 p k1, same2 q (by omega), vC p k1 k2, vD q k3]; exact ag _ _ (by omega) (by omega) (by omega) k4
          · rw [if_neg h]
            refine ⟨permIn_refl d2 mid b, fun i j k1 k2 k3 => ?_⟩
            rw [same2 i k1, same2 j (by omega)]
            by_cases hs : en ≤ mid
            · rw [vD i (by omega), vD j (by omega)]; exact sr _ _ (by omega) (by omega) k3
            · rw [vC i (by omega) (by omega), vC j (by omega) (by omega)]; exact sl _ _ (by omega) (by omega) (by omega)
        generalize (if mid < en ∧ en < b then symMerge lt f mid en b d2 else d2) = d3 at H3 ⊢
        refine ⟨permIn_trans _ _ _ a b (permIn_trans _ _ _ a b p1 (permIn_mono _ _ a mid a b (Nat.le_refl _) (by omega) z1 H2.1)) (permIn_mono _ _ mid b a b (by omega) (Nat.le_refl _) z2 H3.1), fun i j k1 k2 k3 => ?_⟩
        by_cases hj : j < mid
        · rw [H3.1.2.1 i (.inl (by omega)), H3.1.2.1 j (.inl hj)]
          exact H2.2 i j k1 k2 hj
        · by_cases hi : mid ≤ i
          · exact H3.2 i j hi k2 k3
          · rw [H3.1.2.1 i (.inl (by omega))]
            have P2 := permIn_all d1 d2 a mid (fun z => ∀ y, mid ≤ y → y < b → lt' d1[y]! z = false) (by omega) H2.1 (fun x k4 k5 y k6 k7 => sAB x y k4 k5 k6 k7) i k1 (by omega)
            exact permIn_all d2 d3 mid b (fun z => lt' z d2[i]! = false) z2 H3.1 (fun y k4 k5 => by rw [same2 y k4]; exact P2 y k4 k5) j (by omega) k3
def Later (lt lt' : α → α → Bool) (a b : Nat) (d : Array α) : Prop := ∀ p q, a ≤ p → p < q → q < b → lt d[q]! d[p]! = lt' d[q]! d[p]!
theorem insInner_agree (lt lt' : α → α → Bool) (a : Nat) : ∀ (j : Nat) (d : Array α), j < d.size → (∀ p, a ≤ p → p < j → lt d[j]! d[p]! = lt' d[j]! d[p]!) → insInner lt a j d = insInner lt' a j d := by
  intro j
  induction j with
  | zero => intro d _ _; rfl
  | succ j ih =>
    intro d hd h
    rw [insInner, insInner]
    by_cases c : a < j + 1
    · have e := h j (by omega) (by omega)
      rw [e]
      have g := swp_get d hd (show j < d.size by omega)
      have hr := ih (swp d (j + 1) j) (by rw [size_swp]; omega) (fun p k1 k2 => by
        rw [g, g, if_pos rfl, if_neg (by omega), if_neg (by omega)]
        exact h p k1 (by omega))
      rw [hr]
    · have : ¬ (j + 1 > a) := c
      simp only [this, decide_false, Bool.false_and, Bool.false_eq_true, if_false]
theorem insOuter_agree (lt lt' : α → α → Bool) (hS : SWO lt') (a b : Nat) : ∀ (n i : Nat) (d : Array α), b - i = n → a < i → b ≤ d.size → SortedIn lt' a i d → (∀ p q, a ≤ p → p < q → i ≤ q → q < b → lt d[q]! d[p]! = lt' d[q]! d[p]!) → insOuter lt a b i d = insOuter lt' a b i d := by
  intro n
  induction n with
  | zero =>
    intro i d hn _ _ _ _
    have e1 : insOuter lt a b i d = d := by rw [insOuter, if_neg (by omega)]
    have e2 : insOuter lt' a b i d = d := by rw [insOuter, if_neg (by omega)]
    rw [e1, e2]
  | succ n ih =>
    intro i d hn hai hb hs h
    have hlt : i < b := by omega
    have e1 : insOuter lt a b i d = insOuter lt a b (i + 1) (insInner lt a i d) := by rw [insOuter, if_pos hlt]
    have e2 : insOuter lt' a b i d = insOuter lt' a b (i + 1) (insInner lt' a i d) := by rw [insOuter, if_pos hlt]
    rw [e1, e2, insInner_agree lt lt' a i d (by omega) (fun p k1 k2 => h p i k1 k2 (Nat.le_refl _) hlt)]
    have h1 := insInner_spec (lt := lt') hS swp_permIn permIn_refl permIn_trans a (i + 1) i (by omega) i d (by omega) (Nat.le_refl _) (by omega) ⟨fun p q hap hpq hqi _ hq => hs p q hap hpq (by omega), fun q h1 h2 => by omega⟩
    refine ih (i + 1) _ (by omega) (by omega) (by rw [h1.1.1]; exact hb) h1.2 (fun p q k1 k2 k3 k4 => ?_)
    rw [h1.1.2.1 q (.inr k3)]
    by_cases hp : p < i + 1
    · exact permIn_all d _ a (i + 1) (fun z => lt d[q]! z = lt' d[q]! z) (by omega) h1.1 (fun x k5 k6 => h x q k5 (by omega) (by omega) k4) p k1 hp
    · rw [h1.1.2.1 p (.inr (by omega))]
      exact h p q k1 k2 (by omega) k4
theorem insertion_agree (lt lt' : α → α → Bool) (hS : SWO lt') (a b : Nat) (d : Array α) (hb : b ≤ d.size) (h : Later lt lt' a b d) : insertionSort lt d a b = insertionSort lt' d a b := by
  unfold insertionSort
  exact insOuter_agree lt lt' hS a b (b - (a + 1)) (a + 1) d rfl (by omega) hb (fun i j k1 k2 k3 => by omega) (fun p q k1 k2 k3 k4 => h p q k1 k2 k4)
theorem stable40_spec (lt lt' : α → α → Bool) (hS : SWO lt') (n : Nat) (d : Array α) (hn : n ≤ d.size) (h : Later lt lt' 0 n d) : PermIn 0 n d (stable40 lt n d) ∧ SortedIn lt' 0 n (stable40 lt n d) := by
  unfold stable40
  by_cases c : n < 20
  · simp only [if_pos c, if_neg (show ¬ 20 < n by omega)]
    rw [insertion_agree lt lt' hS 0 n d hn h]
    exact insertionSort_holds hS d 0 n (Nat.zero_le _) hn
  · simp only [if_neg c]
    rw [insertion_agree lt lt' hS 0 20 d (by omega) (fun p q k1 k2 k3 => h p q k1 k2 (by omega))]
    obtain ⟨p1, s1⟩ := insertionSort_holds hS d 0 20 (Nat.zero_le _) (by omega)
    generalize insertionSort lt' d 0 20 = d1 at p1 s1 ⊢
    have z1 : n ≤ d1.size := by rw [p1.1]; exact hn
    rw [insertion_agree lt lt' hS 20 n d1 z1 (fun p q k1 k2 k3 => by rw [p1.2.1 p (.inr k1), p1.2.1 q (.inr (by omega))]; exact h p q (Nat.zero_le _) k2 k3)]
    obtain ⟨p2, s2⟩ := insertionSort_holds hS d1 20 n (by omega) z1
    generalize insertionSort lt' d1 20 n = d2 at p2 s2 ⊢
    have z2 : n ≤ d2.size := by rw [p2.1]; exact z1
    have pp : PermIn 0 n d d2 := permIn_trans _ _ _ 0 n (permIn_mono _ _ 0 20 0 n (Nat.le_refl _) (by omega) hn p1) (permIn_mono _ _ 20 n 0 n (Nat.zero_le _) (Nat.le_refl _) z1 p2)
    have sl : SortedIn lt' 0 20 d2 := fun i j k1 k2 k3 => by rw [p2.2.1 i (.inl (by omega)), p2.2.1 j (.inl k3)]; exact s1 i j k1 k2 k3
    by_cases c2 : 20 < n
    · rw [if_pos c2]
      have ag : Agree lt lt' 0 20 n d2 := by
        intro p q k1 k2 k3 k4
        rw [p2.2.1 p (.inl k2)]
        have a1 : ∀ y, 20 ≤ y → y < n → lt d1[y]! d1[p]! = lt' d1[y]! d1[p]! := fun y k5 k6 => by
          rw [p1.2.1 y (.inr k5)]
          exact permIn_all d d1 0 20 (fun z => lt d[y]! z = lt' d[y]! z) (by omega) p1 (fun x k7 k8 => h x y (Nat.zero_le _) (by omega) k6) p k1 k2
        exact permIn_all d1 d2 20 n (fun z => lt z d1[p]! = lt' z d1[p]!) z1 p2 (fun y k5 k6 => a1 y k5 k6) q k3 k4
      obtain ⟨q1, q2⟩ := symMerge_spec lt lt' hS n 0 20 n d2 (by omega) c2 z2 (by omega) sl s2 ag
      exact ⟨permIn_trans _ _ _ 0 n pp q1, q2⟩
    · rw [if_neg c2]
      obtain rfl : n = 20 := by omega
      exact ⟨pp, sl⟩
end Go.Proofs.YtkfpcbhapnhckaaGreatDoor.Stb
