/- Plain: sorting in place by swaps; one element put in; the symmetric merge. -/
import Derived.Test.YtekedkbjnedhgaaDoorSortW
namespace Go.Proofs.YtekedkbjnedhgaaDoor
set_option linter.unusedVariables false
set_option linter.unusedSimpArgs false

def lt (x y : RowS) : Prop := rcmp x.l y.l < 0
def le (x y : RowS) : Prop := rcmp x.l y.l ≤ 0
theorem le_refl (x : RowS) : le x x := by unfold le; rw [rcmp_refl]; omega
theorem le_trans {x y z : RowS} (h : le x y) (k : le y z) : le x z := rcmp_trans _ _ _ h k
theorem le_of_lt {x y : RowS} (h : lt x y) : le x y := by unfold lt at h; unfold le; omega
theorem not_lt {x y : RowS} : ¬ lt x y ↔ le y x := by
  unfold lt le
  have := rcmp_anti x.l y.l
  omega
theorem lt_of_le_lt {x y z : RowS} (h : le x y) (k : lt y z) : lt x z := by
  refine Classical.byContradiction fun e => ?_
  have := le_trans (not_lt.1 e) h
  exact (not_lt.2 this) k
theorem lt_of_lt_le {x y z : RowS} (h : lt x y) (k : le y z) : lt x z := by
  refine Classical.byContradiction fun e => ?_
  have := le_trans k (not_lt.1 e)
  exact (not_lt.2 this) h

def Srt (D : Nat → RowS) (a b : Nat) : Prop := ∀ i j, a ≤ i → i < j → j < b → le (D i) (D j)
theorem Srt.mono {D : Nat → RowS} {a b a' b' : Nat} (h : Srt D a b) (h1 : a ≤ a') (h2 : b' ≤ b) : Srt D a' b' := fun i j hi hj hb => h i j (by omega) hj (by omega)
theorem Srt.congr {D E : Nat → RowS} {a b : Nat} (h : Srt D a b) (he : ∀ i, a ≤ i → i < b → E i = D i) : Srt E a b := fun i j hi hj hb => by
  rw [he i hi (by omega), he j (by omega) hb]
  exact h i j hi hj hb
theorem Srt.le {D : Nat → RowS} {a b i j : Nat} (h : Srt D a b) (hi : a ≤ i) (hij : i ≤ j) (hj : j < b) : le (D i) (D j) := by
  rcases Nat.lt_or_ge i j with h1 | h1
  · exact h i j hi h1 hj
  · rw [show i = j by omega]; exact le_refl _
theorem Srt.none {D : Nat → RowS} {a b : Nat} (h : b ≤ a + 1) : Srt D a b := fun i j hi hj hb => by omega

/-- reached by swaps inside [a, b) -/
inductive Sw (a b : Nat) (D : Nat → RowS) : (Nat → RowS) → Prop
  | refl : Sw a b D D
  | step {E : Nat → RowS} {i j : Nat} : Sw a b D E → a ≤ i → i < b → a ≤ j → j < b → Sw a b D (swp E i j)
theorem Sw.trans {a b : Nat} {D E F : Nat → RowS} (h : Sw a b D E) (k : Sw a b E F) : Sw a b D F := by
  induction k with
  | refl => exact h
  | step _ h1 h2 h3 h4 ih => exact .step ih h1 h2 h3 h4
theorem Sw.mono {a b a' b' : Nat} {D E : Nat → RowS} (h : Sw a b D E) (h1 : a' ≤ a) (h2 : b ≤ b') : Sw a' b' D E := by
  induction h with
  | refl => exact .refl
  | step _ k1 k2 k3 k4 ih => exact .step ih (by omega) (by omega) (by omega) (by omega)
theorem Sw.out {a b : Nat} {D E : Nat → RowS} (h : Sw a b D E) : ∀ k, k < a ∨ b ≤ k → E k = D k := by
  induction h with
  | refl => exact fun _ _ => rfl
  | step _ k1 k2 k3 k4 ih =>
    intro k hk
    unfold swp
    rw [if_neg (by omega), if_neg (by omega)]
    exact ih k hk
theorem Sw.mem {a b : Nat} {D E : Nat → RowS} (h : Sw a b D E) : ∀ k, a ≤ k → k < b → ∃ k', a ≤ k' ∧ k' < b ∧ E k = D k' := by
  induction h with
  | refl => exact fun k h1 h2 => ⟨k, h1, h2, rfl⟩
  | step _ k1 k2 k3 k4 ih =>
    intro k h1 h2
    unfold swp
    split
    · exact ih _ k1 k2
    · split
      · exact ih _ k3 k4
      · exact ih k h1 h2
theorem swp_perm (D : Nat → RowS) (n i j : Nat) (hi : i < n) (hj : j < n) : ((List.range n).map (swp D i j)).Perm ((List.range n).map D) := by
  have hp := Array.swap_perm (xs := ((List.range n).map D).toArray) (i := i) (j := j) (by simpa using hi) (by simpa using hj)
  have e : ((List.range n).map (swp D i j)).toArray = ((List.range n).map D).toArray.swap i j (by simpa using hi) (by simpa using hj) := by
    apply Array.ext
    · simp
    · intro k h1 h2
      have hk : k < n := by simpa using h1
      rw [Array.getElem_swap]
      simp only [List.getElem_toArray, List.getElem_map, List.getElem_range]
      unfold swp
      repeat' split
      all_goals first
        | rfl
        | (exfalso; omega)
        | (subst_vars; rfl)
  have := e ▸ hp
  exact Array.perm_iff_toList_perm.1 this
theorem Sw.perm {a b n : Nat} {D E : Nat → RowS} (h : Sw a b D E) (hb : b ≤ n) : ((List.range n).map E).Perm ((List.range n).map D) := by
  induction h with
  | refl => exact .refl _
  | step _ k1 k2 k3 k4 ih => exact (swp_perm _ n _ _ (by omega) (by omega)).trans ih
theorem swapR_sw (D : Nat → RowS) (a b : Nat) : ∀ c, a + c ≤ b → Sw a (b + c) D (swapR D a b c)
  | 0, _ => by rw [swapR_zero]; exact .refl
  | c + 1, h => by
    rw [← swapR_step D a b c (by omega)]
    exact .step ((swapR_sw D a b c (by omega)).mono (Nat.le_refl _) (by omega)) (by omega) (by omega) (by omega) (by omega)
theorem rot_sw (D : Nat → RowS) (m : Nat) : ∀ N i j, i + j ≤ N → 0 < i → 0 < j → i ≤ m → Sw (m - i) (m + j) D (rotF D (m - i) m (m + j)) := by
  intro N
  induction N generalizing D with
  | zero => intro i j h h0 h1; omega
  | succ N ih =>
    intro i j h h0 h1 him
    rcases Nat.lt_trichotomy i j with h2 | h2 | h2
    · have h3 := ih (swapR D (m - i) (m + j - i) i) i (j - i) (by omega) h0 (by omega) him
      rw [rot_less D m i j him h2] at h3
      exact ((swapR_sw D (m - i) (m + j - i) i (by omega)).mono (Nat.le_refl _) (by omega)).trans (h3.mono (Nat.le_refl _) (by omega))
    · subst h2
      rw [← rot_same D m i him]
      exact swapR_sw D (m - i) m i (by omega)
    · have h3 := ih (swapR D (m - i) m j) (i - j) j (by omega) (by omega) h1 (by omega)
      rw [rot_more D m i j him h2] at h3
      exact ((swapR_sw D (m - i) m j (by omega)).mono (Nat.le_refl _) (by omega)).trans (h3.mono (by omega) (Nat.le_refl _))
theorem rotF_sw (D : Nat → RowS) (s m e : Nat) (h1 : s < m) (h2 : m < e) : Sw s e D (rotF D s m e) := by
  have := rot_sw D m (m - s + (e - m)) (m - s) (e - m) (Nat.le_refl _) (by omega) (by omega) (by omega)
  rwa [show m - (m - s) = s by omega, show m + (e - m) = e by omega] at this
theorem rotF_left (D : Nat → RowS) (m e : Nat) : rotF D m m e = D := by
  funext k
  unfold rotF
  repeat' split
  all_goals first
    | rfl
    | (exfalso; omega)
    | (congr 1; omega)
theorem rotF_right (D : Nat → RowS) (s m : Nat) : rotF D s m m = D := by
  funext k
  unfold rotF
  repeat' split
  all_goals first
    | rfl
    | (exfalso; omega)
    | (congr 1; omega)

/-! ### insertion -/
/-- all but the one at j are in order up to i, and those behind j are not less than it -/
def Ins (E : Nat → RowS) (a i j : Nat) : Prop := (∀ p q, a ≤ p → p < q → q ≤ i → p ≠ j → q ≠ j → le (E p) (E q)) ∧ ∀ q, j < q → q ≤ i → le (E j) (E q)
theorem Ins.start {D : Nat → RowS} {a i : Nat} (h : Srt D a i) : Ins D a i i := ⟨fun p q h1 h2 h3 h4 h5 => h p q h1 h2 (by omega), fun q h1 h2 => by omega⟩
theorem Ins.step {E : Nat → RowS} {a i j : Nat} (h : Ins E a i j) (hj : a < j) (hji : j ≤ i) (hl : lt (E j) (E (j - 1))) : Ins (swp E j (j - 1)) a i (j - 1) := by
  constructor
  · intro p q h1 h2 h3 h4 h5
    unfold swp
    rw [if_neg h4, if_neg h5]
    by_cases e1 : p = j
    · subst e1
      rw [if_pos rfl, if_neg (by omega)]
      exact h.1 (p - 1) q (by omega) (by omega) h3 (by omega) (by omega)
    · rw [if_neg e1]
      by_cases e2 : q = j
      · subst e2
        rw [if_pos rfl]
        exact h.1 p (q - 1) h1 (by omega) (by omega) e1 (by omega)
      · rw [if_neg e2]
        exact h.1 p q h1 h2 h3 e1 e2
  · intro q h1 h2
    unfold swp
    rw [if_pos rfl, if_neg (by omega)]
    by_cases e2 : q = j
    · subst e2
      rw [if_pos rfl]
      exact le_of_lt hl
    · rw [if_neg e2]
      exact h.2 q (by omega) h2
theorem Ins.stop {E : Nat → RowS} {a i j : Nat} (h : Ins E a i j) (hj : a ≤ j) (hs : j = a ∨ ¬ lt (E j) (E (j - 1))) : Srt E a (i + 1) := by
  intro p q h1 h2 h3
  by_cases e1 : p = j
  · subst e1; exact h.2 q h2 (by omega)
  · by_cases e2 : q = j
    · subst e2
      rcases hs with hs | hs
      · omega
      · have h4 := not_lt.1 hs
        by_cases e3 : p = q - 1
        · rw [e3]; exact h4
        · exact le_trans (h.1 p (q - 1) h1 (by omega) (by omega) e1 (by omega)) h4
    · exact h.1 p q h1 h2 (by omega) e1 e2

/-! ### one element moved -/
def mvUp (D : Nat → RowS) (a k : Nat) : Nat → RowS := fun x => if a ≤ x ∧ x < k then D (x + 1) else if x = k then D a else D x
theorem mvUp_zero (D : Nat → RowS) (a : Nat) : mvUp D a a = D := by
  funext x
  unfold mvUp
  repeat' split
  all_goals first
    | rfl
    | (exfalso; omega)
    | (subst_vars; rfl)
theorem mvUp_step (D : Nat → RowS) (a k : Nat) (h : a ≤ k) : swp (mvUp D a k) k (k + 1) = mvUp D a (k + 1) := by
  funext x
  unfold swp mvUp
  repeat' split
  all_goals first
    | rfl
    | (exfalso; omega)
    | (subst_vars; rfl)
    | (congr 1; omega)
theorem mvUp_sw (D : Nat → RowS) (a : Nat) : ∀ d, Sw a (a + d + 1) D (mvUp D a (a + d))
  | 0 => by
    show Sw a (a + 0 + 1) D (mvUp D a a)
    rw [mvUp_zero]; exact .refl
  | d + 1 => by
    rw [show a + (d + 1) = a + d + 1 by omega, ← mvUp_step D a (a + d) (by omega)]
    exact .step ((mvUp_sw D a d).mono (Nat.le_refl _) (by omega)) (by omega) (by omega) (by omega) (by omega)
theorem mvUp_srt {D : Nat → RowS} {a b i : Nat} (hs : Srt D (a + 1) b) (hi : a + 1 ≤ i) (hib : i ≤ b) (h1 : ∀ h, a + 1 ≤ h → h < i → lt (D h) (D a)) (h2 : ∀ h, i ≤ h → h < b → ¬ lt (D h) (D a)) : Srt (mvUp D a (i - 1)) a b := by
  intro p q hp hpq hq
  unfold mvUp
  by_cases c1 : a ≤ p ∧ p < i - 1
  · rw [if_pos c1]
    by_cases c2 : a ≤ q ∧ q < i - 1
    · rw [if_pos c2]; exact hs (p + 1) (q + 1) (by omega) (by omega) (by omega)
    · rw [if_neg c2]
      by_cases c3 : q = i - 1
      · rw [if_pos c3]; exact le_of_lt (h1 (p + 1) (by omega) (by omega))
      · rw [if_neg c3]; exact hs.le (by omega) (by omega) hq
  · rw [if_neg c1]
    have c2 : ¬ (a ≤ q ∧ q < i - 1) := by omega
    rw [if_neg c2]
    have c3 : q ≠ i - 1 := by omega
    rw [if_neg c3]
    by_cases c4 : p = i - 1
    · rw [if_pos c4]; exact not_lt.1 (h2 q (by omega) hq)
    · rw [if_neg c4]; exact hs p q (by omega) hpq hq
def mvDn (D : Nat → RowS) (k m : Nat) : Nat → RowS := fun x => if x = k then D m else if k < x ∧ x ≤ m then D (x - 1) else D x
theorem mvDn_zero (D : Nat → RowS) (m : Nat) : mvDn D m m = D := by
  funext x
  unfold mvDn
  repeat' split
  all_goals first
    | rfl
    | (exfalso; omega)
    | (subst_vars; rfl)
theorem mvDn_step (D : Nat → RowS) (k m : Nat) (h0 : 0 < k) (h : k ≤ m) : swp (mvDn D k m) k (k - 1) = mvDn D (k - 1) m := by
  funext x
  unfold swp mvDn
  repeat' split
  all_goals first
    | rfl
    | (exfalso; omega)
    | (subst_vars; rfl)
    | (congr 1; omega)
theorem mvDn_sw (D : Nat → RowS) (m : Nat) : ∀ d, d ≤ m → Sw (m - d) (m + 1) D (mvDn D (m - d) m)
  | 0, _ => by rw [Nat.sub_zero, mvDn_zero]; exact .refl
  | d + 1, h => by
    rw [show m - (d + 1) = m - d - 1 by omega, ← mvDn_step D (m - d) m (by omega) (by omega)]
    exact .step ((mvDn_sw D m d (by omega)).mono (by omega) (Nat.le_refl _)) (by omega) (by omega) (by omega) (by omega)
theorem mvDn_srt {D : Nat → RowS} {a m i : Nat} (hs : Srt D a m) (hi : a ≤ i) (him : i ≤ m) (h1 : ∀ h, a ≤ h → h < i → ¬ lt (D m) (D h)) (h2 : ∀ h, i ≤ h → h < m → lt (D m) (D h)) : Srt (mvDn D i m) a (m + 1) := by
  intro p q hp hpq hq
  unfold mvDn
  by_cases c1 : p = i
  · rw [if_pos c1, if_neg (by omega), if_pos (by omega)]
    exact le_of_lt (h2 (q - 1) (by omega) (by omega))
  · rw [if_neg c1]
    by_cases c2 : i < p ∧ p ≤ m
    · rw [if_pos c2, if_neg (by omega), if_pos (by omega)]
      exact hs.le (by omega) (by omega) (by omega)
    · rw [if_neg c2]
      by_cases c3 : q = i
      · rw [if_pos c3]; exact not_lt.1 (h1 p hp (by omega))
      · rw [if_neg c3]
        by_cases c4 : i < q ∧ q ≤ m
        · rw [if_pos c4]; exact hs.le hp (by omega) (by omega)
        · rw [if_neg c4]; exact hs p q hp hpq (by omega)

/-! ### the symmetric merge -/
/-- what the search between s0 and r0 has found -/
structure Found (D : Nat → RowS) (p s0 r0 s r : Nat) : Prop where
  low : ∀ c, s0 ≤ c → c < s → ¬ lt (D (p - c)) (D c)
  high : ∀ c, r ≤ c → c < r0 → lt (D (p - c)) (D c)
/-- where the search goes -/
structure Ends2 (a m b mid s0 r0 : Nat) : Prop where
  ab : a < m ∧ m < b
  mid_ : mid = (a + b) / 2
  ends : (m > mid ∧ s0 = mid + m - b ∧ r0 = mid) ∨ (m ≤ mid ∧ s0 = a ∧ r0 = m)
theorem Found.go {D : Nat → RowS} {a m b mid s0 r0 s r c : Nat} (he : Ends2 a m b mid s0 r0) (h1 : Srt D a m) (h2 : Srt D m b) (h : Found D (mid + m - 1) s0 r0 s r) (hs : s0 ≤ s) (hr : r ≤ r0) (hc : s ≤ c) (hc2 : c < r) :
    (¬ lt (D (mid + m - 1 - c)) (D c) → Found D (mid + m - 1) s0 r0 (c + 1) r) ∧ (lt (D (mid + m - 1 - c)) (D c) → Found D (mid + m - 1) s0 r0 s c) := by
  obtain ⟨⟨e1, e2⟩, rfl, e3⟩ := he
  constructor
  · intro hn
    refine ⟨fun d hd hd2 => ?_, h.high⟩
    have a1 : le (D d) (D c) := h1.le (by omega) (by omega) (by omega)
    have a2 : le (D ((a + b) / 2 + m - 1 - c)) (D ((a + b) / 2 + m - 1 - d)) := h2.le (by omega) (by omega) (by omega)
    exact not_lt.2 (le_trans (le_trans a1 (not_lt.1 hn)) a2)
  · intro hl
    refine ⟨h.low, fun d hd hd2 => ?_⟩
    have a1 : le (D c) (D d) := h1.le (by omega) (by omega) (by omega)
    have a2 : le (D ((a + b) / 2 + m - 1 - d)) (D ((a + b) / 2 + m - 1 - c)) := h2.le (by omega) (by omega) (by omega)
    exact lt_of_lt_le (lt_of_le_lt a2 hl) a1
/-- behind the rotation: four pieces in order, the lower two not above the upper two -/
theorem sym_plain {D : Nat → RowS} {a m b mid s0 r0 s : Nat} (he : Ends2 a m b mid s0 r0) (h1 : Srt D a m) (h2 : Srt D m b) (h : Found D (mid + m - 1) s0 r0 s s) (hs : s0 ≤ s) (hr : s ≤ r0) :
    Srt (rotF D s m (mid + m - s)) a s ∧ Srt (rotF D s m (mid + m - s)) s mid ∧ Srt (rotF D s m (mid + m - s)) mid (mid + m - s) ∧ Srt (rotF D s m (mid + m - s)) (mid + m - s) b ∧
    ∀ x y, a ≤ x → x < mid → mid ≤ y → y < b → le (rotF D s m (mid + m - s) x) (rotF D s m (mid + m - s) y) := by
  obtain ⟨⟨e1, e2⟩, e0, e3⟩ := he
  have b1 : a ≤ s ∧ s ≤ m ∧ s ≤ mid := by omega
  have b2 : m ≤ mid + m - s ∧ mid + m - s ≤ b := by omega
  obtain ⟨f, hf⟩ : ∃ f, f = mid + m - s := ⟨_, rfl⟩
  rw [← hf] at b2 ⊢
  have r1 : ∀ x, x < s → rotF D s m f x = D x := fun x hx => by unfold rotF; rw [if_neg (by omega)]
  have r2 : ∀ x, s ≤ x → x < mid → rotF D s m f x = D (x + (m - s)) := fun x hx hx2 => by unfold rotF; rw [if_pos (by omega), if_pos (by omega)]
  have r3 : ∀ x, mid ≤ x → x < f → rotF D s m f x = D (x - (f - m)) := fun x hx hx2 => by unfold rotF; rw [if_pos (by omega), if_neg (by omega)]
  have r4 : ∀ x, f ≤ x → rotF D s m f x = D x := fun x hx => by unfold rotF; rw [if_neg (by omega)]
  refine ⟨fun i j hi hj hb => ?_, fun i j hi hj hb => ?_, fun i j hi hj hb => ?_, fun i j hi hj hb => ?_, fun x y hx hx2 hy hy2 => ?_⟩
  · rw [r1 i (by omega), r1 j hb]; exact h1 i j hi hj (by omega)
  · rw [r2 i hi (by omega), r2 j (by omega) hb]; exact h2 _ _ (by omega) (by omega) (by omega)
  · rw [r3 i hi (by omega), r3 j (by omega) hb]; exact h1 _ _ (by omega) (by omega) (by omega)
  · rw [r4 i hi, r4 j (by omega)]; exact h2 _ _ (by omega) hj hb
  · by_cases c1 : x < s
    · rw [r1 x c1]
      by_cases c2 : y < f
      · rw [r3 y hy c2]; exact h1.le hx (by omega) (by omega)
      · rw [r4 y (by omega)]
        have h3 := h.low (s - 1) (by omega) (by omega)
        have h4 := not_lt.1 h3
        rw [show mid + m - 1 - (s - 1) = f by omega] at h4
        exact le_trans (h1.le hx (show x ≤ s - 1 by omega) (by omega)) (le_trans h4 (h2.le (by omega) (by omega) hy2))
    · rw [r2 x (by omega) hx2]
      by_cases c2 : y < f
      · rw [r3 y hy c2]
        have h3 := h.high s (Nat.le_refl _) (by omega)
        rw [show mid + m - 1 - s = f - 1 by omega] at h3
        exact le_trans (h2.le (by omega) (show x + (m - s) ≤ f - 1 by omega) (by omega)) (le_trans (le_of_lt h3) (h1.le (by omega) (by omega) (by omega)))
      · rw [r4 y (by omega)]
        exact h2.le (by omega) (by omega) hy2
theorem sym_end {D E F : Nat → RowS} {a mid b : Nat} (hm : a ≤ mid ∧ mid ≤ b) (h : ∀ x y, a ≤ x → x < mid → mid ≤ y → y < b → le (D x) (D y)) (k1 : Sw a mid D E) (k2 : Sw mid b E F) (s1 : Srt E a mid) (s2 : Srt F mid b) : Srt F a b ∧ Sw a b D F := by
  refine ⟨fun i j hi hj hb => ?_, (k1.mono (Nat.le_refl _) hm.2).trans (k2.mono hm.1 (Nat.le_refl _))⟩
  by_cases c1 : j < mid
  · rw [k2.out i (.inl (by omega)), k2.out j (.inl c1)]; exact s1 i j hi hj c1
  · by_cases c2 : mid ≤ i
    · exact s2 i j c2 hj hb
    · rw [k2.out i (.inl (by omega))]
      obtain ⟨i', h1, h2, h3⟩ := k1.mem i hi (by omega)
      obtain ⟨j', h4, h5, h6⟩ := k2.mem j (by omega) hb
      rw [h3, h6, k1.out j' (.inr h4)]
      exact h i' j' h1 h2 h4 h5
end Go.Proofs.YtekedkbjnedhgaaDoor
