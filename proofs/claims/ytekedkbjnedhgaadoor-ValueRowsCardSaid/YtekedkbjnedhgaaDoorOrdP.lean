/- Plain: the orders of values and of rows. -/
import Derived.Test.YtekedkbjnedhgaaDoorRowsC
namespace Go.Proofs.YtekedkbjnedhgaaDoor
set_option linter.unusedVariables false
set_option linter.unusedSimpArgs false

/-- an order that tells -/
structure Good {γ : Type} (c : γ → γ → Int) : Prop where
  anti : ∀ x y, c x y = -(c y x)
  trans : ∀ x y z, c x y ≤ 0 → c y z ≤ 0 → c x z ≤ 0

theorem Good.lex {γ : Type} {c d : γ → γ → Int} (hc : Good c) (hd : Good d) : Good fun x y => or2 (c x y) (d x y) := by
  constructor
  · intro x y
    have h1 := hc.anti x y
    have h2 := hd.anti x y
    unfold or2
    split <;> split <;> omega
  · intro x y z h1 h2
    have a1 : c x y ≤ 0 := by unfold or2 at h1; split at h1 <;> omega
    have a2 : c y z ≤ 0 := by unfold or2 at h2; split at h2 <;> omega
    have a3 := hc.trans x y z a1 a2
    show or2 (c x z) (d x z) ≤ 0
    by_cases h0 : c x z = 0
    · have b0 : c z x = 0 := by have := hc.anti z x; omega
      have b1 := hc.trans z x y (by omega) a1
      have b2 := hc.trans y z x a2 (by omega)
      have e1 := hc.anti z y
      have e2 := hc.anti y x
      have z1 : c x y = 0 := by omega
      have z2 : c y z = 0 := by omega
      have := hd.trans x y z (by simpa [or2, z1] using h1) (by simpa [or2, z2] using h2)
      simpa [or2, h0] using this
    · simpa [or2, h0] using a3
theorem Good.flip {γ : Type} {c : γ → γ → Int} (hc : Good c) : Good fun x y => -(c x y) := by
  constructor
  · intro x y; have := hc.anti x y; omega
  · intro x y z h1 h2
    have a1 := hc.anti x y
    have a2 := hc.anti y z
    have a3 := hc.anti x z
    have := hc.trans z y x (by omega) (by omega)
    show -(c x z) ≤ 0
    omega
theorem Good.by_ {γ δ : Type} {c : γ → γ → Int} (hc : Good c) (f : δ → γ) : Good fun x y => c (f x) (f y) := ⟨fun x y => hc.anti _ _, fun x y z => hc.trans _ _ _⟩

theorem cmpI_good : Good cmpI := by
  constructor
  · intro x y; unfold cmpI; split <;> split <;> (try split) <;> (try split) <;> omega
  · intro x y z h1 h2
    have a : x ≤ y := by unfold cmpI at h1; split at h1 <;> (try split at h1) <;> omega
    have b : y ≤ z := by unfold cmpI at h2; split at h2 <;> (try split at h2) <;> omega
    unfold cmpI
    split
    · omega
    · rw [if_neg (by omega)]; omega
theorem cmpI_zero {a b : Int} (h : cmpI a b = 0) : a = b := by unfold cmpI at h; split at h <;> (try split at h) <;> omega

theorem less_asymm : ∀ x y : List UInt8, Op.bytesLess x y = true → Op.bytesLess y x = false
  | _, [], h => by simp [Op.bytesLess] at h
  | [], _ :: _, _ => by simp [Op.bytesLess]
  | a :: x, b :: y, h => by
    simp only [Op.bytesLess, Bool.or_eq_true, Bool.and_eq_true, decide_eq_true_eq, beq_iff_eq] at h
    simp only [Op.bytesLess, Bool.or_eq_false_iff, Bool.and_eq_false_iff, decide_eq_false_iff_not, beq_eq_false_iff_ne]
    rcases h with h | ⟨rfl, h⟩
    · refine ⟨fun h' => ?_, .inl fun e => ?_⟩
      · exact absurd (UInt8.lt_trans h h') (UInt8.lt_irrefl _)
      · subst e; exact UInt8.lt_irrefl _ h
    · exact ⟨UInt8.lt_irrefl _, .inr (less_asymm x y h)⟩
theorem less_total : ∀ x y : List UInt8, Op.bytesLess x y = false → Op.bytesLess y x = false → x = y
  | [], [], _, _ => rfl
  | [], _ :: _, h, _ => by simp [Op.bytesLess] at h
  | _ :: _, [], _, h => by simp [Op.bytesLess] at h
  | a :: x, b :: y, h1, h2 => by
    simp only [Op.bytesLess, Bool.or_eq_false_iff, Bool.and_eq_false_iff, decide_eq_false_iff_not, beq_eq_false_iff_ne] at h1 h2
    have hab : a = b := UInt8.le_antisymm (UInt8.not_lt.1 h2.1) (UInt8.not_lt.1 h1.1)
    subst hab
    have := less_total x y (by rcases h1.2 with h | h; exact absurd rfl h; exact h) (by rcases h2.2 with h | h; exact absurd rfl h; exact h)
    rw [this]
theorem less_trans : ∀ x y z : List UInt8, Op.bytesLess x y = true → Op.bytesLess y z = true → Op.bytesLess x z = true
  | _, [], _, h, _ => by simp [Op.bytesLess] at h
  | _, _ :: _, [], _, h => by simp [Op.bytesLess] at h
  | [], _ :: _, _ :: _, _, _ => by simp [Op.bytesLess]
  | a :: x, b :: y, c :: z, h1, h2 => by
    simp only [Op.bytesLess, Bool.or_eq_true, Bool.and_eq_true, decide_eq_true_eq, beq_iff_eq] at h1 h2 ⊢
    rcases h1 with h1 | ⟨rfl, h1⟩
    · rcases h2 with h2 | ⟨rfl, h2⟩
      · exact .inl (UInt8.lt_trans h1 h2)
      · exact .inl h1
    · rcases h2 with h2 | ⟨rfl, h2⟩
      · exact .inl h2
      · exact .inr ⟨rfl, less_trans x y z h1 h2⟩

theorem cmpS_le {a b : ByteArray} : cmpS a b ≤ 0 ↔ Op.bytesLess b.toList a.toList = false := by
  unfold cmpS
  split
  · rename_i h; simp [less_asymm _ _ h]
  · rename_i h
    split
    · rename_i h2; rw [beq_iff_eq] at h2; rw [h2]; simp [less_irrefl]
    · rename_i h2
      constructor
      · intro h; omega
      · intro h3; exact absurd (by rw [beq_iff_eq]; exact less_total _ _ (by simpa using h) h3) h2
theorem cmpS_good : Good cmpS := by
  constructor
  · intro x y
    unfold cmpS
    by_cases h1 : Op.bytesLess x.toList y.toList = true
    · rw [if_pos h1, if_neg (by rw [less_asymm _ _ h1]; decide), if_neg (fun e => by rw [beq_iff_eq] at e; rw [e, less_irrefl] at h1; cases h1)]
    · rw [if_neg h1]
      by_cases h2 : Op.bytesLess y.toList x.toList = true
      · rw [if_pos h2, if_neg (fun e => by rw [beq_iff_eq] at e; rw [e, less_irrefl] at h2; cases h2)]; rfl
      · rw [if_neg h2]
        have e := less_total _ _ (by simpa using h1) (by simpa using h2)
        rw [e]; simp
  · intro x y z h1 h2
    rw [cmpS_le] at *
    cases h3 : Op.bytesLess z.toList x.toList
    · rfl
    · exfalso
      cases h4 : Op.bytesLess x.toList y.toList
      · have e := less_total _ _ h4 h1
        rw [e, h2] at h3; cases h3
      · rw [less_trans _ _ _ h3 h4] at h2; cases h2
theorem cmpS_zero {a b : ByteArray} (h : cmpS a b = 0) : a = b := by
  unfold cmpS at h
  split at h
  · omega
  · split at h
    · rename_i h2; rw [beq_iff_eq, ByteArray.toList_eq, ByteArray.toList_eq] at h2; exact Go.WideShapes.bytes_inj h2
    · omega

theorem vcmp_good : Good vcmp := (cmpI_good.by_ Val.k).lex ((cmpI_good.by_ Val.n).lex (cmpS_good.by_ Val.s))
theorem or2_zero {x y : Int} (h : or2 x y = 0) : x = 0 ∧ y = 0 := by unfold or2 at h; split at h <;> omega
theorem vcmp_zero {a b : Val} (h : vcmp a b = 0) : a = b := by
  obtain ⟨h1, h2⟩ := or2_zero (show or2 (cmpI a.k b.k) (or2 (cmpI a.n b.n) (cmpS a.s b.s)) = 0 from h)
  obtain ⟨h2, h3⟩ := or2_zero h2
  obtain ⟨k, n, s⟩ := a
  obtain ⟨k', n', s'⟩ := b
  have := cmpI_zero h1
  have := cmpI_zero h2
  have := cmpS_zero h3
  simp_all

theorem cmpI_bd (a b : Int) : -1 ≤ cmpI a b ∧ cmpI a b ≤ 1 := by unfold cmpI; split <;> (try split) <;> omega
theorem cmpS_bd (a b : ByteArray) : -1 ≤ cmpS a b ∧ cmpS a b ≤ 1 := by unfold cmpS; split <;> (try split) <;> omega
theorem vcmp_bd (a b : Val) : -1 ≤ vcmp a b ∧ vcmp a b ≤ 1 := by
  have h1 := cmpI_bd a.k b.k
  have h2 := cmpI_bd a.n b.n
  have h3 := cmpS_bd a.s b.s
  unfold vcmp or3; split <;> (try split) <;> assumption
theorem vcmp_refl (a : Val) : vcmp a a = 0 := by have := vcmp_good.anti a a; omega
theorem vcmp_eq (a b : Val) : vcmp a b = 0 ↔ a = b := ⟨vcmp_zero, fun h => by rw [h]; exact vcmp_refl b⟩

theorem rcmp_anti : ∀ x y : List Val, rcmp x y = -(rcmp y x)
  | [], [] => rfl
  | [], _ :: _ => rfl
  | _ :: _, [] => rfl
  | a :: x, b :: y => by
    have h := vcmp_good.anti a b
    have ih := rcmp_anti x y
    unfold rcmp
    split <;> split <;> omega
theorem rcmp_trans : ∀ x y z : List Val, rcmp x y ≤ 0 → rcmp y z ≤ 0 → rcmp x z ≤ 0
  | [], _, [], _, _ => by decide
  | [], _, _ :: _, _, _ => by simp [rcmp]
  | _ :: _, [], _, h, _ => by simp [rcmp] at h
  | _ :: _, _ :: _, [], _, h => by simp [rcmp] at h
  | a :: x, b :: y, c :: z, h1, h2 => by
    unfold rcmp at h1 h2 ⊢
    have a1 : vcmp a b ≤ 0 := by split at h1 <;> omega
    have a2 : vcmp b c ≤ 0 := by split at h2 <;> omega
    have a3 := vcmp_good.trans a b c a1 a2
    split
    · rename_i h0
      have e := vcmp_zero h0
      subst e
      have e2 := vcmp_good.anti b a
      have z1 : vcmp a b = 0 := by omega
      have z2 : vcmp b a = 0 := by omega
      rw [if_pos z1] at h1
      rw [if_pos z2] at h2
      exact rcmp_trans x y z h1 h2
    · exact a3
theorem rcmp_good : Good rcmp := ⟨rcmp_anti, rcmp_trans⟩
theorem rcmp_refl (x : List Val) : rcmp x x = 0 := by have := rcmp_anti x x; omega
theorem rcmp_zero : ∀ x y : List Val, rcmp x y = 0 → x = y
  | [], [], _ => rfl
  | [], _ :: _, h => by simp [rcmp] at h
  | _ :: _, [], h => by simp [rcmp] at h
  | a :: x, b :: y, h => by
    unfold rcmp at h
    split at h
    · rename_i h0
      rw [vcmp_zero h0, rcmp_zero x y h]
    · rename_i h0; exact absurd h h0
theorem rcmp_eq (x y : List Val) : rcmp x y = 0 ↔ x = y := ⟨rcmp_zero x y, fun h => by rw [h]; exact rcmp_refl y⟩
theorem rcmp_bd : ∀ x y : List Val, -1 ≤ rcmp x y ∧ rcmp x y ≤ 1
  | [], [] => by simp [rcmp]
  | [], _ :: _ => by simp [rcmp]
  | _ :: _, [] => by simp [rcmp]
  | a :: x, b :: y => by
    have := vcmp_bd a b
    have := rcmp_bd x y
    unfold rcmp
    split <;> assumption
theorem rcmp_snoc (a : Val) : ∀ x : List Val, rcmp x (x ++ [a]) = -1
  | [] => rfl
  | b :: x => by
    have ih := rcmp_snoc a x
    simp only [List.cons_append, rcmp]
    rw [if_pos (vcmp_refl b), ih]
theorem rcmp_one (a b : Val) : rcmp [a] [b] = vcmp a b := by
  unfold rcmp
  split
  · rename_i h; rw [h]; rfl
  · rfl
end Go.Proofs.YtekedkbjnedhgaaDoor
