/- ExprTypes, plain: what has a type is of it. -/
import Derived.Test.YtlfahfoffdbpfaaType2
import Derived.Test.YtlfahfoffdbpfaaSafe2
import Derived.Test.YtlfahfoffdbpfaaEvalT
import Derived.Test.YtlfahfoffdbpfaaLitLaw
namespace Go.Proofs.Ytlfahfoffdbpfaa
open Go.ChangeShapes Go.WideShapes Go.ChangeAt Go.RowKit
set_option linter.unusedVariables false
set_option linter.unusedSimpArgs false

theorem good_zero : good zeroVal = true := by kernel_rfl
theorem good_num (n : Int) : good (num n) = true := by kernel_rfl
theorem good_bool (b : Bool) : good (boolV b) = true := by cases b <;> kernel_rfl

/-- values that fit types -/
def Fit : List Int → List Val → Prop
  | [], [] => True
  | t :: ts, v :: vs => good v = true ∧ (v.k = 0 ∨ v.k = t) ∧ Fit ts vs
  | _, _ => False
theorem goes_down {k t w : Int} (h : goes2 t w = true) (hk : k = 0 ∨ k = t) : goes2 k w = true := by
  rcases hk with rfl | rfl
  · simp [goes2]
  · exact h
theorem goes_down2 {k t k' t' : Int} (h : goes2 t t' = true) (hk : k = 0 ∨ k = t) (hk' : k' = 0 ∨ k' = t') : goes2 k k' = true := by
  rcases hk with rfl | rfl
  · simp [goes2]
  · rcases hk' with rfl | rfl
    · simp [goes2]
    · exact h
theorem suits_down {op : Int} : ∀ {ts : List Int} {vs : List Val}, suitsB op ts = true → Fit ts vs → suitsB op (vs.map (·.k)) = true
  | [t], [v], h, hf => by
    have h1 : goes2 t (wantsN op) = true := h
    exact goes_down h1 hf.2.1
  | [t, t'], [v, v'], h, hf => by
    have h1 : (goes2 t (wantsN op) && (goes2 t' (wantsN op) && (!alikeB op || goes2 t t'))) = true := h
    simp only [Bool.and_eq_true, Bool.or_eq_true] at h1
    show (goes2 v.k (wantsN op) && (goes2 v'.k (wantsN op) && (!alikeB op || goes2 v.k v'.k))) = true
    simp only [Bool.and_eq_true, Bool.or_eq_true]
    refine ⟨goes_down h1.1 hf.2.1, goes_down h1.2.1 hf.2.2.2.1, ?_⟩
    rcases h1.2.2 with h2 | h2
    · exact .inl h2
    · exact .inr (goes_down2 h2 hf.2.1 hf.2.2.2.1)
  | [], _, h, _ => by simp [suitsB] at h
  | _ :: _ :: _ :: _, _, h, _ => by simp [suitsB] at h
  | [_], [], _, hf => by cases hf
  | [_], _ :: _ :: _, _, hf => by exact absurd hf.2.2 (by simp [Fit])
  | [_, _], [], _, hf => by cases hf
  | [_, _], [_], _, hf => by exact absurd hf.2.2 (by simp [Fit])
  | [_, _], _ :: _ :: _ :: _, _, hf => by exact absurd hf.2.2.2.2 (by simp [Fit])
/-- what a worth may be: a good value, of a kind or Null; or an error of numbers -/
def Sound (r : Val × Int) (t : Int) (risk : Bool) : Prop := (r.2 = 0 ∧ good r.1 = true ∧ (r.1.k = 0 ∨ r.1.k = t)) ∨ ((r.2 = 43 ∨ r.2 = 44) ∧ risk = true)
theorem sound_num {n : Int} {c : Bool} : Sound (numIf n c) 2 true := by
  cases c
  · exact .inr ⟨.inl rfl, rfl⟩
  · exact .inl ⟨rfl, good_num n, .inr rfl⟩
theorem sound_bool {b : Bool} {risk : Bool} : Sound (boolV b, 0) 1 risk := .inl ⟨rfl, good_bool b, .inr rfl⟩
theorem sound_zero {t : Int} {risk : Bool} : Sound (zeroVal, 0) t risk := .inl ⟨rfl, good_zero, .inl rfl⟩
theorem sound_logic {s : Bool} {l : List Val} {risk : Bool} : Sound (logicT s l, 0) 1 risk := by
  unfold logicT
  repeat (first | exact sound_zero | exact sound_bool | split)
theorem sound_do (op wd : Int) (h3 : 3 ≤ op) (h20 : op ≤ 20) (l : List Val) : Sound (doT op.toNat wd l) (givesN op) (riskB op) := by
  have key : ∀ k : Nat, op.toNat = k → op = (k : Int) := fun k h => by omega
  unfold doT
  split
  case h_6 a b h =>
    have := key _ h
    subst this
    unfold divZ
    split
    · exact .inr ⟨.inr rfl, by decide⟩
    · exact sound_num
  case h_7 a b h =>
    have := key _ h
    subst this
    unfold modZ
    split
    · exact .inr ⟨.inr rfl, by decide⟩
    · exact sound_num
  all_goals first
    | exact sound_zero
    | (rename_i h; have := key _ h; subst this; exact sound_num)
    | (rename_i h; have := key _ h; subst this; exact sound_bool)
    | (rename_i h; have := key _ h; subst this; exact sound_logic)
theorem sound_node (op wd : Int) (h3 : 3 ≤ op) (h20 : op ≤ 20) (ts : List Int) (vs : List Val) (hs : suitsB op ts = true) (hf : Fit ts vs) : Sound (nodeT op wd vs) (givesN op) (riskB op) := by
  unfold nodeT
  rw [if_neg (by rw [suits_down hs hf]; simp)]
  split
  · exact sound_zero
  · exact sound_do op wd h3 h20 vs
theorem typeN_zero (cols : List Col) (x : Ex) (rs : List (Int × Int)) (h : (typeN cols x rs).2 ≠ 0) : (typeN cols x rs).1 = 0 := by
  unfold typeN at *
  by_cases h1 : firstI rs = 0
  · simp only [h1, ne_eq, not_true_eq_false, ↓reduceIte] at h ⊢
    by_cases h2 : formE x = 0
    · simp only [h2, ne_eq, not_true_eq_false, ↓reduceIte] at h ⊢
      by_cases h3 : x.op = 1
      · simp only [h3, ↓reduceIte] at h; exact absurd trivial h
      · simp only [h3, ↓reduceIte] at h ⊢
        by_cases h4 : x.op = 2
        · simp only [h4, ↓reduceIte] at h ⊢
          unfold typeCol at *
          by_cases h5 : placeK x.name cols < cols.length
          · simp only [h5, ↓reduceIte] at h; exact absurd trivial h
          · simp only [h5, ↓reduceIte]
        · simp only [h4, ↓reduceIte] at h ⊢
          by_cases h5 : suitsB x.op (rs.map (·.1)) = false
          · simp only [h5, ↓reduceIte]
          · rw [if_neg h5] at h; exact absurd rfl h
    · simp only [h2, ne_eq, not_false_eq_true, ↓reduceIte]
  · simp only [h1, ne_eq, not_false_eq_true, ↓reduceIte]
theorem Tr.type_zero (cols : List Col) : ∀ t : Tr, (t.type cols).2 ≠ 0 → (t.type cols).1 = 0
  | .mk op v name width args, h => by
    unfold Tr.type at *
    exact typeN_zero _ _ _ h
section
variable (cols : List Col) (row : List Val)
mutual
theorem Tr.sound (hf : fitsB cols row = true) : ∀ t : Tr, (t.type cols).2 = 0 → Sound (t.eval cols row) (t.type cols).1 (!t.safe)
  | .mk op v name width args, h => by
    unfold Tr.type typeN at h ⊢
    unfold Tr.eval evalN Tr.safe
    by_cases h1 : firstI (Tr.types cols args) = 0
    · simp only [h1, ne_eq, not_true_eq_false, ↓reduceIte] at h ⊢
      by_cases h2 : formE ⟨op, v, name, width, none, args.length, 0⟩ = 0
      · simp only [h2, ne_eq, not_true_eq_false, ↓reduceIte] at h ⊢
        rcases Tr.sounds hf args h1 with ⟨he, hfit⟩ | ⟨he, hs⟩
        · simp only [he, not_true_eq_false, ↓reduceIte]
          by_cases h3 : op = 1
          · simp only [h3, ↓reduceIte]
            left
            refine ⟨rfl, ?_, .inr rfl⟩
            unfold formE at h2
            simp only [h3] at h2
            by_cases hg : good v = true
            · exact hg
            · exfalso
              rw [if_neg (by simp [hg]), if_neg (by simp [isOp])] at h2
              split at h2 <;> omega
          · simp only [h3, ↓reduceIte] at h ⊢
            by_cases h4 : op = 2
            · simp only [h4, ↓reduceIte] at h ⊢
              unfold typeCol at h ⊢
              by_cases h5 : placeK name cols < cols.length
              · simp only [h5, ↓reduceIte]
                have h6 : placeK name cols < row.length := by rw [← fits_len hf]; exact h5
                have e2 : row.getD (placeK name cols) zeroVal = row[placeK name cols] := by rw [List.getD_eq_getElem?_getD, List.getElem?_eq_getElem h6]; rfl
                have e3 : cols.getD (placeK name cols) ⟨ByteArray.empty, 0⟩ = cols[placeK name cols] := by rw [List.getD_eq_getElem?_getD, List.getElem?_eq_getElem h5]; rfl
                obtain ⟨g1, g2⟩ := fits_at hf h6
                unfold colR
                rw [if_pos ⟨h5, h6⟩, e2, if_pos g1, e3]
                left
                refine ⟨rfl, g1, ?_⟩
                rcases g2 with g2 | ⟨c, g2, g3⟩
                · exact .inl g2
                · right
                  rw [List.getElem?_eq_getElem h5] at g2
                  injection g2 with g2
                  rw [g2]
                  exact g3
              · simp only [h5, ↓reduceIte] at h
                exact absurd h (by decide)
            · simp only [h4, ↓reduceIte] at h ⊢
              by_cases h5 : suitsB op ((Tr.types cols args).map (·.1)) = false
              · simp only [h5, ↓reduceIte] at h
                exact absurd h (by decide)
              · simp only [h5, ↓reduceIte]
                have hz := formE_zero h2 h4 h3
                have hop : 3 ≤ op ∧ op ≤ 20 := by simpa [isOp] using hz.1
                have k := sound_node op width hop.1 hop.2 _ _ (by simpa using h5) hfit
                rcases k with k | ⟨k, kr⟩
                · exact .inl k
                · exact .inr ⟨k, by rw [kr]; rfl⟩
        · right
          have hne : ¬ firstE (Tr.evals cols row args) = 0 := by omega
          simp only [hne, not_false_eq_true, ↓reduceIte]
          exact ⟨he, by rw [hs]; simp⟩
      · simp only [h2, ne_eq, not_false_eq_true, ↓reduceIte] at h
    · simp only [h1, ne_eq, not_false_eq_true, ↓reduceIte] at h
theorem Tr.sounds (hf : fitsB cols row = true) : ∀ ts : List Tr, firstI (Tr.types cols ts) = 0 → (firstE (Tr.evals cols row ts) = 0 ∧ Fit ((Tr.types cols ts).map (·.1)) ((Tr.evals cols row ts).map (·.1))) ∨ ((firstE (Tr.evals cols row ts) = 43 ∨ firstE (Tr.evals cols row ts) = 44) ∧ Tr.safes ts = false)
  | [], _ => by
    left
    simp [Tr.types, Tr.evals, firstE, Fit]
  | t :: ts, h => by
    unfold Tr.types firstI at h
    unfold Tr.types Tr.evals firstE Tr.safes
    by_cases h1 : (t.type cols).2 = 0
    · simp only [h1, ne_eq, not_true_eq_false, ↓reduceIte] at h
      rcases Tr.sound hf t h1 with ⟨k1, k2, k3⟩ | ⟨k1, k2⟩
      · simp only [k1, ne_eq, not_true_eq_false, ↓reduceIte]
        rcases Tr.sounds hf ts h with ⟨j1, j2⟩ | ⟨j1, j2⟩
        · exact .inl ⟨j1, k2, k3, j2⟩
        · exact .inr ⟨j1, by rw [j2]; simp⟩
      · right
        have hne : ¬ (t.eval cols row).2 = 0 := by omega
        simp only [hne, ne_eq, not_false_eq_true, ↓reduceIte]
        refine ⟨k1, ?_⟩
        have : t.safe = false := by simpa using k2
        rw [this]
        rfl
    · simp only [h1, ne_eq, not_false_eq_true, ↓reduceIte] at h
end
end
end Go.Proofs.Ytlfahfoffdbpfaa
