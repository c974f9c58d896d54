/- What operations are worth, plain: for the document's answer. -/
import Derived.Test.YtlfahfoffdbpfaaSafe2
import Derived.Test.YtlfahfoffdbpfaaRef1
namespace Go.Proofs.Ytlfahfoffdbpfaa
open Go.ChangeShapes Go.WideShapes Go.ChangeAt Go.RowKit
set_option linter.unusedVariables false
set_option linter.unusedSimpArgs false

theorem good_zero : good zeroVal = true := by kernel_rfl
theorem good_num (n : Int) : good (num n) = true := by kernel_rfl
theorem good_bool (b : Bool) : good (boolV b) = true := by cases b <;> kernel_rfl

/-- what a worth may be: a good value, of a kind or Null; or an error of numbers -/
def Sound (r : Val × Int) (t : Int) (risk : Bool) : Prop := (r.2 = 0 ∧ good r.1 = true ∧ (r.1.k = 0 ∨ r.1.k = t)) ∨ ((r.2 = 43 ∨ r.2 = 44) ∧ risk = true)
theorem sound_num {n : Int} {c : Bool} : Sound (numIf n c) 2 true := by
  cases c
  · exact .inr ⟨.inl rfl, rfl⟩
  · exact .inl ⟨rfl, good_num n, .inr rfl⟩
theorem sound_bool {b : Bool} {risk : Bool} : Sound (boolV b, 0) 1 risk := .inl ⟨rfl, good_bool b, .inr rfl⟩
theorem sound_zero {t : Int} {risk : Bool} : Sound (zeroVal, 0) t risk := .inl ⟨rfl, good_zero, .inl rfl⟩
theorem sound_logic {s : Bool} {l : List Val} {risk : Bool} : Sound (logicT s l, 0) 1 risk := by
  unfold logicT
  repeat (first | exact sound_zero | exact sound_bool | split)
theorem sound_do (op wd : Int) (h3 : 3 ≤ op) (h20 : op ≤ 20) (l : List Val) : Sound (doT op.toNat wd l) (givesN op) (riskB op) := by
  have key : ∀ k : Nat, op.toNat = k → op = (k : Int) := fun k h => by omega
  unfold doT
  split
  case h_6 a b h =>
    have := key _ h
    subst this
    unfold divZ
    split
    · exact .inr ⟨.inr rfl, by decide⟩
    · exact sound_num
  case h_7 a b h =>
    have := key _ h
    subst this
    unfold modZ
    split
    · exact .inr ⟨.inr rfl, by decide⟩
    · exact sound_num
  all_goals first
    | exact sound_zero
    | (rename_i h; have := key _ h; subst this; exact sound_num)
    | (rename_i h; have := key _ h; subst this; exact sound_bool)
    | (rename_i h; have := key _ h; subst this; exact sound_logic)
theorem good_null {v : Val} (h : good v = true) (h0 : v.k = 0) : v.n = 0 ∧ (v.s.toList == []) = true := by
  unfold good at h
  rw [if_pos h0, Bool.and_eq_true] at h
  exact ⟨by simpa using h.1, h.2⟩
theorem good_truth {v : Val} (h : good v = true) (h1 : v.k = 1) : (v.s.toList == []) = true ∧ (v.n = 0 ∨ v.n = 1) := by
  unfold good at h
  rw [if_neg (by omega), if_pos h1, Bool.and_eq_true, Bool.or_eq_true] at h
  exact ⟨h.1, by simpa using h.2⟩

theorem tri_cases {v : Val} (hg : good v = true) (h : goesR v.k 1 = true) : ((v.k == 0) = true ∧ (v.k == 1) = false ∧ (v.n == 0) = true ∧ (v.s.toList == []) = true) ∨ ((v.k == 0) = false ∧ (v.k == 1) = true ∧ (v.n == 0) = true ∧ (v.n == 1) = false ∧ (v.s.toList == []) = true) ∨ ((v.k == 0) = false ∧ (v.k == 1) = true ∧ (v.n == 0) = false ∧ (v.n == 1) = true ∧ (v.s.toList == []) = true) := by
  unfold goesR at h
  simp only [Bool.or_eq_true, beq_iff_eq] at h
  have hk : v.k = 0 ∨ v.k = 1 := by omega
  rcases hk with hk | hk
  · obtain ⟨h1, h2⟩ := good_null hg hk
    left
    exact ⟨by simpa using hk, by rw [hk]; rfl, by simpa using h1, h2⟩
  · obtain ⟨h1, h2⟩ := good_truth hg hk
    right
    rcases h2 with h2 | h2
    · left; exact ⟨by rw [hk]; rfl, by simpa using hk, by simpa using h2, by rw [h2]; rfl, h1⟩
    · right; exact ⟨by rw [hk]; rfl, by simpa using hk, by rw [h2]; rfl, by simpa using h2, h1⟩
theorem empty_list : ByteArray.empty.toList = [] := by kernel_rfl
theorem veq_yes {x : Val} {k n : Int} (h1 : (x.k == k) = true) (h2 : (x.n == n) = true) (h3 : (x.s.toList == []) = true) : valEq ⟨k, n, ByteArray.empty⟩ x = true := by
  simp only [beq_iff_eq] at h1 h2 h3
  unfold valEq
  simp only [h1, h2, h3, empty_list, BEq.rfl, Bool.and_self]
theorem veq_no1 {x : Val} {k n : Int} (h1 : (x.k == k) = false) : valEq ⟨k, n, ByteArray.empty⟩ x = false := by
  have h : ¬ x.k = k := by simpa using h1
  have h' : (k == x.k) = false := by simp; omega
  unfold valEq
  simp only [h', Bool.false_and]
theorem veq_no2 {x : Val} {k n : Int} (h1 : (x.n == n) = false) : valEq ⟨k, n, ByteArray.empty⟩ x = false := by
  have h : ¬ x.n = n := by simpa using h1
  have h' : (n == x.n) = false := by simp; omega
  unfold valEq
  simp only [h', Bool.and_false, Bool.false_and]
theorem logic_hit {short : Bool} {v1 v2 : Val} (h : valEq (boolV short) v1 = true ∨ valEq (boolV short) v2 = true) : logicT short [v1, v2] = boolV short := by
  unfold logicT hasV
  rw [if_pos]
  simpa using h
theorem logic_null {short : Bool} {v1 v2 : Val} (h1 : valEq (boolV short) v1 = false) (h2 : valEq (boolV short) v2 = false) (h : valEq zeroVal v1 = true ∨ valEq zeroVal v2 = true) : logicT short [v1, v2] = zeroVal := by
  unfold logicT hasV
  rw [if_neg (by simp [h1, h2]), if_pos]
  simpa using h
theorem logic_else {short : Bool} {v1 v2 : Val} (h1 : valEq (boolV short) v1 = false) (h2 : valEq (boolV short) v2 = false) (h3 : valEq zeroVal v1 = false) (h4 : valEq zeroVal v2 = false) : logicT short [v1, v2] = boolV (!short) := by
  unfold logicT hasV
  rw [if_neg (by simp [h1, h2]), if_neg (by simp [h3, h4])]
end Go.Proofs.Ytlfahfoffdbpfaa
