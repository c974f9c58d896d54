/- ExprOrders: what comparisons are worth, plain. -/
import Derived.Test.YtlfahfoffdbpfaaLogic2
namespace Go.Proofs.Ytlfahfoffdbpfaa
open Go.ChangeShapes Go.WideShapes Go.ChangeAt Go.RowKit
set_option linter.unusedVariables false
set_option linter.unusedSimpArgs false

def ordB (k : Nat) (c : Int) : Bool := match k with | 0 => decide (c = 0) | 1 => !decide (c = 0) | 2 => decide (c < 0) | 3 => decide (c ≤ 0) | 4 => decide (0 < c) | _ => decide (0 ≤ c)
theorem six {k : Nat} (h : k < 6) : k = 0 ∨ k = 1 ∨ k = 2 ∨ k = 3 ∨ k = 4 ∨ k = 5 := by omega
theorem suits_ord {k : Nat} (hk : k < 6) (a b : Val) (h : a.k = b.k ∨ a.k = 0 ∨ b.k = 0) : suitsB (10 + k) [a.k, b.k] = true := by
  rcases six hk with rfl | rfl | rfl | rfl | rfl | rfl <;> (simp [suitsB, wantsN, alikeB, goes2]; omega)
theorem ord_null {k : Nat} (hk : k < 6) (a b : Val) (h : a.k = 0 ∨ b.k = 0) : evalR ⟨10 + k, zeroVal, ByteArray.empty, 0, none, 2, 0⟩ [a, b] = (zeroVal, 0) := by
  have hs := suits_ord hk a b (.inr h)
  have hf : formE ⟨10 + k, zeroVal, ByteArray.empty, 0, none, 2, 0⟩ = 0 := by rcases six hk with rfl | rfl | rfl | rfl | rfl | rfl <;> kernel_rfl
  unfold evalR
  rw [if_neg (by rw [hf]; simp), if_neg (by show ¬ ((10 + k : Int) = 1); omega)]
  unfold nodeT
  simp only [List.map_cons, List.map_nil]
  rw [if_neg (by rw [hs]; simp), if_pos]
  refine ⟨?_, by simp; exact h⟩
  simp [nullsB]; omega
theorem ord_cmp {k : Nat} (hk : k < 6) (a b : Val) (h : a.k = b.k) (h0 : a.k ≠ 0) : evalR ⟨10 + k, zeroVal, ByteArray.empty, 0, none, 2, 0⟩ [a, b] = (boolV (ordB k (vcmp a b)), 0) := by
  have hs := suits_ord hk a b (.inl h)
  have hf : formE ⟨10 + k, zeroVal, ByteArray.empty, 0, none, 2, 0⟩ = 0 := by rcases six hk with rfl | rfl | rfl | rfl | rfl | rfl <;> kernel_rfl
  unfold evalR
  rw [if_neg (by rw [hf]; simp), if_neg (by show ¬ ((10 + k : Int) = 1); omega)]
  unfold nodeT
  simp only [List.map_cons, List.map_nil]
  rw [if_neg (by rw [hs]; simp), if_neg (by intro hh; have := hh.2; simp at this; omega)]
  rcases six hk with rfl | rfl | rfl | rfl | rfl | rfl <;> rfl
theorem cmp_three (a b : Val) : vcmp a b = -1 ∨ vcmp a b = 0 ∨ vcmp a b = 1 := by
  have hI : ∀ x y, cmpI x y = -1 ∨ cmpI x y = 0 ∨ cmpI x y = 1 := fun x y => by unfold cmpI; repeat (first | omega | split)
  have hS : ∀ x y, cmpS x y = -1 ∨ cmpS x y = 0 ∨ cmpS x y = 1 := fun x y => by unfold cmpS; repeat (first | omega | split)
  unfold vcmp or3
  have h1 := hI a.k b.k
  have h2 := hI a.n b.n
  have h3 := hS a.s b.s
  repeat (first | omega | split)
/-- is it a case that the law passes by? -/
def skipB (a b : Val) : Bool := decide (5000 < wrap64 (a.s.size + b.s.size)) || (!good a || (!good b || (a.k != b.k && (a.k != 0 && b.k != 0))))
theorem w2_of (op : Int) (hop : op ≠ 2) (x y : Val) (gx : good x = true) (gy : good y = true) (ox : x.Ok) (oy : y.Ok) (r : Val × Int) (hr : evalR ⟨op, zeroVal, ByteArray.empty, 0, none, 2, 0⟩ [x, y] = r) : W2 op x y r.1 (r.2 == 0) := by
  intro g w h
  have k := worth_any op hop (some ⟨g, 0, none⟩) 2 [x, y] w (rv_two h) (by simp) (by intro v hv; simp at hv; rcases hv with rfl | rfl; exact gx; exact gy) (by intro v hv; simp at hv; rcases hv with rfl | rfl; exact ox; exact oy)
  subst hr
  exact k
end Go.Proofs.Ytlfahfoffdbpfaa
