/- The cells of a row of one's own. -/
import Derived.Test.YtcmkfjepikncnaaDoorOwn
namespace Go.Proofs.YtcmkfjepikncnaaDoor
open Go.RowKit
set_option linter.unusedVariables false
theorem flat_cell {α : Type} {f : α → List Value} {size : Nat} (hf : ∀ x, (f x).length = size) : ∀ (l : List α) (k : Nat) (x : α), l[k]? = some x → ∀ r u, (f x)[r]? = some u → (l.flatMap f)[k * size + r]? = some u
  | [], k, x, h, _, _, _ => by simp at h
  | y :: l, 0, x, h, r, u, hu => by
    simp at h; subst h
    have hr : r < (f y).length := by
      rcases Nat.lt_or_ge r (f y).length with h' | h'
      · exact h'
      · rw [List.getElem?_eq_none h'] at hu; cases hu
    rw [Nat.zero_mul, Nat.zero_add, List.flatMap_cons, List.getElem?_append_left hr]
    exact hu
  | y :: l, k + 1, x, h, r, u, hu => by
    have := flat_cell hf l k x (by simpa using h) r u hu
    rw [List.flatMap_cons, List.getElem?_append_right (by rw [hf, Nat.succ_mul]; omega), hf]
    rw [show (k + 1) * size + r - size = k * size + r by rw [Nat.succ_mul]; omega]
    exact this
section
variable {α : Type} {f : α → List Value} {e : TypeId} {size : Nat} {w w' : World} {base : Nat} {v : Value} {l : List α}
theorem OwnF.cell (hf : ∀ x, (f x).length = size) (h : OwnF f e size w base v l) {k : Nat} {x : α} (hk : l[k]? = some x) :
    ∃ g c, v = .slice (some ⟨g, 0, none⟩) l.length c ∧ base ≤ g ∧ g < w.heap.size ∧ ∀ r u, (f x)[r]? = some u → w.cell? ⟨g, k * size + r, none⟩ = some u := by
  have hkl : k < l.length := by
    rcases Nat.lt_or_ge k l.length with h' | h'
    · exact h'
    · rw [List.getElem?_eq_none h'] at hk; cases hk
  rcases h.2 with ⟨_, h0⟩ | ⟨g, cap, cur, rfl, hb, hg, hn, hm, hs, ht⟩
  · omega
  · have hlt : g < w.heap.size := by
      rcases Nat.lt_or_ge g w.heap.size with h' | h'
      · exact h'
      · rw [Array.getElem?_eq_none h'] at hg; cases hg
    refine ⟨g, cap, rfl, hb, hlt, fun r u hu => ?_⟩
    have h1 := flat_cell hf l k x hk r u hu
    rw [← ht] at h1
    have h2 : cur[k * size + r]? = some u := by
      rw [List.getElem?_take] at h1
      split at h1
      · simpa using h1
      · cases h1
    unfold World.cell?
    simp [hg, h2]
/-- the slice's own form -/
theorem OwnF.form (h : OwnF f e size w base v l) : ∃ A c, v = .slice A l.length c := by
  obtain ⟨A, c, hv, _⟩ := h.reads
  exact ⟨A, c, hv⟩
end
end Go.Proofs.YtcmkfjepikncnaaDoor
