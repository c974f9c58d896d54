/- ValueSorts: the walk. -/
import Derived.Test.YtekedkbjnedhgaaDoorSort1
namespace Go.Proofs.YtekedkbjnedhgaaDoor
open Go.ChangeShapes Go.WideShapes Go.ChangeAt Go.RowKit
set_option linter.unusedVariables false
set_option linter.unusedSimpArgs false
set_option maxRecDepth 100000

theorem perm_sorted : ∀ {x y : List (List Val)}, x.Pairwise (fun a b => rcmp a b ≤ 0) → y.Pairwise (fun a b => rcmp a b ≤ 0) → x.Perm y → x = y
  | [], y, _, _, h => (List.nil_perm.1 h).symm
  | a :: x, [], _, _, h => absurd (List.perm_nil.1 h) (by simp)
  | a :: x, b :: y, hx, hy, h => by
    have ha : a ∈ b :: y := h.mem_iff.1 (by simp)
    have hb : b ∈ a :: x := h.mem_iff.2 (by simp)
    have e1 : rcmp a b ≤ 0 := by
      rcases List.mem_cons.1 hb with rfl | hb
      · rw [rcmp_refl]; omega
      · exact (List.pairwise_cons.1 hx).1 b hb
    have e2 : rcmp b a ≤ 0 := by
      rcases List.mem_cons.1 ha with rfl | ha
      · rw [rcmp_refl]; omega
      · exact (List.pairwise_cons.1 hy).1 a ha
    have e3 : a = b := rcmp_zero _ _ (by have := rcmp_anti a b; omega)
    subst e3
    rw [perm_sorted (List.pairwise_cons.1 hx).2 (List.pairwise_cons.1 hy).2 (List.perm_cons a |>.1 h)]
/-- how many rows are like x -/
def cnt (L : List RowS) (x : List Val) : Nat := L.countP fun r => rcmp r.l x == 0
theorem cnt_step (L : List RowS) (x : List Val) (k : Nat) (hk : k < L.length) : cnt (L.take (k + 1)) x = cnt (L.take k) x + if rcmp L[k].l x = 0 then 1 else 0 := by
  unfold cnt
  rw [List.take_add_one, List.getElem?_eq_getElem hk, List.countP_append]
  simp [List.countP_cons]
theorem cnt_le (L : List RowS) (x : List Val) : cnt L x ≤ L.length := List.countP_le_length
theorem cnt_perm {L M : List RowS} (h : (L.map (·.l)).Perm (M.map (·.l))) (x : List Val) : cnt L x = cnt M x := by
  have := h.countP_eq (fun y => rcmp y x == 0)
  rw [List.countP_map, List.countP_map] at this
  exact this
theorem cnt_pos {L : List RowS} (i : Nat) (hi : i < L.length) : 0 < cnt L L[i].l := List.countP_pos_iff.2 ⟨L[i], List.getElem_mem hi, by simp [rcmp_refl]⟩
theorem map_pairwise {L : List RowS} (h : L.Pairwise le) : (L.map (·.l)).Pairwise fun a b => rcmp a b ≤ 0 := List.pairwise_map.2 h
end Go.Proofs.YtekedkbjnedhgaaDoor
