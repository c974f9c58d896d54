/- Plain: quotes doubled. -/
import Derived.Test.YtekedkbjnedhgaaDoorVal
import Derived.Test.YtekedkbjnedhgaaDoorShelf
namespace Go.Proofs.YtekedkbjnedhgaaDoor
open Go.RowKit
set_option linter.unusedVariables false

def esc : List UInt8 → List UInt8
  | [] => []
  | b :: l => if b = 39 then 39 :: 39 :: esc l else b :: esc l
theorem esc_len : ∀ l : List UInt8, (esc l).length ≤ 2 * l.length
  | [] => by simp [esc]
  | b :: l => by
    have := esc_len l
    unfold esc
    split <;> simp <;> omega
theorem replaceK_esc : ∀ s : List UInt8, Lib.replaceK [39] [39, 39] (Lib.count s [39]) s = esc s
  | [] => by rfl
  | b :: l => by
    have ih := replaceK_esc l
    by_cases hb : b = 39
    · subst hb
      rw [Lib.count_cons_eq, Nat.add_comm, Lib.replaceK_hit _ _ _ _ 0 (by simp [Lib.index])]
      simp only [List.take_zero, List.nil_append, List.length_cons, List.length_nil, Nat.zero_add, List.drop_succ_cons, List.drop_zero]
      rw [ih]
      simp [esc]
    · rw [Lib.count_cons_ne _ _ _ hb]
      cases hk : Lib.count l [39] with
      | zero =>
        rw [hk] at ih
        simp only [Lib.replaceK] at ih ⊢
        simp [esc, hb, ← ih]
      | succ k =>
        obtain ⟨i, hi⟩ := Lib.index_of_count (s := l) (old := [39]) (by omega)
        rw [hk, Lib.replaceK_hit _ _ _ _ i hi] at ih
        have hi2 : Lib.index (b :: l) [39] = ((i + 1 : Nat) : Int) := by
          have hne : (39 : UInt8) ≠ b := fun e => hb e.symm
          simp [Lib.index, List.isPrefixOf, hne, hi]
        rw [Lib.replaceK_hit _ _ _ _ (i + 1) hi2]
        simp only [List.take_succ_cons, List.cons_append, List.length_cons, List.length_nil, Nat.zero_add] at ih ⊢
        rw [show i + 1 + 1 = (i + 1) + 1 from rfl, List.drop_succ_cons, ih]
        simp [esc, hb]
theorem replaceAll_esc (s : List UInt8) : Lib.replaceAll s [39] [39, 39] = esc s := by
  unfold Lib.replaceAll Lib.replace
  rw [if_neg (by decide)]
  unfold Lib.replaceNum
  rw [if_pos (.inl (by decide))]
  exact replaceK_esc s

end Go.Proofs.YtekedkbjnedhgaaDoor
