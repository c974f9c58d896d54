/- Two values, compared by ==. -/
import Derived.Test.YtekedkbjnedhgaaDoorOrdP
namespace Go.Proofs.YtekedkbjnedhgaaDoor
open Go.ChangeShapes Go.WideShapes Go.ChangeAt Go.RowKit
set_option linter.unusedVariables false
set_option linter.unusedSimpArgs false
theorem eqv_run (a b : Val) (u : World) : (binOp .eql 23 (.agg #[.int .u8 a.k, .int .i64 a.n, .string a.s]) (.agg #[.int .u8 b.k, .int .i64 b.n, .string b.s])).run Tryd.prog u = .ok (.bool (vcmp a b == 0)) u := by
  classical
  have key : (vcmp a b == 0) = decide (a = b) := by
    by_cases h : a = b
    · rw [decide_eq_true h]; simpa using (vcmp_eq a b).2 h
    · rw [decide_eq_false h]; simpa using fun e => h ((vcmp_eq a b).1 e)
  rw [key]
  simp [go_sem]
  obtain ⟨k, n, s⟩ := a
  obtain ⟨k', n', s'⟩ := b
  dsimp only
  by_cases h1 : k = k'
  · rw [if_pos h1]
    by_cases h2 : n = n'
    · rw [if_pos h2]
      by_cases h3 : s.toList = s'.toList
      · rw [if_pos h3]
        rw [ByteArray.toList_eq, ByteArray.toList_eq] at h3
        rw [decide_eq_true (by rw [h1, h2, Go.WideShapes.bytes_inj h3])]
      · rw [if_neg h3, decide_eq_false (fun e => h3 (by injection e with _ _ e; rw [e]))]
    · rw [if_neg h2, decide_eq_false (fun e => h2 (by injection e))]
  · rw [if_neg h1, decide_eq_false (fun e => h1 (by injection e))]
end Go.Proofs.YtekedkbjnedhgaaDoor
