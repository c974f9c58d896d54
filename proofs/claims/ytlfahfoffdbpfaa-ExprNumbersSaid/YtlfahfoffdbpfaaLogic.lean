/- ExprLogic: the words and, or, not are those of three values. -/
import Derived.Test.YtlfahfoffdbpfaaWakes15
namespace Go.Proofs.Ytlfahfoffdbpfaa
open Go.ChangeShapes Go.WideShapes Go.ChangeAt Go.RowKit
set_option linter.unusedVariables false
set_option linter.unusedSimpArgs false

/-- FALSE, TRUE or Null -/
def tri (k : Nat) : Val := if k = 2 then zeroVal else ⟨1, (k : Int), ByteArray.empty⟩
def and3 (a b : Nat) : Nat := if a = 0 ∨ b = 0 then 0 else if a = 2 ∨ b = 2 then 2 else 1
def or3' (a b : Nat) : Nat := if a = 1 ∨ b = 1 then 1 else if a = 2 ∨ b = 2 then 2 else 0
def not3 (a : Nat) : Nat := if a = 2 then 2 else 1 - a
theorem truth_tri (k : Int) (h0 : 0 ≤ k) : ∃ a, a < 3 ∧ truthV k = tri a := by
  have : k % 3 = 0 ∨ k % 3 = 1 ∨ k % 3 = 2 := by omega
  rcases this with h | h | h
  · exact ⟨0, by omega, by simp [truthV, tri, h]⟩
  · exact ⟨1, by omega, by simp [truthV, tri, h]⟩
  · exact ⟨2, by omega, by simp [truthV, tri, h]⟩
theorem three {a : Nat} (h : a < 3) : a = 0 ∨ a = 1 ∨ a = 2 := by omega
theorem eval_and {a b : Nat} (ha : a < 3) (hb : b < 3) : evalR ⟨16, zeroVal, ByteArray.empty, 0, none, 2, 0⟩ [tri a, tri b] = (tri (and3 a b), 0) := by
  rcases three ha with rfl | rfl | rfl <;> rcases three hb with rfl | rfl | rfl <;> kernel_rfl
theorem eval_or {a b : Nat} (ha : a < 3) (hb : b < 3) : evalR ⟨17, zeroVal, ByteArray.empty, 0, none, 2, 0⟩ [tri a, tri b] = (tri (or3' a b), 0) := by
  rcases three ha with rfl | rfl | rfl <;> rcases three hb with rfl | rfl | rfl <;> kernel_rfl
theorem eval_not {a : Nat} (ha : a < 3) : evalR ⟨4, zeroVal, ByteArray.empty, 0, none, 1, 0⟩ [tri a] = (tri (not3 a), 0) := by
  rcases three ha with rfl | rfl | rfl <;> kernel_rfl
theorem tri_good {a : Nat} (ha : a < 3) : good (tri a) = true := by rcases three ha with rfl | rfl | rfl <;> kernel_rfl
theorem tri_ok {a : Nat} (ha : a < 3) : (tri a).Ok ∧ 0 ≤ (tri a).n ∧ (tri a).n ≤ 1 := by rcases three ha with rfl | rfl | rfl <;> exact ⟨⟨by decide, by decide⟩, by decide, by decide⟩
theorem and_lt {a b : Nat} : and3 a b < 3 := by unfold and3; split <;> (try split) <;> omega
theorem or_lt {a b : Nat} : or3' a b < 3 := by unfold or3'; split <;> (try split) <;> omega
theorem not_lt {a : Nat} : not3 a < 3 := by unfold not3; split <;> omega
theorem rank_and {a b : Nat} (ha : a < 3) (hb : b < 3) : rankV (tri (and3 a b)) = min (rankV (tri a)) (rankV (tri b)) := by
  rcases three ha with rfl | rfl | rfl <;> rcases three hb with rfl | rfl | rfl <;> kernel_rfl
theorem rank_or {a b : Nat} (ha : a < 3) (hb : b < 3) : rankV (tri (or3' a b)) = max (rankV (tri a)) (rankV (tri b)) := by
  rcases three ha with rfl | rfl | rfl <;> rcases three hb with rfl | rfl | rfl <;> kernel_rfl
theorem rank_not {a : Nat} (ha : a < 3) : rankV (tri (not3 a)) = 2 - rankV (tri a) := by
  rcases three ha with rfl | rfl | rfl <;> kernel_rfl
theorem dist3 {a b c : Nat} (ha : a < 3) (hb : b < 3) (hc : c < 3) : and3 a (or3' b c) = or3' (and3 a b) (and3 a c) := by
  rcases three ha with rfl | rfl | rfl <;> rcases three hb with rfl | rfl | rfl <;> rcases three hc with rfl | rfl | rfl <;> rfl
theorem morgan {a b : Nat} (ha : a < 3) (hb : b < 3) : not3 (and3 a b) = or3' (not3 a) (not3 b) := by
  rcases three ha with rfl | rfl | rfl <;> rcases three hb with rfl | rfl | rfl <;> rfl

theorem rv_two {w : World} {g : Nat} {u v : Val} (h : Blk w g 23 #[.int .u8 u.k, .int .i64 u.n, .string u.s, .int .u8 v.k, .int .i64 v.n, .string v.s]) : RV w w.heap.size (some ⟨g, 0, none⟩) [u, v] := by
  refine .inr ⟨g, 0, rfl, h.lt, fun i x hx => ?_⟩
  match i, hx with
  | 0, hx => simp at hx; subst hx; exact ⟨h.cell 0, h.cell 1, h.cell 2⟩
  | 1, hx => simp at hx; subst hx; exact ⟨h.cell 3, h.cell 4, h.cell 5⟩
  | (n + 2), hx => simp at hx
theorem rv_one {w : World} {g : Nat} {u : Val} (h : Blk w g 23 #[.int .u8 u.k, .int .i64 u.n, .string u.s]) : RV w w.heap.size (some ⟨g, 0, none⟩) [u] := by
  refine .inr ⟨g, 0, rfl, h.lt, fun i x hx => ?_⟩
  match i, hx with
  | 0, hx => simp at hx; subst hx; exact ⟨h.cell 0, h.cell 1, h.cell 2⟩
  | (n + 1), hx => simp at hx
theorem worth_two (op : Int) (hop : op ≠ 2) {a b r : Nat} (ha : a < 3) (hb : b < 3) (hr : evalR ⟨op, zeroVal, ByteArray.empty, 0, none, 2, 0⟩ [tri a, tri b] = (tri r, 0)) (g : Nat) (w : World) (h : Blk w g 23 #[.int .u8 (tri a).k, .int .i64 (tri a).n, .string (tri a).s, .int .u8 (tri b).k, .int .i64 (tri b).n, .string (tri b).s]) :
    Calls Try.prog 10 #[.int .u8 op, .slice (some ⟨g, 0, none⟩) 2 2] w fun e w' => e = .returned (.tuple #[.agg #[.int .u8 (tri r).k, .int .i64 (tri r).n, .string (tri r).s], .bool true]) ∧ Below w.heap.size w w' := by
  have k := worth_any op hop (some ⟨g, 0, none⟩) 2 [tri a, tri b] w (rv_two h) (by simp) (by intro v hv; simp at hv; rcases hv with rfl | rfl; exact tri_good ha; exact tri_good hb) (by intro v hv; simp at hv; rcases hv with rfl | rfl; exact (tri_ok ha).1; exact (tri_ok hb).1)
  refine k.mono fun e w' hh => ⟨?_, hh.2⟩
  rw [hh.1]
  show Ending.returned (.tuple #[valV (evalR ⟨op, zeroVal, ByteArray.empty, 0, none, 2, 0⟩ [tri a, tri b]).1, .bool ((evalR ⟨op, zeroVal, ByteArray.empty, 0, none, 2, 0⟩ [tri a, tri b]).2 == 0)]) = _
  rw [hr]
  rfl
theorem worth_one (op : Int) (hop : op ≠ 2) {a r : Nat} (ha : a < 3) (hr : evalR ⟨op, zeroVal, ByteArray.empty, 0, none, 1, 0⟩ [tri a] = (tri r, 0)) (g : Nat) (w : World) (h : Blk w g 23 #[.int .u8 (tri a).k, .int .i64 (tri a).n, .string (tri a).s]) :
    Calls Try.prog 10 #[.int .u8 op, .slice (some ⟨g, 0, none⟩) 1 1] w fun e w' => e = .returned (.tuple #[.agg #[.int .u8 (tri r).k, .int .i64 (tri r).n, .string (tri r).s], .bool true]) ∧ Below w.heap.size w w' := by
  have k := worth_any op hop (some ⟨g, 0, none⟩) 1 [tri a] w (rv_one h) (by simp) (by intro v hv; simp at hv; subst hv; exact tri_good ha) (by intro v hv; simp at hv; subst hv; exact (tri_ok ha).1)
  refine k.mono fun e w' hh => ⟨?_, hh.2⟩
  rw [hh.1]
  show Ending.returned (.tuple #[valV (evalR ⟨op, zeroVal, ByteArray.empty, 0, none, 1, 0⟩ [tri a]).1, .bool ((evalR ⟨op, zeroVal, ByteArray.empty, 0, none, 1, 0⟩ [tri a]).2 == 0)]) = _
  rw [hr]
  rfl
theorem ltruth_tri (k : Int) (h0 : 0 ≤ k) (h1 : k ≤ 255) : ∃ a, a < 3 ∧ ∀ w, Calls Try.prog 9 #[.int .u8 k] w fun e w' => e = .returned (.agg #[.int .u8 (tri a).k, .int .i64 (tri a).n, .string (tri a).s]) ∧ Below w.heap.size w w' := by
  obtain ⟨a, ha, e⟩ := truth_tri k h0
  refine ⟨a, ha, fun w => ?_⟩
  have := ltruth_any k h0 h1 w
  rw [e] at this
  exact this
end Go.Proofs.Ytlfahfoffdbpfaa
