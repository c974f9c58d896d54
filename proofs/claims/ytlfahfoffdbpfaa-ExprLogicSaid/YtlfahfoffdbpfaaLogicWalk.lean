/- ExprLogic: the walk, as the frame wants it. -/
import Derived.Test.YtlfahfoffdbpfaaLogic2
import Derived.Test.YtlfahfoffdbpfaaOpen15
namespace Go.Proofs.Ytlfahfoffdbpfaa
open Go.ChangeShapes Go.WideShapes Go.ChangeAt Go.RowKit
set_option linter.unusedVariables false
set_option maxRecDepth 100000
theorem rk_tri {a : Nat} (ha : a < 3) : Rk (tri a) (rankV (tri a)) := fun w => rank_any (tri a) (tri_ok ha).2.1 (tri_ok ha).2.2 w
theorem rank_bounds {a : Nat} (ha : a < 3) : 0 ≤ rankV (tri a) ∧ rankV (tri a) ≤ 2 := by rcases three ha with rfl | rfl | rfl <;> decide
theorem exprLogic_any (k0 k1 k2 : Int) (b0 : 0 ≤ k0 ∧ k0 ≤ 255) (b1 : 0 ≤ k1 ∧ k1 ≤ 255) (b2 : 0 ≤ k2 ∧ k2 ≤ 255) (w : World) :
    Calls Try.prog 3 #[.int .u8 k0, .int .u8 k1, .int .u8 k2] w fun e w' => e = .returned (.bool true) ∧ Below w.heap.size w w' := by
  obtain ⟨a, ha, hx⟩ := ltruth_tri k0 b0.1 b0.2
  obtain ⟨b, hb, hy⟩ := ltruth_tri k1 b1.1 b1.2
  obtain ⟨c, hc, hz⟩ := ltruth_tri k2 b2.1 b2.2
  have w2 : ∀ {p q r : Nat} (op : Int), op ≠ 2 → p < 3 → q < 3 → evalR ⟨op, zeroVal, ByteArray.empty, 0, none, 2, 0⟩ [tri p, tri q] = (tri r, 0) → W2 op (tri p) (tri q) (tri r) true := fun op h hp hq hr g w hB => worth_two op h hp hq hr g w hB
  have w1 : ∀ {p r : Nat} (op : Int), op ≠ 2 → p < 3 → evalR ⟨op, zeroVal, ByteArray.empty, 0, none, 1, 0⟩ [tri p] = (tri r, 0) → W1 op (tri p) (tri r) true := fun op h hp hr g w hB => worth_one op h hp hr g w hB
  have kp := rk_tri (and_lt (a := a) (b := b))
  have kq := rk_tri (or_lt (a := a) (b := b))
  have kr := rk_tri (not_lt (a := a))
  rw [rank_and ha hb, Int.min_def] at kp
  rw [rank_or ha hb, Int.max_def] at kq
  rw [rank_not ha] at kr
  have e1 : (if rankV (tri a) ≤ rankV (tri b) then rankV (tri a) else rankV (tri b)) = (if rankV (tri b) < rankV (tri a) then rankV (tri b) else rankV (tri a)) := by split <;> split <;> omega
  have e2 : (if rankV (tri a) ≤ rankV (tri b) then rankV (tri b) else rankV (tri a)) = (if rankV (tri a) < rankV (tri b) then rankV (tri b) else rankV (tri a)) := by split <;> split <;> omega
  rw [e1] at kp
  rw [e2] at kq
  have h7 := w2 (p := and3 a b) (q := and3 a c) 17 (by decide) and_lt and_lt (eval_or and_lt and_lt)
  rw [← dist3 ha hb hc] at h7
  have h10 := w2 (p := not3 a) (q := not3 b) 17 (by decide) not_lt not_lt (eval_or not_lt not_lt)
  rw [← morgan ha hb] at h10
  exact logic_core k0 k1 k2 (tri a) (tri b) (tri c) (tri (and3 a b)) (tri (or3' a b)) (tri (not3 a)) (tri (or3' b c)) (tri (and3 a (or3' b c))) (tri (and3 a c)) (tri (not3 b)) (tri (not3 (and3 a b))) (rankV (tri a)) (rankV (tri b)) hx hy hz
    (w2 16 (by decide) ha hb (eval_and ha hb)) (w2 17 (by decide) ha hb (eval_or ha hb)) (w1 4 (by decide) ha (eval_not ha)) (w2 17 (by decide) hb hc (eval_or hb hc)) (w2 16 (by decide) ha or_lt (eval_and ha or_lt)) (w2 16 (by decide) ha hc (eval_and ha hc)) h7
    (w1 4 (by decide) hb (eval_not hb)) (w1 4 (by decide) and_lt (eval_not and_lt)) h10 (rk_tri ha) (rk_tri hb) kp kq kr (rank_bounds ha).1 (rank_bounds ha).2 (rank_bounds hb).1 (rank_bounds hb).2 w
theorem logic_walk {H : Type} (enc : TypeId × Value → H) (W : World) (base : Nat) (v0 v1 v2 : Value) (d0 d1 d2 : DataW H) (p0 p1 p2 : List MemPlace)
    (ok0 : Value.okWide Try.prog W .any base 5 v0) (ok1 : Value.okWide Try.prog W .any base 5 v1) (ok2 : Value.okWide Try.prog W .any base 5 v2)
    (k0 : DataW.Trod enc Try.prog W 0 (fun _ => true) true 5 v0 d0 p0) (k1 : DataW.Trod enc Try.prog W 0 (fun _ => true) true 5 v1 d1 p1) (k2 : DataW.Trod enc Try.prog W 0 (fun _ => true) true 5 v2 d2 p2) :
    Calls Try.prog 3 #[v0, v1, v2] W fun e w' => e = .returned (.bool true) ∧ Below W.heap.size W w' := by
  obtain ⟨a, rfl, ha⟩ := u8_open ok0 k0
  obtain ⟨b, rfl, hb⟩ := u8_open ok1 k1
  obtain ⟨c, rfl, hc⟩ := u8_open ok2 k2
  exact exprLogic_any a b c ha hb hc W
end Go.Proofs.Ytlfahfoffdbpfaa
