/- What the table's function values do. Printed by gen_dois.py. -/
import Derived.Test.YtlfahfoffdbpfaaSuits
namespace Go.Proofs.Ytlfahfoffdbpfaa
open Go.ChangeShapes Go.WideShapes Go.ChangeAt Go.RowKit
set_option linter.unusedVariables false
set_option linter.unusedSimpArgs false

/-- what an operation makes of its arguments -/
def doT (k : Nat) (wd : Int) (l : List Val) : Val × Int :=
  match k, l with
  | 3, [a] => negT a.n
  | 4, [a] => (boolV (a.n == 0), 0)
  | 5, [a, b] => addT a.n b.n
  | 6, [a, b] => subT a.n b.n
  | 7, [a, b] => mulT a.n b.n
  | 8, [a, b] => divZ a.n b.n
  | 9, [a, b] => modZ a.n b.n
  | 10, [a, b] => (boolV (decide (vcmp a b = 0)), 0)
  | 11, [a, b] => (boolV (!decide (vcmp a b = 0)), 0)
  | 12, [a, b] => (boolV (decide (vcmp a b < 0)), 0)
  | 13, [a, b] => (boolV (decide (vcmp a b ≤ 0)), 0)
  | 14, [a, b] => (boolV (decide (0 < vcmp a b)), 0)
  | 15, [a, b] => (boolV (decide (0 ≤ vcmp a b)), 0)
  | 16, l => (logicT false l, 0)
  | 17, l => (logicT true l, 0)
  | 18, [a] => (boolV ((a.k == 0) == true), 0)
  | 19, [a] => (boolV ((a.k == 0) == false), 0)
  | 20, [a] => bucketT a.n wd
  | _, _ => (zeroVal, 0)
/-- the function value d makes r of x and l -/
def DoIs (w : World) (d : Value) (x : Ex) (l : List Val) (r : Val × Int) : Prop := ∃ f caps, d = .func (.func f) #[] caps ∧ (caps = #[] ∨ ∃ p, caps = #[p]) ∧ (∀ (args : Array Value) (w : World), (callFunc f args).run Try.prog w = .ok (.enter f args) w) ∧
  ∀ (W : World) (A : Option Addr) (c : Nat), Below w.heap.size w W → RV W W.heap.size A l → Calls Try.prog f (#[.agg #[.int .u8 x.op, .int .u8 x.v.k, .int .i64 x.v.n, .string x.v.s, .string x.name, .int .i64 x.width, .slice x.A x.n x.c], .slice A l.length c] ++ caps) W fun e w' => e = .returned (ansV r.1 r.2) ∧ Below W.heap.size W w'
theorem enter_d0 (args : Array Value) (w : World) : (callFunc 65 args).run Try.prog w = .ok (.enter 65 args) w := by kernel_rfl
theorem enter_d1 (args : Array Value) (w : World) : (callFunc 67 args).run Try.prog w = .ok (.enter 67 args) w := by kernel_rfl
theorem enter_d2 (args : Array Value) (w : World) : (callFunc 85 args).run Try.prog w = .ok (.enter 85 args) w := by kernel_rfl
theorem enter_d3 (args : Array Value) (w : World) : (callFunc 95 args).run Try.prog w = .ok (.enter 95 args) w := by kernel_rfl
theorem enter_d4 (args : Array Value) (w : World) : (callFunc 97 args).run Try.prog w = .ok (.enter 97 args) w := by kernel_rfl
theorem enter_d5 (args : Array Value) (w : World) : (callFunc 98 args).run Try.prog w = .ok (.enter 98 args) w := by kernel_rfl
theorem enter_d6 (args : Array Value) (w : World) : (callFunc 100 args).run Try.prog w = .ok (.enter 100 args) w := by kernel_rfl
set_option maxHeartbeats 1000000 in
theorem OpIs.does {w : World} {k : Nat} {a wa gi : Int} {al nu : Bool} {d : Value} (h : OpIs w k (.agg (opArr a wa gi al nu d))) (x : Ex) (l : List Val) (hl : (l.length : Int) = a) (hok : ∀ v ∈ l, v.Ok) (hwd : k = 20 → 1 ≤ x.width ∧ x.width ≤ 1099511627776) : DoIs w d x l (doT k x.width l) := by
  have two : a = 2 → ∃ u v, l = [u, v] := fun e => by
    match l, hl with
    | [u, v], _ => exact ⟨u, v, rfl⟩
    | [], h => simp at h; omega
    | [u], h => simp at h; omega
    | u :: v :: z :: r, h => simp at h; omega
  have one : a = 1 → ∃ u, l = [u] := fun e => by
    match l, hl with
    | [u], _ => exact ⟨u, rfl⟩
    | [], h => simp at h; omega
    | u :: v :: r, h => simp at h; omega
  unfold OpIs at h
  split at h
  · simp only [mkOp, opArr, Value.agg.injEq, Array.mk.injEq, List.cons.injEq, Value.int.injEq, Value.bool.injEq, true_and, and_true] at h
    obtain ⟨h1, h2, h3, h4, h5, rfl⟩ := h
    obtain ⟨u, rfl⟩ := one (by omega)
    exact ⟨_, #[], rfl, .inl rfl, enter_d0, fun W A c hb hr => neg_any x A c u W hr⟩
  · simp only [mkOp, opArr, Value.agg.injEq, Array.mk.injEq, List.cons.injEq, Value.int.injEq, Value.bool.injEq, true_and, and_true] at h
    obtain ⟨h1, h2, h3, h4, h5, rfl⟩ := h
    obtain ⟨u, rfl⟩ := one (by omega)
    exact ⟨_, #[], rfl, .inl rfl, enter_d1, fun W A c hb hr => not_any x A c u W hr⟩
  · obtain ⟨q, h, hq⟩ := h
    simp only [mkOp, opArr, Value.agg.injEq, Array.mk.injEq, List.cons.injEq, Value.int.injEq, Value.bool.injEq, true_and, and_true] at h
    obtain ⟨h1, h2, h3, h4, h5, rfl⟩ := h
    obtain ⟨u, v, rfl⟩ := two (by omega)
    exact ⟨_, #[_], rfl, .inr ⟨_, rfl⟩, enter_d3, fun W A c hb hr => do_add x A c q u v W hr (hq.later hb)⟩
  · obtain ⟨q, h, hq⟩ := h
    simp only [mkOp, opArr, Value.agg.injEq, Array.mk.injEq, List.cons.injEq, Value.int.injEq, Value.bool.injEq, true_and, and_true] at h
    obtain ⟨h1, h2, h3, h4, h5, rfl⟩ := h
    obtain ⟨u, v, rfl⟩ := two (by omega)
    exact ⟨_, #[_], rfl, .inr ⟨_, rfl⟩, enter_d3, fun W A c hb hr => do_sub x A c q u v W hr (hq.later hb)⟩
  · obtain ⟨q, h, hq⟩ := h
    simp only [mkOp, opArr, Value.agg.injEq, Array.mk.injEq, List.cons.injEq, Value.int.injEq, Value.bool.injEq, true_and, and_true] at h
    obtain ⟨h1, h2, h3, h4, h5, rfl⟩ := h
    obtain ⟨u, v, rfl⟩ := two (by omega)
    exact ⟨_, #[_], rfl, .inr ⟨_, rfl⟩, enter_d3, fun W A c hb hr => do_times x A c q u v W hr (hq.later hb)⟩
  · obtain ⟨q, q2, h, hq, hq2⟩ := h
    simp only [mkOp, opArr, Value.agg.injEq, Array.mk.injEq, List.cons.injEq, Value.int.injEq, Value.bool.injEq, true_and, and_true] at h
    obtain ⟨h1, h2, h3, h4, h5, rfl⟩ := h
    obtain ⟨u, v, rfl⟩ := two (by omega)
    exact ⟨_, #[_], rfl, .inr ⟨_, rfl⟩, enter_d3, fun W A c hb hr => do_div x A c q u v q2 W hr (hq.later hb) (hq2.later hb)⟩
  · obtain ⟨q, q2, h, hq, hq2⟩ := h
    simp only [mkOp, opArr, Value.agg.injEq, Array.mk.injEq, List.cons.injEq, Value.int.injEq, Value.bool.injEq, true_and, and_true] at h
    obtain ⟨h1, h2, h3, h4, h5, rfl⟩ := h
    obtain ⟨u, v, rfl⟩ := two (by omega)
    exact ⟨_, #[_], rfl, .inr ⟨_, rfl⟩, enter_d3, fun W A c hb hr => do_mod x A c q u v q2 W hr (hq.later hb) (hq2.later hb)⟩
  · obtain ⟨q, h, hq⟩ := h
    simp only [mkOp, opArr, Value.agg.injEq, Array.mk.injEq, List.cons.injEq, Value.int.injEq, Value.bool.injEq, true_and, and_true] at h
    obtain ⟨h1, h2, h3, h4, h5, rfl⟩ := h
    obtain ⟨u, v, rfl⟩ := two (by omega)
    exact ⟨_, #[_], rfl, .inr ⟨_, rfl⟩, enter_d4, fun W A c hb hr => do_eq x A c q u v W hr (hq.later hb)⟩
  · obtain ⟨q, h, hq⟩ := h
    simp only [mkOp, opArr, Value.agg.injEq, Array.mk.injEq, List.cons.injEq, Value.int.injEq, Value.bool.injEq, true_and, and_true] at h
    obtain ⟨h1, h2, h3, h4, h5, rfl⟩ := h
    obtain ⟨u, v, rfl⟩ := two (by omega)
    exact ⟨_, #[_], rfl, .inr ⟨_, rfl⟩, enter_d4, fun W A c hb hr => do_ne x A c q u v W hr (hq.later hb)⟩
  · obtain ⟨q, h, hq⟩ := h
    simp only [mkOp, opArr, Value.agg.injEq, Array.mk.injEq, List.cons.injEq, Value.int.injEq, Value.bool.injEq, true_and, and_true] at h
    obtain ⟨h1, h2, h3, h4, h5, rfl⟩ := h
    obtain ⟨u, v, rfl⟩ := two (by omega)
    exact ⟨_, #[_], rfl, .inr ⟨_, rfl⟩, enter_d4, fun W A c hb hr => do_lt x A c q u v W hr (hq.later hb)⟩
  · obtain ⟨q, h, hq⟩ := h
    simp only [mkOp, opArr, Value.agg.injEq, Array.mk.injEq, List.cons.injEq, Value.int.injEq, Value.bool.injEq, true_and, and_true] at h
    obtain ⟨h1, h2, h3, h4, h5, rfl⟩ := h
    obtain ⟨u, v, rfl⟩ := two (by omega)
    exact ⟨_, #[_], rfl, .inr ⟨_, rfl⟩, enter_d4, fun W A c hb hr => do_le x A c q u v W hr (hq.later hb)⟩
  · obtain ⟨q, h, hq⟩ := h
    simp only [mkOp, opArr, Value.agg.injEq, Array.mk.injEq, List.cons.injEq, Value.int.injEq, Value.bool.injEq, true_and, and_true] at h
    obtain ⟨h1, h2, h3, h4, h5, rfl⟩ := h
    obtain ⟨u, v, rfl⟩ := two (by omega)
    exact ⟨_, #[_], rfl, .inr ⟨_, rfl⟩, enter_d4, fun W A c hb hr => do_gt x A c q u v W hr (hq.later hb)⟩
  · obtain ⟨q, h, hq⟩ := h
    simp only [mkOp, opArr, Value.agg.injEq, Array.mk.injEq, List.cons.injEq, Value.int.injEq, Value.bool.injEq, true_and, and_true] at h
    obtain ⟨h1, h2, h3, h4, h5, rfl⟩ := h
    obtain ⟨u, v, rfl⟩ := two (by omega)
    exact ⟨_, #[_], rfl, .inr ⟨_, rfl⟩, enter_d4, fun W A c hb hr => do_ge x A c q u v W hr (hq.later hb)⟩
  · obtain ⟨q, h, hq⟩ := h
    simp only [mkOp, opArr, Value.agg.injEq, Array.mk.injEq, List.cons.injEq, Value.int.injEq, Value.bool.injEq, true_and, and_true] at h
    obtain ⟨h1, h2, h3, h4, h5, rfl⟩ := h
    obtain ⟨u, v, rfl⟩ := two (by omega)
    exact ⟨_, #[_], rfl, .inr ⟨_, rfl⟩, enter_d5, fun W A c hb hr => do_logic x A c q _ [u, v] W hr (by simp) (hq.later hb)⟩
  · obtain ⟨q, h, hq⟩ := h
    simp only [mkOp, opArr, Value.agg.injEq, Array.mk.injEq, List.cons.injEq, Value.int.injEq, Value.bool.injEq, true_and, and_true] at h
    obtain ⟨h1, h2, h3, h4, h5, rfl⟩ := h
    obtain ⟨u, v, rfl⟩ := two (by omega)
    exact ⟨_, #[_], rfl, .inr ⟨_, rfl⟩, enter_d5, fun W A c hb hr => do_logic x A c q _ [u, v] W hr (by simp) (hq.later hb)⟩
  · obtain ⟨q, h, hq⟩ := h
    simp only [mkOp, opArr, Value.agg.injEq, Array.mk.injEq, List.cons.injEq, Value.int.injEq, Value.bool.injEq, true_and, and_true] at h
    obtain ⟨h1, h2, h3, h4, h5, rfl⟩ := h
    obtain ⟨u, rfl⟩ := one (by omega)
    exact ⟨_, #[_], rfl, .inr ⟨_, rfl⟩, enter_d6, fun W A c hb hr => do_nulls x A c q _ u W hr (hq.later hb)⟩
  · obtain ⟨q, h, hq⟩ := h
    simp only [mkOp, opArr, Value.agg.injEq, Array.mk.injEq, List.cons.injEq, Value.int.injEq, Value.bool.injEq, true_and, and_true] at h
    obtain ⟨h1, h2, h3, h4, h5, rfl⟩ := h
    obtain ⟨u, rfl⟩ := one (by omega)
    exact ⟨_, #[_], rfl, .inr ⟨_, rfl⟩, enter_d6, fun W A c hb hr => do_nulls x A c q _ u W hr (hq.later hb)⟩
  · simp only [mkOp, opArr, Value.agg.injEq, Array.mk.injEq, List.cons.injEq, Value.int.injEq, Value.bool.injEq, true_and, and_true] at h
    obtain ⟨h1, h2, h3, h4, h5, rfl⟩ := h
    obtain ⟨u, rfl⟩ := one (by omega)
    exact ⟨_, #[], rfl, .inl rfl, enter_d2, fun W A c hb hr => do_bucket x A c u W hr (hwd rfl).1 (hwd rfl).2 (hok u (by simp))⟩
  · exact h.elim
end Go.Proofs.Ytlfahfoffdbpfaa
