/- ExprOrders: the plain law and the walk, joined, as the frame wants it. -/
import Derived.Test.YtlfahfoffdbpfaaOrd2
import Derived.Test.YtlfahfoffdbpfaaOpen15
namespace Go.Proofs.Ytlfahfoffdbpfaa
open Go.ChangeShapes Go.WideShapes Go.ChangeAt Go.RowKit
set_option linter.unusedVariables false
set_option maxRecDepth 100000

theorem exprOrders_any (a b : Val) (oka : a.Ok) (okb : b.Ok) (w : World) :
    Calls Try.prog 5 #[.agg #[.int .u8 a.k, .int .i64 a.n, .string a.s], .agg #[.int .u8 b.k, .int .i64 b.n, .string b.s]] w fun e w' => e = .returned (.bool true) ∧ Below w.heap.size w w' := by
  refine orders_core a b (vcmp a b) (fun k => (evalR ⟨10 + k, zeroVal, ByteArray.empty, 0, none, 2, 0⟩ [a, b]).1) ?_ (cmp_three a b) rfl w
  intro hs
  unfold skipB at hs
  simp only [Bool.or_eq_false_iff, Bool.not_eq_false', Bool.and_eq_false_iff, bne_eq_false_iff_eq] at hs
  obtain ⟨_, ga, gb, hk⟩ := hs
  have hk' : a.k = b.k ∨ a.k = 0 ∨ b.k = 0 := hk
  have he : ∀ k : Nat, k < 6 → (evalR ⟨10 + k, zeroVal, ByteArray.empty, 0, none, 2, 0⟩ [a, b]).2 = 0 := fun k hk6 => by
    by_cases h0 : a.k = 0 ∨ b.k = 0
    · rw [ord_null hk6 a b h0]
    · rw [ord_cmp hk6 a b (by omega) (by omega)]
  refine ⟨fun k hk6 => ?_, ?_⟩
  · have h := w2_of (10 + k) (by omega) a b ga gb oka okb _ rfl
    rw [he k hk6] at h
    exact h
  · by_cases h0 : a.k = 0 ∨ b.k = 0
    · exact .inl ⟨h0, fun k hk6 => by show (evalR _ _).1 = _; rw [ord_null hk6 a b h0]⟩
    · refine .inr ⟨by omega, by omega, fun k hk6 => ?_⟩
      show (evalR _ _).1 = _
      rw [ord_cmp hk6 a b (by omega) (by omega)]
theorem orders_walk {H : Type} (enc : TypeId × Value → H) (W : World) (base : Nat) (v0 v1 : Value) (d0 d1 : DataW H) (p0 p1 : List MemPlace)
    (ok0 : Value.okWide Try.prog W .any base 23 v0) (ok1 : Value.okWide Try.prog W .any base 23 v1)
    (k0 : DataW.Trod enc Try.prog W 0 (fun _ => true) true 23 v0 d0 p0) (k1 : DataW.Trod enc Try.prog W 0 (fun _ => true) true 23 v1 d1 p1) :
    Calls Try.prog 5 #[v0, v1] W fun e w' => e = .returned (.bool true) ∧ Below W.heap.size W w' := by
  obtain ⟨a, rfl, ha, _⟩ := val_open ok0 k0
  obtain ⟨b, rfl, hb, _⟩ := val_open ok1 k1
  exact exprOrders_any a b ha hb W
end Go.Proofs.Ytlfahfoffdbpfaa
