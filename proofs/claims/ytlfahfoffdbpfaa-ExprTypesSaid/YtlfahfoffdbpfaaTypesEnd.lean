/- ExprTypes: the walk, as the frame wants it. -/
import Derived.Test.YtlfahfoffdbpfaaTypesWalk
import Derived.Test.YtlfahfoffdbpfaaOpenT
namespace Go.Proofs.Ytlfahfoffdbpfaa
open Go.ChangeShapes Go.WideShapes Go.ChangeAt Go.RowKit
set_option linter.unusedVariables false
set_option maxRecDepth 100000
theorem types_walk {H : Type} (enc : TypeId × Value → H) (W : World) (base : Nat) (v0 v1 v2 : Value) (d0 d1 d2 : DataW H) (p0 p1 p2 : List MemPlace)
    (ok0 : Value.okWide Try.prog W .any base 36 v0) (ok1 : Value.okWide Try.prog W .any base 43 v1) (ok2 : Value.okWide Try.prog W .any base 40 v2)
    (k0 : DataW.Trod enc Try.prog W 0 (fun _ => true) true 36 v0 d0 p0) (k1 : DataW.Trod enc Try.prog W 0 (fun _ => true) true 43 v1 d1 p1) (k2 : DataW.Trod enc Try.prog W 0 (fun _ => true) true 40 v2 d2 p2)
    (l0 : Light 36 d0) (l1 : Light 43 d1) (l2 : Light 40 d2) :
    Calls Try.prog 7 #[v0, v1, v2] W fun e w' => e = .returned (.bool true) ∧ Below W.heap.size W w' := by
  obtain ⟨y, t, rfl, hat, hok⟩ := expr_open ok0 k0 l0
  obtain ⟨CA, cols, cc, rfl, hC, hcl, _⟩ := cols_open ok1 k1 l1
  obtain ⟨RA, row, rc, rfl, hV, hrl, hro⟩ := vals_open ok2 k2 l2
  exact types_any y t cols CA cc row RA rc W hok hat hC hcl hV hrl hro
end Go.Proofs.Ytlfahfoffdbpfaa
