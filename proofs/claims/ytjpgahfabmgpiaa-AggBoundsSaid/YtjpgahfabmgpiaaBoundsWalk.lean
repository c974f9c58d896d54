/- AggBounds: the walk, as the frame wants it. -/
import Derived.Test.YtjpgahfabmgpiaaBounds
namespace Go.Proofs.Ytjpgahfabmgpiaa
open Go.ChangeShapes Go.WideShapes Go.ChangeAt Go.RowKit
set_option linter.unusedVariables false
theorem bounds_walk {H : Type} (enc : TypeId × Value → H) (W : World) (base : Nat) (v0 : Value) (d0 : DataW H) (p0 : List MemPlace)
    (ok0 : Value.okWide Try.prog W .any base 22 v0) (k0 : DataW.Trod enc Try.prog W 0 (fun _ => true) true 22 v0 d0 p0) :
    Calls Try.prog 3 #[v0] W fun e w' => e = .returned (.bool true) ∧ Below W.heap.size W w' := by
  obtain ⟨A, l, c, rfl, hr, h1, h2, _⟩ := nums_open Try.underlying22 Try.underlying2 cells_i64 ok0 k0
  exact bounds_any A c l W hr (by omega)
end Go.Proofs.Ytjpgahfabmgpiaa
