/- AggParts: the walk, as the frame wants it. -/
import Derived.Test.YtjpgahfabmgpiaaParts
namespace Go.Proofs.Ytjpgahfabmgpiaa
open Go.ChangeShapes Go.WideShapes Go.ChangeAt Go.RowKit
set_option linter.unusedVariables false
theorem parts_walk {H : Type} (enc : TypeId × Value → H) (W : World) (base : Nat) (v0 v1 v2 : Value) (d0 d1 d2 : DataW H) (p0 p1 p2 : List MemPlace)
    (ok0 : Value.okWide Try.prog W .any base 5 v0) (ok1 : Value.okWide Try.prog W .any base 24 v1) (ok2 : Value.okWide Try.prog W .any base 41 v2)
    (k0 : DataW.Trod enc Try.prog W 0 (fun _ => true) true 5 v0 d0 p0) (k1 : DataW.Trod enc Try.prog W 0 (fun _ => true) true 24 v1 d1 p1) (k2 : DataW.Trod enc Try.prog W 0 (fun _ => true) true 41 v2 d2 p2) :
    Calls Try.prog 5 #[v0, v1, v2] W fun e w' => e = .returned (.bool true) ∧ Below W.heap.size W w' := by
  obtain ⟨op, rfl⟩ := u8_open ok0 k0
  obtain ⟨A, l, c, rfl, hr, hc, _, hv⟩ := pairs_open ok1 k1
  obtain ⟨A2, zs, c2, rfl, hr2, h1, h2, hz⟩ := nums_open Try.underlying41 Try.underlying3 cells_int ok2 k2
  exact parts_any op A c l A2 c2 zs W hr hc hv hr2 hz (by omega)
end Go.Proofs.Ytjpgahfabmgpiaa
