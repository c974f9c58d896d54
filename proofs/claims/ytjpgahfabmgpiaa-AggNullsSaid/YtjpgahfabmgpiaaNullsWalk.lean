/- AggNulls: the walk, as the frame wants it. -/
import Derived.Test.YtjpgahfabmgpiaaNulls
namespace Go.Proofs.Ytjpgahfabmgpiaa
open Go.ChangeShapes Go.WideShapes Go.ChangeAt Go.RowKit
set_option linter.unusedVariables false
theorem nulls_walk {H : Type} (enc : TypeId × Value → H) (W : World) (base : Nat) (v0 v1 v2 v3 : Value) (d0 d1 d2 d3 : DataW H) (p0 p1 p2 p3 : List MemPlace)
    (ok0 : Value.okWide Try.prog W .any base 5 v0) (ok1 : Value.okWide Try.prog W .any base 24 v1) (ok2 : Value.okWide Try.prog W .any base 3 v2) (ok3 : Value.okWide Try.prog W .any base 26 v3)
    (k0 : DataW.Trod enc Try.prog W 0 (fun _ => true) true 5 v0 d0 p0) (k1 : DataW.Trod enc Try.prog W 0 (fun _ => true) true 24 v1 d1 p1) (k2 : DataW.Trod enc Try.prog W 0 (fun _ => true) true 3 v2 d2 p2) (k3 : DataW.Trod enc Try.prog W 0 (fun _ => true) true 26 v3 d3 p3) :
    Calls Try.prog 4 #[v0, v1, v2, v3] W fun e w' => e = .returned (.bool true) ∧ Below W.heap.size W w' := by
  obtain ⟨op, rfl⟩ := u8_open ok0 k0
  obtain ⟨A, l, c, rfl, hr, _, _, hv⟩ := pairs_open ok1 k1
  obtain ⟨k, rfl, _, _, wk⟩ := open_int Try.underlying3 ok2 k2
  obtain ⟨b, rfl, hb⟩ := val_open ok3 k3
  have hk := i64_wf wk
  exact nulls_any op A c l k b W hr hv hb hk.1 hk.2
end Go.Proofs.Ytjpgahfabmgpiaa
