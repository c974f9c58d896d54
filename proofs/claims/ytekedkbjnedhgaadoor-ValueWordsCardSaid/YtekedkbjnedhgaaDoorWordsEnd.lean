/- ValueWords: the walk, as the frame wants it. -/
import Derived.Test.YtekedkbjnedhgaaDoorWords1
import Derived.Test.YtekedkbjnedhgaaDoorOpen2
namespace Go.Proofs.YtekedkbjnedhgaaDoor
open Go.ChangeShapes Go.WideShapes Go.ChangeAt Go.RowKit
set_option linter.unusedVariables false
set_option maxRecDepth 100000
theorem valueWords_walk {H : Type} (enc : TypeId × Value → H) (W : World) (base : Nat) (v0 v1 v3 v4 : Value) (d0 d1 d3 d4 : DataW H) (p0 p1 p3 p4 : List MemPlace)
    (ok0 : Value.okWide Tryd.prog W .any base 23 v0) (ok1 : Value.okWide Tryd.prog W .any base 23 v1) (ok3 : Value.okWide Tryd.prog W .any base 29 v3) (ok4 : Value.okWide Tryd.prog W .any base 29 v4)
    (k0 : DataW.Trod enc Tryd.prog W 0 (fun _ => true) true 23 v0 d0 p0) (k1 : DataW.Trod enc Tryd.prog W 0 (fun _ => true) true 23 v1 d1 p1) (k3 : DataW.Trod enc Tryd.prog W 0 (fun _ => true) true 29 v3 d3 p3) (k4 : DataW.Trod enc Tryd.prog W 0 (fun _ => true) true 29 v4 d4 p4)
    (l0 : Light 23 d0) (l1 : Light 23 d1) (l3 : Light 29 d3) (l4 : Light 29 d4) (hE : Env W) :
    Calls Tryd.prog 5 #[v0, v1, v3, v4] W fun e w' => e = .returned (.bool true) ∧ Below W.heap.size W w' := by
  obtain ⟨a, rfl, ha, _⟩ := val_open ok0 k0
  obtain ⟨b, rfl, hb, _⟩ := val_open ok1 k1
  obtain ⟨XA, x, xc, rfl, hx, hxl, hxo⟩ := vals_open ok3 k3 l3
  obtain ⟨YA, y, yc, rfl, hy, hyl, hyo⟩ := vals_open ok4 k4 l4
  exact valueWords_any a b XA YA x y xc yc ha hb W hx hy hxl hyl (fun v hv => (hxo v hv).1) (fun v hv => (hyo v hv).1) hE
end Go.Proofs.YtekedkbjnedhgaaDoor
