/- ValueOrder: the walk, as the frame wants it. -/
import Derived.Test.YtekedkbjnedhgaaDoorOrder1
import Derived.Test.YtekedkbjnedhgaaDoorOpen2
namespace Go.Proofs.YtekedkbjnedhgaaDoor
open Go.ChangeShapes Go.WideShapes Go.ChangeAt Go.RowKit
set_option linter.unusedVariables false
set_option maxRecDepth 100000
theorem valueOrder_walk {H : Type} (enc : TypeId × Value → H) (W : World) (base : Nat) (v0 v1 v2 v3 v4 v5 : Value) (d0 d1 d2 d3 d4 d5 : DataW H) (p0 p1 p2 p3 p4 p5 : List MemPlace)
    (ok0 : Value.okWide Tryd.prog W .any base 23 v0) (ok1 : Value.okWide Tryd.prog W .any base 23 v1) (ok2 : Value.okWide Tryd.prog W .any base 23 v2) (ok3 : Value.okWide Tryd.prog W .any base 29 v3) (ok4 : Value.okWide Tryd.prog W .any base 29 v4) (ok5 : Value.okWide Tryd.prog W .any base 29 v5)
    (k0 : DataW.Trod enc Tryd.prog W 0 (fun _ => true) true 23 v0 d0 p0) (k1 : DataW.Trod enc Tryd.prog W 0 (fun _ => true) true 23 v1 d1 p1) (k2 : DataW.Trod enc Tryd.prog W 0 (fun _ => true) true 23 v2 d2 p2) (k3 : DataW.Trod enc Tryd.prog W 0 (fun _ => true) true 29 v3 d3 p3) (k4 : DataW.Trod enc Tryd.prog W 0 (fun _ => true) true 29 v4 d4 p4) (k5 : DataW.Trod enc Tryd.prog W 0 (fun _ => true) true 29 v5 d5 p5)
    (l0 : Light 23 d0) (l1 : Light 23 d1) (l2 : Light 23 d2) (l3 : Light 29 d3) (l4 : Light 29 d4) (l5 : Light 29 d5) (hE : Env W) :
    Calls Tryd.prog 4 #[v0, v1, v2, v3, v4, v5] W fun e w' => e = .returned (.bool true) ∧ Below W.heap.size W w' := by
  obtain ⟨a, rfl, ha, _⟩ := val_open ok0 k0
  obtain ⟨b, rfl, hb, _⟩ := val_open ok1 k1
  obtain ⟨c, rfl, hc, _⟩ := val_open ok2 k2
  obtain ⟨XA, x, xc, rfl, hx, hxl, _⟩ := vals_open ok3 k3 l3
  obtain ⟨YA, y, yc, rfl, hy, hyl, _⟩ := vals_open ok4 k4 l4
  obtain ⟨ZA, z, zc, rfl, hz, hzl, _⟩ := vals_open ok5 k5 l5
  exact valueOrder_any a b c XA YA ZA x y z xc yc zc ha hb hc W hx hy hz hxl hyl hzl hE
end Go.Proofs.YtekedkbjnedhgaaDoor
