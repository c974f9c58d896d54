/- ValueRows: the walk, as the frame wants it. -/
import Derived.Test.YtekedkbjnedhgaaDoorRows1
import Derived.Test.YtekedkbjnedhgaaDoorOpen2
namespace Go.Proofs.YtekedkbjnedhgaaDoor
open Go.ChangeShapes Go.WideShapes Go.ChangeAt Go.RowKit
set_option linter.unusedVariables false
set_option maxRecDepth 100000
theorem valueRows_walk {H : Type} (enc : TypeId × Value → H) (W : World) (base : Nat) (v0 : Value) (d0 : DataW H) (p0 : List MemPlace)
    (ok0 : Value.okWide Tryd.prog W .any base 35 v0) (k0 : DataW.Trod enc Tryd.prog W 0 (fun _ => true) true 35 v0 d0 p0) (l0 : Light 35 d0) (hE : Env W) :
    Calls Tryd.prog 6 #[v0] W fun e w' => e = .returned (.bool true) ∧ Below W.heap.size W w' := by
  obtain ⟨A, rs, c, rfl, hR, hm, hl⟩ := rows_open ok0 k0 l0
  exact valueRows_any A c rs W hR hm (fun r hr => (hl r hr).1) (fun r hr v hv => ((hl r hr).2 v hv).1) hE
end Go.Proofs.YtekedkbjnedhgaaDoor
