/- ParseDeep: the arguments that read as data are opened. -/
import Derived.Test.YtcneefmaghoejaaGreatDoorDeepAB
import Derived.ProofKit
import Derived.OpenShut
import Derived.ChangeOld
import Derived.ChangeMaps5
namespace Go.Proofs.YtcneefmaghoejaaGreatDoor
open Go.ChangeShapes Go.WideShapes Go.ChangeAt Go.RowKit
set_option linter.unusedVariables false
set_option maxRecDepth 100000
theorem deepA_walk {H : Type} (enc : TypeId × Value → H) (W : World) (base : Nat) (v0 v1 : Value) (d0 d1 : DataW H) (p0 p1 : List MemPlace) (ok0 : Value.okWide Tryz.prog W .any base 3 v0) (ok1 : Value.okWide Tryz.prog W .any base 3 v1)
    (k0 : DataW.Trod enc Tryz.prog W 0 (fun _ => true) true 3 v0 d0 p0) (k1 : DataW.Trod enc Tryz.prog W 0 (fun _ => true) true 3 v1 d1 p1) (hE : LexEnv W) : Calls Tryz.prog 6 #[v0, v1] W fun e w' => e = .returned (.bool true) ∧ Below W.heap.size W w' := by
  obtain ⟨n, rfl, _, _, w0⟩ := open_int Tryz.underlying3 ok0 k0
  obtain ⟨b, rfl, _, _, w1⟩ := open_int Tryz.underlying3 ok1 k1
  exact deepA_any n b W hE
end Go.Proofs.YtcneefmaghoejaaGreatDoor
