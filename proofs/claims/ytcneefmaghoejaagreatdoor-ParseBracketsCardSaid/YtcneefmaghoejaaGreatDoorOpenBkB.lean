/- ParseBrackets: the arguments that read as data are opened. -/
import Derived.Test.YtcneefmaghoejaaGreatDoorBrkAB
import Derived.ProofKit
import Derived.OpenShut
import Derived.ChangeOld
import Derived.ChangeMaps5
namespace Go.Proofs.YtcneefmaghoejaaGreatDoor
open Go.ChangeShapes Go.WideShapes Go.ChangeAt Go.RowKit
set_option linter.unusedVariables false
set_option maxRecDepth 100000
theorem brkA_walk {H : Type} (enc : TypeId × Value → H) (W : World) (base : Nat) (v0 v1 : Value) (d0 d1 : DataW H) (p0 p1 : List MemPlace) (ok0 : Value.okWide Tryz.prog W .any base 9 v0) (ok1 : Value.okWide Tryz.prog W .any base 3 v1)
    (k0 : DataW.Trod enc Tryz.prog W 0 (fun _ => true) true 9 v0 d0 p0) (k1 : DataW.Trod enc Tryz.prog W 0 (fun _ => true) true 3 v1 d1 p1) (hE : LexEnv W) : Calls Tryz.prog 8 #[v0, v1] W fun e w' => e = .returned (.bool true) ∧ Below W.heap.size W w' := by
  obtain ⟨s, rfl, _⟩ := Go.ChangeMaps.open_string Tryz.underlying9 ok0 k0
  obtain ⟨k, rfl, _, _, hk⟩ := open_int Tryz.underlying3 ok1 k1
  exact brkA_any s k (by simpa [Lit.wf, IntKind.min, IntKind.max, IntKind.signed, IntKind.bits] using hk) W hE
end Go.Proofs.YtcneefmaghoejaaGreatDoor
