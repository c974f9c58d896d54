/- A region that draws its order and holds calls that make memory: one walk of the lexical order serves, in the class of all worlds that are as w0 was below block B. -/
import Derived.Deep.QuietTactic
import Derived.BigQuiet
import Derived.Below
namespace Go.Proofs.Ytmndhllmaoppeaa
open Go.RowKit

/-- a later world: as w0 was below block B -/
structure Ext (B : Nat) (w0 : World) where
  w : World
  h : Below B w0 w

instance (B : Nat) (w0 : World) : Nonempty (Ext B w0) := ⟨⟨w0, Below.refl _ _⟩⟩

theorem Ext.cell {B : Nat} {w0 : World} (x : Ext B w0) {p : Addr} (hp : p.block < B) : x.w.cell? p = w0.cell? p := x.h.cell hp

theorem wp_region_ext {P : Program} {id : Nat} {Q : Exit → Act → World → Prop} {a : Act} {w : World} {l : List Oper} (B : Nat) (w0 : World) (hb : Below B w0 w) (hm : P.follows .mixedOrders = true) (hB : Region.lexB .any l.toArray = true)
    (h : wpQuiet P l.toArray (fun w' => ∃ x : Ext B w0, w' = x.w) (fun a' => ∀ w', (∃ x : Ext B w0, w' = x.w) → Q .normal a' w') l a) : (Code.region id l.toArray true).wp P Q a w :=
  wp_region_quiet (C := fun w' => ∃ x : Ext B w0, w' = x.w) hm hB ⟨⟨_, hb.drew⟩, rfl⟩ (by simpa using h)

/-- a call's contract, met there -/
theorem calls_ext {P : Program} {f : FuncId} {args : Array Value} {B : Nat} {w0 w : World} {v : Value}
    (h : Calls P f args w fun e w' => e = .returned v ∧ Below B w0 w') : Calls P f args w fun e w'' => e = .returned v ∧ ∃ x : Ext B w0, w'' = x.w :=
  h.mono fun _ _ ⟨he, hb⟩ => ⟨he, ⟨_, hb⟩, rfl⟩
end Go.Proofs.Ytmndhllmaoppeaa
