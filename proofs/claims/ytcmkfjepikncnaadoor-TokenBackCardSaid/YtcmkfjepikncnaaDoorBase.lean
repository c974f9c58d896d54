/- Small laws of worlds that every walk uses. -/
import Derived.Test.YtcmkfjepikncnaaDoorApp2
import Derived.Test.YtcmkfjepikncnaaDoorRule2
import Derived.BigRegion
import Derived.Deep.RegionWith
import Derived.WalkKit
import Derived.Handy
import Derived.WalkLawsBesides
import Derived.Outline
import Derived.Lib.Hide
import Derived.MapKept
import Derived.Laws.EntriesVeiled
import Derived.Deep.DeepCutAuto
namespace Go.Proofs.YtcmkfjepikncnaaDoor
open Go.ChangeShapes Go.WideShapes Go.ChangeAt Go.RowKit
set_option linter.unusedVariables false

theorem Below.then {B : Nat} {a b c : World} (h : Below B a b) (hB : B ≤ a.heap.size) (k : Below b.heap.size b c) : Below B a c := h.trans (k.mono (Nat.le_trans hB h.size))
theorem Later.then {a b c : World} (h : Below a.heap.size a b) (k : Below b.heap.size b c) : Below a.heap.size a c := h.trans (k.mono h.size)
theorem later_new (w : World) (o : Obj) : Below w.heap.size w (w.alloc o) := (Below.refl _ _).alloc (Nat.le_refl _) o
theorem drewN_below (w : World) : ∀ k, Below w.heap.size w (w.drewN k)
  | 0 => Below.refl _ _
  | k + 1 => (drewN_below w k).drew
theorem cell_lt {w : World} {p : Addr} {v : Value} (h : w.cell? p = some v) : p.block < w.heap.size := by
  rcases Nat.lt_or_ge p.block w.heap.size with hlt | hge
  · exact hlt
  · unfold World.cell? at h; rw [Array.getElem?_eq_none hge] at h; simp at h
def strOf (l : List UInt8) : Value := .string ⟨l.toArray⟩
/-- a block that is known, in any later world -/
theorem heap_later {w w' : World} {g : Nat} {o : Obj} (h : w.heap[g]? = some o) (hb : Below w.heap.size w w') : w'.heap[g]? = some o := by
  rcases Nat.lt_or_ge g w.heap.size with hlt | hge
  · exact (hb.block g hlt).trans h
  · rw [Array.getElem?_eq_none hge] at h; cases h
end Go.Proofs.YtcmkfjepikncnaaDoor
