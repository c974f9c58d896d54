/- Parts of the proof. -/
import Derived.Handy
import Derived.WalkLawsBesides
import Derived.Laws.EntriesVeiled
import Derived.Deep.DeepCutAuto
import Derived.Test.YtehhdlgjfdnafaaGreatDoorXE2
namespace Go.Proofs.YtehhdlgjfdnafaaGreatDoor
set_option maxHeartbeats 90000000
set_option maxRecDepth 100000
open Go.ChangeShapes Go.WideShapes Go.ChangeAt Go.RowKit List
set_option linter.unusedVariables false
variable{a b c:World}
theorem af.then(h:Below a.heap.size a b)(k:Below b.heap.size b c):Below a.heap.size a c:=h.trans (k.mono h.size)
theorem aa (w:World)(o:Obj):Below w.heap.size w (w.alloc o):=(Below.refl _ _).alloc (Nat.le_refl _) o
theorem cu (w:World):∀k,Below w.heap.size w (w.drewN k)
 | 0=>Below.refl _ _
 | k+1=>(cu w k).drew
variable{w:World}{v:Value}
theorem bY{p:Addr} (h:w.cell? p=some v):p.block < w.heap.size:=by
 rcases Nat.lt_or_ge p.block w.heap.size with hlt | CE
 ·exact hlt
 ·unfold World.cell? at h;rw[Array.getElem?_eq_none CE] at h;simp at h
def strOf (l:List UInt8):Value:=.string ⟨l.toArray⟩
end Go.Proofs.YtehhdlgjfdnafaaGreatDoor
