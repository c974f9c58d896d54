/- A block that is known whole (after the kit's page of words), and how it is kept. -/
import Derived.Below
import Derived.Laws.OwnMore
import Derived.Deep.Draws
import Derived.Laws.Rows
namespace Go.Proofs.YtcmkfjepikncnaaDoor
open Go.RowKit
def Blk (w : World) (g : Nat) (t : TypeId) (cs : Array Value) : Prop := w.heap[g]? = some (.cells cs t (0, 0))

section
variable {w w' : World} {g : Nat} {t : TypeId} {cs : Array Value}
theorem Blk.lt (h : Blk w g t cs) : g < w.heap.size := by
  rcases Nat.lt_or_ge g w.heap.size with hlt | hge
  · exact hlt
  · unfold Blk at h; rw [Array.getElem?_eq_none hge] at h; cases h
theorem Blk.cell (h : Blk w g t cs) (i : Nat) : w.cell? ⟨g, i, none⟩ = cs[i]? := cell_of_row w g i cs t (0, 0) h
theorem Blk.frozen (h : Blk w g t cs) (i : Nat) : w.frozen? ⟨g, i, none⟩ = false := by
  unfold Blk at h
  simp [World.frozen?, h]
theorem Blk.new (w : World) (t : TypeId) (cs : Array Value) : Blk (w.alloc (.cells cs t)) w.heap.size t cs := heap_alloc_new w _
theorem Blk.drew (h : Blk w g t cs) : Blk w.drew g t cs := h
theorem Blk.drewN (h : Blk w g t cs) (n : Nat) : Blk (w.drewN n) g t cs := h
theorem Blk.alloc (h : Blk w g t cs) (o : Obj) : Blk (w.alloc o) g t cs := (Below.heap_alloc w o g h.lt).trans h
theorem Blk.set_ (h : Blk w g t cs) (i : Nat) (u : Value) : Blk (w.setCell ⟨g, i, none⟩ u) g t (cs.setIfInBounds i u) := by
  unfold Blk at h ⊢
  simp [World.setCell, Array.getElem?_modify, h]
theorem Blk.far (h : Blk w g t cs) {p : Addr} (hp : g ≠ p.block) (u : Value) : Blk (w.setCell p u) g t cs := (Below.heap_setCell w p u g hp).trans h
theorem Blk.below {B : Nat} (h : Blk w g t cs) (hb : Below B w w') (hg : g < B) : Blk w' g t cs := (hb.block g hg).trans h
theorem Blk.later (h : Blk w g t cs) (hb : Below w.heap.size w w') : Blk w' g t cs := h.below hb h.lt
theorem Blk.grown {row : Option Nat} (h : Blk w g t cs) (hb : w.grownBy w' row) (hg : some g ≠ row) : Blk w' g t cs := (hb.block g h.lt hg).trans h
end
/-- only block p may have changed -/
theorem grown_below {p : Nat} {w w' : World} (h : Below w.heap.size w w') : w.grownBy w' (some p) := ⟨h.os, h.tape, h.output, h.size, fun k hk _ => h.block k hk⟩
theorem grown_trans {p : Nat} {a b c : World} (h : a.grownBy b (some p)) (k : b.grownBy c (some p)) : a.grownBy c (some p) :=
  ⟨k.os.trans h.os, k.tape.trans h.tape, k.output.trans h.output, Nat.le_trans h.size k.size, fun i hi hne => (k.block i (Nat.lt_of_lt_of_le hi h.size) hne).trans (h.block i hi hne)⟩
theorem grown_set {p : Nat} {a b : World} (h : a.grownBy b (some p)) (i : Nat) (u : Value) : a.grownBy (b.setCell ⟨p, i, none⟩ u) (some p) := by
  refine ⟨h.os, h.tape, h.output, ?_, fun k hk hne => ?_⟩
  · have : (b.setCell ⟨p, i, none⟩ u).heap.size = b.heap.size := by simp [World.setCell]
    rw [this]; exact h.size
  · rw [Below.heap_setCell b ⟨p, i, none⟩ u k (fun e => hne (by rw [e]))]
    exact h.block k hk hne
theorem grown_drew {p : Nat} {a b : World} (h : a.grownBy b (some p)) : a.grownBy b.drew (some p) := ⟨h.os, h.tape, h.output, h.size, h.block⟩
theorem grown_drewN {p : Nat} {a b : World} (h : a.grownBy b (some p)) (n : Nat) : a.grownBy (b.drewN n) (some p) := ⟨h.os, h.tape, h.output, h.size, h.block⟩
theorem grown_alloc {p : Nat} {a b : World} (h : a.grownBy b (some p)) (o : Obj) : a.grownBy (b.alloc o) (some p) := by
  refine ⟨h.os, h.tape, h.output, ?_, fun k hk hne => ?_⟩
  · have := h.size; simp; omega
  · rw [Below.heap_alloc b o k (Nat.lt_of_lt_of_le hk h.size)]
    exact h.block k hk hne
/-- below, where p is not -/
theorem below_grown {p B : Nat} {a b : World} (h : a.grownBy b (some p)) (hB : B ≤ a.heap.size) (hp : B ≤ p) : Below B a b :=
  ⟨h.os, h.tape, h.output, h.size, fun k hk => h.block k (by omega) (fun e => by injection e with e; omega)⟩
end Go.Proofs.YtcmkfjepikncnaaDoor
