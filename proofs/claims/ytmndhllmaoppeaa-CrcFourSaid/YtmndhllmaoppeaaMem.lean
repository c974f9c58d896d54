/- Words for memory: a slice that reads as a list of cells; as a list of bytes. After the kit's page of words. -/
import Derived.Below
import Derived.Laws.OwnMore
import Derived.Deep.AppendLies
import Derived.Deep.Draws
namespace Go.Proofs.Ytmndhllmaoppeaa
open Go.RowKit
theorem block_of_add (a : Addr) (n : Nat) : (a.add n).block = a.block := by unfold Addr.add; split <;> rfl
theorem add_of_add (a : Addr) (i j : Nat) : (a.add i).add j = a.add (i + j) := by
  unfold Addr.add
  by_cases hi : i = 0 <;> by_cases hj : j = 0 <;> simp [hi, hj, Nat.add_assoc]

/-- the slice value '.slice A n c' holds the cells xs (each element of 'size' cells), below block B -/
def Reads (w : World) (B size : Nat) (A : Option Addr) (n : Nat) (xs : List Value) : Prop :=
  xs.length = n * size ∧ (0 < n → ∃ ad, A = some ad ∧ ad.block < B ∧ ∀ j u, xs[j]? = some u → w.cell? (ad.add j) = some u)

section
variable {w w' : World} {B B' size n : Nat} {A : Option Addr} {xs : List Value}
theorem Reads.none_ : Reads w B size A 0 [] := ⟨by simp, fun h => absurd h (by omega)⟩
theorem Reads.keep (h : Reads w B size A n xs) (hk : ∀ p : Addr, p.block < B → w'.cell? p = w.cell? p) : Reads w' B size A n xs :=
  ⟨h.1, fun hn => by
    obtain ⟨ad, e, hb, hc⟩ := h.2 hn
    exact ⟨ad, e, hb, fun j u hu => (hk _ (by rw [block_of_add]; exact hb)).trans (hc j u hu)⟩⟩
theorem Reads.more (h : Reads w B size A n xs) (hB : B ≤ B') : Reads w B' size A n xs :=
  ⟨h.1, fun hn => by
    obtain ⟨ad, e, hb, hc⟩ := h.2 hn
    exact ⟨ad, e, by omega, hc⟩⟩
theorem Reads.below (h : Reads w B size A n xs) (hb : Below B w w') : Reads w' B size A n xs := h.keep fun _ hp => hb.cell hp
theorem Reads.drewN (h : Reads w B size A n xs) (k : Nat) : Reads (w.drewN k) B size A n xs := h
theorem Reads.alloc (h : Reads w B size A n xs) (hB : B ≤ w.heap.size) (o : Obj) : Reads (w.alloc o) B size A n xs := h.keep fun p hp => World.cell?_alloc_lt w o p (by omega)
theorem Reads.of_own {base : Nat} {e : TypeId} {c : Nat} (h : w.ownsRow base e size (.slice A n c) n xs) : Reads w w.heap.size size A n xs := by
  refine ⟨h.1, fun hn => ?_⟩
  obtain ⟨g, cap, hv, _, hlt⟩ := h.form hn
  have hA : A = some ⟨g, 0, none⟩ := by injection hv
  subst hA
  exact ⟨_, rfl, hlt, h.cells (g := g) rfl⟩
end

/-- bytes as cells -/
def cellsOf (l : List Nat) : List Value := l.map fun (c : Nat) => Value.int .u8 (c : Int)

/-- a slice that reads as the bytes l -/
def RB (w : World) (B : Nat) (A : Option Addr) (l : List Nat) : Prop := Reads w B 1 A l.length (cellsOf l) ∧ ∀ c ∈ l, c < 256

section
variable {w w' : World} {B B' : Nat} {A : Option Addr} {l : List Nat}
theorem RB.lt (h : RB w B A l) : ∀ c ∈ l, c < 256 := h.2
theorem RB.below (h : RB w B A l) (hb : Below B w w') : RB w' B A l := ⟨h.1.below hb, h.2⟩
theorem RB.alloc (h : RB w B A l) (hB : B ≤ w.heap.size) (o : Obj) : RB (w.alloc o) B A l := ⟨h.1.alloc hB o, h.2⟩
theorem RB.more (h : RB w B A l) (hB : B ≤ B') : RB w B' A l := ⟨h.1.more hB, h.2⟩
theorem RB.drewN (h : RB w B A l) (k : Nat) : RB (w.drewN k) B A l := h
theorem RB.nil : RB w B A [] := ⟨by simpa [cellsOf] using Reads.none_, by simp⟩
theorem RB.at_ (h : RB w B A l) {k : Nat} (hk : k < l.length) : ∃ b off, A = some ⟨b, off, none⟩ ∧ b < B ∧ l.getD k 0 < 256 ∧ w.cell? ⟨b, off + k, none⟩ = some (.int .u8 (l.getD k 0 : Nat)) := by
  obtain ⟨ad, rfl, hb, hc⟩ := h.1.2 (by omega)
  have e : l.getD k 0 = l[k] := by rw [List.getD_eq_getElem?_getD, List.getElem?_eq_getElem hk]; rfl
  have h0 := hc 0 (.int .u8 (l[0] : Nat)) (by simp [cellsOf, List.getElem?_eq_getElem (show 0 < l.length by omega)])
  have h1 := hc k (.int .u8 (l[k] : Nat)) (by simp [cellsOf, List.getElem?_eq_getElem hk])
  obtain ⟨b, off, spot⟩ := ad
  have hspot : spot = none := by simpa [Addr.add] using World.cell?_spot h0
  subst hspot
  refine ⟨b, off, rfl, hb, by rw [e]; exact h.2 _ (List.getElem_mem hk), ?_⟩
  rw [e]
  unfold Addr.add at h1
  by_cases hk0 : k = 0
  · subst hk0; simpa using h1
  · simpa [hk0] using h1
end
end Go.Proofs.Ytmndhllmaoppeaa
