/- Parts of the proof: Base, OwnC, TrM, PaP. Put together by slim.py. -/
import Derived.BigRegion
import Derived.Deep.RegionWith
import Derived.WalkKit
import Derived.Handy
import Derived.WalkLawsBesides
import Derived.Outline
import Derived.Lib.Hide
import Derived.MapKept
import Derived.Laws.EntriesVeiled
import Derived.Deep.DeepCutAuto
import Derived.Test.YtcneefmaghoejaaGreatDoorB1
import Derived.Test.YtcneefmaghoejaaGreatDoorB3
import Derived.Test.YtcneefmaghoejaaGreatDoorB5
namespace Go.Proofs.YtcneefmaghoejaaGreatDoor
open Go.ChangeShapes Go.WideShapes Go.ChangeAt Go.RowKit
set_option linter.unusedVariables false
theorem Below.then {B : Nat} {a b c : World} (h : Below B a b) (hB : B ≤ a.heap.size) (k : Below b.heap.size b c) : Below B a c := h.trans (k.mono (Nat.le_trans hB h.size))
theorem Later.then {a b c : World} (h : Below a.heap.size a b) (k : Below b.heap.size b c) : Below a.heap.size a c := h.trans (k.mono h.size)
theorem later_new (w : World) (o : Obj) : Below w.heap.size w (w.alloc o) := (Below.refl _ _).alloc (Nat.le_refl _) o
theorem drewN_below (w : World) : ∀ k, Below w.heap.size w (w.drewN k)
  | 0 => Below.refl _ _
  | k + 1 => (drewN_below w k).drew
theorem cell_lt {w : World} {p : Addr} {v : Value} (h : w.cell? p = some v) : p.block < w.heap.size := by
  rcases Nat.lt_or_ge p.block w.heap.size with hlt | hge
  · exact hlt
  · unfold World.cell? at h; rw [Array.getElem?_eq_none hge] at h; simp at h
def strOf (l : List UInt8) : Value := .string ⟨l.toArray⟩
end Go.Proofs.YtcneefmaghoejaaGreatDoor
namespace Go.Proofs.YtcneefmaghoejaaGreatDoor
open Go.RowKit
set_option linter.unusedVariables false
theorem flat_cell {α : Type} {f : α → List Value} {size : Nat} (hf : ∀ x, (f x).length = size) : ∀ (l : List α) (k : Nat) (x : α), l[k]? = some x → ∀ r u, (f x)[r]? = some u → (l.flatMap f)[k * size + r]? = some u
  | [], k, x, h, _, _, _ => by simp at h
  | y :: l, 0, x, h, r, u, hu => by
    simp at h; subst h
    have hr : r < (f y).length := by
      rcases Nat.lt_or_ge r (f y).length with h' | h'
      · exact h'
      · rw [List.getElem?_eq_none h'] at hu; cases hu
    rw [Nat.zero_mul, Nat.zero_add, List.flatMap_cons, List.getElem?_append_left hr]
    exact hu
  | y :: l, k + 1, x, h, r, u, hu => by
    have := flat_cell hf l k x (by simpa using h) r u hu
    rw [List.flatMap_cons, List.getElem?_append_right (by rw [hf, Nat.succ_mul]; omega), hf]
    rw [show (k + 1) * size + r - size = k * size + r by rw [Nat.succ_mul]; omega]
    exact this
section
variable {α : Type} {f : α → List Value} {e : TypeId} {size : Nat} {w w' : World} {base : Nat} {v : Value} {l : List α}
theorem OwnF.cell (hf : ∀ x, (f x).length = size) (h : OwnF f e size w base v l) {k : Nat} {x : α} (hk : l[k]? = some x) :
    ∃ g c, v = .slice (some ⟨g, 0, none⟩) l.length c ∧ base ≤ g ∧ g < w.heap.size ∧ ∀ r u, (f x)[r]? = some u → w.cell? ⟨g, k * size + r, none⟩ = some u := by
  have hkl : k < l.length := by
    rcases Nat.lt_or_ge k l.length with h' | h'
    · exact h'
    · rw [List.getElem?_eq_none h'] at hk; cases hk
  rcases h.2 with ⟨_, h0⟩ | ⟨g, cap, cur, rfl, hb, hg, hn, hm, hs, ht⟩
  · omega
  · have hlt : g < w.heap.size := by
      rcases Nat.lt_or_ge g w.heap.size with h' | h'
      · exact h'
      · rw [Array.getElem?_eq_none h'] at hg; cases hg
    refine ⟨g, cap, rfl, hb, hlt, fun r u hu => ?_⟩
    have h1 := flat_cell hf l k x hk r u hu
    rw [← ht] at h1
    have h2 : cur[k * size + r]? = some u := by
      rw [List.getElem?_take] at h1
      split at h1
      · simpa using h1
      · cases h1
    unfold World.cell?
    simp [hg, h2]
theorem OwnF.form (h : OwnF f e size w base v l) : ∃ A c, v = .slice A l.length c := by
  obtain ⟨A, c, hv, _⟩ := h.reads
  exact ⟨A, c, hv⟩
end
end Go.Proofs.YtcneefmaghoejaaGreatDoor
namespace Go.Proofs.YtcneefmaghoejaaGreatDoor
open Go.ChangeShapes Go.WideShapes Go.ChangeAt Go.RowKit
set_option linter.unusedVariables false
set_option linter.unusedSimpArgs false
structure Ex where
  op : Int
  v : Val
  name : ByteArray
  width : Int
  A : Option Addr
  n : Nat
  c : Nat
def exC (y : Ex) : List Value := [.int .u8 y.op, .int .u8 y.v.k, .int .i64 y.v.n, .string y.v.s, .string y.name, .int .i64 y.width, .slice y.A y.n y.c]
def exV (y : Ex) : Value := .agg (exC y).toArray
def RL {β : Type} (f : β → List Value) (size : Nat) (w : World) (S : Nat → Prop) (A : Option Addr) (l : List β) : Prop :=
  l = [] ∨ ∃ b off, A = some ⟨b, off, none⟩ ∧ S b ∧ ∀ i y j u, l[i]? = some y → (f y)[j]? = some u → w.cell? ⟨b, off + i * size + j, none⟩ = some u
theorem RL.keep {β : Type} {f : β → List Value} {size : Nat} {w w' : World} {S S' : Nat → Prop} {A : Option Addr} {l : List β} (h : RL f size w S A l) (hk : ∀ b, S b → (∀ o, w'.cell? ⟨b, o, none⟩ = w.cell? ⟨b, o, none⟩) ∧ S' b) : RL f size w' S' A l := by
  rcases h with h | ⟨b, off, h1, h2, h3⟩
  · exact .inl h
  · exact .inr ⟨b, off, h1, (hk b h2).2, fun i y j u hy hu => ((hk b h2).1 _).trans (h3 i y j u hy hu)⟩
mutual
def Tr.at_ (w : World) (S : Nat → Prop) : Tr → Ex → Prop
  | .mk op v name width args, y => y.op = op ∧ y.v = v ∧ y.name = name ∧ y.width = width ∧ y.n = args.length ∧ ∃ ys, RL exC 7 w S y.A ys ∧ Tr.all_ w S args ys
def Tr.all_ (w : World) (S : Nat → Prop) : List Tr → List Ex → Prop
  | [], ys => ys = []
  | t :: ts, ys => ∃ y ys', ys = y :: ys' ∧ Tr.at_ w S t y ∧ Tr.all_ w S ts ys'
end
mutual
theorem Tr.at_.keep {w w' : World} {S S' : Nat → Prop} (hk : ∀ b, S b → (∀ o, w'.cell? ⟨b, o, none⟩ = w.cell? ⟨b, o, none⟩) ∧ S' b) : ∀ (t : Tr) (y : Ex), t.at_ w S y → t.at_ w' S' y
  | .mk op v name width args, y, h => by
    unfold Tr.at_ at h ⊢
    obtain ⟨h1, h2, h3, h4, h5, ys, h6, h7⟩ := h
    exact ⟨h1, h2, h3, h4, h5, ys, h6.keep hk, Tr.all_.keep hk args ys h7⟩
theorem Tr.all_.keep {w w' : World} {S S' : Nat → Prop} (hk : ∀ b, S b → (∀ o, w'.cell? ⟨b, o, none⟩ = w.cell? ⟨b, o, none⟩) ∧ S' b) : ∀ (ts : List Tr) (ys : List Ex), Tr.all_ w S ts ys → Tr.all_ w' S' ts ys
  | [], ys, h => by unfold Tr.all_ at h ⊢; exact h
  | t :: ts, ys, h => by
    unfold Tr.all_ at h ⊢
    obtain ⟨y, ys', h1, h2, h3⟩ := h
    exact ⟨y, ys', h1, Tr.at_.keep hk t y h2, Tr.all_.keep hk ts ys' h3⟩
end
theorem Tr.all_.length {w : World} {S : Nat → Prop} : ∀ {ts : List Tr} {ys : List Ex}, Tr.all_ w S ts ys → ys.length = ts.length
  | [], ys, h => by unfold Tr.all_ at h; subst h; rfl
  | t :: ts, ys, h => by
    unfold Tr.all_ at h
    obtain ⟨y, ys', rfl, _, h3⟩ := h
    simp [Tr.all_.length h3]
theorem Tr.all_.append {w : World} {S : Nat → Prop} : ∀ {ts us : List Tr} {ys zs : List Ex}, Tr.all_ w S ts ys → Tr.all_ w S us zs → Tr.all_ w S (ts ++ us) (ys ++ zs)
  | [], us, ys, zs, h, k => by unfold Tr.all_ at h; subst h; exact k
  | t :: ts, us, ys, zs, h, k => by
    unfold Tr.all_ at h
    obtain ⟨y, ys', rfl, h2, h3⟩ := h
    show Tr.all_ w S (t :: (ts ++ us)) (y :: (ys' ++ zs))
    unfold Tr.all_
    exact ⟨y, _, rfl, h2, h3.append k⟩
theorem Tr.all_one {w : World} {S : Nat → Prop} {t : Tr} {y : Ex} (h : t.at_ w S y) : Tr.all_ w S [t] [y] := by
  unfold Tr.all_
  exact ⟨y, [], rfl, h, by unfold Tr.all_; rfl⟩
theorem Tr.all_two {w : World} {S : Nat → Prop} {t u : Tr} {y z : Ex} (h : t.at_ w S y) (k : u.at_ w S z) : Tr.all_ w S [t, u] [y, z] := by
  unfold Tr.all_
  exact ⟨y, [z], rfl, h, Tr.all_one k⟩
theorem Tr.all_nil {w : World} {S : Nat → Prop} : Tr.all_ w S [] [] := by unfold Tr.all_; rfl
structure El (α : Type) where
  β : Type
  f : β → List Value
  size : Nat
  hf : ∀ y, (f y).length = size
  rel : World → (Nat → Prop) → α → β → Prop
  keep : ∀ {w w' : World} {S S' : Nat → Prop} {x : α} {y : β}, (∀ b, S b → (∀ o, w'.cell? ⟨b, o, none⟩ = w.cell? ⟨b, o, none⟩) ∧ S' b) → rel w S x y → rel w' S' x y
inductive All2 {α β : Type} (R : α → β → Prop) : List α → List β → Prop
  | nil : All2 R [] []
  | cons {x : α} {y : β} {l : List α} {m : List β} : R x y → All2 R l m → All2 R (x :: l) (y :: m)
theorem All2.imp {α β : Type} {R R' : α → β → Prop} (h : ∀ x y, R x y → R' x y) : ∀ {l : List α} {m : List β}, All2 R l m → All2 R' l m
  | _, _, .nil => .nil
  | _, _, .cons a b => .cons (h _ _ a) (b.imp h)
theorem All2.len {α β : Type} {R : α → β → Prop} : ∀ {l : List α} {m : List β}, All2 R l m → m.length = l.length
  | _, _, .nil => rfl
  | _, _, .cons a b => by simp [b.len]
theorem All2.append {α β : Type} {R : α → β → Prop} : ∀ {l l' : List α} {m m' : List β}, All2 R l m → All2 R l' m' → All2 R (l ++ l') (m ++ m')
  | _, _, _, _, .nil, k => k
  | _, _, _, _, .cons a b, k => .cons a (b.append k)
theorem All2.one {α β : Type} {R : α → β → Prop} {x : α} {y : β} (h : R x y) : All2 R [x] [y] := .cons h .nil
theorem all2_tr {w : World} {S : Nat → Prop} : ∀ {ts : List Tr} {ys : List Ex}, All2 (Tr.at_ w S) ts ys ↔ Tr.all_ w S ts ys
  | [], ys => ⟨fun h => by cases h; exact Tr.all_nil, fun h => by unfold Tr.all_ at h; subst h; exact .nil⟩
  | t :: ts, ys => ⟨fun h => by cases h with | cons a b => unfold Tr.all_; exact ⟨_, _, rfl, a, all2_tr.1 b⟩, fun h => by
      unfold Tr.all_ at h
      obtain ⟨y, ys', rfl, h2, h3⟩ := h
      exact .cons h2 (all2_tr.2 h3)⟩
def El.lies {α : Type} (E : El α) (w : World) (S : Nat → Prop) (A : Option Addr) (n : Nat) (l : List α) : Prop := n = l.length ∧ ∃ ys, RL E.f E.size w S A ys ∧ All2 (E.rel w S) l ys
theorem El.lies.keep {α : Type} {E : El α} {w w' : World} {S S' : Nat → Prop} {A : Option Addr} {n : Nat} {l : List α} (h : E.lies w S A n l) (hk : ∀ b, S b → (∀ o, w'.cell? ⟨b, o, none⟩ = w.cell? ⟨b, o, none⟩) ∧ S' b) : E.lies w' S' A n l := by
  obtain ⟨h1, ys, h2, h3⟩ := h
  exact ⟨h1, ys, h2.keep hk, h3.imp fun x y => E.keep hk⟩
theorem El.lies_nil {α : Type} (E : El α) (w : World) (S : Nat → Prop) : E.lies w S none 0 [] := ⟨rfl, [], .inl rfl, .nil⟩
def elTr : El Tr := ⟨Ex, exC, 7, fun _ => rfl, Tr.at_, fun hk h => Tr.at_.keep hk _ _ h⟩
def elItem : El (Tr × ByteArray) := ⟨Ex × ByteArray, fun y => exC y.1 ++ [.string y.2], 8, fun _ => rfl, fun w S x y => x.1.at_ w S y.1 ∧ y.2 = x.2, fun hk h => ⟨Tr.at_.keep hk _ _ h.1, h.2⟩⟩
def elOrder : El (Tr × Bool) := ⟨Ex × Bool, fun y => exC y.1 ++ [.bool y.2], 8, fun _ => rfl, fun w S x y => x.1.at_ w S y.1 ∧ y.2 = x.2, fun hk h => ⟨Tr.at_.keep hk _ _ h.1, h.2⟩⟩
def elCol : El (ByteArray × Int) := ⟨ByteArray × Int, fun y => [.string y.1, .int .u8 y.2], 2, fun _ => rfl, fun _ _ x y => y = x, fun _ h => h⟩
def elNum : El Int := ⟨Int, fun y => [.int .i64 y], 1, fun _ => rfl, fun _ _ x y => y = x, fun _ h => h⟩
def elSet : El (ByteArray × Tr) := ⟨ByteArray × Ex, fun y => .string y.1 :: exC y.2, 8, fun _ => rfl, fun w S x y => y.1 = x.1 ∧ x.2.at_ w S y.2, fun hk h => ⟨h.1, Tr.at_.keep hk _ _ h.2⟩⟩
structure Sl where
  A : Option Addr
  n : Nat
  c : Nat
def elRow : El (List Tr) := ⟨Sl, fun y => [.slice y.A y.n y.c], 1, fun _ => rfl, fun w S x y => elTr.lies w S y.A y.n x, fun hk h => El.lies.keep h hk⟩
def Btw (B : Nat) (w : World) : Nat → Prop := fun b => B ≤ b ∧ b < w.heap.size
theorem cell_of_heap {w w' : World} {b : Nat} (h : w'.heap[b]? = w.heap[b]?) (o : Nat) : w'.cell? ⟨b, o, none⟩ = w.cell? ⟨b, o, none⟩ := by
  unfold World.cell?
  simp only [h]
theorem btw_grown {g B : Nat} {w w' : World} (h : w.grownBy w' (some g)) (hg : g < B) : ∀ b, Btw B w b → (∀ o, w'.cell? ⟨b, o, none⟩ = w.cell? ⟨b, o, none⟩) ∧ Btw B w' b := fun b hb =>
  ⟨cell_of_heap (h.block b hb.2 (fun e => by injection e with e; have := hb.1; omega)), hb.1, Nat.lt_of_lt_of_le hb.2 h.size⟩
theorem btw_later {B : Nat} {w w' : World} (h : Below w.heap.size w w') : ∀ b, Btw B w b → (∀ o, w'.cell? ⟨b, o, none⟩ = w.cell? ⟨b, o, none⟩) ∧ Btw B w' b := fun b hb =>
  ⟨cell_of_heap (h.block b hb.2), hb.1, Nat.lt_of_lt_of_le hb.2 h.size⟩
theorem btw_set {B q : Nat} {w : World} (hq : q < B) (i : Nat) (u : Value) : ∀ b, Btw B w b → (∀ o, (w.setCell ⟨q, i, none⟩ u).cell? ⟨b, o, none⟩ = w.cell? ⟨b, o, none⟩) ∧ Btw B (w.setCell ⟨q, i, none⟩ u) b := fun b hb =>
  ⟨cell_of_heap (Below.heap_setCell w ⟨q, i, none⟩ u b (by have := hb.1; simp; omega)), hb.1, by simpa [World.setCell] using hb.2⟩
theorem btw_more {B B' : Nat} {w : World} (h : B' ≤ B) : ∀ b, Btw B w b → (∀ o, w.cell? ⟨b, o, none⟩ = w.cell? ⟨b, o, none⟩) ∧ Btw B' w b := fun b hb => ⟨fun _ => rfl, Nat.le_trans h hb.1, hb.2⟩
section
variable {B B' g q : Nat} {w w' : World} {t : Tr} {y : Ex}
theorem Tr.at_.grown (h : t.at_ w (Btw B w) y) (hg : w.grownBy w' (some g)) (hB : g < B) : t.at_ w' (Btw B w') y := Tr.at_.keep (btw_grown hg hB) t y h
theorem Tr.at_.later (h : t.at_ w (Btw B w) y) (hb : Below w.heap.size w w') : t.at_ w' (Btw B w') y := Tr.at_.keep (btw_later hb) t y h
theorem Tr.at_.set (h : t.at_ w (Btw B w) y) (hq : q < B) (i : Nat) (u : Value) : t.at_ (w.setCell ⟨q, i, none⟩ u) (Btw B (w.setCell ⟨q, i, none⟩ u)) y := Tr.at_.keep (btw_set hq i u) t y h
theorem Tr.at_.more (h : t.at_ w (Btw B w) y) (hB : B' ≤ B) : t.at_ w (Btw B' w) y := Tr.at_.keep (btw_more hB) t y h
end
section
variable {α : Type} {E : El α} {B B' g q : Nat} {w w' : World} {A : Option Addr} {n : Nat} {l : List α}
theorem El.lies.grown (h : E.lies w (Btw B w) A n l) (hg : w.grownBy w' (some g)) (hB : g < B) : E.lies w' (Btw B w') A n l := h.keep (btw_grown hg hB)
theorem El.lies.later (h : E.lies w (Btw B w) A n l) (hb : Below w.heap.size w w') : E.lies w' (Btw B w') A n l := h.keep (btw_later hb)
theorem El.lies.set (h : E.lies w (Btw B w) A n l) (hq : q < B) (i : Nat) (u : Value) : E.lies (w.setCell ⟨q, i, none⟩ u) (Btw B (w.setCell ⟨q, i, none⟩ u)) A n l := h.keep (btw_set hq i u)
theorem El.lies.more (h : E.lies w (Btw B w) A n l) (hB : B' ≤ B) : E.lies w (Btw B' w) A n l := h.keep (btw_more hB)
end
def Bx (B q : Nat) (w : World) : Nat → Prop := fun b => B ≤ b ∧ b < w.heap.size ∧ b ≠ q
section
variable {B B' g q : Nat} {w w' : World} {t : Tr} {y : Ex}
theorem bx_grown (h : w.grownBy w' (some g)) (hg : g < B) : ∀ b, Bx B q w b → (∀ o, w'.cell? ⟨b, o, none⟩ = w.cell? ⟨b, o, none⟩) ∧ Bx B q w' b := fun b hb =>
  ⟨cell_of_heap (h.block b hb.2.1 (fun e => by injection e with e; have := hb.1; omega)), hb.1, Nat.lt_of_lt_of_le hb.2.1 h.size, hb.2.2⟩
theorem bx_later (h : Below w.heap.size w w') : ∀ b, Bx B q w b → (∀ o, w'.cell? ⟨b, o, none⟩ = w.cell? ⟨b, o, none⟩) ∧ Bx B q w' b := fun b hb =>
  ⟨cell_of_heap (h.block b hb.2.1), hb.1, Nat.lt_of_lt_of_le hb.2.1 h.size, hb.2.2⟩
theorem bx_set (i : Nat) (u : Value) : ∀ b, Bx B q w b → (∀ o, (w.setCell ⟨q, i, none⟩ u).cell? ⟨b, o, none⟩ = w.cell? ⟨b, o, none⟩) ∧ Bx B q (w.setCell ⟨q, i, none⟩ u) b := fun b hb =>
  ⟨cell_of_heap (Below.heap_setCell w ⟨q, i, none⟩ u b (fun e => hb.2.2 e)), hb.1, by simpa [World.setCell] using hb.2.1, hb.2.2⟩
theorem bx_far {p : Nat} (hp : p < B) (i : Nat) (u : Value) : ∀ b, Bx B q w b → (∀ o, (w.setCell ⟨p, i, none⟩ u).cell? ⟨b, o, none⟩ = w.cell? ⟨b, o, none⟩) ∧ Bx B q (w.setCell ⟨p, i, none⟩ u) b := fun b hb =>
  ⟨cell_of_heap (Below.heap_setCell w ⟨p, i, none⟩ u b (by have := hb.1; simp; omega)), hb.1, by simpa [World.setCell] using hb.2.1, hb.2.2⟩
theorem bx_out (hB : B' ≤ B) : ∀ b, Bx B q w b → (∀ o, w.cell? ⟨b, o, none⟩ = w.cell? ⟨b, o, none⟩) ∧ Btw B' w b := fun b hb => ⟨fun _ => rfl, Nat.le_trans hB hb.1, hb.2.1⟩
theorem bx_new (o : Obj) (hB : B' ≤ B) : ∀ b, Btw B w b → (∀ i, (w.alloc o).cell? ⟨b, i, none⟩ = w.cell? ⟨b, i, none⟩) ∧ Bx B' w.heap.size (w.alloc o) b := fun b hb =>
  ⟨cell_of_heap (Below.heap_alloc w o b hb.2), Nat.le_trans hB hb.1, by have := hb.2; simp; omega, by have := hb.2; omega⟩
theorem bx_in (hq : q < B) (hB : B' ≤ B) : ∀ b, Btw B w b → (∀ i, w.cell? ⟨b, i, none⟩ = w.cell? ⟨b, i, none⟩) ∧ Bx B' q w b := fun b hb =>
  ⟨fun _ => rfl, Nat.le_trans hB hb.1, hb.2, by have := hb.1; omega⟩
end
theorem rl_blk {β : Type} {f : β → List Value} {size : Nat} (hf : ∀ x, (f x).length = size) {w : World} {S : Nat → Prop} {G : Nat} {T : TypeId} {ys : List β} (h : Blk w G T (ys.flatMap f).toArray) (hS : S G) : RL f size w S (some ⟨G, 0, none⟩) ys := by
  refine .inr ⟨G, 0, rfl, hS, fun i y j u hy hu => ?_⟩
  have := flat_cell hf ys i y hy j u hu
  have hc := h.cell (i * size + j)
  rw [Nat.zero_add, hc]
  simpa using this
theorem ex_len (y : Ex) : (exC y).length = 7 := rfl
def nilY : Val := ⟨0, 0, ⟨#[]⟩⟩
def opY (op : Int) (G n : Nat) : Ex := ⟨op, nilY, ⟨#[]⟩, 0, some ⟨G, 0, none⟩, n, n⟩
theorem op1_at {w : World} {S : Nat → Prop} {G : Nat} {T : TypeId} {x : Tr} {y : Ex} (op : Int) (h : Blk w G T (exC y).toArray) (hS : S G) (hx : x.at_ w S y) : (opT op [x]).at_ w S (opY op G 1) := by
  unfold opT Tr.at_
  exact ⟨rfl, rfl, rfl, rfl, rfl, [y], rl_blk ex_len (by simpa using h) hS, Tr.all_one hx⟩
theorem op2_at {w : World} {S : Nat → Prop} {G : Nat} {T : TypeId} {x x2 : Tr} {y y2 : Ex} (op : Int) (h : Blk w G T (exC y ++ exC y2).toArray) (hS : S G) (hx : x.at_ w S y) (hx2 : x2.at_ w S y2) : (opT op [x, x2]).at_ w S (opY op G 2) := by
  unfold opT Tr.at_
  exact ⟨rfl, rfl, rfl, rfl, rfl, [y, y2], rl_blk ex_len (by simpa using h) hS, Tr.all_two hx hx2⟩
theorem lit_at (w : World) (S : Nat → Prop) (v : Val) : (litT v).at_ w S ⟨1, v, ⟨#[]⟩, 0, none, 0, 0⟩ := by
  unfold litT Tr.at_
  exact ⟨rfl, rfl, rfl, rfl, rfl, [], .inl rfl, Tr.all_nil⟩
theorem col_at (w : World) (S : Nat → Prop) (n : ByteArray) : (colT n).at_ w S ⟨2, nilY, n, 0, none, 0, 0⟩ := by
  unfold colT Tr.at_
  exact ⟨rfl, rfl, rfl, rfl, rfl, [], .inl rfl, Tr.all_nil⟩
end Go.Proofs.YtcneefmaghoejaaGreatDoor
set_option linter.unusedSimpArgs false
set_option linter.unusedVariables false
namespace Go.Proofs.YtcneefmaghoejaaGreatDoor
def w_or : List UInt8 := [111, 114]
def w_and : List UInt8 := [97, 110, 100]
def w_not : List UInt8 := [110, 111, 116]
def w_is : List UInt8 := [105, 115]
def w_null : List UInt8 := [110, 117, 108, 108]
def w_true : List UInt8 := [116, 114, 117, 101]
def w_false : List UInt8 := [102, 97, 108, 115, 101]
def w_select : List UInt8 := [115, 101, 108, 101, 99, 116]
def w_from : List UInt8 := [102, 114, 111, 109]
def w_only : List UInt8 := [111, 110, 108, 121]
def w_where : List UInt8 := [119, 104, 101, 114, 101]
def w_group : List UInt8 := [103, 114, 111, 117, 112]
def w_by : List UInt8 := [98, 121]
def w_having : List UInt8 := [104, 97, 118, 105, 110, 103]
def w_order : List UInt8 := [111, 114, 100, 101, 114]
def w_limit : List UInt8 := [108, 105, 109, 105, 116]
def w_desc : List UInt8 := [100, 101, 115, 99]
def w_as : List UInt8 := [97, 115]
def w_create : List UInt8 := [99, 114, 101, 97, 116, 101]
def w_drop : List UInt8 := [100, 114, 111, 112]
def w_insert : List UInt8 := [105, 110, 115, 101, 114, 116]
def w_update : List UInt8 := [117, 112, 100, 97, 116, 101]
def w_delete : List UInt8 := [100, 101, 108, 101, 116, 101]
def w_call : List UInt8 := [99, 97, 108, 108]
def w_table : List UInt8 := [116, 97, 98, 108, 101]
def w_view : List UInt8 := [118, 105, 101, 119]
def w_job : List UInt8 := [106, 111, 98]
def w_int : List UInt8 := [105, 110, 116]
def w_bool : List UInt8 := [98, 111, 111, 108]
def w_text : List UInt8 := [116, 101, 120, 116]
def w_time : List UInt8 := [116, 105, 109, 101]
def w_every : List UInt8 := [101, 118, 101, 114, 121]
def w_space : List UInt8 := [115, 112, 97, 99, 101]
def w_into : List UInt8 := [105, 110, 116, 111]
def w_refresh : List UInt8 := [114, 101, 102, 114, 101, 115, 104]
def w_compress : List UInt8 := [99, 111, 109, 112, 114, 101, 115, 115]
def w_decompress : List UInt8 := [100, 101, 99, 111, 109, 112, 114, 101, 115, 115]
def w_drop_chunks : List UInt8 := [100, 114, 111, 112, 95, 99, 104, 117, 110, 107, 115]
def w_to : List UInt8 := [116, 111]
def w_after : List UInt8 := [97, 102, 116, 101, 114]
def w_values : List UInt8 := [118, 97, 108, 117, 101, 115]
def w_set : List UInt8 := [115, 101, 116]
def w_bucket : List UInt8 := [98, 117, 99, 107, 101, 116]
def w_count : List UInt8 := [99, 111, 117, 110, 116]
def w_sum : List UInt8 := [115, 117, 109]
def w_min : List UInt8 := [109, 105, 110]
def w_max : List UInt8 := [109, 97, 120]
def w_avg : List UInt8 := [97, 118, 103]
def w_first : List UInt8 := [102, 105, 114, 115, 116]
def w_last : List UInt8 := [108, 97, 115, 116]
def s_comma : List UInt8 := [44]
def s_open : List UInt8 := [40]
def s_close : List UInt8 := [41]
def s_semi : List UInt8 := [59]
def s_star : List UInt8 := [42]
def s_minus : List UInt8 := [45]
def s_plus : List UInt8 := [43]
def s_slash : List UInt8 := [47]
def s_percent : List UInt8 := [37]
def s_eq : List UInt8 := [61]
def s_ne : List UInt8 := [60, 62]
def s_lt : List UInt8 := [60]
def s_le : List UInt8 := [60, 61]
def s_gt : List UInt8 := [62]
def s_ge : List UInt8 := [62, 61]
structure Qu where
  items : List (Tr × ByteArray) := []
  frm : ByteArray := ByteArray.empty
  only : Bool := false
  whr : List Tr := []
  group : List Tr := []
  having : List Tr := []
  order : List (Tr × Bool) := []
  limit : List Int := []
structure St where
  kind : Int := 0
  name : ByteArray := ByteArray.empty
  cols : List (ByteArray × Int) := []
  time : ByteArray := ByteArray.empty
  every : Int := 0
  space : ByteArray := ByteArray.empty
  parts : Int := 0
  query : Qu := {}
  what : Int := 0
  of_ : ByteArray := ByteArray.empty
  a : Int := 0
  b : Int := 0
  rows : List (List Tr) := []
  sets : List (ByteArray × Tr) := []
  whr : List Tr := []
  frm : Val := nilVal
  to_ : Val := nilVal
abbrev Wds := List Wd
def Ps (α : Type) : Type := Wds → Except Nat (α × Wds)
instance : Monad Ps where
  pure x := fun l => .ok (x, l)
  bind p f := fun l => match p l with
    | .error n => .error n
    | .ok (x, r) => f x r
def isW (s : List UInt8) (t : Wd) : Bool := (t.k == 1 || t.k == 4) && t.s == s
def headIs (s : List UInt8) : Wds → Bool
  | [] => false
  | t :: _ => isW s t
def wrongP {α : Type} : Ps α := fun l => .error l.length
def may (s : List UInt8) : Ps Bool := fun l => if headIs s l then .ok (true, l.tail) else .ok (false, l)
def must (s : List UInt8) : Ps Unit := fun l => if headIs s l then .ok ((), l.tail) else .error l.length
def anyP : List (List UInt8) → Ps (List UInt8)
  | [] => wrongP
  | s :: ks => fun l => if headIs s l then .ok (s, l.tail) else anyP ks l
def nameP : Ps ByteArray
  | [] => .error 0
  | t :: r => if t.k = 1 ∧ resB t.s = false then .ok (⟨t.s.toArray⟩, r) else .error (t :: r).length
def numP : Ps Int
  | [] => .error 0
  | t :: r => if t.k = 2 then .ok (t.n, r) else .error (t :: r).length
def moreF {α : Type} (el : Ps α) : Nat → List α → Ps (List α)
  | 0, acc => pure acc
  | f + 1, acc => fun l => if headIs s_comma l then (do let y ← el; moreF el f (acc ++ [y])) l.tail else .ok (acc, l)
def listP {α : Type} (el : Ps α) : Ps (List α) := do
  let x ← el
  fun l => moreF el l.length [x] l
def opsL : Nat → List (List UInt8 × Int)
  | 0 => [(w_or, 17)]
  | 1 => [(w_and, 16)]
  | 3 => [(s_eq, 10), (s_ne, 11), (s_lt, 12), (s_le, 13), (s_gt, 14), (s_ge, 15)]
  | 4 => [(s_plus, 5), (s_minus, 6)]
  | 5 => [(s_star, 7), (s_slash, 8), (s_percent, 9)]
  | _ => []
def opOf : List (List UInt8 × Int) → Wds → Option Int
  | [], _ => none
  | (s, o) :: k, l => if headIs s l then some o else opOf k l
def leftF (below : Ps Tr) (lv : Nat) : Nat → Tr → Ps Tr
  | 0, x => pure x
  | f + 1, x => fun l => match opOf (opsL lv) l with
    | none => .ok (x, l)
    | some o => (do let y ← below; leftF below lv f (opT o [x, y])) l.tail
def leftP (below : Ps Tr) (lv : Nat) : Ps Tr := do
  let x ← below
  fun l => leftF below lv l.length x l
def cmpF (below : Ps Tr) (x : Tr) : Ps Tr := fun l => match opOf (opsL 3) l with
  | none => .ok (x, l)
  | some o => (do let y ← below; return opT o [x, y]) l.tail
def cmpP (below : Ps Tr) : Ps Tr := do
  let x ← below
  if ← may w_is then
    let n ← may w_not
    must w_null
    return opT (if n then 19 else 18) [x]
  else cmpF below x
def unP (s : List UInt8) (op : Int) (same below : Ps Tr) : Ps Tr := do
  if ← may s then
    let x ← same
    return opT op [x]
  else below
def funL : List (List UInt8 × Int) := [(w_bucket, 20), (w_count, 22), (w_sum, 23), (w_min, 24), (w_max, 25), (w_avg, 26), (w_first, 27), (w_last, 28)]
def funOf (n : ByteArray) : Option Int := funL.lookup n.data.toList
def widthP (op : Int) : Ps Int :=
  if op = 20 then (do
    let n ← numP
    must s_comma
    return n) else pure 0
def secondP (whole : Ps Tr) (op : Int) : Ps (List Tr) :=
  if op = 27 ∨ op = 28 then (do
    must s_comma
    let y ← whole
    return [y]) else pure []
def argsP (whole : Ps Tr) (op : Int) : Ps Tr := do
  let width ← widthP op
  let x ← whole
  let ys ← secondP whole op
  must s_close
  return .mk op nilVal ByteArray.empty width (x :: ys)
def countP (whole : Ps Tr) : Ps Tr := do
  if ← may s_star then
    must s_close
    return opT 21 []
  else argsP whole 22
def funP (whole : Ps Tr) (op : Int) : Ps Tr := if op = 22 then countP whole else argsP whole op
def namedP (whole : Ps Tr) : Ps Tr := do
  let n ← nameP
  fun l => if headIs s_open l then (match funOf n with
    | none => .error l.length
    | some op => funP whole op l.tail) else .ok (colT n, l)
def atomP (whole : Ps Tr) : Ps Tr := fun l =>
  match l with
  | [] => .error 0
  | t :: r =>
    if t.k = 2 then .ok (litT ⟨2, t.n, ByteArray.empty⟩, r)
    else if t.k = 3 then .ok (litT ⟨3, 0, ⟨t.s.toArray⟩⟩, r)
    else if isW w_true t then .ok (litT ⟨1, 1, ByteArray.empty⟩, r)
    else if isW w_false t then .ok (litT ⟨1, 0, ByteArray.empty⟩, r)
    else if isW w_null t then .ok (litT nilVal, r)
    else if isW s_open t then (do let x ← whole; must s_close; return x) r
    else namedP whole (t :: r)
def pE : Nat → Nat → Ps Tr
  | 0, _ => wrongP
  | f + 1, 0 => leftP (pE f 1) 0
  | f + 1, 1 => leftP (pE f 2) 1
  | f + 1, 2 => unP w_not 4 (pE f 2) (pE f 3)
  | f + 1, 3 => cmpP (pE f 4)
  | f + 1, 4 => leftP (pE f 5) 4
  | f + 1, 5 => leftP (pE f 6) 5
  | f + 1, 6 => unP s_minus 3 (pE f 6) (pE f 7)
  | f + 1, _ => atomP (pE f 0)
def exprL (lv : Nat) : Ps Tr := fun l => pE (8 * l.length + 8 - lv) lv l
def exprP : Ps Tr := exprL 0
def behindP (s : List UInt8) : Ps (List Tr) := do
  if ← may s then
    let x ← exprP
    return [x]
  else return []
def itemP : Ps (Tr × ByteArray) := do
  let x ← exprP
  if ← may w_as then
    let n ← nameP
    return (x, n)
  else return (x, ByteArray.empty)
def orderP : Ps (Tr × Bool) := do
  let x ← exprP
  let d ← may w_desc
  return (x, d)
def itemsP : Ps (List (Tr × ByteArray)) := do
  if ← may s_star then
    return []
  else listP itemP
def groupP : Ps (List Tr) := do
  if ← may w_group then
    must w_by
    listP exprP
  else return []
def ordersP : Ps (List (Tr × Bool)) := do
  if ← may w_order then
    must w_by
    listP orderP
  else return []
def limitP : Ps (List Int) := do
  if ← may w_limit then
    let n ← numP
    return [n]
  else return []
def queryP : Ps Qu := do
  must w_select
  let items ← itemsP
  must w_from
  let only ← may w_only
  let frm ← nameP
  let whr ← behindP w_where
  let group ← groupP
  let having ← behindP w_having
  let order ← ordersP
  let limit ← limitP
  return { items, frm, only, whr, group, having, order, limit }
def typeOf (s : List UInt8) : Int := if s = w_int then 2 else if s = w_bool then 1 else 3
def columnP : Ps (ByteArray × Int) := do
  let n ← nameP
  let t ← anyP [w_int, w_bool, w_text]
  return (n, typeOf t)
def spaceP : Ps (ByteArray × Int) := do
  if ← may w_space then
    let s ← nameP
    must w_into
    let n ← numP
    return (s, n)
  else return (ByteArray.empty, 0)
def tableP : Ps St := do
  let name ← nameP
  must s_open
  let cols ← listP columnP
  must s_close
  must w_time
  let time ← nameP
  must w_every
  let every ← numP
  let sp ← spaceP
  return { kind := 1, name, cols, time, every, space := sp.1, parts := sp.2 }
def viewP : Ps St := do
  let name ← nameP
  must w_as
  let query ← queryP
  return { kind := 2, name, query }
def jobAP (s : List UInt8) : Ps (Int × Int) := do
  if s = w_refresh then
    must w_from
    let a ← numP
    must w_to
    let b ← numP
    return (a, b)
  else
    must w_after
    let a ← numP
    return (a, 0)
def jobP : Ps St := do
  let name ← nameP
  let s ← anyP [w_refresh, w_compress, w_drop]
  let of_ ← nameP
  let ab ← jobAP s
  must w_every
  let every ← numP
  return { kind := 3, name, what := if s = w_refresh then 9 else if s = w_compress then 10 else 12, of_, a := ab.1, b := ab.2, every }
def createP : Ps St := do
  let s ← anyP [w_table, w_view, w_job]
  if s = w_table then tableP else if s = w_view then viewP else jobP
def dropP : Ps St := do
  let s ← anyP [w_table, w_view, w_job]
  let name ← nameP
  return { kind := 4, what := if s = w_table then 1 else if s = w_view then 2 else 3, name }
def rowP : Ps (List Tr) := do
  must s_open
  let l ← listP exprP
  must s_close
  return l
def insertP : Ps St := do
  must w_into
  let name ← nameP
  must w_values
  let rows ← listP rowP
  return { kind := 5, name, rows }
def setP : Ps (ByteArray × Tr) := do
  let n ← nameP
  must s_eq
  let x ← exprP
  return (n, x)
def updateP : Ps St := do
  let name ← nameP
  must w_set
  let sets ← listP setP
  let whr ← behindP w_where
  return { kind := 6, name, sets, whr }
def deleteP : Ps St := do
  must w_from
  let name ← nameP
  let whr ← behindP w_where
  return { kind := 7, name, whr }
def selectP : Ps St := do
  let query ← queryP
  return { kind := 8, query }
def endP : Ps Val := do
  if ← may w_null then
    return nilVal
  else
    let less ← may s_minus
    let n ← numP
    return ⟨2, if less then -n else n, ByteArray.empty⟩
def endFromP (k : Int) : Ps Val := do
  if k = 9 then
    let v ← endP
    must s_comma
    return v
  else return nilVal
def callP : Ps St := do
  let s ← anyP [w_refresh, w_compress, w_decompress, w_drop_chunks]
  let kind : Int := if s = w_refresh then 9 else if s = w_compress then 10 else if s = w_decompress then 11 else 12
  must s_open
  let name ← nameP
  must s_comma
  let frm ← endFromP kind
  let to_ ← endP
  must s_close
  return { kind, name, frm, to_ }
def statementP : Ps St := fun l =>
  match l with
  | [] => .error 0
  | t :: r =>
    if ¬ t.k = 1 then .error (t :: r).length
    else if t.s = w_select then selectP (t :: r)
    else if t.s = w_create then createP r
    else if t.s = w_drop then dropP r
    else if t.s = w_insert then insertP r
    else if t.s = w_update then updateP r
    else if t.s = w_delete then deleteP r
    else if t.s = w_call then callP r
    else .error (t :: r).length
def lastP : Ps Unit
  | [] => .error 0
  | t :: r => if t.k = 0 then .ok ((), t :: r) else .error (t :: r).length
def wholeP : Ps St := do
  let s ← statementP
  let _ ← may s_semi
  lastP
  return s
mutual
def Tr.depth : Tr → Nat
  | .mk _ _ _ _ args => Tr.depths args + 1
def Tr.depths : List Tr → Nat
  | [] => 0
  | t :: l => max t.depth (Tr.depths l)
end
def Qu.exprs (q : Qu) : List Tr := q.items.map (·.1) ++ q.whr ++ q.group ++ q.having ++ q.order.map (·.1)
def St.exprs (s : St) : List Tr := s.rows.flatten ++ s.sets.map (·.2) ++ s.whr ++ s.query.exprs
def deepB (l : List Tr) : Bool := l.any fun t => decide (32 < t.depth)
def Qu.long (q : Qu) : Bool := decide (64 < q.items.length) || decide (64 < q.group.length) || decide (64 < q.order.length)
def St.long (s : St) : Bool := decide (64 < s.cols.length) || decide (64 < s.rows.length) || s.rows.any (fun r => decide (64 < r.length)) || decide (64 < s.sets.length) || s.query.long
def parseL (s : List UInt8) : Except (Nat × Nat) St :=
  match lexL s with
  | .error x => .error x
  | .ok l => match wholeP (l.map (·.w)) with
    | .error n => .error (((l[l.length - n]?).map (·.p)).getD 0, 31)
    | .ok (t, _) => if t.long then .error (0, 2) else if deepB t.exprs then .error (0, 32) else .ok t
end Go.Proofs.YtcneefmaghoejaaGreatDoor
