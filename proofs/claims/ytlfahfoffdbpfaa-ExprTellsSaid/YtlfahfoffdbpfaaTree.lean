/- Expressions as trees: how they lie in memory, and what they are worth. -/
import Derived.Test.YtlfahfoffdbpfaaEval0
import Derived.Test.YtlfahfoffdbpfaaLits
namespace Go.Proofs.Ytlfahfoffdbpfaa
open Go.ChangeShapes Go.WideShapes Go.ChangeAt Go.RowKit
set_option linter.unusedVariables false
set_option linter.unusedSimpArgs false

/-- an expression -/
inductive Tr where
  | mk (op : Int) (v : Val) (name : ByteArray) (width : Int) (args : List Tr)

/-- a slice that reads as expressions, its block one of S -/
def RES (w : World) (S : Nat → Prop) (A : Option Addr) (l : List Ex) : Prop :=
  l = [] ∨ ∃ b off, A = some ⟨b, off, none⟩ ∧ S b ∧ ∀ i x, l[i]? = some x → ExAt w b (off + i * 7) x

mutual
/-- y is the tree's root, in memory w, all that hangs on it in blocks of S -/
def Tr.at_ (w : World) (S : Nat → Prop) : Tr → Ex → Prop
  | .mk op v name width args, y => y.op = op ∧ y.v = v ∧ y.name = name ∧ y.width = width ∧ y.n = args.length ∧ ∃ ys, RES w S y.A ys ∧ Tr.all_ w S args ys
def Tr.all_ (w : World) (S : Nat → Prop) : List Tr → List Ex → Prop
  | [], ys => ys = []
  | t :: ts, ys => ∃ y ys', ys = y :: ys' ∧ Tr.at_ w S t y ∧ Tr.all_ w S ts ys'
end

theorem RES.keep {w w' : World} {S S' : Nat → Prop} {A : Option Addr} {l : List Ex} (h : RES w S A l) (hk : ∀ b, S b → (∀ o, w'.cell? ⟨b, o, none⟩ = w.cell? ⟨b, o, none⟩) ∧ S' b) : RES w' S' A l := by
  rcases h with h | ⟨b, off, h1, h2, h3⟩
  · exact .inl h
  · exact .inr ⟨b, off, h1, (hk b h2).2, fun i x hx => (h3 i x hx).keep (hk b h2).1⟩
mutual
theorem Tr.at_.keep {w w' : World} {S S' : Nat → Prop} (hk : ∀ b, S b → (∀ o, w'.cell? ⟨b, o, none⟩ = w.cell? ⟨b, o, none⟩) ∧ S' b) : ∀ (t : Tr) (y : Ex), t.at_ w S y → t.at_ w' S' y
  | .mk op v name width args, y, h => by
    unfold Tr.at_ at h ⊢
    obtain ⟨h1, h2, h3, h4, h5, ys, h6, h7⟩ := h
    exact ⟨h1, h2, h3, h4, h5, ys, h6.keep hk, Tr.all_.keep hk args ys h7⟩
theorem Tr.all_.keep {w w' : World} {S S' : Nat → Prop} (hk : ∀ b, S b → (∀ o, w'.cell? ⟨b, o, none⟩ = w.cell? ⟨b, o, none⟩) ∧ S' b) : ∀ (ts : List Tr) (ys : List Ex), Tr.all_ w S ts ys → Tr.all_ w' S' ts ys
  | [], ys, h => by unfold Tr.all_ at h ⊢; exact h
  | t :: ts, ys, h => by
    unfold Tr.all_ at h ⊢
    obtain ⟨y, ys', h1, h2, h3⟩ := h
    exact ⟨y, ys', h1, Tr.at_.keep hk t y h2, Tr.all_.keep hk ts ys' h3⟩
end
theorem Tr.all_.length {w : World} {S : Nat → Prop} : ∀ {ts : List Tr} {ys : List Ex}, Tr.all_ w S ts ys → ys.length = ts.length
  | [], ys, h => by unfold Tr.all_ at h; subst h; rfl
  | t :: ts, ys, h => by
    unfold Tr.all_ at h
    obtain ⟨y, ys', rfl, _, h3⟩ := h
    simp [Tr.all_.length h3]
/-- blocks that are there already -/
def Old (w : World) : Nat → Prop := fun b => b < w.heap.size
theorem RES.old {w : World} {A : Option Addr} {l : List Ex} (h : RES w (Old w) A l) : RE w w.heap.size A l := h
theorem Tr.at_.later {w w' : World} {t : Tr} {y : Ex} (h : t.at_ w (Old w) y) (hb : Below w.heap.size w w') : t.at_ w' (Old w') y :=
  Tr.at_.keep (fun b hS => ⟨fun o => hb.cell (p := ⟨b, o, none⟩) hS, Nat.lt_of_lt_of_le hS hb.size⟩) t y h
theorem Tr.all_.later {w w' : World} {ts : List Tr} {ys : List Ex} (h : Tr.all_ w (Old w) ts ys) (hb : Below w.heap.size w w') : Tr.all_ w' (Old w') ts ys :=
  Tr.all_.keep (fun b hS => ⟨fun o => hb.cell (p := ⟨b, o, none⟩) hS, Nat.lt_of_lt_of_le hS hb.size⟩) ts ys h

mutual
/-- numbers are of 64 bits, and no list is longer than memory lets it be -/
def Tr.ok : Tr → Prop
  | .mk op v name width args => v.Ok ∧ args.length ≤ 1599289640356 ∧ (0 ≤ op ∧ op ≤ 255) ∧ (-9223372036854775808 ≤ width ∧ width ≤ 9223372036854775807) ∧ (0 ≤ v.k ∧ v.k ≤ 255) ∧ Tr.oks args
def Tr.oks : List Tr → Prop
  | [] => True
  | t :: ts => t.ok ∧ Tr.oks ts
end

/-- a column -/
structure Col where
  name : ByteArray
  t : Int
def ColAt (w : World) (b off : Nat) (x : Col) : Prop := w.cell? ⟨b, off, none⟩ = some (.string x.name) ∧ w.cell? ⟨b, off + 1, none⟩ = some (.int .u8 x.t)
theorem ColAt.keep {w w' : World} {b off : Nat} {x : Col} (h : ColAt w b off x) (hk : ∀ o, w'.cell? ⟨b, o, none⟩ = w.cell? ⟨b, o, none⟩) : ColAt w' b off x := by
  unfold ColAt at *
  simp only [hk]
  exact h
/-- a slice that reads as columns -/
def RC (w : World) (B : Nat) (A : Option Addr) (l : List Col) : Prop :=
  l = [] ∨ ∃ b off, A = some ⟨b, off, none⟩ ∧ b < B ∧ ∀ i x, l[i]? = some x → ColAt w b (off + i * 2) x
theorem RC.below {w w' : World} {B : Nat} {A : Option Addr} {l : List Col} (h : RC w B A l) (hb : Below B w w') : RC w' B A l := by
  rcases h with h | ⟨b, off, h1, h2, h3⟩
  · exact .inl h
  · exact .inr ⟨b, off, h1, h2, fun i x hx => (h3 i x hx).keep fun o => hb.cell (p := ⟨b, o, none⟩) h2⟩
theorem RC.more {w : World} {B B' : Nat} {A : Option Addr} {l : List Col} (h : RC w B A l) (hB : B ≤ B') : RC w B' A l := by
  rcases h with h | ⟨b, off, h1, h2, h3⟩
  · exact .inl h
  · exact .inr ⟨b, off, h1, by omega, h3⟩
theorem RC.later {w w' : World} {A : Option Addr} {l : List Col} (h : RC w w.heap.size A l) (hb : Below w.heap.size w w') : RC w' w'.heap.size A l := (h.below hb).more hb.size
theorem RC.at_ {w : World} {B : Nat} {A : Option Addr} {l : List Col} (h : RC w B A l) {k : Nat} (hk : k < l.length) : ∃ b off, A = some ⟨b, off, none⟩ ∧ b < B ∧ ColAt w b (off + k * 2) l[k] := by
  rcases h with h | ⟨b, off, h1, h2, h3⟩
  · subst h; simp at hk
  · exact ⟨b, off, h1, h2, h3 k _ (List.getElem?_eq_getElem hk)⟩
theorem RV.later {w w' : World} {A : Option Addr} {l : List Val} (h : RV w w.heap.size A l) (hb : Below w.heap.size w w') : RV w' w'.heap.size A l := (h.below hb).more hb.size

/-- a column's place; its length where there is none -/
def placeK (name : ByteArray) : List Col → Nat
  | [] => 0
  | c :: cs => if (c.name.toList == name.toList) = true then 0 else placeK name cs + 1
theorem placeK_le (name : ByteArray) : ∀ cols, placeK name cols ≤ cols.length
  | [] => by simp [placeK]
  | c :: cs => by
    unfold placeK
    have := placeK_le name cs
    split <;> simp <;> omega
/-- the place as the code tells it -/
def placeI (name : ByteArray) (cols : List Col) : Int := if placeK name cols < cols.length then placeK name cols else -1
/-- what a column is worth -/
def colR (cols : List Col) (row : List Val) (name : ByteArray) : Val × Int :=
  if placeK name cols < cols.length ∧ placeK name cols < row.length then
    (if good (row.getD (placeK name cols) zeroVal) = true then (row.getD (placeK name cols) zeroVal, 0) else (zeroVal, 40))
  else (zeroVal, 41)
/-- the first error -/
def firstE : List (Val × Int) → Int
  | [] => 0
  | r :: rs => if r.2 ≠ 0 then r.2 else firstE rs
/-- what a node is worth, of what its arguments are -/
def evalN (cols : List Col) (row : List Val) (x : Ex) (rs : List (Val × Int)) : Val × Int :=
  if firstE rs ≠ 0 then (zeroVal, firstE rs) else if formE x ≠ 0 then (zeroVal, formE x) else if x.op = 1 then (x.v, 0) else if x.op = 2 then colR cols row x.name else nodeT x.op x.width (rs.map (·.1))
mutual
def Tr.eval (cols : List Col) (row : List Val) : Tr → Val × Int
  | .mk op v name width args => evalN cols row ⟨op, v, name, width, none, args.length, 0⟩ (Tr.evals cols row args)
def Tr.evals (cols : List Col) (row : List Val) : List Tr → List (Val × Int)
  | [] => []
  | t :: ts => t.eval cols row :: Tr.evals cols row ts
end
theorem Tr.evals_length (cols : List Col) (row : List Val) : ∀ ts, (Tr.evals cols row ts).length = ts.length
  | [] => by simp [Tr.evals]
  | t :: ts => by simp [Tr.evals, Tr.evals_length cols row ts]
theorem ok_zero : zeroVal.Ok := ⟨by decide, by decide⟩
theorem ok_bool (b : Bool) : (boolV b).Ok := by cases b <;> exact ⟨by decide, by decide⟩
theorem ok_wrap (n : Int) : -9223372036854775808 ≤ wrap64 n ∧ wrap64 n ≤ 9223372036854775807 := by unfold wrap64; omega
theorem ok_numIf {n : Int} {c : Bool} (h : -9223372036854775808 ≤ n ∧ n ≤ 9223372036854775807) : (numIf n c).1.Ok := by
  cases c
  · exact ok_zero
  · exact h
theorem ok_mod {a b : Int} (ha : -9223372036854775808 ≤ a ∧ a ≤ 9223372036854775807) : -9223372036854775808 ≤ Int.tmod a b ∧ Int.tmod a b ≤ 9223372036854775807 := by
  have h : (Int.tmod a b).natAbs ≤ a.natAbs := by rw [Int.natAbs_tmod]; exact Nat.mod_le _ _
  have h2 : 0 ≤ a → 0 ≤ Int.tmod a b := fun h => Int.tmod_nonneg b h
  have h3 : a ≤ 0 → Int.tmod a b ≤ 0 := fun h => by
    have := Int.tmod_nonneg b (show 0 ≤ -a by omega)
    rw [Int.neg_tmod] at this
    omega
  omega
theorem ok_logic (s : Bool) (l : List Val) : (logicT s l).Ok := by
  unfold logicT
  repeat (first | exact ok_zero | exact ok_bool _ | split)
theorem ok_do (k : Nat) (wd : Int) (l : List Val) (hl : ∀ v ∈ l, v.Ok) : (doT k wd l).1.Ok := by
  unfold doT
  split
  case h_7 a b => unfold modZ; split; exact ok_zero; exact ok_numIf (ok_mod (hl a (by simp)))
  all_goals first
    | exact ok_zero
    | exact ok_bool _
    | exact ok_logic _ _
    | exact ok_numIf (ok_wrap _)
    | (unfold divZ; split; exact ok_zero; exact ok_numIf (ok_wrap _))
theorem ok_node (op wd : Int) (l : List Val) (hl : ∀ v ∈ l, v.Ok) : (nodeT op wd l).1.Ok := by
  unfold nodeT
  split
  · exact ok_zero
  · split
    · exact ok_zero
    · exact ok_do _ _ _ hl
theorem ok_col (cols : List Col) (row : List Val) (name : ByteArray) (hr : ∀ v ∈ row, v.Ok) : (colR cols row name).1.Ok := by
  unfold colR
  split
  · rename_i h
    split
    · rw [List.getD_eq_getElem?_getD, List.getElem?_eq_getElem h.2]
      exact hr _ (List.getElem_mem h.2)
    · exact ok_zero
  · exact ok_zero
mutual
theorem Tr.eval_ok (cols : List Col) (row : List Val) (hr : ∀ v ∈ row, v.Ok) : ∀ t : Tr, t.ok → (t.eval cols row).1.Ok
  | .mk op v name width args, h => by
    unfold Tr.ok at h
    unfold Tr.eval evalN
    have ha := Tr.evals_ok cols row hr args h.2.2.2.2.2
    split
    · exact ok_zero
    · split
      · exact ok_zero
      · split
        · exact h.1
        · split
          · exact ok_col _ _ _ hr
          · refine ok_node _ _ _ fun u hu => ?_
            obtain ⟨z, hz, rfl⟩ := List.mem_map.1 hu
            exact ha z hz
theorem Tr.evals_ok (cols : List Col) (row : List Val) (hr : ∀ v ∈ row, v.Ok) : ∀ ts : List Tr, Tr.oks ts → ∀ z ∈ Tr.evals cols row ts, z.1.Ok
  | [], _, z, hz => by simp [Tr.evals] at hz
  | t :: ts, h, z, hz => by
    unfold Tr.oks at h
    unfold Tr.evals at hz
    rcases List.mem_cons.1 hz with rfl | hz
    · exact Tr.eval_ok cols row hr t h.1
    · exact Tr.evals_ok cols row hr ts h.2 z hz
end
/-- all go right, or one is the first that does not -/
theorem first_split : ∀ (l : List (Ex × (Val × Int))), (∀ a ∈ l, a.2.2 = 0) ∨ ∃ pre bad post, l = pre ++ bad :: post ∧ (∀ a ∈ pre, a.2.2 = 0) ∧ bad.2.2 ≠ 0
  | [] => .inl (by simp)
  | a :: l => by
    by_cases h : a.2.2 = 0
    · rcases first_split l with h1 | ⟨pre, bad, post, h1, h2, h3⟩
      · exact .inl (by intro x hx; rcases List.mem_cons.1 hx with rfl | hx; exact h; exact h1 x hx)
      · refine .inr ⟨a :: pre, bad, post, by rw [h1]; rfl, ?_, h3⟩
        intro x hx
        rcases List.mem_cons.1 hx with rfl | hx
        · exact h
        · exact h2 x hx
    · exact .inr ⟨[], a, l, rfl, by simp, h⟩
theorem firstE_zero : ∀ {l : List (Val × Int)}, (∀ a ∈ l, a.2 = 0) → firstE l = 0
  | [], _ => rfl
  | a :: l, h => by
    unfold firstE
    rw [if_neg (by simp [h a (by simp)])]
    exact firstE_zero fun x hx => h x (by simp [hx])
theorem firstE_at : ∀ {pre post : List (Val × Int)} {bad : Val × Int}, (∀ a ∈ pre, a.2 = 0) → bad.2 ≠ 0 → firstE (pre ++ bad :: post) = bad.2
  | [], post, bad, _, hb => by unfold firstE; simp [hb]
  | a :: pre, post, bad, h, hb => by
    show firstE (a :: (pre ++ bad :: post)) = _
    unfold firstE
    rw [if_neg (by simp [h a (by simp)])]
    exact firstE_at (fun x hx => h x (by simp [hx])) hb
end Go.Proofs.Ytlfahfoffdbpfaa
