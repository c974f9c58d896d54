/- expr.Eval: its arguments' worths, gathered: the statement of two appends. -/
import Derived.Test.YtlfahfoffdbpfaaDoIs
import Derived.Test.YtlfahfoffdbpfaaApp2
namespace Go.Proofs.Ytlfahfoffdbpfaa
open Go.ChangeShapes Go.WideShapes Go.ChangeAt Go.RowKit
set_option linter.unusedVariables false
set_option linter.unusedSimpArgs false

def valCells (v : Val) : List Value := [.int .u8 v.k, .int .i64 v.n, .string v.s]
def kindCell (k : Int) : List Value := [.int .u8 k]
theorem val_info : (Try.prog.info? 23).map (fun i => (i.zero, i.size, i.bytes)) = some (some (.agg #[.int .u8 0, .int .i64 0, .string ⟨#[]⟩]), 3, 32) := by kernel_rfl

theorem add_none (b off n : Nat) : Addr.add ⟨b, off, none⟩ n = ⟨b, off + n, none⟩ := by
  unfold Addr.add
  split
  · rename_i h; subst h; rfl
  · rfl
theorem flat_at {α : Type} {f : α → List Value} {size : Nat} (hf : ∀ x, (f x).length = size) : ∀ (l : List α) (i j : Nat) (x : α), l[i]? = some x → j < size → (l.flatMap f)[i * size + j]? = (f x)[j]?
  | [], i, j, x, h, hj => by simp at h
  | y :: l, 0, j, x, h, hj => by
    simp at h
    subst h
    simp only [List.flatMap_cons, Nat.zero_mul, Nat.zero_add]
    rw [List.getElem?_append_left (by rw [hf]; exact hj)]
  | y :: l, i + 1, j, x, h, hj => by
    have := flat_at hf l i j x (by simpa using h) hj
    simp only [List.flatMap_cons]
    rw [List.getElem?_append_right (by rw [hf, Nat.succ_mul]; omega), hf, ← this]
    congr 1
    rw [Nat.succ_mul]
    omega
theorem own_cells {α : Type} {f : α → List Value} {e : TypeId} {size : Nat} (hf : ∀ x, (f x).length = size) {w : World} {base : Nat} {v : Value} {l : List α} (h : OwnF f e size w base v l) :
    ∃ A c, v = .slice A l.length c ∧ (l = [] ∨ ∃ g, A = some ⟨g, 0, none⟩ ∧ g < w.heap.size ∧ ∀ i x j u, l[i]? = some x → j < size → (f x)[j]? = some u → w.cell? ⟨g, i * size + j, none⟩ = some u) := by
  obtain ⟨A, c, rfl, hr, _, hA⟩ := h.reads
  refine ⟨A, c, rfl, ?_⟩
  rcases hA with rfl | ⟨g, rfl, hg⟩
  · exact .inl rfl
  · rcases List.eq_nil_or_concat l with rfl | hne
    · exact .inl rfl
    · have hpos : 0 < l.length := by obtain ⟨_, _, rfl⟩ := hne; simp
      obtain ⟨ad, e, hb, hc⟩ := hr.2 hpos
      injection e with e
      subst e
      refine .inr ⟨g, rfl, hb, fun i x j u hx hj hu => ?_⟩
      have := hc (i * size + j) u ((flat_at hf l i j x hx hj).trans hu)
      rw [add_none] at this
      simpa using this
theorem own_rv {w : World} {base : Nat} {v : Value} {l : List Val} (h : OwnF valCells 23 3 w base v l) : ∃ A c, v = .slice A l.length c ∧ RV w w.heap.size A l := by
  obtain ⟨A, c, rfl, hc⟩ := own_cells (f := valCells) (size := 3) (fun _ => rfl) h
  refine ⟨A, c, rfl, ?_⟩
  rcases hc with hc | ⟨g, rfl, hg, hc⟩
  · exact .inl hc
  · refine .inr ⟨g, 0, rfl, hg, fun i x hx => ?_⟩
    have k := fun j u hj hu => hc i x j u hx hj hu
    exact ⟨by simpa using k 0 _ (by omega) rfl, by simpa using k 1 _ (by omega) rfl, by simpa using k 2 _ (by omega) rfl⟩

def wantsN (op : Int) : Int := if op = 4 ∨ op = 16 ∨ op = 17 then 1 else if 10 ≤ op ∧ op ≤ 15 ∨ op = 18 ∨ op = 19 then 0 else 2
def givesN (op : Int) : Int := if op = 4 ∨ 10 ≤ op ∧ op ≤ 19 then 1 else 2
def alikeB (op : Int) : Bool := decide (10 ≤ op ∧ op ≤ 15)
def nullsB (op : Int) : Bool := decide (16 ≤ op ∧ op ≤ 19)
set_option maxHeartbeats 1000000 in
theorem OpIs.fields {w : World} {k : Nat} {a wa gi : Int} {al nu : Bool} {d : Value} (h : OpIs w k (.agg (opArr a wa gi al nu d))) : wa = wantsN k ∧ gi = givesN k ∧ al = alikeB k ∧ nu = nullsB k := by
  unfold OpIs at h
  split at h
  all_goals first
    | exact h.elim
    | (simp [mkOp, opArr] at h; simp [wantsN, givesN, alikeB, nullsB]; simp_all)
    | (obtain ⟨q, q2, h1, _⟩ := h; simp [mkOp, opArr] at h1; simp [wantsN, givesN, alikeB, nullsB]; simp_all)
    | (obtain ⟨q, h1, _⟩ := h; simp [mkOp, opArr] at h1; simp [wantsN, givesN, alikeB, nullsB]; simp_all)
theorem formE_zero {x : Ex} (h : formE x = 0) (h2 : x.op ≠ 2) (h1 : x.op ≠ 1) : isOp x.op = true ∧ (x.n : Int) = argsN x.op ∧ (x.op = 20 → 1 ≤ x.width ∧ x.width ≤ 1099511627776) := by
  unfold formE at h
  rw [if_neg (by simp [h1, h2])] at h
  split at h
  · rename_i hc
    refine ⟨hc.1, hc.2.1, fun e => ?_⟩
    rcases hc.2.2 with h3 | h3
    · exact absurd e h3
    · exact h3
  · split at h <;> omega
theorem formE_two {op : Int} {xv : Val} {name : ByteArray} {width : Int} {A : Option Addr} {α : Type} {l : List α} {c : Nat} (h : formE ⟨op, xv, name, width, A, l.length, c⟩ = 0) (h2 : op = 2) : l = [] := by
  subst h2
  unfold formE at h
  split at h
  · rename_i hc
    rcases hc with ⟨h3, _⟩ | ⟨_, h3⟩
    · exact absurd h3 (show ¬ ((2 : Int) = 1) by decide)
    · exact List.eq_nil_of_length_eq_zero h3
  · split at h
    · rename_i hc
      exact absurd hc.1 (show ¬ (isOp 2 = true) by decide)
    · split at h <;> omega
/-- whether kinds suit an operation -/
def suitsB (op : Int) : List Int → Bool
  | [k] => goes2 k (wantsN op)
  | [k, j] => goes2 k (wantsN op) && (goes2 j (wantsN op) && (!alikeB op || goes2 k j))
  | _ => false
/-- what an operation is worth, of worths -/
def nodeT (op width : Int) (vs : List Val) : Val × Int :=
  if suitsB op (vs.map (·.k)) = false then (zeroVal, 40) else if nullsB op = false ∧ (vs.map (·.k)).any (· == 0) = true then (zeroVal, 0) else doT op.toNat width vs
def evalR (x : Ex) (vs : List Val) : Val × Int :=
  if formE x ≠ 0 then (zeroVal, formE x) else if x.op = 1 then (x.v, 0) else nodeT x.op x.width vs

/-- what the operations of the two appends leave -/
def evV (base : Nat) (lv kv : Value) (vs : List Val) (v : Val) (g : Nat) : Nat → World → Value → Prop
  | 0 => fun _ u => u = lv
  | 1 => fun _ u => u = .agg #[.int .u8 v.k, .int .i64 v.n, .string v.s]
  | 2 => fun w u => ∃ q, u = .slice (some ⟨q, 0, none⟩) 1 1 ∧ Blk w q 23 (valCells v).toArray ∧ some q ≠ lv.ownBlock
  | 3 => fun w u => OwnF valCells 23 3 w base u (vs ++ [v])
  | 4 => fun _ u => u = kv
  | 5 => fun _ u => u = .pointer (some ⟨g, 0, none⟩)
  | 6 => fun _ u => u = .int .u8 v.k
  | 7 => fun w u => ∃ q, u = .slice (some ⟨q, 0, none⟩) 1 1 ∧ Blk w q 5 (kindCell v.k).toArray ∧ some q ≠ lv.ownBlock
  | _ => fun _ _ => True
theorem evV_stays (base : Nat) (lv kv : Value) (vs : List Val) (v : Val) (g : Nat) (i : Nat) (w w' : World) (u : Value) (h : evV base lv kv vs v g i w u) (hr : AR valCells 23 3 base lv vs v w w') : evV base lv kv vs v g i w' u := by
  unfold evV at *
  split at h
  · exact h
  · exact h
  · obtain ⟨q, h1, h2, h3⟩ := h; exact ⟨q, h1, h2.grown hr.grown h3, h3⟩
  · exact hr.new _ h
  · exact h
  · exact h
  · exact h
  · obtain ⟨q, h1, h2, h3⟩ := h; exact ⟨q, h1, h2.grown hr.grown h3, h3⟩
  · trivial

theorem len1 {α : Type} {l : List α} (h : l.length = 1) : ∃ p, l = [p] := by
  match l, h with
  | [p], _ => exact ⟨p, rfl⟩
theorem len2 {α : Type} {l : List α} (h : l.length = 2) : ∃ p q, l = [p, q] := by
  match l, h with
  | [p, q], _ => exact ⟨p, q, rfl⟩
/-- rows of unlike types lie in unlike blocks -/
theorem OwnF.differ {α β : Type} {f : α → List Value} {f' : β → List Value} {e e' : TypeId} {size size' base base' : Nat} {w : World} {u u' : Value} {l : List α} {l' : List β} (h : OwnF f e size w base u l) (h' : OwnF f' e' size' w base' u' l') (hne : e ≠ e') {q : Nat} (hq : u.ownBlock = some q) : some q ≠ u'.ownBlock := by
  intro hq'
  obtain ⟨_, _, c1, h1⟩ := h.lt hq
  obtain ⟨_, _, c2, h2⟩ := h'.lt hq'.symm
  rw [h1] at h2
  injection h2 with h2
  injection h2 with _ h2 _
  exact hne h2
theorem OwnF.past {α β : Type} {f : α → List Value} {f' : β → List Value} {e e' : TypeId} {size size' base base' : Nat} {w w' : World} {u u' : Value} {l : List α} {l' : List β} (h : OwnF f e size w base u l) (h' : OwnF f' e' size' w base' u' l') (hne : e ≠ e') (hg : w.grownBy w' u'.ownBlock) : OwnF f e size w' base u l :=
  h.keep fun q hq => hg.block q (h.lt hq).1 (h.differ h' hne hq)

/-- an expression's cells -/
def ExAt (w : World) (b off : Nat) (y : Ex) : Prop :=
  w.cell? ⟨b, off, none⟩ = some (.int .u8 y.op) ∧ w.cell? ⟨b, off + 1, none⟩ = some (.int .u8 y.v.k) ∧ w.cell? ⟨b, off + 2, none⟩ = some (.int .i64 y.v.n) ∧ w.cell? ⟨b, off + 3, none⟩ = some (.string y.v.s) ∧
  w.cell? ⟨b, off + 4, none⟩ = some (.string y.name) ∧ w.cell? ⟨b, off + 5, none⟩ = some (.int .i64 y.width) ∧ w.cell? ⟨b, off + 6, none⟩ = some (.slice y.A y.n y.c)
theorem ExAt.keep {w w' : World} {b off : Nat} {x : Ex} (h : ExAt w b off x) (hk : ∀ o, w'.cell? ⟨b, o, none⟩ = w.cell? ⟨b, o, none⟩) : ExAt w' b off x := by
  unfold ExAt at *
  simp only [hk]
  exact h
/-- a slice that reads as expressions -/
def RE (w : World) (B : Nat) (A : Option Addr) (l : List Ex) : Prop :=
  l = [] ∨ ∃ b off, A = some ⟨b, off, none⟩ ∧ b < B ∧ ∀ i x, l[i]? = some x → ExAt w b (off + i * 7) x
theorem RE.below {w w' : World} {B : Nat} {A : Option Addr} {l : List Ex} (h : RE w B A l) (hb : Below B w w') : RE w' B A l := by
  rcases h with h | ⟨b, off, h1, h2, h3⟩
  · exact .inl h
  · exact .inr ⟨b, off, h1, h2, fun i x hx => (h3 i x hx).keep fun o => hb.cell (p := ⟨b, o, none⟩) h2⟩
theorem RE.more {w : World} {B B' : Nat} {A : Option Addr} {l : List Ex} (h : RE w B A l) (hB : B ≤ B') : RE w B' A l := by
  rcases h with h | ⟨b, off, h1, h2, h3⟩
  · exact .inl h
  · exact .inr ⟨b, off, h1, by omega, h3⟩
theorem RE.at_ {w : World} {B : Nat} {A : Option Addr} {l : List Ex} (h : RE w B A l) {k : Nat} (hk : k < l.length) : ∃ b off, A = some ⟨b, off, none⟩ ∧ b < B ∧ ExAt w b (off + k * 7) l[k] := by
  rcases h with h | ⟨b, off, h1, h2, h3⟩
  · subst h; simp at hk
  · exact ⟨b, off, h1, h2, h3 k _ (List.getElem?_eq_getElem hk)⟩

/-- an expression is worth v, in every world that is later than w -/
def EvalIs (w : World) (cV rV : Value) (y : Ex) (v : Val) (e : Int) : Prop := ∀ W, Below w.heap.size w W → Calls Try.prog 14 #[.agg #[.int .u8 y.op, .int .u8 y.v.k, .int .i64 y.v.n, .string y.v.s, .string y.name, .int .i64 y.width, .slice y.A y.n y.c], cV, rV] W fun en w' => en = .returned (ansV v e) ∧ Below W.heap.size W w'
end Go.Proofs.Ytlfahfoffdbpfaa
