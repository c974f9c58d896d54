/- AggParts: rows of places of states; the parts of a list. -/
import Derived.Test.YtjpgahfabmgpiaaBounds
namespace Go.Proofs.Ytjpgahfabmgpiaa
open Go.ChangeShapes Go.WideShapes Go.ChangeAt Go.RowKit
set_option linter.unusedVariables false
set_option linter.unusedSimpArgs false

def ptrCell (q : Nat) : List Value := [.pointer (some ⟨q, 0, none⟩)]
theorem ptr_info : (Try.prog.info? 32).map (fun i => (i.zero, i.size, i.bytes)) = some (some (.pointer none), 1, 8) := by kernel_rfl
theorem own_ptr {w : World} {base : Nat} {v : Value} {l : List Nat} (h : OwnF ptrCell 32 1 w base v l) : ∃ A c, v = .slice A l.length c ∧ ∀ i q, l[i]? = some q → ∃ g, A = some ⟨g, 0, none⟩ ∧ w.cell? ⟨g, i, none⟩ = some (.pointer (some ⟨q, 0, none⟩)) := by
  obtain ⟨A, c, rfl, hr, _, hA⟩ := h.reads
  refine ⟨A, c, rfl, fun i q hq => ?_⟩
  rcases hA with rfl | ⟨g, rfl, hg⟩
  · simp at hq
  · have hpos : 0 < l.length := by
      rcases Nat.eq_zero_or_pos l.length with h | h
      · rw [List.eq_nil_of_length_eq_zero h] at hq; simp at hq
      · exact h
    obtain ⟨ad, e, hb, hc⟩ := hr.2 hpos
    injection e with e
    subst e
    refine ⟨g, rfl, ?_⟩
    have := hc (i * 1 + 0) _ (flat_at (f := ptrCell) (size := 1) (fun _ => rfl) l i 0 q hq (by omega))
    rw [add_none] at this
    simpa using this

/-- a part of a row of pairs -/
theorem RP.part {w : World} {B : Nat} {b off : Nat} {l : List (Val × Val)} (h : RP w B (some ⟨b, off, none⟩) l) (a n : Nat) : RP w B (some ⟨b, off + a * 6, none⟩) ((l.drop a).take n) := by
  rcases h with rfl | ⟨b', off', e, hb, hc⟩
  · exact .inl (by simp)
  · injection e with e
    injection e with e1 e2
    subst e1 e2
    refine .inr ⟨b, off + a * 6, rfl, hb, fun i x hx => ?_⟩
    rw [List.getElem?_take] at hx
    split at hx
    · rw [List.getElem?_drop] at hx
      have := hc (a + i) x hx
      rwa [Nat.add_mul, ← Nat.add_assoc] at this
    · cases hx

theorem RP.part2 {w : World} {B : Nat} {A : Option Addr} {l : List (Val × Val)} (h : RP w B A l) (a n : Nat) : RP w B (A.map fun x => x.add (a * 6)) ((l.drop a).take n) := by
  have h' := h
  rcases h with rfl | ⟨b, off, rfl, _, _⟩
  · exact .inl (by simp)
  · have := h'.part a n
    simp only [Option.map_some, add_none]
    exact this
theorem fed_at (op : Int) (A : Option Addr) (c : Nat) (l : List (Val × Val)) (n : Nat) (hn : n = l.length) (w : World) (hop : isAgg op = true) (h : RP w w.heap.size A l) (hl : l.length ≤ 1000000) (hv : ∀ x ∈ l, x.1.Ok) :
    Calls Try.prog 9 #[.int .u8 op, .slice A n c] w (FedPost op l w) := by
  subst hn
  exact fed_any op A c l w hop h hl hv
/-- states that lie where they should -/
def PartsAt (op : Int) (w : World) (B : Nat) (ps : List (Nat × List (Val × Val))) : Prop := ∀ x ∈ ps, B ≤ x.1 ∧ StAt w x.1 (fedSt op x.2)
theorem PartsAt.later {op : Int} {w w' : World} {B : Nat} {ps : List (Nat × List (Val × Val))} (h : PartsAt op w B ps) (hb : Below w.heap.size w w') : PartsAt op w' B ps := fun x hx => ⟨(h x hx).1, Blk.later (h x hx).2 hb⟩
theorem PartsAt.grown {op : Int} {w w' : World} {B p : Nat} {ps : List (Nat × List (Val × Val))} (h : PartsAt op w B ps) (hg : w.grownBy w' (some p)) (hp : p < B) : PartsAt op w' B ps := fun x hx => ⟨(h x hx).1, Blk.grown (h x hx).2 hg fun e => by have := (h x hx).1; injection e with e; omega⟩
theorem PartsAt.own {α : Type} {f : α → List Value} {e : TypeId} {size base : Nat} {v : Value} {l : List α} {op : Int} {w w' : World} {B : Nat} {ps : List (Nat × List (Val × Val))} (h : PartsAt op w B ps) (ho : OwnF f e size w base v l) (he : 60 ≠ e) (hg : w.grownBy w' v.ownBlock) : PartsAt op w' B ps := fun x hx => ⟨(h x hx).1, Blk.grownOwn (h x hx).2 ho he hg⟩
def lists (ps : List (Nat × List (Val × Val))) : List (Val × Val) := (ps.map (·.2)).flatten
theorem lists_app (a b : List (Nat × List (Val × Val))) : lists (a ++ b) = lists a ++ lists b := by simp [lists]
theorem lists_one (x : Nat × List (Val × Val)) : lists [x] = x.2 := by simp [lists]
theorem lists_len {ps : List (Nat × List (Val × Val))} {x : Nat × List (Val × Val)} (h : x ∈ ps) : x.2.length ≤ (lists ps).length := by
  induction ps with
  | nil => simp at h
  | cons y ps ih =>
    have e : lists (y :: ps) = y.2 ++ lists ps := by simp [lists]
    rw [e, List.length_append]
    rcases List.mem_cons.1 h with rfl | h
    · omega
    · have := ih h; omega

theorem own_cell {w : World} {base : Nat} {A : Option Addr} {n c : Nat} {l : List Nat} (h : OwnF ptrCell 32 1 w base (.slice A n c) l) {i q : Nat} (hq : l[i]? = some q) : ∃ g, A = some ⟨g, 0, none⟩ ∧ w.cell? ⟨g, i, none⟩ = some (.pointer (some ⟨q, 0, none⟩)) := by
  obtain ⟨A', c', e, hc⟩ := own_ptr h
  injection e with e1 e2 e3
  subst e1
  exact hc i q hq
theorem lists_split (ps : List (Nat × List (Val × Val))) (i : Nat) : (lists (ps.take i)).length ≤ (lists ps).length ∧ (lists (ps.drop i)).length ≤ (lists ps).length := by
  have e : lists ps = lists (ps.take i) ++ lists (ps.drop i) := by rw [← lists_app, List.take_append_drop]
  have := congrArg List.length e
  rw [List.length_append] at this
  omega
theorem lists_take {ps : List (Nat × List (Val × Val))} {i : Nat} (h : i < ps.length) : lists (ps.take (i + 1)) = lists (ps.take i) ++ ps[i].2 := by
  rw [List.take_add_one, List.getElem?_eq_getElem h, lists_app]
  rw [show (some ps[i]).toList = [ps[i]] from rfl, lists_one]
theorem lists_drop {ps : List (Nat × List (Val × Val))} {i : Nat} (h : i < ps.length) : lists (ps.drop i) = ps[i].2 ++ lists (ps.drop (i + 1)) := by
  rw [List.drop_eq_getElem_cons h, show ps[i] :: ps.drop (i + 1) = [ps[i]] ++ ps.drop (i + 1) from rfl, lists_app, lists_one]
/-- the number of pairs of the next part -/
theorem cut_bd (z : Int) (d : Nat) : -(d : Int) ≤ Int.tmod z ((d : Int) + 1) ∧ Int.tmod z ((d : Int) + 1) ≤ d := by
  have h1 := Int.tmod_lt_of_pos z (show (0 : Int) < (d : Int) + 1 by omega)
  have h2 := Int.lt_tmod_of_pos z (show (0 : Int) < (d : Int) + 1 by omega)
  omega
end Go.Proofs.Ytjpgahfabmgpiaa
