/- Rows that a call itself owns, element by element: one more at the end. -/
import Derived.Test.YtcmkfjepikncnaaDoorApp
import Derived.Test.YtcmkfjepikncnaaDoorBlk
namespace Go.Proofs.YtcmkfjepikncnaaDoor
open Go.RowKit
set_option linter.unusedVariables false

/-- the slice v owns the elements l, each told as cells by f, in a block from base on -/
def OwnF {α : Type} (f : α → List Value) (e : TypeId) (size : Nat) (w : World) (base : Nat) (v : Value) (l : List α) : Prop := w.ownsRow base e size v l.length (l.flatMap f)

section
variable {α : Type} {f : α → List Value} {e : TypeId} {size : Nat} {w w' : World} {base : Nat} {v : Value} {l : List α}
theorem OwnF.nil : OwnF f e size w base (.slice none 0 0) [] := ⟨by simp, .inl ⟨rfl, rfl⟩⟩
theorem OwnF.reads (h : OwnF f e size w base v l) : ∃ A c, v = .slice A l.length c ∧ Reads w w.heap.size size A l.length (l.flatMap f) ∧ l.length ≤ c ∧ (l = [] ∨ ∃ g, A = some ⟨g, 0, none⟩ ∧ base ≤ g) := by
  rcases h.2 with ⟨rfl, h0⟩ | ⟨g, cap, cur, rfl, hb, hg, hn, hm, hs, ht⟩
  · have : l = [] := List.eq_nil_of_length_eq_zero h0
    subst this
    exact ⟨none, 0, rfl, Reads.none_, Nat.le_refl _, .inl rfl⟩
  · exact ⟨some ⟨g, 0, none⟩, cap, rfl, Reads.of_own h, hn, .inr ⟨g, rfl, hb⟩⟩
/-- kept, where its own block is -/
theorem OwnF.keep (h : OwnF f e size w base v l) (hk : ∀ g, v.ownBlock = some g → w'.heap[g]? = w.heap[g]?) : OwnF f e size w' base v l := by
  refine ⟨h.1, ?_⟩
  rcases h.2 with h0 | ⟨g, cap, cur, rfl, hbg, hg, hn, hm, hs, ht⟩
  · exact .inl h0
  · exact .inr ⟨g, cap, cur, rfl, hbg, (hk g rfl).trans hg, hn, hm, hs, ht⟩
theorem OwnF.lt (h : OwnF f e size w base v l) {g : Nat} (hg : v.ownBlock = some g) : g < w.heap.size ∧ base ≤ g ∧ ∃ cur, w.heap[g]? = some (.cells cur e (0, 0)) := by
  rcases h.2 with ⟨rfl, _⟩ | ⟨g', cap, cur, rfl, hbg, hg', hn, hm, hs, ht⟩
  · simp [Value.ownBlock] at hg
  · simp only [Value.ownBlock, Option.some.injEq] at hg
    subst hg
    refine ⟨?_, hbg, cur, hg'⟩
    rcases Nat.lt_or_ge g' w.heap.size with hlt | hge
    · exact hlt
    · rw [Array.getElem?_eq_none hge] at hg'; cases hg'
theorem OwnF.later (h : OwnF f e size w base v l) (hb : Below w.heap.size w w') : OwnF f e size w' base v l := h.keep fun g hg => hb.block g (h.lt hg).1
/-- a block of another type is none of its own -/
theorem OwnF.other (h : OwnF f e size w base v l) {q : Nat} {t : TypeId} {cs : Array Value} (hq : Blk w q t cs) (ht : t ≠ e) : v.ownBlock ≠ some q := by
  intro hg
  obtain ⟨_, _, cur, hc⟩ := h.lt hg
  unfold Blk at hq
  rw [hq] at hc
  injection hc with hc
  injection hc with _ hc _
  exact ht hc
theorem OwnF.grown {p : Nat} (h : OwnF f e size w base v l) (hg : w.grownBy w' (some p)) (hp : v.ownBlock ≠ some p) : OwnF f e size w' base v l := h.keep fun g hgg => hg.block g (h.lt hgg).1 fun e => hp (by rw [hgg]; exact e)
theorem Blk.grownOwn {q : Nat} {t : TypeId} {cs : Array Value} (hq : Blk w q t cs) (h : OwnF f e size w base v l) (ht : t ≠ e) (hg : w.grownBy w' v.ownBlock) : Blk w' q t cs := hq.grown hg fun e => h.other hq ht e.symm
theorem below_own (h : OwnF f e size w base v l) (hg : w.grownBy w' v.ownBlock) (hbase : base ≤ w.heap.size) : Below base w w' := by
  refine ⟨hg.os, hg.tape, hg.output, hg.size, fun k hk => hg.block k (by omega) fun e => ?_⟩
  have := (h.lt e.symm).2.1
  omega

theorem wpList_append_one {P : Program} {ops : Array Oper} {rest : List Oper} {o : Oper} {a : Act} {Q : Exit → Act → World → Prop} (hgd : o.guard = none) (s x : Operand) (t : TypeId)
    (ho : o.op = .call { callee := .builtin .append, args := #[s, x], argTypes := #[t, t] })
    (z : Value) (bytes : Nat) (ht : P.underlying t = some (.slice e)) (hinfo : (P.info? e).map (fun i => (i.zero, i.size, i.bytes)) = some (some z, size, bytes)) (hzs : z.cells.size = size) (hsz : 0 < size)
    (y : α) (hf : (f y).length = size) (h1 : ∀ u ∈ f y, u.oneCell' = true)
    (hs : a.eval s = v) (hown : OwnF f e size w base v l)
    (g : Nat) (hx : a.eval x = .slice (some ⟨g, 0, none⟩) 1 1) (hg : Blk w g e (f y).toArray)
    (hlen : (l.length + 1) * bytes ≤ 140737488355328) (hlen2 : l.length + 1 ≤ 140737488355328) (hbase : base ≤ w.heap.size)
    (h : ∀ v' w', OwnF f e size w' base v' (l ++ [y]) → w.grownBy w' v.ownBlock → wpList P ops Q rest (a.put o.dst v') w') : wpList P ops Q (o :: rest) a w := by
  obtain ⟨i0, hi0, hz0, hz1, hz2⟩ := info_parts hinfo
  refine wpList_append_any w hgd s x t ho base e i0 z size bytes ht hi0 hz0 hz1 hz2 hzs hsz v l.length (l.flatMap f) hs hown (g + 1) (some ⟨g, 0, none⟩) 1 1 (f y) hx ⟨by omega, fun _ => ⟨_, rfl, Nat.lt_succ_self _, ?_⟩⟩ h1 (by unfold maxLen; omega) hlen hbase ?_
  · intro j u hu
    have : (Addr.add ⟨g, 0, none⟩ j) = ⟨g, j, none⟩ := by unfold Addr.add; split <;> simp_all
    rw [this, hg.cell]
    simpa using hu
  · intro v' w' h2 h3 h4
    refine h v' w' ?_ h3
    unfold OwnF
    rw [List.length_append, List.flatMap_append]
    simpa using h2
end
end Go.Proofs.YtcmkfjepikncnaaDoor
