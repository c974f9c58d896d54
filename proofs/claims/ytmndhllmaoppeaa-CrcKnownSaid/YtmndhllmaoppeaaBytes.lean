/- Bytes that the call itself owns: append, make, and that they read as bytes. -/
import Derived.Test.YtmndhllmaoppeaaRows
import Derived.Test.YtmndhllmaoppeaaApp
import Derived.Handy
import Derived.Laws.BytesString
namespace Go.Proofs.Ytmndhllmaoppeaa
open Go.RowKit

theorem byte_info : (Try.prog.info? 5).map (fun i => (i.zero, i.size, i.bytes)) = some (some (.int .u8 0), 1, 1) := by kernel_rfl

/-- the slice v owns the bytes l, in a block from base on -/
def Own (w : World) (base : Nat) (v : Value) (l : List Nat) : Prop := w.ownsRow base 5 1 v l.length (cellsOf l) ∧ ∀ c ∈ l, c < 256

theorem Own.lt {w : World} {base : Nat} {v : Value} {l : List Nat} (h : Own w base v l) : ∀ c ∈ l, c < 256 := h.2
/-- its value's form, and that it reads as l -/
theorem Own.reads {w : World} {base : Nat} {v : Value} {l : List Nat} (h : Own w base v l) : ∃ A c, v = .slice A l.length c ∧ RB w w.heap.size A l ∧ l.length ≤ c := by
  rcases h.1.2 with ⟨rfl, h0⟩ | ⟨g, cap, cur, rfl, hb, hg, hn, hm, hs, ht⟩
  · have : l = [] := List.eq_nil_of_length_eq_zero h0
    subst this
    exact ⟨none, 0, rfl, RB.nil, Nat.le_refl _⟩
  · refine ⟨some ⟨g, 0, none⟩, cap, rfl, ⟨?_, h.2⟩, hn⟩
    exact Reads.of_own h.1
theorem Own.below {w w' : World} {base B : Nat} {v : Value} {l : List Nat} (h : Own w base v l) (hb : Below B w w') (hB : w.heap.size ≤ B) : Own w' base v l := by
  refine ⟨⟨h.1.1, ?_⟩, h.2⟩
  rcases h.1.2 with h0 | ⟨g, cap, cur, rfl, hbg, hg, hn, hm, hs, ht⟩
  · exact .inl h0
  · refine .inr ⟨g, cap, cur, rfl, hbg, ?_, hn, hm, hs, ht⟩
    rw [hb.block g ?_]
    · exact hg
    · rcases Nat.lt_or_ge g w.heap.size with hlt | hge
      · omega
      · rw [Array.getElem?_eq_none hge] at hg; cases hg
/-- a new block of bytes -/
theorem Own.new (w : World) (l : List Nat) (C : Array Value) (n : Nat) (hn : n = l.length) (hC : C = (cellsOf l).toArray) (hl : ∀ c ∈ l, c < 256) (hm : l.length ≤ 140737488355328) : Own (w.alloc (.cells C 5)) w.heap.size (.slice (some ⟨w.heap.size, 0, none⟩) n n) l := by
  subst hn hC
  refine ⟨⟨by simp [cellsOf], .inr ⟨w.heap.size, l.length, (cellsOf l).toArray, rfl, Nat.le_refl _, heap_alloc_new w _, Nat.le_refl _, by unfold maxLen; omega, by simp [cellsOf], by rw [List.take_of_length_le (by simp [cellsOf])]⟩⟩, hl⟩

theorem wp_append_bytes {o : Oper} {a : Act} {K : Act → World → Prop} {Q : Exit → Act → World → Prop} (w : World) (s x : Operand)
    (ho : o.op = .call { callee := .builtin .append, args := #[s, x], argTypes := #[22, 22] })
    (base : Nat) (v : Value) (l : List Nat) (hs : a.eval s = v) (hown : Own w base v l)
    (B : Nat) (A : Option Addr) (c : Nat) (n : Nat) (r : List Nat) (hx : a.eval x = .slice A n c) (hn : n = r.length) (hr : RB w B A r)
    (hlen : l.length + r.length ≤ 140737488355328) (hbase : base ≤ w.heap.size)
    (h : ∀ v' w', Own w' base v' (l ++ r) → Below base w w' → K (a.put o.dst v') w') : o.wp Try.prog a w K Q := by
  obtain ⟨i0, hi0, hz0, hz1, hz2⟩ := info_parts byte_info
  subst hn
  refine wp_append_any w s x 22 ho base 5 i0 _ 1 1 Try.underlying22 hi0 hz0 hz1 hz2 rfl (by omega) v l.length (cellsOf l) hs hown.1 B A r.length c (cellsOf r) hx hr.1 ?_ ?_ ?_ hbase ?_
  · intro u hu
    simp only [cellsOf, List.mem_map] at hu
    obtain ⟨c, _, rfl⟩ := hu
    rfl
  · unfold maxLen; omega
  · omega
  · intro v' w' h1 h2 h3
    refine h v' w' ⟨?_, ?_⟩ ?_
    · have e : cellsOf (l ++ r) = cellsOf l ++ cellsOf r := by simp [cellsOf]
      rw [e, List.length_append]
      exact h1
    · intro c hc
      rcases List.mem_append.1 hc with h | h
      · exact hown.2 c h
      · exact hr.2 c h
    · refine (Below.refl _ _).grown h2 hbase ?_
      intro k hk
      rcases hown.1.2 with ⟨rfl, _⟩ | ⟨g, cap, cur, rfl, hbg, _⟩
      · simp [Value.ownBlock] at hk
      · simp only [Value.ownBlock, Option.some.injEq] at hk
        omega

theorem wpList_append_bytes {ops : Array Oper} {rest : List Oper} {o : Oper} {a : Act} {Q : Exit → Act → World → Prop} (hgd : o.guard = none) (w : World) (s x : Operand)
    (ho : o.op = .call { callee := .builtin .append, args := #[s, x], argTypes := #[22, 22] })
    (base : Nat) (v : Value) (l : List Nat) (hs : a.eval s = v) (hown : Own w base v l)
    (B : Nat) (A : Option Addr) (c : Nat) (n : Nat) (r : List Nat) (hx : a.eval x = .slice A n c) (hn : n = r.length) (hr : RB w B A r)
    (hlen : l.length + r.length ≤ 140737488355328) (hbase : base ≤ w.heap.size)
    (h : ∀ v' w', Own w' base v' (l ++ r) → Below base w w' → wpList Try.prog ops Q rest (a.put o.dst v') w') : wpList Try.prog ops Q (o :: rest) a w :=
  wpList_plain hgd fun _ hK => wp_append_bytes w s x ho base v l hs hown B A c n r hx hn hr hlen hbase fun v' w' h2 h3 => hK _ _ (h v' w' h2 h3)

theorem step_append_bytes {ops : Array Oper} {o : Oper} {a : Act} {K : Act → World → Prop} {Q : Exit → Act → World → Prop} {E : Prop} (hgd : o.guard = none) (w : World) (s x : Operand)
    (ho : o.op = .call { callee := .builtin .append, args := #[s, x], argTypes := #[22, 22] })
    (base : Nat) (v : Value) (l : List Nat) (hs : a.eval s = v) (hown : Own w base v l)
    (B : Nat) (A : Option Addr) (c : Nat) (n : Nat) (r : List Nat) (hx : a.eval x = .slice A n c) (hn : n = r.length) (hr : RB w B A r)
    (hlen : l.length + r.length ≤ 140737488355328) (hbase : base ≤ w.heap.size)
    (h : ∀ v' w', Own w' base v' (l ++ r) → Below base w w' → K (a.put o.dst v') w') : if Region.wanted o (yielded ops a.tmps) = true then Oper.wp Try.prog o a w K Q else E := by
  have hw : Region.wanted o (yielded ops a.tmps) = true := by simp [Region.wanted, hgd]
  rw [if_pos hw]
  exact wp_append_bytes w s x ho base v l hs hown B A c n r hx hn hr hlen hbase h

/-- bytes as a string -/
def strOf (l : List Nat) : ByteArray := ⟨(l.map UInt8.ofNat).toArray⟩
theorem strOf_size (l : List Nat) : (strOf l).size = l.length := by simp [strOf, ByteArray.size]
theorem strOf_inj {a b : List Nat} (ha : ∀ c ∈ a, c < 256) (hb : ∀ c ∈ b, c < 256) (h : strOf a = strOf b) : a = b := by
  have h1 : a.map UInt8.ofNat = b.map UInt8.ofNat := by
    have := congrArg (fun x => x.data.toList) h
    simpa [strOf] using this
  have h2 := congrArg (List.map UInt8.toNat) h1
  have e : ∀ l : List Nat, (∀ c ∈ l, c < 256) → (l.map UInt8.ofNat).map UInt8.toNat = l := by
    intro l hl
    rw [List.map_map]
    conv => rhs; rw [← List.map_id l]
    apply List.map_congr_left
    intro c hc
    have := hl c hc
    simp [UInt8.toNat_ofNat']
    omega
  rw [e a ha, e b hb] at h2
  exact h2
theorem foldl_push (l : List Nat) : ∀ s : ByteArray, (l.map (fun (n : Nat) => (n : Int))).foldl (fun r n => r.push (UInt8.ofNat n.toNat)) s = ⟨s.data ++ (l.map UInt8.ofNat).toArray⟩ := by
  induction l with
  | nil => intro s; simp
  | cons c l ih =>
    intro s
    simp only [List.map_cons, List.foldl_cons, ih]
    simp [ByteArray.push]
theorem run_loadCellsFrom {P : Program} (w : World) (a : Addr) : ∀ (xs : List Value) (i : Nat) (acc : Array Value), (∀ j u, xs[j]? = some u → w.cell? (a.add (i + j)) = some u) →
    (loadCellsFrom a i xs.length acc).run P w = .ok (acc ++ xs.toArray) w
  | [], i, acc, _ => by simp [loadCellsFrom, Sem.run_pure]
  | x :: xs, i, acc, h => by
    have h0 := h 0 x rfl
    have ih := run_loadCellsFrom (P := P) w a xs (i + 1) (acc.push x) (fun j u hu => by have := h (j + 1) u hu; rwa [show i + 1 + j = i + (j + 1) by omega])
    simp only [List.length_cons, loadCellsFrom]
    simp only [Sem.run_bind, load, Nat.add_zero] at *
    rw [show (Sem.load Mode.plain (a.add i) Sem.pure).run P w = .ok x w by simp [Sem.run, h0]]
    simp only [Result.andThen_ok]
    rw [ih]
    simp
theorem run_str (w : World) (B : Nat) (A : Option Addr) (l : List Nat) (n c : Nat) (hn : n = l.length) (h : RB w B A l) : (convert 22 9 (.slice A n c)).run Try.prog w = .ok (.string (strOf l)) w := by
  subst hn
  rw [run_convert_bytes_string w 22 9 5 A l.length c Try.underlying22 Try.underlying5 Try.underlying9]
  rcases A with _ | ad
  · have : l = [] := by
      rcases Nat.eq_zero_or_pos l.length with h0 | h0
      · exact List.eq_nil_of_length_eq_zero h0
      · obtain ⟨ad, e, _⟩ := h.1.2 h0; cases e
    subst this
    rfl
  · have hc : ∀ j u, (cellsOf l)[j]? = some u → w.cell? (ad.add (0 + j)) = some u := by
      intro j u hu
      have hj : 0 < l.length := by
        rcases Nat.eq_zero_or_pos l.length with h0 | h0
        · rw [List.eq_nil_of_length_eq_zero h0] at hu; simp [cellsOf] at hu
        · exact h0
      obtain ⟨ad', e, _, hc⟩ := h.1.2 hj
      injection e with e
      subst e
      rw [Nat.zero_add]
      exact hc j u hu
    have hl := run_loadCellsFrom (P := Try.prog) w ad (cellsOf l) 0 #[] hc
    have hlen : (cellsOf l).length = l.length := by simp [cellsOf]
    rw [hlen] at hl
    rw [run_bytesToString (P := Try.prog) w ad l.length c (l.map (fun (n : Nat) => (n : Int))) (by simpa [loadCells, cellsOf, Function.comp_def] using hl), foldl_push]
    simp [strOf, ByteArray.empty, ByteArray.emptyWithCapacity]
    rfl
end Go.Proofs.Ytmndhllmaoppeaa
