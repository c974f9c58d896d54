/- How arguments that read as data are opened: trees, columns, rows of values; the reach bounds their lists. -/
import Derived.Test.YtlfahfoffdbpfaaTree
import Derived.Test.YtlfahfoffdbpfaaOpen15
import Derived.SizedLaws
namespace Go.Proofs.Ytlfahfoffdbpfaa
open Go.ChangeShapes Go.WideShapes Go.ChangeAt Go.RowKit
set_option linter.unusedVariables false
set_option linter.unusedSimpArgs false
set_option maxRecDepth 100000

theorem cells_expr : Try.prog.cellsOf 36 = 7 := by kernel_rfl
theorem cells_col : Try.prog.cellsOf 71 = 2 := by kernel_rfl
theorem cells_exprs : Try.prog.cellsOf 34 = 1 := by kernel_rfl
theorem bytes_expr : Try.prog.bytesOf 36 = 88 := by kernel_rfl
theorem bytes_col : Try.prog.bytesOf 71 = 24 := by kernel_rfl
theorem bytes_val : Try.prog.bytesOf 23 = 32 := by kernel_rfl

def exCells' (y : Ex) : List Value := [.int .u8 y.op, .int .u8 y.v.k, .int .i64 y.v.n, .string y.v.s, .string y.name, .int .i64 y.width, .slice y.A y.n y.c]
def colCells (x : Col) : List Value := [.string x.name, .int .u8 x.t]

theorem cellsN {w : World} {base K : Nat} {a : Addr} {cs : List Value} (h : w.cells? base a K = some cs) : cs.length = K ∧ ∀ i, i < K → w.cell? (a.add i) = cs[i]? := by
  unfold World.cells? at h
  split at h
  · exact ⟨by simpa using mapM_some_length h, fun i hi => mapM_some_get h i i (by simp [hi])⟩
  · cases h
/-- what is read weighs no more than the form's reach -/
def Light {H : Type} (t : TypeId) (d : DataW H) : Prop := ∀ n ∈ d.weights Try.prog t, n ≤ reachBytes

section
variable {H : Type} {enc : TypeId × Value → H} {w : World} {base : Nat} {spare : Nat → Bool} {held : Bool}
theorem light_all {e : TypeId} : ∀ {l : List (DataW H)}, (∀ n ∈ DataW.weightsAll Try.prog e l, n ≤ reachBytes) → ∀ d ∈ l, Light e d
  | [], _, d, h => by cases h
  | x :: l, hw, d, h => by
    unfold DataW.weightsAll at hw
    rcases List.mem_cons.1 h with rfl | h
    · exact fun n hn => hw n (List.mem_append_left _ hn)
    · exact light_all (fun n hn => hw n (List.mem_append_right _ hn)) d h
theorem light_slice {T e : TypeId} {es rs : List (DataW H)} (hT : Try.prog.underlying T = some (.slice e)) (h : Light T (.slice es rs)) : (es.length + rs.length) * Try.prog.bytesOf e ≤ reachBytes ∧ ∀ d ∈ es, Light e d := by
  unfold Light at h
  unfold DataW.weights at h
  rw [hT] at h
  dsimp only at h
  exact ⟨h _ (List.mem_cons_self ..), light_all fun n hn => h n (List.mem_cons_of_mem _ (List.mem_append_left _ hn))⟩
theorem light_part {t : TypeId} {fs : Array Field} {ps : List (DataW H)} (ht : Try.prog.underlying t = some (.struct fs)) (h : Light t (.agg ps)) {j : Nat} {f : Field} {d : DataW H} (hf : fs[j]? = some f) (hd : ps[j]? = some d) : Light f.type d := by
  unfold Light at h ⊢
  unfold DataW.weights at h
  rw [ht] at h
  dsimp only at h
  intro n hn
  refine h n (DataW.weights_mem_each (j := j) ?_ hd n hn)
  rw [List.getElem?_map, Array.getElem?_toList, hf]
  rfl

theorem slice_trod {α : Type} (f : α → List Value) (P : α → Prop) (K : Nat) {T e : TypeId} (hT : Try.prog.underlying T = some (.slice e)) (hc : Try.prog.cellsOf e = K) (hK : 0 < K) (hf : ∀ x, (f x).length = K) {fuel : Nat} {cs : List Value} {x : DataW H × List MemPlace}
    (hel : ∀ m, m < fuel → ∀ cs x, DataW.trod enc Try.prog w base spare held m e cs = some x → Light e x.1 → ∃ a, cs = f a ∧ P a) (h : DataW.trod enc Try.prog w base spare held fuel T cs = some x) (hw : Light T x.1) :
    ∃ (A : Option Addr) (l : List α) (c : Nat), cs = [.slice A l.length c] ∧ (∀ a ∈ l, P a) ∧ l.length * Try.prog.bytesOf e ≤ reachBytes ∧ (l = [] ∨ ∃ b off, A = some ⟨b, off, none⟩ ∧ b < w.heap.size ∧ ∀ i x j u, l[i]? = some x → (f x)[j]? = some u → w.cell? ⟨b, off + i * K + j, none⟩ = some u) := by
  rcases DataW.trod_slice hT h with ⟨hcs, _⟩ | ⟨ad, len, cap, elems, rest, n, hn, hcs, hx, _, hl, hm, hlen, he, _, _⟩
  · exact ⟨none, [], 0, hcs, by simp, by simp, .inl rfl⟩
  · subst hx hcs
    obtain ⟨hbytes, hparts⟩ := light_slice hT hw
    rw [List.length_map, List.length_map, hlen] at hbytes
    have hb2 : len * Try.prog.bytesOf e ≤ reachBytes := Nat.le_trans (Nat.mul_le_mul_right _ (by omega)) hbytes
    rcases Nat.eq_zero_or_pos len with h0 | h0
    · subst h0
      exact ⟨some ad, [], cap, rfl, by simp, by simp, .inl rfl⟩
    have hcells : ∀ i, i < len → ∃ a : α, P a ∧ ∀ j, j < K → w.cell? ((ad.add (i * K)).add j) = (f a)[j]? := by
      intro i hi
      have h1 := he i hi
      rw [List.getElem?_eq_getElem (by omega), hc] at h1
      obtain ⟨cs, h2, h3⟩ := Option.bind_eq_some_iff.1 h1
      obtain ⟨a, rfl, ha⟩ := hel n (by omega) cs _ h3 (hparts _ (List.mem_map.2 ⟨_, List.getElem_mem _, rfl⟩))
      exact ⟨a, ha, (cellsN h2).2⟩
    obtain ⟨a0, _, hc0⟩ := hcells 0 h0
    have hsome : ∃ u, (f a0)[0]? = some u := ⟨(f a0)[0]'(by rw [hf]; exact hK), List.getElem?_eq_getElem _⟩
    obtain ⟨u0, hu0⟩ := hsome
    have hlt := cell_lt ((hc0 0 hK).trans hu0)
    obtain ⟨b, off, spot⟩ := ad
    have hs : spot = none := by
      have := hlt.2
      simpa [Addr.add] using this
    subst hs
    have hbl : b < w.heap.size := by
      have := hlt.1
      simpa [Addr.add] using this
    obtain ⟨l, hll, hp⟩ := pick len (P := fun i a => P a ∧ ∀ j, j < K → w.cell? ⟨b, off + i * K + j, none⟩ = (f a)[j]?) fun i hi => by
      obtain ⟨a, ha, hca⟩ := hcells i hi
      refine ⟨a, ha, fun j hj => ?_⟩
      have := hca j hj
      simp only [add_none] at this
      exact this
    subst hll
    refine ⟨some ⟨b, off, none⟩, l, cap, rfl, fun a ha => ?_, hb2, .inr ⟨b, off, rfl, hbl, fun i x j u hx hu => ?_⟩⟩
    · obtain ⟨i, hi, rfl⟩ := List.getElem_of_mem ha
      exact (hp i _ (List.getElem?_eq_getElem hi)).1
    · have hj : j < K := by
        rcases Nat.lt_or_ge j K with h' | h'
        · exact h'
        · rw [List.getElem?_eq_none (by rw [hf]; exact h')] at hu; cases hu
      rw [(hp i x hx).2 j hj]
      exact hu

theorem all_of_list {S : Nat → Prop} : ∀ l : List (Ex × Tr), (∀ p ∈ l, p.2.at_ w S p.1) → Tr.all_ w S (l.map (·.2)) (l.map (·.1))
  | [], _ => by simp [Tr.all_]
  | p :: l, h => by
    simp only [List.map_cons]
    unfold Tr.all_
    exact ⟨_, _, rfl, h p (by simp), all_of_list l fun q hq => h q (by simp [hq])⟩
theorem oks_of_list : ∀ l : List (Ex × Tr), (∀ p ∈ l, p.2.ok) → Tr.oks (l.map (·.2))
  | [], _ => by simp [Tr.oks]
  | p :: l, h => by
    simp only [List.map_cons]
    unfold Tr.oks
    exact ⟨h p (by simp), oks_of_list l fun q hq => h q (by simp [hq])⟩

theorem tree_trod : ∀ (fuel : Nat) (cs : List Value) (x : DataW H × List MemPlace), DataW.trod enc Try.prog w base spare held fuel 36 cs = some x → Light 36 x.1 → ∃ p : Ex × Tr, cs = exCells' p.1 ∧ p.2.at_ w (Old w) p.1 ∧ p.2.ok := by
  intro fuel
  induction fuel using Nat.strongRecOn with
  | _ fuel ih =>
    intro cs x h hw
    obtain ⟨xs, n, hn, hx, hl, hlen, hf⟩ := DataW.trod_struct Try.underlying36 h
    rw [cells_expr] at hl
    subst hx
    match cs, hl with
    | [c0, c1, c2, c3, c4, c5, c6], _ =>
      have get : ∀ i, i < 5 → ∃ y, xs[i]? = some y := fun i hi => ⟨xs[i]'(by simp at hlen; omega), List.getElem?_eq_getElem _⟩
      obtain ⟨y0, e0⟩ := get 0 (by omega)
      obtain ⟨y1, e1⟩ := get 1 (by omega)
      obtain ⟨y2, e2⟩ := get 2 (by omega)
      obtain ⟨y3, e3⟩ := get 3 (by omega)
      obtain ⟨y4, e4⟩ := get 4 (by omega)
      have t0 : DataW.trod enc Try.prog w base spare held n 5 (([c0, c1, c2, c3, c4, c5, c6].drop 0).take (Try.prog.cellsOf 5)) = some y0 := (hf 0 _ rfl).trans e0
      have t1 : DataW.trod enc Try.prog w base spare held n 23 (([c0, c1, c2, c3, c4, c5, c6].drop 1).take (Try.prog.cellsOf 23)) = some y1 := (hf 1 _ rfl).trans e1
      have t2 : DataW.trod enc Try.prog w base spare held n 9 (([c0, c1, c2, c3, c4, c5, c6].drop 4).take (Try.prog.cellsOf 9)) = some y2 := (hf 2 _ rfl).trans e2
      have t3 : DataW.trod enc Try.prog w base spare held n 2 (([c0, c1, c2, c3, c4, c5, c6].drop 5).take (Try.prog.cellsOf 2)) = some y3 := (hf 3 _ rfl).trans e3
      have t4 : DataW.trod enc Try.prog w base spare held n 34 (([c0, c1, c2, c3, c4, c5, c6].drop 6).take (Try.prog.cellsOf 34)) = some y4 := (hf 4 _ rfl).trans e4
      rw [cells_u8] at t0
      rw [cells_value] at t1
      rw [cells_string] at t2
      rw [cells_i64] at t3
      rw [cells_exprs] at t4
      simp only [List.drop_succ_cons, List.drop_zero, List.take_succ_cons, List.take_zero] at t0 t1 t2 t3 t4
      obtain ⟨n0, q0, _, f0⟩ := DataW.trod_int Try.underlying5 t0
      obtain ⟨a, qa, ha, hk1, hk2⟩ := val_trod t1
      obtain ⟨s, q2, _, f2⟩ := DataW.trod_string Try.underlying9 t2
      obtain ⟨n3, q3, _, f3⟩ := DataW.trod_int Try.underlying2 t3
      have hl4 : Light 34 y4.1 := by
        have h4 := light_part (j := 4) (d := y4.1) Try.underlying36 hw rfl (by rw [List.getElem?_map, e4]; rfl)
        exact h4
      obtain ⟨A, l, c, q4, hP, hby, hcl⟩ := slice_trod (fun p : Ex × Tr => exCells' p.1) (fun p => p.2.at_ w (Old w) p.1 ∧ p.2.ok) 7 Try.underlying34 cells_expr (by omega) (fun _ => rfl) (fun m hm cs x h1 h2 => ih m (by omega) cs x h1 h2) t4 hl4
      simp at q0 qa q2 q3 q4
      obtain ⟨rfl, rfl, rfl⟩ := qa
      subst q0 q2 q3 q4
      rw [bytes_expr] at hby
      have hll : l.length ≤ 1599289640356 := by unfold reachBytes at hby; omega
      refine ⟨(⟨n0, a, s, n3, A, l.length, c⟩, .mk n0 a s n3 (l.map (·.2))), rfl, ?_, ?_⟩
      · dsimp only
        unfold Tr.at_
        refine ⟨rfl, rfl, rfl, rfl, by simp, l.map (·.1), ?_, all_of_list l fun p hp => (hP p hp).1⟩
        rcases hcl with hcl | ⟨b, off, rfl, hb, hcl⟩
        · exact .inl (by simp [hcl])
        · refine .inr ⟨b, off, rfl, hb, fun i y hy => ?_⟩
          obtain ⟨p, hp, rfl⟩ : ∃ p, l[i]? = some p ∧ p.1 = y := by simpa [List.getElem?_map] using hy
          have k := fun j u hu => hcl i p j u hp hu
          exact ⟨k 0 _ rfl, k 1 _ rfl, k 2 _ rfl, k 3 _ rfl, k 4 _ rfl, k 5 _ rfl, k 6 _ rfl⟩
      · dsimp only
        unfold Tr.ok
        exact ⟨ha, by simpa using hll, u8_wf f0, i64_wf f3, ⟨hk1, hk2⟩, oks_of_list l fun p hp => (hP p hp).2⟩
theorem col_trod {fuel : Nat} {cs : List Value} {x : DataW H × List MemPlace} (h : DataW.trod enc Try.prog w base spare held fuel 71 cs = some x) : ∃ a : Col, cs = colCells a ∧ 0 ≤ a.t ∧ a.t ≤ 255 := by
  obtain ⟨y0, y1, n, _, hl, t0, t1⟩ := trod_struct2 Try.underlying71 h
  rw [cells_col] at hl
  match cs, hl with
  | [c0, c1], _ =>
    simp only [cells_string, cells_u8, List.drop_succ_cons, List.drop_zero, List.take_succ_cons, List.take_zero] at t0 t1
    obtain ⟨s, q0, _, f0⟩ := DataW.trod_string Try.underlying9 t0
    obtain ⟨n1, q1, _, f1⟩ := DataW.trod_int Try.underlying5 t1
    simp at q0 q1
    subst q0 q1
    exact ⟨⟨s, n1⟩, rfl, u8_wf f1⟩
theorem cols_trod {fuel : Nat} {cs : List Value} {x : DataW H × List MemPlace} (h : DataW.trod enc Try.prog w base spare held fuel 43 cs = some x) (hw : Light 43 x.1) :
    ∃ A l c, cs = [.slice A l.length c] ∧ RC w w.heap.size A l ∧ l.length ≤ 140737488355328 ∧ ∀ a ∈ l, 0 ≤ a.t ∧ a.t ≤ 255 := by
  obtain ⟨A, l, c, q, hP, hby, hcl⟩ := slice_trod colCells (fun a => 0 ≤ a.t ∧ a.t ≤ 255) 2 Try.underlying43 cells_col (by omega) (fun _ => rfl) (fun m hm cs x h1 _ => col_trod h1) h hw
  rw [bytes_col] at hby
  refine ⟨A, l, c, q, ?_, by unfold reachBytes at hby; omega, hP⟩
  rcases hcl with hcl | ⟨b, off, rfl, hb, hcl⟩
  · exact .inl hcl
  · exact .inr ⟨b, off, rfl, hb, fun i y hy => ⟨hcl i y 0 _ hy rfl, hcl i y 1 _ hy rfl⟩⟩
theorem vals_trod {fuel : Nat} {cs : List Value} {x : DataW H × List MemPlace} (h : DataW.trod enc Try.prog w base spare held fuel 40 cs = some x) (hw : Light 40 x.1) :
    ∃ A l c, cs = [.slice A l.length c] ∧ RV w w.heap.size A l ∧ l.length ≤ 140737488355328 ∧ ∀ a ∈ l, a.Ok ∧ 0 ≤ a.k ∧ a.k ≤ 255 := by
  obtain ⟨A, l, c, q, hP, hby, hcl⟩ := slice_trod valCells (fun a => a.Ok ∧ 0 ≤ a.k ∧ a.k ≤ 255) 3 Try.underlying40 cells_value (by omega) (fun _ => rfl) (fun m hm cs x h1 _ => val_trod h1) h hw
  rw [bytes_val] at hby
  refine ⟨A, l, c, q, ?_, by unfold reachBytes at hby; omega, hP⟩
  rcases hcl with hcl | ⟨b, off, rfl, hb, hcl⟩
  · exact .inl hcl
  · exact .inr ⟨b, off, rfl, hb, fun i y hy => ⟨hcl i y 0 _ hy rfl, hcl i y 1 _ hy rfl, hcl i y 2 _ hy rfl⟩⟩
end

section
variable {H : Type} {enc : TypeId × Value → H} {W : World} {base : Nat} {v : Value} {d : DataW H} {p : List MemPlace}
theorem expr_open (ok : Value.okWide Try.prog W .any base 36 v) (k : DataW.Trod enc Try.prog W 0 (fun _ => true) true 36 v d p) (hw : Light 36 d) :
    ∃ (y : Ex) (t : Tr), v = .agg #[.int .u8 y.op, .int .u8 y.v.k, .int .i64 y.v.n, .string y.v.s, .string y.name, .int .i64 y.width, .slice y.A y.n y.c] ∧ t.at_ W (Old W) y ∧ t.ok := by
  obtain ⟨cs, rfl, _⟩ := okWide_struct Try.underlying36 ok
  obtain ⟨fuel, hf⟩ := k
  obtain ⟨⟨y, t⟩, h, h1, h2⟩ := tree_trod fuel _ _ hf hw
  refine ⟨y, t, ?_, h1, h2⟩
  cases cs
  simp [Value.cells, exCells'] at h
  rw [h]
theorem cols_open (ok : Value.okWide Try.prog W .any base 43 v) (k : DataW.Trod enc Try.prog W 0 (fun _ => true) true 43 v d p) (hw : Light 43 d) :
    ∃ A l c, v = .slice A l.length c ∧ RC W W.heap.size A l ∧ l.length ≤ 140737488355328 ∧ ∀ a ∈ l, 0 ≤ a.t ∧ a.t ≤ 255 := by
  obtain ⟨a, len, cap, rfl⟩ := okWide_slice Try.underlying43 ok
  obtain ⟨fuel, hf⟩ := k
  obtain ⟨A, l, c, q, h⟩ := cols_trod hf hw
  refine ⟨A, l, c, ?_, h⟩
  simp [Value.cells] at q
  obtain ⟨rfl, rfl, rfl⟩ := q
  rfl
theorem vals_open (ok : Value.okWide Try.prog W .any base 40 v) (k : DataW.Trod enc Try.prog W 0 (fun _ => true) true 40 v d p) (hw : Light 40 d) :
    ∃ A l c, v = .slice A l.length c ∧ RV W W.heap.size A l ∧ l.length ≤ 140737488355328 ∧ ∀ a ∈ l, a.Ok ∧ 0 ≤ a.k ∧ a.k ≤ 255 := by
  obtain ⟨a, len, cap, rfl⟩ := okWide_slice Try.underlying40 ok
  obtain ⟨fuel, hf⟩ := k
  obtain ⟨A, l, c, q, h⟩ := vals_trod hf hw
  refine ⟨A, l, c, ?_, h⟩
  simp [Value.cells] at q
  obtain ⟨rfl, rfl, rfl⟩ := q
  rfl
end
end Go.Proofs.Ytlfahfoffdbpfaa
