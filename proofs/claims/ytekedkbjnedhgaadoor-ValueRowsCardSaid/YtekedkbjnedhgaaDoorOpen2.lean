/- How arguments that read as data are opened: rows of values, rows of rows; the reach bounds their lists. -/
import Derived.Test.YtekedkbjnedhgaaDoorOpen1
import Derived.Test.YtekedkbjnedhgaaDoorOwnV
import Derived.SizedLaws
namespace Go.Proofs.YtekedkbjnedhgaaDoor
open Go.ChangeShapes Go.WideShapes Go.ChangeAt Go.RowKit
set_option linter.unusedVariables false
set_option linter.unusedSimpArgs false
set_option maxRecDepth 100000

theorem bytes_val : Tryd.prog.bytesOf 23 = 32 := by kernel_rfl
theorem bytes_row : Tryd.prog.bytesOf 29 = 24 := by kernel_rfl
theorem cells_row : Tryd.prog.cellsOf 29 = 1 := by kernel_rfl
theorem cell_lt2 {w : World} {a : Addr} {v : Value} (h : w.cell? a = some v) : a.block < w.heap.size ∧ a.spot = none := by
  unfold World.cell? at h
  split at h
  · rename_i hb
    refine ⟨?_, ?_⟩
    · rcases Nat.lt_or_ge a.block w.heap.size with h' | h'
      · exact h'
      · rw [Array.getElem?_eq_none h'] at hb; cases hb
    · split at h
      · cases h
      · rename_i hs; simpa using hs
  · cases h
theorem cellsN {w : World} {base K : Nat} {a : Addr} {cs : List Value} (h : w.cells? base a K = some cs) : cs.length = K ∧ ∀ i, i < K → w.cell? (a.add i) = cs[i]? := by
  unfold World.cells? at h
  split at h
  · exact ⟨by simpa using mapM_some_length h, fun i hi => mapM_some_get h i i (by simp [hi])⟩
  · cases h
/-- what is read weighs no more than the form's reach -/
def Light {H : Type} (t : TypeId) (d : DataW H) : Prop := ∀ n ∈ d.weights Tryd.prog t, n ≤ reachBytes

section
variable {H : Type} {enc : TypeId × Value → H} {w : World} {base : Nat} {spare : Nat → Bool} {held : Bool}
theorem light_all {e : TypeId} : ∀ {l : List (DataW H)}, (∀ n ∈ DataW.weightsAll Tryd.prog e l, n ≤ reachBytes) → ∀ d ∈ l, Light e d
  | [], _, d, h => by cases h
  | x :: l, hw, d, h => by
    unfold DataW.weightsAll at hw
    rcases List.mem_cons.1 h with rfl | h
    · exact fun n hn => hw n (List.mem_append_left _ hn)
    · exact light_all (fun n hn => hw n (List.mem_append_right _ hn)) d h
theorem light_slice {T e : TypeId} {es rs : List (DataW H)} (hT : Tryd.prog.underlying T = some (.slice e)) (h : Light T (.slice es rs)) : (es.length + rs.length) * Tryd.prog.bytesOf e ≤ reachBytes ∧ ∀ d ∈ es, Light e d := by
  unfold Light at h
  unfold DataW.weights at h
  rw [hT] at h
  dsimp only at h
  exact ⟨h _ (List.mem_cons_self ..), light_all fun n hn => h n (List.mem_cons_of_mem _ (List.mem_append_left _ hn))⟩
theorem light_part {t : TypeId} {fs : Array Field} {ps : List (DataW H)} (ht : Tryd.prog.underlying t = some (.struct fs)) (h : Light t (.agg ps)) {j : Nat} {f : Field} {d : DataW H} (hf : fs[j]? = some f) (hd : ps[j]? = some d) : Light f.type d := by
  unfold Light at h ⊢
  unfold DataW.weights at h
  rw [ht] at h
  dsimp only at h
  intro n hn
  refine h n (DataW.weights_mem_each (j := j) ?_ hd n hn)
  rw [List.getElem?_map, Array.getElem?_toList, hf]
  rfl

theorem slice_trod {α : Type} (f : α → List Value) (P : α → Prop) (K : Nat) {T e : TypeId} (hT : Tryd.prog.underlying T = some (.slice e)) (hc : Tryd.prog.cellsOf e = K) (hK : 0 < K) (hf : ∀ x, (f x).length = K) {fuel : Nat} {cs : List Value} {x : DataW H × List MemPlace}
    (hel : ∀ m, m < fuel → ∀ cs x, DataW.trod enc Tryd.prog w base spare held m e cs = some x → Light e x.1 → ∃ a, cs = f a ∧ P a) (h : DataW.trod enc Tryd.prog w base spare held fuel T cs = some x) (hw : Light T x.1) :
    ∃ (A : Option Addr) (l : List α) (c : Nat), cs = [.slice A l.length c] ∧ (∀ a ∈ l, P a) ∧ l.length * Tryd.prog.bytesOf e ≤ reachBytes ∧ (l = [] ∨ ∃ b off, A = some ⟨b, off, none⟩ ∧ b < w.heap.size ∧ ∀ i x j u, l[i]? = some x → (f x)[j]? = some u → w.cell? ⟨b, off + i * K + j, none⟩ = some u) := by
  rcases DataW.trod_slice hT h with ⟨hcs, _⟩ | ⟨ad, len, cap, elems, rest, n, hn, hcs, hx, _, hl, hm, hlen, he, _, _⟩
  · exact ⟨none, [], 0, hcs, by simp, by simp, .inl rfl⟩
  · subst hx hcs
    obtain ⟨hbytes, hparts⟩ := light_slice hT hw
    rw [List.length_map, List.length_map, hlen] at hbytes
    have hb2 : len * Tryd.prog.bytesOf e ≤ reachBytes := Nat.le_trans (Nat.mul_le_mul_right _ (by omega)) hbytes
    rcases Nat.eq_zero_or_pos len with h0 | h0
    · subst h0
      exact ⟨some ad, [], cap, rfl, by simp, by simp, .inl rfl⟩
    have hcells : ∀ i, i < len → ∃ a : α, P a ∧ ∀ j, j < K → w.cell? ((ad.add (i * K)).add j) = (f a)[j]? := by
      intro i hi
      have h1 := he i hi
      rw [List.getElem?_eq_getElem (by omega), hc] at h1
      obtain ⟨cs, h2, h3⟩ := Option.bind_eq_some_iff.1 h1
      obtain ⟨a, rfl, ha⟩ := hel n (by omega) cs _ h3 (hparts _ (List.mem_map.2 ⟨_, List.getElem_mem _, rfl⟩))
      exact ⟨a, ha, (cellsN h2).2⟩
    obtain ⟨a0, _, hc0⟩ := hcells 0 h0
    have hsome : ∃ u, (f a0)[0]? = some u := ⟨(f a0)[0]'(by rw [hf]; exact hK), List.getElem?_eq_getElem _⟩
    obtain ⟨u0, hu0⟩ := hsome
    have hlt := cell_lt2 ((hc0 0 hK).trans hu0)
    obtain ⟨b, off, spot⟩ := ad
    have hs : spot = none := by
      have := hlt.2
      simpa [Addr.add] using this
    subst hs
    have hbl : b < w.heap.size := by
      have := hlt.1
      simpa [Addr.add] using this
    obtain ⟨l, hll, hp⟩ := pick len (P := fun i a => P a ∧ ∀ j, j < K → w.cell? ⟨b, off + i * K + j, none⟩ = (f a)[j]?) fun i hi => by
      obtain ⟨a, ha, hca⟩ := hcells i hi
      refine ⟨a, ha, fun j hj => ?_⟩
      have := hca j hj
      simp only [add_none] at this
      exact this
    subst hll
    refine ⟨some ⟨b, off, none⟩, l, cap, rfl, fun a ha => ?_, hb2, .inr ⟨b, off, rfl, hbl, fun i x j u hx hu => ?_⟩⟩
    · obtain ⟨i, hi, rfl⟩ := List.getElem_of_mem ha
      exact (hp i _ (List.getElem?_eq_getElem hi)).1
    · have hj : j < K := by
        rcases Nat.lt_or_ge j K with h' | h'
        · exact h'
        · rw [List.getElem?_eq_none (by rw [hf]; exact h')] at hu; cases hu
      rw [(hp i x hx).2 j hj]
      exact hu

theorem vals_trod {fuel : Nat} {cs : List Value} {x : DataW H × List MemPlace} (h : DataW.trod enc Tryd.prog w base spare held fuel 29 cs = some x) (hw : Light 29 x.1) :
    ∃ A l c, cs = [.slice A l.length c] ∧ RV w w.heap.size A l ∧ l.length ≤ 140737488355328 ∧ ∀ a ∈ l, a.Ok ∧ 0 ≤ a.k ∧ a.k ≤ 255 := by
  obtain ⟨A, l, c, q, hP, hby, hcl⟩ := slice_trod valCells (fun a => a.Ok ∧ 0 ≤ a.k ∧ a.k ≤ 255) 3 Tryd.underlying29 cells_value (by omega) (fun _ => rfl) (fun m hm cs x h1 _ => val_trod h1) h hw
  rw [bytes_val] at hby
  refine ⟨A, l, c, q, ?_, by unfold reachBytes at hby; omega, hP⟩
  rcases hcl with hcl | ⟨b, off, rfl, hb, hcl⟩
  · exact .inl hcl
  · exact .inr ⟨b, off, rfl, hb, fun i y hy => ⟨hcl i y 0 _ hy rfl, hcl i y 1 _ hy rfl, hcl i y 2 _ hy rfl⟩⟩
theorem rows_trod {fuel : Nat} {cs : List Value} {x : DataW H × List MemPlace} (h : DataW.trod enc Tryd.prog w base spare held fuel 35 cs = some x) (hw : Light 35 x.1) :
    ∃ A rs c, cs = [.slice A rs.length c] ∧ RR w w.heap.size A rs ∧ rs.length ≤ 140737488355328 ∧ ∀ r ∈ rs, r.l.length ≤ 140737488355328 ∧ ∀ a ∈ r.l, a.Ok ∧ 0 ≤ a.k ∧ a.k ≤ 255 := by
  obtain ⟨A, rs, c, hcs, hP, hb, hR⟩ := slice_trod (fun r : RowS => [.slice r.A r.l.length r.c]) (fun r => RV w w.heap.size r.A r.l ∧ r.l.length ≤ 140737488355328 ∧ ∀ a ∈ r.l, a.Ok ∧ 0 ≤ a.k ∧ a.k ≤ 255) 1 Tryd.underlying35 cells_row (by omega) (fun _ => rfl)
    (fun m _ cs y hy hl => by obtain ⟨A, l, c, h1, h2⟩ := vals_trod hy hl; exact ⟨⟨A, l, c⟩, h1, h2⟩) h hw
  rw [bytes_row] at hb
  refine ⟨A, rs, c, hcs, ?_, by unfold reachBytes at hb; omega, fun r hr => (hP r hr).2⟩
  rcases hR with h0 | ⟨b, off, h1, h2, h3⟩
  · exact .inl h0
  · refine .inr ⟨b, off, h1, h2, fun i r hr => ⟨?_, (hP r (List.mem_of_getElem? hr)).1⟩⟩
    have := h3 i r 0 _ hr rfl
    simpa using this
end
section
variable {H : Type} {enc : TypeId × Value → H} {W : World} {base : Nat} {v : Value} {d : DataW H} {p : List MemPlace}
theorem vals_open (ok : Value.okWide Tryd.prog W .any base 29 v) (k : DataW.Trod enc Tryd.prog W 0 (fun _ => true) true 29 v d p) (hw : Light 29 d) :
    ∃ A l c, v = .slice A l.length c ∧ RV W W.heap.size A l ∧ l.length ≤ 140737488355328 ∧ ∀ a ∈ l, a.Ok ∧ 0 ≤ a.k ∧ a.k ≤ 255 := by
  obtain ⟨a, len, cap, rfl⟩ := okWide_slice Tryd.underlying29 ok
  obtain ⟨fuel, hf⟩ := k
  obtain ⟨A, l, c, q, h⟩ := vals_trod hf hw
  refine ⟨A, l, c, ?_, h⟩
  simp [Value.cells] at q
  obtain ⟨rfl, rfl, rfl⟩ := q
  rfl
theorem rows_open (ok : Value.okWide Tryd.prog W .any base 35 v) (k : DataW.Trod enc Tryd.prog W 0 (fun _ => true) true 35 v d p) (hw : Light 35 d) :
    ∃ A rs c, v = .slice A rs.length c ∧ RR W W.heap.size A rs ∧ rs.length ≤ 140737488355328 ∧ ∀ r ∈ rs, r.l.length ≤ 140737488355328 ∧ ∀ a ∈ r.l, a.Ok ∧ 0 ≤ a.k ∧ a.k ≤ 255 := by
  obtain ⟨a, len, cap, rfl⟩ := okWide_slice Tryd.underlying35 ok
  obtain ⟨fuel, hf⟩ := k
  obtain ⟨A, l, c, q, h⟩ := rows_trod hf hw
  refine ⟨A, l, c, ?_, h⟩
  simp [Value.cells] at q
  obtain ⟨rfl, rfl, rfl⟩ := q
  rfl
end
end Go.Proofs.YtekedkbjnedhgaaDoor
