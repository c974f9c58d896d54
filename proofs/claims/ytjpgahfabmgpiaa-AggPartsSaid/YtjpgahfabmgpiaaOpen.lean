/- How an argument that reads as data is opened: a value, a row of pairs, a row of numbers. -/
import Derived.Test.YtjpgahfabmgpiaaNil
import Derived.ProofKit
import Derived.OpenShut
import Derived.ChangeOld
namespace Go.Proofs.Ytjpgahfabmgpiaa
open Go.ChangeShapes Go.WideShapes Go.ChangeAt Go.RowKit
set_option linter.unusedVariables false

theorem cells_u8 : Try.prog.cellsOf 5 = 1 := by kernel_rfl
theorem cells_i64 : Try.prog.cellsOf 2 = 1 := by kernel_rfl
theorem cells_int : Try.prog.cellsOf 3 = 1 := by kernel_rfl
theorem cells_string : Try.prog.cellsOf 9 = 1 := by kernel_rfl
theorem cells_value : Try.prog.cellsOf 26 = 3 := by kernel_rfl
theorem cells_pair : Try.prog.cellsOf 29 = 6 := by kernel_rfl

section
variable {H : Type} {enc : TypeId × Value → H} {w : World} {base : Nat} {spare : Nat → Bool} {held : Bool} {fuel : Nat} {cs : List Value} {x : DataW H × List MemPlace}

theorem i64_wf {n : Int} (h : (Lit.int .i64 n).wf = true) : -9223372036854775808 ≤ n ∧ n ≤ 9223372036854775807 := by simpa [Lit.wf, IntKind.min, IntKind.max, IntKind.signed, IntKind.bits] using h

theorem val_trod (h : DataW.trod enc Try.prog w base spare held fuel 26 cs = some x) : ∃ a : Val, cs = [.int .u8 a.k, .int .i64 a.n, .string a.s] ∧ a.Ok := by
  obtain ⟨xs, n, _, _, hl, hlen, hf⟩ := DataW.trod_struct Try.underlying26 h
  rw [cells_value] at hl
  match cs, hl with
  | [c0, c1, c2], _ =>
    have get : ∀ i, i < 3 → ∃ y, xs[i]? = some y := fun i hi => ⟨xs[i]'(by simp at hlen; omega), List.getElem?_eq_getElem _⟩
    obtain ⟨y0, e0⟩ := get 0 (by omega)
    obtain ⟨y1, e1⟩ := get 1 (by omega)
    obtain ⟨y2, e2⟩ := get 2 (by omega)
    have t0 : DataW.trod enc Try.prog w base spare held n 5 (([c0, c1, c2].drop 0).take (Try.prog.cellsOf 5)) = some y0 := (hf 0 _ rfl).trans e0
    have t1 : DataW.trod enc Try.prog w base spare held n 2 (([c0, c1, c2].drop 1).take (Try.prog.cellsOf 2)) = some y1 := (hf 1 _ rfl).trans e1
    have t2 : DataW.trod enc Try.prog w base spare held n 9 (([c0, c1, c2].drop 2).take (Try.prog.cellsOf 9)) = some y2 := (hf 2 _ rfl).trans e2
    rw [cells_u8] at t0
    rw [cells_i64] at t1
    rw [cells_string] at t2
    simp only [List.drop_succ_cons, List.drop_zero, List.take_succ_cons, List.take_zero] at t0 t1 t2
    obtain ⟨n0, q0, _, f0⟩ := DataW.trod_int Try.underlying5 t0
    obtain ⟨n1, q1, _, f1⟩ := DataW.trod_int Try.underlying2 t1
    obtain ⟨s, q2, _, f2⟩ := DataW.trod_string Try.underlying9 t2
    simp at q0 q1 q2
    subst q0 q1 q2
    exact ⟨⟨n0, n1, s⟩, rfl, i64_wf f1⟩

theorem pair_trod (h : DataW.trod enc Try.prog w base spare held fuel 29 cs = some x) : ∃ a : Val × Val, cs = [.int .u8 a.1.k, .int .i64 a.1.n, .string a.1.s, .int .u8 a.2.k, .int .i64 a.2.n, .string a.2.s] ∧ a.1.Ok ∧ a.2.Ok := by
  obtain ⟨y0, y1, n, _, hl, t0, t1⟩ := trod_struct2 Try.underlying29 h
  rw [cells_pair] at hl
  match cs, hl with
  | [c0, c1, c2, c3, c4, c5], _ =>
    simp only [cells_value, List.drop_succ_cons, List.drop_zero, List.take_succ_cons, List.take_zero] at t0 t1
    obtain ⟨a, qa, ha⟩ := val_trod t0
    obtain ⟨b, qb, hb⟩ := val_trod t1
    simp at qa qb
    obtain ⟨rfl, rfl, rfl⟩ := qa
    obtain ⟨rfl, rfl, rfl⟩ := qb
    exact ⟨(a, b), rfl, ha, hb⟩

theorem val_open {base : Nat} {v : Value} {d : DataW H} {p : List MemPlace} (ok : Value.okWide Try.prog w .any base 26 v)
    (k : DataW.Trod enc Try.prog w 0 (fun _ => true) true 26 v d p) : ∃ a : Val, v = .agg #[.int .u8 a.k, .int .i64 a.n, .string a.s] ∧ a.Ok := by
  obtain ⟨cs, rfl, _⟩ := okWide_struct Try.underlying26 ok
  obtain ⟨fuel, hf⟩ := k
  obtain ⟨a, h, ha⟩ := val_trod hf
  refine ⟨a, ?_, ha⟩
  cases cs
  simp [Value.cells] at h
  rw [h]
end

theorem pick {α : Type} {P : Nat → α → Prop} : ∀ n, (∀ i, i < n → ∃ x, P i x) → ∃ l : List α, l.length = n ∧ ∀ i x, l[i]? = some x → P i x
  | 0, _ => ⟨[], rfl, fun i x h => by simp at h⟩
  | n + 1, h => by
    obtain ⟨l, hl, hp⟩ := pick n fun i hi => h i (by omega)
    obtain ⟨y, hy⟩ := h n (by omega)
    refine ⟨l ++ [y], by simp [hl], fun i x hx => ?_⟩
    rcases Nat.lt_trichotomy i n with hi | hi | hi
    · rw [List.getElem?_append_left (by omega)] at hx; exact hp i x hx
    · subst hi
      rw [List.getElem?_append_right (by omega), hl] at hx
      simp at hx
      subst hx; exact hy
    · rw [List.getElem?_eq_none (by simp; omega)] at hx; cases hx

theorem cell_lt {w : World} {a : Addr} {v : Value} (h : w.cell? a = some v) : a.block < w.heap.size ∧ a.spot = none := by
  unfold World.cell? at h
  split at h
  · rename_i hb
    refine ⟨?_, ?_⟩
    · rcases Nat.lt_or_ge a.block w.heap.size with h' | h'
      · exact h'
      · rw [Array.getElem?_eq_none h'] at hb; cases hb
    · split at h
      · cases h
      · rename_i hs; simpa using hs
  · cases h

theorem add_none (b off n : Nat) : Addr.add ⟨b, off, none⟩ n = ⟨b, off + n, none⟩ := by
  unfold Addr.add
  split
  · rename_i h; subst h; rfl
  · rfl
theorem cells6 {w : World} {base : Nat} {a : Addr} {cs : List Value} (h : w.cells? base a 6 = some cs) : cs.length = 6 ∧ ∀ i, i < 6 → w.cell? (a.add i) = cs[i]? := by
  unfold World.cells? at h
  split at h
  · exact ⟨by simpa using mapM_some_length h, fun i hi => mapM_some_get h i i (by simp [hi])⟩
  · cases h

theorem pairs_open {H : Type} {enc : TypeId × Value → H} {W : World} {base : Nat} {v : Value} {d : DataW H} {p : List MemPlace} (ok : Value.okWide Try.prog W .any base 24 v)
    (k : DataW.Trod enc Try.prog W 0 (fun _ => true) true 24 v d p) : ∃ A l c, v = .slice A l.length c ∧ RP W W.heap.size A l ∧ l.length ≤ c ∧ c ≤ 9223372036854775807 ∧ ∀ x ∈ l, x.1.Ok := by
  obtain ⟨a, len, cap, rfl⟩ := okWide_slice Try.underlying24 ok
  obtain ⟨fuel, hf⟩ := k
  rcases DataW.trod_slice Try.underlying24 hf with ⟨hcs, _⟩ | ⟨x, l, c, elems, rest, n, _, hcs, _, _, hl, hm, hlen, hel, _, _⟩
  · simp [Value.cells] at hcs
    obtain ⟨rfl, rfl, rfl⟩ := hcs
    exact ⟨none, [], 0, rfl, .inl rfl, Nat.le_refl _, by omega, by simp⟩
  · simp [Value.cells] at hcs
    obtain ⟨rfl, rfl, rfl⟩ := hcs
    rcases Nat.eq_zero_or_pos len with h0 | h0
    · subst h0
      exact ⟨some x, [], cap, rfl, .inl rfl, Nat.zero_le _, hm, by simp⟩
    have hcells : ∀ i, i < len → ∃ y : Val × Val, y.1.Ok ∧ ∀ j, j < 6 → W.cell? ((x.add (i * 6)).add j) = [Value.int .u8 y.1.k, .int .i64 y.1.n, .string y.1.s, .int .u8 y.2.k, .int .i64 y.2.n, .string y.2.s][j]? := by
      intro i hi
      have h1 := hel i hi
      rw [List.getElem?_eq_getElem (by omega), cells_pair] at h1
      obtain ⟨cs, h2, h3⟩ := Option.bind_eq_some_iff.1 h1
      obtain ⟨y, rfl, hy, _⟩ := pair_trod h3
      exact ⟨y, hy, (cells6 h2).2⟩
    obtain ⟨y0, _, hc0⟩ := hcells 0 h0
    have hlt := cell_lt (hc0 0 (by omega))
    obtain ⟨b, off, spot⟩ := x
    have hs : spot = none := hlt.2
    subst hs
    have hx : ∀ i, i < len → ∃ y : Val × Val, PairAt W b (off + i * 6) y ∧ y.1.Ok := by
      intro i hi
      obtain ⟨y, hy, hc⟩ := hcells i hi
      simp only [add_none] at hc
      exact ⟨y, ⟨hc 0 (by omega), hc 1 (by omega), hc 2 (by omega), hc 3 (by omega), hc 4 (by omega), hc 5 (by omega)⟩, hy⟩
    obtain ⟨l, hll, hp⟩ := pick len hx
    subst hll
    refine ⟨some ⟨b, off, none⟩, l, cap, rfl, .inr ⟨b, off, rfl, hlt.1, fun i z hz => (hp i z hz).1⟩, hl, hm, ?_⟩
    intro y hy
    obtain ⟨i, hi⟩ := List.mem_iff_getElem?.1 hy
    exact (hp i y hi).2

/-- a slice that reads as numbers -/
def RN (w : World) (B : Nat) (A : Option Addr) (l : List Int) : Prop :=
  l = [] ∨ ∃ b off, A = some ⟨b, off, none⟩ ∧ b < B ∧ ∀ i x, l[i]? = some x → w.cell? ⟨b, off + i, none⟩ = some (.int .i64 x)
theorem RN.below {w w' : World} {B : Nat} {A : Option Addr} {l : List Int} (h : RN w B A l) (hb : Below B w w') : RN w' B A l := by
  rcases h with h | ⟨b, off, h1, h2, h3⟩
  · exact .inl h
  · exact .inr ⟨b, off, h1, h2, fun i x hx => (hb.cell (p := ⟨b, _, none⟩) h2).trans (h3 i x hx)⟩
theorem RN.at_ {w : World} {B : Nat} {A : Option Addr} {l : List Int} (h : RN w B A l) {k : Nat} (hk : k < l.length) : ∃ b off, A = some ⟨b, off, none⟩ ∧ b < B ∧ w.cell? ⟨b, off + k, none⟩ = some (.int .i64 l[k]) := by
  rcases h with h | ⟨b, off, h1, h2, h3⟩
  · subst h; simp at hk
  · exact ⟨b, off, h1, h2, h3 k _ (List.getElem?_eq_getElem hk)⟩

theorem nums_open {H : Type} {enc : TypeId × Value → H} {W : World} {base : Nat} {v : Value} {d : DataW H} {p : List MemPlace} {t e : TypeId} (ht : Try.prog.underlying t = some (.slice e)) (he : Try.prog.underlying e = some (.int .i64)) (hc : Try.prog.cellsOf e = 1)
    (ok : Value.okWide Try.prog W .any base t v)
    (k : DataW.Trod enc Try.prog W 0 (fun _ => true) true t v d p) : ∃ A l c, v = .slice A l.length c ∧ RN W W.heap.size A l ∧ l.length ≤ c ∧ c ≤ 9223372036854775807 ∧ ∀ x ∈ l, -9223372036854775808 ≤ x ∧ x ≤ 9223372036854775807 := by
  obtain ⟨a, len, cap, rfl⟩ := okWide_slice ht ok
  obtain ⟨fuel, hf⟩ := k
  rcases open_ints ht he hc hf with ⟨hcs, _⟩ | ⟨x, l, c, zs, hcs, _, hl, hm, hz, hx, hcell, hwz⟩
  · simp [Value.cells] at hcs
    obtain ⟨rfl, rfl, rfl⟩ := hcs
    exact ⟨none, [], 0, rfl, .inl rfl, Nat.le_refl _, by omega, by simp⟩
  · simp [Value.cells] at hcs
    obtain ⟨rfl, rfl, rfl⟩ := hcs
    simp only [if_true] at hz
    have hlen : (zs.take len).length = len := by simp; omega
    refine ⟨some x, zs.take len, cap, by rw [hlen], ?_, by rw [hlen]; exact hl, hm, fun n hn => i64_wf (hwz n (List.mem_of_mem_take hn))⟩
    rcases Nat.eq_zero_or_pos len with h0 | h0
    · subst h0; exact .inl (by simp)
    · have hlt := cell_lt (hcell 0 (by omega))
      obtain ⟨b, off, spot⟩ := x
      have hs : spot = none := hlt.2
      subst hs
      refine .inr ⟨b, off, rfl, hlt.1, fun i n hn => ?_⟩
      have hi : i < len := by
        rcases Nat.lt_or_ge i len with h | h
        · exact h
        · rw [List.getElem?_eq_none (by omega)] at hn; cases hn
      rw [List.getElem?_take, if_pos hi] at hn
      have := hcell i (by omega)
      rw [List.getD_eq_getElem?_getD, hn, add_none] at this
      exact this

theorem u8_open {H : Type} {enc : TypeId × Value → H} {W : World} {base : Nat} {v : Value} {d : DataW H} {p : List MemPlace} (ok : Value.okWide Try.prog W .any base 5 v)
    (k : DataW.Trod enc Try.prog W 0 (fun _ => true) true 5 v d p) : ∃ n, v = .int .u8 n := by
  obtain ⟨n, rfl, _⟩ := open_int Try.underlying5 ok k
  exact ⟨n, rfl⟩

theorem nil_walk {H : Type} (enc : TypeId × Value → H) (W : World) (base : Nat) (v0 v1 v2 : Value) (d0 d1 d2 : DataW H) (p0 p1 p2 : List MemPlace)
    (ok0 : Value.okWide Try.prog W .any base 5 v0) (ok1 : Value.okWide Try.prog W .any base 5 v1) (ok2 : Value.okWide Try.prog W .any base 26 v2)
    (k0 : DataW.Trod enc Try.prog W 0 (fun _ => true) true 5 v0 d0 p0) (k1 : DataW.Trod enc Try.prog W 0 (fun _ => true) true 5 v1 d1 p1) (k2 : DataW.Trod enc Try.prog W 0 (fun _ => true) true 26 v2 d2 p2) :
    Calls Try.prog 6 #[v0, v1, v2] W fun e w' => e = .returned (.bool true) ∧ Below W.heap.size W w' := by
  obtain ⟨op, rfl⟩ := u8_open ok0 k0
  obtain ⟨other, rfl⟩ := u8_open ok1 k1
  obtain ⟨a, rfl, _⟩ := val_open ok2 k2
  exact nil_any op other a W
end Go.Proofs.Ytjpgahfabmgpiaa
