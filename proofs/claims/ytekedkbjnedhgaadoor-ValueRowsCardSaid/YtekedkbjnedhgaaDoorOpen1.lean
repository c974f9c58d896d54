/- How an argument that reads as data is opened: a value, a number. -/
import Derived.Test.YtekedkbjnedhgaaDoorWord
import Derived.ProofKit
import Derived.OpenShut
import Derived.ChangeOld
namespace Go.Proofs.YtekedkbjnedhgaaDoor
open Go.ChangeShapes Go.WideShapes Go.ChangeAt Go.RowKit
set_option linter.unusedVariables false
set_option maxRecDepth 100000

theorem cells_u8 : Tryd.prog.cellsOf 5 = 1 := by kernel_rfl
theorem cells_i64 : Tryd.prog.cellsOf 2 = 1 := by kernel_rfl
theorem cells_string : Tryd.prog.cellsOf 9 = 1 := by kernel_rfl
theorem cells_value : Tryd.prog.cellsOf 23 = 3 := by kernel_rfl
theorem u8_wf {n : Int} (h : (Lit.int .u8 n).wf = true) : 0 ≤ n ∧ n ≤ 255 := by simpa [Lit.wf, IntKind.min, IntKind.max, IntKind.signed, IntKind.bits] using h

section
variable {H : Type} {enc : TypeId × Value → H} {w : World} {base : Nat} {spare : Nat → Bool} {held : Bool} {fuel : Nat} {cs : List Value} {x : DataW H × List MemPlace}

theorem i64_wf {n : Int} (h : (Lit.int .i64 n).wf = true) : -9223372036854775808 ≤ n ∧ n ≤ 9223372036854775807 := by simpa [Lit.wf, IntKind.min, IntKind.max, IntKind.signed, IntKind.bits] using h

theorem val_trod (h : DataW.trod enc Tryd.prog w base spare held fuel 23 cs = some x) : ∃ a : Val, cs = [.int .u8 a.k, .int .i64 a.n, .string a.s] ∧ a.Ok ∧ 0 ≤ a.k ∧ a.k ≤ 255 := by
  obtain ⟨xs, n, _, _, hl, hlen, hf⟩ := DataW.trod_struct Tryd.underlying23 h
  rw [cells_value] at hl
  match cs, hl with
  | [c0, c1, c2], _ =>
    have get : ∀ i, i < 3 → ∃ y, xs[i]? = some y := fun i hi => ⟨xs[i]'(by simp at hlen; omega), List.getElem?_eq_getElem _⟩
    obtain ⟨y0, e0⟩ := get 0 (by omega)
    obtain ⟨y1, e1⟩ := get 1 (by omega)
    obtain ⟨y2, e2⟩ := get 2 (by omega)
    have t0 : DataW.trod enc Tryd.prog w base spare held n 5 (([c0, c1, c2].drop 0).take (Tryd.prog.cellsOf 5)) = some y0 := (hf 0 _ rfl).trans e0
    have t1 : DataW.trod enc Tryd.prog w base spare held n 2 (([c0, c1, c2].drop 1).take (Tryd.prog.cellsOf 2)) = some y1 := (hf 1 _ rfl).trans e1
    have t2 : DataW.trod enc Tryd.prog w base spare held n 9 (([c0, c1, c2].drop 2).take (Tryd.prog.cellsOf 9)) = some y2 := (hf 2 _ rfl).trans e2
    rw [cells_u8] at t0
    rw [cells_i64] at t1
    rw [cells_string] at t2
    simp only [List.drop_succ_cons, List.drop_zero, List.take_succ_cons, List.take_zero] at t0 t1 t2
    obtain ⟨n0, q0, _, f0⟩ := DataW.trod_int Tryd.underlying5 t0
    obtain ⟨n1, q1, _, f1⟩ := DataW.trod_int Tryd.underlying2 t1
    obtain ⟨s, q2, _, f2⟩ := DataW.trod_string Tryd.underlying9 t2
    simp at q0 q1 q2
    subst q0 q1 q2
    exact ⟨⟨n0, n1, s⟩, rfl, i64_wf f1, u8_wf f0⟩

theorem val_open {base : Nat} {v : Value} {d : DataW H} {p : List MemPlace} (ok : Value.okWide Tryd.prog w .any base 23 v)
    (k : DataW.Trod enc Tryd.prog w 0 (fun _ => true) true 23 v d p) : ∃ a : Val, v = .agg #[.int .u8 a.k, .int .i64 a.n, .string a.s] ∧ a.Ok ∧ 0 ≤ a.k ∧ a.k ≤ 255 := by
  obtain ⟨cs, rfl, _⟩ := okWide_struct Tryd.underlying23 ok
  obtain ⟨fuel, hf⟩ := k
  obtain ⟨a, h, ha⟩ := val_trod hf
  refine ⟨a, ?_, ha⟩
  cases cs
  simp [Value.cells] at h
  rw [h]
end

theorem pick {α : Type} {P : Nat → α → Prop} : ∀ n, (∀ i, i < n → ∃ x, P i x) → ∃ l : List α, l.length = n ∧ ∀ i x, l[i]? = some x → P i x
  | 0, _ => ⟨[], rfl, fun i x h => by simp at h⟩
  | n + 1, h => by
    obtain ⟨l, hl, hp⟩ := pick n fun i hi => h i (by omega)
    obtain ⟨y, hy⟩ := h n (by omega)
    refine ⟨l ++ [y], by simp [hl], fun i x hx => ?_⟩
    rcases Nat.lt_trichotomy i n with hi | hi | hi
    · rw [List.getElem?_append_left (by omega)] at hx; exact hp i x hx
    · subst hi
      rw [List.getElem?_append_right (by omega), hl] at hx
      simp at hx
      subst hx; exact hy
    · rw [List.getElem?_eq_none (by simp; omega)] at hx; cases hx



theorem u8_open {H : Type} {enc : TypeId × Value → H} {W : World} {base : Nat} {v : Value} {d : DataW H} {p : List MemPlace} (ok : Value.okWide Tryd.prog W .any base 5 v)
    (k : DataW.Trod enc Tryd.prog W 0 (fun _ => true) true 5 v d p) : ∃ n, v = .int .u8 n ∧ 0 ≤ n ∧ n ≤ 255 := by
  obtain ⟨n, rfl, _, _, wk⟩ := open_int Tryd.underlying5 ok k
  exact ⟨n, rfl, u8_wf wk⟩
theorem i64_open {H : Type} {enc : TypeId × Value → H} {W : World} {base : Nat} {v : Value} {d : DataW H} {p : List MemPlace} (ok : Value.okWide Tryd.prog W .any base 2 v)
    (k : DataW.Trod enc Tryd.prog W 0 (fun _ => true) true 2 v d p) : ∃ n, v = .int .i64 n ∧ -9223372036854775808 ≤ n ∧ n ≤ 9223372036854775807 := by
  obtain ⟨n, rfl, _, _, wk⟩ := open_int Tryd.underlying2 ok k
  exact ⟨n, rfl, i64_wf wk⟩
end Go.Proofs.YtekedkbjnedhgaaDoor
