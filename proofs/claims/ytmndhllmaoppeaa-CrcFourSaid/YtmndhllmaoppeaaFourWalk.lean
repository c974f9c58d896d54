/- CrcFour: the arguments opened. -/
import Derived.Test.YtmndhllmaoppeaaFour
import Derived.Lib.SmallJoins
namespace Go.Proofs.Ytmndhllmaoppeaa
open Go.ChangeShapes Go.WideShapes Go.ChangeAt Go.RowKit
set_option linter.unusedVariables false

theorem cells28 : Try.prog.cellsOf 28 = 4 := by kernel_rfl
theorem cells5 : Try.prog.cellsOf 5 = 1 := by kernel_rfl
theorem u8_wf {n : Int} (h : (Lit.int .u8 n).wf = true) : ∃ k : Nat, n = (k : Int) ∧ k < 256 := by
  have : 0 ≤ n ∧ n ≤ 255 := by simpa [Lit.wf, IntKind.min, IntKind.max, IntKind.signed, IntKind.bits] using h
  exact ⟨n.toNat, by omega, by omega⟩

theorem four_open {H : Type} {enc : TypeId × Value → H} {W : World} {base : Nat} {v : Value} {d : DataW H} {p : List MemPlace} (ok : Value.okWide Try.prog W .any base 28 v)
    (k : DataW.Trod enc Try.prog W 0 (fun _ => true) true 28 v d p) : ∃ b0 b1 b2 b3 : Nat, v = .agg #[.int .u8 b0, .int .u8 b1, .int .u8 b2, .int .u8 b3] ∧ b0 < 256 ∧ b1 < 256 ∧ b2 < 256 ∧ b3 < 256 := by
  obtain ⟨cs, rfl, hsz, _⟩ : ∃ cs, v = .agg cs ∧ cs.size = Try.prog.cellsOf 28 ∧ True := by
    unfold Value.okWide at ok
    rw [Try.underlying28] at ok
    obtain ⟨cs, h1, h2, _⟩ := ok
    exact ⟨cs, h1, h2, trivial⟩
  rw [cells28] at hsz
  obtain ⟨c0, c1, c2, c3, rfl⟩ := Joins.array4 hsz
  obtain ⟨fuel, hf⟩ := k
  obtain ⟨xs, m, rfl, _, _, hx, hall⟩ := DataW.trod_array Try.underlying28 hf
  have get : ∀ i, i < 4 → ∃ y, xs[i]? = some y := fun i hi => ⟨xs[i]'(by omega), List.getElem?_eq_getElem (by omega)⟩
  obtain ⟨y0, e0⟩ := get 0 (by omega)
  obtain ⟨y1, e1⟩ := get 1 (by omega)
  obtain ⟨y2, e2⟩ := get 2 (by omega)
  obtain ⟨y3, e3⟩ := get 3 (by omega)
  have t0 := (hall 0 (by omega)).trans e0
  have t1 := (hall 1 (by omega)).trans e1
  have t2 := (hall 2 (by omega)).trans e2
  have t3 := (hall 3 (by omega)).trans e3
  rw [cells5] at t0 t1 t2 t3
  obtain ⟨n0, q0, _, f0⟩ := DataW.trod_int Try.underlying5 t0
  obtain ⟨n1, q1, _, f1⟩ := DataW.trod_int Try.underlying5 t1
  obtain ⟨n2, q2, _, f2⟩ := DataW.trod_int Try.underlying5 t2
  obtain ⟨n3, q3, _, f3⟩ := DataW.trod_int Try.underlying5 t3
  simp [Value.cells] at q0 q1 q2 q3
  subst q0 q1 q2 q3
  obtain ⟨b0, rfl, l0⟩ := u8_wf f0
  obtain ⟨b1, rfl, l1⟩ := u8_wf f1
  obtain ⟨b2, rfl, l2⟩ := u8_wf f2
  obtain ⟨b3, rfl, l3⟩ := u8_wf f3
  exact ⟨b0, b1, b2, b3, rfl, l0, l1, l2, l3⟩

theorem four_walk {H : Type} (enc : TypeId × Value → H) (W : World) (base : Nat) (v0 v1 v2 : Value) (d0 d1 d2 : DataW H) (p0 p1 p2 : List MemPlace)
    (ok0 : Value.okWide Try.prog W .any base 22 v0) (ok1 : Value.okWide Try.prog W .any base 27 v1) (ok2 : Value.okWide Try.prog W .any base 28 v2)
    (k0 : DataW.Trod enc Try.prog W 0 (fun _ => true) true 22 v0 d0 p0) (k1 : DataW.Trod enc Try.prog W 0 (fun _ => true) true 27 v1 d1 p1) (k2 : DataW.Trod enc Try.prog W 0 (fun _ => true) true 28 v2 d2 p2) :
    Calls Try.prog 4 #[v0, v1, v2] W fun e w' => e = .returned (.bool true) ∧ Below W.heap.size W w' := by
  obtain ⟨A0, l0, c0, rfl, r0, m0, n0⟩ := bytes_open ok0 k0
  obtain ⟨n, rfl, rfl, rfl, wn⟩ := open_int Try.underlying27 ok1 k1
  obtain ⟨b0, b1, b2, b3, rfl, h0, h1, h2, h3⟩ := four_open ok2 k2
  have hn : 0 ≤ n ∧ n ≤ 65535 := by simpa [Lit.wf, IntKind.min, IntKind.max, IntKind.signed, IntKind.bits] using wn
  exact four_any A0 c0 l0 n b0 b1 b2 b3 W r0 m0 n0 hn.1 hn.2 h0 h1 h2 h3
end Go.Proofs.Ytmndhllmaoppeaa
