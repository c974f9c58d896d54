/- How an argument that reads as data is opened: bytes; an array of four bytes. And the laws' walks, as the frames want them. -/
import Derived.Test.YtmndhllmaoppeaaBehind
import Derived.ProofKit
import Derived.OpenShut
import Derived.ChangeOld
namespace Go.Proofs.Ytmndhllmaoppeaa
open Go.ChangeShapes Go.WideShapes Go.ChangeAt Go.RowKit
set_option linter.unusedVariables false

theorem bytes_open {H : Type} {enc : TypeId × Value → H} {W : World} {base : Nat} {v : Value} {d : DataW H} {p : List MemPlace} (ok : Value.okWide Try.prog W .any base 22 v)
    (k : DataW.Trod enc Try.prog W 0 (fun _ => true) true 22 v d p) : ∃ A l c, v = .slice A l.length c ∧ RB W W.heap.size A l ∧ l.length ≤ c ∧ c ≤ 9223372036854775807 := by
  obtain ⟨a, len, cap, rfl⟩ := okWide_slice Try.underlying22 ok
  have lt : ∀ x ∈ p, x.block < W.heap.size := by obtain ⟨m, hm⟩ := k; exact DataW.trod_lt m _ _ _ hm
  obtain ⟨fuel, hf⟩ := k
  rcases open_ints Try.underlying22 Try.underlying5 (by kernel_rfl) hf with ⟨hcs, _⟩ | ⟨x, l, c, zs, hcs, _, hl, hm, hz, hx, hcell, hwz⟩
  · simp [Value.cells] at hcs
    obtain ⟨rfl, rfl, rfl⟩ := hcs
    exact ⟨none, [], 0, rfl, RB.nil, Nat.le_refl _, by omega⟩
  · simp [Value.cells] at hcs
    obtain ⟨rfl, rfl, rfl⟩ := hcs
    simp only [if_true] at hz
    have hp : p = MemPlace.row x zs.length := by injection hx
    subst hp
    have hb : ∀ n ∈ zs, 0 ≤ n ∧ n ≤ 255 := fun n hn => by simpa [Lit.wf, IntKind.min, IntKind.max, IntKind.signed, IntKind.bits] using hwz n hn
    have hlen : ((zs.take len).map Int.toNat).length = len := by simp; omega
    refine ⟨some x, (zs.take len).map Int.toNat, cap, by rw [hlen], ⟨⟨by simp [cellsOf], fun h0 => ⟨x, rfl, ?_, ?_⟩⟩, ?_⟩, by rw [hlen]; exact hl, hm⟩
    · rw [hlen] at h0
      exact lt (.cell x.block (x.off + 0)) (List.mem_map.2 ⟨0, by simp; omega, rfl⟩)
    · intro j u hu
      have hj : j < len := by
        rcases Nat.lt_or_ge j len with h | h
        · exact h
        · rw [List.getElem?_eq_none (by simp [cellsOf]; omega)] at hu; cases hu
      have hj' : j < zs.length := by omega
      simp only [cellsOf, List.map_map, List.getElem?_map, List.getElem?_take, hj, if_true, List.getElem?_eq_getElem hj', Option.map_some, Option.some.injEq] at hu
      rw [hcell j hj', ← hu, List.getD_eq_getElem?_getD, List.getElem?_eq_getElem hj']
      have := hb zs[j] (List.getElem_mem hj')
      simp only [Function.comp, Option.getD_some, Option.some.injEq, Value.int.injEq, true_and]
      omega
    · intro c hc
      obtain ⟨n, hn, rfl⟩ := List.mem_map.1 hc
      have := hb n (List.mem_of_mem_take hn)
      omega

theorem known_walk {H : Type} (enc : TypeId × Value → H) (W : World) (base : Nat) : Calls Try.prog 7 #[] W fun e w' => e = .returned (.bool true) ∧ Below W.heap.size W w' := known_any W

theorem behind_walk {H : Type} (enc : TypeId × Value → H) (W : World) (base : Nat) (v0 v1 v2 : Value) (d0 d1 d2 : DataW H) (p0 p1 p2 : List MemPlace)
    (ok0 : Value.okWide Try.prog W .any base 22 v0) (ok1 : Value.okWide Try.prog W .any base 22 v1) (ok2 : Value.okWide Try.prog W .any base 22 v2)
    (k0 : DataW.Trod enc Try.prog W 0 (fun _ => true) true 22 v0 d0 p0) (k1 : DataW.Trod enc Try.prog W 0 (fun _ => true) true 22 v1 d1 p1) (k2 : DataW.Trod enc Try.prog W 0 (fun _ => true) true 22 v2 d2 p2) :
    Calls Try.prog 5 #[v0, v1, v2] W fun e w' => e = .returned (.bool true) ∧ Below W.heap.size W w' := by
  obtain ⟨A0, l0, c0, rfl, r0, m0, n0⟩ := bytes_open ok0 k0
  obtain ⟨A1, l1, c1, rfl, r1, m1, n1⟩ := bytes_open ok1 k1
  obtain ⟨A2, l2, c2, rfl, r2, m2, n2⟩ := bytes_open ok2 k2
  exact behind_any A0 A1 A2 c0 c1 c2 l0 l1 l2 W r0 r1 r2 (by omega) (by omega) (by omega)
end Go.Proofs.Ytmndhllmaoppeaa
