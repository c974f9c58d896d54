/- token: how a text, bytes and a truth that read as data are opened; TokenBack. -/
import Derived.Test.YtcmkfjepikncnaaDoorBackY
import Derived.ProofKit
import Derived.OpenShut
import Derived.ChangeOld
import Derived.ChangeMaps5
namespace Go.Proofs.YtcmkfjepikncnaaDoor
open Go.ChangeShapes Go.WideShapes Go.ChangeAt Go.RowKit
set_option linter.unusedVariables false
set_option maxRecDepth 100000
theorem bytes_open {H : Type} {enc : TypeId × Value → H} {W : World} {base : Nat} {v : Value} {d : DataW H} {p : List MemPlace} (ok : Value.okWide Tryd.prog W .any base 29 v)
    (k : DataW.Trod enc Tryd.prog W 0 (fun _ => true) true 29 v d p) : ∃ A l c, v = .slice A l.length c ∧ Reads W W.heap.size 1 A l.length (Lib.byteCells l) := by
  obtain ⟨a, len, cap, rfl⟩ := okWide_slice Tryd.underlying29 ok
  have lt : ∀ x ∈ p, x.block < W.heap.size := by obtain ⟨m, hm⟩ := k; exact DataW.trod_lt m _ _ _ hm
  obtain ⟨fuel, hf⟩ := k
  rcases open_ints Tryd.underlying29 Tryd.underlying5 (by kernel_rfl) hf with ⟨hcs, _⟩ | ⟨x, l, c, zs, hcs, _, hl, hm, hz, hx, hcell, hwz⟩
  · simp [Value.cells] at hcs
    obtain ⟨rfl, rfl, rfl⟩ := hcs
    exact ⟨none, [], 0, rfl, Reads.none_⟩
  · simp [Value.cells] at hcs
    obtain ⟨rfl, rfl, rfl⟩ := hcs
    simp only [if_true] at hz
    have hp : p = MemPlace.row x zs.length := by injection hx
    subst hp
    have hb : ∀ n ∈ zs, 0 ≤ n ∧ n ≤ 255 := fun n hn => by simpa [Lit.wf, IntKind.min, IntKind.max, IntKind.signed, IntKind.bits] using hwz n hn
    have hlen : ((zs.take len).map fun n => UInt8.ofNat n.toNat).length = len := by simp; omega
    refine ⟨some x, (zs.take len).map fun n => UInt8.ofNat n.toNat, cap, by rw [hlen], ⟨by simp [Lib.byteCells], fun h0 => ⟨x, rfl, ?_, ?_⟩⟩⟩
    · rw [hlen] at h0
      exact lt (.cell x.block (x.off + 0)) (List.mem_map.2 ⟨0, by simp; omega, rfl⟩)
    · intro j u hu
      have hj : j < len := by
        rcases Nat.lt_or_ge j len with h | h
        · exact h
        · rw [List.getElem?_eq_none (by simp [Lib.byteCells]; omega)] at hu; cases hu
      have hj' : j < zs.length := by omega
      simp only [Lib.byteCells, List.map_map, List.getElem?_map, List.getElem?_take, hj, if_true, List.getElem?_eq_getElem hj', Option.map_some, Option.some.injEq] at hu
      rw [hcell j hj', ← hu, List.getD_eq_getElem?_getD, List.getElem?_eq_getElem hj']
      have := hb zs[j] (List.getElem_mem hj')
      simp only [Function.comp, Option.getD_some, Option.some.injEq, Value.int.injEq, true_and]
      have e : (UInt8.ofNat zs[j].toNat).toNat = zs[j].toNat := by simp; omega
      rw [e]
      omega
theorem back_walk {H : Type} (enc : TypeId × Value → H) (W : World) (base : Nat) (v0 v1 v2 : Value) (d0 d1 d2 : DataW H) (p0 p1 p2 : List MemPlace)
    (ok0 : Value.okWide Tryd.prog W .any base 9 v0) (ok1 : Value.okWide Tryd.prog W .any base 29 v1) (ok2 : Value.okWide Tryd.prog W .any base 4 v2)
    (k0 : DataW.Trod enc Tryd.prog W 0 (fun _ => true) true 9 v0 d0 p0) (k1 : DataW.Trod enc Tryd.prog W 0 (fun _ => true) true 29 v1 d1 p1) (k2 : DataW.Trod enc Tryd.prog W 0 (fun _ => true) true 4 v2 d2 p2) (hE : LexEnv W) :
    Calls Tryd.prog 4 #[v0, v1, v2] W fun e w' => e = .returned (.bool true) ∧ Below W.heap.size W w' := by
  obtain ⟨s, rfl, _⟩ := Go.ChangeMaps.open_string Tryd.underlying9 ok0 k0
  obtain ⟨A, l, c, rfl, hr⟩ := bytes_open ok1 k1
  obtain ⟨b, rfl, _⟩ := open_bool Tryd.underlying4 ok2 k2
  exact back_any s A l c b W l.length rfl hE hr
end Go.Proofs.YtcmkfjepikncnaaDoor
