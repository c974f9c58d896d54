/- expr.True. -/
import Derived.Test.YtlfahfoffdbpfaaEvalT
import Derived.Test.YtlfahfoffdbpfaaGoes2
namespace Go.Proofs.Ytlfahfoffdbpfaa
open Go.ChangeShapes Go.WideShapes Go.ChangeAt Go.RowKit
set_option linter.unusedVariables false
set_option linter.unusedSimpArgs false

/-- whether a worth is TRUE -/
def trueV (r : Val × Int) : Bool × Int := if r.2 ≠ 0 then (false, r.2) else if goes2 r.1.k 1 = false then (false, 40) else (r.1.n == 1, 0)
theorem re_hd {w : World} {B : Nat} {A : Option Addr} {y : Ex} {ys : List Ex} (h : RE w B A (y :: ys)) : ∃ b off, A = some ⟨b, off, none⟩ ∧ b < B ∧ ExAt w b off y := by
  rcases h with h | ⟨b, off, h1, h2, h3⟩
  · cases h
  · refine ⟨b, off, h1, h2, ?_⟩
    have := h3 0 y rfl
    simpa using this
set_option maxHeartbeats 2000000 in
set_option maxRecDepth 100000 in
theorem true_any (A : Option Addr) (n c : Nat) (hn : 0 < n) (hn2 : n ≤ 1599289640356) (y : Ex) (ys : List Ex) (cV rV : Value) (r : Val × Int) (w : World) (hA : RE w w.heap.size A (y :: ys)) (hE : EvalIs w cV rV y r.1 r.2) :
    Calls Try.prog 23 #[.slice A n c, cV, rV] w fun e w' => e = .returned (.tuple #[.bool (trueV r).1, .int .i64 (trueV r).2]) ∧ Below w.heap.size w w' := by
  obtain ⟨b, off, rfl, hb, hex⟩ := re_hd hA
  have HE := Lib.hid hE
  clear hA hE
  have t0 : (n == 0) = false := by simp; omega
  have t0' : ((n : Int) == 0) = false := by simp; omega
  unfold ExAt at hex
  go_enter Try.func23, Try.ntmps23
  go_wp2_with fail
  refine (HE.out w (Below.refl _ _)).mono ?_
  rintro e w1 ⟨rfl, b1⟩
  clear hex t0 t0' HE
  obtain ⟨v, f⟩ := r
  unfold ansV
  dsimp only
  have hv := Blk.new w1 23 #[.int .u8 v.k, .int .i64 v.n, .string v.s]
  have hB := Later.then b1 (later_new w1 (.cells #[.int .u8 v.k, .int .i64 v.n, .string v.s] 23))
  clear b1
  have cv := val_cells hv
  by_cases hf : f = 0
  · subst hf
    go_wp2_with fail
    have hg := Blk.new (w1.alloc (.cells #[.int .u8 v.k, .int .i64 v.n, .string v.s] 23)) 5 #[.int .u8 v.k, .int .u8 1]
    have bb := later_new (w1.alloc (.cells #[.int .u8 v.k, .int .i64 v.n, .string v.s] 23)) (.cells #[.int .u8 v.k, .int .u8 1] 5)
    rw [World.size_alloc] at hg
    have g0 := hg.cell 0
    have g1 := hg.cell 1
    have glt := hg.lt
    simp only [List.getElem?_toArray, List.getElem?_cons_zero, List.getElem?_cons_succ] at g0 g1
    refine (goes_any (w1.heap.size + 1) 0 2 v.k 1 _ glt g0 g1).mono ?_
    rintro e w2 ⟨rfl, b2⟩
    replace hB := Later.then (Later.then hB bb) b2
    replace hv := (hv.later bb).later b2
    clear bb b2 g0 g1 glt hg cv
    have cv := val_cells hv
    cases hgo : goes2 v.k 1
    · have HQ := Lib.hid (show trueV (v, 0) = (false, 40) by unfold trueV; rw [if_neg (by simp), if_pos hgo])
      go_wp2_with fail
      exact bodyPost_ret (v := .tuple #[.bool false, .int .i64 40]) (by simp [results, Try.results23, go_sem]) rfl ⟨by rw [HQ.out], hB⟩
    · have HQ := Lib.hid (show trueV (v, 0) = (v.n == 1, 0) by unfold trueV; rw [if_neg (by simp), if_neg (by rw [hgo]; simp)])
      go_wp2_with fail
      exact bodyPost_ret (v := .tuple #[.bool (v.n == 1), .int .i64 0]) (by simp [results, Try.results23, go_sem]) rfl ⟨by rw [HQ.out], hB⟩
  · have t1 : (f != 0) = true := by simpa using hf
    have HQ := Lib.hid (show trueV (v, f) = (false, f) by unfold trueV; rw [if_pos hf])
    clear hf
    go_wp2_with fail
    exact bodyPost_ret (v := .tuple #[.bool false, .int .i64 f]) (by simp [results, Try.results23, go_sem]) rfl ⟨by rw [HQ.out], hB⟩
set_option maxHeartbeats 1000000 in
theorem true_nil (A : Option Addr) (c : Nat) (cV rV : Value) (w : World) : Calls Try.prog 23 #[.slice A 0 c, cV, rV] w fun e w' => e = .returned (.tuple #[.bool true, .int .i64 0]) ∧ w = w' := by
  go_enter Try.func23, Try.ntmps23
  go_wp2_with fail
  exact bodyPost_ret (v := .tuple #[.bool true, .int .i64 0]) (by simp [results, Try.results23, go_sem]) rfl ⟨rfl, rfl⟩
end Go.Proofs.Ytlfahfoffdbpfaa
