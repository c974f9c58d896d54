/- cmp.Compare at bytes, whole numbers and strings; cmp.Or; value.Compare: what they answer. -/
import Derived.Test.YtekedkbjnedhgaaDoorRows
import Derived.Test.YtekedkbjnedhgaaDoorTail
import Derived.Handy
import Derived.WalkLawsBesides
import Derived.Outline
import Derived.Lib.Hide
namespace Go.Proofs.YtekedkbjnedhgaaDoor
open Go.ChangeShapes Go.WideShapes Go.ChangeAt Go.RowKit
set_option linter.unusedVariables false

/-- which of two numbers is ahead -/
def cmpI (a b : Int) : Int := if a < b then -1 else if b < a then 1 else 0

set_option maxHeartbeats 1000000 in
theorem cmp_u8 (a b : Int) (w : World) : Calls Tryd.prog 26 #[.int .u8 a, .int .u8 b] w fun e w' => e = .returned (.int .i64 (cmpI a b)) ∧ w = w' := by
  unfold cmpI
  by_cases h1 : a < b
  · go_enter Tryd.func26, Tryd.ntmps26
    go_wp2
    go_ret
    exact ⟨rfl, rfl⟩
  · by_cases h2 : b < a
    · go_enter Tryd.func26, Tryd.ntmps26
      go_wp2
      go_ret
      exact ⟨rfl, rfl⟩
    · go_enter Tryd.func26, Tryd.ntmps26
      go_wp2
      go_ret
      exact ⟨rfl, rfl⟩

set_option maxHeartbeats 1000000 in
theorem cmp_i64 (a b : Int) (w : World) : Calls Tryd.prog 27 #[.int .i64 a, .int .i64 b] w fun e w' => e = .returned (.int .i64 (cmpI a b)) ∧ w = w' := by
  unfold cmpI
  by_cases h1 : a < b
  · go_enter Tryd.func27, Tryd.ntmps27
    go_wp2
    go_ret
    exact ⟨rfl, rfl⟩
  · by_cases h2 : b < a
    · go_enter Tryd.func27, Tryd.ntmps27
      go_wp2
      go_ret
      exact ⟨rfl, rfl⟩
    · go_enter Tryd.func27, Tryd.ntmps27
      go_wp2
      go_ret
      exact ⟨rfl, rfl⟩

/-- which of two texts is ahead -/
def cmpS (a b : ByteArray) : Int := if Op.bytesLess a.toList b.toList = true then -1 else if (a.toList == b.toList) = true then 0 else 1

set_option maxHeartbeats 1000000 in
theorem cmp_str (a b : ByteArray) (w : World) : Calls Tryd.prog 28 #[.string a, .string b] w fun e w' => e = .returned (.int .i64 (cmpS a b)) ∧ w = w' := by
  unfold cmpS
  cases h1 : Op.bytesLess a.toList b.toList
  · cases h2 : (a.toList == b.toList)
    · go_enter Tryd.func28, Tryd.ntmps28
      go_wp2
      go_ret
      exact ⟨rfl, rfl⟩
    · go_enter Tryd.func28, Tryd.ntmps28
      go_wp2
      go_ret
      exact ⟨rfl, rfl⟩
  · go_enter Tryd.func28, Tryd.ntmps28
    go_wp2
    go_ret
    exact ⟨rfl, rfl⟩

/-- the first that is not 0 -/
def or3 (x y z : Int) : Int := if x = 0 then (if y = 0 then z else y) else x
def or2 (x y : Int) : Int := if x = 0 then y else x

set_option maxHeartbeats 1000000 in
theorem or_three (x y z : Int) (w : World) : Calls Tryd.prog 25 #[.slice (some ⟨w.heap.size, 0, none⟩) 3 3] (w.alloc (.cells #[.int .i64 x, .int .i64 y, .int .i64 z] 3)) fun e w' =>
    e = .returned (.int .i64 (or3 x y z)) ∧ w' = w.alloc (.cells #[.int .i64 x, .int .i64 y, .int .i64 z] 3) := by
  unfold or3
  have q1 : ∀ u : Int, u ≠ 0 → ((u != 0) = true) := fun u h => by simp [h]
  by_cases h1 : x = 0
  · subst h1
    by_cases h2 : y = 0
    · subst h2
      by_cases h3 : z = 0
      · subst h3
        go_enter Tryd.func25, Tryd.ntmps25
        go_wp2
        refine wp_loop_rounds 4 ?_
        iterate 4 (rw [rounds_succ]; go_wp2)
        go_ret
        exact ⟨rfl, rfl⟩
      · have := q1 z h3
        go_enter Tryd.func25, Tryd.ntmps25
        go_wp2
        refine wp_loop_rounds 4 ?_
        iterate 3 (rw [rounds_succ]; go_wp2)
        go_ret
        exact ⟨rfl, rfl⟩
    · have := q1 y h2
      go_enter Tryd.func25, Tryd.ntmps25
      go_wp2
      refine wp_loop_rounds 4 ?_
      iterate 2 (rw [rounds_succ]; go_wp2)
      go_ret
      exact ⟨rfl, rfl⟩
  · have := q1 x h1
    go_enter Tryd.func25, Tryd.ntmps25
    go_wp2
    refine wp_loop_rounds 4 ?_
    rw [rounds_succ]
    go_wp2
    go_ret
    exact ⟨rfl, rfl⟩

/-- a value -/
structure Val where
  k : Int
  n : Int
  s : ByteArray

def Val.cells (x : Val) : Array Value := #[.int .u8 x.k, .int .i64 x.n, .string x.s]
def vcmp (a b : Val) : Int := or3 (cmpI a.k b.k) (cmpI a.n b.n) (cmpS a.s b.s)

set_option maxHeartbeats 1000000 in
theorem compare_any (a b : Val) (w : World) : Calls Tryd.prog 11 #[.agg #[.int .u8 a.k, .int .i64 a.n, .string a.s], .agg #[.int .u8 b.k, .int .i64 b.n, .string b.s]] w fun e w' =>
    e = .returned (.int .i64 (vcmp a b)) ∧ Below w.heap.size w w' := by
  obtain ⟨ak, an, ax⟩ := a
  obtain ⟨bk, bn, bx⟩ := b
  go_enter Tryd.func11, Tryd.ntmps11
  go_wp2_with fail
  have hc : ∀ (x : Ext (w.heap.size + 2) ((w.alloc (.cells #[.int .u8 ak, .int .i64 an, .string ax] 23)).alloc (.cells #[.int .u8 bk, .int .i64 bn, .string bx] 23))) (i : Nat), x.w.cell? ⟨w.heap.size, i, none⟩ = #[Value.int .u8 ak, .int .i64 an, .string ax][i]? ∧ x.w.cell? ⟨w.heap.size + 1, i, none⟩ = #[Value.int .u8 bk, .int .i64 bn, .string bx][i]? := by
    intro x i
    refine ⟨?_, ?_⟩
    · rw [x.cell (by simp)]; simp
    · rw [x.cell (by simp)]; simp
  have c0 := fun x => (hc x 0).1
  have c1 := fun x => (hc x 1).1
  have c2 := fun x => (hc x 2).1
  have d0 := fun x => (hc x 0).2
  have d1 := fun x => (hc x 1).2
  have d2 := fun x => (hc x 2).2
  clear hc
  simp at c0 c1 c2 d0 d1 d2
  refine region_cut 15 (w.heap.size + 2) _ (Below.refl _ _) (by kernel_rfl) (by kernel_rfl) (by kernel_rfl) (by kernel_rfl) ?_
  simp only [List.take_succ_cons, List.take_zero, List.drop_succ_cons, List.drop_zero]
  repeat (go_big_quiet_step (first
    | (go_at_call 26; exact calls_ext_same (cmp_u8 _ _ _))
    | (go_at_call 27; exact calls_ext_same (cmp_i64 _ _ _))
    | (go_at_call 28; exact calls_ext_same (cmp_str _ _ _))))
  refine wpQuiet_nil ?_
  rintro W ⟨x, hx⟩
  have hW := x.h
  rw [← hx] at hW
  clear c0 c1 c2 d0 d1 d2 hx x
  go_wp2_with fail
  refine (or_three _ _ _ _).mono ?_
  rintro e w' ⟨rfl, rfl⟩
  go_wp2_with fail
  go_ret
  have hB : Below w.heap.size w W := (((Below.refl _ _).alloc (Nat.le_refl _) _).alloc (by simp) _).trans (hW.mono (by simp))
  exact ⟨rfl, hB.alloc hB.size _⟩
end Go.Proofs.YtekedkbjnedhgaaDoor
