/- (expr.operation).suits on one kind and on two; slices.Contains of kinds. Printed by gen_suits.py. -/
import Derived.Test.YtlfahfoffdbpfaaGoes2
namespace Go.Proofs.Ytlfahfoffdbpfaa
open Go.ChangeShapes Go.WideShapes Go.ChangeAt Go.RowKit
set_option linter.unusedVariables false
set_option linter.unusedSimpArgs false

set_option maxHeartbeats 2000000 in
set_option maxRecDepth 100000 in
theorem suits_one (a wa gi : Int) (nu : Bool) (d : Value) (hd : d.oneCell' = true) (p off c : Nat) (k : Int) (w : World) (hp : p < w.heap.size) (h0 : w.cell? ⟨p, off, none⟩ = some (.int .u8 k)) :
    Calls Try.prog 34 #[.agg #[.int .i64 a, .int .u8 wa, .int .u8 gi, .bool false, .bool nu, d], .slice (some ⟨p, off, none⟩) 1 c] w fun e w' => e = .returned (.bool (goes2 k wa)) ∧ Below w.heap.size w w' := by
  have hB := later_new w (.cells #[.int .i64 a, .int .u8 wa, .int .u8 gi, .bool false, .bool nu, d] 60)
  have hO := Blk.new w 60 #[.int .i64 a, .int .u8 wa, .int .u8 gi, .bool false, .bool nu, d]
  have x1 := hO.cell 1
  have x3 := hO.cell 3
  simp only [List.getElem?_toArray, List.getElem?_cons_zero, List.getElem?_cons_succ] at x1 x3
  have c0 := (hB.cell (p := ⟨p, off, none⟩) hp).trans h0
  go_enter Try.func34, Try.ntmps34
  go_wp2_with fail
  generalize w.alloc (.cells #[.int .i64 a, .int .u8 wa, .int .u8 gi, .bool false, .bool nu, d] 60) = W at *
  refine wp_loop_rounds 2 ?_
  rw [rounds_succ]
  go_wp2_with fail
  have gN := Blk.new W 5 #[.int .u8 k, .int .u8 wa]
  have bN := later_new W (.cells #[.int .u8 k, .int .u8 wa] 5)
  refine (goes_any W.heap.size 0 2 k wa _ (by simp) (gN.cell 0) (gN.cell 1)).mono ?_
  rintro e W2 ⟨rfl, b2⟩
  have hW2 := Later.then bN b2
  replace hB := Later.then hB hW2
  replace hO := hO.later hW2
  clear x1 x3 c0 gN bN b2 hW2
  cases hg1 : goes2 k wa
  · go_wp2_with fail
    go_ret
    exact ⟨by rw [hg1]; rfl, hB⟩
  have x1 := hO.cell 1
  have x3 := hO.cell 3
  simp only [List.getElem?_toArray, List.getElem?_cons_zero, List.getElem?_cons_succ] at x1 x3
  have c0 := (hB.cell (p := ⟨p, off, none⟩) hp).trans h0
  go_wp2_with fail
  rw [rounds_succ]
  go_wp2_with fail
  go_ret
  exact ⟨by rw [hg1]; rfl, hB⟩

set_option maxHeartbeats 2000000 in
set_option maxRecDepth 100000 in
theorem suits_two (a wa gi : Int) (al nu : Bool) (d : Value) (hd : d.oneCell' = true) (p off c : Nat) (k j : Int) (w : World) (hp : p < w.heap.size) (h0 : w.cell? ⟨p, off, none⟩ = some (.int .u8 k)) (h1 : w.cell? ⟨p, off + 1, none⟩ = some (.int .u8 j)) :
    Calls Try.prog 34 #[.agg #[.int .i64 a, .int .u8 wa, .int .u8 gi, .bool al, .bool nu, d], .slice (some ⟨p, off, none⟩) 2 c] w fun e w' => e = .returned (.bool (goes2 k wa && (goes2 j wa && (!al || goes2 k j)))) ∧ Below w.heap.size w w' := by
  have hB := later_new w (.cells #[.int .i64 a, .int .u8 wa, .int .u8 gi, .bool al, .bool nu, d] 60)
  have hO := Blk.new w 60 #[.int .i64 a, .int .u8 wa, .int .u8 gi, .bool al, .bool nu, d]
  have x1 := hO.cell 1
  have x3 := hO.cell 3
  simp only [List.getElem?_toArray, List.getElem?_cons_zero, List.getElem?_cons_succ] at x1 x3
  have c0 := (hB.cell (p := ⟨p, off, none⟩) hp).trans h0
  have c1 := (hB.cell (p := ⟨p, off + 1, none⟩) hp).trans h1
  go_enter Try.func34, Try.ntmps34
  go_wp2_with fail
  generalize w.alloc (.cells #[.int .i64 a, .int .u8 wa, .int .u8 gi, .bool al, .bool nu, d] 60) = W at *
  refine wp_loop_rounds 3 ?_
  rw [rounds_succ]
  go_wp2_with fail
  have gN := Blk.new W 5 #[.int .u8 k, .int .u8 wa]
  have bN := later_new W (.cells #[.int .u8 k, .int .u8 wa] 5)
  refine (goes_any W.heap.size 0 2 k wa _ (by simp) (gN.cell 0) (gN.cell 1)).mono ?_
  rintro e W2 ⟨rfl, b2⟩
  have hW2 := Later.then bN b2
  replace hB := Later.then hB hW2
  replace hO := hO.later hW2
  clear x1 x3 c0 c1 gN bN b2 hW2
  cases hg1 : goes2 k wa
  · go_wp2_with fail
    go_ret
    exact ⟨by rw [hg1]; rfl, hB⟩
  have x1 := hO.cell 1
  have x3 := hO.cell 3
  simp only [List.getElem?_toArray, List.getElem?_cons_zero, List.getElem?_cons_succ] at x1 x3
  have c0 := (hB.cell (p := ⟨p, off, none⟩) hp).trans h0
  have c1 := (hB.cell (p := ⟨p, off + 1, none⟩) hp).trans h1
  go_wp2_with fail
  rw [rounds_succ]
  go_wp2_with fail
  have gN := Blk.new W2 5 #[.int .u8 j, .int .u8 wa]
  have bN := later_new W2 (.cells #[.int .u8 j, .int .u8 wa] 5)
  refine (goes_any W2.heap.size 0 2 j wa _ (by simp) (gN.cell 0) (gN.cell 1)).mono ?_
  rintro e W3 ⟨rfl, b2⟩
  have hW3 := Later.then bN b2
  replace hB := Later.then hB hW3
  replace hO := hO.later hW3
  clear x1 x3 c0 c1 gN bN b2 hW3
  cases hg2 : goes2 j wa
  · go_wp2_with fail
    go_ret
    exact ⟨by rw [hg1, hg2]; rfl, hB⟩
  have x1 := hO.cell 1
  have x3 := hO.cell 3
  simp only [List.getElem?_toArray, List.getElem?_cons_zero, List.getElem?_cons_succ] at x1 x3
  have c0 := (hB.cell (p := ⟨p, off, none⟩) hp).trans h0
  have c1 := (hB.cell (p := ⟨p, off + 1, none⟩) hp).trans h1
  go_wp2_with fail
  rw [rounds_succ]
  cases al
  · go_wp2_with fail
    go_ret
    exact ⟨by rw [hg1, hg2]; rfl, hB⟩
  · go_wp2_with fail
    refine (goes_any p off c k j _ (Nat.lt_of_lt_of_le hp hB.size) c0 c1).mono ?_
    rintro e w9 ⟨rfl, b9⟩
    go_wp2_with fail
    go_ret
    exact ⟨by rw [hg1, hg2]; rfl, Later.then hB b9⟩

set_option maxHeartbeats 1000000 in
set_option maxRecDepth 100000 in
theorem kindIndex_one (p off c : Nat) (k : Int) (w : World) (h0 : w.cell? ⟨p, off, none⟩ = some (.int .u8 k)) :
    Calls Try.prog 61 #[.slice (some ⟨p, off, none⟩) 1 c, .int .u8 0] w fun e w' => e = .returned (.int .i64 (if k = 0 then 0 else -1)) ∧ w = w' := by
  by_cases hk : k = 0
  · subst hk
    go_enter Try.func61, Try.ntmps61
    go_wp2_with fail
    refine wp_loop_rounds 2 ?_
    rw [rounds_succ]
    go_wp2_with fail
    go_ret
    exact ⟨rfl, rfl⟩
  · have hk2 : ((0 : Int) == k) = false := by rw [beq_eq_false_iff_ne]; omega
    rw [if_neg hk]
    clear hk
    go_enter Try.func61, Try.ntmps61
    go_wp2_with fail
    refine wp_loop_rounds 2 ?_
    rw [rounds_succ]
    go_wp2_with fail
    rw [rounds_succ]
    go_wp2_with fail
    go_ret
    exact ⟨rfl, rfl⟩
set_option maxHeartbeats 1000000 in
set_option maxRecDepth 100000 in
theorem kindIndex_two (p off c : Nat) (k j : Int) (w : World) (h0 : w.cell? ⟨p, off, none⟩ = some (.int .u8 k)) (h1 : w.cell? ⟨p, off + 1, none⟩ = some (.int .u8 j)) :
    Calls Try.prog 61 #[.slice (some ⟨p, off, none⟩) 2 c, .int .u8 0] w fun e w' => e = .returned (.int .i64 (if k = 0 then 0 else if j = 0 then 1 else -1)) ∧ w = w' := by
  by_cases hk : k = 0
  · subst hk
    go_enter Try.func61, Try.ntmps61
    go_wp2_with fail
    refine wp_loop_rounds 3 ?_
    rw [rounds_succ]
    go_wp2_with fail
    go_ret
    exact ⟨rfl, rfl⟩
  · have hk2 : ((0 : Int) == k) = false := by rw [beq_eq_false_iff_ne]; omega
    rw [if_neg hk]
    clear hk
    by_cases hj : j = 0
    · subst hj
      go_enter Try.func61, Try.ntmps61
      go_wp2_with fail
      refine wp_loop_rounds 3 ?_
      rw [rounds_succ]
      go_wp2_with fail
      rw [rounds_succ]
      go_wp2_with fail
      go_ret
      exact ⟨rfl, rfl⟩
    · have hj2 : ((0 : Int) == j) = false := by rw [beq_eq_false_iff_ne]; omega
      rw [if_neg hj]
      clear hj
      go_enter Try.func61, Try.ntmps61
      go_wp2_with fail
      refine wp_loop_rounds 3 ?_
      rw [rounds_succ]
      go_wp2_with fail
      rw [rounds_succ]
      go_wp2_with fail
      rw [rounds_succ]
      go_wp2_with fail
      go_ret
      exact ⟨rfl, rfl⟩
theorem hasNull_one (p off c : Nat) (k : Int) (w : World) (h0 : w.cell? ⟨p, off, none⟩ = some (.int .u8 k)) :
    Calls Try.prog 35 #[.slice (some ⟨p, off, none⟩) 1 c, .int .u8 0] w fun e w' => e = .returned (.bool (k == 0)) ∧ w = w' := by
  have K := Lib.hid (kindIndex_one p off c k w h0)
  go_enter Try.func35, Try.ntmps35
  go_wp2_with fail
  refine K.out.mono ?_
  rintro e w1 ⟨rfl, rfl⟩
  by_cases hk : k = 0
  · subst hk
    go_wp2_with fail
    go_ret
    exact ⟨rfl, rfl⟩
  · have hk2 : (k == 0) = false := by simpa using hk
    rw [if_neg hk]
    go_wp2_with fail
    go_ret
    exact ⟨by rw [hk2]; rfl, rfl⟩
theorem hasNull_two (p off c : Nat) (k j : Int) (w : World) (h0 : w.cell? ⟨p, off, none⟩ = some (.int .u8 k)) (h1 : w.cell? ⟨p, off + 1, none⟩ = some (.int .u8 j)) :
    Calls Try.prog 35 #[.slice (some ⟨p, off, none⟩) 2 c, .int .u8 0] w fun e w' => e = .returned (.bool (k == 0 || j == 0)) ∧ w = w' := by
  have K := Lib.hid (kindIndex_two p off c k j w h0 h1)
  go_enter Try.func35, Try.ntmps35
  go_wp2_with fail
  refine K.out.mono ?_
  rintro e w1 ⟨rfl, rfl⟩
  by_cases hk : k = 0
  · subst hk
    go_wp2_with fail
    go_ret
    exact ⟨rfl, rfl⟩
  · have hk2 : (k == 0) = false := by simpa using hk
    rw [if_neg hk]
    by_cases hj : j = 0
    · subst hj
      go_wp2_with fail
      go_ret
      exact ⟨by rw [hk2]; rfl, rfl⟩
    · have hj2 : (j == 0) = false := by simpa using hj
      rw [if_neg hj]
      go_wp2_with fail
      go_ret
      exact ⟨by rw [hk2, hj2]; rfl, rfl⟩
end Go.Proofs.Ytlfahfoffdbpfaa
