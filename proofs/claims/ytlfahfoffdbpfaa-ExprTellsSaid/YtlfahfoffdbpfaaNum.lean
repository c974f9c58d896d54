/- ExprNumbers: what numbers answer, plain; and the law's float. -/
import Derived.Test.YtlfahfoffdbpfaaLits
namespace Go.Proofs.Ytlfahfoffdbpfaa
open Go.ChangeShapes Go.WideShapes Go.ChangeAt Go.RowKit
set_option linter.unusedVariables false
set_option linter.unusedSimpArgs false

abbrev In6 (n : Int) : Prop := -9223372036854775808 ≤ n ∧ n ≤ 9223372036854775807
theorem w6 {n : Int} (h : In6 n) : wrap64 n = n := by unfold In6 at h; unfold wrap64; omega
theorem w6_in (n : Int) : In6 (wrap64 n) := by unfold In6 wrap64; omega
theorem w6_far (n : Int) : ∃ k : Int, wrap64 n = n + k * 18446744073709551616 := ⟨-((n + 9223372036854775808) / 18446744073709551616), by unfold wrap64; omega⟩
theorem add_is {a b : Int} (ha : In6 a) (hb : In6 b) : addT a b = numIf (wrap64 (a + b)) (decide (In6 (a + b))) := by
  unfold addT
  congr 1
  unfold In6 wrap64 at *
  rw [Bool.eq_iff_iff]
  simp only [beq_iff_eq, decide_eq_decide, decide_eq_true_eq]
  constructor
  · intro h; omega
  · intro h; omega
theorem add_comm' {a b : Int} (ha : In6 a) (hb : In6 b) : addT a b = addT b a := by rw [add_is ha hb, add_is hb ha, Int.add_comm]
theorem mul_is {a b : Int} (ha : In6 a) (hb : In6 b) : mulT a b = numIf (wrap64 (a * b)) (decide (In6 (a * b))) := by
  unfold mulT
  congr 1
  rw [Bool.eq_iff_iff]
  simp only [Bool.or_eq_true, Bool.and_eq_true, beq_iff_eq, bne_iff_ne, decide_eq_true_eq]
  by_cases h0 : a = 0
  · subst h0; simp [In6]
  constructor
  · intro h
    rcases h with h | ⟨h1, h2⟩
    · exact absurd h h0
    obtain ⟨k, hk⟩ := w6_far (a * b)
    have hin := w6_in (a * b)
    generalize wrap64 (a * b) = c at *
    by_cases hq : In6 (Int.tdiv c a)
    · rw [w6 hq] at h1
      have e := Int.tmod_add_mul_tdiv c a
      rw [h1] at e
      have hr : (Int.tmod c a).natAbs < a.natAbs := by
        rw [Int.natAbs_tmod]; exact Nat.mod_lt _ (by omega)
      unfold In6 at *
      have : k = 0 := by omega
      subst this
      omega
    · have hb2 : (Int.tdiv c a).natAbs ≤ c.natAbs := by rw [Int.natAbs_tdiv]; exact Nat.div_le_self _ _
      have ha1 : a = -1 := by
        rcases Int.lt_trichotomy a (-1) with h | h | h
        · exfalso
          have : (Int.tdiv c a).natAbs ≤ c.natAbs / 2 := by
            rw [Int.natAbs_tdiv]; exact Nat.div_le_div_left (by omega) (by omega)
          unfold In6 at *; omega
        · exact h
        · exfalso
          rcases Int.lt_trichotomy a 1 with h' | h' | h'
          · omega
          · subst h'; apply hq; simpa using hin
          · have : (Int.tdiv c a).natAbs ≤ c.natAbs / 2 := by
              rw [Int.natAbs_tdiv]; exact Nat.div_le_div_left (by omega) (by omega)
            unfold In6 at *; omega
      subst ha1
      simp at h2
      unfold In6 at *; omega
  · intro h
    right
    rw [w6 h, Int.mul_tdiv_cancel_left _ h0, w6 hb]
    refine ⟨rfl, ?_⟩
    by_cases h1 : a = -1
    · right; subst h1; unfold In6 at h; omega
    · left; exact h1
theorem mul_comm' {a b : Int} (ha : In6 a) (hb : In6 b) : mulT a b = mulT b a := by rw [mul_is ha hb, mul_is hb ha, Int.mul_comm]
theorem sub_back {a b : Int} (ha : In6 a) (hb : In6 b) (h : In6 (a + b)) : subT (a + b) b = (num a, 0) := by
  unfold subT
  rw [Int.add_sub_cancel, w6 ha]
  unfold numIf
  rw [if_pos]
  simp only [beq_iff_eq, decide_eq_decide]
  omega
theorem float_is {a b : Int} (ha : In6 a) (hb : In6 b) : (floatV a b == 0) = decide (In6 (a + b)) := by
  unfold floatV In6 wrap64 at *
  rw [Bool.eq_iff_iff]
  simp only [beq_iff_eq, decide_eq_true_eq]
  split
  · constructor
    · intro h; omega
    · intro h; omega
  · split
    · constructor
      · intro h; omega
      · intro h; omega
    · constructor
      · intro h; omega
      · intro h; rfl
theorem div_ok {a b : Int} (ha : In6 a) (hb : b ≠ 0) (h : b ≠ -1 ∨ a ≠ -9223372036854775808) : divZ a b = (num (Int.tdiv a b), 0) ∧ In6 (Int.tdiv a b) := by
  have hin : In6 (Int.tdiv a b) := by
    have hb2 : (Int.tdiv a b).natAbs ≤ a.natAbs := by rw [Int.natAbs_tdiv]; exact Nat.div_le_self _ _
    rcases Int.lt_trichotomy b (-1) with h' | h' | h'
    · have : (Int.tdiv a b).natAbs ≤ a.natAbs / 2 := by
        rw [Int.natAbs_tdiv]; exact Nat.div_le_div_left (by omega) (by omega)
      unfold In6 at *; omega
    · unfold In6 at *; omega
    · rcases Int.lt_trichotomy b 1 with h'' | h'' | h''
      · omega
      · subst h''; simpa using ha
      · have : (Int.tdiv a b).natAbs ≤ a.natAbs / 2 := by
          rw [Int.natAbs_tdiv]; exact Nat.div_le_div_left (by omega) (by omega)
        unfold In6 at *; omega
  refine ⟨?_, hin⟩
  unfold divZ divT numIf
  rw [if_neg hb, if_pos (by simp; omega), w6 hin]
theorem div_no {a b : Int} (h : b = 0 ∨ b = -1 ∧ a = -9223372036854775808) : ∃ e, divZ a b = (zeroVal, e) ∧ e ≠ 0 := by
  rcases h with h | ⟨h, h'⟩
  · exact ⟨44, by unfold divZ; rw [if_pos h], by decide⟩
  · subst h h'; exact ⟨43, by unfold divZ divT; rw [if_neg (by decide)]; unfold numIf; rw [if_neg (by decide)], by decide⟩
theorem mod_ok {a b : Int} (hb : b ≠ 0) : modZ a b = (num (Int.tmod a b), 0) := by unfold modZ modT numIf; rw [if_neg hb, if_pos rfl]
theorem mod_no {a b : Int} (hb : b = 0) : modZ a b = (zeroVal, 44) := by unfold modZ; rw [if_pos hb]
theorem rest_lt {a b : Int} (hb : b ≠ 0) : (Int.tmod a b).natAbs < b.natAbs := by rw [Int.natAbs_tmod]; exact Nat.mod_lt _ (by omega)
/-- the quotient taken times, and the rest -/
theorem makes_up {a b : Int} (ha : In6 a) : wrap64 (wrap64 (Int.tdiv a b * b) + Int.tmod a b) = a := by
  have e := Int.tmod_add_mul_tdiv a b
  rw [Int.mul_comm] at e
  have : ∀ x y, wrap64 (wrap64 x + y) = wrap64 (x + y) := by intro x y; unfold wrap64; omega
  rw [this, Int.add_comm, e, w6 ha]
theorem in_of_abs {x y : Int} (h : y.natAbs ≤ x.natAbs) (hx : In6 x) (hs : 0 ≤ y ∨ x < 0 ∨ y.natAbs < x.natAbs ∨ True) (h2 : y ≠ 9223372036854775808) : In6 y := by unfold In6 at *; omega

set_option maxHeartbeats 1000000 in
theorem float_any (a b : Int) (w : World) : Calls Try.prog 13 #[.int .i64 a, .int .i64 b] w fun e w' => e = .returned (.int .i64 (floatV a b)) ∧ Below w.heap.size w w' := by
  generalize hv : floatV a b = v
  have HV := Lib.hid hv
  clear hv
  by_cases h1 : 0 < a
  · have t1 := decide_eq_true h1
    have t1' : decide (a < 0) = false := decide_eq_false (by omega)
    by_cases h2 : 0 < b
    · have t2 := decide_eq_true h2
      by_cases h3 : wrap64 (a + b) < 0
      · have t3 := decide_eq_true h3
        go_enter Try.func13, Try.ntmps13
        go_wp2
        go_ret
        refine ⟨?_, by go_grown⟩
        rw [← HV.out]
        unfold floatV
        rw [if_pos (by omega)]
        rfl
      · have t3 := decide_eq_false h3
        go_enter Try.func13, Try.ntmps13
        go_wp2
        go_ret
        refine ⟨?_, by go_grown⟩
        rw [← HV.out]
        unfold floatV
        rw [if_neg (by omega), if_neg (by omega)]
        rfl
    · have t2 := decide_eq_false h2
      go_enter Try.func13, Try.ntmps13
      go_wp2
      go_ret
      refine ⟨?_, by go_grown⟩
      rw [← HV.out]
      unfold floatV
      rw [if_neg (by omega), if_neg (by omega)]
      rfl
  · have t1 := decide_eq_false h1
    by_cases h4 : a < 0
    · have t4 := decide_eq_true h4
      by_cases h5 : b < 0
      · have t5 := decide_eq_true h5
        by_cases h6 : 0 ≤ wrap64 (a + b)
        · have t6 := decide_eq_true h6
          go_enter Try.func13, Try.ntmps13
          go_wp2
          go_ret
          refine ⟨?_, by go_grown⟩
          rw [← HV.out]
          unfold floatV
          rw [if_neg (by omega), if_pos (by omega)]
          rfl
        · have t6 := decide_eq_false h6
          go_enter Try.func13, Try.ntmps13
          go_wp2
          go_ret
          refine ⟨?_, by go_grown⟩
          rw [← HV.out]
          unfold floatV
          rw [if_neg (by omega), if_neg (by omega)]
          rfl
      · have t5 := decide_eq_false h5
        go_enter Try.func13, Try.ntmps13
        go_wp2
        go_ret
        refine ⟨?_, by go_grown⟩
        rw [← HV.out]
        unfold floatV
        rw [if_neg (by omega), if_neg (by omega)]
        rfl
    · have t4 := decide_eq_false h4
      go_enter Try.func13, Try.ntmps13
      go_wp2
      go_ret
      refine ⟨?_, by go_grown⟩
      rw [← HV.out]
      unfold floatV
      rw [if_neg (by omega), if_neg (by omega)]
      rfl
end Go.Proofs.Ytlfahfoffdbpfaa
