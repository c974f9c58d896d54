/- tidelineref15.reckon: the document's numbers are those of the operations. Printed by gen_reck.py. -/
import Derived.Test.YtlfahfoffdbpfaaRef1
import Derived.Test.YtlfahfoffdbpfaaNum
namespace Go.Proofs.Ytlfahfoffdbpfaa
open Go.ChangeShapes Go.WideShapes Go.ChangeAt Go.RowKit
set_option linter.unusedVariables false
set_option linter.unusedSimpArgs false

/-- the call's two answers say r -/
def Reck (op width a b : Int) (r : Val × Int) : Prop := ∃ n er : Int, (er = 0 → r = (num n, 0)) ∧ (er ≠ 0 → r = (zeroVal, er)) ∧ ∀ w, Calls Try.prog 55 #[.int .u8 op, .int .i64 width, .int .i64 a, .int .i64 b] w fun e w' => e = .returned (.tuple #[.int .i64 n, .int .i64 er]) ∧ w = w'
theorem sub_is {a b : Int} (ha : In6 a) (hb : In6 b) : subT a b = numIf (wrap64 (a - b)) (decide (In6 (a - b))) := by
  unfold subT
  congr 1
  unfold In6 wrap64 at *
  rw [Bool.eq_iff_iff]
  simp only [beq_iff_eq, decide_eq_decide, decide_eq_true_eq]
  constructor
  · intro h; omega
  · intro h; omega
theorem numIf_no {n : Int} {c : Bool} (h : c = false) : numIf n c = (zeroVal, 43) := by subst h; rfl
theorem numIf_yes {n m : Int} {c : Bool} (h : c = true) (e : n = m) : numIf n c = (num m, 0) := by subst h e; rfl
theorem mul_quo {a b : Int} (ha : In6 a) (hb : In6 b) (h0 : a ≠ 0) (h1 : a ≠ -1) : (wrap64 (Int.tdiv (wrap64 (a * b)) a) == b) = decide (In6 (a * b)) := by
  have h := mul_is ha hb
  unfold mulT at h
  have e1 : (a == 0) = false := by simpa using h0
  have e2 : (a != -1) = true := by simpa using h1
  rw [e1, e2] at h
  simp only [Bool.false_or, Bool.true_or, Bool.and_true] at h
  have := congrArg (fun r : Val × Int => r.2 == 0) h
  have k : ∀ (n : Int) (c : Bool), ((numIf n c).2 == 0) = c := fun n c => by cases c <;> simp [numIf]
  rw [k, k] at this
  exact this
set_option maxHeartbeats 2000000 in
set_option maxRecDepth 100000 in
theorem reck_neg (width a b : Int) (ha : In6 a) (hb : In6 b) : Reck 3 width a b (negT a) := by
  have ha1 := ha.1
  have ha2 := ha.2
  have hb1 := hb.1
  have hb2 := hb.2
  by_cases h1 : a = -9223372036854775808
  · have t1 : (a == -9223372036854775808) = true := by simp; omega
    refine ⟨wrap64 (-a), 43, fun h => ?_, fun h => ?_, fun w => ?_⟩
    · exact absurd h (by decide)
    · unfold negT; exact numIf_no (by simp; omega)
    · clear h1
      go_enter Try.func55, Try.ntmps55
      go_wp2_with (go_at_call 94; refine (wrong_any _ _).mono ?_; rintro e w' ⟨rfl, rfl⟩)
      exact bodyPost_ret (v := .tuple #[.int .i64 (wrap64 (-a)), .int .i64 (43)]) (by simp [results, Try.results55, go_sem]) rfl ⟨rfl, rfl⟩
  · have t1 : (a == -9223372036854775808) = false := by simp; omega
    have hx : -9223372036854775807 ≤ a := by omega
    refine ⟨-a, 0, fun h => ?_, fun h => ?_, fun w => ?_⟩
    · unfold negT; exact numIf_yes (by simp; omega) (w6 (by unfold In6 at *; omega))
    · exact absurd rfl h
    · clear h1
      go_enter Try.func55, Try.ntmps55
      go_wp2_with (go_at_call 94; refine (wrong_any _ _).mono ?_; rintro e w' ⟨rfl, rfl⟩)
      exact bodyPost_ret (v := .tuple #[.int .i64 (-a), .int .i64 (0)]) (by simp [results, Try.results55, go_sem]) rfl ⟨rfl, rfl⟩
set_option maxHeartbeats 2000000 in
set_option maxRecDepth 100000 in
theorem reck_add (width a b : Int) (ha : In6 a) (hb : In6 b) : Reck 5 width a b (addT a b) := by
  have ha1 := ha.1
  have ha2 := ha.2
  have hb1 := hb.1
  have hb2 := hb.2
  by_cases h1 : 0 < b
  · by_cases h2 : 9223372036854775807 - b < a
    · have t1 : decide (0 < b) = true := decide_eq_true (by omega)
      have t2 : decide (9223372036854775807 - b < a) = true := decide_eq_true (by omega)
      refine ⟨wrap64 (a + b), 43, fun h => ?_, fun h => ?_, fun w => ?_⟩
      · exact absurd h (by decide)
      · rw [add_is ha hb]; exact numIf_no (by unfold In6; simp; omega)
      · go_enter Try.func55, Try.ntmps55
        go_wp2_with (go_at_call 94; refine (wrong_any _ _).mono ?_; rintro e w' ⟨rfl, rfl⟩)
        exact bodyPost_ret (v := .tuple #[.int .i64 (wrap64 (a + b)), .int .i64 (43)]) (by simp [results, Try.results55, go_sem]) rfl ⟨rfl, rfl⟩
    · have t1 : decide (0 < b) = true := decide_eq_true (by omega)
      have t2 : decide (9223372036854775807 - b < a) = false := decide_eq_false (by omega)
      have t3 : decide (b < 0) = false := decide_eq_false (by omega)
      have r1 : -9223372036854775808 ≤ a + b := by omega
      have r2 : a + b ≤ 9223372036854775807 := by omega
      refine ⟨a + b, 0, fun h => ?_, fun h => ?_, fun w => ?_⟩
      · rw [add_is ha hb]; exact numIf_yes (by unfold In6; simp; omega) (w6 (by unfold In6; omega))
      · exact absurd rfl h
      · go_enter Try.func55, Try.ntmps55
        go_wp2_with (go_at_call 94; refine (wrong_any _ _).mono ?_; rintro e w' ⟨rfl, rfl⟩)
        exact bodyPost_ret (v := .tuple #[.int .i64 (a + b), .int .i64 (0)]) (by simp [results, Try.results55, go_sem]) rfl ⟨rfl, rfl⟩
  · by_cases h2 : b < 0
    · by_cases h3 : a < -9223372036854775808 - b
      · have t1 : decide (0 < b) = false := decide_eq_false (by omega)
        have t2 : decide (b < 0) = true := decide_eq_true (by omega)
        have t3 : decide (a < -9223372036854775808 - b) = true := decide_eq_true (by omega)
        refine ⟨wrap64 (a + b), 43, fun h => ?_, fun h => ?_, fun w => ?_⟩
        · exact absurd h (by decide)
        · rw [add_is ha hb]; exact numIf_no (by unfold In6; simp; omega)
        · go_enter Try.func55, Try.ntmps55
          go_wp2_with (go_at_call 94; refine (wrong_any _ _).mono ?_; rintro e w' ⟨rfl, rfl⟩)
          exact bodyPost_ret (v := .tuple #[.int .i64 (wrap64 (a + b)), .int .i64 (43)]) (by simp [results, Try.results55, go_sem]) rfl ⟨rfl, rfl⟩
      · have t1 : decide (0 < b) = false := decide_eq_false (by omega)
        have t2 : decide (b < 0) = true := decide_eq_true (by omega)
        have t3 : decide (a < -9223372036854775808 - b) = false := decide_eq_false (by omega)
        have r1 : -9223372036854775808 ≤ a + b := by omega
        have r2 : a + b ≤ 9223372036854775807 := by omega
        refine ⟨a + b, 0, fun h => ?_, fun h => ?_, fun w => ?_⟩
        · rw [add_is ha hb]; exact numIf_yes (by unfold In6; simp; omega) (w6 (by unfold In6; omega))
        · exact absurd rfl h
        · go_enter Try.func55, Try.ntmps55
          go_wp2_with (go_at_call 94; refine (wrong_any _ _).mono ?_; rintro e w' ⟨rfl, rfl⟩)
          exact bodyPost_ret (v := .tuple #[.int .i64 (a + b), .int .i64 (0)]) (by simp [results, Try.results55, go_sem]) rfl ⟨rfl, rfl⟩
    · have t1 : decide (0 < b) = false := decide_eq_false (by omega)
      have t2 : decide (b < 0) = false := decide_eq_false (by omega)
      have r1 : -9223372036854775808 ≤ a + b := by omega
      have r2 : a + b ≤ 9223372036854775807 := by omega
      refine ⟨a + b, 0, fun h => ?_, fun h => ?_, fun w => ?_⟩
      · rw [add_is ha hb]; exact numIf_yes (by unfold In6; simp; omega) (w6 (by unfold In6; omega))
      · exact absurd rfl h
      · go_enter Try.func55, Try.ntmps55
        go_wp2_with (go_at_call 94; refine (wrong_any _ _).mono ?_; rintro e w' ⟨rfl, rfl⟩)
        exact bodyPost_ret (v := .tuple #[.int .i64 (a + b), .int .i64 (0)]) (by simp [results, Try.results55, go_sem]) rfl ⟨rfl, rfl⟩
set_option maxHeartbeats 2000000 in
set_option maxRecDepth 100000 in
theorem reck_sub (width a b : Int) (ha : In6 a) (hb : In6 b) : Reck 6 width a b (subT a b) := by
  have ha1 := ha.1
  have ha2 := ha.2
  have hb1 := hb.1
  have hb2 := hb.2
  by_cases h1 : b < 0
  · by_cases h2 : 9223372036854775807 + b < a
    · have t1 : decide (b < 0) = true := decide_eq_true (by omega)
      have t2 : decide (9223372036854775807 + b < a) = true := decide_eq_true (by omega)
      refine ⟨wrap64 (a - b), 43, fun h => ?_, fun h => ?_, fun w => ?_⟩
      · exact absurd h (by decide)
      · rw [sub_is ha hb]; exact numIf_no (by unfold In6; simp; omega)
      · go_enter Try.func55, Try.ntmps55
        go_wp2_with (go_at_call 94; refine (wrong_any _ _).mono ?_; rintro e w' ⟨rfl, rfl⟩)
        exact bodyPost_ret (v := .tuple #[.int .i64 (wrap64 (a - b)), .int .i64 (43)]) (by simp [results, Try.results55, go_sem]) rfl ⟨rfl, rfl⟩
    · have t1 : decide (b < 0) = true := decide_eq_true (by omega)
      have t2 : decide (9223372036854775807 + b < a) = false := decide_eq_false (by omega)
      have t3 : decide (0 < b) = false := decide_eq_false (by omega)
      have r1 : -9223372036854775808 ≤ a - b := by omega
      have r2 : a - b ≤ 9223372036854775807 := by omega
      refine ⟨a - b, 0, fun h => ?_, fun h => ?_, fun w => ?_⟩
      · rw [sub_is ha hb]; exact numIf_yes (by unfold In6; simp; omega) (w6 (by unfold In6; omega))
      · exact absurd rfl h
      · go_enter Try.func55, Try.ntmps55
        go_wp2_with (go_at_call 94; refine (wrong_any _ _).mono ?_; rintro e w' ⟨rfl, rfl⟩)
        exact bodyPost_ret (v := .tuple #[.int .i64 (a - b), .int .i64 (0)]) (by simp [results, Try.results55, go_sem]) rfl ⟨rfl, rfl⟩
  · by_cases h2 : 0 < b
    · by_cases h3 : a < -9223372036854775808 + b
      · have t1 : decide (b < 0) = false := decide_eq_false (by omega)
        have t2 : decide (0 < b) = true := decide_eq_true (by omega)
        have t3 : decide (a < -9223372036854775808 + b) = true := decide_eq_true (by omega)
        refine ⟨wrap64 (a - b), 43, fun h => ?_, fun h => ?_, fun w => ?_⟩
        · exact absurd h (by decide)
        · rw [sub_is ha hb]; exact numIf_no (by unfold In6; simp; omega)
        · go_enter Try.func55, Try.ntmps55
          go_wp2_with (go_at_call 94; refine (wrong_any _ _).mono ?_; rintro e w' ⟨rfl, rfl⟩)
          exact bodyPost_ret (v := .tuple #[.int .i64 (wrap64 (a - b)), .int .i64 (43)]) (by simp [results, Try.results55, go_sem]) rfl ⟨rfl, rfl⟩
      · have t1 : decide (b < 0) = false := decide_eq_false (by omega)
        have t2 : decide (0 < b) = true := decide_eq_true (by omega)
        have t3 : decide (a < -9223372036854775808 + b) = false := decide_eq_false (by omega)
        have r1 : -9223372036854775808 ≤ a - b := by omega
        have r2 : a - b ≤ 9223372036854775807 := by omega
        refine ⟨a - b, 0, fun h => ?_, fun h => ?_, fun w => ?_⟩
        · rw [sub_is ha hb]; exact numIf_yes (by unfold In6; simp; omega) (w6 (by unfold In6; omega))
        · exact absurd rfl h
        · go_enter Try.func55, Try.ntmps55
          go_wp2_with (go_at_call 94; refine (wrong_any _ _).mono ?_; rintro e w' ⟨rfl, rfl⟩)
          exact bodyPost_ret (v := .tuple #[.int .i64 (a - b), .int .i64 (0)]) (by simp [results, Try.results55, go_sem]) rfl ⟨rfl, rfl⟩
    · have t1 : decide (b < 0) = false := decide_eq_false (by omega)
      have t2 : decide (0 < b) = false := decide_eq_false (by omega)
      have r1 : -9223372036854775808 ≤ a - b := by omega
      have r2 : a - b ≤ 9223372036854775807 := by omega
      refine ⟨a - b, 0, fun h => ?_, fun h => ?_, fun w => ?_⟩
      · rw [sub_is ha hb]; exact numIf_yes (by unfold In6; simp; omega) (w6 (by unfold In6; omega))
      · exact absurd rfl h
      · go_enter Try.func55, Try.ntmps55
        go_wp2_with (go_at_call 94; refine (wrong_any _ _).mono ?_; rintro e w' ⟨rfl, rfl⟩)
        exact bodyPost_ret (v := .tuple #[.int .i64 (a - b), .int .i64 (0)]) (by simp [results, Try.results55, go_sem]) rfl ⟨rfl, rfl⟩
set_option maxHeartbeats 2000000 in
set_option maxRecDepth 100000 in
theorem reck_mul (width a b : Int) (ha : In6 a) (hb : In6 b) : Reck 7 width a b (mulT a b) := by
  have ha1 := ha.1
  have ha2 := ha.2
  have hb1 := hb.1
  have hb2 := hb.2
  by_cases ha0 : a = -1
  · have e1 : a * b = -b := by rw [ha0]; omega
    by_cases hb0 : b = -9223372036854775808
    · have H1 := Lib.hid e1
      have H2 := Lib.hid hb0
      have t1 : (a == -1) = true := by simp; omega
      have t2 : (b == -9223372036854775808) = true := by simp; omega
      clear ha0 hb0 e1
      refine ⟨wrap64 (a * b), 43, fun h => ?_, fun h => ?_, fun w => ?_⟩
      · exact absurd h (by decide)
      · rw [mul_is ha hb]; exact numIf_no (by rw [H1.out]; have := H2.out; unfold In6; simp; omega)
      · go_enter Try.func55, Try.ntmps55
        go_wp2_with (go_at_call 94; refine (wrong_any _ _).mono ?_; rintro e w' ⟨rfl, rfl⟩)
        exact bodyPost_ret (v := .tuple #[.int .i64 (wrap64 (a * b)), .int .i64 (43)]) (by simp [results, Try.results55, go_sem]) rfl ⟨rfl, rfl⟩
    · have H1 := Lib.hid e1
      have H2 := Lib.hid hb0
      by_cases hb1 : b = -1
      · have t1 : (a == -1) = true := by simp; omega
        have t2 : (b == -9223372036854775808) = false := by simp; omega
        have t3 : (a == -9223372036854775808) = false := by simp; omega
        have t4 : (a != 0) = true := by simp; omega
        have t5 : (a != -1) = false := by simp; omega
        have t6 : (b == -1) = true := by simp; omega
        have t7 : (b != -1) = false := by simp; omega
        clear ha0 hb0 hb1 e1
        refine ⟨wrap64 (a * b), 0, fun h => ?_, fun h => ?_, fun w => ?_⟩
        · rw [mul_is ha hb]; exact numIf_yes (by rw [H1.out]; have := H2.out; unfold In6; simp; omega) rfl
        · exact absurd rfl h
        · go_enter Try.func55, Try.ntmps55
          go_wp2_with (go_at_call 94; refine (wrong_any _ _).mono ?_; rintro e w' ⟨rfl, rfl⟩)
          exact bodyPost_ret (v := .tuple #[.int .i64 (wrap64 (a * b)), .int .i64 (0)]) (by simp [results, Try.results55, go_sem]) rfl ⟨rfl, rfl⟩
      · have t1 : (a == -1) = true := by simp; omega
        have t2 : (b == -9223372036854775808) = false := by simp; omega
        have t3 : (a == -9223372036854775808) = false := by simp; omega
        have t4 : (a != 0) = true := by simp; omega
        have t5 : (a != -1) = false := by simp; omega
        have t6 : (b == -1) = false := by simp; omega
        have t7 : (b != -1) = true := by simp; omega
        clear ha0 hb0 hb1 e1
        refine ⟨wrap64 (a * b), 0, fun h => ?_, fun h => ?_, fun w => ?_⟩
        · rw [mul_is ha hb]; exact numIf_yes (by rw [H1.out]; have := H2.out; unfold In6; simp; omega) rfl
        · exact absurd rfl h
        · go_enter Try.func55, Try.ntmps55
          go_wp2_with (go_at_call 94; refine (wrong_any _ _).mono ?_; rintro e w' ⟨rfl, rfl⟩)
          exact bodyPost_ret (v := .tuple #[.int .i64 (wrap64 (a * b)), .int .i64 (0)]) (by simp [results, Try.results55, go_sem]) rfl ⟨rfl, rfl⟩
  · have t1 : (a == -1) = false := by simp; omega
    have t1b : (a != -1) = true := by simp; omega
    by_cases hb0 : b = -1
    · have e1 : a * b = -a := by rw [hb0]; omega
      have H1 := Lib.hid e1
      have t2 : (b == -1) = true := by simp; omega
      have t3 : (b != -1) = false := by simp; omega
      by_cases ha1 : a = -9223372036854775808
      · have H2 := Lib.hid ha1
        have t4 : (a == -9223372036854775808) = true := by simp; omega
        clear ha0 hb0 ha1 e1
        refine ⟨wrap64 (a * b), 43, fun h => ?_, fun h => ?_, fun w => ?_⟩
        · exact absurd h (by decide)
        · rw [mul_is ha hb]; exact numIf_no (by rw [H1.out]; have := H2.out; unfold In6; simp; omega)
        · go_enter Try.func55, Try.ntmps55
          go_wp2_with (go_at_call 94; refine (wrong_any _ _).mono ?_; rintro e w' ⟨rfl, rfl⟩)
          exact bodyPost_ret (v := .tuple #[.int .i64 (wrap64 (a * b)), .int .i64 (43)]) (by simp [results, Try.results55, go_sem]) rfl ⟨rfl, rfl⟩
      · have H2 := Lib.hid ha1
        have t4 : (a == -9223372036854775808) = false := by simp; omega
        by_cases ha2 : a = 0
        · have t5 : (a != 0) = false := by simp; omega
          clear ha0 hb0 ha1 ha2 e1
          refine ⟨wrap64 (a * b), 0, fun h => ?_, fun h => ?_, fun w => ?_⟩
          · rw [mul_is ha hb]; exact numIf_yes (by rw [H1.out]; have := H2.out; unfold In6; simp; omega) rfl
          · exact absurd rfl h
          · go_enter Try.func55, Try.ntmps55
            go_wp2_with (go_at_call 94; refine (wrong_any _ _).mono ?_; rintro e w' ⟨rfl, rfl⟩)
            exact bodyPost_ret (v := .tuple #[.int .i64 (wrap64 (a * b)), .int .i64 (0)]) (by simp [results, Try.results55, go_sem]) rfl ⟨rfl, rfl⟩
        · have t5 : (a != 0) = true := by simp; omega
          clear ha0 hb0 ha1 ha2 e1
          refine ⟨wrap64 (a * b), 0, fun h => ?_, fun h => ?_, fun w => ?_⟩
          · rw [mul_is ha hb]; exact numIf_yes (by rw [H1.out]; have := H2.out; unfold In6; simp; omega) rfl
          · exact absurd rfl h
          · go_enter Try.func55, Try.ntmps55
            go_wp2_with (go_at_call 94; refine (wrong_any _ _).mono ?_; rintro e w' ⟨rfl, rfl⟩)
            exact bodyPost_ret (v := .tuple #[.int .i64 (wrap64 (a * b)), .int .i64 (0)]) (by simp [results, Try.results55, go_sem]) rfl ⟨rfl, rfl⟩
    · have t2 : (b == -1) = false := by simp; omega
      have t3 : (b != -1) = true := by simp; omega
      by_cases ha2 : a = 0
      · have e1 : a * b = 0 := by rw [ha2]; omega
        have H1 := Lib.hid e1
        have t5 : (a != 0) = false := by simp; omega
        clear ha0 hb0 ha2 e1
        refine ⟨wrap64 (a * b), 0, fun h => ?_, fun h => ?_, fun w => ?_⟩
        · rw [mul_is ha hb]; exact numIf_yes (by rw [H1.out]; decide) rfl
        · exact absurd rfl h
        · go_enter Try.func55, Try.ntmps55
          go_wp2_with (go_at_call 94; refine (wrong_any _ _).mono ?_; rintro e w' ⟨rfl, rfl⟩)
          exact bodyPost_ret (v := .tuple #[.int .i64 (wrap64 (a * b)), .int .i64 (0)]) (by simp [results, Try.results55, go_sem]) rfl ⟨rfl, rfl⟩
      · have hq := mul_quo ha hb ha2 ha0
        have t5 : (a != 0) = true := by simp; omega
        have t6 : (a == 0) = false := by simp; omega
        by_cases hi : In6 (a * b)
        · have hq1 : wrap64 (Int.tdiv (wrap64 (a * b)) a) = b := by rw [decide_eq_true hi] at hq; simpa using hq
          have t7 : (wrap64 (Int.tdiv (wrap64 (a * b)) a) != b) = false := by simpa using hq1
          have HI := Lib.hid hi
          clear hi hq hq1 ha0 hb0
          refine ⟨wrap64 (a * b), 0, fun h => ?_, fun h => ?_, fun w => ?_⟩
          · rw [mul_is ha hb]; exact numIf_yes (decide_eq_true HI.out) rfl
          · exact absurd rfl h
          · go_enter Try.func55, Try.ntmps55
            go_wp2_with (go_at_call 94; refine (wrong_any _ _).mono ?_; rintro e w' ⟨rfl, rfl⟩)
            exact bodyPost_ret (v := .tuple #[.int .i64 (wrap64 (a * b)), .int .i64 (0)]) (by simp [results, Try.results55, go_sem]) rfl ⟨rfl, rfl⟩
        · have hq1 : wrap64 (Int.tdiv (wrap64 (a * b)) a) ≠ b := by rw [decide_eq_false hi] at hq; simpa using hq
          have t7 : (wrap64 (Int.tdiv (wrap64 (a * b)) a) != b) = true := by simpa using hq1
          have HI := Lib.hid hi
          clear hi hq hq1 ha0 hb0
          refine ⟨wrap64 (a * b), 43, fun h => ?_, fun h => ?_, fun w => ?_⟩
          · exact absurd h (by decide)
          · rw [mul_is ha hb]; exact numIf_no (decide_eq_false HI.out)
          · go_enter Try.func55, Try.ntmps55
            go_wp2_with (go_at_call 94; refine (wrong_any _ _).mono ?_; rintro e w' ⟨rfl, rfl⟩)
            exact bodyPost_ret (v := .tuple #[.int .i64 (wrap64 (a * b)), .int .i64 (43)]) (by simp [results, Try.results55, go_sem]) rfl ⟨rfl, rfl⟩
set_option maxHeartbeats 2000000 in
set_option maxRecDepth 100000 in
theorem reck_div (width a b : Int) (ha : In6 a) (hb : In6 b) : Reck 8 width a b (divZ a b) := by
  have ha1 := ha.1
  have ha2 := ha.2
  have hb1 := hb.1
  have hb2 := hb.2
  by_cases hb0 : b = 0
  · have t1 : (b == 0) = true := by simp; omega
    refine ⟨0, 44, fun h => ?_, fun h => ?_, fun w => ?_⟩
    · exact absurd h (by decide)
    · unfold divZ; rw [if_pos hb0]
    · clear hb0
      go_enter Try.func55, Try.ntmps55
      go_wp2_with (go_at_call 94; refine (wrong_any _ _).mono ?_; rintro e w' ⟨rfl, rfl⟩)
      exact bodyPost_ret (v := .tuple #[.int .i64 (0), .int .i64 (44)]) (by simp [results, Try.results55, go_sem]) rfl ⟨rfl, rfl⟩
  · have t1 : (b == 0) = false := by simp; omega
    by_cases hb1 : b = -1
    · have t2 : (b == -1) = true := by simp; omega
      by_cases ha1 : a = -9223372036854775808
      · have t3 : (a == -9223372036854775808) = true := by simp; omega
        refine ⟨wrap64 (-a), 43, fun h => ?_, fun h => ?_, fun w => ?_⟩
        · exact absurd h (by decide)
        · unfold divZ divT; rw [if_neg hb0]; exact numIf_no (by simp; omega)
        · clear hb0 hb1 ha1
          go_enter Try.func55, Try.ntmps55
          go_wp2_with (go_at_call 94; refine (wrong_any _ _).mono ?_; rintro e w' ⟨rfl, rfl⟩)
          exact bodyPost_ret (v := .tuple #[.int .i64 (wrap64 (-a)), .int .i64 (43)]) (by simp [results, Try.results55, go_sem]) rfl ⟨rfl, rfl⟩
      · have e1 : Int.tdiv a b = -a := by rw [hb1]; simp
        have hx : -9223372036854775807 ≤ a := by omega
        have t3 : (a == -9223372036854775808) = false := by simp; omega
        refine ⟨-a, 0, fun h => ?_, fun h => ?_, fun w => ?_⟩
        · unfold divZ divT; rw [if_neg hb0]; exact numIf_yes (by simp; omega) (by rw [e1]; exact w6 (by unfold In6; omega))
        · exact absurd rfl h
        · clear hb0 hb1 ha1 e1
          go_enter Try.func55, Try.ntmps55
          go_wp2_with (go_at_call 94; refine (wrong_any _ _).mono ?_; rintro e w' ⟨rfl, rfl⟩)
          exact bodyPost_ret (v := .tuple #[.int .i64 (-a), .int .i64 (0)]) (by simp [results, Try.results55, go_sem]) rfl ⟨rfl, rfl⟩
    · have t2 : (b == -1) = false := by simp; omega
      obtain ⟨hd, hd1, hd2⟩ := div_ok (a := a) (b := b) ha hb0 (.inl hb1)
      refine ⟨Int.tdiv a b, 0, fun h => ?_, fun h => ?_, fun w => ?_⟩
      · exact hd
      · exact absurd rfl h
      · clear hb1 hd
        go_enter Try.func55, Try.ntmps55
        go_wp2_with (go_at_call 94; refine (wrong_any _ _).mono ?_; rintro e w' ⟨rfl, rfl⟩)
        exact bodyPost_ret (v := .tuple #[.int .i64 (Int.tdiv a b), .int .i64 (0)]) (by simp [results, Try.results55, go_sem]) rfl ⟨rfl, rfl⟩
set_option maxHeartbeats 2000000 in
set_option maxRecDepth 100000 in
theorem reck_mod (width a b : Int) (ha : In6 a) (hb : In6 b) : Reck 9 width a b (modZ a b) := by
  have ha1 := ha.1
  have ha2 := ha.2
  have hb1 := hb.1
  have hb2 := hb.2
  by_cases hb0 : b = 0
  · have t1 : (b == 0) = true := by simp; omega
    refine ⟨0, 44, fun h => ?_, fun h => ?_, fun w => ?_⟩
    · exact absurd h (by decide)
    · unfold modZ; rw [if_pos hb0]
    · clear hb0
      go_enter Try.func55, Try.ntmps55
      go_wp2_with (go_at_call 94; refine (wrong_any _ _).mono ?_; rintro e w' ⟨rfl, rfl⟩)
      exact bodyPost_ret (v := .tuple #[.int .i64 (0), .int .i64 (44)]) (by simp [results, Try.results55, go_sem]) rfl ⟨rfl, rfl⟩
  · have t1 : (b == 0) = false := by simp; omega
    have hm := mod_ok (a := a) hb0
    by_cases hb1 : b = -1
    · have t2 : (b == -1) = true := by simp; omega
      have e1 : Int.tmod a b = 0 := by rw [hb1]; simp
      refine ⟨0, 0, fun h => ?_, fun h => ?_, fun w => ?_⟩
      · rw [hm, e1]
      · exact absurd rfl h
      · clear hb0 hb1 hm e1
        go_enter Try.func55, Try.ntmps55
        go_wp2_with (go_at_call 94; refine (wrong_any _ _).mono ?_; rintro e w' ⟨rfl, rfl⟩)
        exact bodyPost_ret (v := .tuple #[.int .i64 (0), .int .i64 (0)]) (by simp [results, Try.results55, go_sem]) rfl ⟨rfl, rfl⟩
    · have t2 : (b == -1) = false := by simp; omega
      refine ⟨Int.tmod a b, 0, fun h => ?_, fun h => ?_, fun w => ?_⟩
      · exact hm
      · exact absurd rfl h
      · clear hb1 hm
        go_enter Try.func55, Try.ntmps55
        go_wp2_with (go_at_call 94; refine (wrong_any _ _).mono ?_; rintro e w' ⟨rfl, rfl⟩)
        exact bodyPost_ret (v := .tuple #[.int .i64 (Int.tmod a b), .int .i64 (0)]) (by simp [results, Try.results55, go_sem]) rfl ⟨rfl, rfl⟩
set_option maxHeartbeats 2000000 in
set_option maxRecDepth 100000 in
theorem reck_bucket (width a b : Int) (ha : In6 a) (hb : In6 b) (hw1 : 1 ≤ width) (hw2 : width ≤ 1099511627776) : Reck 20 width a b (bucketT a width) := by
  have ha1 := ha.1
  have ha2 := ha.2
  have hb1 := hb.1
  have hb2 := hb.2
  have hr := rest_eq a width hw1
  have e1 : restT a width = if Int.tmod a width < 0 then Int.tmod a width + width else Int.tmod a width := by
    unfold restT
    have h1 := Int.emod_nonneg a (show width ≠ 0 by omega)
    have h2 := Int.emod_lt_of_pos a (show 0 < width by omega)
    rw [Int.tmod_eq_emod]
    generalize a % width = g at *
    split
    · rw [if_neg (by omega)]; omega
    · rw [if_pos (by omega)]; omega
  have H1 := Lib.hid e1
  obtain ⟨_, r1, r2, r3, r4⟩ := hr
  have t0 : (width == 0) = false := by simp; omega
  clear e1
  generalize hm : Int.tmod a width = m at *
  have HM := Lib.hid hm
  generalize hq : restT a width = q at *
  have HQ := Lib.hid hq
  clear hq
  by_cases h1 : m < 0
  · have hq2 : q = m + width := by have := H1.out; rw [if_pos h1] at this; exact this
    have t1 := decide_eq_true h1
    by_cases h2 : a < -9223372036854775808 + (m + width)
    · have t2 := decide_eq_true h2
      refine ⟨wrap64 (a - (m + width)), 43, fun h => absurd h (by decide), fun h => ?_, fun w => ?_⟩
      · unfold bucketT; rw [HQ.out]; exact numIf_no (by simp; omega)
      · clear hq2
        go_enter Try.func55, Try.ntmps55
        go_wp2_with (go_at_call 94; refine (wrong_any _ _).mono ?_; rintro e w' ⟨rfl, rfl⟩)
        exact bodyPost_ret (v := .tuple #[.int .i64 (wrap64 (a - (m + width))), .int .i64 (43)]) (by simp [results, Try.results55, go_sem]) rfl ⟨rfl, rfl⟩
    · have t2 := decide_eq_false h2
      refine ⟨a - (m + width), 0, fun h => ?_, fun h => absurd rfl h, fun w => ?_⟩
      · unfold bucketT; rw [HQ.out]; exact numIf_yes (by simp; omega) (by rw [hq2]; exact w6 (by unfold In6; omega))
      · clear hq2
        go_enter Try.func55, Try.ntmps55
        go_wp2_with (go_at_call 94; refine (wrong_any _ _).mono ?_; rintro e w' ⟨rfl, rfl⟩)
        exact bodyPost_ret (v := .tuple #[.int .i64 (a - (m + width)), .int .i64 (0)]) (by simp [results, Try.results55, go_sem]) rfl ⟨rfl, rfl⟩
  · have hq2 : q = m := by have := H1.out; rw [if_neg h1] at this; exact this
    have t1 := decide_eq_false h1
    by_cases h2 : a < -9223372036854775808 + m
    · have t2 := decide_eq_true h2
      refine ⟨wrap64 (a - m), 43, fun h => absurd h (by decide), fun h => ?_, fun w => ?_⟩
      · unfold bucketT; rw [HQ.out]; exact numIf_no (by simp; omega)
      · clear hq2
        go_enter Try.func55, Try.ntmps55
        go_wp2_with (go_at_call 94; refine (wrong_any _ _).mono ?_; rintro e w' ⟨rfl, rfl⟩)
        exact bodyPost_ret (v := .tuple #[.int .i64 (wrap64 (a - m)), .int .i64 (43)]) (by simp [results, Try.results55, go_sem]) rfl ⟨rfl, rfl⟩
    · have t2 := decide_eq_false h2
      refine ⟨a - m, 0, fun h => ?_, fun h => absurd rfl h, fun w => ?_⟩
      · unfold bucketT; rw [HQ.out]; exact numIf_yes (by simp; omega) (by rw [hq2]; exact w6 (by unfold In6; omega))
      · clear hq2
        go_enter Try.func55, Try.ntmps55
        go_wp2_with (go_at_call 94; refine (wrong_any _ _).mono ?_; rintro e w' ⟨rfl, rfl⟩)
        exact bodyPost_ret (v := .tuple #[.int .i64 (a - m), .int .i64 (0)]) (by simp [results, Try.results55, go_sem]) rfl ⟨rfl, rfl⟩
end Go.Proofs.Ytlfahfoffdbpfaa
