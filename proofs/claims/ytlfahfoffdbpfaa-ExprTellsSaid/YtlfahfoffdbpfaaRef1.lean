/- The document's answer for layer 15: its small functions. Printed by gen_ref1.py. -/
import Derived.Test.YtlfahfoffdbpfaaLeaf
namespace Go.Proofs.Ytlfahfoffdbpfaa
open Go.ChangeShapes Go.WideShapes Go.ChangeAt Go.RowKit
set_option linter.unusedVariables false
set_option linter.unusedSimpArgs false

def isAgg (op : Int) : Bool := decide (21 ≤ op ∧ op ≤ 28)
def isLogic (op : Int) : Bool := decide (op = 4 ∨ op = 16 ∨ op = 17)
def isOrder (op : Int) : Bool := decide (10 ≤ op ∧ op ≤ 15)
def aggArgs (op : Int) : Int := if op = 27 ∨ op = 28 then 2 else if 22 ≤ op ∧ op ≤ 26 then 1 else 0
def argsR (op : Int) : Int := if op = 1 ∨ op = 2 ∨ op = 21 then 0 else if op = 3 ∨ op = 4 ∨ op = 18 ∨ op = 19 ∨ op = 20 ∨ (22 ≤ op ∧ op ≤ 26) then 1 else if (5 ≤ op ∧ op ≤ 17) ∨ op = 27 ∨ op = 28 then 2 else -1
def wantsR (op : Int) : Int := if op = 4 ∨ op = 16 ∨ op = 17 then 1 else if op = 3 ∨ (5 ≤ op ∧ op ≤ 9) ∨ op = 20 then 2 else 0
set_option maxHeartbeats 1000000 in
theorem isR_any (op : Int) (h0 : 0 ≤ op) (h1 : op ≤ 255) (w : World) : Calls Try.prog 47 #[.int .u8 op] w fun e w' => e = .returned (.bool (isAgg op)) ∧ w = w' := by
  have hc : (0 ≤ op ∧ op ≤ 20) ∨ (21 ≤ op ∧ op ≤ 28) ∨ (29 ≤ op ∧ op ≤ 255) := by omega
  rcases hc with ⟨a0, a1⟩ | ⟨a0, a1⟩ | ⟨a0, a1⟩
  · rw [show isAgg op = false by unfold isAgg; simp; omega]
    have q1 : decide (21 ≤ op) = false := decide_eq_false (by omega)
    have q2 : decide (op ≤ 28) = true := decide_eq_true (by omega)
    go_enter Try.func47, Try.ntmps47
    go_wp2_with (fail)
    go_ret
    exact ⟨rfl, rfl⟩
  · rw [show isAgg op = true by unfold isAgg; simp; omega]
    have q1 : decide (21 ≤ op) = true := decide_eq_true (by omega)
    have q2 : decide (op ≤ 28) = true := decide_eq_true (by omega)
    go_enter Try.func47, Try.ntmps47
    go_wp2_with (fail)
    go_ret
    exact ⟨rfl, rfl⟩
  · rw [show isAgg op = false by unfold isAgg; simp; omega]
    have q1 : decide (21 ≤ op) = true := decide_eq_true (by omega)
    have q2 : decide (op ≤ 28) = false := decide_eq_false (by omega)
    go_enter Try.func47, Try.ntmps47
    go_wp2_with (fail)
    go_ret
    exact ⟨rfl, rfl⟩
set_option maxHeartbeats 1000000 in
theorem logicR_any (op : Int) (h0 : 0 ≤ op) (h1 : op ≤ 255) (w : World) : Calls Try.prog 93 #[.int .u8 op] w fun e w' => e = .returned (.bool (isLogic op)) ∧ w = w' := by
  have hc : (0 ≤ op ∧ op ≤ 3) ∨ (4 ≤ op ∧ op ≤ 4) ∨ (5 ≤ op ∧ op ≤ 15) ∨ (16 ≤ op ∧ op ≤ 16) ∨ (17 ≤ op ∧ op ≤ 17) ∨ (18 ≤ op ∧ op ≤ 255) := by omega
  rcases hc with ⟨a0, a1⟩ | ⟨a0, a1⟩ | ⟨a0, a1⟩ | ⟨a0, a1⟩ | ⟨a0, a1⟩ | ⟨a0, a1⟩
  · rw [show isLogic op = false by unfold isLogic; simp; omega]
    have q1 : (op == 4) = false := by simp; omega
    have q2 : (op == 16) = false := by simp; omega
    have q3 : (op == 17) = false := by simp; omega
    go_enter Try.func93, Try.ntmps93
    go_wp2_with (fail)
    go_ret
    exact ⟨rfl, rfl⟩
  · rw [show isLogic op = true by unfold isLogic; simp; omega]
    have q1 : (op == 4) = true := by simp; omega
    have q2 : (op == 16) = false := by simp; omega
    have q3 : (op == 17) = false := by simp; omega
    go_enter Try.func93, Try.ntmps93
    go_wp2_with (fail)
    go_ret
    exact ⟨rfl, rfl⟩
  · rw [show isLogic op = false by unfold isLogic; simp; omega]
    have q1 : (op == 4) = false := by simp; omega
    have q2 : (op == 16) = false := by simp; omega
    have q3 : (op == 17) = false := by simp; omega
    go_enter Try.func93, Try.ntmps93
    go_wp2_with (fail)
    go_ret
    exact ⟨rfl, rfl⟩
  · rw [show isLogic op = true by unfold isLogic; simp; omega]
    have q1 : (op == 4) = false := by simp; omega
    have q2 : (op == 16) = true := by simp; omega
    have q3 : (op == 17) = false := by simp; omega
    go_enter Try.func93, Try.ntmps93
    go_wp2_with (fail)
    go_ret
    exact ⟨rfl, rfl⟩
  · rw [show isLogic op = true by unfold isLogic; simp; omega]
    have q1 : (op == 4) = false := by simp; omega
    have q2 : (op == 16) = false := by simp; omega
    have q3 : (op == 17) = true := by simp; omega
    go_enter Try.func93, Try.ntmps93
    go_wp2_with (fail)
    go_ret
    exact ⟨rfl, rfl⟩
  · rw [show isLogic op = false by unfold isLogic; simp; omega]
    have q1 : (op == 4) = false := by simp; omega
    have q2 : (op == 16) = false := by simp; omega
    have q3 : (op == 17) = false := by simp; omega
    go_enter Try.func93, Try.ntmps93
    go_wp2_with (fail)
    go_ret
    exact ⟨rfl, rfl⟩
set_option maxHeartbeats 1000000 in
theorem orderR_any (op : Int) (h0 : 0 ≤ op) (h1 : op ≤ 255) (w : World) : Calls Try.prog 51 #[.int .u8 op] w fun e w' => e = .returned (.bool (isOrder op)) ∧ w = w' := by
  have hc : (0 ≤ op ∧ op ≤ 9) ∨ (10 ≤ op ∧ op ≤ 15) ∨ (16 ≤ op ∧ op ≤ 255) := by omega
  rcases hc with ⟨a0, a1⟩ | ⟨a0, a1⟩ | ⟨a0, a1⟩
  · rw [show isOrder op = false by unfold isOrder; simp; omega]
    have q1 : decide (10 ≤ op) = false := decide_eq_false (by omega)
    have q2 : decide (op ≤ 15) = true := decide_eq_true (by omega)
    go_enter Try.func51, Try.ntmps51
    go_wp2_with (fail)
    go_ret
    exact ⟨rfl, rfl⟩
  · rw [show isOrder op = true by unfold isOrder; simp; omega]
    have q1 : decide (10 ≤ op) = true := decide_eq_true (by omega)
    have q2 : decide (op ≤ 15) = true := decide_eq_true (by omega)
    go_enter Try.func51, Try.ntmps51
    go_wp2_with (fail)
    go_ret
    exact ⟨rfl, rfl⟩
  · rw [show isOrder op = false by unfold isOrder; simp; omega]
    have q1 : decide (10 ≤ op) = true := decide_eq_true (by omega)
    have q2 : decide (op ≤ 15) = false := decide_eq_false (by omega)
    go_enter Try.func51, Try.ntmps51
    go_wp2_with (fail)
    go_ret
    exact ⟨rfl, rfl⟩
set_option maxHeartbeats 1000000 in
theorem aggArgs_any (op : Int) (h0 : 0 ≤ op) (h1 : op ≤ 255) (w : World) : Calls Try.prog 102 #[.int .u8 op] w fun e w' => e = .returned (.int .i64 (aggArgs op)) ∧ w = w' := by
  have hc : (0 ≤ op ∧ op ≤ 0) ∨ (1 ≤ op ∧ op ≤ 1) ∨ (2 ≤ op ∧ op ≤ 2) ∨ (3 ≤ op ∧ op ≤ 3) ∨ (4 ≤ op ∧ op ≤ 4) ∨ (5 ≤ op ∧ op ≤ 9) ∨ (10 ≤ op ∧ op ≤ 15) ∨ (16 ≤ op ∧ op ≤ 16) ∨ (17 ≤ op ∧ op ≤ 17) ∨ (18 ≤ op ∧ op ≤ 18) ∨ (19 ≤ op ∧ op ≤ 19) ∨ (20 ≤ op ∧ op ≤ 20) ∨ (21 ≤ op ∧ op ≤ 21) ∨ (22 ≤ op ∧ op ≤ 26) ∨ (27 ≤ op ∧ op ≤ 27) ∨ (28 ≤ op ∧ op ≤ 28) ∨ (29 ≤ op ∧ op ≤ 255) := by omega
  rcases hc with ⟨a0, a1⟩ | ⟨a0, a1⟩ | ⟨a0, a1⟩ | ⟨a0, a1⟩ | ⟨a0, a1⟩ | ⟨a0, a1⟩ | ⟨a0, a1⟩ | ⟨a0, a1⟩ | ⟨a0, a1⟩ | ⟨a0, a1⟩ | ⟨a0, a1⟩ | ⟨a0, a1⟩ | ⟨a0, a1⟩ | ⟨a0, a1⟩ | ⟨a0, a1⟩ | ⟨a0, a1⟩ | ⟨a0, a1⟩
  · rw [show aggArgs op = 0 by unfold aggArgs; repeat (first | rfl | omega | split)]
    have q1 : (op == 21) = false := by simp; omega
    have q2 : (op == 27) = false := by simp; omega
    have q3 : (op == 28) = false := by simp; omega
    have qa : isAgg op = false := by unfold isAgg; simp; omega
    go_enter Try.func102, Try.ntmps102
    go_wp2_with (go_at_call 47; refine (isR_any op h0 h1 _).mono ?_; rintro e w' ⟨rfl, rfl⟩)
    go_ret
    exact ⟨rfl, rfl⟩
  · rw [show aggArgs op = 0 by unfold aggArgs; repeat (first | rfl | omega | split)]
    have q1 : (op == 21) = false := by simp; omega
    have q2 : (op == 27) = false := by simp; omega
    have q3 : (op == 28) = false := by simp; omega
    have qa : isAgg op = false := by unfold isAgg; simp; omega
    go_enter Try.func102, Try.ntmps102
    go_wp2_with (go_at_call 47; refine (isR_any op h0 h1 _).mono ?_; rintro e w' ⟨rfl, rfl⟩)
    go_ret
    exact ⟨rfl, rfl⟩
  · rw [show aggArgs op = 0 by unfold aggArgs; repeat (first | rfl | omega | split)]
    have q1 : (op == 21) = false := by simp; omega
    have q2 : (op == 27) = false := by simp; omega
    have q3 : (op == 28) = false := by simp; omega
    have qa : isAgg op = false := by unfold isAgg; simp; omega
    go_enter Try.func102, Try.ntmps102
    go_wp2_with (go_at_call 47; refine (isR_any op h0 h1 _).mono ?_; rintro e w' ⟨rfl, rfl⟩)
    go_ret
    exact ⟨rfl, rfl⟩
  · rw [show aggArgs op = 0 by unfold aggArgs; repeat (first | rfl | omega | split)]
    have q1 : (op == 21) = false := by simp; omega
    have q2 : (op == 27) = false := by simp; omega
    have q3 : (op == 28) = false := by simp; omega
    have qa : isAgg op = false := by unfold isAgg; simp; omega
    go_enter Try.func102, Try.ntmps102
    go_wp2_with (go_at_call 47; refine (isR_any op h0 h1 _).mono ?_; rintro e w' ⟨rfl, rfl⟩)
    go_ret
    exact ⟨rfl, rfl⟩
  · rw [show aggArgs op = 0 by unfold aggArgs; repeat (first | rfl | omega | split)]
    have q1 : (op == 21) = false := by simp; omega
    have q2 : (op == 27) = false := by simp; omega
    have q3 : (op == 28) = false := by simp; omega
    have qa : isAgg op = false := by unfold isAgg; simp; omega
    go_enter Try.func102, Try.ntmps102
    go_wp2_with (go_at_call 47; refine (isR_any op h0 h1 _).mono ?_; rintro e w' ⟨rfl, rfl⟩)
    go_ret
    exact ⟨rfl, rfl⟩
  · rw [show aggArgs op = 0 by unfold aggArgs; repeat (first | rfl | omega | split)]
    have q1 : (op == 21) = false := by simp; omega
    have q2 : (op == 27) = false := by simp; omega
    have q3 : (op == 28) = false := by simp; omega
    have qa : isAgg op = false := by unfold isAgg; simp; omega
    go_enter Try.func102, Try.ntmps102
    go_wp2_with (go_at_call 47; refine (isR_any op h0 h1 _).mono ?_; rintro e w' ⟨rfl, rfl⟩)
    go_ret
    exact ⟨rfl, rfl⟩
  · rw [show aggArgs op = 0 by unfold aggArgs; repeat (first | rfl | omega | split)]
    have q1 : (op == 21) = false := by simp; omega
    have q2 : (op == 27) = false := by simp; omega
    have q3 : (op == 28) = false := by simp; omega
    have qa : isAgg op = false := by unfold isAgg; simp; omega
    go_enter Try.func102, Try.ntmps102
    go_wp2_with (go_at_call 47; refine (isR_any op h0 h1 _).mono ?_; rintro e w' ⟨rfl, rfl⟩)
    go_ret
    exact ⟨rfl, rfl⟩
  · rw [show aggArgs op = 0 by unfold aggArgs; repeat (first | rfl | omega | split)]
    have q1 : (op == 21) = false := by simp; omega
    have q2 : (op == 27) = false := by simp; omega
    have q3 : (op == 28) = false := by simp; omega
    have qa : isAgg op = false := by unfold isAgg; simp; omega
    go_enter Try.func102, Try.ntmps102
    go_wp2_with (go_at_call 47; refine (isR_any op h0 h1 _).mono ?_; rintro e w' ⟨rfl, rfl⟩)
    go_ret
    exact ⟨rfl, rfl⟩
  · rw [show aggArgs op = 0 by unfold aggArgs; repeat (first | rfl | omega | split)]
    have q1 : (op == 21) = false := by simp; omega
    have q2 : (op == 27) = false := by simp; omega
    have q3 : (op == 28) = false := by simp; omega
    have qa : isAgg op = false := by unfold isAgg; simp; omega
    go_enter Try.func102, Try.ntmps102
    go_wp2_with (go_at_call 47; refine (isR_any op h0 h1 _).mono ?_; rintro e w' ⟨rfl, rfl⟩)
    go_ret
    exact ⟨rfl, rfl⟩
  · rw [show aggArgs op = 0 by unfold aggArgs; repeat (first | rfl | omega | split)]
    have q1 : (op == 21) = false := by simp; omega
    have q2 : (op == 27) = false := by simp; omega
    have q3 : (op == 28) = false := by simp; omega
    have qa : isAgg op = false := by unfold isAgg; simp; omega
    go_enter Try.func102, Try.ntmps102
    go_wp2_with (go_at_call 47; refine (isR_any op h0 h1 _).mono ?_; rintro e w' ⟨rfl, rfl⟩)
    go_ret
    exact ⟨rfl, rfl⟩
  · rw [show aggArgs op = 0 by unfold aggArgs; repeat (first | rfl | omega | split)]
    have q1 : (op == 21) = false := by simp; omega
    have q2 : (op == 27) = false := by simp; omega
    have q3 : (op == 28) = false := by simp; omega
    have qa : isAgg op = false := by unfold isAgg; simp; omega
    go_enter Try.func102, Try.ntmps102
    go_wp2_with (go_at_call 47; refine (isR_any op h0 h1 _).mono ?_; rintro e w' ⟨rfl, rfl⟩)
    go_ret
    exact ⟨rfl, rfl⟩
  · rw [show aggArgs op = 0 by unfold aggArgs; repeat (first | rfl | omega | split)]
    have q1 : (op == 21) = false := by simp; omega
    have q2 : (op == 27) = false := by simp; omega
    have q3 : (op == 28) = false := by simp; omega
    have qa : isAgg op = false := by unfold isAgg; simp; omega
    go_enter Try.func102, Try.ntmps102
    go_wp2_with (go_at_call 47; refine (isR_any op h0 h1 _).mono ?_; rintro e w' ⟨rfl, rfl⟩)
    go_ret
    exact ⟨rfl, rfl⟩
  · rw [show aggArgs op = 0 by unfold aggArgs; repeat (first | rfl | omega | split)]
    have q1 : (op == 21) = true := by simp; omega
    have q2 : (op == 27) = false := by simp; omega
    have q3 : (op == 28) = false := by simp; omega
    have qa : isAgg op = true := by unfold isAgg; simp; omega
    go_enter Try.func102, Try.ntmps102
    go_wp2_with (go_at_call 47; refine (isR_any op h0 h1 _).mono ?_; rintro e w' ⟨rfl, rfl⟩)
    go_ret
    exact ⟨rfl, rfl⟩
  · rw [show aggArgs op = 1 by unfold aggArgs; repeat (first | rfl | omega | split)]
    have q1 : (op == 21) = false := by simp; omega
    have q2 : (op == 27) = false := by simp; omega
    have q3 : (op == 28) = false := by simp; omega
    have qa : isAgg op = true := by unfold isAgg; simp; omega
    go_enter Try.func102, Try.ntmps102
    go_wp2_with (go_at_call 47; refine (isR_any op h0 h1 _).mono ?_; rintro e w' ⟨rfl, rfl⟩)
    go_ret
    exact ⟨rfl, rfl⟩
  · rw [show aggArgs op = 2 by unfold aggArgs; repeat (first | rfl | omega | split)]
    have q1 : (op == 21) = false := by simp; omega
    have q2 : (op == 27) = true := by simp; omega
    have q3 : (op == 28) = false := by simp; omega
    have qa : isAgg op = true := by unfold isAgg; simp; omega
    go_enter Try.func102, Try.ntmps102
    go_wp2_with (go_at_call 47; refine (isR_any op h0 h1 _).mono ?_; rintro e w' ⟨rfl, rfl⟩)
    go_ret
    exact ⟨rfl, rfl⟩
  · rw [show aggArgs op = 2 by unfold aggArgs; repeat (first | rfl | omega | split)]
    have q1 : (op == 21) = false := by simp; omega
    have q2 : (op == 27) = false := by simp; omega
    have q3 : (op == 28) = true := by simp; omega
    have qa : isAgg op = true := by unfold isAgg; simp; omega
    go_enter Try.func102, Try.ntmps102
    go_wp2_with (go_at_call 47; refine (isR_any op h0 h1 _).mono ?_; rintro e w' ⟨rfl, rfl⟩)
    go_ret
    exact ⟨rfl, rfl⟩
  · rw [show aggArgs op = 0 by unfold aggArgs; repeat (first | rfl | omega | split)]
    have q1 : (op == 21) = false := by simp; omega
    have q2 : (op == 27) = false := by simp; omega
    have q3 : (op == 28) = false := by simp; omega
    have qa : isAgg op = false := by unfold isAgg; simp; omega
    go_enter Try.func102, Try.ntmps102
    go_wp2_with (go_at_call 47; refine (isR_any op h0 h1 _).mono ?_; rintro e w' ⟨rfl, rfl⟩)
    go_ret
    exact ⟨rfl, rfl⟩
set_option maxHeartbeats 1000000 in
theorem argsR_any (op : Int) (h0 : 0 ≤ op) (h1 : op ≤ 255) (w : World) : Calls Try.prog 91 #[.int .u8 op] w fun e w' => e = .returned (.int .i64 (argsR op)) ∧ w = w' := by
  have hc : (0 ≤ op ∧ op ≤ 0) ∨ (1 ≤ op ∧ op ≤ 1) ∨ (2 ≤ op ∧ op ≤ 2) ∨ (3 ≤ op ∧ op ≤ 3) ∨ (4 ≤ op ∧ op ≤ 4) ∨ (5 ≤ op ∧ op ≤ 9) ∨ (10 ≤ op ∧ op ≤ 15) ∨ (16 ≤ op ∧ op ≤ 16) ∨ (17 ≤ op ∧ op ≤ 17) ∨ (18 ≤ op ∧ op ≤ 18) ∨ (19 ≤ op ∧ op ≤ 19) ∨ (20 ≤ op ∧ op ≤ 20) ∨ (21 ≤ op ∧ op ≤ 21) ∨ (22 ≤ op ∧ op ≤ 26) ∨ (27 ≤ op ∧ op ≤ 27) ∨ (28 ≤ op ∧ op ≤ 28) ∨ (29 ≤ op ∧ op ≤ 255) := by omega
  rcases hc with ⟨a0, a1⟩ | ⟨a0, a1⟩ | ⟨a0, a1⟩ | ⟨a0, a1⟩ | ⟨a0, a1⟩ | ⟨a0, a1⟩ | ⟨a0, a1⟩ | ⟨a0, a1⟩ | ⟨a0, a1⟩ | ⟨a0, a1⟩ | ⟨a0, a1⟩ | ⟨a0, a1⟩ | ⟨a0, a1⟩ | ⟨a0, a1⟩ | ⟨a0, a1⟩ | ⟨a0, a1⟩ | ⟨a0, a1⟩
  · rw [show argsR op = -1 by unfold argsR; repeat (first | rfl | omega | split)]
    have q1 : (op == 1) = false := by simp; omega
    have q2 : (op == 2) = false := by simp; omega
    have q3 : (op == 3) = false := by simp; omega
    have q4 : (op == 4) = false := by simp; omega
    have q5 : (op == 18) = false := by simp; omega
    have q6 : (op == 19) = false := by simp; omega
    have q7 : (op == 20) = false := by simp; omega
    have q8 : decide (5 ≤ op) = false := decide_eq_false (by omega)
    have q9 : decide (op ≤ 17) = true := decide_eq_true (by omega)
    have qa : isAgg op = false := by unfold isAgg; simp; omega
    go_enter Try.func91, Try.ntmps91
    go_wp2_with (first | (go_at_call 47; refine (isR_any op h0 h1 _).mono ?_; rintro e w' ⟨rfl, rfl⟩) | (go_at_call 102; refine (aggArgs_any op h0 h1 _).mono ?_; rintro e w' ⟨rfl, rfl⟩))
    go_ret
    exact ⟨rfl, rfl⟩
  · rw [show argsR op = 0 by unfold argsR; repeat (first | rfl | omega | split)]
    have q1 : (op == 1) = true := by simp; omega
    have q2 : (op == 2) = false := by simp; omega
    have q3 : (op == 3) = false := by simp; omega
    have q4 : (op == 4) = false := by simp; omega
    have q5 : (op == 18) = false := by simp; omega
    have q6 : (op == 19) = false := by simp; omega
    have q7 : (op == 20) = false := by simp; omega
    have q8 : decide (5 ≤ op) = false := decide_eq_false (by omega)
    have q9 : decide (op ≤ 17) = true := decide_eq_true (by omega)
    have qa : isAgg op = false := by unfold isAgg; simp; omega
    go_enter Try.func91, Try.ntmps91
    go_wp2_with (first | (go_at_call 47; refine (isR_any op h0 h1 _).mono ?_; rintro e w' ⟨rfl, rfl⟩) | (go_at_call 102; refine (aggArgs_any op h0 h1 _).mono ?_; rintro e w' ⟨rfl, rfl⟩))
    go_ret
    exact ⟨rfl, rfl⟩
  · rw [show argsR op = 0 by unfold argsR; repeat (first | rfl | omega | split)]
    have q1 : (op == 1) = false := by simp; omega
    have q2 : (op == 2) = true := by simp; omega
    have q3 : (op == 3) = false := by simp; omega
    have q4 : (op == 4) = false := by simp; omega
    have q5 : (op == 18) = false := by simp; omega
    have q6 : (op == 19) = false := by simp; omega
    have q7 : (op == 20) = false := by simp; omega
    have q8 : decide (5 ≤ op) = false := decide_eq_false (by omega)
    have q9 : decide (op ≤ 17) = true := decide_eq_true (by omega)
    have qa : isAgg op = false := by unfold isAgg; simp; omega
    go_enter Try.func91, Try.ntmps91
    go_wp2_with (first | (go_at_call 47; refine (isR_any op h0 h1 _).mono ?_; rintro e w' ⟨rfl, rfl⟩) | (go_at_call 102; refine (aggArgs_any op h0 h1 _).mono ?_; rintro e w' ⟨rfl, rfl⟩))
    go_ret
    exact ⟨rfl, rfl⟩
  · rw [show argsR op = 1 by unfold argsR; repeat (first | rfl | omega | split)]
    have q1 : (op == 1) = false := by simp; omega
    have q2 : (op == 2) = false := by simp; omega
    have q3 : (op == 3) = true := by simp; omega
    have q4 : (op == 4) = false := by simp; omega
    have q5 : (op == 18) = false := by simp; omega
    have q6 : (op == 19) = false := by simp; omega
    have q7 : (op == 20) = false := by simp; omega
    have q8 : decide (5 ≤ op) = false := decide_eq_false (by omega)
    have q9 : decide (op ≤ 17) = true := decide_eq_true (by omega)
    have qa : isAgg op = false := by unfold isAgg; simp; omega
    go_enter Try.func91, Try.ntmps91
    go_wp2_with (first | (go_at_call 47; refine (isR_any op h0 h1 _).mono ?_; rintro e w' ⟨rfl, rfl⟩) | (go_at_call 102; refine (aggArgs_any op h0 h1 _).mono ?_; rintro e w' ⟨rfl, rfl⟩))
    go_ret
    exact ⟨rfl, rfl⟩
  · rw [show argsR op = 1 by unfold argsR; repeat (first | rfl | omega | split)]
    have q1 : (op == 1) = false := by simp; omega
    have q2 : (op == 2) = false := by simp; omega
    have q3 : (op == 3) = false := by simp; omega
    have q4 : (op == 4) = true := by simp; omega
    have q5 : (op == 18) = false := by simp; omega
    have q6 : (op == 19) = false := by simp; omega
    have q7 : (op == 20) = false := by simp; omega
    have q8 : decide (5 ≤ op) = false := decide_eq_false (by omega)
    have q9 : decide (op ≤ 17) = true := decide_eq_true (by omega)
    have qa : isAgg op = false := by unfold isAgg; simp; omega
    go_enter Try.func91, Try.ntmps91
    go_wp2_with (first | (go_at_call 47; refine (isR_any op h0 h1 _).mono ?_; rintro e w' ⟨rfl, rfl⟩) | (go_at_call 102; refine (aggArgs_any op h0 h1 _).mono ?_; rintro e w' ⟨rfl, rfl⟩))
    go_ret
    exact ⟨rfl, rfl⟩
  · rw [show argsR op = 2 by unfold argsR; repeat (first | rfl | omega | split)]
    have q1 : (op == 1) = false := by simp; omega
    have q2 : (op == 2) = false := by simp; omega
    have q3 : (op == 3) = false := by simp; omega
    have q4 : (op == 4) = false := by simp; omega
    have q5 : (op == 18) = false := by simp; omega
    have q6 : (op == 19) = false := by simp; omega
    have q7 : (op == 20) = false := by simp; omega
    have q8 : decide (5 ≤ op) = true := decide_eq_true (by omega)
    have q9 : decide (op ≤ 17) = true := decide_eq_true (by omega)
    have qa : isAgg op = false := by unfold isAgg; simp; omega
    go_enter Try.func91, Try.ntmps91
    go_wp2_with (first | (go_at_call 47; refine (isR_any op h0 h1 _).mono ?_; rintro e w' ⟨rfl, rfl⟩) | (go_at_call 102; refine (aggArgs_any op h0 h1 _).mono ?_; rintro e w' ⟨rfl, rfl⟩))
    go_ret
    exact ⟨rfl, rfl⟩
  · rw [show argsR op = 2 by unfold argsR; repeat (first | rfl | omega | split)]
    have q1 : (op == 1) = false := by simp; omega
    have q2 : (op == 2) = false := by simp; omega
    have q3 : (op == 3) = false := by simp; omega
    have q4 : (op == 4) = false := by simp; omega
    have q5 : (op == 18) = false := by simp; omega
    have q6 : (op == 19) = false := by simp; omega
    have q7 : (op == 20) = false := by simp; omega
    have q8 : decide (5 ≤ op) = true := decide_eq_true (by omega)
    have q9 : decide (op ≤ 17) = true := decide_eq_true (by omega)
    have qa : isAgg op = false := by unfold isAgg; simp; omega
    go_enter Try.func91, Try.ntmps91
    go_wp2_with (first | (go_at_call 47; refine (isR_any op h0 h1 _).mono ?_; rintro e w' ⟨rfl, rfl⟩) | (go_at_call 102; refine (aggArgs_any op h0 h1 _).mono ?_; rintro e w' ⟨rfl, rfl⟩))
    go_ret
    exact ⟨rfl, rfl⟩
  · rw [show argsR op = 2 by unfold argsR; repeat (first | rfl | omega | split)]
    have q1 : (op == 1) = false := by simp; omega
    have q2 : (op == 2) = false := by simp; omega
    have q3 : (op == 3) = false := by simp; omega
    have q4 : (op == 4) = false := by simp; omega
    have q5 : (op == 18) = false := by simp; omega
    have q6 : (op == 19) = false := by simp; omega
    have q7 : (op == 20) = false := by simp; omega
    have q8 : decide (5 ≤ op) = true := decide_eq_true (by omega)
    have q9 : decide (op ≤ 17) = true := decide_eq_true (by omega)
    have qa : isAgg op = false := by unfold isAgg; simp; omega
    go_enter Try.func91, Try.ntmps91
    go_wp2_with (first | (go_at_call 47; refine (isR_any op h0 h1 _).mono ?_; rintro e w' ⟨rfl, rfl⟩) | (go_at_call 102; refine (aggArgs_any op h0 h1 _).mono ?_; rintro e w' ⟨rfl, rfl⟩))
    go_ret
    exact ⟨rfl, rfl⟩
  · rw [show argsR op = 2 by unfold argsR; repeat (first | rfl | omega | split)]
    have q1 : (op == 1) = false := by simp; omega
    have q2 : (op == 2) = false := by simp; omega
    have q3 : (op == 3) = false := by simp; omega
    have q4 : (op == 4) = false := by simp; omega
    have q5 : (op == 18) = false := by simp; omega
    have q6 : (op == 19) = false := by simp; omega
    have q7 : (op == 20) = false := by simp; omega
    have q8 : decide (5 ≤ op) = true := decide_eq_true (by omega)
    have q9 : decide (op ≤ 17) = true := decide_eq_true (by omega)
    have qa : isAgg op = false := by unfold isAgg; simp; omega
    go_enter Try.func91, Try.ntmps91
    go_wp2_with (first | (go_at_call 47; refine (isR_any op h0 h1 _).mono ?_; rintro e w' ⟨rfl, rfl⟩) | (go_at_call 102; refine (aggArgs_any op h0 h1 _).mono ?_; rintro e w' ⟨rfl, rfl⟩))
    go_ret
    exact ⟨rfl, rfl⟩
  · rw [show argsR op = 1 by unfold argsR; repeat (first | rfl | omega | split)]
    have q1 : (op == 1) = false := by simp; omega
    have q2 : (op == 2) = false := by simp; omega
    have q3 : (op == 3) = false := by simp; omega
    have q4 : (op == 4) = false := by simp; omega
    have q5 : (op == 18) = true := by simp; omega
    have q6 : (op == 19) = false := by simp; omega
    have q7 : (op == 20) = false := by simp; omega
    have q8 : decide (5 ≤ op) = true := decide_eq_true (by omega)
    have q9 : decide (op ≤ 17) = false := decide_eq_false (by omega)
    have qa : isAgg op = false := by unfold isAgg; simp; omega
    go_enter Try.func91, Try.ntmps91
    go_wp2_with (first | (go_at_call 47; refine (isR_any op h0 h1 _).mono ?_; rintro e w' ⟨rfl, rfl⟩) | (go_at_call 102; refine (aggArgs_any op h0 h1 _).mono ?_; rintro e w' ⟨rfl, rfl⟩))
    go_ret
    exact ⟨rfl, rfl⟩
  · rw [show argsR op = 1 by unfold argsR; repeat (first | rfl | omega | split)]
    have q1 : (op == 1) = false := by simp; omega
    have q2 : (op == 2) = false := by simp; omega
    have q3 : (op == 3) = false := by simp; omega
    have q4 : (op == 4) = false := by simp; omega
    have q5 : (op == 18) = false := by simp; omega
    have q6 : (op == 19) = true := by simp; omega
    have q7 : (op == 20) = false := by simp; omega
    have q8 : decide (5 ≤ op) = true := decide_eq_true (by omega)
    have q9 : decide (op ≤ 17) = false := decide_eq_false (by omega)
    have qa : isAgg op = false := by unfold isAgg; simp; omega
    go_enter Try.func91, Try.ntmps91
    go_wp2_with (first | (go_at_call 47; refine (isR_any op h0 h1 _).mono ?_; rintro e w' ⟨rfl, rfl⟩) | (go_at_call 102; refine (aggArgs_any op h0 h1 _).mono ?_; rintro e w' ⟨rfl, rfl⟩))
    go_ret
    exact ⟨rfl, rfl⟩
  · rw [show argsR op = 1 by unfold argsR; repeat (first | rfl | omega | split)]
    have q1 : (op == 1) = false := by simp; omega
    have q2 : (op == 2) = false := by simp; omega
    have q3 : (op == 3) = false := by simp; omega
    have q4 : (op == 4) = false := by simp; omega
    have q5 : (op == 18) = false := by simp; omega
    have q6 : (op == 19) = false := by simp; omega
    have q7 : (op == 20) = true := by simp; omega
    have q8 : decide (5 ≤ op) = true := decide_eq_true (by omega)
    have q9 : decide (op ≤ 17) = false := decide_eq_false (by omega)
    have qa : isAgg op = false := by unfold isAgg; simp; omega
    go_enter Try.func91, Try.ntmps91
    go_wp2_with (first | (go_at_call 47; refine (isR_any op h0 h1 _).mono ?_; rintro e w' ⟨rfl, rfl⟩) | (go_at_call 102; refine (aggArgs_any op h0 h1 _).mono ?_; rintro e w' ⟨rfl, rfl⟩))
    go_ret
    exact ⟨rfl, rfl⟩
  · rw [show argsR op = 0 by unfold argsR; repeat (first | rfl | omega | split)]
    have q1 : (op == 1) = false := by simp; omega
    have q2 : (op == 2) = false := by simp; omega
    have q3 : (op == 3) = false := by simp; omega
    have q4 : (op == 4) = false := by simp; omega
    have q5 : (op == 18) = false := by simp; omega
    have q6 : (op == 19) = false := by simp; omega
    have q7 : (op == 20) = false := by simp; omega
    have q8 : decide (5 ≤ op) = true := decide_eq_true (by omega)
    have q9 : decide (op ≤ 17) = false := decide_eq_false (by omega)
    have qa : isAgg op = true := by unfold isAgg; simp; omega
    have qb : aggArgs op = 0 := by unfold aggArgs; repeat (first | rfl | omega | split)
    go_enter Try.func91, Try.ntmps91
    go_wp2_with (first | (go_at_call 47; refine (isR_any op h0 h1 _).mono ?_; rintro e w' ⟨rfl, rfl⟩) | (go_at_call 102; refine (aggArgs_any op h0 h1 _).mono ?_; rintro e w' ⟨rfl, rfl⟩))
    go_ret
    exact ⟨rfl, rfl⟩
  · rw [show argsR op = 1 by unfold argsR; repeat (first | rfl | omega | split)]
    have q1 : (op == 1) = false := by simp; omega
    have q2 : (op == 2) = false := by simp; omega
    have q3 : (op == 3) = false := by simp; omega
    have q4 : (op == 4) = false := by simp; omega
    have q5 : (op == 18) = false := by simp; omega
    have q6 : (op == 19) = false := by simp; omega
    have q7 : (op == 20) = false := by simp; omega
    have q8 : decide (5 ≤ op) = true := decide_eq_true (by omega)
    have q9 : decide (op ≤ 17) = false := decide_eq_false (by omega)
    have qa : isAgg op = true := by unfold isAgg; simp; omega
    have qb : aggArgs op = 1 := by unfold aggArgs; repeat (first | rfl | omega | split)
    go_enter Try.func91, Try.ntmps91
    go_wp2_with (first | (go_at_call 47; refine (isR_any op h0 h1 _).mono ?_; rintro e w' ⟨rfl, rfl⟩) | (go_at_call 102; refine (aggArgs_any op h0 h1 _).mono ?_; rintro e w' ⟨rfl, rfl⟩))
    go_ret
    exact ⟨rfl, rfl⟩
  · rw [show argsR op = 2 by unfold argsR; repeat (first | rfl | omega | split)]
    have q1 : (op == 1) = false := by simp; omega
    have q2 : (op == 2) = false := by simp; omega
    have q3 : (op == 3) = false := by simp; omega
    have q4 : (op == 4) = false := by simp; omega
    have q5 : (op == 18) = false := by simp; omega
    have q6 : (op == 19) = false := by simp; omega
    have q7 : (op == 20) = false := by simp; omega
    have q8 : decide (5 ≤ op) = true := decide_eq_true (by omega)
    have q9 : decide (op ≤ 17) = false := decide_eq_false (by omega)
    have qa : isAgg op = true := by unfold isAgg; simp; omega
    have qb : aggArgs op = 2 := by unfold aggArgs; repeat (first | rfl | omega | split)
    go_enter Try.func91, Try.ntmps91
    go_wp2_with (first | (go_at_call 47; refine (isR_any op h0 h1 _).mono ?_; rintro e w' ⟨rfl, rfl⟩) | (go_at_call 102; refine (aggArgs_any op h0 h1 _).mono ?_; rintro e w' ⟨rfl, rfl⟩))
    go_ret
    exact ⟨rfl, rfl⟩
  · rw [show argsR op = 2 by unfold argsR; repeat (first | rfl | omega | split)]
    have q1 : (op == 1) = false := by simp; omega
    have q2 : (op == 2) = false := by simp; omega
    have q3 : (op == 3) = false := by simp; omega
    have q4 : (op == 4) = false := by simp; omega
    have q5 : (op == 18) = false := by simp; omega
    have q6 : (op == 19) = false := by simp; omega
    have q7 : (op == 20) = false := by simp; omega
    have q8 : decide (5 ≤ op) = true := decide_eq_true (by omega)
    have q9 : decide (op ≤ 17) = false := decide_eq_false (by omega)
    have qa : isAgg op = true := by unfold isAgg; simp; omega
    have qb : aggArgs op = 2 := by unfold aggArgs; repeat (first | rfl | omega | split)
    go_enter Try.func91, Try.ntmps91
    go_wp2_with (first | (go_at_call 47; refine (isR_any op h0 h1 _).mono ?_; rintro e w' ⟨rfl, rfl⟩) | (go_at_call 102; refine (aggArgs_any op h0 h1 _).mono ?_; rintro e w' ⟨rfl, rfl⟩))
    go_ret
    exact ⟨rfl, rfl⟩
  · rw [show argsR op = -1 by unfold argsR; repeat (first | rfl | omega | split)]
    have q1 : (op == 1) = false := by simp; omega
    have q2 : (op == 2) = false := by simp; omega
    have q3 : (op == 3) = false := by simp; omega
    have q4 : (op == 4) = false := by simp; omega
    have q5 : (op == 18) = false := by simp; omega
    have q6 : (op == 19) = false := by simp; omega
    have q7 : (op == 20) = false := by simp; omega
    have q8 : decide (5 ≤ op) = true := decide_eq_true (by omega)
    have q9 : decide (op ≤ 17) = false := decide_eq_false (by omega)
    have qa : isAgg op = false := by unfold isAgg; simp; omega
    go_enter Try.func91, Try.ntmps91
    go_wp2_with (first | (go_at_call 47; refine (isR_any op h0 h1 _).mono ?_; rintro e w' ⟨rfl, rfl⟩) | (go_at_call 102; refine (aggArgs_any op h0 h1 _).mono ?_; rintro e w' ⟨rfl, rfl⟩))
    go_ret
    exact ⟨rfl, rfl⟩
set_option maxHeartbeats 1000000 in
theorem wantsR_any (op : Int) (h0 : 0 ≤ op) (h1 : op ≤ 255) (w : World) : Calls Try.prog 49 #[.int .u8 op] w fun e w' => e = .returned (.int .u8 (wantsR op)) ∧ w = w' := by
  have hc : (0 ≤ op ∧ op ≤ 0) ∨ (1 ≤ op ∧ op ≤ 1) ∨ (2 ≤ op ∧ op ≤ 2) ∨ (3 ≤ op ∧ op ≤ 3) ∨ (4 ≤ op ∧ op ≤ 4) ∨ (5 ≤ op ∧ op ≤ 9) ∨ (10 ≤ op ∧ op ≤ 15) ∨ (16 ≤ op ∧ op ≤ 16) ∨ (17 ≤ op ∧ op ≤ 17) ∨ (18 ≤ op ∧ op ≤ 18) ∨ (19 ≤ op ∧ op ≤ 19) ∨ (20 ≤ op ∧ op ≤ 20) ∨ (21 ≤ op ∧ op ≤ 21) ∨ (22 ≤ op ∧ op ≤ 26) ∨ (27 ≤ op ∧ op ≤ 27) ∨ (28 ≤ op ∧ op ≤ 28) ∨ (29 ≤ op ∧ op ≤ 255) := by omega
  rcases hc with ⟨a0, a1⟩ | ⟨a0, a1⟩ | ⟨a0, a1⟩ | ⟨a0, a1⟩ | ⟨a0, a1⟩ | ⟨a0, a1⟩ | ⟨a0, a1⟩ | ⟨a0, a1⟩ | ⟨a0, a1⟩ | ⟨a0, a1⟩ | ⟨a0, a1⟩ | ⟨a0, a1⟩ | ⟨a0, a1⟩ | ⟨a0, a1⟩ | ⟨a0, a1⟩ | ⟨a0, a1⟩ | ⟨a0, a1⟩
  · rw [show wantsR op = 0 by unfold wantsR; repeat (first | rfl | omega | split)]
    have q1 : (op == 3) = false := by simp; omega
    have q2 : (op == 20) = false := by simp; omega
    have q3 : decide (5 ≤ op) = false := decide_eq_false (by omega)
    have q4 : decide (op ≤ 9) = true := decide_eq_true (by omega)
    have qa : isLogic op = false := by unfold isLogic; simp; omega
    go_enter Try.func49, Try.ntmps49
    go_wp2_with (go_at_call 93; refine (logicR_any op h0 h1 _).mono ?_; rintro e w' ⟨rfl, rfl⟩)
    go_ret
    exact ⟨rfl, rfl⟩
  · rw [show wantsR op = 0 by unfold wantsR; repeat (first | rfl | omega | split)]
    have q1 : (op == 3) = false := by simp; omega
    have q2 : (op == 20) = false := by simp; omega
    have q3 : decide (5 ≤ op) = false := decide_eq_false (by omega)
    have q4 : decide (op ≤ 9) = true := decide_eq_true (by omega)
    have qa : isLogic op = false := by unfold isLogic; simp; omega
    go_enter Try.func49, Try.ntmps49
    go_wp2_with (go_at_call 93; refine (logicR_any op h0 h1 _).mono ?_; rintro e w' ⟨rfl, rfl⟩)
    go_ret
    exact ⟨rfl, rfl⟩
  · rw [show wantsR op = 0 by unfold wantsR; repeat (first | rfl | omega | split)]
    have q1 : (op == 3) = false := by simp; omega
    have q2 : (op == 20) = false := by simp; omega
    have q3 : decide (5 ≤ op) = false := decide_eq_false (by omega)
    have q4 : decide (op ≤ 9) = true := decide_eq_true (by omega)
    have qa : isLogic op = false := by unfold isLogic; simp; omega
    go_enter Try.func49, Try.ntmps49
    go_wp2_with (go_at_call 93; refine (logicR_any op h0 h1 _).mono ?_; rintro e w' ⟨rfl, rfl⟩)
    go_ret
    exact ⟨rfl, rfl⟩
  · rw [show wantsR op = 2 by unfold wantsR; repeat (first | rfl | omega | split)]
    have q1 : (op == 3) = true := by simp; omega
    have q2 : (op == 20) = false := by simp; omega
    have q3 : decide (5 ≤ op) = false := decide_eq_false (by omega)
    have q4 : decide (op ≤ 9) = true := decide_eq_true (by omega)
    have qa : isLogic op = false := by unfold isLogic; simp; omega
    go_enter Try.func49, Try.ntmps49
    go_wp2_with (go_at_call 93; refine (logicR_any op h0 h1 _).mono ?_; rintro e w' ⟨rfl, rfl⟩)
    go_ret
    exact ⟨rfl, rfl⟩
  · rw [show wantsR op = 1 by unfold wantsR; repeat (first | rfl | omega | split)]
    have q1 : (op == 3) = false := by simp; omega
    have q2 : (op == 20) = false := by simp; omega
    have q3 : decide (5 ≤ op) = false := decide_eq_false (by omega)
    have q4 : decide (op ≤ 9) = true := decide_eq_true (by omega)
    have qa : isLogic op = true := by unfold isLogic; simp; omega
    go_enter Try.func49, Try.ntmps49
    go_wp2_with (go_at_call 93; refine (logicR_any op h0 h1 _).mono ?_; rintro e w' ⟨rfl, rfl⟩)
    go_ret
    exact ⟨rfl, rfl⟩
  · rw [show wantsR op = 2 by unfold wantsR; repeat (first | rfl | omega | split)]
    have q1 : (op == 3) = false := by simp; omega
    have q2 : (op == 20) = false := by simp; omega
    have q3 : decide (5 ≤ op) = true := decide_eq_true (by omega)
    have q4 : decide (op ≤ 9) = true := decide_eq_true (by omega)
    have qa : isLogic op = false := by unfold isLogic; simp; omega
    go_enter Try.func49, Try.ntmps49
    go_wp2_with (go_at_call 93; refine (logicR_any op h0 h1 _).mono ?_; rintro e w' ⟨rfl, rfl⟩)
    go_ret
    exact ⟨rfl, rfl⟩
  · rw [show wantsR op = 0 by unfold wantsR; repeat (first | rfl | omega | split)]
    have q1 : (op == 3) = false := by simp; omega
    have q2 : (op == 20) = false := by simp; omega
    have q3 : decide (5 ≤ op) = true := decide_eq_true (by omega)
    have q4 : decide (op ≤ 9) = false := decide_eq_false (by omega)
    have qa : isLogic op = false := by unfold isLogic; simp; omega
    go_enter Try.func49, Try.ntmps49
    go_wp2_with (go_at_call 93; refine (logicR_any op h0 h1 _).mono ?_; rintro e w' ⟨rfl, rfl⟩)
    go_ret
    exact ⟨rfl, rfl⟩
  · rw [show wantsR op = 1 by unfold wantsR; repeat (first | rfl | omega | split)]
    have q1 : (op == 3) = false := by simp; omega
    have q2 : (op == 20) = false := by simp; omega
    have q3 : decide (5 ≤ op) = true := decide_eq_true (by omega)
    have q4 : decide (op ≤ 9) = false := decide_eq_false (by omega)
    have qa : isLogic op = true := by unfold isLogic; simp; omega
    go_enter Try.func49, Try.ntmps49
    go_wp2_with (go_at_call 93; refine (logicR_any op h0 h1 _).mono ?_; rintro e w' ⟨rfl, rfl⟩)
    go_ret
    exact ⟨rfl, rfl⟩
  · rw [show wantsR op = 1 by unfold wantsR; repeat (first | rfl | omega | split)]
    have q1 : (op == 3) = false := by simp; omega
    have q2 : (op == 20) = false := by simp; omega
    have q3 : decide (5 ≤ op) = true := decide_eq_true (by omega)
    have q4 : decide (op ≤ 9) = false := decide_eq_false (by omega)
    have qa : isLogic op = true := by unfold isLogic; simp; omega
    go_enter Try.func49, Try.ntmps49
    go_wp2_with (go_at_call 93; refine (logicR_any op h0 h1 _).mono ?_; rintro e w' ⟨rfl, rfl⟩)
    go_ret
    exact ⟨rfl, rfl⟩
  · rw [show wantsR op = 0 by unfold wantsR; repeat (first | rfl | omega | split)]
    have q1 : (op == 3) = false := by simp; omega
    have q2 : (op == 20) = false := by simp; omega
    have q3 : decide (5 ≤ op) = true := decide_eq_true (by omega)
    have q4 : decide (op ≤ 9) = false := decide_eq_false (by omega)
    have qa : isLogic op = false := by unfold isLogic; simp; omega
    go_enter Try.func49, Try.ntmps49
    go_wp2_with (go_at_call 93; refine (logicR_any op h0 h1 _).mono ?_; rintro e w' ⟨rfl, rfl⟩)
    go_ret
    exact ⟨rfl, rfl⟩
  · rw [show wantsR op = 0 by unfold wantsR; repeat (first | rfl | omega | split)]
    have q1 : (op == 3) = false := by simp; omega
    have q2 : (op == 20) = false := by simp; omega
    have q3 : decide (5 ≤ op) = true := decide_eq_true (by omega)
    have q4 : decide (op ≤ 9) = false := decide_eq_false (by omega)
    have qa : isLogic op = false := by unfold isLogic; simp; omega
    go_enter Try.func49, Try.ntmps49
    go_wp2_with (go_at_call 93; refine (logicR_any op h0 h1 _).mono ?_; rintro e w' ⟨rfl, rfl⟩)
    go_ret
    exact ⟨rfl, rfl⟩
  · rw [show wantsR op = 2 by unfold wantsR; repeat (first | rfl | omega | split)]
    have q1 : (op == 3) = false := by simp; omega
    have q2 : (op == 20) = true := by simp; omega
    have q3 : decide (5 ≤ op) = true := decide_eq_true (by omega)
    have q4 : decide (op ≤ 9) = false := decide_eq_false (by omega)
    have qa : isLogic op = false := by unfold isLogic; simp; omega
    go_enter Try.func49, Try.ntmps49
    go_wp2_with (go_at_call 93; refine (logicR_any op h0 h1 _).mono ?_; rintro e w' ⟨rfl, rfl⟩)
    go_ret
    exact ⟨rfl, rfl⟩
  · rw [show wantsR op = 0 by unfold wantsR; repeat (first | rfl | omega | split)]
    have q1 : (op == 3) = false := by simp; omega
    have q2 : (op == 20) = false := by simp; omega
    have q3 : decide (5 ≤ op) = true := decide_eq_true (by omega)
    have q4 : decide (op ≤ 9) = false := decide_eq_false (by omega)
    have qa : isLogic op = false := by unfold isLogic; simp; omega
    go_enter Try.func49, Try.ntmps49
    go_wp2_with (go_at_call 93; refine (logicR_any op h0 h1 _).mono ?_; rintro e w' ⟨rfl, rfl⟩)
    go_ret
    exact ⟨rfl, rfl⟩
  · rw [show wantsR op = 0 by unfold wantsR; repeat (first | rfl | omega | split)]
    have q1 : (op == 3) = false := by simp; omega
    have q2 : (op == 20) = false := by simp; omega
    have q3 : decide (5 ≤ op) = true := decide_eq_true (by omega)
    have q4 : decide (op ≤ 9) = false := decide_eq_false (by omega)
    have qa : isLogic op = false := by unfold isLogic; simp; omega
    go_enter Try.func49, Try.ntmps49
    go_wp2_with (go_at_call 93; refine (logicR_any op h0 h1 _).mono ?_; rintro e w' ⟨rfl, rfl⟩)
    go_ret
    exact ⟨rfl, rfl⟩
  · rw [show wantsR op = 0 by unfold wantsR; repeat (first | rfl | omega | split)]
    have q1 : (op == 3) = false := by simp; omega
    have q2 : (op == 20) = false := by simp; omega
    have q3 : decide (5 ≤ op) = true := decide_eq_true (by omega)
    have q4 : decide (op ≤ 9) = false := decide_eq_false (by omega)
    have qa : isLogic op = false := by unfold isLogic; simp; omega
    go_enter Try.func49, Try.ntmps49
    go_wp2_with (go_at_call 93; refine (logicR_any op h0 h1 _).mono ?_; rintro e w' ⟨rfl, rfl⟩)
    go_ret
    exact ⟨rfl, rfl⟩
  · rw [show wantsR op = 0 by unfold wantsR; repeat (first | rfl | omega | split)]
    have q1 : (op == 3) = false := by simp; omega
    have q2 : (op == 20) = false := by simp; omega
    have q3 : decide (5 ≤ op) = true := decide_eq_true (by omega)
    have q4 : decide (op ≤ 9) = false := decide_eq_false (by omega)
    have qa : isLogic op = false := by unfold isLogic; simp; omega
    go_enter Try.func49, Try.ntmps49
    go_wp2_with (go_at_call 93; refine (logicR_any op h0 h1 _).mono ?_; rintro e w' ⟨rfl, rfl⟩)
    go_ret
    exact ⟨rfl, rfl⟩
  · rw [show wantsR op = 0 by unfold wantsR; repeat (first | rfl | omega | split)]
    have q1 : (op == 3) = false := by simp; omega
    have q2 : (op == 20) = false := by simp; omega
    have q3 : decide (5 ≤ op) = true := decide_eq_true (by omega)
    have q4 : decide (op ≤ 9) = false := decide_eq_false (by omega)
    have qa : isLogic op = false := by unfold isLogic; simp; omega
    go_enter Try.func49, Try.ntmps49
    go_wp2_with (go_at_call 93; refine (logicR_any op h0 h1 _).mono ?_; rintro e w' ⟨rfl, rfl⟩)
    go_ret
    exact ⟨rfl, rfl⟩
set_option maxHeartbeats 1000000 in
theorem widthR_any (n : Int) (w : World) : Calls Try.prog 92 #[.int .i64 n] w fun e w' => e = .returned (.bool (decide (1 ≤ n ∧ n ≤ 1099511627776))) ∧ w = w' := by
  by_cases h1 : 1 ≤ n
  · have t1 := decide_eq_true h1
    by_cases h2 : n ≤ 1099511627776
    · have t2 := decide_eq_true h2
      rw [show decide (1 ≤ n ∧ n ≤ 1099511627776) = true by simp; omega]
      go_enter Try.func92, Try.ntmps92
      go_wp2_with fail
      go_ret
      exact ⟨rfl, rfl⟩
    · have t2 := decide_eq_false h2
      rw [show decide (1 ≤ n ∧ n ≤ 1099511627776) = false by simp; omega]
      go_enter Try.func92, Try.ntmps92
      go_wp2_with fail
      go_ret
      exact ⟨rfl, rfl⟩
  · have t1 := decide_eq_false h1
    rw [show decide (1 ≤ n ∧ n ≤ 1099511627776) = false by simp; omega]
    go_enter Try.func92, Try.ntmps92
    go_wp2_with fail
    go_ret
    exact ⟨rfl, rfl⟩
def goesR (a b : Int) : Bool := a == 0 || b == 0 || a == b
set_option maxHeartbeats 1000000 in
theorem goesR_any (a b : Int) (w : World) : Calls Try.prog 50 #[.int .u8 a, .int .u8 b] w fun e w' => e = .returned (.bool (goesR a b)) ∧ w = w' := by
  unfold goesR
  cases h1 : (a == 0)
  · cases h2 : (b == 0)
    · go_enter Try.func50, Try.ntmps50
      go_wp2_with fail
      go_ret
      exact ⟨rfl, rfl⟩
    · go_enter Try.func50, Try.ntmps50
      go_wp2_with fail
      go_ret
      exact ⟨rfl, rfl⟩
  · go_enter Try.func50, Try.ntmps50
    go_wp2_with fail
    go_ret
    exact ⟨rfl, rfl⟩
set_option maxHeartbeats 1000000 in
theorem truthR_any (b : Bool) (w : World) : Calls Try.prog 53 #[.bool b] w fun e w' => e = .returned (valV (boolV b)) ∧ Below w.heap.size w w' := by
  cases b
  · go_enter Try.func53, Try.ntmps53
    go_wp2_with fail
    exact bodyPost_ret (v := .agg #[.int .u8 1, .int .i64 0, .string ByteArray.empty]) (by simp [results, Try.results53, go_sem]; try rfl) rfl ⟨rfl, by go_grown⟩
  · go_enter Try.func53, Try.ntmps53
    go_wp2_with fail
    exact bodyPost_ret (v := .agg #[.int .u8 1, .int .i64 1, .string ByteArray.empty]) (by simp [results, Try.results53, go_sem]; try rfl) rfl ⟨rfl, by go_grown⟩
set_option maxHeartbeats 1000000 in
theorem wrong_any (b : Bool) (w : World) : Calls Try.prog 94 #[.bool b] w fun e w' => e = .returned (.int .i64 (if b then 43 else 0)) ∧ w = w' := by
  cases b
  · go_enter Try.func94, Try.ntmps94
    go_wp2_with fail
    go_ret
    exact ⟨rfl, rfl⟩
  · go_enter Try.func94, Try.ntmps94
    go_wp2_with fail
    go_ret
    exact ⟨rfl, rfl⟩
end Go.Proofs.Ytlfahfoffdbpfaa
