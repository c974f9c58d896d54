/- Leaves of layer 15: value.Good, and the small functions that operations are made of. -/
import Derived.Test.YtlfahfoffdbpfaaCmp
import Derived.Test.YtlfahfoffdbpfaaOwn
import Derived.BigRegion
import Derived.Deep.RegionWith
namespace Go.Proofs.Ytlfahfoffdbpfaa
open Go.ChangeShapes Go.WideShapes Go.ChangeAt Go.RowKit
set_option linter.unusedVariables false
set_option linter.unusedSimpArgs false

def zeroVal : Val := ⟨0, 0, ByteArray.empty⟩
def num (n : Int) : Val := ⟨2, n, ByteArray.empty⟩
def boolV (b : Bool) : Val := ⟨1, if b then 1 else 0, ByteArray.empty⟩
def valV (v : Val) : Value := .agg #[.int .u8 v.k, .int .i64 v.n, .string v.s]
/-- a value, and an error's number -/
def ansV (v : Val) (err : Int) : Value := .tuple #[.agg #[.int .u8 v.k, .int .i64 v.n, .string v.s], .int .i64 err]
def Val.Ok (a : Val) : Prop := -9223372036854775808 ≤ a.n ∧ a.n ≤ 9223372036854775807

theorem Below.then {B : Nat} {a b c : World} (h : Below B a b) (hB : B ≤ a.heap.size) (k : Below b.heap.size b c) : Below B a c := h.trans (k.mono (Nat.le_trans hB h.size))
theorem Later.then {a b c : World} (h : Below a.heap.size a b) (k : Below b.heap.size b c) : Below a.heap.size a c := h.trans (k.mono h.size)
theorem later_new (w : World) (o : Obj) : Below w.heap.size w (w.alloc o) := (Below.refl _ _).alloc (Nat.le_refl _) o
theorem val_cells {w : World} {g : Nat} {t : TypeId} {k n : Int} {s : ByteArray} (h : Blk w g t #[.int .u8 k, .int .i64 n, .string s]) : w.cell? ⟨g, 0, none⟩ = some (.int .u8 k) ∧ w.cell? ⟨g, 1, none⟩ = some (.int .i64 n) ∧ w.cell? ⟨g, 2, none⟩ = some (.string s) := ⟨h.cell 0, h.cell 1, h.cell 2⟩

def emptyS (s : ByteArray) : Bool := s.toList == []
/-- a good value -/
def good (v : Val) : Bool :=
  if v.k = 0 then (v.n == 0 && emptyS v.s) else if v.k = 1 then (emptyS v.s && (v.n == 0 || v.n == 1)) else if v.k = 2 then emptyS v.s else if v.k = 3 then v.n == 0 else false

set_option maxHeartbeats 2000000 in
theorem good_any (v : Val) (w : World) : Calls Try.prog 16 #[.agg #[.int .u8 v.k, .int .i64 v.n, .string v.s]] w fun e w' => e = .returned (.bool (good v)) ∧ Below w.heap.size w w' := by
  obtain ⟨k, n, s⟩ := v
  unfold good emptyS
  dsimp only
  by_cases h0 : k = 0
  · subst h0
    go_enter Try.func16, Try.ntmps16
    go_wp2
    all_goals
      go_ret
      refine ⟨?_, by go_grown⟩
      simp_all
  · have e0 : (k == 0) = false := by simpa using h0
    by_cases h1 : k = 1
    · subst h1
      cases hs : (s.toList == [])
      · go_enter Try.func16, Try.ntmps16
        go_wp2
        all_goals
          go_ret
          refine ⟨?_, by go_grown⟩
          simp_all
      · cases hn : (n == 0)
        · go_enter Try.func16, Try.ntmps16
          go_wp2
          all_goals
            go_ret
            refine ⟨?_, by go_grown⟩
            simp_all
        · go_enter Try.func16, Try.ntmps16
          go_wp2
          all_goals
            go_ret
            refine ⟨?_, by go_grown⟩
            simp_all
    · have e1 : (k == 1) = false := by simpa using h1
      by_cases h2 : k = 2
      · subst h2
        go_enter Try.func16, Try.ntmps16
        go_wp2
        all_goals
          go_ret
          refine ⟨?_, by go_grown⟩
          simp_all
      · have e2 : (k == 2) = false := by simpa using h2
        by_cases h3 : k = 3
        · subst h3
          go_enter Try.func16, Try.ntmps16
          go_wp2
          all_goals
            go_ret
            refine ⟨?_, by go_grown⟩
            simp_all
        · have e3 : (k == 3) = false := by simpa using h3
          go_enter Try.func16, Try.ntmps16
          go_wp2
          all_goals
            go_ret
            refine ⟨?_, by go_grown⟩
            simp_all

set_option maxHeartbeats 1000000 in
theorem truth_any (b : Bool) (w : World) : Calls Try.prog 68 #[.bool b] w fun e w' => e = .returned (ansV (boolV b) 0) ∧ Below w.heap.size w w' := by
  unfold ansV boolV
  cases b
  · go_enter Try.func68, Try.ntmps68
    go_wp2
    exact bodyPost_ret (v := .tuple #[.agg #[.int .u8 1, .int .i64 0, .string ByteArray.empty], .int .i64 0]) (by simp [results, Try.results68, go_sem]; try rfl) rfl ⟨rfl, by go_grown⟩
  · go_enter Try.func68, Try.ntmps68
    go_wp2
    exact bodyPost_ret (v := .tuple #[.agg #[.int .u8 1, .int .i64 1, .string ByteArray.empty], .int .i64 0]) (by simp [results, Try.results68, go_sem]; try rfl) rfl ⟨rfl, by go_grown⟩

/-- a number, if it is one of 64 bits -/
def numIf (n : Int) (ok : Bool) : Val × Int := if ok then (num n, 0) else (zeroVal, 43)
set_option maxHeartbeats 1000000 in
theorem number_any (n : Int) (ok : Bool) (w : World) : Calls Try.prog 66 #[.int .i64 n, .bool ok] w fun e w' => e = .returned (ansV (numIf n ok).1 (numIf n ok).2) ∧ Below w.heap.size w w' := by
  unfold ansV numIf
  cases ok
  · go_enter Try.func66, Try.ntmps66
    go_wp2
    exact bodyPost_ret (v := .tuple #[.agg #[.int .u8 0, .int .i64 0, .string ByteArray.empty], .int .i64 43]) (by simp [results, Try.results66, go_sem]; try rfl) rfl ⟨rfl, by go_grown⟩
  · go_enter Try.func66, Try.ntmps66
    go_wp2
    exact bodyPost_ret (v := .tuple #[.agg #[.int .u8 2, .int .i64 n, .string ByteArray.empty], .int .i64 0]) (by simp [results, Try.results66, go_sem]; try rfl) rfl ⟨rfl, by go_grown⟩

set_option maxHeartbeats 1000000 in
theorem width_any (n : Int) (w : World) : Calls Try.prog 58 #[.int .i64 n] w fun e w' => e = .returned (.bool (decide (1 ≤ n) && decide (n ≤ 1099511627776))) ∧ w = w' := by
  by_cases h1 : 1 ≤ n
  · have d1 : decide (1 ≤ n) = true := by simpa using h1
    rw [d1]
    go_enter Try.func58, Try.ntmps58
    go_wp2
    all_goals
      go_ret
      refine ⟨?_, by first | rfl | go_grown⟩
      simp_all
  · have d1 : decide (1 ≤ n) = false := by simpa using h1
    rw [d1]
    go_enter Try.func58, Try.ntmps58
    go_wp2
    all_goals
      go_ret
      refine ⟨?_, by first | rfl | go_grown⟩
      simp_all

/-- how many arguments an aggregate has -/
def aggN (op : Int) : Int := if op = 21 then 0 else if 22 ≤ op ∧ op ≤ 26 then 1 else if op = 27 ∨ op = 28 then 2 else -1
set_option maxHeartbeats 2000000 in
theorem aggregate_any (op : Int) (w : World) : Calls Try.prog 42 #[.int .u8 op] w fun e w' => e = .returned (.int .i64 (aggN op)) ∧ w = w' := by
  unfold aggN
  by_cases h1 : op = 21
  · subst h1
    go_enter Try.func42, Try.ntmps42
    go_wp2
    go_ret
    exact ⟨rfl, rfl⟩
  · have e1 : (op == 21) = false := by simpa using h1
    rw [if_neg h1]
    by_cases h2 : 22 ≤ op ∧ op ≤ 26
    · rw [if_pos h2]
      obtain ⟨h2, h3⟩ := h2
      have d2 : decide (22 ≤ op) = true := by simpa using h2
      have d3 : decide (op ≤ 26) = true := by simpa using h3
      go_enter Try.func42, Try.ntmps42
      go_wp2
      go_ret
      exact ⟨rfl, rfl⟩
    · rw [if_neg h2]
      have hor : decide (22 ≤ op) = false ∨ (decide (22 ≤ op) = true ∧ decide (op ≤ 26) = false) := by
        by_cases h : 22 ≤ op
        · right; simp; omega
        · left; simpa using h
      by_cases h3 : op = 27 ∨ op = 28
      · rw [if_pos h3]
        rcases h3 with rfl | rfl
        all_goals
          go_enter Try.func42, Try.ntmps42
          go_wp2
          go_ret
          exact ⟨rfl, rfl⟩
      · rw [if_neg h3]
        have e3 : (op == 27) = false := by rw [beq_eq_false_iff_ne]; omega
        have e4 : (op == 28) = false := by rw [beq_eq_false_iff_ne]; omega
        clear h1 h2 h3
        rcases hor with d2 | ⟨d2, d3⟩
        all_goals
          go_enter Try.func42, Try.ntmps42
          go_wp2
          go_ret
          exact ⟨rfl, rfl⟩
end Go.Proofs.Ytlfahfoffdbpfaa
