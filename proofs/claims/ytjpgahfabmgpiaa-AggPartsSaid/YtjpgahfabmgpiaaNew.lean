/- agg.Is, Args, New, Feed, Clone. -/
import Derived.Test.YtjpgahfabmgpiaaDoings
import Derived.Laws.EntriesVeiled
namespace Go.Proofs.Ytjpgahfabmgpiaa
open Go.ChangeShapes Go.WideShapes Go.ChangeAt Go.RowKit
set_option linter.unusedVariables false

def isAgg (op : Int) : Bool := decide (21 ≤ op) && decide (op ≤ 28)

set_option maxHeartbeats 1000000 in
set_option maxRecDepth 100000 in
theorem is_any (op : Int) (w : World) : Calls Try.prog 13 #[.int .u8 op] w fun e w' => e = .returned (.bool (isAgg op)) ∧ Below w.heap.size w w' := by
  have hg : (w.alloc (.map tabD 8)).heap[w.heap.size]? = some (.map tabD 8) := heap_alloc_new w _
  by_cases h : 21 ≤ op ∧ op ≤ 28
  · obtain ⟨i, hi⟩ := find_in op h.1 h.2
    have hl := look_at _ _ _ _ hg op true i _ hi
    have HT := Lib.hid (show isAgg op = true by simp [isAgg, h.1, h.2])
    unfold doing fn at hl
    simp only [if_true] at hl
    generalize feedN op = f1 at *
    generalize ansN op = f2 at *
    generalize argN op = f3 at *
    clear hg hi h
    go_enter Try.func13, Try.ntmps13
    go_wp2_with (go_at_call 19; refine (doings_any _).mono ?_; rintro e w1 ⟨rfl, rfl⟩)
    go_ret
    rw [HT.out]
    exact ⟨rfl, by go_grown⟩
  · have hl := look_none _ _ _ _ hg op true (find_out op (by omega))
    have HT := Lib.hid (show isAgg op = false by simp [isAgg]; omega)
    simp only [if_true] at hl
    clear hg h
    go_enter Try.func13, Try.ntmps13
    go_wp2_with (go_at_call 19; refine (doings_any _).mono ?_; rintro e w1 ⟨rfl, rfl⟩)
    go_ret
    rw [HT.out]
    exact ⟨rfl, by go_grown⟩

theorem field0 (x y z : Value) (w : World) : (Instr.field 53 (.agg #[x, y, z]) 0).run Try.prog w = .ok x w := by kernel_rfl
theorem field1 (x y z : Value) (w : World) : (Instr.field 53 (.agg #[x, y, z]) 1).run Try.prog w = .ok y w := by kernel_rfl
theorem field2 (x y z : Value) (w : World) : (Instr.field 53 (.agg #[x, y, z]) 2).run Try.prog w = .ok z w := by kernel_rfl

def argsOf (op : Int) : Int := if isAgg op then argN op else 0

set_option maxHeartbeats 1000000 in
set_option maxRecDepth 100000 in
theorem args_any (op : Int) (w : World) : Calls Try.prog 18 #[.int .u8 op] w fun e w' => e = .returned (.int .i64 (argsOf op)) ∧ Below w.heap.size w w' := by
  have hg : (w.alloc (.map tabD 8)).heap[w.heap.size]? = some (.map tabD 8) := heap_alloc_new w _
  by_cases h : 21 ≤ op ∧ op ≤ 28
  · obtain ⟨i, hi⟩ := find_in op h.1 h.2
    have hl := look_at _ _ _ _ hg op false i _ hi
    have HT := Lib.hid (show argsOf op = argN op by unfold argsOf; rw [if_pos (by simp [isAgg, h.1, h.2])])
    unfold doing fn at hl
    simp only [Bool.false_eq_true, if_false] at hl
    generalize feedN op = f1 at *
    generalize ansN op = f2 at *
    generalize argN op = f3 at *
    clear hg hi h
    have f2' := field2
    go_enter Try.func18, Try.ntmps18
    go_wp2_with (go_at_call 19; refine (doings_any _).mono ?_; rintro e w1 ⟨rfl, rfl⟩)
    go_ret
    rw [HT.out]
    exact ⟨rfl, by go_grown⟩
  · have hl := look_none _ _ _ _ hg op false (find_out op (by omega))
    have HT := Lib.hid (show argsOf op = 0 by unfold argsOf; rw [if_neg (by simp [isAgg]; omega)])
    simp only [Bool.false_eq_true, if_false] at hl
    clear hg h
    have f2' := field2
    go_enter Try.func18, Try.ntmps18
    go_wp2_with (go_at_call 19; refine (doings_any _).mono ?_; rintro e w1 ⟨rfl, rfl⟩)
    go_ret
    rw [HT.out]
    exact ⟨rfl, by go_grown⟩

/-- a state to which nothing was fed -/
def stNew (op : Int) : St := ⟨op, 0, 0, 0, zeroVal, zeroVal, false⟩
theorem new_cells (op : Int) : (stNew op).cells = #[.int .u8 op, .int .i64 0, .int .i64 0, .int .u64 0, .int .u64 0, .int .u8 0, .int .i64 0, .string ByteArray.empty, .int .u8 0, .int .i64 0, .string ByteArray.empty, .bool false] := by
  simp [stNew, St.cells, zeroVal, hi, lo]

def NewPost (op : Int) (w : World) (e : Ending) (w' : World) : Prop := ∃ p, w.heap.size ≤ p ∧ e = .returned (.tuple #[.pointer (some ⟨p, 0, none⟩), .int .i64 0]) ∧ StAt w' p (stNew op) ∧ Below w.heap.size w w'

set_option maxHeartbeats 1000000 in
set_option maxRecDepth 100000 in
theorem new_any (op : Int) (w : World) (h : isAgg op = true) : Calls Try.prog 15 #[.int .u8 op] w (NewPost op w) := by
  have H := Lib.hid h
  clear h
  go_enter Try.func15, Try.ntmps15
  go_wp2_with (go_at_call 13; refine (is_any _ _).mono ?_; rintro e w1 ⟨rfl, b1⟩; rw [H.out])
  go_ret2
  exact ⟨w1.heap.size, b1.size, rfl, by unfold StAt; rw [new_cells]; exact Blk.new w1 _ _, b1.alloc b1.size _⟩

set_option maxHeartbeats 1000000 in
set_option maxRecDepth 100000 in
theorem new_not (op : Int) (w : World) (h : isAgg op = false) : Calls Try.prog 15 #[.int .u8 op] w fun e w' => e = .returned (.tuple #[.pointer none, .int .i64 1]) ∧ Below w.heap.size w w' := by
  have H := Lib.hid h
  clear h
  go_enter Try.func15, Try.ntmps15
  go_wp2_with (go_at_call 13; refine (is_any _ _).mono ?_; rintro e w1 ⟨rfl, b1⟩; rw [H.out])
  go_ret2
  exact ⟨rfl, b1⟩
end Go.Proofs.Ytjpgahfabmgpiaa
