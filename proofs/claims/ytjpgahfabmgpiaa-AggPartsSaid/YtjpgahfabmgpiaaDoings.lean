/- agg.doings: a table of what each aggregate does; Is, Args, New. -/
import Derived.Test.YtjpgahfabmgpiaaFeed
import Derived.MapKept
namespace Go.Proofs.Ytjpgahfabmgpiaa
open Go.ChangeShapes Go.WideShapes Go.ChangeAt Go.RowKit
set_option linter.unusedVariables false

theorem key_u8 (e : Bool) (k : Int) (w : World) : (Instr.checkKey e 10000 5 (.int .u8 k)).run Try.prog w = .ok () w :=
  MapKept.run_checkKey Try.underlying5 (by simp [MapKept.IsKey]) e 9999

/-- a new entry goes in at the end -/
theorem ins_new (w : World) (es : Array MapEntry) (c : Nat) (k : Int) (v : Value) (hf : Instr.findNow (.int .u8) (.int .u8 k) es.toList 0 = some none) :
    (Instr.mapUpdate 54 (.map (some w.heap.size)) (.int .u8 k) v).run Try.prog (w.alloc (.map es c)) = .ok () (w.alloc (.map (es.push ⟨.int .u8 k, v, c⟩) (c + 1))) := by
  have hg : (w.alloc (.map es c)).heap[w.heap.size]? = some (.map es c) := heap_alloc_new w _
  have e1 : ({ w.alloc (.map es c) with heap := (w.alloc (.map es c)).heap.setIfInBounds w.heap.size (.map (es.push ⟨.int .u8 k, v, c⟩) (c + 1)) } : World) = w.alloc (.map (es.push ⟨.int .u8 k, v, c⟩) (c + 1)) := by
    have hh : ∀ A B : Obj, (w.heap.push A).setIfInBounds w.heap.size B = w.heap.push B := by
      intro A B
      apply Array.ext_getElem?
      intro i
      simp only [Array.getElem?_setIfInBounds, Array.getElem?_push, Array.size_push]
      by_cases h1 : i = w.heap.size
      · subst h1; simp
      · simp [h1, Ne.symm h1]
    unfold World.alloc
    simp only [hh]
  unfold Instr.mapUpdate
  simp only [Sem.run_bind, run_underlying Try.underlying54, Result.andThen_ok, MapKept.run_getObj_map hg, key_u8, Instr.findKey, run_underlying Try.underlying5, hf, Sem.run_pure, MapKept.run_setObj_map _ hg, e1]

theorem look_at (w : World) (g : Nat) (es : Array MapEntry) (c : Nat) (hg : w.heap[g]? = some (.map es c)) (k : Int) (ok : Bool) (i : Nat) (v : Value) (hf : Instr.findNow (.int .u8) (.int .u8 k) es.toList 0 = some (some (i, v))) :
    (Instr.lookup 54 (.map (some g)) (.int .u8 k) ok).run Try.prog w = .ok (if ok then .tuple #[v, .bool true] else v) w := by
  unfold Instr.lookup
  simp only [Sem.run_bind, run_underlying Try.underlying54, Result.andThen_ok, MapKept.run_getObj_map hg, key_u8, Instr.findKey, run_underlying Try.underlying5, hf, Sem.run_pure]

theorem zero_doing (w : World) : (zeroValue 53).run Try.prog w = .ok (.agg #[.nilFunc, .nilFunc, .int .i64 0]) w := by kernel_rfl

theorem look_none (w : World) (g : Nat) (es : Array MapEntry) (c : Nat) (hg : w.heap[g]? = some (.map es c)) (k : Int) (ok : Bool) (hf : Instr.findNow (.int .u8) (.int .u8 k) es.toList 0 = some none) :
    (Instr.lookup 54 (.map (some g)) (.int .u8 k) ok).run Try.prog w = .ok (if ok then .tuple #[.agg #[.nilFunc, .nilFunc, .int .i64 0], .bool false] else .agg #[.nilFunc, .nilFunc, .int .i64 0]) w := by
  unfold Instr.lookup
  simp only [Sem.run_bind, run_underlying Try.underlying54, Result.andThen_ok, MapKept.run_getObj_map hg, key_u8, Instr.findKey, run_underlying Try.underlying5, hf, Sem.run_pure, zero_doing]

def fn (f : Nat) : Value := .func (.func f) #[] #[]
/-- what each does with a pair, what it answers, how many values play a part -/
def feedN (op : Int) : Nat := if op = 21 then 26 else if op = 22 then 28 else if op = 23 ∨ op = 26 then 30 else if op = 24 ∨ op = 25 then 33 else 35
def ansN (op : Int) : Nat := if op = 21 then 27 else if op = 22 then 29 else if op = 23 then 31 else if op = 26 then 32 else 34
def argN (op : Int) : Int := if op = 21 then 0 else if op = 27 ∨ op = 28 then 2 else 1
def doing (op : Int) : Value := .agg #[fn (feedN op), fn (ansN op), .int .i64 (argN op)]
def tabD : Array MapEntry := #[⟨.int .u8 21, doing 21, 0⟩, ⟨.int .u8 22, doing 22, 1⟩, ⟨.int .u8 23, doing 23, 2⟩, ⟨.int .u8 26, doing 26, 3⟩, ⟨.int .u8 24, doing 24, 4⟩, ⟨.int .u8 25, doing 25, 5⟩, ⟨.int .u8 27, doing 27, 6⟩, ⟨.int .u8 28, doing 28, 7⟩]

theorem find_in (op : Int) (h0 : 21 ≤ op) (h1 : op ≤ 28) : ∃ i, Instr.findNow (.int .u8) (.int .u8 op) tabD.toList 0 = some (some (i, doing op)) := by
  have : op = 21 ∨ op = 22 ∨ op = 23 ∨ op = 24 ∨ op = 25 ∨ op = 26 ∨ op = 27 ∨ op = 28 := by omega
  rcases this with rfl | rfl | rfl | rfl | rfl | rfl | rfl | rfl
  · exact ⟨0, rfl⟩
  · exact ⟨1, rfl⟩
  · exact ⟨2, rfl⟩
  · exact ⟨4, rfl⟩
  · exact ⟨5, rfl⟩
  · exact ⟨3, rfl⟩
  · exact ⟨6, rfl⟩
  · exact ⟨7, rfl⟩
theorem find_out (op : Int) (h : op < 21 ∨ 28 < op) : Instr.findNow (.int .u8) (.int .u8 op) tabD.toList 0 = some none := by
  simp only [tabD, Instr.findNow, Instr.sameNow]
  have q : ∀ k : Int, 21 ≤ k → k ≤ 28 → (op == k) = false := fun k h1 h2 => by rw [beq_eq_false_iff_ne]; omega
  simp [q 21, q 22, q 23, q 24, q 25, q 26, q 27, q 28]

set_option maxHeartbeats 2000000 in
set_option maxRecDepth 100000 in
theorem doings_any (w : World) : Calls Try.prog 19 #[] w fun e w' => e = .returned (.map (some w.heap.size)) ∧ w' = w.alloc (.map tabD 8) := by
  have hmm := @run_makeMap Try.prog
  have i1 := ins_new w #[] 0 21 (doing 21) rfl
  have i2 := ins_new w #[⟨.int .u8 21, doing 21, 0⟩] 1 22 (doing 22) rfl
  have i3 := ins_new w #[⟨.int .u8 21, doing 21, 0⟩, ⟨.int .u8 22, doing 22, 1⟩] 2 23 (doing 23) rfl
  have i4 := ins_new w #[⟨.int .u8 21, doing 21, 0⟩, ⟨.int .u8 22, doing 22, 1⟩, ⟨.int .u8 23, doing 23, 2⟩] 3 26 (doing 26) rfl
  have i5 := ins_new w #[⟨.int .u8 21, doing 21, 0⟩, ⟨.int .u8 22, doing 22, 1⟩, ⟨.int .u8 23, doing 23, 2⟩, ⟨.int .u8 26, doing 26, 3⟩] 4 24 (doing 24) rfl
  have i6 := ins_new w #[⟨.int .u8 21, doing 21, 0⟩, ⟨.int .u8 22, doing 22, 1⟩, ⟨.int .u8 23, doing 23, 2⟩, ⟨.int .u8 26, doing 26, 3⟩, ⟨.int .u8 24, doing 24, 4⟩] 5 25 (doing 25) rfl
  have i7 := ins_new w #[⟨.int .u8 21, doing 21, 0⟩, ⟨.int .u8 22, doing 22, 1⟩, ⟨.int .u8 23, doing 23, 2⟩, ⟨.int .u8 26, doing 26, 3⟩, ⟨.int .u8 24, doing 24, 4⟩, ⟨.int .u8 25, doing 25, 5⟩] 6 27 (doing 27) rfl
  have i8 := ins_new w #[⟨.int .u8 21, doing 21, 0⟩, ⟨.int .u8 22, doing 22, 1⟩, ⟨.int .u8 23, doing 23, 2⟩, ⟨.int .u8 26, doing 26, 3⟩, ⟨.int .u8 24, doing 24, 4⟩, ⟨.int .u8 25, doing 25, 5⟩, ⟨.int .u8 27, doing 27, 6⟩] 7 28 (doing 28) rfl
  simp [doing, fn, feedN, ansN, argN] at i1 i2 i3 i4 i5 i6 i7 i8
  go_enter Try.func19, Try.ntmps19
  go_wp2
  go_ret
  exact ⟨rfl, rfl⟩
end Go.Proofs.Ytjpgahfabmgpiaa
