/- What crc.nibbles answers: the table of sixteen numbers; it makes memory and changes none. -/
import Derived.Test.YtmndhllmaoppeaaRows
import Derived.Handy
namespace Go.Proofs.Ytmndhllmaoppeaa
open Go.ChangeShapes Go.WideShapes Go.ChangeAt Go.RowKit
set_option linter.unusedVariables false

theorem xor_lit (a b : Int) : bits .xor .u32 a b = ((BitVec.ofInt 32 a ^^^ BitVec.ofInt 32 b).toNat : Int) := by
  show IntKind.u32.wrap ((BitVec.ofInt 32 a ^^^ BitVec.ofInt 32 b).toNat : Int) = _
  rw [IntKind.wrap_u32]
  have := (BitVec.ofInt 32 a ^^^ BitVec.ofInt 32 b).isLt
  omega

/-- the table's cells -/
def tab : Array Value := #[.int .u32 0, .int .u32 79764919, .int .u32 159529838, .int .u32 222504665, .int .u32 319059676, .int .u32 398814059, .int .u32 445009330, .int .u32 507990021, .int .u32 638119352, .int .u32 583659535, .int .u32 797628118, .int .u32 726387553, .int .u32 890018660, .int .u32 835552979, .int .u32 1015980042, .int .u32 944750013]

section
attribute [local go_sem] xor_lit
set_option maxHeartbeats 4000000 in
set_option maxRecDepth 100000 in
theorem nibbles_any (w : World) :
    Calls Try.prog 11 #[] w fun e w' => e = .returned (.agg tab) ∧ Below w.heap.size w w' := by
  go_enter Try.func11, Try.ntmps11
  go_wp2
  refine wp_loop_rounds 17 ?_
  iterate 16 (rw [rounds_succ]; go_wp2; refine wp_loop_rounds 5 ?_; iterate 5 (rw [rounds_succ]; go_wp2))
  rw [rounds_succ]
  go_wp2
  exact bodyPost_ret (v := .agg tab) (by simp [results, Try.results11, go_sem, tab]) rfl ⟨rfl, ((Below.refl _ _).alloc (Nat.le_refl _) _).alloc (by simp) _⟩
end
end Go.Proofs.Ytmndhllmaoppeaa
