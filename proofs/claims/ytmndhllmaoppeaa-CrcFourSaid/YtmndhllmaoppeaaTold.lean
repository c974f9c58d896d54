/- told and CrcKnown. -/
import Derived.Test.YtmndhllmaoppeaaSum
import Derived.Deep.QuietTactic
import Derived.BigQuiet
import Derived.Deep.DeepFit
import Derived.Lib.SlBytesConst
namespace Go.Proofs.Ytmndhllmaoppeaa
open Go.ChangeShapes Go.WideShapes Go.ChangeAt Go.RowKit
set_option linter.unusedVariables false

theorem RB.new (w : World) (l : List Nat) (t : TypeId) (fr : Nat × Nat) (hl : ∀ c ∈ l, c < 256) : RB (w.alloc (.cells (cellsOf l).toArray t fr)) (w.alloc (.cells (cellsOf l).toArray t fr)).heap.size (some ⟨w.heap.size, 0, none⟩) l := by
  refine ⟨⟨by simp [cellsOf], fun _ => ⟨_, rfl, by simp, fun j u hu => ?_⟩⟩, hl⟩
  have : (⟨w.heap.size, 0, none⟩ : Addr).add j = ⟨w.heap.size, j, none⟩ := by
    unfold Addr.add; split <;> simp_all
  rw [this, World.cell?_alloc_mark]
  simpa using hu

/-- the sum of a slice that the caller has just made -/
theorem sum_new (w : World) (l : List Nat) (fr : Nat × Nat) (n : Nat) (C : Array Value) (hn : n = l.length) (hC : C = (cellsOf l).toArray) (hl : ∀ c ∈ l, c < 256) (hb : l.length ≤ 4611686018427387904) :
    Calls Try.prog 9 #[.slice (some ⟨w.heap.size, 0, none⟩) n n] (w.alloc (.cells C 5 fr)) fun e w' => e = .returned (.int .u32 (Crc.sum l : Nat)) ∧ Below w.heap.size w w' := by
  subst hn hC
  refine (sum_any _ _ l _ (RB.new w l 5 fr hl) hb).mono ?_
  rintro e w' ⟨rfl, hb⟩
  refine ⟨rfl, Below.trans ((Below.refl _ _).alloc (Nat.le_refl _) _) (hb.mono (by simp))⟩

theorem known1 (w : World) : Calls Try.prog 9 #[.slice (some ⟨w.heap.size, 0, none⟩) 9 9] (w.alloc (.cells #[.int .u8 49, .int .u8 50, .int .u8 51, .int .u8 52, .int .u8 53, .int .u8 54, .int .u8 55, .int .u8 56, .int .u8 57] 5 (9, 10)))
    fun e w' => e = .returned (.int .u32 4236843288) ∧ Below w.heap.size w w' := by
  have h := sum_new w [49, 50, 51, 52, 53, 54, 55, 56, 57] (9, 10) 9 _ rfl rfl (by decide) (by decide)
  rw [show Crc.sum [49, 50, 51, 52, 53, 54, 55, 56, 57] = 4236843288 from by decide +kernel] at h
  exact h
theorem known2 (w : World) : Calls Try.prog 9 #[.slice (some ⟨w.heap.size, 0, none⟩) 4 4] (w.alloc (.cells #[.int .u8 255, .int .u8 255, .int .u8 255, .int .u8 255] 5))
    fun e w' => e = .returned (.int .u32 4294967295) ∧ Below w.heap.size w w' := by
  have h := sum_new w [255, 255, 255, 255] (0, 0) 4 _ rfl rfl (by decide) (by decide)
  rw [show Crc.sum [255, 255, 255, 255] = 4294967295 from by decide +kernel] at h
  exact h
theorem known3 (w : World) : Calls Try.prog 9 #[.slice (some ⟨w.heap.size, 0, none⟩) 1 1] (w.alloc (.cells #[.int .u8 0] 5))
    fun e w' => e = .returned (.int .u32 2985771083) ∧ Below w.heap.size w w' := by
  have h := sum_new w [0] (0, 0) 1 _ rfl rfl (by decide) (by decide)
  rw [show Crc.sum [0] = 2985771083 from by decide +kernel] at h
  exact h
theorem known0 (w : World) : Calls Try.prog 9 #[.slice none 0 0] w fun e w' => e = .returned (.int .u32 0) ∧ Below w.heap.size w w' := by
  have h := sum_any none 0 [] w RB.nil (by decide)
  rw [show Crc.sum [] = 0 from by decide +kernel] at h
  exact h

set_option maxHeartbeats 1000000 in
set_option maxRecDepth 100000 in
theorem told_any (w : World) : Calls Try.prog 8 #[] w fun e w' => e = .returned (.bool true) ∧ Below w.heap.size w w' := by
  have kc := fun (w : World) (C : Array Value) (n c : Nat) => Lib.run_convert_bytes_const (P := Try.prog) w 22 5 C n c Try.underlying22 Try.underlying5
  go_enter Try.func8, Try.ntmps8
  go_wp2_with fail
  refine (known1 _).mono ?_
  rintro e w1 ⟨rfl, hb1⟩
  go_wp2_with fail
  refine (known2 _).mono ?_
  rintro e w2 ⟨rfl, hb2⟩
  go_wp2_with fail
  go_ret
  exact ⟨rfl, hb1.trans (hb2.mono hb1.size)⟩

set_option maxHeartbeats 1000000 in
set_option maxRecDepth 100000 in
theorem known_any (w : World) : Calls Try.prog 7 #[] w fun e w' => e = .returned (.bool true) ∧ Below w.heap.size w w' := by
  go_enter Try.func7, Try.ntmps7
  go_wp2_with fail
  refine (known0 _).mono ?_
  rintro e w1 ⟨rfl, hb1⟩
  go_wp2_with fail
  refine (known3 _).mono ?_
  rintro e w2 ⟨rfl, hb2⟩
  go_wp2_with fail
  refine (told_any _).mono ?_
  rintro e w3 ⟨rfl, hb3⟩
  go_wp2_with fail
  go_ret
  exact ⟨rfl, hb1.trans ((hb2.mono hb1.size).trans (hb3.mono (Nat.le_trans hb1.size hb2.size)))⟩
end Go.Proofs.Ytmndhllmaoppeaa
