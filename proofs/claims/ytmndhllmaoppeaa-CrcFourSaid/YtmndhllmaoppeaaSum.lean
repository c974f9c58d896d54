/- What crc.Sum answers: the sum of the bytes that the slice holds. -/
import Derived.Test.YtmndhllmaoppeaaRows
import Derived.Test.YtmndhllmaoppeaaPlain
import Derived.Test.YtmndhllmaoppeaaMem
import Derived.Test.YtmndhllmaoppeaaNib
import Derived.Handy
import Derived.Outline
import Derived.Lib.Hide
namespace Go.Proofs.Ytmndhllmaoppeaa
open Go.ChangeShapes Go.WideShapes Go.ChangeAt Go.RowKit
set_option linter.unusedVariables false

theorem xor_nat (a b : Nat) (ha : a < 4294967296) (hb : b < 4294967296) : bits .xor .u32 a b = ((a ^^^ b : Nat) : Int) := by
  rw [xor_lit]
  simp [Nat.mod_eq_of_lt ha, Nat.mod_eq_of_lt hb]

theorem not32 (v : Nat) (hv : v < 4294967296) : 4294967295 ^^^ v = 4294967295 - v := by
  apply Nat.eq_of_testBit_eq
  intro i
  rw [show 4294967295 - v = 2 ^ 32 - (v + 1) from by omega, Nat.testBit_two_pow_sub_succ hv, Nat.testBit_xor, show (4294967295 : Nat) = 2 ^ 32 - 1 from rfl, Nat.testBit_two_pow_sub_one]
  by_cases h : i < 32
  · simp [h]
  · rw [Nat.testBit_lt_two_pow (Nat.lt_of_lt_of_le hv (Nat.pow_le_pow_right (n := 2) (i := 32) (by decide) (by omega)))]
    simp [h]

theorem tab_at (w1 : World) (i : Nat) (hi : i < 16) : (w1.alloc (.cells tab 32)).cell? ⟨w1.heap.size, i, none⟩ = some (.int .u32 (Crc.t i : Nat)) := by
  rw [World.cell?_alloc_new]
  have key : ∀ i, i < 16 → i = 0 ∨ i = 1 ∨ i = 2 ∨ i = 3 ∨ i = 4 ∨ i = 5 ∨ i = 6 ∨ i = 7 ∨ i = 8 ∨ i = 9 ∨ i = 10 ∨ i = 11 ∨ i = 12 ∨ i = 13 ∨ i = 14 ∨ i = 15 := by omega
  rcases key i hi with rfl | rfl | rfl | rfl | rfl | rfl | rfl | rfl | rfl | rfl | rfl | rfl | rfl | rfl | rfl | rfl <;> rfl

theorem index0 (x y : Value) (w : World) : (Instr.index 35 (.agg #[x, y]) (.int .i64 0)).run Try.prog w = .ok x w := by kernel_rfl
theorem index1 (x y : Value) (w : World) : (Instr.index 35 (.agg #[x, y]) (.int .i64 1)).run Try.prog w = .ok y w := by kernel_rfl

theorem run_snoc (v : Nat) (l : List Nat) (k : Nat) (hk : k < l.length) : Crc.run v (l.take (k + 1)) = Crc.byte (Crc.run v (l.take k)) (l.getD k 0) := by
  rw [List.take_add_one, Crc.run_append, List.getD_eq_getElem?_getD, List.getElem?_eq_getElem hk]
  rfl

set_option maxHeartbeats 1000000 in
set_option maxRecDepth 100000 in
theorem sum_any (A : Option Addr) (c : Nat) (l : List Nat) (w : World) (h : RB w w.heap.size A l) (hl : l.length ≤ 4611686018427387904) :
    Calls Try.prog 9 #[.slice A l.length c] w fun e w' => e = .returned (.int .u32 (Crc.sum l : Nat)) ∧ Below w.heap.size w w' := by
  go_enter Try.func9, Try.ntmps9
  go_wp2_with (go_at_call 11; refine (nibbles_any _).mono ?_; rintro e w1 ⟨rfl, hb1⟩; unfold tab)
  have h1 := (h.below hb1).alloc (hb1.size) (.cells tab 32)
  have hB : Below w.heap.size w (w1.alloc (.cells tab 32)) := hb1.alloc hb1.size _
  have ht := tab_at w1
  unfold tab at h1 hB ht
  generalize w1.alloc _ = W at *
  have HT := Lib.hid ht
  have HB := Lib.hid hB
  clear ht hB
  go_loop [4, 12] (fun v i => ∃ k : Nat, k ≤ l.length ∧ i = .int .i64 k ∧ v = .int .u32 (Crc.run 4294967295 (l.take k) : Nat)) (fun _ i => l.length - (intOf i).toNat)
  case atStart => exact ⟨0, Nat.zero_le _, rfl, rfl⟩
  case round =>
    obtain ⟨k, hk, rfl, rfl⟩ := hrel
    have hv := Crc.run_lt 4294967295 (l.take k) (by decide)
    by_cases hlt : k < l.length
    · obtain ⟨b, off, rfl, hb, hc, hcell⟩ := h1.at_ hlt
      have HS := Lib.hid (run_snoc 4294967295 l k hlt)
      generalize Crc.run 4294967295 (l.take k) = v at *
      generalize l.getD k 0 = ch at *
      have i1 := Crc.idx_lt (v := v) (f := ch / 16) hv (by omega)
      have i2 := Crc.idx_lt (v := Crc.step v (ch / 16)) (f := ch % 16) (Crc.step_lt _ _) (by omega)
      have x1 := xor_nat (v / 268435456) (ch / 16) (by omega) (by omega)
      have x2 := xor_nat (v * 16 % 4294967296) (Crc.t ((v / 268435456) ^^^ (ch / 16))) (by omega) (Crc.t_lt _)
      have e1 : Crc.step v (ch / 16) = (v * 16 % 4294967296) ^^^ (Crc.t ((v / 268435456) ^^^ (ch / 16))) := rfl
      have l1 := Crc.step_lt v (ch / 16)
      rw [← e1] at x2
      clear e1
      have t1 := HT.out _ i1
      have x3 := xor_nat (Crc.step v (ch / 16) / 268435456) (ch % 16) (by omega) (by omega)
      have x4 := xor_nat (Crc.step v (ch / 16) * 16 % 4294967296) (Crc.t ((Crc.step v (ch / 16) / 268435456) ^^^ (ch % 16))) (by omega) (Crc.t_lt _)
      have e2 : Crc.byte v ch = (Crc.step v (ch / 16) * 16 % 4294967296) ^^^ (Crc.t ((Crc.step v (ch / 16) / 268435456) ^^^ (ch % 16))) := rfl
      rw [← e2] at x4
      clear e2
      have t2 := HT.out _ i2
      generalize Crc.byte v ch = v2 at *
      generalize Crc.step v (ch / 16) = v1 at *
      generalize (v / 268435456) ^^^ (ch / 16) = j1 at *
      generalize (v1 / 268435456) ^^^ (ch % 16) = j2 at *
      generalize Crc.t j1 = u1 at *
      generalize Crc.t j2 = u2 at *
      rw [show ((v / 268435456 : Nat) : Int) = (v : Int) / 268435456 from by omega, show ((ch / 16 : Nat) : Int) = (ch : Int) / 16 from by omega] at x1
      rw [show ((v * 16 % 4294967296 : Nat) : Int) = (v : Int) * 16 % 4294967296 from by omega] at x2
      rw [show ((v1 / 268435456 : Nat) : Int) = (v1 : Int) / 268435456 from by omega, show ((ch % 16 : Nat) : Int) = (ch : Int) % 16 from by omega] at x3
      rw [show ((v1 * 16 % 4294967296 : Nat) : Int) = (v1 : Int) * 16 % 4294967296 from by omega] at x4
      have ix0 := index0
      have ix1 := index1
      go_wp2
      refine wp_loop_rounds 3 ?_
      rw [rounds_succ]
      go_wp2
      rw [rounds_succ]
      go_wp2
      rw [rounds_succ]
      go_wp2
      go_round
      case rel => exact ⟨k + 1, by omega, by go_num, by rw [HS.out]⟩
      case measure => simp [intOf]; omega
    · obtain rfl : k = l.length := by omega
      rw [List.take_length] at hv ⊢
      have x5 := xor_nat 4294967295 (Crc.run 4294967295 l) (by omega) hv
      rw [not32 _ hv] at x5
      have HS := Lib.hid (show (Crc.sum l : Nat) = 4294967295 - Crc.run 4294967295 l from rfl)
      generalize Crc.run 4294967295 l = v at *
      rw [show ((4294967295 : Nat) : Int) = IntKind.u32.max from rfl] at x5
      go_wp2
      go_ret
      rw [HS.out]
      exact ⟨rfl, HB.out⟩
end Go.Proofs.Ytmndhllmaoppeaa
