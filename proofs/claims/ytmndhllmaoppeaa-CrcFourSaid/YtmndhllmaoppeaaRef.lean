/- What tidelineref08.Sum answers: the same sum, bit by bit. -/
import Derived.Test.YtmndhllmaoppeaaTold
namespace Go.Proofs.Ytmndhllmaoppeaa
open Go.ChangeShapes Go.WideShapes Go.ChangeAt Go.RowKit
set_option linter.unusedVariables false

theorem bit_test (v c j : Nat) : (!((((c : Int) / 2 ^ j).tmod 2 == 1) == decide ((2147483648 : Int) ≤ (v : Int)))) = (Crc.bitOf c j != decide (2147483648 ≤ v)) := by
  have e1 : (((c : Int) / 2 ^ j).tmod 2 == 1) = Crc.bitOf c j := by
    unfold Crc.bitOf
    have h0 : ((c : Int) / 2 ^ j) = ((c / 2 ^ j : Nat) : Int) := by simp
    rw [h0, Int.tmod_eq_emod_of_nonneg (Int.natCast_nonneg _), Bool.eq_iff_iff]
    simp only [beq_iff_eq, decide_eq_true_eq]
    omega
  have e2 : decide ((2147483648 : Int) ≤ (v : Int)) = decide (2147483648 ≤ v) := decide_eq_decide.2 (by omega)
  rw [e1, e2]
  rfl
theorem bit_false (v c j : Nat) (h : (!((((c : Int) / 2 ^ j).tmod 2 == 1) == decide ((2147483648 : Int) ≤ (v : Int)))) = false) : ((Crc.bit v (Crc.bitOf c j) : Nat) : Int) = 2 * (v : Int) % 4294967296 := by
  rw [bit_test] at h
  unfold Crc.bit
  rw [h]
  simp only [Bool.false_eq_true, if_false, Nat.xor_zero]
  omega
theorem bit_true (v c j : Nat) (h : (!((((c : Int) / 2 ^ j).tmod 2 == 1) == decide ((2147483648 : Int) ≤ (v : Int)))) = true) : ((Crc.bit v (Crc.bitOf c j) : Nat) : Int) = bits .xor .u32 (2 * (v : Int) % 4294967296) 79764919 := by
  rw [bit_test] at h
  unfold Crc.bit
  rw [h]
  simp only [if_true]
  have := xor_nat (v * 2 % 4294967296) 79764919 (by omega) (by omega)
  rw [← this, show ((v * 2 % 4294967296 : Nat) : Int) = 2 * (v : Int) % 4294967296 from by omega]
  rfl

set_option maxHeartbeats 1000000 in
set_option maxRecDepth 100000 in
theorem ref_any (A : Option Addr) (c : Nat) (l : List Nat) (w : World) (h : RB w w.heap.size A l) (hl : l.length ≤ 1152921504606846975) :
    Calls Try.prog 10 #[.slice A l.length c] w fun e w' => e = .returned (.int .u32 (Crc.sum l : Nat)) ∧ Below w.heap.size w w' := by
  go_enter Try.func10, Try.ntmps10
  go_wp2
  go_loop [3, 4] (fun v i => ∃ k : Nat, k ≤ 8 * l.length ∧ i = .int .i64 k ∧ v = .int .u32 (Crc.bits l k : Nat)) (fun _ i => 8 * l.length - (intOf i).toNat)
  case atStart => exact ⟨0, Nat.zero_le _, rfl, rfl⟩
  case round =>
    obtain ⟨k, hk, rfl, rfl⟩ := hrel
    have hv := Crc.bits_lt l k
    by_cases hlt : k < 8 * l.length
    · obtain ⟨b, off, rfl, hb, hc, hcell⟩ := h.at_ (k := k / 8) (by omega)
      have HS := Lib.hid (show Crc.bits l (k + 1) = Crc.bit (Crc.bits l k) (Crc.bitOf (l.getD (k / 8) 0) (7 - k % 8)) from rfl)
      generalize l.getD (k / 8) 0 = ch at *
      generalize Crc.bits l k = v at *
      go_wp2
      all_goals
        go_round
        case rel => exact ⟨k + 1, by omega, by go_num, by rw [HS.out]; first | rw [bit_true v ch (7 - k % 8) ‹_›] | rw [bit_false v ch (7 - k % 8) ‹_›]⟩
        case measure => simp [intOf]; omega
    · obtain rfl : k = 8 * l.length := by omega
      have HS := Lib.hid (Crc.bits_sum l h.lt)
      have HC := Lib.hid (show ((8 * l.length : Nat) : Int) = 8 * (l.length : Int) from by omega)
      generalize Crc.bits l (8 * l.length) = v at *
      go_wp2
      go_ret
      rw [← HS.out]
      exact ⟨by go_num, Below.refl _ _⟩
end Go.Proofs.Ytmndhllmaoppeaa
