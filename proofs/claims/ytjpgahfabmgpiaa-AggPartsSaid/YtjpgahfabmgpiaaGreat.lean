/- great: whether a list is great. -/
import Derived.Test.YtjpgahfabmgpiaaLaw
namespace Go.Proofs.Ytjpgahfabmgpiaa
open Go.ChangeShapes Go.WideShapes Go.ChangeAt Go.RowKit
set_option linter.unusedVariables false

def GreatPost (l : List (Val × Val)) (w : World) (e : Ending) (w' : World) : Prop := ∃ b, e = .returned (.bool b) ∧ (b = false → l.length ≤ 300) ∧ Below w.heap.size w w'
set_option maxHeartbeats 2000000 in
set_option maxRecDepth 100000 in
theorem great_any (A : Option Addr) (c : Nat) (l : List (Val × Val)) (w : World) (h : RP w w.heap.size A l) :
    Calls Try.prog 12 #[.slice A l.length c] w (GreatPost l w) := by
  have HH := Lib.hid h
  clear h
  by_cases hl : l.length ≤ 300
  · have d0 : decide ((300 : Int) < (l.length : Int)) = false := by simp; omega
    go_enter Try.func12, Try.ntmps12
    go_wp2_with fail
    go_loopw [3] (fun i wr => ∃ k : Nat, k ≤ l.length ∧ i = .int .i64 k ∧ Below w.heap.size w wr) (fun i _ => l.length - (intOf i).toNat)
    case atStart => exact ⟨0, Nat.zero_le _, rfl, by go_grown⟩
    case round =>
      obtain ⟨k, hk, rfl, hB1⟩ := hrel
      by_cases hlt : k < l.length
      · have hRP := HH.out.below hB1
        obtain ⟨b, off, rfl, hb, hpair⟩ := hRP.at_ hlt
        generalize l[k] = x at *
        unfold PairAt at hpair
        by_cases h1 : (300 : Int) < (x.1.s.size : Int)
        · have d1 : decide ((300 : Int) < (x.1.s.size : Int)) = true := by simp; omega
          go_wp2_with fail
          go_ret
          exact ⟨true, rfl, by simp, hB1⟩
        · have d1 : decide ((300 : Int) < (x.1.s.size : Int)) = false := by simp; omega
          by_cases h2 : (300 : Int) < (x.2.s.size : Int)
          · have d2 : decide ((300 : Int) < (x.2.s.size : Int)) = true := by simp; omega
            go_wp2_with fail
            go_ret
            exact ⟨true, rfl, by simp, hB1⟩
          · have d2 : decide ((300 : Int) < (x.2.s.size : Int)) = false := by simp; omega
            go_wp2_with fail
            go_roundw
            case rel => exact ⟨k + 1, hlt, by go_num, hB1⟩
            case measure => simp [intOf]; omega
      · go_wp2_with fail
        go_ret
        exact ⟨false, rfl, fun _ => hl, by assumption⟩
  · have d0 : decide ((300 : Int) < (l.length : Int)) = true := by simp; omega
    go_enter Try.func12, Try.ntmps12
    go_wp2_with fail
    go_ret
    exact ⟨true, rfl, by simp, by go_grown⟩
end Go.Proofs.Ytjpgahfabmgpiaa
