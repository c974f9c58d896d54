/- agg.State: what it answers. -/
import Derived.Test.YtjpgahfabmgpiaaFeeds
namespace Go.Proofs.Ytjpgahfabmgpiaa
open Go.ChangeShapes Go.WideShapes Go.ChangeAt Go.RowKit
set_option linter.unusedVariables false

def num (n : Int) : Val := ⟨2, n, ByteArray.empty⟩
/-- an answer, and an error's number -/
def ansV (v : Val) (err : Int) : Value := .tuple #[.agg #[.int .u8 v.k, .int .i64 v.n, .string v.s], .int .i64 err]

set_option maxHeartbeats 1000000 in
theorem number_any (n : Int) (w : World) : Calls Try.prog 40 #[.int .i64 n] w fun e w' => e = .returned (.agg #[.int .u8 2, .int .i64 n, .string ByteArray.empty]) ∧ Below w.heap.size w w' := by
  go_enter Try.func40, Try.ntmps40
  go_wp2
  exact bodyPost_ret (v := .agg #[.int .u8 2, .int .i64 n, .string ByteArray.empty]) (by simp [results, Try.results40, go_sem]; rfl) rfl ⟨rfl, by go_grown⟩

set_option maxHeartbeats 1000000 in
theorem best_any (p : Nat) (s : St) (w : World) (h : StAt w p s) : Calls Try.prog 34 #[.pointer (some ⟨p, 0, none⟩)] w fun e w' => e = .returned (ansV s.a 0) ∧ Below w.heap.size w w' := by
  have cS := StAt.cells_ h
  have hp := Blk.lt h
  unfold ansV
  clear h
  go_enter Try.func34, Try.ntmps34
  go_wp2
  exact bodyPost_ret (v := .tuple #[.agg #[.int .u8 s.a.k, .int .i64 s.a.n, .string s.a.s], .int .i64 0]) (by simp [results, Try.results34, go_sem]) rfl ⟨rfl, by go_grown⟩

set_option maxHeartbeats 1000000 in
theorem pairs_any (p : Nat) (s : St) (w : World) (h : StAt w p s) : Calls Try.prog 27 #[.pointer (some ⟨p, 0, none⟩)] w fun e w' => e = .returned (ansV (num s.all) 0) ∧ Below w.heap.size w w' := by
  have cS := StAt.cells_ h
  have hp := Blk.lt h
  unfold ansV num
  clear h
  go_enter Try.func27, Try.ntmps27
  go_wp2_with fail
  refine (number_any _ _).mono ?_
  rintro e w1 ⟨rfl, b1⟩
  have hR := (Blk.new w 26 #[.int .u8 0, .int .i64 0, .string { data := #[] }]).later b1
  have hR1 := val_cells hR
  have hR2 := Blk.frozen hR
  have hB : Below w.heap.size w w1 := ((Below.refl _ _).alloc (Nat.le_refl _) _).trans (b1.mono (by simp))
  clear b1 hR
  go_wp2_with fail
  exact bodyPost_ret (v := .tuple #[.agg #[.int .u8 2, .int .i64 s.all, .string ByteArray.empty], .int .i64 0]) (by simp [results, Try.results27, go_sem, hR1]) rfl ⟨rfl, ((hB.setCell (Nat.le_refl _) _).setCell (Nat.le_refl _) _).setCell (Nat.le_refl _) _⟩

set_option maxHeartbeats 1000000 in
theorem many_any (p : Nat) (s : St) (w : World) (h : StAt w p s) : Calls Try.prog 29 #[.pointer (some ⟨p, 0, none⟩)] w fun e w' => e = .returned (ansV (num s.count) 0) ∧ Below w.heap.size w w' := by
  have cS := StAt.cells_ h
  have hp := Blk.lt h
  unfold ansV num
  clear h
  go_enter Try.func29, Try.ntmps29
  go_wp2_with fail
  refine (number_any _ _).mono ?_
  rintro e w1 ⟨rfl, b1⟩
  have hR := (Blk.new w 26 #[.int .u8 0, .int .i64 0, .string { data := #[] }]).later b1
  have hR1 := val_cells hR
  have hR2 := Blk.frozen hR
  have hB : Below w.heap.size w w1 := ((Below.refl _ _).alloc (Nat.le_refl _) _).trans (b1.mono (by simp))
  clear b1 hR
  go_wp2_with fail
  exact bodyPost_ret (v := .tuple #[.agg #[.int .u8 2, .int .i64 s.count, .string ByteArray.empty], .int .i64 0]) (by simp [results, Try.results29, go_sem, hR1]) rfl ⟨rfl, ((hB.setCell (Nat.le_refl _) _).setCell (Nat.le_refl _) _).setCell (Nat.le_refl _) _⟩

/-- a sum's answer -/
def St.total (s : St) : Val × Int := if s.count = 0 then (zeroVal, 0) else if isNarrow s.sum then (num (sgn (lo s.sum)), 0) else (zeroVal, 43)

set_option maxHeartbeats 2000000 in
set_option maxRecDepth 100000 in
theorem total_any (p : Nat) (s : St) (w : World) (h : StAt w p s) : Calls Try.prog 31 #[.pointer (some ⟨p, 0, none⟩)] w fun e w' => e = .returned (ansV s.total.1 s.total.2) ∧ Below w.heap.size w w' := by
  have cS := StAt.cells_ h
  have hp := Blk.lt h
  have hN := fun w => narrow_any s.sum w
  have HN := Lib.hid hN
  clear hN
  have H0 := Lib.hid (show ∀ (hz : s.count = 0), s.total = (zeroVal, 0) from fun hz => if_pos hz)
  have H1 := Lib.hid (show ∀ (hz : ¬ s.count = 0) (hn : isNarrow s.sum = true), s.total = (num (sgn (lo s.sum)), 0) from fun hz hn => by unfold St.total; rw [if_neg hz, if_pos hn])
  have H2 := Lib.hid (show ∀ (hz : ¬ s.count = 0) (hn : isNarrow s.sum = false), s.total = (zeroVal, 43) from fun hz hn => by unfold St.total; rw [if_neg hz, if_neg (by rw [hn]; decide)])
  generalize sgn (lo s.sum) = n at *
  go_enter Try.func31, Try.ntmps31
  go_wp2_with fail
  refine (HN.out _).mono ?_
  rintro e w1 ⟨rfl, b1⟩
  have hR := (Blk.new w 26 #[.int .u8 0, .int .i64 0, .string { data := #[] }]).later b1
  have hR1 := val_cells hR
  have hR2 := Blk.frozen hR
  have hS1 := StAt.cells_ (Blk.later ((Blk.alloc h (.cells #[.int .u8 0, .int .i64 0, .string { data := #[] }] 26))) b1)
  have hB : Below w.heap.size w w1 := ((Below.refl _ _).alloc (Nat.le_refl _) _).trans (b1.mono (by simp))
  have hlt := hR.lt
  have HR := Lib.hid hR
  clear b1 hR cS h
  by_cases hz : s.count = 0
  · have t1 : (s.count == 0) = true := by simp [hz]
    have HZ := Lib.hid hz
    clear hz
    go_wp2_with fail
    rw [H0.out HZ.out]
    exact bodyPost_ret (v := .tuple #[.agg #[.int .u8 0, .int .i64 0, .string ByteArray.empty], .int .i64 0]) (by simp [results, Try.results31, go_sem, hR1]; try rfl) rfl ⟨rfl, ((hB.setCell (Nat.le_refl _) _).setCell (Nat.le_refl _) _).setCell (Nat.le_refl _) _⟩
  · have t1 : (s.count == 0) = false := by simp [hz]
    cases hn : isNarrow s.sum
    · go_wp2_with fail
      rw [H2.out hz hn]
      exact bodyPost_ret (v := .tuple #[.agg #[.int .u8 0, .int .i64 0, .string ByteArray.empty], .int .i64 43]) (by simp [results, Try.results31, go_sem, hR1]; try rfl) rfl ⟨rfl, ((hB.setCell (Nat.le_refl _) _).setCell (Nat.le_refl _) _).setCell (Nat.le_refl _) _⟩
    · go_wp2_with fail
      refine (number_any _ _).mono ?_
      rintro e w2 ⟨rfl, b2⟩
      have hR := HR.out.later b2
      have hR3 := val_cells hR
      have hR4 := Blk.frozen hR
      have hB2 : Below w.heap.size w w2 := hB.trans (b2.mono hB.size)
      clear b2 hR hR1 hR2
      go_wp2_with fail
      rw [H1.out hz hn]
      exact bodyPost_ret (v := .tuple #[.agg #[.int .u8 2, .int .i64 n, .string ByteArray.empty], .int .i64 0]) (by simp [results, Try.results31, go_sem, hR3]) rfl ⟨rfl, ((hB2.setCell (Nat.le_refl _) _).setCell (Nat.le_refl _) _).setCell (Nat.le_refl _) _⟩
end Go.Proofs.Ytjpgahfabmgpiaa
