/- agg.State: what a pair that is fed does. -/
import Derived.Test.YtjpgahfabmgpiaaState
namespace Go.Proofs.Ytjpgahfabmgpiaa
open Go.ChangeShapes Go.WideShapes Go.ChangeAt Go.RowKit
set_option linter.unusedVariables false

theorem set_all {W : World} {p : Nat} {s : St} (h : StAt W p s) (n : Int) : StAt (W.setCell ⟨p, 1, none⟩ (.int .i64 n)) p { s with all := n } := by
  have h1 := Blk.set_ h 1 (.int .i64 n)
  have e : s.cells.setIfInBounds 1 (.int .i64 n) = St.cells { s with all := n } := by simp [St.cells]
  rw [e] at h1
  exact h1
theorem set_count {W : World} {p : Nat} {s : St} (h : StAt W p s) (n : Int) : StAt (W.setCell ⟨p, 2, none⟩ (.int .i64 n)) p { s with count := n } := by
  have h1 := Blk.set_ h 2 (.int .i64 n)
  have e : s.cells.setIfInBounds 2 (.int .i64 n) = St.cells { s with count := n } := by simp [St.cells]
  rw [e] at h1
  exact h1
theorem set_sum {W : World} {p : Nat} {s : St} (h : StAt W p s) (n : Int) : StAt ((W.setCell ⟨p, 3, none⟩ (.int .u64 (hi n))).setCell ⟨p, 4, none⟩ (.int .u64 (lo n))) p { s with sum := n } := by
  have h1 := (Blk.set_ h 3 (.int .u64 (hi n))).set_ 4 (.int .u64 (lo n))
  have e : (s.cells.setIfInBounds 3 (.int .u64 (hi n))).setIfInBounds 4 (.int .u64 (lo n)) = St.cells { s with sum := n } := by simp [St.cells]
  rw [e] at h1
  exact h1

/-- the world in which a method's two values lie boxed -/
def boxed (w : World) (a b : Val) : World := (w.alloc (.cells #[.int .u8 a.k, .int .i64 a.n, .string a.s] 26)).alloc (.cells #[.int .u8 b.k, .int .i64 b.n, .string b.s] 26)
theorem boxed_st {w : World} {p : Nat} {s : St} (h : StAt w p s) (a b : Val) : StAt (boxed w a b) p s := (Blk.alloc h _).alloc _
theorem boxed_a (w : World) (a b : Val) : Blk (boxed w a b) w.heap.size 26 #[.int .u8 a.k, .int .i64 a.n, .string a.s] := (Blk.new w _ _).alloc _
theorem boxed_b (w : World) (a b : Val) : Blk (boxed w a b) (w.heap.size + 1) 26 #[.int .u8 b.k, .int .i64 b.n, .string b.s] := by
  have := Blk.new (w.alloc (.cells #[.int .u8 a.k, .int .i64 a.n, .string a.s] 26)) 26 #[.int .u8 b.k, .int .i64 b.n, .string b.s]
  rw [World.size_alloc] at this
  exact this
theorem boxed_grown (w : World) (a b : Val) (p : Nat) : w.grownBy (boxed w a b) (some p) := grown_alloc (grown_alloc (grown_below (Below.refl _ _)) _) _
theorem boxed_below (w : World) (a b : Val) : Below w.heap.size w (boxed w a b) := ((Below.refl _ _).alloc (Nat.le_refl _) _).alloc (by simp) _

set_option maxHeartbeats 1000000 in
theorem nothing_any (p : Nat) (s : St) (a b : Val) (w : World) (h : StAt w p s) :
    Calls Try.prog 26 #[.pointer (some ⟨p, 0, none⟩), .agg #[.int .u8 a.k, .int .i64 a.n, .string a.s], .agg #[.int .u8 b.k, .int .i64 b.n, .string b.s]] w fun e w' =>
      e = .returned (.tuple #[]) ∧ StAt w' p s ∧ w.grownBy w' (some p) := by
  go_enter Try.func26, Try.ntmps26
  go_wp2
  go_end0
  exact ⟨rfl, boxed_st h a b, boxed_grown w a b p⟩

def St.some_ (s : St) (a : Val) : St := if a.k = 0 then s else { s with count := s.count + 1 }

set_option maxHeartbeats 1000000 in
theorem some_any (p : Nat) (s : St) (a b : Val) (w : World) (h : StAt w p s) (h0 : 0 ≤ s.count) (h1 : s.count < 4611686018427387904) :
    Calls Try.prog 28 #[.pointer (some ⟨p, 0, none⟩), .agg #[.int .u8 a.k, .int .i64 a.n, .string a.s], .agg #[.int .u8 b.k, .int .i64 b.n, .string b.s]] w fun e w' =>
      e = .returned (.tuple #[]) ∧ StAt w' p (s.some_ a) ∧ w.grownBy w' (some p) := by
  have hS := boxed_st h a b
  have hA := boxed_a w a b
  have cS := (StAt.cells_ hS).2.2.1
  have cA := (val_cells hA).1
  have fr := StAt.free hS 2
  have hg := boxed_grown w a b p
  by_cases hk : a.k = 0
  · have HT := Lib.hid (show s.some_ a = s from if_pos hk)
    have t1 : (a.k != 0) = false := by simp [hk]
    unfold boxed at *
    have HS := Lib.hid hS
    have HG := Lib.hid hg
    clear hS hA hg hk h
    go_enter Try.func28, Try.ntmps28
    go_wp2
    go_end0
    rw [HT.out]
    exact ⟨rfl, HS.out, HG.out⟩
  · have HT := Lib.hid (show s.some_ a = { s with count := s.count + 1 } from if_neg hk)
    have t1 : (a.k != 0) = true := by simp [hk]
    unfold boxed at *
    have HS := Lib.hid hS
    have HG := Lib.hid hg
    clear hS hA hg hk h
    go_enter Try.func28, Try.ntmps28
    go_wp2
    go_end0
    rw [HT.out]
    exact ⟨rfl, set_count HS.out _, grown_set HG.out 2 _⟩

def St.put (s : St) (a : Val) : St := if a.k = 2 then { s with count := s.count + 1, sum := wplus s.sum (widen a.n) } else s

set_option maxHeartbeats 2000000 in
set_option maxRecDepth 100000 in
theorem put_any (p : Nat) (s : St) (a b : Val) (w : World) (h : StAt w p s) (h0 : 0 ≤ s.count) (h1 : s.count < 4611686018427387904) (hs0 : 0 ≤ s.sum) (hs1 : s.sum < M * M) (hn0 : -9223372036854775808 ≤ a.n) (hn1 : a.n ≤ 9223372036854775807) :
    Calls Try.prog 30 #[.pointer (some ⟨p, 0, none⟩), .agg #[.int .u8 a.k, .int .i64 a.n, .string a.s], .agg #[.int .u8 b.k, .int .i64 b.n, .string b.s]] w fun e w' =>
      e = .returned (.tuple #[]) ∧ StAt w' p (s.put a) ∧ w.grownBy w' (some p) := by
  have hS := boxed_st h a b
  have hA := boxed_a w a b
  have cS := (StAt.cells_ hS).2.2.1
  have cA := (val_cells hA).1
  have fr := StAt.free hS 2
  have hg := boxed_grown w a b p
  by_cases hk : a.k = 2
  · have HT := Lib.hid (show s.put a = { s with count := s.count + 1, sum := wplus s.sum (widen a.n) } from if_pos hk)
    have t1 : (a.k == 2) = true := by simp [hk]
    have hS2 := set_count hS (s.count + 1)
    have hA2 := Blk.far hA (p := ⟨p, 2, none⟩) (fun e => by have := Blk.lt h; simp at e; omega) (.int .i64 (s.count + 1))
    have hg2 := grown_set hg 2 (.int .i64 (s.count + 1))
    unfold boxed at *
    have HS := Lib.hid hS2
    have HA := Lib.hid hA2
    have HG := Lib.hid hg2
    clear hS hA hg hk h hS2 hA2 hg2
    go_enter Try.func30, Try.ntmps30
    go_wp2_with fail
    have hS := HS.out
    have hA := HA.out
    have hg := HG.out
    clear HS HA HG cS cA fr
    generalize (World.setCell _ ⟨p, 2, none⟩ (.int .i64 (s.count + 1))) = W at *
    have cS := fun x : Ext W.heap.size W => StAt.cells_ (Blk.later hS x.h)
    have cA := fun x : Ext W.heap.size W => val_cells (hA.later x.h)
    have wb := wplus_bd 0 a.n
    have hw0 : 0 ≤ widen a.n := by unfold widen M; omega
    have hw1 : widen a.n < M * M := by unfold widen M; omega
    refine region_cut 9 W.heap.size W (Below.refl _ _) (by kernel_rfl) (by kernel_rfl) (by kernel_rfl) (by kernel_rfl) ?_
    simp only [List.take_succ_cons, List.take_zero, List.drop_succ_cons, List.drop_zero]
    repeat (go_big_quiet_step (first
      | (go_at_call 41; exact calls_later (Nat.le_refl _) (widen_any a.n hn0 hn1 _))
      | (go_at_call 24; exact calls_later (Nat.le_refl _) (plus_any s.sum (widen a.n) hs0 hs1 hw0 hw1 _))))
    refine wpQuiet_nil ?_
    rintro W2 ⟨x, hx⟩
    have hW := x.h
    rw [← hx] at hW
    clear cS cA hx x
    have hS2 := Blk.later hS hW
    have hg2 := grown_trans hg (grown_below (p := p) hW)
    have fr := StAt.free hS2
    have cS := StAt.cells_ hS2
    unfold wv
    go_wp2_with fail
    go_end0
    rw [HT.out]
    exact ⟨rfl, set_sum hS2 _, grown_set (grown_set hg2 3 _) 4 _⟩
  · have HT := Lib.hid (show s.put a = s from if_neg hk)
    have t1 : (a.k == 2) = false := by simp [hk]
    unfold boxed at *
    have HS := Lib.hid hS
    have HG := Lib.hid hg
    clear hS hA hg hk h
    go_enter Try.func30, Try.ntmps30
    go_wp2_with fail
    go_end0
    rw [HT.out]
    exact ⟨rfl, HS.out, HG.out⟩

def zeroVal : Val := ⟨0, 0, ByteArray.empty⟩
def St.alone (s : St) (a : Val) : St := if a.k = 0 then s else s.take a zeroVal
def St.timed (s : St) (a b : Val) : St := if b.k = 2 then s.take a b else s

set_option maxHeartbeats 2000000 in
set_option maxRecDepth 100000 in
theorem alone_any (p : Nat) (s : St) (a b : Val) (w : World) (h : StAt w p s) :
    Calls Try.prog 33 #[.pointer (some ⟨p, 0, none⟩), .agg #[.int .u8 a.k, .int .i64 a.n, .string a.s], .agg #[.int .u8 b.k, .int .i64 b.n, .string b.s]] w fun e w' =>
      e = .returned (.tuple #[]) ∧ StAt w' p (s.alone a) ∧ w.grownBy w' (some p) := by
  have hS := boxed_st h a b
  have hA := boxed_a w a b
  have cA := val_cells hA
  have hg := boxed_grown w a b p
  by_cases hk : a.k = 0
  · have HT := Lib.hid (show s.alone a = s from if_pos hk)
    have t1 : (a.k != 0) = false := by simp [hk]
    unfold boxed at *
    have HS := Lib.hid hS
    have HG := Lib.hid hg
    clear hS hA hg hk h
    go_enter Try.func33, Try.ntmps33
    go_wp2_with fail
    go_end0
    rw [HT.out]
    exact ⟨rfl, HS.out, HG.out⟩
  · have HT := Lib.hid (show s.alone a = s.take a zeroVal from if_neg hk)
    have t1 : (a.k != 0) = true := by simp [hk]
    unfold boxed at *
    have HS := Lib.hid hS
    have HG := Lib.hid hg
    clear hS hA hg hk h
    go_enter Try.func33, Try.ntmps33
    go_wp2_with fail
    refine (take_any p s a zeroVal _ HS.out).mono ?_
    rintro e w1 ⟨rfl, hs1, hg1⟩
    go_wp2_with fail
    go_end0
    rw [HT.out]
    exact ⟨rfl, hs1, grown_trans HG.out hg1⟩

set_option maxHeartbeats 2000000 in
set_option maxRecDepth 100000 in
theorem timed_any (p : Nat) (s : St) (a b : Val) (w : World) (h : StAt w p s) :
    Calls Try.prog 35 #[.pointer (some ⟨p, 0, none⟩), .agg #[.int .u8 a.k, .int .i64 a.n, .string a.s], .agg #[.int .u8 b.k, .int .i64 b.n, .string b.s]] w fun e w' =>
      e = .returned (.tuple #[]) ∧ StAt w' p (s.timed a b) ∧ w.grownBy w' (some p) := by
  have hS := boxed_st h a b
  have hA := boxed_a w a b
  have hB := boxed_b w a b
  have cA := val_cells hA
  have cB := val_cells hB
  have hg := boxed_grown w a b p
  by_cases hk : b.k = 2
  · have HT := Lib.hid (show s.timed a b = s.take a b from if_pos hk)
    have t1 : (b.k == 2) = true := by simp [hk]
    unfold boxed at *
    have HS := Lib.hid hS
    have HG := Lib.hid hg
    clear hS hA hB hg hk h
    go_enter Try.func35, Try.ntmps35
    go_wp2_with fail
    refine (take_any p s a b _ HS.out).mono ?_
    rintro e w1 ⟨rfl, hs1, hg1⟩
    go_wp2_with fail
    go_end0
    rw [HT.out]
    exact ⟨rfl, hs1, grown_trans HG.out hg1⟩
  · have HT := Lib.hid (show s.timed a b = s from if_neg hk)
    have t1 : (b.k == 2) = false := by simp [hk]
    unfold boxed at *
    have HS := Lib.hid hS
    have HG := Lib.hid hg
    clear hS hA hB hg hk h
    go_enter Try.func35, Try.ntmps35
    go_wp2_with fail
    go_end0
    rw [HT.out]
    exact ⟨rfl, HS.out, HG.out⟩
end Go.Proofs.Ytjpgahfabmgpiaa
