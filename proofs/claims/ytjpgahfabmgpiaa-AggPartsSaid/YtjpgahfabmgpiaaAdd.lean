/- (*agg.State).Add, Clone. -/
import Derived.Test.YtjpgahfabmgpiaaAnswers
namespace Go.Proofs.Ytjpgahfabmgpiaa
open Go.ChangeShapes Go.WideShapes Go.ChangeAt Go.RowKit
set_option linter.unusedVariables false

/-- all that was fed to another one, fed -/
def St.sums (s o : St) : St := { s with all := s.all + o.all, count := s.count + o.count, sum := wplus s.sum o.sum }
def St.add (s o : St) : St := if o.found then (s.sums o).take o.a o.b else s.sums o

set_option maxHeartbeats 4000000 in
set_option maxRecDepth 100000 in
theorem add_any (p q : Nat) (s o : St) (w : World) (hS : StAt w p s) (hO : StAt w q o) (hpq : p ≠ q) (hop : s.op = o.op) (ok : s.Ok) (oko : o.Ok) (ha : s.all + o.all < 4611686018427387904) (hc : s.count + o.count < 4611686018427387904) :
    Calls Try.prog 16 #[.pointer (some ⟨p, 0, none⟩), .pointer (some ⟨q, 0, none⟩)] w fun e w' =>
      e = .returned (.int .i64 0) ∧ StAt w' p (s.add o) ∧ w.grownBy w' (some p) := by
  have t1 : (s.op != o.op) = false := by simp [hop]
  have k1 := ok.all0
  have k2 := oko.all0
  have k3 := ok.count0
  have k4 := oko.count0
  have k5 := ok.sum0
  have k6 := ok.sum1
  have k7 := oko.sum0
  have k8 := oko.sum1
  have HF := Lib.hid (show s.add o = if o.found then (s.sums o).take o.a o.b else s.sums o from rfl)
  clear ok oko hop
  have hg0 : w.grownBy w (some p) := grown_below (Below.refl _ _)
  go_enter Try.func16, Try.ntmps16
  go_wp2_with fail
  have cS := fun x : Ext w.heap.size w => StAt.cells_ (Blk.later hS x.h)
  have cO := fun x : Ext w.heap.size w => StAt.cells_ (Blk.later hO x.h)
  refine region_cut 10 w.heap.size w (Below.refl _ _) (by kernel_rfl) (by kernel_rfl) (by kernel_rfl) (by kernel_rfl) ?_
  simp only [List.take_succ_cons, List.take_zero, List.drop_succ_cons, List.drop_zero]
  repeat (go_big_quiet_step (fail))
  refine wpQuiet_nil ?_
  rintro W1 ⟨x, hx⟩
  have hW := x.h
  rw [← hx] at hW
  have hS1 : StAt W1 p s := Blk.later hS hW
  have hO1 : StAt W1 q o := Blk.later hO hW
  have hg1 := grown_trans hg0 (grown_below (p := p) hW)
  clear cS cO hx x hW hS hO hg0
  go_wp2_with fail
  have cS := fun x : Ext W1.heap.size W1 => StAt.cells_ (Blk.later hS1 x.h)
  have cO := fun x : Ext W1.heap.size W1 => StAt.cells_ (Blk.later hO1 x.h)
  refine region_cut 9 W1.heap.size W1 (Below.refl _ _) (by kernel_rfl) (by kernel_rfl) (by kernel_rfl) (by kernel_rfl) ?_
  simp only [List.take_succ_cons, List.take_zero, List.drop_succ_cons, List.drop_zero]
  repeat (go_big_quiet_step (fail))
  refine wpQuiet_nil ?_
  rintro W2 ⟨x, hx⟩
  have hW := x.h
  rw [← hx] at hW
  have hS2 : StAt W2 p s := Blk.later hS1 hW
  have hO2 : StAt W2 q o := Blk.later hO1 hW
  have hg2 := grown_trans hg1 (grown_below (p := p) hW)
  have c1 := (StAt.cells_ hS2).2.1
  have fr := StAt.free hS2
  clear cS cO hx x hW hS1 hO1 hg1
  go_wp2_with fail
  have hS3 := set_all hS2 (s.all + o.all)
  have hO3 : StAt (W2.setCell ⟨p, 1, none⟩ (.int .i64 (s.all + o.all))) q o := Blk.far hO2 (p := ⟨p, 1, none⟩) (fun e => hpq (by simpa using e.symm)) _
  have hg3 := grown_set hg2 1 (.int .i64 (s.all + o.all))
  clear hS2 hO2 hg2 c1 fr
  generalize W2.setCell ⟨p, 1, none⟩ (.int .i64 (s.all + o.all)) = W3 at *
  have cS := fun x : Ext W3.heap.size W3 => StAt.cells_ (Blk.later hS3 x.h)
  have cO := fun x : Ext W3.heap.size W3 => StAt.cells_ (Blk.later hO3 x.h)
  refine region_cut 9 W3.heap.size W3 (Below.refl _ _) (by kernel_rfl) (by kernel_rfl) (by kernel_rfl) (by kernel_rfl) ?_
  simp only [List.take_succ_cons, List.take_zero, List.drop_succ_cons, List.drop_zero]
  repeat (go_big_quiet_step (fail))
  refine wpQuiet_nil ?_
  rintro W4 ⟨x, hx⟩
  have hW := x.h
  rw [← hx] at hW
  have hS4 := Blk.later hS3 hW
  have hO4 : StAt W4 q o := Blk.later hO3 hW
  have hg4 := grown_trans hg3 (grown_below (p := p) hW)
  have c1 := (StAt.cells_ hS4).2.2.1
  have fr := StAt.free hS4
  clear cS cO hx x hW hS3 hO3 hg3
  go_wp2_with fail
  have hS5 := set_count hS4 (s.count + o.count)
  have hO5 : StAt (W4.setCell ⟨p, 2, none⟩ (.int .i64 (s.count + o.count))) q o := Blk.far hO4 (p := ⟨p, 2, none⟩) (fun e => hpq (by simpa using e.symm)) _
  have hg5 := grown_set hg4 2 (.int .i64 (s.count + o.count))
  clear hS4 hO4 hg4 c1 fr
  generalize W4.setCell ⟨p, 2, none⟩ (.int .i64 (s.count + o.count)) = W5 at *
  have cS := fun x : Ext W5.heap.size W5 => StAt.cells_ (Blk.later hS5 x.h)
  have cO := fun x : Ext W5.heap.size W5 => StAt.cells_ (Blk.later hO5 x.h)
  refine region_cut 10 W5.heap.size W5 (Below.refl _ _) (by kernel_rfl) (by kernel_rfl) (by kernel_rfl) (by kernel_rfl) ?_
  simp only [List.take_succ_cons, List.take_zero, List.drop_succ_cons, List.drop_zero]
  repeat (go_big_quiet_step (first
    | (go_at_call 24; exact calls_later (Nat.le_refl _) (plus_any s.sum o.sum k5 k6 k7 k8 _))))
  refine wpQuiet_nil ?_
  rintro W6 ⟨x, hx⟩
  have hW := x.h
  rw [← hx] at hW
  have hS6 := Blk.later hS5 hW
  have hO6 : StAt W6 q o := Blk.later hO5 hW
  have hg6 := grown_trans hg5 (grown_below (p := p) hW)
  have c1 := StAt.cells_ hS6
  have fr := StAt.free hS6
  clear cS cO hx x hW hS5 hO5 hg5
  unfold wv
  have hS7 := set_sum hS6 (wplus s.sum o.sum)
  have hO7 : StAt ((W6.setCell ⟨p, 3, none⟩ (.int .u64 (hi (wplus s.sum o.sum)))).setCell ⟨p, 4, none⟩ (.int .u64 (lo (wplus s.sum o.sum)))) q o := Blk.far (Blk.far hO6 (p := ⟨p, 3, none⟩) (fun e => hpq (by simpa using e.symm)) _) (p := ⟨p, 4, none⟩) (fun e => hpq (by simpa using e.symm)) _
  have hg7 := grown_set (grown_set hg6 3 (.int .u64 (hi (wplus s.sum o.sum)))) 4 (.int .u64 (lo (wplus s.sum o.sum)))
  have cf := (StAt.cells_ hO7).2.2.2.2.2.2.2.2.2.2.2
  have HS7 := Lib.hid hS7
  have HO7 := Lib.hid hO7
  have HG7 := Lib.hid hg7
  clear hS6 hO6 hg6 hS7 hO7 hg7
  cases hfd : o.found
  · rw [hfd] at cf
    go_wp2_with fail
    go_ret
    rw [HF.out, hfd]
    exact ⟨rfl, HS7.out, HG7.out⟩
  · rw [hfd] at cf
    go_wp2_with fail
    clear c1 fr cf
    have hS7 := HS7.out
    have hO7 := HO7.out
    have hg7 := HG7.out
    clear HS7 HO7 HG7
    generalize (W6.setCell ⟨p, 3, none⟩ (.int .u64 (hi (wplus s.sum o.sum)))).setCell ⟨p, 4, none⟩ (.int .u64 (lo (wplus s.sum o.sum))) = W7 at *
    have cO := fun x : Ext W7.heap.size W7 => StAt.cells_ (Blk.later hO7 x.h)
    refine region_cut 9 W7.heap.size W7 (Below.refl _ _) (by kernel_rfl) (by kernel_rfl) (by kernel_rfl) (by kernel_rfl) ?_
    simp only [List.take_succ_cons, List.take_zero, List.drop_succ_cons, List.drop_zero]
    repeat (go_big_quiet_step (fail))
    refine wpQuiet_nil ?_
    rintro W8 ⟨x, hx⟩
    have hW := x.h
    rw [← hx] at hW
    have hS8 := Blk.later hS7 hW
    have hg8 := grown_trans hg7 (grown_below (p := p) hW)
    clear cO hx x hW hS7 hO7 hg7
    go_wp2_with fail
    refine (take_any p _ o.a o.b _ hS8).mono ?_
    rintro e w9 ⟨rfl, hS9, hg9⟩
    go_wp2_with fail
    go_ret
    rw [HF.out, hfd]
    exact ⟨rfl, hS9, grown_trans hg8 hg9⟩

set_option maxHeartbeats 2000000 in
set_option maxRecDepth 100000 in
theorem add_unlike (p q : Nat) (s o : St) (w : World) (hS : StAt w p s) (hO : StAt w q o) (hop : s.op ≠ o.op) :
    Calls Try.prog 16 #[.pointer (some ⟨p, 0, none⟩), .pointer (some ⟨q, 0, none⟩)] w fun e w' => e = .returned (.int .i64 1) ∧ Below w.heap.size w w' := by
  have t1 : (s.op != o.op) = true := by simp [hop]
  clear hop
  go_enter Try.func16, Try.ntmps16
  go_wp2_with fail
  have cS := fun x : Ext w.heap.size w => StAt.cells_ (Blk.later hS x.h)
  have cO := fun x : Ext w.heap.size w => StAt.cells_ (Blk.later hO x.h)
  refine region_cut 10 w.heap.size w (Below.refl _ _) (by kernel_rfl) (by kernel_rfl) (by kernel_rfl) (by kernel_rfl) ?_
  simp only [List.take_succ_cons, List.take_zero, List.drop_succ_cons, List.drop_zero]
  repeat (go_big_quiet_step (fail))
  refine wpQuiet_nil ?_
  rintro W1 ⟨x, hx⟩
  have hW := x.h
  rw [← hx] at hW
  clear cS cO hx x hS hO
  go_wp2_with fail
  go_ret
  exact ⟨rfl, hW⟩

set_option maxHeartbeats 1000000 in
theorem add_nil_left (x : Option Addr) (w : World) : Calls Try.prog 16 #[.pointer none, .pointer x] w fun e w' => e = .returned (.int .i64 8) ∧ w = w' := by
  go_enter Try.func16, Try.ntmps16
  go_wp2_with fail
  go_ret
  exact ⟨rfl, rfl⟩

set_option maxHeartbeats 1000000 in
theorem add_nil_right (p : Nat) (w : World) : Calls Try.prog 16 #[.pointer (some ⟨p, 0, none⟩), .pointer none] w fun e w' => e = .returned (.int .i64 8) ∧ w = w' := by
  go_enter Try.func16, Try.ntmps16
  go_wp2_with fail
  go_ret
  exact ⟨rfl, rfl⟩

set_option maxHeartbeats 1000000 in
theorem clone_nil (w : World) : Calls Try.prog 17 #[.pointer none] w fun e w' => e = .returned (.pointer none) ∧ w = w' := by
  go_enter Try.func17, Try.ntmps17
  go_wp2_with fail
  go_ret
  exact ⟨rfl, rfl⟩
end Go.Proofs.Ytjpgahfabmgpiaa
