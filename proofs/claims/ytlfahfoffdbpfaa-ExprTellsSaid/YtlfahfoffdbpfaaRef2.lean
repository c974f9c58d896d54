/- The document's answer: Good, Compare, Col, Form. Printed by gen_ref2.py. -/
import Derived.Test.YtlfahfoffdbpfaaRef1
import Derived.Test.YtlfahfoffdbpfaaEval3
namespace Go.Proofs.Ytlfahfoffdbpfaa
open Go.ChangeShapes Go.WideShapes Go.ChangeAt Go.RowKit
set_option linter.unusedVariables false
set_option linter.unusedSimpArgs false

set_option maxHeartbeats 2000000 in
theorem goodR_any (v : Val) (w : World) : Calls Try.prog 52 #[.agg #[.int .u8 v.k, .int .i64 v.n, .string v.s]] w fun e w' => e = .returned (.bool (good v)) ∧ Below w.heap.size w w' := by
  obtain ⟨k, n, s⟩ := v
  unfold good emptyS
  dsimp only
  by_cases h0 : k = 0
  · subst h0
    cases hn : (n == 0)
    · go_enter Try.func52, Try.ntmps52
      go_wp2_with fail
      go_ret
      refine ⟨?_, by go_grown⟩
      simp_all
    · go_enter Try.func52, Try.ntmps52
      go_wp2_with fail
      go_ret
      refine ⟨?_, by go_grown⟩
      simp_all
  · have e0 : (k == 0) = false := by simpa using h0
    by_cases h1 : k = 1
    · subst h1
      cases hn : (n == 0)
      · cases hn1 : (n == 1)
        · go_enter Try.func52, Try.ntmps52
          go_wp2_with fail
          go_ret
          refine ⟨?_, by go_grown⟩
          simp_all
        · go_enter Try.func52, Try.ntmps52
          go_wp2_with fail
          go_ret
          refine ⟨?_, by go_grown⟩
          simp_all
      · go_enter Try.func52, Try.ntmps52
        go_wp2_with fail
        go_ret
        refine ⟨?_, by go_grown⟩
        simp_all
    · have e1 : (k == 1) = false := by simpa using h1
      by_cases h2 : k = 2
      · subst h2
        go_enter Try.func52, Try.ntmps52
        go_wp2_with fail
        go_ret
        refine ⟨?_, by go_grown⟩
        simp_all
      · have e2 : (k == 2) = false := by simpa using h2
        by_cases h3 : k = 3
        · subst h3
          go_enter Try.func52, Try.ntmps52
          go_wp2_with fail
          go_ret
          refine ⟨?_, by go_grown⟩
          simp_all
        · have e3 : (k == 3) = false := by simpa using h3
          go_enter Try.func52, Try.ntmps52
          go_wp2_with fail
          go_ret
          refine ⟨?_, by go_grown⟩
          simp_all

theorem less_irrefl : ∀ l : List UInt8, Op.bytesLess l l = false
  | [] => by simp [Op.bytesLess]
  | a :: l => by simp [Op.bytesLess, less_irrefl l]
set_option maxHeartbeats 2000000 in
theorem compareR_any (a b : Val) (w : World) : Calls Try.prog 54 #[.agg #[.int .u8 a.k, .int .i64 a.n, .string a.s], .agg #[.int .u8 b.k, .int .i64 b.n, .string b.s]] w fun e w' => e = .returned (.int .i64 (vcmp a b)) ∧ Below w.heap.size w w' := by
  by_cases hk : a.k = b.k
  · have t1 : (a.k != b.k) = false := by simpa using hk
    by_cases hn : a.n = b.n
    · have t2 : (a.n != b.n) = false := by simpa using hn
      have hv : vcmp a b = cmpS a.s b.s := by
        unfold vcmp or3 cmpI
        rw [if_neg (show ¬ a.k < b.k by omega), if_neg (show ¬ b.k < a.k by omega), if_pos rfl, if_neg (show ¬ a.n < b.n by omega), if_neg (show ¬ b.n < a.n by omega), if_pos rfl]
      have HV := Lib.hid hv
      clear hv hk hn
      cases he : (a.s.toList == b.s.toList)
      · cases hl : Op.bytesLess a.s.toList b.s.toList
        · have HQ := Lib.hid (show vcmp a b = 1 by rw [HV.out]; unfold cmpS; rw [if_neg (by rw [hl]; simp), if_neg (by rw [he]; simp)])
          go_enter Try.func54, Try.ntmps54
          go_wp2_with fail
          go_ret
          exact ⟨by rw [HQ.out]; rfl, by go_grown⟩
        · have HQ := Lib.hid (show vcmp a b = -1 by rw [HV.out]; unfold cmpS; rw [if_pos hl])
          go_enter Try.func54, Try.ntmps54
          go_wp2_with fail
          go_ret
          exact ⟨by rw [HQ.out]; rfl, by go_grown⟩
      · have hl : Op.bytesLess a.s.toList b.s.toList = false := by
          have : a.s.toList = b.s.toList := by simpa using he
          rw [this]
          exact less_irrefl _
        have HQ := Lib.hid (show vcmp a b = 0 by rw [HV.out]; unfold cmpS; rw [if_neg (by rw [hl]; simp), if_pos he])
        go_enter Try.func54, Try.ntmps54
        go_wp2_with fail
        go_ret
        exact ⟨by rw [HQ.out]; rfl, by go_grown⟩
    · have t2 : (a.n != b.n) = true := by simpa using hn
      by_cases hl : a.n < b.n
      · have t3 := decide_eq_true hl
        have HQ := Lib.hid (show vcmp a b = -1 by unfold vcmp or3 cmpI; rw [if_neg (show ¬ a.k < b.k by omega), if_neg (show ¬ b.k < a.k by omega), if_pos rfl, if_pos hl, if_neg (by decide)])
        clear hk hn
        go_enter Try.func54, Try.ntmps54
        go_wp2_with fail
        go_ret
        exact ⟨by rw [HQ.out]; rfl, by go_grown⟩
      · have t3 := decide_eq_false hl
        have HQ := Lib.hid (show vcmp a b = 1 by unfold vcmp or3 cmpI; rw [if_neg (show ¬ a.k < b.k by omega), if_neg (show ¬ b.k < a.k by omega), if_pos rfl, if_neg hl, if_pos (show b.n < a.n by omega), if_neg (by decide)])
        clear hk hn
        go_enter Try.func54, Try.ntmps54
        go_wp2_with fail
        go_ret
        exact ⟨by rw [HQ.out]; rfl, by go_grown⟩
  · have t1 : (a.k != b.k) = true := by simpa using hk
    by_cases hl : a.k < b.k
    · have t3 := decide_eq_true hl
      have HQ := Lib.hid (show vcmp a b = -1 by unfold vcmp or3 cmpI; rw [if_pos hl, if_neg (by decide)])
      clear hk
      go_enter Try.func54, Try.ntmps54
      go_wp2_with fail
      go_ret
      exact ⟨by rw [HQ.out]; rfl, by go_grown⟩
    · have t3 := decide_eq_false hl
      have HQ := Lib.hid (show vcmp a b = 1 by unfold vcmp or3 cmpI; rw [if_neg hl, if_pos (show b.k < a.k by omega), if_neg (by decide)])
      clear hk
      go_enter Try.func54, Try.ntmps54
      go_wp2_with fail
      go_ret
      exact ⟨by rw [HQ.out]; rfl, by go_grown⟩

set_option maxHeartbeats 2000000 in
theorem colR_any (cols : List Col) (CA : Option Addr) (cc : Nat) (name : ByteArray) (w : World) (hC : RC w w.heap.size CA cols) (hl : cols.length ≤ 140737488355328) :
    Calls Try.prog 48 #[.slice CA cols.length cc, .string name] w fun e w' => e = .returned (.int .i64 (placeI name cols)) ∧ w = w' := by
  have HC := Lib.hid hC
  clear hC
  go_enter Try.func48, Try.ntmps48
  go_wp2_with fail
  go_loop [5] (fun i => ∃ k : Nat, k ≤ cols.length ∧ i = .int .i64 k ∧ placeK name cols = k + placeK name (cols.drop k)) (fun i => cols.length - (intOf i).toNat)
  case atStart => exact ⟨0, Nat.zero_le _, rfl, by simp⟩
  case round =>
    obtain ⟨k, hk, rfl, hp⟩ := hrel
    have HP := Lib.hid hp
    clear hp
    by_cases hlt : k < cols.length
    · obtain ⟨b, off, rfl, hbb, hcol⟩ := HC.out.at_ hlt
      have HD := Lib.hid (drop_at hlt)
      generalize cols[k] = x at *
      unfold ColAt at hcol
      cases hm : (x.name.toList == name.toList)
      · go_wp2_with fail
        go_round
        case rel =>
          refine ⟨k + 1, by omega, by go_num, ?_⟩
          rw [HP.out, HD.out, placeK_no hm]
          omega
        case measure => simp [intOf]; omega
      · go_wp2_with fail
        go_ret
        refine ⟨?_, rfl⟩
        have hpk : placeK name cols = k := by
          rw [HP.out, HD.out, placeK_yes hm]
          omega
        unfold placeI
        rw [hpk, if_pos hlt]
        rfl
    · go_wp2_with fail
      go_ret
      refine ⟨?_, rfl⟩
      have hpk : placeK name cols = cols.length := by
        rw [HP.out, List.drop_eq_nil_of_le (by omega)]
        unfold placeK
        omega
      unfold placeI
      rw [hpk, if_neg (by omega)]
      rfl
/-- has an expression a form? -/
def formB (x : Ex) : Bool := ((x.n : Int) == argsR x.op) && ((!(x.op == 1) || good x.v) && (!(x.op == 20) || decide (1 ≤ x.width ∧ x.width ≤ 1099511627776)))
set_option maxHeartbeats 4000000 in
set_option maxRecDepth 100000 in
theorem formR_any (x : Ex) (h0 : 0 ≤ x.op) (h1 : x.op ≤ 255) (w : World) : Calls Try.prog 46 #[.agg #[.int .u8 x.op, .int .u8 x.v.k, .int .i64 x.v.n, .string x.v.s, .string x.name, .int .i64 x.width, .slice x.A x.n x.c]] w fun e w' => e = .returned (.bool (formB x)) ∧ Below w.heap.size w w' := by
  go_enter Try.func46, Try.ntmps46
  have hX := Blk.new w 36 #[.int .u8 x.op, .int .u8 x.v.k, .int .i64 x.v.n, .string x.v.s, .string x.name, .int .i64 x.width, .slice x.A x.n x.c]
  have hB := later_new w (.cells #[.int .u8 x.op, .int .u8 x.v.k, .int .i64 x.v.n, .string x.v.s, .string x.name, .int .i64 x.width, .slice x.A x.n x.c] 36)
  go_wp2_with fail
  generalize w.alloc (.cells #[.int .u8 x.op, .int .u8 x.v.k, .int .i64 x.v.n, .string x.v.s, .string x.name, .int .i64 x.width, .slice x.A x.n x.c] 36) = W at *
  have x0 := fun z : Ext W.heap.size W => (hX.later z.h).cell 0
  have x1 := fun z : Ext W.heap.size W => (hX.later z.h).cell 1
  have x2 := fun z : Ext W.heap.size W => (hX.later z.h).cell 2
  have x3 := fun z : Ext W.heap.size W => (hX.later z.h).cell 3
  have x4 := fun z : Ext W.heap.size W => (hX.later z.h).cell 4
  have x5 := fun z : Ext W.heap.size W => (hX.later z.h).cell 5
  have x6 := fun z : Ext W.heap.size W => (hX.later z.h).cell 6
  simp only [List.getElem?_toArray, List.getElem?_cons_zero, List.getElem?_cons_succ] at x0 x1 x2 x3 x4 x5 x6
  have hargs := fun z : Ext W.heap.size W => argsR_any x.op h0 h1 z.w
  cases hn : ((x.n : Int) == argsR x.op)
  · refine region_cut 27 W.heap.size W (Below.refl _ _) (by kernel_rfl) (by kernel_rfl) (by kernel_rfl) (by kernel_rfl) ?_
    simp only [List.take_succ_cons, List.take_zero, List.drop_succ_cons, List.drop_zero]
    repeat (go_big_quiet_step (fail))
    go_big_quiet_step ((go_at_call 91; exact calls_ext_same (hargs _)))
    repeat (go_big_quiet_step (fail))
    refine wpQuiet_nil ?_
    rintro V4 ⟨x9, hx9⟩
    have hW := x9.h
    rw [← hx9] at hW
    clear hx9 x9
    go_wp2_with fail
    go_ret
    refine ⟨?_, Later.then hB hW⟩
    rw [show formB x = false by unfold formB; rw [hn]; rfl]
    rfl
  · by_cases e1 : x.op = 1
    · have t1 : (x.op != 1) = false := by simpa using e1
      have t2 : (x.op != 20) = true := by simp; omega
      have t3 : (x.op == 1) = true := by simpa using e1
      have t4 : (x.op == 20) = false := by simp; omega
      clear e1
      have hgd := fun z : Ext W.heap.size W => goodR_any x.v z.w
      cases hg : good x.v
      · rw [hg] at hgd
        refine region_cut 27 W.heap.size W (Below.refl _ _) (by kernel_rfl) (by kernel_rfl) (by kernel_rfl) (by kernel_rfl) ?_
        simp only [List.take_succ_cons, List.take_zero, List.drop_succ_cons, List.drop_zero]
        repeat (go_big_quiet_step (fail))
        go_big_quiet_step ((go_at_call 91; exact calls_ext_same (hargs _)))
        repeat (go_big_quiet_step (fail))
        go_big_quiet_step ((go_at_call 52; exact calls_later (Nat.le_refl _) (hgd _)))
        repeat (go_big_quiet_step (fail))
        refine wpQuiet_nil ?_
        rintro V4 ⟨x9, hx9⟩
        have hW := x9.h
        rw [← hx9] at hW
        clear hx9 x9
        go_wp2_with fail
        go_ret
        refine ⟨?_, Later.then hB hW⟩
        rw [show formB x = false by unfold formB; rw [hn, t3, t4, hg]; rfl]
        rfl
      · rw [hg] at hgd
        refine region_cut 27 W.heap.size W (Below.refl _ _) (by kernel_rfl) (by kernel_rfl) (by kernel_rfl) (by kernel_rfl) ?_
        simp only [List.take_succ_cons, List.take_zero, List.drop_succ_cons, List.drop_zero]
        repeat (go_big_quiet_step (fail))
        go_big_quiet_step ((go_at_call 91; exact calls_ext_same (hargs _)))
        repeat (go_big_quiet_step (fail))
        go_big_quiet_step ((go_at_call 52; exact calls_later (Nat.le_refl _) (hgd _)))
        repeat (go_big_quiet_step (fail))
        refine wpQuiet_nil ?_
        rintro V4 ⟨x9, hx9⟩
        have hW := x9.h
        rw [← hx9] at hW
        clear hx9 x9
        go_wp2_with fail
        go_ret
        refine ⟨?_, Later.then hB hW⟩
        rw [show formB x = true by unfold formB; rw [hn, t3, t4, hg]; rfl]
        rfl
    · have t1 : (x.op != 1) = true := by simpa using e1
      have t3 : (x.op == 1) = false := by simpa using e1
      clear e1
      by_cases e2 : x.op = 20
      · have t2 : (x.op != 20) = false := by simpa using e2
        have t4 : (x.op == 20) = true := by simpa using e2
        clear e2
        have hwd := fun z : Ext W.heap.size W => widthR_any x.width z.w
        cases hg : decide (1 ≤ x.width ∧ x.width ≤ 1099511627776)
        · rw [hg] at hwd
          refine region_cut 27 W.heap.size W (Below.refl _ _) (by kernel_rfl) (by kernel_rfl) (by kernel_rfl) (by kernel_rfl) ?_
          simp only [List.take_succ_cons, List.take_zero, List.drop_succ_cons, List.drop_zero]
          repeat (go_big_quiet_step (fail))
          go_big_quiet_step ((go_at_call 91; exact calls_ext_same (hargs _)))
          repeat (go_big_quiet_step (fail))
          go_big_quiet_step ((go_at_call 92; exact calls_ext_same (hwd _)))
          repeat (go_big_quiet_step (fail))
          refine wpQuiet_nil ?_
          rintro V4 ⟨x9, hx9⟩
          have hW := x9.h
          rw [← hx9] at hW
          clear hx9 x9
          go_wp2_with fail
          go_ret
          refine ⟨?_, Later.then hB hW⟩
          rw [show formB x = false by unfold formB; rw [hn, t3, t4, hg]; rfl]
          rfl
        · rw [hg] at hwd
          refine region_cut 27 W.heap.size W (Below.refl _ _) (by kernel_rfl) (by kernel_rfl) (by kernel_rfl) (by kernel_rfl) ?_
          simp only [List.take_succ_cons, List.take_zero, List.drop_succ_cons, List.drop_zero]
          repeat (go_big_quiet_step (fail))
          go_big_quiet_step ((go_at_call 91; exact calls_ext_same (hargs _)))
          repeat (go_big_quiet_step (fail))
          go_big_quiet_step ((go_at_call 92; exact calls_ext_same (hwd _)))
          repeat (go_big_quiet_step (fail))
          refine wpQuiet_nil ?_
          rintro V4 ⟨x9, hx9⟩
          have hW := x9.h
          rw [← hx9] at hW
          clear hx9 x9
          go_wp2_with fail
          go_ret
          refine ⟨?_, Later.then hB hW⟩
          rw [show formB x = true by unfold formB; rw [hn, t3, t4, hg]; rfl]
          rfl
      · have t2 : (x.op != 20) = true := by simpa using e2
        have t4 : (x.op == 20) = false := by simpa using e2
        clear e2
        refine region_cut 27 W.heap.size W (Below.refl _ _) (by kernel_rfl) (by kernel_rfl) (by kernel_rfl) (by kernel_rfl) ?_
        simp only [List.take_succ_cons, List.take_zero, List.drop_succ_cons, List.drop_zero]
        repeat (go_big_quiet_step (fail))
        go_big_quiet_step ((go_at_call 91; exact calls_ext_same (hargs _)))
        repeat (go_big_quiet_step (fail))
        refine wpQuiet_nil ?_
        rintro V4 ⟨x9, hx9⟩
        have hW := x9.h
        rw [← hx9] at hW
        clear hx9 x9
        go_wp2_with fail
        go_ret
        refine ⟨?_, Later.then hB hW⟩
        rw [show formB x = true by unfold formB; rw [hn, t3, t4]; rfl]
        rfl
end Go.Proofs.Ytlfahfoffdbpfaa
