/- expr.Eval of a column. Printed by gen_evalc.py. -/
import Derived.Test.YtlfahfoffdbpfaaEval3
namespace Go.Proofs.Ytlfahfoffdbpfaa
open Go.ChangeShapes Go.WideShapes Go.ChangeAt Go.RowKit
set_option linter.unusedVariables false
set_option linter.unusedSimpArgs false

set_option maxHeartbeats 4000000 in
set_option maxRecDepth 100000 in
theorem eval_col (xv : Val) (name : ByteArray) (width : Int) (A : Option Addr) (c : Nat) (cols : List Col) (CA : Option Addr) (cc : Nat) (row : List Val) (RA : Option Addr) (rc : Nat) (w : World) (hC : RC w w.heap.size CA cols) (hl : cols.length ≤ 140737488355328) (hV : RV w w.heap.size RA row) (hl2 : row.length ≤ 140737488355328) :
    Calls Try.prog 14 #[.agg #[.int .u8 2, .int .u8 xv.k, .int .i64 xv.n, .string xv.s, .string name, .int .i64 width, .slice A 0 c], .slice CA cols.length cc, .slice RA row.length rc] w fun en w' => en = .returned (ansV (colR cols row name).1 (colR cols row name).2) ∧ Below w.heap.size w w' := by
  have HC := Lib.hid hC
  have HV := Lib.hid hV
  clear hC hV
  go_enter Try.func14, Try.ntmps14
  have hX2 := (Blk.new w 36 #[.int .u8 2, .int .u8 xv.k, .int .i64 xv.n, .string xv.s, .string name, .int .i64 width, .slice A 0 c]).alloc (.cells #[.int .u8 0, .int .i64 0, .string ⟨#[]⟩] 23)
  have x6 := hX2.cell 6
  simp only [List.getElem?_toArray, List.getElem?_cons_zero, List.getElem?_cons_succ] at x6
  go_wp2_with fail
  have hR2 := Blk.new (w.alloc (.cells #[.int .u8 2, .int .u8 xv.k, .int .i64 xv.n, .string xv.s, .string name, .int .i64 width, .slice A 0 c] 36)) 23 #[.int .u8 0, .int .i64 0, .string ⟨#[]⟩]
  rw [World.size_alloc] at hR2
  have hB2 := Later.then (later_new w (.cells #[.int .u8 2, .int .u8 xv.k, .int .i64 xv.n, .string xv.s, .string name, .int .i64 width, .slice A 0 c] 36)) (later_new _ (.cells #[.int .u8 0, .int .i64 0, .string ⟨#[]⟩] 23))
  replace HC := Lib.hid (HC.out.later hB2)
  replace HV := Lib.hid (HV.out.later hB2)
  clear x6
  generalize (w.alloc (.cells #[.int .u8 2, .int .u8 xv.k, .int .i64 xv.n, .string xv.s, .string name, .int .i64 width, .slice A 0 c] 36)).alloc (.cells #[.int .u8 0, .int .i64 0, .string ⟨#[]⟩] 23) = W at *
  have hgw : w.heap.size ≤ w.heap.size + 1 := by omega
  generalize w.heap.size + 1 = gR at *
  go_loopw [8, 9, 20] (fun lv kv i wr => lv = .slice none 0 0 ∧ kv = .slice none 0 0 ∧ i = .int .i64 0 ∧ wr = W) (fun _ _ _ _ => 0)
  case atStart => exact ⟨rfl, rfl, rfl, rfl⟩
  case round =>
    obtain ⟨rfl, rfl, rfl, rfl⟩ := hrel
    have x0 := hX2.cell 0
    have x1 := hX2.cell 1
    have x2 := hX2.cell 2
    have x3 := hX2.cell 3
    have x4 := hX2.cell 4
    have x5 := hX2.cell 5
    have x6 := hX2.cell 6
    simp only [List.getElem?_toArray, List.getElem?_cons_zero, List.getElem?_cons_succ] at x0 x1 x2 x3 x4 x5 x6
    have hR1 := val_cells hR2
    have hR3 := Blk.frozen hR2
    go_wp2_with fail
    refine (form_any ⟨2, xv, name, width, A, 0, c⟩ _).mono ?_
    rintro e w1 ⟨oo, rfl, hOI, b1⟩
    obtain rfl : oo = zeroOp := by
      rcases hOI with ⟨h, _⟩ | ⟨_, h⟩
      · exact absurd h (by simp [isOp])
      · exact h
    have hfe : formE ⟨2, xv, name, width, A, 0, c⟩ = 0 := by unfold formE; rw [if_pos (by simp)]
    rw [hfe]
    clear hfe hOI
    clear x0 x1 x2 x3 x4 x5 x6 hR1 hR3
    have b2 := Later.then b1 (later_new w1 (.cells #[.int .i64 0, .int .u8 0, .int .u8 0, .bool false, .bool false, .nilFunc] 60))
    replace hX2 := hX2.later b2
    replace hR2 := hR2.later b2
    replace hB2 := Later.then hB2 b2
    replace HC := Lib.hid (HC.out.later b2)
    replace HV := Lib.hid (HV.out.later b2)
    clear b1 b2
    have hst := fun (u : Addr) (m : Mode) (w : World) => run_store Try.prog w u .nilFunc m rfl
    unfold zeroOp
    have x0 := hX2.cell 0
    have x1 := hX2.cell 1
    have x2 := hX2.cell 2
    have x3 := hX2.cell 3
    have x4 := hX2.cell 4
    have x5 := hX2.cell 5
    have x6 := hX2.cell 6
    simp only [List.getElem?_toArray, List.getElem?_cons_zero, List.getElem?_cons_succ] at x0 x1 x2 x3 x4 x5 x6
    have hR1 := val_cells hR2
    have hR3 := Blk.frozen hR2
    go_wp2_with fail
    clear hst
    clear x0 x1 x2 x3 x4 x5 x6 hR1 hR3
    refine (place_any cols CA cc name _ HC.out hl).mono ?_
    rintro e w2 ⟨rfl, b2⟩
    replace hX2 := hX2.later b2
    replace hR2 := hR2.later b2
    replace hB2 := Later.then hB2 b2
    replace HC := Lib.hid (HC.out.later b2)
    replace HV := Lib.hid (HV.out.later b2)
    clear b2
    by_cases hp : placeK name cols < cols.length
    · have HP := Lib.hid (show placeI name cols = (placeK name cols : Int) by unfold placeI; rw [if_pos hp])
      rw [HP.out]
      have hc1 : colR cols row name = if placeK name cols < row.length then (if good (row.getD (placeK name cols) zeroVal) = true then (row.getD (placeK name cols) zeroVal, 0) else (zeroVal, 40)) else (zeroVal, 41) := by unfold colR; simp only [hp, true_and]
      have HC1 := Lib.hid hc1
      clear hc1 HP
      generalize placeK name cols = k at *
      have hk2 : (k : Int) ≤ 140737488355328 := by omega
      have t0 : decide ((k : Int) < 0) = false := decide_eq_false (by omega)
      by_cases hk : k < row.length
      · have t1 : decide (row.length ≤ k) = false := decide_eq_false (by omega)
        obtain ⟨b, off, rfl, hbb, hval⟩ := HV.out.at_ hk
        have HG := Lib.hid (show row.getD k zeroVal = row[k] by rw [List.getD_eq_getElem?_getD, List.getElem?_eq_getElem hk]; rfl)
        have HC2 := Lib.hid (HC1.out.trans (if_pos hk))
        rw [HG.out] at HC2
        generalize row[k] = v at *
        have hva := hval
        unfold ValAt at hval
        have x0 := hX2.cell 0
        have x1 := hX2.cell 1
        have x2 := hX2.cell 2
        have x3 := hX2.cell 3
        have x4 := hX2.cell 4
        have x5 := hX2.cell 5
        have x6 := hX2.cell 6
        simp only [List.getElem?_toArray, List.getElem?_cons_zero, List.getElem?_cons_succ] at x0 x1 x2 x3 x4 x5 x6
        have hR1 := val_cells hR2
        have hR3 := Blk.frozen hR2
        go_wp2_with fail
        refine (good_any v _).mono ?_
        rintro e w3 ⟨rfl, b3⟩
        replace hva := hva.keep (w' := w3) fun o => b3.cell (p := ⟨b, o, none⟩) hbb
        clear x0 x1 x2 x3 x4 x5 x6 hR1 hR3
        replace hX2 := hX2.later b3
        replace hR2 := hR2.later b3
        replace hB2 := Later.then hB2 b3
        replace HC := Lib.hid (HC.out.later b3)
        replace HV := Lib.hid (HV.out.later b3)
        clear hval b3
        unfold ValAt at hva
        cases hg : good v
        · have HQ := Lib.hid (HC2.out.trans (if_neg (by rw [hg]; simp)))
          have x0 := hX2.cell 0
          have x1 := hX2.cell 1
          have x2 := hX2.cell 2
          have x3 := hX2.cell 3
          have x4 := hX2.cell 4
          have x5 := hX2.cell 5
          have x6 := hX2.cell 6
          simp only [List.getElem?_toArray, List.getElem?_cons_zero, List.getElem?_cons_succ] at x0 x1 x2 x3 x4 x5 x6
          have hR1 := val_cells hR2
          have hR3 := Blk.frozen hR2
          go_wp2_with fail
          exact bodyPost_ret (v := .tuple #[.agg #[.int .u8 0, .int .i64 0, .string ByteArray.empty], .int .i64 40]) (by simp [results, Try.results14, go_sem, hR1]; try rfl) rfl ⟨by rw [HQ.out]; rfl, ((hB2.setCell hgw _).setCell hgw _).setCell hgw _⟩
        · have HQ := Lib.hid (HC2.out.trans (if_pos hg))
          have x0 := hX2.cell 0
          have x1 := hX2.cell 1
          have x2 := hX2.cell 2
          have x3 := hX2.cell 3
          have x4 := hX2.cell 4
          have x5 := hX2.cell 5
          have x6 := hX2.cell 6
          simp only [List.getElem?_toArray, List.getElem?_cons_zero, List.getElem?_cons_succ] at x0 x1 x2 x3 x4 x5 x6
          have hR1 := val_cells hR2
          have hR3 := Blk.frozen hR2
          go_wp2_with fail
          exact bodyPost_ret (v := .tuple #[.agg #[.int .u8 v.k, .int .i64 v.n, .string v.s], .int .i64 0]) (by simp [results, Try.results14, go_sem, hR1]; try rfl) rfl ⟨by rw [HQ.out]; rfl, ((hB2.setCell hgw _).setCell hgw _).setCell hgw _⟩
      · have t1 : decide (row.length ≤ k) = true := decide_eq_true (by omega)
        have HQ := Lib.hid (HC1.out.trans (if_neg hk))
        have x0 := hX2.cell 0
        have x1 := hX2.cell 1
        have x2 := hX2.cell 2
        have x3 := hX2.cell 3
        have x4 := hX2.cell 4
        have x5 := hX2.cell 5
        have x6 := hX2.cell 6
        simp only [List.getElem?_toArray, List.getElem?_cons_zero, List.getElem?_cons_succ] at x0 x1 x2 x3 x4 x5 x6
        have hR1 := val_cells hR2
        have hR3 := Blk.frozen hR2
        go_wp2_with fail
        exact bodyPost_ret (v := .tuple #[.agg #[.int .u8 0, .int .i64 0, .string ByteArray.empty], .int .i64 41]) (by simp [results, Try.results14, go_sem, hR1]; try rfl) rfl ⟨by rw [HQ.out]; rfl, ((hB2.setCell hgw _).setCell hgw _).setCell hgw _⟩
    · have HP := Lib.hid (show placeI name cols = -1 by unfold placeI; rw [if_neg hp])
      rw [HP.out]
      have HQ := Lib.hid (show colR cols row name = (zeroVal, 41) by unfold colR; rw [if_neg (fun h => hp h.1)])
      clear hp
      have x0 := hX2.cell 0
      have x1 := hX2.cell 1
      have x2 := hX2.cell 2
      have x3 := hX2.cell 3
      have x4 := hX2.cell 4
      have x5 := hX2.cell 5
      have x6 := hX2.cell 6
      simp only [List.getElem?_toArray, List.getElem?_cons_zero, List.getElem?_cons_succ] at x0 x1 x2 x3 x4 x5 x6
      have hR1 := val_cells hR2
      have hR3 := Blk.frozen hR2
      go_wp2_with fail
      exact bodyPost_ret (v := .tuple #[.agg #[.int .u8 0, .int .i64 0, .string ByteArray.empty], .int .i64 41]) (by simp [results, Try.results14, go_sem, hR1]; try rfl) rfl ⟨by rw [HQ.out]; rfl, ((hB2.setCell hgw _).setCell hgw _).setCell hgw _⟩
end Go.Proofs.Ytlfahfoffdbpfaa
