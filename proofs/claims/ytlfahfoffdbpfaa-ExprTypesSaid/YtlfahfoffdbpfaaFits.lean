/- tidelinelaw15.fits. Printed by gen_fits.py. -/
import Derived.Test.YtlfahfoffdbpfaaTree
namespace Go.Proofs.Ytlfahfoffdbpfaa
open Go.ChangeShapes Go.WideShapes Go.ChangeAt Go.RowKit
set_option linter.unusedVariables false
set_option linter.unusedSimpArgs false

/-- a value fits a column -/
def fitB (c : Col) (v : Val) : Bool := good v && !(v.k != 0 && v.k != c.t)
def fitsL : List Col → List Val → Bool
  | c :: cs, v :: vs => fitB c v && fitsL cs vs
  | _, _ => true
def fitsB (cols : List Col) (row : List Val) : Bool := cols.length == row.length && fitsL cols row

set_option maxHeartbeats 4000000 in
set_option maxRecDepth 100000 in
theorem fits_any (cols : List Col) (CA : Option Addr) (cc : Nat) (row : List Val) (RA : Option Addr) (rc : Nat) (w : World) (hC : RC w w.heap.size CA cols) (hcl : cols.length ≤ 140737488355328) (hV : RV w w.heap.size RA row) (hrl : row.length ≤ 140737488355328) :
    Calls Try.prog 19 #[.slice CA cols.length cc, .slice RA row.length rc] w fun e w' => e = .returned (.bool (fitsB cols row)) ∧ Below w.heap.size w w' := by
  have HC := Lib.hid hC
  have HV := Lib.hid hV
  clear hC hV
  by_cases hne : cols.length = row.length
  · have HB := Lib.hid (show fitsB cols row = fitsL cols row by unfold fitsB; rw [show (cols.length == row.length) = true by simpa using hne]; rfl)
    have t0 : (cols.length != row.length) = false := by simpa using hne
    have t0' : ((cols.length : Int) != (row.length : Int)) = false := by simp [hne]
    rw [HB.out]
    have hle : cols.length ≤ row.length := by omega
    have HNE := Lib.hid hne
    clear hne
    go_enter Try.func19, Try.ntmps19
    go_wp2_with fail
    clear t0 t0'
    go_loopw [5] (fun i wr => ∃ k : Nat, k ≤ cols.length ∧ i = .int .i64 k ∧ fitsL cols row = fitsL (cols.drop k) (row.drop k) ∧ Below w.heap.size w wr) (fun i _ => cols.length - (intOf i).toNat)
    case atStart => exact ⟨0, Nat.zero_le _, rfl, rfl, Below.refl _ _⟩
    case round =>
      obtain ⟨k, hk, rfl, hF, hb⟩ := hrel
      have HF := Lib.hid hF
      clear hF
      by_cases hlt : k < cols.length
      · have hlt2 : k < row.length := by omega
        have HD1 := Lib.hid (show cols.drop k = cols[k] :: cols.drop (k + 1) from List.drop_eq_getElem_cons hlt)
        have HD2 := Lib.hid (show row.drop k = row[k] :: row.drop (k + 1) from List.drop_eq_getElem_cons hlt2)
        obtain ⟨b, off, rfl, hbb, hcol⟩ := (HC.out.below hb).at_ hlt
        obtain ⟨b2, off2, rfl, hbb2, hval⟩ := (HV.out.below hb).at_ hlt2
        generalize cols[k] = c at *
        generalize row[k] = v at *
        have hcx := fun x : Ext wr.heap.size wr => (hcol.keep (w' := x.w) fun o => x.h.cell (p := ⟨b, o, none⟩) (Nat.lt_of_lt_of_le hbb hb.size))
        have hvx := fun x : Ext wr.heap.size wr => (hval.keep (w' := x.w) fun o => x.h.cell (p := ⟨b2, o, none⟩) (Nat.lt_of_lt_of_le hbb2 hb.size))
        unfold ColAt at hcx
        unfold ValAt at hvx
        have hgd := good_any v
        clear hcol hval
        cases hg : good v
        · have HG := Lib.hid hg
          rw [hg] at hgd
          clear hg
          go_wp2_with fail
          refine region_cut 27 wr.heap.size wr (Below.refl _ _) (by kernel_rfl) (by kernel_rfl) (by kernel_rfl) (by kernel_rfl) ?_
          simp only [List.take_succ_cons, List.take_zero, List.drop_succ_cons, List.drop_zero]
          repeat (go_big_quiet_step (fail))
          go_big_quiet_step ((go_at_call 16; exact calls_later (Nat.le_refl _) (hgd _)))
          repeat (go_big_quiet_step (fail))
          refine wpQuiet_nil ?_
          rintro V4 ⟨x2, hx2⟩
          have hW := x2.h
          rw [← hx2] at hW
          clear hx2 x2 hcx hvx
          go_wp2_with fail
          go_ret
          refine ⟨?_, Later.then hb hW⟩
          rw [HF.out, HD1.out, HD2.out]
          show _ = Ending.returned (.bool (fitB c v && fitsL _ _))
          rw [show fitB c v = false by simp [fitB, HG.out]]
          rfl
        · have HG := Lib.hid hg
          rw [hg] at hgd
          clear hg
          cases e1 : (v.k != 0)
          · go_wp2_with fail
            refine region_cut 27 wr.heap.size wr (Below.refl _ _) (by kernel_rfl) (by kernel_rfl) (by kernel_rfl) (by kernel_rfl) ?_
            simp only [List.take_succ_cons, List.take_zero, List.drop_succ_cons, List.drop_zero]
            repeat (go_big_quiet_step (fail))
            go_big_quiet_step ((go_at_call 16; exact calls_later (Nat.le_refl _) (hgd _)))
            repeat (go_big_quiet_step (fail))
            refine wpQuiet_nil ?_
            rintro V4 ⟨x2, hx2⟩
            have hW := x2.h
            rw [← hx2] at hW
            clear hx2 x2 hcx hvx
            go_wp2_with fail
            go_roundw
            case rel =>
              refine ⟨k + 1, hlt, by go_num, ?_, Later.then hb hW⟩
              rw [HF.out, HD1.out, HD2.out]
              show (fitB c v && fitsL _ _) = _
              rw [show fitB c v = true by simp [fitB, HG.out, e1]]
              rfl
            case measure => simp [intOf]; omega
          · cases e2 : (v.k != c.t)
            · go_wp2_with fail
              refine region_cut 27 wr.heap.size wr (Below.refl _ _) (by kernel_rfl) (by kernel_rfl) (by kernel_rfl) (by kernel_rfl) ?_
              simp only [List.take_succ_cons, List.take_zero, List.drop_succ_cons, List.drop_zero]
              repeat (go_big_quiet_step (fail))
              go_big_quiet_step ((go_at_call 16; exact calls_later (Nat.le_refl _) (hgd _)))
              repeat (go_big_quiet_step (fail))
              refine wpQuiet_nil ?_
              rintro V4 ⟨x2, hx2⟩
              have hW := x2.h
              rw [← hx2] at hW
              clear hx2 x2 hcx hvx
              go_wp2_with fail
              go_roundw
              case rel =>
                refine ⟨k + 1, hlt, by go_num, ?_, Later.then hb hW⟩
                rw [HF.out, HD1.out, HD2.out]
                show (fitB c v && fitsL _ _) = _
                rw [show fitB c v = true by simp [fitB, HG.out, e1, e2]]
                rfl
              case measure => simp [intOf]; omega
            · go_wp2_with fail
              refine region_cut 27 wr.heap.size wr (Below.refl _ _) (by kernel_rfl) (by kernel_rfl) (by kernel_rfl) (by kernel_rfl) ?_
              simp only [List.take_succ_cons, List.take_zero, List.drop_succ_cons, List.drop_zero]
              repeat (go_big_quiet_step (fail))
              go_big_quiet_step ((go_at_call 16; exact calls_later (Nat.le_refl _) (hgd _)))
              repeat (go_big_quiet_step (fail))
              refine wpQuiet_nil ?_
              rintro V4 ⟨x2, hx2⟩
              have hW := x2.h
              rw [← hx2] at hW
              clear hx2 x2 hcx hvx
              go_wp2_with fail
              go_ret
              refine ⟨?_, Later.then hb hW⟩
              rw [HF.out, HD1.out, HD2.out]
              show _ = Ending.returned (.bool (fitB c v && fitsL _ _))
              rw [show fitB c v = false by simp [fitB, HG.out, e1, e2]]
              rfl
      · go_wp2_with fail
        go_ret
        refine ⟨?_, hb⟩
        rw [HF.out, List.drop_eq_nil_of_le (by omega)]
        rfl
  · have HB := Lib.hid (show fitsB cols row = false by unfold fitsB; rw [show (cols.length == row.length) = false by simpa using hne]; rfl)
    have t0 : (cols.length != row.length) = true := by simpa using hne
    have t0' : ((cols.length : Int) != (row.length : Int)) = true := by simp; omega
    rw [HB.out]
    clear hne
    go_enter Try.func19, Try.ntmps19
    go_wp2_with fail
    go_ret
    exact ⟨rfl, Below.refl _ _⟩
end Go.Proofs.Ytlfahfoffdbpfaa
