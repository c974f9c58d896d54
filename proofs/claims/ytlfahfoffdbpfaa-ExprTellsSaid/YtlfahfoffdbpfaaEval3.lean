/- expr.place, and expr.Eval of a column. -/
import Derived.Test.YtlfahfoffdbpfaaTree
namespace Go.Proofs.Ytlfahfoffdbpfaa
open Go.ChangeShapes Go.WideShapes Go.ChangeAt Go.RowKit
set_option linter.unusedVariables false
set_option linter.unusedSimpArgs false

set_option maxHeartbeats 1000000 in
theorem place1_any (x : Col) (name : ByteArray) (g : Nat) (w : World) (hg : Blk w g 9 #[.string name]) :
    Calls Try.prog 60 #[.agg #[.string x.name, .int .u8 x.t], .pointer (some ⟨g, 0, none⟩)] w fun e w' => e = .returned (.bool (x.name.toList == name.toList)) ∧ Below w.heap.size w w' := by
  have c0 := (hg.alloc (.cells #[.string x.name, .int .u8 x.t] 71)).cell 0
  simp only [List.getElem?_toArray, List.getElem?_cons_zero] at c0
  go_enter Try.func60, Try.ntmps60
  go_wp2_with fail
  go_ret
  exact ⟨rfl, by go_grown⟩

theorem placeK_no {name : ByteArray} {c : Col} {cs : List Col} (h : (c.name.toList == name.toList) = false) : placeK name (c :: cs) = placeK name cs + 1 := by
  show (if (c.name.toList == name.toList) = true then 0 else placeK name cs + 1) = _
  rw [if_neg (by rw [h]; simp)]
theorem placeK_yes {name : ByteArray} {c : Col} {cs : List Col} (h : (c.name.toList == name.toList) = true) : placeK name (c :: cs) = 0 := by
  show (if (c.name.toList == name.toList) = true then 0 else placeK name cs + 1) = _
  rw [if_pos h]
theorem drop_at {α : Type} {l : List α} {k : Nat} (h : k < l.length) : l.drop k = l[k] :: l.drop (k + 1) := List.drop_eq_getElem_cons h
set_option maxHeartbeats 2000000 in
theorem indexCol_any (cols : List Col) (CA : Option Addr) (cc : Nat) (name : ByteArray) (g : Nat) (w : World) (hC : RC w w.heap.size CA cols) (hg : Blk w g 9 #[.string name]) (hl : cols.length ≤ 140737488355328) :
    Calls Try.prog 59 #[.slice CA cols.length cc, .func (.func 60) #[] #[.pointer (some ⟨g, 0, none⟩)]] w fun e w' => e = .returned (.int .i64 (placeI name cols)) ∧ Below w.heap.size w w' := by
  have HC := Lib.hid hC
  clear hC
  go_enter Try.func59, Try.ntmps59
  go_wp2_with fail
  go_loopw [5, 8] (fun _ i wr => ∃ k : Nat, k ≤ cols.length ∧ i = .int .i64 k ∧ placeK name cols = k + placeK name (cols.drop k) ∧ Below w.heap.size w wr) (fun _ i _ => cols.length - (intOf i).toNat)
  case atStart => exact ⟨0, Nat.zero_le _, rfl, by simp, Below.refl _ _⟩
  case round =>
    obtain ⟨k, hk, rfl, hp, hb⟩ := hrel
    have HP := Lib.hid hp
    clear hp
    by_cases hlt : k < cols.length
    · obtain ⟨b, off, rfl, hbb, hcol⟩ := (HC.out.below hb).at_ hlt
      have HD := Lib.hid (drop_at hlt)
      generalize cols[k] = x at *
      unfold ColAt at hcol
      have hg2 := hg.later hb
      go_wp2_with fail
      refine (place1_any x name g _ hg2).mono ?_
      rintro e w1 ⟨rfl, b1⟩
      have hb1 := Later.then hb b1
      clear hcol hg2 b1 hb
      cases hm : (x.name.toList == name.toList)
      · go_wp2_with fail
        go_roundw
        case rel =>
          refine ⟨k + 1, by omega, by go_num, ?_, hb1⟩
          rw [HP.out, HD.out, placeK_no hm]
          omega
        case measure => simp [intOf]; omega
      · go_wp2_with fail
        go_ret
        refine ⟨?_, hb1⟩
        have hpk : placeK name cols = k := by
          rw [HP.out, HD.out, placeK_yes hm]
          omega
        unfold placeI
        rw [hpk, if_pos hlt]
        rfl
    · go_wp2_with fail
      go_ret
      refine ⟨?_, hb⟩
      have hpk : placeK name cols = cols.length := by
        rw [HP.out, List.drop_eq_nil_of_le (by omega)]
        unfold placeK
        omega
      unfold placeI
      rw [hpk, if_neg (by omega)]
      rfl

set_option maxHeartbeats 1000000 in
theorem place_any (cols : List Col) (CA : Option Addr) (cc : Nat) (name : ByteArray) (w : World) (hC : RC w w.heap.size CA cols) (hl : cols.length ≤ 140737488355328) :
    Calls Try.prog 33 #[.slice CA cols.length cc, .string name] w fun e w' => e = .returned (.int .i64 (placeI name cols)) ∧ Below w.heap.size w w' := by
  have bb := later_new w (.cells #[.string name] 9)
  have hg := Blk.new w 9 #[.string name]
  have hC2 := Lib.hid (hC.later bb)
  clear hC
  go_enter Try.func33, Try.ntmps33
  go_wp2_with fail
  refine (indexCol_any cols CA cc name w.heap.size _ hC2.out hg hl).mono ?_
  rintro e w1 ⟨rfl, b1⟩
  have hb := Later.then bb b1
  clear b1 bb hg
  go_wp2_with fail
  go_ret
  exact ⟨rfl, hb⟩
end Go.Proofs.Ytlfahfoffdbpfaa
