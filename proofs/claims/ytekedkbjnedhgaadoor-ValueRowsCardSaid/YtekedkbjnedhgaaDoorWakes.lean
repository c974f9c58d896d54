/- tidelinelaw01.wakes. -/
import Derived.Test.YtekedkbjnedhgaaDoorLine
namespace Go.Proofs.YtekedkbjnedhgaaDoor
open Go.ChangeShapes Go.WideShapes Go.ChangeAt Go.RowKit
set_option linter.unusedVariables false
set_option linter.unusedSimpArgs false

theorem wk1 : good (num 5) = true := by decide +kernel
theorem wk2 : good ⟨1, 2, ByteArray.empty⟩ = false := by decide +kernel
theorem wk3 : vcmp zeroVal (num (-5)) = -1 := by decide
theorem wk4 : wordL ⟨3, 0, ⟨#[105, 116, 39, 115]⟩⟩ = [39, 105, 116, 39, 39, 115, 39] := by decide
theorem wk5 : lineL [num 1, zeroVal, ⟨3, 0, ⟨#[120]⟩⟩] = [49, 44, 32, 78, 85, 76, 76, 44, 32, 39, 120, 39] := by
  have h1 : wordL (num 1) = [49] := by
    unfold wordL
    rw [if_pos (by decide +kernel)]
    rw [if_neg (by decide), if_neg (by decide), if_pos (by decide)]
    show Lib.itoa 1 = _
    unfold Lib.itoa
    rw [if_neg (by decide)]
    exact Lib.decDigits_one (by decide)
  have h2 : wordL zeroVal = [78, 85, 76, 76] := by decide +kernel
  have h3 : wordL ⟨3, 0, ⟨#[120]⟩⟩ = [39, 120, 39] := by decide
  unfold lineL
  simp only [List.map_cons, List.map_nil, h1, h2, h3]
  decide

set_option maxHeartbeats 2000000 in
set_option maxRecDepth 100000 in
theorem wakes_any (w : World) (hE : Env w) : Calls Tryd.prog 8 #[] w fun e w' => e = .returned (.bool true) ∧ Below w.heap.size w w' := by
  have HE := Lib.hid hE
  clear hE
  go_enter Tryd.func8, Tryd.ntmps8
  go_wp2_with fail
  refine (number_any 5 _).mono ?_
  rintro e w1 ⟨rfl, hB⟩
  simp only [valV, num]
  go_wp2_with fail
  refine (good_any (num 5) _).mono ?_
  rintro e w2 ⟨rfl, b2⟩
  replace hB := Later.then hB b2
  rw [wk1]
  clear b2
  go_wp2_with fail
  refine (good_any ⟨1, 2, ByteArray.empty⟩ _).mono ?_
  rintro e w3 ⟨rfl, b2⟩
  replace hB := Later.then hB b2
  rw [wk2]
  clear b2
  go_wp2_with fail
  refine (number_any (-5) _).mono ?_
  rintro e w4 ⟨rfl, b2⟩
  replace hB := Later.then hB b2
  clear b2
  simp only [valV, num]
  go_wp2_with fail
  refine (compare_any zeroVal (num (-5)) _).mono ?_
  rintro e w5 ⟨rfl, b2⟩
  replace hB := Later.then hB b2
  clear b2
  rw [wk3]
  go_wp2_with fail
  refine (text_any _ _).mono ?_
  rintro e w6 ⟨rfl, b2⟩
  replace hB := Later.then hB b2
  clear b2
  simp only [valV]
  go_wp2_with fail
  refine (word_any ⟨3, 0, ⟨#[105, 116, 39, 115]⟩⟩ ⟨by decide, by decide⟩ (by decide) _ (HE.out.later hB)).mono ?_
  rintro e w7 ⟨rfl, b2⟩
  replace hB := Later.then hB b2
  clear b2
  rw [wk4]
  unfold strOf
  go_wp2_with fail
  refine (number_any 1 _).mono ?_
  rintro e w8 ⟨rfl, b2⟩
  replace hB := Later.then hB b2
  clear b2
  simp only [valV, num]
  go_wp2_with fail
  refine (text_any _ _).mono ?_
  rintro e w9 ⟨rfl, b2⟩
  replace hB := Later.then hB b2
  clear b2
  simp only [valV]
  go_wp2_with fail
  have hG := Blk.new w9 23 #[.int .u8 2, .int .i64 1, .string ByteArray.empty, .int .u8 0, .int .i64 0, .string ⟨#[]⟩, .int .u8 3, .int .i64 0, .string ⟨#[120]⟩]
  have bb := later_new w9 (.cells #[.int .u8 2, .int .i64 1, .string ByteArray.empty, .int .u8 0, .int .i64 0, .string ⟨#[]⟩, .int .u8 3, .int .i64 0, .string ⟨#[120]⟩] 23)
  replace hB := Later.then hB bb
  clear bb
  generalize w9.alloc (.cells #[.int .u8 2, .int .i64 1, .string ByteArray.empty, .int .u8 0, .int .i64 0, .string ⟨#[]⟩, .int .u8 3, .int .i64 0, .string ⟨#[120]⟩] 23) = W at *
  refine (Line_any (some ⟨w9.heap.size, 0, none⟩) 3 [num 1, zeroVal, ⟨3, 0, ⟨#[120]⟩⟩] W ?_ (by simp) ?_ (HE.out.later hB)).mono ?_
  · refine .inr ⟨w9.heap.size, 0, rfl, hG.lt, fun i x hx => ?_⟩
    match i with
    | 0 => simp at hx; subst hx; exact ⟨hG.cell 0, hG.cell 1, hG.cell 2⟩
    | 1 => simp at hx; subst hx; exact ⟨hG.cell 3, hG.cell 4, hG.cell 5⟩
    | 2 => simp at hx; subst hx; exact ⟨hG.cell 6, hG.cell 7, hG.cell 8⟩
    | i + 3 => simp at hx
  · intro v hv
    simp at hv
    rcases hv with rfl | rfl | rfl <;> exact ⟨⟨by decide, by decide⟩, by decide⟩
  clear hG
  rintro e w10 ⟨rfl, b2⟩
  replace hB := Later.then hB b2
  clear b2
  rw [wk5]
  unfold strOf
  go_wp2_with fail
  go_ret
  exact ⟨rfl, hB⟩

end Go.Proofs.YtekedkbjnedhgaaDoor
