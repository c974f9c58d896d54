/- token: the document's letters, reserved words, names, small letters, blanks, numbers. -/
import Derived.Test.YtcmkfjepikncnaaDoorNam
namespace Go.Proofs.YtcmkfjepikncnaaDoor
open Go.ChangeShapes Go.WideShapes Go.ChangeAt Go.RowKit Go.Shelf
set_option linter.unusedVariables false
set_option linter.unusedSimpArgs false

set_option maxHeartbeats 1000000 in
theorem rletter_any : Said 25 letterB := by
  intro c W
  rw [letter_nat]
  have h1 := c.toNat_lt
  generalize c.toNat = n at *
  go_enter Tryd.func25, Tryd.ntmps25
  go_wp2
  all_goals
    go_ret
    refine ⟨?_, rfl⟩
    first | rfl | (refine ret_bool ?_; rw [Bool.eq_iff_iff]; simp; omega) | (refine ret_bool ?_; rw [Bool.eq_iff_iff]; simp; done)
set_option maxHeartbeats 1000000 in
theorem rdigit_any : Said 26 digitB := by
  intro c W
  rw [digit_nat]
  have h1 := c.toNat_lt
  generalize c.toNat = n at *
  go_enter Tryd.func26, Tryd.ntmps26
  go_wp2
  all_goals
    go_ret
    refine ⟨?_, rfl⟩
    first | rfl | (refine ret_bool ?_; rw [Bool.eq_iff_iff]; simp; omega) | (refine ret_bool ?_; rw [Bool.eq_iff_iff]; simp; done)

/-! ### reserved words -/
set_option maxHeartbeats 4000000 in
set_option maxRecDepth 100000 in
theorem rreserved_any (w : World) : Calls Tryd.prog 22 #[] w fun e w' => e = .returned (.slice (some ⟨w.heap.size, 0, none⟩) 27 27) ∧ w' = w.alloc (.cells (resL.map fun l => Value.string ⟨l.toArray⟩).toArray 9) := by
  go_enter Tryd.func22, Tryd.ntmps22
  go_wp2_with fail
  go_ret
  exact ⟨rfl, rfl⟩
theorem res_drop {i : Nat} {x : List UInt8} (hx : resL[i]? = some x) : resL.drop i = x :: resL.drop (i + 1) := by
  have hlt : i < resL.length := by
    rcases Nat.lt_or_ge i resL.length with h | h
    · exact h
    · rw [List.getElem?_eq_none h] at hx; cases hx
  rw [List.drop_eq_getElem_cons hlt]
  rw [List.getElem?_eq_getElem hlt] at hx
  injection hx with hx
  rw [hx]
theorem bytes_nil (l : List UInt8) : (⟨l.toArray⟩ : ByteArray).toList = l := by rw [ByteArray.toList_eq]
set_option maxHeartbeats 4000000 in
set_option maxRecDepth 100000 in
theorem rReserved_any (s : ByteArray) (w : World) : Calls Tryd.prog 13 #[.string s] w (namePost (resB s.data.toList) w) := by
  go_enter Tryd.func13, Tryd.ntmps13
  go_wp2_with fail
  refine (rreserved_any w).mono ?_
  rintro e w1 ⟨rfl, rfl⟩
  have HB := Lib.hid (Blk.new w 9 (resL.map fun l => Value.string ⟨l.toArray⟩).toArray)
  have b1 := later_new w (.cells (resL.map fun l => Value.string ⟨l.toArray⟩).toArray 9)
  generalize w.alloc (.cells (resL.map fun l => Value.string ⟨l.toArray⟩).toArray 9) = W at *
  go_wp2_with fail
  go_loop [4] (fun u => ∃ i : Nat, i ≤ 27 ∧ u = .int .i64 i ∧ resB s.data.toList = (resL.drop i).contains s.data.toList) (fun u => 27 - (intOf u).toNat)
  case atStart => exact ⟨0, by omega, rfl, rfl⟩
  case round =>
    obtain ⟨i, hi, rfl, hrr⟩ := hrel
    have HRR := Lib.hid hrr
    clear hrr
    by_cases hlt : i < 27
    · obtain ⟨x, hx, _, _⟩ := res_at hlt
      have hcell := HB.out.cell i
      have hx2 : (resL.map fun l => Value.string ⟨l.toArray⟩).toArray[i]? = some (.string ⟨x.toArray⟩) := by simp [hx]
      rw [hx2] at hcell
      have HDX := Lib.hid (res_drop hx)
      have e0 := bytes_nil x
      have HE0 := Lib.hid e0
      clear hx hx2 e0
      by_cases he : s.data.toList = x
      · have HE := Lib.hid he
        have t2 : (x == s.toList) = true := by rw [ByteArray.toList_eq, he]; simp
        clear he
        go_wp2_with fail
        go_ret
        refine ⟨ret_bool ?_, b1⟩
        rw [HRR.out, HDX.out, HE.out]
        simp
      · have HE := Lib.hid he
        have t2 : (x == s.toList) = false := by rw [ByteArray.toList_eq, beq_eq_false_iff_ne]; exact fun e => he e.symm
        clear he
        go_wp2_with fail
        go_round
        case rel =>
          refine ⟨i + 1, by omega, by go_num, ?_⟩
          rw [HRR.out, HDX.out, List.contains_cons]
          have : (s.data.toList == x) = false := by simpa using HE.out
          rw [this]; rfl
        case measure => simp [intOf]; omega
    · obtain rfl : i = 27 := by omega
      go_wp2_with fail
      go_ret
      refine ⟨ret_bool ?_, b1⟩
      rw [HRR.out, List.drop_eq_nil_of_le (Nat.le_of_eq res_len)]
      rfl
set_option maxHeartbeats 4000000 in
set_option maxRecDepth 100000 in
theorem rName_any (s : ByteArray) (w : World) (hs : s.size ≤ 4294967280) : Calls Tryd.prog 15 #[.string s] w (namePost (nameB s.data.toList) w) := by
  by_cases h0 : 0 < s.size
  · have HEQ := Lib.hid (nameB_eq h0)
    generalize nameB s.data.toList = R at *
    have n1 : ¬ (s.size = 0) := by omega
    have n2 : ((s.size : Int) == 0) = false := by rw [beq_eq_false_iff_ne]; omega
    by_cases h32 : s.size ≤ 32
    · have hr := rReserved_any s w
      cases hres : resB s.data.toList
      · rw [hres] at hr
        have HRES := Lib.hid hres
        have HR := Lib.hid hr
        clear hres hr
        go_enter Tryd.func15, Tryd.ntmps15
        go_wp2_with fail
        refine HR.out.mono ?_
        rintro e w1 ⟨rfl, b1⟩
        go_wp2_with fail
        go_loop [3] (fun u => ∃ i : Nat, i ≤ s.size ∧ u = .int .i64 i ∧ R = ((decide (0 < i) || !digitB s[0]) && (s.data.toList.drop i).all okC)) (fun u => s.size - (intOf u).toNat)
        case atStart => exact ⟨0, by omega, rfl, by rw [HEQ.out, HRES.out]; simp [h32]⟩
        case round =>
          obtain ⟨i, hi, rfl, hrr⟩ := hrel
          have HRR := Lib.hid hrr
          clear hrr
          by_cases hlt : i < s.size
          · have HA := Lib.hid (all_at (p := okC) hlt)
            by_cases hi0 : i = 0
            · subst hi0
              cases hl : letterB s[0] <;> cases hd : digitB s[0] <;> rcases cap_cases s[0] with ⟨hc, t1, t2⟩ | ⟨hc, t1, t2⟩ | ⟨hc, t1⟩
              all_goals try (exfalso; rw [letter_nat] at hl; rw [digit_nat] at hd; simp at hl hd; omega)
              all_goals
                have HL := Lib.hid hl
                have HD := Lib.hid hd
                have HC := Lib.hid hc
                clear hl hd hc
                go_wp2_with (first
                  | (go_at_call 25; refine (rletter_any s[0] _).mono ?_; rintro e w' ⟨rfl, rfl⟩; rw [HL.out])
                  | (go_at_call 26; refine (rdigit_any s[0] _).mono ?_; rintro e w' ⟨rfl, rfl⟩; rw [HD.out]))
                first
                  | (go_ret
                     refine ⟨ret_bool ?_, b1⟩
                     rw [HRR.out, HA.out]
                     simp [okC, wordB, HL.out, HD.out, HC.out]; done)
                  | (go_round
                     case rel => exact ⟨1, hlt, rfl, by rw [HRR.out, HA.out]; simp [okC, wordB, HL.out, HD.out, HC.out]⟩
                     case measure => simp [intOf]; omega)
            · have m1 : ((i : Int) == 0) = false := by rw [beq_eq_false_iff_ne]; omega
              have m2 : ¬ ((i : Int) = 0) := by omega
              have hp : decide (0 < i) = true := decide_eq_true (by omega)
              have HP := Lib.hid hp
              clear hp
              cases hl : letterB s[i] <;> cases hd : digitB s[i] <;> rcases cap_cases s[i] with ⟨hc, t1, t2⟩ | ⟨hc, t1, t2⟩ | ⟨hc, t1⟩
              all_goals
                have HL := Lib.hid hl
                have HD := Lib.hid hd
                have HC := Lib.hid hc
                clear hl hd hc
                go_wp2_with (first
                  | (go_at_call 25; refine (rletter_any s[i] _).mono ?_; rintro e w' ⟨rfl, rfl⟩; rw [HL.out])
                  | (go_at_call 26; refine (rdigit_any s[i] _).mono ?_; rintro e w' ⟨rfl, rfl⟩; rw [HD.out]))
                first
                  | (go_ret
                     refine ⟨ret_bool ?_, b1⟩
                     rw [HRR.out, HA.out]
                     simp [okC, wordB, HL.out, HD.out, HC.out]; done)
                  | (go_round
                     case rel => exact ⟨i + 1, hlt, by go_num, by rw [HRR.out, HA.out, HP.out]; simp [okC, wordB, HL.out, HD.out, HC.out]⟩
                     case measure => simp [intOf]; omega)
          · have hp : decide (0 < i) = true := decide_eq_true (by omega)
            have HP := Lib.hid hp
            clear hp
            go_wp2_with fail
            go_ret
            exact ⟨ret_bool (by rw [HRR.out, all_end hlt, HP.out]; rfl), b1⟩
      · rw [hres] at hr
        have HRES := Lib.hid hres
        have HR := Lib.hid hr
        clear hres hr
        go_enter Tryd.func15, Tryd.ntmps15
        go_wp2_with fail
        refine HR.out.mono ?_
        rintro e w1 ⟨rfl, b1⟩
        go_wp2_with fail
        go_ret
        exact ⟨ret_bool (by rw [HEQ.out, HRES.out]; simp), b1⟩
    · have t1 := decide_eq_true (show (32 : Int) < s.size by omega)
      go_enter Tryd.func15, Tryd.ntmps15
      go_wp2_with fail
      go_ret
      exact ⟨ret_bool (by rw [HEQ.out]; simp [h32]), Below.refl _ _⟩
  · rw [nameB_nil h0]
    obtain rfl := empty_of h0
    go_enter Tryd.func15, Tryd.ntmps15
    go_wp2_with fail
    go_ret
    exact ⟨rfl, Below.refl _ _⟩
end Go.Proofs.YtcmkfjepikncnaaDoor
