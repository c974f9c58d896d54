/- token: Name; the document's letters, reserved words, names. -/
import Derived.Test.YtcmkfjepikncnaaDoorLexM
namespace Go.Proofs.YtcmkfjepikncnaaDoor
open Go.ChangeShapes Go.WideShapes Go.ChangeAt Go.RowKit Go.Shelf
set_option linter.unusedVariables false
set_option linter.unusedSimpArgs false

theorem cap_cases (c : UInt8) : (capB c = true ∧ decide ((65 : Int) ≤ c.toNat) = true ∧ decide ((c.toNat : Int) ≤ 90) = true) ∨ (capB c = false ∧ decide ((65 : Int) ≤ c.toNat) = true ∧ decide ((c.toNat : Int) ≤ 90) = false) ∨ (capB c = false ∧ decide ((65 : Int) ≤ c.toNat) = false) := by
  have e : capB c = (decide ((65 : Int) ≤ c.toNat) && decide ((c.toNat : Int) ≤ 90)) := by
    rw [Bool.eq_iff_iff]
    simp only [capB, UInt8.le_iff_toNat_le, Bool.and_eq_true, decide_eq_true_eq]
    simp
    omega
  rw [e]
  by_cases h1 : (65 : Int) ≤ c.toNat <;> by_cases h2 : (c.toNat : Int) ≤ 90 <;> simp [h1, h2]
def okC (c : UInt8) : Bool := !capB c && wordB c
theorem nameB_eq {s : ByteArray} (h0 : 0 < s.size) : nameB s.data.toList = (decide (s.size ≤ 32) && !resB s.data.toList && !digitB s[0] && s.data.toList.all okC) := by
  have h1 := byte_at s 0 h0
  have hlen : s.data.toList.length = s.size := by simp
  match hl : s.data.toList with
  | [] => rw [hl] at hlen; simp at hlen; omega
  | c :: r =>
    rw [hl] at h1 hlen
    simp only [List.getElem?_cons_zero, Option.some.injEq] at h1
    rw [← h1, ← hlen]
    rfl
theorem nameB_nil {s : ByteArray} (h0 : ¬ 0 < s.size) : nameB s.data.toList = false := by
  have hlen : s.data.toList.length = s.size := by simp
  match hl : s.data.toList with
  | [] => rfl
  | c :: r => rw [hl] at hlen; simp at hlen; omega
theorem all_at {s : ByteArray} {p : UInt8 → Bool} {i : Nat} (hi : i < s.size) : (s.data.toList.drop i).all p = (p s[i] && (s.data.toList.drop (i + 1)).all p) := by
  rw [drop_at (byte_at s i hi), List.all_cons]
theorem all_end {s : ByteArray} {p : UInt8 → Bool} {i : Nat} (hi : ¬ i < s.size) : (s.data.toList.drop i).all p = true := by
  rw [List.drop_eq_nil_of_le (by simp; omega)]; rfl
theorem empty_size {s : ByteArray} (h : 0 < s.size) : ¬ s.toList = [] := by
  intro e
  rw [ByteArray.toList_eq] at e
  have : s.data.toList.length = s.size := by simp
  rw [e] at this
  simp at this
  omega
theorem empty_of {s : ByteArray} (h : ¬ 0 < s.size) : s = ⟨#[]⟩ := by
  rcases s with ⟨⟨l⟩⟩
  cases l with
  | nil => rfl
  | cons c r => exact absurd (by simp [ByteArray.size]) h
def namePost (b : Bool) (w : World) (e : Ending) (w' : World) : Prop := e = .returned (.bool b) ∧ Below w.heap.size w w'
set_option maxHeartbeats 4000000 in
set_option maxRecDepth 100000 in
theorem Name_any {B : Nat} (s : ByteArray) (w : World) (hE : Env B w) (hs : s.size ≤ 4294967280) : Calls Tryd.prog 14 #[.string s] w (namePost (nameB s.data.toList) w) := by
  by_cases h0 : 0 < s.size
  · have hne := empty_size h0
    have hne2 : (s.toList == []) = false := by simpa using hne
    have hne3 : (!s.toList.isEmpty) = true := by simpa using hne
    have HEQ := Lib.hid (nameB_eq h0)
    generalize nameB s.data.toList = R at *
    by_cases h32 : s.size ≤ 32
    · have hr := @Reserved_any B s w hE
      cases hres : resB s.data.toList
      · rw [hres] at hr
        have HRES := Lib.hid hres
        have HR := Lib.hid hr
        clear hres hr
        cases hd0 : digitB s[0]
        · have HD0 := Lib.hid hd0
          clear hd0
          go_enter Tryd.func14, Tryd.ntmps14
          go_wp2_with fail
          refine HR.out.mono ?_
          rintro e w1 ⟨rfl, b1⟩
          go_wp2_with (go_at_call 23; refine (digit_any s[0] _).mono ?_; rintro e w' ⟨rfl, rfl⟩; rw [HD0.out])
          go_loop [23] (fun u => ∃ i : Nat, i ≤ s.size ∧ u = .int .i64 i ∧ R = (s.data.toList.drop i).all okC) (fun u => s.size - (intOf u).toNat)
          case atStart => exact ⟨0, by omega, rfl, by rw [HEQ.out, HRES.out, HD0.out]; simp [h32]⟩
          case round =>
            obtain ⟨i, hi, rfl, hrr⟩ := hrel
            have HRR := Lib.hid hrr
            clear hrr
            by_cases hlt : i < s.size
            · have HA := Lib.hid (all_at (p := okC) hlt)
              cases hl : letterB s[i] <;> cases hd : digitB s[i] <;> rcases cap_cases s[i] with ⟨hc, t1, t2⟩ | ⟨hc, t1, t2⟩ | ⟨hc, t1⟩
              all_goals
                have HL := Lib.hid hl
                have HD := Lib.hid hd
                have HC := Lib.hid hc
                clear hl hd hc
                go_wp2_with (first
                  | (go_at_call 24; refine (letter_any s[i] _).mono ?_; rintro e w' ⟨rfl, rfl⟩; rw [HL.out])
                  | (go_at_call 23; refine (digit_any s[i] _).mono ?_; rintro e w' ⟨rfl, rfl⟩; rw [HD.out]))
                first
                  | (go_ret
                     refine ⟨ret_bool ?_, b1⟩
                     rw [HRR.out, HA.out]
                     simp [okC, wordB, HL.out, HD.out, HC.out]; done)
                  | (go_round
                     case rel => exact ⟨i + 1, hlt, by go_num, by rw [HRR.out, HA.out]; simp [okC, wordB, HL.out, HD.out, HC.out]⟩
                     case measure => simp [intOf]; omega)
            · go_wp2_with fail
              go_ret
              exact ⟨ret_bool (by rw [HRR.out, all_end hlt]), b1⟩
        · have HD0 := Lib.hid hd0
          clear hd0
          go_enter Tryd.func14, Tryd.ntmps14
          go_wp2_with fail
          refine HR.out.mono ?_
          rintro e w1 ⟨rfl, b1⟩
          go_wp2_with (go_at_call 23; refine (digit_any s[0] _).mono ?_; rintro e w' ⟨rfl, rfl⟩; rw [HD0.out])
          go_ret
          exact ⟨ret_bool (by rw [HEQ.out, HD0.out]; simp), b1⟩
      · rw [hres] at hr
        have HRES := Lib.hid hres
        have HR := Lib.hid hr
        clear hres hr
        go_enter Tryd.func14, Tryd.ntmps14
        go_wp2_with fail
        refine HR.out.mono ?_
        rintro e w1 ⟨rfl, b1⟩
        go_wp2_with fail
        go_ret
        exact ⟨ret_bool (by rw [HEQ.out, HRES.out]; simp), b1⟩
    · have t1 := decide_eq_true (show (32 : Int) < s.size by omega)
      go_enter Tryd.func14, Tryd.ntmps14
      go_wp2_with fail
      go_ret
      exact ⟨ret_bool (by rw [HEQ.out]; simp [h32]), Below.refl _ _⟩
  · rw [nameB_nil h0]
    obtain rfl := empty_of h0
    go_enter Tryd.func14, Tryd.ntmps14
    go_wp2_with fail
    go_ret
    exact ⟨rfl, Below.refl _ _⟩
end Go.Proofs.YtcmkfjepikncnaaDoor
