/- token: letters, digits, how far bytes go. -/
import Derived.Test.YtcmkfjepikncnaaDoorBase
import Derived.Test.YtcmkfjepikncnaaDoorLexB
import Derived.Test.YtcmkfjepikncnaaDoorProg
import Derived.Shelf.Abstract
namespace Go.Proofs.YtcmkfjepikncnaaDoor
open Go.ChangeShapes Go.WideShapes Go.ChangeAt Go.RowKit Go.Shelf
set_option linter.unusedVariables false
set_option linter.unusedSimpArgs false

def chV (c : UInt8) : Value := .int .u8 (c.toNat : Int)
/-- a function value that asks a byte, and only that -/
def Said (f : FuncId) (p : UInt8 → Bool) : Prop := ∀ (c : UInt8) (W : World), Calls Tryd.prog f #[.int .u8 (c.toNat : Int)] W fun e w' => e = .returned (.bool (p c)) ∧ W = w'

theorem ret_bool {a b : Bool} (h : a = b) : Ending.returned (.bool a) = .returned (.bool b) := by rw [h]
theorem ret_int {k : IntKind} {a b : Int} (h : a = b) : Ending.returned (.int k a) = .returned (.int k b) := by rw [h]
theorem letter_nat (c : UInt8) : letterB c = ((decide ((97 : Int) ≤ c.toNat) && decide ((c.toNat : Int) ≤ 122)) || (decide ((65 : Int) ≤ c.toNat) && decide ((c.toNat : Int) ≤ 90)) || ((c.toNat : Int) == 95)) := by
  rw [Bool.eq_iff_iff]
  simp only [letterB, UInt8.le_iff_toNat_le, ← UInt8.toNat_inj, Bool.or_eq_true, Bool.and_eq_true, decide_eq_true_eq, beq_iff_eq]
  simp
  omega
theorem digit_nat (c : UInt8) : digitB c = (decide ((48 : Int) ≤ c.toNat) && decide ((c.toNat : Int) ≤ 57)) := by
  rw [Bool.eq_iff_iff]
  simp only [digitB, UInt8.le_iff_toNat_le, Bool.and_eq_true, decide_eq_true_eq]
  simp
  omega
set_option maxHeartbeats 1000000 in
theorem letter_any : Said 24 letterB := by
  intro c W
  rw [letter_nat]
  have h1 := c.toNat_lt
  generalize c.toNat = n at *
  go_enter Tryd.func24, Tryd.ntmps24
  go_wp2
  all_goals
    go_ret
    refine ⟨?_, rfl⟩
    first | rfl | (refine ret_bool ?_; rw [Bool.eq_iff_iff]; simp; omega) | (refine ret_bool ?_; rw [Bool.eq_iff_iff]; simp; done)
theorem digit_any : Said 23 digitB := by
  intro c W
  rw [digit_nat]
  have h1 := c.toNat_lt
  generalize c.toNat = n at *
  go_enter Tryd.func23, Tryd.ntmps23
  go_wp2
  all_goals
    go_ret
    refine ⟨?_, rfl⟩
    first | rfl | (refine ret_bool ?_; rw [Bool.eq_iff_iff]; simp; omega) | (refine ret_bool ?_; rw [Bool.eq_iff_iff]; simp; done)
theorem eq_nat (c : UInt8) (k : UInt8) : (c == k) = ((c.toNat : Int) == (k.toNat : Int)) := by
  rw [Bool.eq_iff_iff]
  simp [← UInt8.toNat_inj]
  omega
theorem blank_nat (c : UInt8) : blankB c = (((c.toNat : Int) == 32) || ((c.toNat : Int) == 9) || ((c.toNat : Int) == 10) || ((c.toNat : Int) == 13)) := by
  simp only [blankB, eq_nat]
  rfl
theorem skip1_any : Said 30 blankB := by
  intro c W
  rw [blank_nat]
  generalize c.toNat = n at *
  go_enter Tryd.func30, Tryd.ntmps30
  go_wp2
  all_goals
    go_ret
    refine ⟨?_, rfl⟩
    first | rfl | (refine ret_bool ?_; rw [Bool.eq_iff_iff]; simp; omega) | (refine ret_bool ?_; rw [Bool.eq_iff_iff]; simp; done)
theorem skip2_any : Said 32 (fun c => !(c == 10)) := by
  intro c W
  simp only [eq_nat]
  generalize c.toNat = n at *
  go_enter Tryd.func32, Tryd.ntmps32
  go_wp2
  all_goals
    go_ret
    refine ⟨?_, rfl⟩
    first | rfl | (refine ret_bool ?_; rw [Bool.eq_iff_iff]; simp; omega) | (refine ret_bool ?_; rw [Bool.eq_iff_iff]; simp; done)
theorem next1_any : Said 35 (fun c => c == 39) := by
  intro c W
  simp only [eq_nat]
  generalize c.toNat = n at *
  go_enter Tryd.func35, Tryd.ntmps35
  go_wp2
  all_goals
    go_ret
    refine ⟨?_, rfl⟩
    first | rfl | (refine ret_bool ?_; rw [Bool.eq_iff_iff]; simp; omega) | (refine ret_bool ?_; rw [Bool.eq_iff_iff]; simp; done)
theorem word1_any : Said 42 wordB := by
  intro c W
  unfold wordB
  cases h : letterB c
  · go_enter Tryd.func42, Tryd.ntmps42
    go_wp2_with (first | (go_at_call 24; refine (letter_any c _).mono ?_; rintro e w' ⟨rfl, rfl⟩; rw [h]) | (go_at_call 23; refine (digit_any c _).mono ?_; rintro e w' ⟨rfl, rfl⟩))
    go_ret
    exact ⟨by simp, rfl⟩
  · go_enter Tryd.func42, Tryd.ntmps42
    go_wp2_with (first | (go_at_call 24; refine (letter_any c _).mono ?_; rintro e w' ⟨rfl, rfl⟩; rw [h]) | (go_at_call 23; refine (digit_any c _).mono ?_; rintro e w' ⟨rfl, rfl⟩))
    go_ret
    exact ⟨by simp, rfl⟩

/-! ### far -/
def lexV (s : ByteArray) (at_ : Nat) : Array Value := #[.string s, .int .i64 at_]
theorem lex_cells {w : World} {g : Nat} {t : TypeId} {s : ByteArray} {a : Nat} (h : Blk w g t (lexV s a)) : w.cell? ⟨g, 0, none⟩ = some (.string s) ∧ w.cell? ⟨g, 1, none⟩ = some (.int .i64 a) := ⟨h.cell 0, h.cell 1⟩
structure Asks (f : FuncId) (p : UInt8 → Bool) : Prop where
  enter : ∀ args w, (callFunc f args).run Tryd.prog w = .ok (.enter f args) w
  says : Said f p
theorem letter_asks : Asks 24 letterB := ⟨enters_of Tryd.func24 (by kernel_rfl) rfl, letter_any⟩
theorem digit_asks : Asks 23 digitB := ⟨enters_of Tryd.func23 (by kernel_rfl) rfl, digit_any⟩
theorem blank_asks : Asks 30 blankB := ⟨enters_of Tryd.func30 (by kernel_rfl) rfl, skip1_any⟩
theorem line_asks : Asks 32 (fun c => !(c == 10)) := ⟨enters_of Tryd.func32 (by kernel_rfl) rfl, skip2_any⟩
theorem quote_asks : Asks 35 (fun c => c == 39) := ⟨enters_of Tryd.func35 (by kernel_rfl) rfl, next1_any⟩
theorem word_asks : Asks 42 wordB := ⟨enters_of Tryd.func42 (by kernel_rfl) rfl, word1_any⟩
set_option maxHeartbeats 1000000 in
set_option maxRecDepth 100000 in
theorem far_any {f : FuncId} {p : UInt8 → Bool} (hf : Asks f p) (s : ByteArray) (at_ k : Nat) (g : Nat) (w : World) (hL : Blk w g 38 (lexV s at_)) (hk : k ≤ s.size) (hs : s.size ≤ 4294967280) :
    Calls Tryd.prog 29 #[.pointer (some ⟨g, 0, none⟩), .int .i64 k, .func (.func f) #[] #[]] w fun e w' => e = .returned (.int .i64 (farN p s.data.toList k)) ∧ w = w' := by
  obtain ⟨c0, c1⟩ := lex_cells hL
  have hlen : s.data.toList.length = s.size := by simp
  have HL := Lib.hid hlen
  clear hlen
  have ef := hf.enter
  go_enter Tryd.func29, Tryd.ntmps29
  go_wp2_with fail
  go_loop [1] (fun u => ∃ j : Nat, j ≤ s.size ∧ u = .int .i64 j ∧ farN p s.data.toList k = farN p s.data.toList j) (fun u => s.size - (intOf u).toNat)
  case atStart => exact ⟨k, hk, rfl, rfl⟩
  case round =>
    obtain ⟨j, hj, rfl, hfar⟩ := hrel
    have HF := Lib.hid hfar
    clear hfar
    by_cases hlt : j < s.size
    · have HB := Lib.hid (byte_at s j hlt)
      cases hpp : p s[j]
      · have HP := Lib.hid hpp
        clear hpp
        go_wp2_with (go_at_fn f; refine (hf.says s[j] _).mono ?_; rintro e w' ⟨rfl, rfl⟩; rw [HP.out])
        go_ret
        exact ⟨ret_int (by rw [HF.out, farN_no HB.out HP.out]), rfl⟩
      · have HP := Lib.hid hpp
        clear hpp
        go_wp2_with (go_at_fn f; refine (hf.says s[j] _).mono ?_; rintro e w' ⟨rfl, rfl⟩; rw [HP.out])
        go_round
        case rel => exact ⟨j + 1, hlt, by go_num, by rw [HF.out, farN_yes HB.out HP.out]⟩
        case measure => simp [intOf]; omega
    · go_wp2_with fail
      go_ret
      exact ⟨ret_int (by rw [HF.out, farN_end (by rw [HL.out]; omega)]), rfl⟩
end Go.Proofs.YtcmkfjepikncnaaDoor
