/- token: the document's numbers. -/
import Derived.Test.YtcmkfjepikncnaaDoorRefB
import Derived.Test.YtcmkfjepikncnaaDoorLexN
namespace Go.Proofs.YtcmkfjepikncnaaDoor
open Go.ChangeShapes Go.WideShapes Go.ChangeAt Go.RowKit Go.Shelf
set_option linter.unusedVariables false
set_option linter.unusedSimpArgs false

theorem val_ge : ∀ (l : List UInt8) (v : Nat), v * 10 ^ l.length ≤ l.foldl (fun v c => v * 10 + (c.toNat - 48)) v
  | [], v => by simp
  | c :: l, v => by
    have := val_ge l (v * 10 + (c.toNat - 48))
    simp only [List.foldl_cons, List.length_cons, Nat.pow_succ]
    have h : v * 10 * 10 ^ l.length ≤ (v * 10 + (c.toNat - 48)) * 10 ^ l.length := Nat.mul_le_mul_right _ (by omega)
    have e : v * (10 ^ l.length * 10) = v * 10 * 10 ^ l.length := by rw [Nat.mul_comm (10 ^ l.length), Nat.mul_assoc]
    rw [e]
    omega
theorem num_long {l : List UInt8} (hd : ∀ c ∈ l, digitB c = true) (hl : 19 < l.length) (h0 : l.head? ≠ some 48) : 9223372036854775807 < valL l := by
  match l with
  | [] => simp at hl
  | c :: r =>
    have hc := hd c List.mem_cons_self
    simp [digitB, UInt8.le_iff_toNat_le] at hc
    have h48 : c.toNat ≠ 48 := fun e => h0 (by rw [show c = 48 from UInt8.toNat_inj.1 e]; rfl)
    have h1 := val_ge r (0 * 10 + (c.toNat - 48))
    have h2 : 10 ^ 19 ≤ 10 ^ r.length := Nat.pow_le_pow_right (by decide) (by simp at hl; omega)
    have h3 : 1 * 10 ^ r.length ≤ (0 * 10 + (c.toNat - 48)) * 10 ^ r.length := Nat.mul_le_mul_right _ (by omega)
    show _ < List.foldl _ _ _
    rw [List.foldl_cons]
    have h4 : (10 : Nat) ^ 19 = 10000000000000000000 := by decide
    omega
theorem val_take {l : List UInt8} {i : Nat} {c : UInt8} (h : l[i]? = some c) : valL (l.take (i + 1)) = valL (l.take i) * 10 + (c.toNat - 48) := by
  rw [List.take_add_one, h]
  exact val_snoc _ _
theorem val_le_all (l : List UInt8) (i : Nat) : valL (l.take i) ≤ valL l := by
  conv => rhs; rw [← List.take_append_drop i l]
  unfold valL
  rw [List.foldl_append]
  exact val_mono _ _
theorem digit_bd {c : UInt8} (h : digitB c = true) : 48 ≤ c.toNat ∧ c.toNat ≤ 57 := by simpa [digitB, UInt8.le_iff_toNat_le] using h
def numPost (q : List UInt8) (w : World) (e : Ending) (w' : World) : Prop := (if numB q = true then e = .returned (.tuple #[.int .i64 (valL q), .bool true]) else e = .returned (.tuple #[.int .i64 0, .bool false])) ∧ w = w'
theorem num_no {q : List UInt8} {w : World} {e : Ending} (h : numB q = false) (he : e = .returned (.tuple #[.int .i64 0, .bool false])) : numPost q w e w := by
  unfold numPost; rw [h, if_neg (by decide)]; exact ⟨he, rfl⟩
theorem num_yes {q : List UInt8} {w : World} {e : Ending} (h : numB q = true) (he : e = .returned (.tuple #[.int .i64 (valL q), .bool true])) : numPost q w e w := by
  unfold numPost; rw [if_pos h]; exact ⟨he, rfl⟩
set_option maxHeartbeats 4000000 in
set_option maxRecDepth 100000 in
theorem rnumber_any (s : ByteArray) (w : World) (hd : ∀ c ∈ s.data.toList, digitB c = true) (h0 : 0 < s.size) (hs : s.size ≤ 4294967280) : Calls Tryd.prog 39 #[.string s] w (numPost s.data.toList w) := by
  have HLEN := Lib.hid (show s.data.toList.length = s.size by simp)
  have HDG := Lib.hid hd
  have hhead : s.data.toList.head? = some s[0] := by rw [List.head?_eq_getElem?]; exact byte_at s 0 h0
  have HH := Lib.hid hhead
  clear hd hhead
  by_cases hz : 1 < s.size ∧ s[0] = 48
  · have t1 : (((s[0].toNat : Nat) : Int) == 48) = true := by rw [hz.2]; rfl
    have HB := Lib.hid (show numB s.data.toList = false by
      have : ¬ s.data.toList.length ≤ 1 := by rw [HLEN.out]; omega
      simp only [numB, HH.out, hz.2, this]
      rfl)
    have hz1 := hz.1
    clear hz
    go_enter Tryd.func39, Tryd.ntmps39
    go_wp2_with fail
    go_ret2
    exact num_no HB.out rfl
  · by_cases hlong : 19 < s.size
    · have t1 : (((s[0].toNat : Nat) : Int) == 48) = false := by
        rw [beq_eq_false_iff_ne]
        intro h
        exact hz ⟨by omega, UInt8.toNat_inj.1 (by simpa using (by omega : s[0].toNat = 48))⟩
      have HB := Lib.hid (show numB s.data.toList = false by
        have h1 := num_long HDG.out (by rw [HLEN.out]; exact hlong) (by rw [HH.out]; intro e; injection e with e; exact hz ⟨by omega, e⟩)
        have h2 : ¬ valL s.data.toList ≤ 9223372036854775807 := by omega
        simp only [numB, h2]
        simp)
      clear hz
      go_enter Tryd.func39, Tryd.ntmps39
      go_wp2_with fail
      go_ret2
      exact num_no HB.out rfl
    · have HF := Lib.hid (show (decide (s.data.toList.length ≤ 1) || !(s.data.toList.head? == some 48)) = true by
        rw [HLEN.out, HH.out]
        by_cases h1 : s.size ≤ 1
        · simp [h1]
        · have : s[0] ≠ 48 := fun e => hz ⟨by omega, e⟩
          simp [h1, this])
      have hz2 : ¬ (1 < s.size) ∨ (1 < s.size ∧ (((s[0].toNat : Nat) : Int) == 48) = false) := by
        by_cases h1 : 1 < s.size
        · refine .inr ⟨h1, ?_⟩
          rw [beq_eq_false_iff_ne]
          intro h
          exact hz ⟨h1, UInt8.toNat_inj.1 (by simpa using (by omega : s[0].toNat = 48))⟩
        · exact .inl h1
      clear hz
      rcases hz2 with hz2 | ⟨hz1, hz2⟩
      all_goals
        go_enter Tryd.func39, Tryd.ntmps39
        go_wp2_with fail
        go_loop [4, 5] (fun v u => ∃ i : Nat, i ≤ s.size ∧ u = .int .i64 i ∧ v = .int .i64 (valL (s.data.toList.take i) : Nat) ∧ valL (s.data.toList.take i) ≤ 9223372036854775807) (fun _ u => s.size - (intOf u).toNat)
        case atStart => exact ⟨0, by omega, rfl, rfl, by simp [valL]⟩
        case round =>
          obtain ⟨i, hi, rfl, rfl, hv⟩ := hrel
          by_cases hlt : i < s.size
          · have HB := Lib.hid (byte_at s i hlt)
            obtain ⟨d1, d2⟩ := digit_bd (HDG.out s[i] (List.mem_of_getElem? HB.out))
            have HV := Lib.hid (val_take HB.out)
            have HALL := Lib.hid (val_le_all s.data.toList (i + 1))
            generalize hvv : valL (s.data.toList.take i) = v at *
            have HVV := Lib.hid hvv
            clear hvv
            by_cases hov : v * 10 + (s[i].toNat - 48) ≤ 9223372036854775807
            · have n1 := decide_eq_false (show ¬ ((9223372036854775807 - ((s[i].toNat : Int) - 48)) / 10 < (v : Int)) by omega)
              go_wp2_with fail
              go_round
              case rel =>
                refine ⟨i + 1, hlt, by go_num, ?_, by rw [HV.out]; exact hov⟩
                rw [HV.out]
                have : ((v * 10 + (s[i].toNat - 48) : Nat) : Int) = (v : Int) * 10 + ((s[i].toNat : Int) - 48) := by omega
                rw [this]
              case measure => simp [intOf]; omega
            · have n1 := decide_eq_true (show ((9223372036854775807 - ((s[i].toNat : Int) - 48)) / 10 < (v : Int)) by omega)
              go_wp2_with fail
              go_ret2
              refine num_no ?_ rfl
              have h1 := HALL.out
              rw [HV.out] at h1
              have h2 : ¬ valL s.data.toList ≤ 9223372036854775807 := by omega
              simp only [numB, h2]
              simp
          · go_wp2_with fail
            go_ret2
            have e1 : s.data.toList.take i = s.data.toList := List.take_of_length_le (by rw [HLEN.out]; omega)
            rw [e1] at hv ⊢
            exact num_yes (by rw [numB, HF.out]; simpa using hv) rfl
end Go.Proofs.YtcmkfjepikncnaaDoor
