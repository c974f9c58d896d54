/- token: TokenBack's great letters, digits. -/
import Derived.Test.YtcmkfjepikncnaaDoorBackQ
namespace Go.Proofs.YtcmkfjepikncnaaDoor
open Go.ChangeShapes Go.WideShapes Go.ChangeAt Go.RowKit Go.Shelf
set_option linter.unusedVariables false
set_option linter.unusedSimpArgs false

theorem small_cases (c : UInt8) : (smallB c = true ∧ decide ((97 : Int) ≤ c.toNat) = true ∧ decide ((c.toNat : Int) ≤ 122) = true) ∨ (smallB c = false ∧ decide ((97 : Int) ≤ c.toNat) = true ∧ decide ((c.toNat : Int) ≤ 122) = false) ∨ (smallB c = false ∧ decide ((97 : Int) ≤ c.toNat) = false) := by
  have e : smallB c = (decide ((97 : Int) ≤ c.toNat) && decide ((c.toNat : Int) ≤ 122)) := by
    rw [Bool.eq_iff_iff]
    simp only [smallB, UInt8.le_iff_toNat_le, Bool.and_eq_true, decide_eq_true_eq]
    simp
    omega
  rw [e]
  by_cases h1 : (97 : Int) ≤ c.toNat <;> by_cases h2 : (c.toNat : Int) ≤ 122 <;> simp [h1, h2]
theorem great_is {c : UInt8} (h : smallB c = true) : ((greatB c).toNat : Int) = (c.toNat : Int) - 32 := by
  unfold greatB
  rw [if_pos h]
  simp [smallB, UInt8.le_iff_toNat_le] at h
  rw [UInt8.toNat_sub]
  simp
  omega
theorem great_not {c : UInt8} (h : smallB c = false) : greatB c = c := by unfold greatB; rw [h]; rfl
set_option maxHeartbeats 4000000 in
set_option maxRecDepth 100000 in
theorem great_any (s : ByteArray) (w : World) (hs : s.size ≤ 4294967280) : Calls Tryd.prog 27 #[.string s] w fun e w' => e = .returned (.string ⟨(s.data.toList.map greatB).toArray⟩) ∧ Below w.heap.size w w' := by
  have HLEN := Lib.hid (show s.data.toList.length = s.size by simp)
  go_enter Tryd.func27, Tryd.ntmps27
  go_wp2_with fail
  go_loopw [3, 4] (fun x u wr => ∃ (i : Nat) (l : List UInt8), i ≤ s.size ∧ u = .int .i64 i ∧ x = .string ⟨l.toArray⟩ ∧ l.length = i ∧ s.data.toList.map greatB = l ++ (s.data.toList.drop i).map greatB ∧ Below w.heap.size w wr) (fun _ u _ => s.size - (intOf u).toNat)
  case atStart => exact ⟨0, [], by omega, rfl, rfl, rfl, rfl, Below.refl _ _⟩
  case round =>
    obtain ⟨i, l, hi, rfl, rfl, hl, hm, hb⟩ := hrel
    have HM := Lib.hid hm
    have hl2 : l.length ≤ s.size := by omega
    have HL := Lib.hid hl
    clear hm hl
    by_cases hlt : i < s.size
    · have HD := Lib.hid (drop_at (byte_at s i hlt))
      rcases small_cases s[i] with ⟨hc, t1, t2⟩ | ⟨hc, t1, t2⟩ | ⟨hc, t1⟩
      · have hlow := great_is hc
        have hn : 97 ≤ s[i].toNat := by have := of_decide_eq_true t1; omega
        have hn2 : s[i].toNat ≤ 122 := by have := of_decide_eq_true t2; omega
        have hr := run_one _ _ (greatB s[i]) (Blk.new wr 5 #[.int .u8 ((greatB s[i]).toNat : Int)])
        rw [hlow] at hr
        have HLOW := Lib.hid hlow
        clear hlow hc
        go_wp2_with fail
        go_roundw
        case rel =>
          refine ⟨i + 1, l ++ [greatB s[i]], by omega, by go_num, by rw [bytes_snoc], by rw [List.length_append, HL.out]; rfl, ?_, hb.trans ((later_new wr _).mono hb.size)⟩
          rw [HM.out, HD.out]
          simp
        case measure => simp [intOf]; omega
      · have hr := run_one _ _ s[i] (Blk.new wr 5 #[.int .u8 (s[i].toNat : Int)])
        have HLOW := Lib.hid (great_not hc)
        clear hc
        go_wp2_with fail
        go_roundw
        case rel =>
          refine ⟨i + 1, l ++ [s[i]], by omega, by go_num, by rw [bytes_snoc], by rw [List.length_append, HL.out]; rfl, ?_, hb.trans ((later_new wr _).mono hb.size)⟩
          rw [HM.out, HD.out]
          simp [HLOW.out]
        case measure => simp [intOf]; omega
      · have hr := run_one _ _ s[i] (Blk.new wr 5 #[.int .u8 (s[i].toNat : Int)])
        have HLOW := Lib.hid (great_not hc)
        clear hc
        go_wp2_with fail
        go_roundw
        case rel =>
          refine ⟨i + 1, l ++ [s[i]], by omega, by go_num, by rw [bytes_snoc], by rw [List.length_append, HL.out]; rfl, ?_, hb.trans ((later_new wr _).mono hb.size)⟩
          rw [HM.out, HD.out]
          simp [HLOW.out]
        case measure => simp [intOf]; omega
    · go_wp2_with fail
      go_ret
      refine ⟨?_, hb⟩
      rw [HM.out, List.drop_eq_nil_of_le (by rw [HLEN.out]; omega)]
      simp
theorem bytes_cons (l : List UInt8) (c : UInt8) : (⟨#[c]⟩ : ByteArray) ++ ⟨l.toArray⟩ = ⟨(c :: l).toArray⟩ := by
  apply ByteArray.ext
  simp
set_option maxHeartbeats 4000000 in
set_option maxRecDepth 100000 in
theorem digits_any (n : Nat) (hn : n ≤ 9223372036854775807) (w : World) : Calls Tryd.prog 28 #[.int .i64 n] w fun e w' => e = .returned (.string ⟨(dig n).toArray⟩) ∧ Below w.heap.size w w' := by
  have HDL := Lib.hid ((dig_spec n).2.2.2.2 18 (by omega))
  go_enter Tryd.func28, Tryd.ntmps28
  go_wp2_with fail
  go_loopw [0, 3] (fun u x wr => ∃ (k : Nat) (l : List UInt8), k ≤ n ∧ u = .int .i64 k ∧ x = .string ⟨l.toArray⟩ ∧ dig n = dig k ++ l ∧ Below w.heap.size w wr) (fun u _ _ => (intOf u).toNat)
  case atStart => exact ⟨n, [], Nat.le_refl _, rfl, rfl, by simp, Below.refl _ _⟩
  case round =>
    obtain ⟨k, l, hk, rfl, rfl, hd, hb⟩ := hrel
    have hll : l.length ≤ 19 := by
      have := HDL.out
      rw [hd, List.length_append] at this
      omega
    have HD := Lib.hid hd
    clear hd
    have hk10 : k % 10 < 10 := by omega
    obtain ⟨d, hdd⟩ : ∃ d : UInt8, d = UInt8.ofNat (48 + k % 10) := ⟨_, rfl⟩
    have hc : (d.toNat : Int) = 48 + (k : Int) % 10 := by
      rw [hdd, dig_byte hk10]; omega
    have hr := run_one _ _ d (Blk.new wr 5 #[.int .u8 (d.toNat : Int)])
    rw [hc] at hr
    have HDD := Lib.hid hdd
    clear hc hdd
    by_cases h0 : k < 10
    · have q1 : (k : Int) / 10 = 0 := by omega
      have HE := Lib.hid (dig_small h0)
      have hk2 : k % 10 = k := by omega
      have HK2 := Lib.hid hk2
      clear hk2
      go_wp2_with fail
      go_ret
      refine ⟨?_, hb.trans ((later_new wr _).mono hb.size)⟩
      have e1 : (⟨#[d]⟩ : ByteArray) ++ ⟨l.toArray⟩ = ⟨(dig n).toArray⟩ := by
        rw [bytes_cons, HD.out, HE.out, HDD.out, HK2.out]; rfl
      rw [← e1]
      rfl
    · have q1 : ((k : Int) / 10 == 0) = false := by rw [beq_eq_false_iff_ne]; omega
      have q2 : ¬ ((k : Int) / 10 = 0) := by omega
      have HE := Lib.hid (dig_more h0)
      go_wp2_with fail
      go_roundw
      case rel =>
        refine ⟨k / 10, d :: l, by omega, by go_num, by rw [bytes_cons], ?_, hb.trans ((later_new wr _).mono hb.size)⟩
        rw [HD.out, HE.out, HDD.out, List.append_assoc]
        rfl
      case measure => simp [intOf]; omega
end Go.Proofs.YtcmkfjepikncnaaDoor
