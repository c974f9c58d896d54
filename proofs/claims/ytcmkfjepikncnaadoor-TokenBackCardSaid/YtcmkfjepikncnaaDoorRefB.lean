/- token: the document's small letters, blanks, numbers. -/
import Derived.Test.YtcmkfjepikncnaaDoorRefA
import Derived.Laws.IdiomStrings
namespace Go.Proofs.YtcmkfjepikncnaaDoor
open Go.ChangeShapes Go.WideShapes Go.ChangeAt Go.RowKit Go.Shelf
set_option linter.unusedVariables false
set_option linter.unusedSimpArgs false

/-- string([]byte{c}) -/
theorem run_one (w : World) (g : Nat) (c : UInt8) (h : Blk w g 5 #[.int .u8 (c.toNat : Int)]) : (convert 29 9 (.slice (some ⟨g, 0, none⟩) 1 1)).run Tryd.prog w = .ok (.string ⟨#[c]⟩) w := by
  have := run_convert_bytes_back (P := Tryd.prog) w 29 9 5 ⟨g, 0, none⟩ 1 [c] Tryd.underlying29 Tryd.underlying5 Tryd.underlying9 (fun j hj => by
    have : j = 0 := by simpa using hj
    subst this
    have h0 := h.cell 0
    simpa [Addr.add] using h0)
  simpa using this
theorem low_cap {c : UInt8} (h : capB c = true) : (lowB c).toNat = c.toNat + 32 := by
  unfold lowB
  rw [if_pos h]
  simp [capB, UInt8.le_iff_toNat_le] at h
  rw [UInt8.toNat_add]
  simp
  omega
theorem low_not {c : UInt8} (h : capB c = false) : lowB c = c := by unfold lowB; rw [h]; rfl
/-- a list's bytes, one more -/
theorem bytes_snoc (l : List UInt8) (c : UInt8) : (⟨l.toArray⟩ : ByteArray) ++ ⟨#[c]⟩ = ⟨(l ++ [c]).toArray⟩ := by
  apply ByteArray.ext
  simp
set_option maxHeartbeats 4000000 in
set_option maxRecDepth 100000 in
theorem small_any (s : ByteArray) (w : World) (hs : s.size ≤ 4294967280) : Calls Tryd.prog 38 #[.string s] w fun e w' => e = .returned (.string ⟨(s.data.toList.map lowB).toArray⟩) ∧ Below w.heap.size w w' := by
  have HLEN := Lib.hid (show s.data.toList.length = s.size by simp)
  go_enter Tryd.func38, Tryd.ntmps38
  go_wp2_with fail
  go_loopw [3, 4] (fun x u wr => ∃ (i : Nat) (l : List UInt8), i ≤ s.size ∧ u = .int .i64 i ∧ x = .string ⟨l.toArray⟩ ∧ l.length = i ∧ s.data.toList.map lowB = l ++ (s.data.toList.drop i).map lowB ∧ Below w.heap.size w wr) (fun _ u _ => s.size - (intOf u).toNat)
  case atStart => exact ⟨0, [], by omega, rfl, rfl, rfl, rfl, Below.refl _ _⟩
  case round =>
    obtain ⟨i, l, hi, rfl, rfl, hl, hm, hb⟩ := hrel
    have HM := Lib.hid hm
    have hl2 : l.length ≤ s.size := by omega
    have HL := Lib.hid hl
    have HLL := Lib.hid (show l.length ≤ s.size by omega)
    clear hm hl
    by_cases hlt : i < s.size
    · have HD := Lib.hid (drop_at (byte_at s i hlt))
      rcases cap_cases s[i] with ⟨hc, t1, t2⟩ | ⟨hc, t1, t2⟩ | ⟨hc, t1⟩
      · have hlow := low_cap hc
        have hn : s[i].toNat ≤ 90 := by have := of_decide_eq_true t2; omega
        have hr := run_one _ _ (lowB s[i]) (Blk.new wr 5 #[.int .u8 ((lowB s[i]).toNat : Int)])
        rw [hlow] at hr
        rw [show ((s[i].toNat + 32 : Nat) : Int) = (s[i].toNat : Int) + 32 from rfl] at hr
        have HLOW := Lib.hid hlow
        clear hlow hc
        go_wp2_with fail
        go_roundw
        case rel =>
          refine ⟨i + 1, l ++ [lowB s[i]], by omega, by go_num, by rw [bytes_snoc], by rw [List.length_append, HL.out]; rfl, ?_, hb.trans ((later_new wr _).mono hb.size)⟩
          rw [HM.out, HD.out]
          simp
        case measure => simp [intOf]; omega
      · have hr := run_one _ _ s[i] (Blk.new wr 5 #[.int .u8 (s[i].toNat : Int)])
        have HLOW := Lib.hid (low_not hc)
        clear hc
        go_wp2_with fail
        go_roundw
        case rel =>
          refine ⟨i + 1, l ++ [s[i]], by omega, by go_num, by rw [bytes_snoc], by rw [List.length_append, HL.out]; rfl, ?_, hb.trans ((later_new wr _).mono hb.size)⟩
          rw [HM.out, HD.out]
          simp [HLOW.out]
        case measure => simp [intOf]; omega
      · have hr := run_one _ _ s[i] (Blk.new wr 5 #[.int .u8 (s[i].toNat : Int)])
        have HLOW := Lib.hid (low_not hc)
        clear hc
        go_wp2_with fail
        go_roundw
        case rel =>
          refine ⟨i + 1, l ++ [s[i]], by omega, by go_num, by rw [bytes_snoc], by rw [List.length_append, HL.out]; rfl, ?_, hb.trans ((later_new wr _).mono hb.size)⟩
          rw [HM.out, HD.out]
          simp [HLOW.out]
        case measure => simp [intOf]; omega
    · go_wp2_with fail
      go_ret
      refine ⟨?_, hb⟩
      rw [HM.out, List.drop_eq_nil_of_le (by rw [HLEN.out]; omega)]
      simp

/-! ### blanks -/
theorem skip_nat {s : ByteArray} {a b : Nat} (h : skipL false (s.data.toList.drop a) = skipL false (s.data.toList.drop b)) : skipAt s a = skipAt s b := skipAt_eq s h
theorem skip_here {s : ByteArray} {a : Nat} (ha : a ≤ s.size) (h : skipL false (s.data.toList.drop a) = s.data.toList.drop a) : skipAt s a = a := by
  unfold skipAt
  rw [h, List.length_drop]
  simp
  omega
set_option maxHeartbeats 4000000 in
set_option maxRecDepth 100000 in
theorem blank_any (s : ByteArray) (at_ : Nat) (w : World) (ha : at_ ≤ s.size) (hs : s.size ≤ 4294967280) : Calls Tryd.prog 19 #[.string s, .int .i64 at_] w fun e w' => e = .returned (.int .i64 (skipAt s at_)) ∧ w = w' := by
  have HLEN := Lib.hid (show s.data.toList.length = s.size by simp)
  go_enter Tryd.func19, Tryd.ntmps19
  go_wp2_with fail
  go_loop [1] (fun u => ∃ a : Nat, a ≤ s.size ∧ u = .int .i64 a ∧ skipAt s at_ = skipAt s a) (fun u => s.size - (intOf u).toNat)
  case atStart => exact ⟨at_, ha, rfl, rfl⟩
  case round =>
    obtain ⟨a, hle, rfl, hsk⟩ := hrel
    have HS := Lib.hid hsk
    clear hsk
    by_cases hlt : a < s.size
    · have HD := Lib.hid (drop_at (byte_at s a hlt))
      cases hb : blankB s[a]
      · have h45 : s[a] = 45 ∨ s[a] ≠ 45 := by by_cases h : s[a] = 45 <;> simp [h]
        rw [blank_nat] at hb
        simp only [Bool.or_eq_false_iff] at hb
        obtain ⟨⟨⟨b1, b2⟩, b3⟩, b4⟩ := hb
        have HB := Lib.hid (show blankB s[a] = false by rw [blank_nat, b1, b2, b3, b4]; rfl)
        rcases h45 with h45 | h45
        · have t1 : (((s[a].toNat : Nat) : Int) == 45) = true := by rw [h45]; rfl
          have t2 : (((s[a].toNat : Nat) : Int) != 45) = false := by rw [h45]; rfl
          have H45 := Lib.hid h45
          clear h45
          by_cases hlt1 : a + 1 < s.size
          · have HD1 := Lib.hid (drop_at (byte_at s (a + 1) hlt1))
            have n1 := decide_eq_false (show ¬ ((s.size : Int) ≤ (a : Int) + 1) by omega)
            by_cases h46 : s[a + 1] = 45
            · have u1 : (((s[a + 1].toNat : Nat) : Int) == 45) = true := by rw [h46]; rfl
              have u2 : (((s[a + 1].toNat : Nat) : Int) != 45) = false := by rw [h46]; rfl
              have HC := Lib.hid (show skipL false (s.data.toList.drop a) = skipL true (s.data.toList.drop a) by
                rw [HD.out, HD1.out, h46, H45.out]
                simp [skipL, blankB])
              clear h46
              go_wp2_with fail
              go_loop [1] (fun u => ∃ k : Nat, a ≤ k ∧ k ≤ s.size ∧ u = .int .i64 k ∧ skipL false (s.data.toList.drop a) = skipL true (s.data.toList.drop k)) (fun u => s.size - (intOf u).toNat)
              case atStart => exact ⟨a, Nat.le_refl _, hle, rfl, HC.out⟩
              case round =>
                obtain ⟨k, hk1, hk2, rfl, hsk⟩ := hrel
                have HK := Lib.hid hsk
                clear hsk
                by_cases hkl : k < s.size
                · have HDK := Lib.hid (drop_at (byte_at s k hkl))
                  by_cases h10 : s[k] = 10
                  · have v1 : (((s[k].toNat : Nat) : Int) == 10) = true := by rw [h10]; rfl
                    have v2 : (((s[k].toNat : Nat) : Int) != 10) = false := by rw [h10]; rfl
                    have H10 := Lib.hid h10
                    have hne : a ≠ k := by
                      intro e
                      subst e
                      have := H45.out.symm.trans h10
                      exact absurd this (by decide)
                    clear h10
                    go_wp2_with fail
                    go_round
                    case rel =>
                      refine ⟨k, hk2, rfl, ?_⟩
                      rw [HS.out]
                      refine skip_nat ?_
                      rw [HK.out, HDK.out, H10.out]
                      simp [skipL, blankB]
                    case measure => simp [intOf]; omega
                  · have v1 : (((s[k].toNat : Nat) : Int) == 10) = false := by
                      rw [beq_eq_false_iff_ne]
                      intro h
                      exact h10 (UInt8.toNat_inj.1 (by simpa using (by omega : s[k].toNat = 10)))
                    have v2 : (((s[k].toNat : Nat) : Int) != 10) = true := by simpa [bne] using v1
                    have H10 := Lib.hid h10
                    clear h10
                    go_wp2_with fail
                    go_round
                    case rel =>
                      refine ⟨k + 1, by omega, hkl, by go_num, ?_⟩
                      rw [HK.out, HDK.out, skipL, if_neg H10.out]
                    case measure => simp [intOf]; omega
                · go_wp2_with fail
                  go_round
                  case rel =>
                    refine ⟨k, hk2, rfl, ?_⟩
                    rw [HS.out]
                    refine skip_nat ?_
                    rw [HK.out, List.drop_eq_nil_of_le (by rw [HLEN.out]; omega)]
                    simp [skipL]
                  case measure => simp [intOf]; omega
            · have u1 : (((s[a + 1].toNat : Nat) : Int) == 45) = false := by
                rw [beq_eq_false_iff_ne]
                intro h
                exact h46 (UInt8.toNat_inj.1 (by simpa using (by omega : s[a + 1].toNat = 45)))
              have u2 : (((s[a + 1].toNat : Nat) : Int) != 45) = true := by simpa [bne] using u1
              have H46 := Lib.hid h46
              clear h46
              go_wp2_with fail
              go_ret
              refine ⟨ret_int ?_, rfl⟩
              rw [HS.out, skip_here hle]
              rw [HD.out, skipL, HB.out, if_neg (by decide), if_neg]
              rintro ⟨_, h⟩
              rw [HD1.out] at h
              exact H46.out (by simpa using h)
          · have n1 := decide_eq_true (show ((s.size : Int) ≤ (a : Int) + 1) by omega)
            go_wp2_with fail
            go_ret
            refine ⟨ret_int ?_, rfl⟩
            rw [HS.out, skip_here hle]
            rw [HD.out, skipL, HB.out, if_neg (by decide), if_neg]
            rintro ⟨_, h⟩
            rw [List.drop_eq_nil_of_le (by rw [HLEN.out]; omega)] at h
            simp at h
        · have t1 : (((s[a].toNat : Nat) : Int) == 45) = false := by
            rw [beq_eq_false_iff_ne]
            intro h
            exact h45 (UInt8.toNat_inj.1 (by simpa using (by omega : s[a].toNat = 45)))
          have t2 : (((s[a].toNat : Nat) : Int) != 45) = true := by simpa [bne] using t1
          have H45 := Lib.hid h45
          clear h45
          go_wp2_with fail
          go_ret
          refine ⟨ret_int ?_, rfl⟩
          rw [HS.out, skip_here hle]
          rw [HD.out, skipL, HB.out, if_neg (by decide), if_neg]
          rintro ⟨h, _⟩
          exact H45.out h
      · have HB := Lib.hid hb
        rw [blank_nat] at hb
        cases b1 : (((s[a].toNat : Nat) : Int) == 32) <;> cases b2 : (((s[a].toNat : Nat) : Int) == 9) <;> cases b3 : (((s[a].toNat : Nat) : Int) == 10) <;> cases b4 : (((s[a].toNat : Nat) : Int) == 13)
        all_goals try (exfalso; rw [b1, b2, b3, b4] at hb; exact absurd hb (by decide))
        all_goals
          clear hb
          go_wp2_with fail
          go_round
          case rel =>
            refine ⟨a + 1, hlt, by go_num, ?_⟩
            rw [HS.out]
            refine skip_nat ?_
            rw [HD.out, skipL, if_pos HB.out]
          case measure => simp [intOf]; omega
    · go_wp2_with fail
      go_ret
      refine ⟨ret_int ?_, rfl⟩
      rw [HS.out, skip_here hle]
      rw [List.drop_eq_nil_of_le (by rw [HLEN.out]; omega)]
      rfl
end Go.Proofs.YtcmkfjepikncnaaDoor
