/- token: the document's next word: a text, a sign. -/
import Derived.Test.YtcmkfjepikncnaaDoorRefD
import Derived.Test.YtcmkfjepikncnaaDoorLexT
namespace Go.Proofs.YtcmkfjepikncnaaDoor
open Go.ChangeShapes Go.WideShapes Go.ChangeAt Go.RowKit Go.Shelf
set_option linter.unusedVariables false
set_option linter.unusedSimpArgs false
theorem extract_one (s : ByteArray) (k : Nat) (hk : k < s.size) : s.extract k (k + 1) = ⟨#[s[k]]⟩ := by
  have h := extract_list s k (k + 1)
  have h2 : (s.data.toList.take (k + 1)).drop k = [s[k]] := by
    rw [List.drop_take, drop_at (byte_at s k hk)]
    have : k + 1 - k = 1 := by omega
    rw [this]
    rfl
  rw [h2] at h
  apply Go.WideShapes.bytes_inj
  rw [h]
theorem run_slice_at (s : ByteArray) (a b : Nat) (x y : Int) (hx : x = a) (hy : y = b) (hab : a ≤ b) (hb : b ≤ s.size) (w : World) :
    (Instr.slice 9 (.string s) (some (.int .i64 x)) (some (.int .i64 y)) none).run Tryd.prog w = .ok (.string (s.extract a b)) w := by
  subst hx hy
  have := run_slice_string (P := Tryd.prog) (w := w) 9 s .i64 .i64 a b Tryd.underlying9 (by omega) (by omega) (by omega)
  simpa using this
set_option maxHeartbeats 4000000 in
set_option maxRecDepth 100000 in
theorem one_text (s : ByteArray) (at_ : Nat) (w : World) (ha : at_ < s.size) (hl : letterB s[at_] = false) (hdg : digitB s[at_] = false) (hq : s[at_] = 39) (hs : s.size ≤ 4294967280) :
    Calls Tryd.prog 20 #[.string s, .int .i64 at_] w (oneP s at_ w (oneL (s.data.toList.drop at_))) := by
  have hd := drop_at (byte_at s at_ ha)
  have hone : oneL (s.data.toList.drop at_) = match more [] (textL (s.data.toList.drop (at_ + 1))) with
      | some (t, rest) => .ok (⟨3, t, 0⟩, rest)
      | none => .error 30 := by
    rw [more_nil, hd]
    simp only [oneL, hl, hdg, if_pos hq]
    rfl
  generalize oneL (s.data.toList.drop at_) = R at *
  have t0 : (((s[at_].toNat : Nat) : Int) == 39) = true := by rw [hq]; rfl
  have HONE := Lib.hid hone
  have HL0 := Lib.hid hl
  have HD0 := Lib.hid hdg
  have HLEN := Lib.hid (show s.data.toList.length = s.size by simp)
  clear hone hd hl hdg hq
  go_enter Tryd.func20, Tryd.ntmps20
  go_wp2_with (first
    | (go_at_call 25; refine (rletter_any s[at_] _).mono ?_; rintro e w' ⟨rfl, rfl⟩; rw [HL0.out])
    | (go_at_call 26; refine (rdigit_any s[at_] _).mono ?_; rintro e w' ⟨rfl, rfl⟩; rw [HD0.out]))
  have HZ := Lib.hid (Blk.new w 31 #[.int .u8 0, .string ⟨#[]⟩, .int .i64 0, .int .i64 0])
  have bb := later_new w (.cells #[.int .u8 0, .string ⟨#[]⟩, .int .i64 0, .int .i64 0] 31)
  generalize w.alloc (.cells #[.int .u8 0, .string ⟨#[]⟩, .int .i64 0, .int .i64 0] 31) = W at *
  obtain ⟨z0, z1, z2, z3, y0, y1, y2, y3⟩ := four_facts HZ.out
  clear t0
  go_loop [8, 11] (fun u x => ∃ (k : Nat) (acc : List UInt8), k ≤ s.size ∧ acc.length ≤ k ∧ u = .int .i64 k ∧ x = .string ⟨acc.toArray⟩ ∧ more [] (textL (s.data.toList.drop (at_ + 1))) = more acc (textL (s.data.toList.drop k))) (fun u _ => s.size - (intOf u).toNat)
  case atStart => exact ⟨at_ + 1, [], ha, by simp, by go_num, rfl, rfl⟩
  case round =>
    obtain ⟨k, acc, hk, hacc, rfl, rfl, hm⟩ := hrel
    have HM := Lib.hid hm
    clear hm
    by_cases hks : k < s.size
    · have HB := Lib.hid (byte_at s k hks)
      by_cases hq : s[k] = 39
      · have HQ := Lib.hid hq
        have t1 : (((s[k].toNat : Nat) : Int) == 39) = true := by rw [hq]; rfl
        clear hq
        by_cases hk1 : k + 1 < s.size
        · have HB1 := Lib.hid (byte_at s (k + 1) hk1)
          have n2 := decide_eq_false (show ¬ ((s.size : Int) ≤ (k : Int) + 1) by omega)
          by_cases hq1 : s[k + 1] = 39
          · have HQ1 := Lib.hid hq1
            have t2 : (((s[k + 1].toNat : Nat) : Int) == 39) = true := by rw [hq1]; rfl
            have t3 : (((s[k + 1].toNat : Nat) : Int) != 39) = false := by rw [hq1]; rfl
            have hx := extract_one s (k + 1) hk1
            have hsl := run_slice_at s (k + 1) (k + 1 + 1) ((k : Int) + 1) ((k : Int) + 1 + 1) (by omega) (by omega) (by omega) (by omega) W
            rw [hx, hq1] at hsl
            clear hq1 hx
            go_wp2_with fail
            go_round
            case rel =>
              refine ⟨k + 2, acc ++ [39], by omega, by simp; omega, by go_num, by rw [bytes_snoc], ?_⟩
              rw [HM.out, drop_at HB.out, drop_at HB1.out, HQ.out, HQ1.out, text_two]
            case measure => simp [intOf]; omega
          · have t2 : (((s[k + 1].toNat : Nat) : Int) == 39) = false := by
              rw [beq_eq_false_iff_ne]
              intro h
              exact hq1 (UInt8.toNat_inj.1 (by simpa using (by omega : s[k + 1].toNat = 39)))
            have t3 : (((s[k + 1].toNat : Nat) : Int) != 39) = true := by simpa [bne] using t2
            have HEND := Lib.hid (show (s.data.toList.drop (k + 1)).head? ≠ some 39 by rw [drop_at HB1.out]; simpa using hq1)
            clear hq1
            go_wp2_with fail
            refine bodyPost_ret (v := .tuple #[.agg #[.int .u8 3, .string ⟨acc.toArray⟩, .int .i64 0, .int .i64 at_], .int .i64 ((k : Int) + 1), .int .i64 0]) ?_ rfl ?_
            · simp [results, Tryd.results20, go_sem, z0, z1, z2, z3]
            · rw [HONE.out, HM.out, drop_at HB.out, HQ.out, text_end HEND.out]
              unfold oneP
              simp only
              have e : s.size - (s.data.toList.drop (k + 1)).length = k + 1 := by rw [List.length_drop, HLEN.out]; omega
              rw [e]
              exact ⟨rfl, far4 bb (Nat.le_refl _) _ _ _ _⟩
        · have n2 := decide_eq_true (show ((s.size : Int) ≤ (k : Int) + 1) by omega)
          have HEND := Lib.hid (show (s.data.toList.drop (k + 1)).head? ≠ some 39 by rw [List.drop_eq_nil_of_le (by rw [HLEN.out]; omega)]; simp)
          go_wp2_with fail
          refine bodyPost_ret (v := .tuple #[.agg #[.int .u8 3, .string ⟨acc.toArray⟩, .int .i64 0, .int .i64 at_], .int .i64 ((k : Int) + 1), .int .i64 0]) ?_ rfl ?_
          · simp [results, Tryd.results20, go_sem, z0, z1, z2, z3]
          · rw [HONE.out, HM.out, drop_at HB.out, HQ.out, text_end HEND.out]
            unfold oneP
            simp only
            have e : s.size - (s.data.toList.drop (k + 1)).length = k + 1 := by rw [List.length_drop, HLEN.out]; omega
            rw [e]
            exact ⟨rfl, far4 bb (Nat.le_refl _) _ _ _ _⟩
      · have HQ := Lib.hid hq
        have t1 : (((s[k].toNat : Nat) : Int) == 39) = false := by
          rw [beq_eq_false_iff_ne]
          intro h
          exact hq (UInt8.toNat_inj.1 (by simpa using (by omega : s[k].toNat = 39)))
        have hsl := run_slice_at s k (k + 1) (k : Int) ((k : Int) + 1) rfl (by omega) (by omega) (by omega) W
        rw [extract_one s k hks] at hsl
        clear hq
        go_wp2_with fail
        go_round
        case rel =>
          refine ⟨k + 1, acc ++ [s[k]], by omega, by simp; omega, by go_num, by rw [bytes_snoc], ?_⟩
          rw [HM.out, drop_at HB.out, text_other HQ.out]
        case measure => simp [intOf]; omega
    · have HNIL := Lib.hid (show s.data.toList.drop k = [] by rw [List.drop_eq_nil_of_le (by rw [HLEN.out]; omega)])
      go_wp2_with fail
      refine bodyPost_ret (v := .tuple #[.agg #[.int .u8 0, .string ⟨#[]⟩, .int .i64 0, .int .i64 0], .int .i64 0, .int .i64 30]) ?_ rfl ?_
      · simp [results, Tryd.results20, go_sem, z0, z1, z2, z3]
      · rw [HONE.out, HM.out, HNIL.out]
        exact ⟨rfl, far4 bb (Nat.le_refl _) _ _ _ _⟩
end Go.Proofs.YtcmkfjepikncnaaDoor
