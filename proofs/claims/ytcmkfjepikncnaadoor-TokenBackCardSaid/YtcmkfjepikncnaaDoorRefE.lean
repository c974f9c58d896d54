/- token: the document's next word: a number. -/
import Derived.Test.YtcmkfjepikncnaaDoorRefD
namespace Go.Proofs.YtcmkfjepikncnaaDoor
open Go.ChangeShapes Go.WideShapes Go.ChangeAt Go.RowKit Go.Shelf
set_option linter.unusedVariables false
set_option linter.unusedSimpArgs false
set_option maxHeartbeats 4000000 in
set_option maxRecDepth 100000 in
theorem one_num (s : ByteArray) (at_ : Nat) (w : World) (ha : at_ < s.size) (hl : letterB s[at_] = false) (hc : digitB s[at_] = true) (hs : s.size ≤ 4294967280) :
    Calls Tryd.prog 20 #[.string s, .int .i64 at_] w (oneP s at_ w (oneL (s.data.toList.drop at_))) := by
  have hd := drop_at (byte_at s at_ ha)
  have hone : oneL (s.data.toList.drop at_) = if numB ((s.data.toList.drop at_).takeWhile digitB) && !(((s.data.toList.drop at_).dropWhile digitB).head?.any letterB) then .ok (⟨2, [], valL ((s.data.toList.drop at_).takeWhile digitB)⟩, (s.data.toList.drop at_).dropWhile digitB) else .error 30 := by
    rw [hd]
    simp only [oneL, hl, if_pos hc]
    rfl
  have hpos : 0 < ((s.data.toList.drop at_).takeWhile digitB).length := by rw [hd, List.takeWhile_cons, if_pos hc]; simp
  generalize oneL (s.data.toList.drop at_) = R at *
  have HONE := Lib.hid hone
  have HPOS := Lib.hid hpos
  have HC := Lib.hid hc
  have HL0 := Lib.hid hl
  have HLEN := Lib.hid (show s.data.toList.length = s.size by simp)
  clear hone hd hc hl hpos
  go_enter Tryd.func20, Tryd.ntmps20
  go_wp2_with (first
    | (go_at_call 25; refine (rletter_any s[at_] _).mono ?_; rintro e w' ⟨rfl, rfl⟩; rw [HL0.out])
    | (go_at_call 26; refine (rdigit_any s[at_] _).mono ?_; rintro e w' ⟨rfl, rfl⟩; rw [HC.out]))
  have HZ := Lib.hid (Blk.new w 31 #[.int .u8 0, .string ⟨#[]⟩, .int .i64 0, .int .i64 0])
  have bb := later_new w (.cells #[.int .u8 0, .string ⟨#[]⟩, .int .i64 0, .int .i64 0] 31)
  generalize w.alloc (.cells #[.int .u8 0, .string ⟨#[]⟩, .int .i64 0, .int .i64 0] 31) = W at *
  go_loop [8] (fun u => ∃ k : Nat, at_ ≤ k ∧ k ≤ s.size ∧ u = .int .i64 k ∧ farN digitB s.data.toList at_ = farN digitB s.data.toList k) (fun u => s.size - (intOf u).toNat)
  case atStart => exact ⟨at_, Nat.le_refl _, by omega, rfl, rfl⟩
  case round =>
    obtain ⟨k, hk1, hk2, rfl, hf⟩ := hrel
    have HF := Lib.hid hf
    clear hf
    by_cases hlt : k < s.size
    · have HB := Lib.hid (byte_at s k hlt)
      cases hd : digitB s[k]
      · have HD := Lib.hid hd
        have HFE := Lib.hid (show farN digitB s.data.toList at_ = k by rw [HF.out]; exact farN_no HB.out hd)
        clear hd
        have HE := Lib.hid (show (s.extract at_ k).data.toList = (s.data.toList.drop at_).takeWhile digitB by rw [← HFE.out]; exact extract_far digitB s at_)
        have hx1 : 0 < (s.extract at_ k).size := by
          have h1 := HPOS.out
          rw [← HE.out] at h1
          simpa only [ByteArray.size_data, Array.length_toList] using h1
        have hx2 : (s.extract at_ k).size ≤ 4294967280 := by rw [ByteArray.size_extract]; omega
        have HN := Lib.hid (rnumber_any (s.extract at_ k) W (by rw [HE.out]; exact tw_word _) hx1 hx2)
        have HREST := Lib.hid (show (s.data.toList.drop at_).dropWhile digitB = s.data.toList.drop k by rw [← drop_far, HFE.out])
        clear hx1 hx2
        obtain ⟨z0, z1, z2, z3, y0, y1, y2, y3⟩ := four_facts HZ.out
        cases hnb : numB ((s.data.toList.drop at_).takeWhile digitB)
        · have HNB := Lib.hid hnb
          clear hnb
          go_wp2_with (go_at_call 26; refine (rdigit_any s[k] _).mono ?_; rintro e w' ⟨rfl, rfl⟩; rw [HD.out])
          refine HN.out.mono ?_
          unfold numPost
          rw [HE.out, HNB.out]
          rintro e w1 ⟨he, rfl⟩
          rw [if_neg (by decide)] at he
          subst he
          go_wp2_with fail
          refine bodyPost_ret (v := .tuple #[.agg #[.int .u8 0, .string ⟨#[]⟩, .int .i64 0, .int .i64 0], .int .i64 0, .int .i64 30]) ?_ rfl ?_
          · simp [results, Tryd.results20, go_sem, z0, z1, z2, z3]
          · rw [HONE.out, HNB.out]
            exact ⟨rfl, far4 bb (Nat.le_refl _) _ _ _ _⟩
        · have HNB := Lib.hid hnb
          clear hnb
          cases hlb : letterB s[k]
          · have HLB := Lib.hid hlb
            have HR := Lib.hid (show R = .ok (⟨2, [], valL ((s.data.toList.drop at_).takeWhile digitB)⟩, (s.data.toList.drop at_).dropWhile digitB) by
              rw [HONE.out, HNB.out, HREST.out, drop_at HB.out]
              simp [hlb])
            clear hlb
            go_wp2_with (go_at_call 26; refine (rdigit_any s[k] _).mono ?_; rintro e w' ⟨rfl, rfl⟩; rw [HD.out])
            refine HN.out.mono ?_
            unfold numPost
            rw [HE.out, HNB.out]
            rintro e w1 ⟨he, rfl⟩
            rw [if_pos rfl] at he
            subst he
            go_wp2_with (go_at_call 25; refine (rletter_any s[k] _).mono ?_; rintro e w' ⟨rfl, rfl⟩; rw [HLB.out])
            refine bodyPost_ret (v := .tuple #[.agg #[.int .u8 2, .string ⟨#[]⟩, .int .i64 (valL ((s.data.toList.drop at_).takeWhile digitB)), .int .i64 at_], .int .i64 k, .int .i64 0]) ?_ rfl ?_
            · simp [results, Tryd.results20, go_sem, z0, z1, z2, z3]
            · rw [HR.out]
              unfold oneP
              simp only
              rw [far_rest digitB s (by omega), HFE.out]
              exact ⟨rfl, far4 bb (Nat.le_refl _) _ _ _ _⟩
          · have HLB := Lib.hid hlb
            have HR := Lib.hid (show R = .error 30 by
              rw [HONE.out, HNB.out, HREST.out, drop_at HB.out]
              simp [hlb])
            clear hlb
            go_wp2_with (go_at_call 26; refine (rdigit_any s[k] _).mono ?_; rintro e w' ⟨rfl, rfl⟩; rw [HD.out])
            refine HN.out.mono ?_
            unfold numPost
            rw [HE.out, HNB.out]
            rintro e w1 ⟨he, rfl⟩
            rw [if_pos rfl] at he
            subst he
            go_wp2_with (go_at_call 25; refine (rletter_any s[k] _).mono ?_; rintro e w' ⟨rfl, rfl⟩; rw [HLB.out])
            refine bodyPost_ret (v := .tuple #[.agg #[.int .u8 0, .string ⟨#[]⟩, .int .i64 0, .int .i64 0], .int .i64 0, .int .i64 30]) ?_ rfl ?_
            · simp [results, Tryd.results20, go_sem, z0, z1, z2, z3]
            · rw [HR.out]
              exact ⟨rfl, far4 bb (Nat.le_refl _) _ _ _ _⟩
      · have HD := Lib.hid hd
        have HFE := Lib.hid (show farN digitB s.data.toList at_ = farN digitB s.data.toList (k + 1) by rw [HF.out]; exact farN_yes HB.out hd)
        clear hd
        go_wp2_with (go_at_call 26; refine (rdigit_any s[k] _).mono ?_; rintro e w' ⟨rfl, rfl⟩; rw [HD.out])
        go_round
        case rel => exact ⟨k + 1, by omega, hlt, by go_num, HFE.out⟩
        case measure => simp [intOf]; omega
    · have HFE := Lib.hid (show farN digitB s.data.toList at_ = k by rw [HF.out]; exact farN_end (by rw [HLEN.out]; omega))
      have HE := Lib.hid (show (s.extract at_ k).data.toList = (s.data.toList.drop at_).takeWhile digitB by rw [← HFE.out]; exact extract_far digitB s at_)
      have hx1 : 0 < (s.extract at_ k).size := by
        have h1 := HPOS.out
        rw [← HE.out] at h1
        simpa only [ByteArray.size_data, Array.length_toList] using h1
      have hx2 : (s.extract at_ k).size ≤ 4294967280 := by rw [ByteArray.size_extract]; omega
      have HN := Lib.hid (rnumber_any (s.extract at_ k) W (by rw [HE.out]; exact tw_word _) hx1 hx2)
      have HREST := Lib.hid (show (s.data.toList.drop at_).dropWhile digitB = s.data.toList.drop k by rw [← drop_far, HFE.out])
      clear hx1 hx2
      obtain ⟨z0, z1, z2, z3, y0, y1, y2, y3⟩ := four_facts HZ.out
      cases hnb : numB ((s.data.toList.drop at_).takeWhile digitB)
      · have HNB := Lib.hid hnb
        clear hnb
        go_wp2_with fail
        refine HN.out.mono ?_
        unfold numPost
        rw [HE.out, HNB.out]
        rintro e w1 ⟨he, rfl⟩
        rw [if_neg (by decide)] at he
        subst he
        go_wp2_with fail
        refine bodyPost_ret (v := .tuple #[.agg #[.int .u8 0, .string ⟨#[]⟩, .int .i64 0, .int .i64 0], .int .i64 0, .int .i64 30]) ?_ rfl ?_
        · simp [results, Tryd.results20, go_sem, z0, z1, z2, z3]
        · rw [HONE.out, HNB.out]
          exact ⟨rfl, far4 bb (Nat.le_refl _) _ _ _ _⟩
      · have HNB := Lib.hid hnb
        clear hnb
        have HR := Lib.hid (show R = .ok (⟨2, [], valL ((s.data.toList.drop at_).takeWhile digitB)⟩, (s.data.toList.drop at_).dropWhile digitB) by
          rw [HONE.out, HNB.out, HREST.out, List.drop_eq_nil_of_le (by rw [HLEN.out]; omega)]
          rfl)
        go_wp2_with fail
        refine HN.out.mono ?_
        unfold numPost
        rw [HE.out, HNB.out]
        rintro e w1 ⟨he, rfl⟩
        rw [if_pos rfl] at he
        subst he
        go_wp2_with fail
        refine bodyPost_ret (v := .tuple #[.agg #[.int .u8 2, .string ⟨#[]⟩, .int .i64 (valL ((s.data.toList.drop at_).takeWhile digitB)), .int .i64 at_], .int .i64 k, .int .i64 0]) ?_ rfl ?_
        · simp [results, Tryd.results20, go_sem, z0, z1, z2, z3]
        · rw [HR.out]
          unfold oneP
          simp only
          rw [far_rest digitB s (by omega), HFE.out]
          exact ⟨rfl, far4 bb (Nat.le_refl _) _ _ _ _⟩
end Go.Proofs.YtcmkfjepikncnaaDoor
