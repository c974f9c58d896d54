/- tidelineref01.Word. -/
import Derived.Test.YtekedkbjnedhgaaDoorDig
import Derived.Laws.DeepStrings4
namespace Go.Proofs.YtekedkbjnedhgaaDoor
open Go.ChangeShapes Go.WideShapes Go.ChangeAt Go.RowKit
set_option linter.unusedVariables false
set_option linter.unusedSimpArgs false

theorem esc_app : ∀ a b : List UInt8, esc (a ++ b) = esc a ++ esc b
  | [], b => rfl
  | x :: a, b => by
    have ih := esc_app a b
    simp only [List.cons_append, esc]
    split <;> simp [ih]
theorem good_bool {v : Val} (hg : good v = true) (hk : v.k = 1) (hn : v.n ≠ 1) : v.n = 0 := by
  unfold good at hg
  rw [if_neg (by rw [hk]; decide), if_pos hk] at hg
  simp only [Bool.and_eq_true, Bool.or_eq_true, beq_iff_eq] at hg
  exact hg.2.resolve_right hn

theorem extract_one (s : ByteArray) (k : Nat) (hk : k < s.size) : s.extract k (k + 1) = ⟨#[s[k]]⟩ := by
  apply ByteArray.ext
  apply Array.ext
  · simp; omega
  · intro i h1 h2
    have : i = 0 := by simp at h2; omega
    subst this
    simp [ByteArray.getElem_eq_getElem_data]
theorem cut_one (s : ByteArray) (k : Nat) (hk : k < s.size) (u : World) : (Instr.slice 9 (.string s) (some (.int .i64 k)) (some (.int .i64 (k + 1))) none).run Tryd.prog u = .ok (.string ⟨#[s[k]]⟩) u := by
  rw [run_slice_string_if u 9 s .i64 .i64 k (k + 1) Tryd.underlying9, if_pos (by omega), if_pos (by omega), ← extract_one s k hk]
  rfl
theorem cat_byte (s : List UInt8) (b : UInt8) : (⟨s.toArray⟩ : ByteArray) ++ ⟨#[b]⟩ = ⟨(s ++ [b]).toArray⟩ := by
  apply ByteArray.ext
  simp
theorem esc_step (s : ByteArray) (k : Nat) (hk : k < s.size) : esc (s.data.toList.take (k + 1)) = esc (s.data.toList.take k) ++ (if s[k] = 39 then [39, 39] else [s[k]]) := by
  have h : s.data.toList[k]? = some s[k] := by
    rw [List.getElem?_eq_getElem (by simpa using hk)]
    simp [ByteArray.getElem_eq_getElem_data]
  rw [List.take_add_one, h, esc_app]
  congr 1
theorem nat_byte (b : UInt8) : ((b.toNat : Int) == 39) = decide (b = 39) := by
  by_cases h : b = 39
  · subst h; rfl
  · have : b.toNat ≠ 39 := fun e => h (by apply UInt8.toNat_inj.1; exact e)
    rw [decide_eq_false h]
    simp
    omega

set_option maxHeartbeats 2000000 in
set_option maxRecDepth 100000 in
theorem wordR_any (v : Val) (hv : v.Ok) (hs : v.s.size < 4294967281) (w : World) : Calls Tryd.prog 14 #[.agg #[.int .u8 v.k, .int .i64 v.n, .string v.s]] w (wordPost (wordL v) w) := by
  have hbk := Blk.new w 23 #[.int .u8 v.k, .int .i64 v.n, .string v.s]
  have bb := later_new w (.cells #[.int .u8 v.k, .int .i64 v.n, .string v.s] 23)
  cases hg : good v
  · have HW := Lib.hid (show wordL v = [63] by unfold wordL; rw [hg]; rfl)
    go_enter Tryd.func14, Tryd.ntmps14
    go_wp2_with fail
    generalize w.alloc (.cells #[.int .u8 v.k, .int .i64 v.n, .string v.s] 23) = W at *
    refine (goodR_any v W).mono ?_
    rintro e w1 ⟨rfl, b1⟩
    rw [hg]
    go_wp2_with fail
    go_ret
    exact ⟨by rw [HW.out]; rfl, Later.then bb b1⟩
  · have HW := Lib.hid (show wordL v = (if v.k = 0 then [78, 85, 76, 76] else if v.k = 1 then (if v.n = 1 then [84, 82, 85, 69] else [70, 65, 76, 83, 69]) else if v.k = 2 then Lib.itoa v.n else 39 :: (esc v.s.data.toList ++ [39])) by unfold wordL; rw [if_pos hg])
    go_enter Tryd.func14, Tryd.ntmps14
    go_wp2_with fail
    generalize w.alloc (.cells #[.int .u8 v.k, .int .i64 v.n, .string v.s] 23) = W at *
    refine (goodR_any v W).mono ?_
    rintro e w1 ⟨rfl, b1⟩
    rw [hg]
    obtain ⟨c0, c1, c2⟩ := val_cells (hbk.later b1)
    replace bb := Later.then bb b1
    have HG := Lib.hid hg
    clear hbk b1 hg
    by_cases h0 : v.k = 0
    · have t0 : (v.k == 0) = true := by simpa using h0
      have HW := Lib.hid (HW.out.trans (if_pos h0))
      clear h0
      go_wp2_with fail
      go_ret
      exact ⟨by rw [HW.out]; rfl, bb⟩
    have t0 : (v.k == 0) = false := by simpa using h0
    replace HW := Lib.hid (HW.out.trans (if_neg h0))
    clear h0
    by_cases h1 : v.k = 1
    · have t1 : (v.k == 1) = true := by simpa using h1
      have HW := Lib.hid (HW.out.trans (if_pos h1))
      by_cases hn : v.n = 1
      · have t2 : (v.n == 1) = true := by simpa using hn
        replace HW := Lib.hid (HW.out.trans (if_pos hn))
        clear h1 hn
        go_wp2_with fail
        go_ret
        exact ⟨by rw [HW.out]; rfl, bb⟩
      · have t2 : (v.n == 1) = false := by simpa using hn
        replace HW := Lib.hid (HW.out.trans (if_neg hn))
        clear h1 hn
        go_wp2_with fail
        go_ret
        exact ⟨by rw [HW.out]; rfl, bb⟩
    have t1 : (v.k == 1) = false := by simpa using h1
    replace HW := Lib.hid (HW.out.trans (if_neg h1))
    clear h1
    by_cases h2 : v.k = 2
    · have t2 : (v.k == 2) = true := by simpa using h2
      have HW := Lib.hid (HW.out.trans (if_pos h2))
      clear h2
      go_wp2_with fail
      refine (digits_any v.n hv.1 hv.2 w1).mono ?_
      rintro e w2 ⟨rfl, b2⟩
      unfold strOf
      go_wp2_with fail
      go_ret
      exact ⟨by rw [HW.out]; rfl, Later.then bb b2⟩
    have t2 : (v.k == 2) = false := by simpa using h2
    replace HW := Lib.hid (HW.out.trans (if_neg h2))
    clear h2
    have hsz : v.s.data.toList.length = v.s.size := by simp
    go_wp2_with fail
    go_loopw [3, 4] (fun sv iv wr => ∃ k : Nat, k ≤ v.s.size ∧ iv = .int .i64 k ∧ sv = .string ⟨(39 :: esc (v.s.data.toList.take k)).toArray⟩ ∧ wr = w1) (fun _ iv _ => v.s.size - (intOf iv).toNat)
    case atStart => exact ⟨0, Nat.zero_le _, rfl, rfl, rfl⟩
    case round =>
      obtain ⟨k, hk, rfl, rfl, rfl⟩ := hrel
      by_cases hlt : k < v.s.size
      · have hcut := cut_one v.s k hlt
        have HS := Lib.hid (esc_step v.s k hlt)
        have hel := esc_len (v.s.data.toList.take k)
        have hel2 : (v.s.data.toList.take k).length ≤ v.s.size := by rw [← hsz]; exact List.length_take_le' _ _
        generalize esc (v.s.data.toList.take k) = E at *
        have hb := nat_byte v.s[k]
        have n1 : ¬ 9223372036854775807 < E.length + 1 + 1 := by omega
        have n2 : ¬ 9223372036854775807 < E.length + 1 + 1 + 1 := by omega
        clear hel hel2 hsz
        by_cases h39 : v.s[k] = 39
        · rw [decide_eq_true h39] at hb
          rw [if_pos h39] at HS
          rw [h39] at hcut
          clear h39
          go_wp2_with (simp only [cat_byte, List.cons_append, List.append_assoc])
          refine ⟨⟨k + 1, hlt, by go_num, ?_, trivial⟩, ?_⟩
          · first | (rw [HS.out]; done) | (rw [HS.out]; simp)
          · simp [intOf]; omega
        · rw [decide_eq_false h39] at hb
          rw [if_neg h39] at HS
          clear h39
          go_wp2_with (simp only [cat_byte, List.cons_append, List.append_assoc])
          refine ⟨⟨k + 1, hlt, by go_num, ?_, trivial⟩, ?_⟩
          · first | (rw [HS.out]; done) | (rw [HS.out]; simp)
          · simp [intOf]; omega
      · have hke : k = v.s.size := by omega
        subst hke
        rw [List.take_of_length_le (by omega)]
        have hel := esc_len v.s.data.toList
        have n1 : ¬ 9223372036854775807 < (esc v.s.data.toList).length + 1 + 1 := by omega
        go_wp2_with fail
        rw [cat_byte]
        go_ret
        exact ⟨by rw [HW.out]; rfl, bb⟩
end Go.Proofs.YtekedkbjnedhgaaDoor
