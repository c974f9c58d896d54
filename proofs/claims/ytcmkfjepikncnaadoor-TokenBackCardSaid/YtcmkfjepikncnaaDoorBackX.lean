/- token: TokenBack's written. -/
import Derived.Test.YtcmkfjepikncnaaDoorBackW
namespace Go.Proofs.YtcmkfjepikncnaaDoor
open Go.ChangeShapes Go.WideShapes Go.ChangeAt Go.RowKit Go.Shelf
set_option linter.unusedVariables false
set_option linter.unusedSimpArgs false

def wdV (k : Int) (x : ByteArray) (n p : Int) : Value := .agg #[.int .u8 k, .string x, .int .i64 n, .int .i64 p]
set_option maxHeartbeats 4000000 in
set_option maxRecDepth 100000 in
theorem writ_word (x : ByteArray) (p : Int) (caps : Bool) (w : World) (hs : x.size ≤ 100000) : Calls Tryd.prog 16 #[.agg #[.int .u8 1, .string x, .int .i64 0, .int .i64 p], .bool caps] w fun e w' => e = .returned (.string ⟨(if caps then x.data.toList.map greatB else x.data.toList).toArray⟩) ∧ Below w.heap.size w w' := by
  cases caps
  · go_enter Tryd.func16, Tryd.ntmps16
    go_wp2_with fail
    go_ret
    exact ⟨rfl, later_new w _⟩
  · go_enter Tryd.func16, Tryd.ntmps16
    go_wp2_with fail
    refine (great_any x _ (by omega)).mono ?_
    rintro e w1 ⟨rfl, b1⟩
    go_wp2_with fail
    go_ret
    exact ⟨rfl, Later.then (later_new w _) b1⟩
set_option maxHeartbeats 4000000 in
set_option maxRecDepth 100000 in
theorem writ_num (x : ByteArray) (n : Nat) (p : Int) (caps : Bool) (w : World) (hn : n ≤ 9223372036854775807) : Calls Tryd.prog 16 #[.agg #[.int .u8 2, .string x, .int .i64 n, .int .i64 p], .bool caps] w fun e w' => e = .returned (.string ⟨(dig n).toArray⟩) ∧ Below w.heap.size w w' := by
  go_enter Tryd.func16, Tryd.ntmps16
  go_wp2_with fail
  refine (digits_any n hn _).mono ?_
  rintro e w1 ⟨rfl, b1⟩
  go_wp2_with fail
  go_ret
  exact ⟨rfl, Later.then (later_new w _) b1⟩
set_option maxHeartbeats 4000000 in
set_option maxRecDepth 100000 in
theorem writ_sign (x : ByteArray) (p : Int) (caps : Bool) (w : World) : Calls Tryd.prog 16 #[.agg #[.int .u8 4, .string x, .int .i64 0, .int .i64 p], .bool caps] w fun e w' => e = .returned (.string x) ∧ Below w.heap.size w w' := by
  go_enter Tryd.func16, Tryd.ntmps16
  go_wp2_with fail
  go_ret
  exact ⟨rfl, later_new w _⟩
set_option maxHeartbeats 4000000 in
set_option maxRecDepth 100000 in
theorem writ_text (x : ByteArray) (p : Int) (caps : Bool) (w : World) (hs : x.size ≤ 100000) : Calls Tryd.prog 16 #[.agg #[.int .u8 3, .string x, .int .i64 0, .int .i64 p], .bool caps] w fun e w' => e = .returned (.string ⟨(39 :: (escT x.data.toList ++ [39])).toArray⟩) ∧ Below w.heap.size w w' := by
  have HLEN := Lib.hid (show x.data.toList.length = x.size by simp)
  go_enter Tryd.func16, Tryd.ntmps16
  go_wp2_with fail
  have bb := later_new w (.cells #[.int .u8 3, .string x, .int .i64 0, .int .i64 p] 31)
  have hB := Blk.new w 31 #[.int .u8 3, .string x, .int .i64 0, .int .i64 p]
  generalize w.alloc (.cells #[.int .u8 3, .string x, .int .i64 0, .int .i64 p] 31) = W at *
  obtain ⟨z0, z1, z2, z3, y0, y1, y2, y3⟩ := four_facts hB
  clear hB
  go_loop [5, 6] (fun u v => ∃ (i : Nat) (l : List UInt8), i ≤ x.size ∧ v = .int .i64 i ∧ u = .string ⟨l.toArray⟩ ∧ l.length ≤ 2 * i + 1 ∧ 39 :: escT x.data.toList = l ++ escT (x.data.toList.drop i)) (fun _ v => x.size - (intOf v).toNat)
  case atStart => exact ⟨0, [39], by omega, rfl, rfl, by simp, rfl⟩
  case round =>
    obtain ⟨i, l, hi, rfl, rfl, hl, hm⟩ := hrel
    have HM := Lib.hid hm
    clear hm
    by_cases hlt : i < x.size
    · have HD := Lib.hid (drop_at (byte_at x i hlt))
      have hsl := run_slice_at x i (i + 1) (i : Int) ((i : Int) + 1) rfl (by omega) (by omega) (by omega) W
      rw [extract_one x i hlt] at hsl
      by_cases hq : x[i] = 39
      · have t1 : (((x[i].toNat : Nat) : Int) == 39) = true := by rw [hq]; rfl
        have HQ := Lib.hid hq
        clear hq
        go_wp2_with fail
        go_round
        case rel =>
          refine ⟨i + 1, l ++ [39, x[i]], by omega, by go_num, ?_, by simp; omega, ?_⟩
          · rw [bytes_snoc, bytes_snoc]; simp
          · rw [HM.out, HD.out, HQ.out]
            simp [escT]
        case measure => simp [intOf]; omega
      · have t1 : (((x[i].toNat : Nat) : Int) == 39) = false := by
          rw [beq_eq_false_iff_ne]
          intro h
          exact hq (UInt8.toNat_inj.1 (by simpa using (by omega : x[i].toNat = 39)))
        have HQ := Lib.hid hq
        clear hq
        go_wp2_with fail
        go_round
        case rel =>
          refine ⟨i + 1, l ++ [x[i]], by omega, by go_num, by rw [bytes_snoc], by simp; omega, ?_⟩
          rw [HM.out, HD.out]
          simp [escT, HQ.out]
        case measure => simp [intOf]; omega
    · have HN := Lib.hid (show x.data.toList.drop i = [] from List.drop_eq_nil_of_le (by rw [HLEN.out]; omega))
      go_wp2_with fail
      go_ret
      refine ⟨?_, bb⟩
      have e1 : (⟨l.toArray⟩ : ByteArray) ++ ⟨#[39]⟩ = ⟨(39 :: (escT x.data.toList ++ [39])).toArray⟩ := by
        rw [bytes_snoc, ← List.cons_append, HM.out, HN.out]
        simp [escT]
      rw [← e1]
      rfl
theorem written_any (d : Wd) (hd : IsWd d) (hs : d.s.length ≤ 100000) (p : Int) (caps : Bool) (w : World) : Calls Tryd.prog 16 #[.agg #[.int .u8 d.k, .string ⟨d.s.toArray⟩, .int .i64 d.n, .int .i64 p], .bool caps] w fun e w' => e = .returned (.string ⟨(writL d caps).toArray⟩) ∧ Below w.heap.size w w' := by
  have hsz : (⟨d.s.toArray⟩ : ByteArray).size ≤ 100000 := hs
  rcases hd.cases with ⟨c, r, rfl, _⟩ | ⟨n, rfl, hn⟩ | ⟨s, rfl⟩ | ⟨s, rfl, _⟩
  · refine (writ_word _ p caps w hsz).mono ?_
    rintro e w' ⟨rfl, hb⟩
    refine ⟨?_, hb⟩
    cases caps <;> rfl
  · refine (writ_num _ n p caps w hn).mono ?_
    rintro e w' ⟨rfl, hb⟩
    refine ⟨?_, hb⟩
    have e : writL ⟨2, [], n⟩ caps = dig n := by simp [writL]
    rw [e]
  · refine (writ_text _ p caps w hsz).mono ?_
    rintro e w' ⟨rfl, hb⟩
    refine ⟨?_, hb⟩
    have e : writL ⟨3, s, 0⟩ caps = 39 :: (escT s ++ [39]) := by simp [writL]
    rw [e]
  · refine (writ_sign _ p caps w).mono ?_
    rintro e w' ⟨rfl, hb⟩
    refine ⟨?_, hb⟩
    have e : writL ⟨4, s, 0⟩ caps = s := by simp [writL]
    rw [e]
end Go.Proofs.YtcmkfjepikncnaaDoor
