/- tidelineref01.digits. -/
import Derived.Test.YtekedkbjnedhgaaDoorWakes
namespace Go.Proofs.YtekedkbjnedhgaaDoor
open Go.ChangeShapes Go.WideShapes Go.ChangeAt Go.RowKit
set_option linter.unusedVariables false
set_option linter.unusedSimpArgs false

def digRest (k : Int) (s : List UInt8) : List UInt8 := if k = 0 then s else Lib.decDigits k.natAbs ++ s
theorem digRest_step (k : Int) (hk : k ≠ 0) (s : List UInt8) : digRest (k.tdiv 10) (UInt8.ofNat (48 + k.natAbs % 10) :: s) = digRest k s := by
  unfold digRest
  rw [if_neg hk]
  by_cases h : k.natAbs < 10
  · have h0 : k.tdiv 10 = 0 := by
      apply Int.natAbs_eq_zero.1
      rw [Int.natAbs_tdiv]
      show k.natAbs / 10 = 0
      omega
    rw [if_pos h0, Lib.decDigits_one h, Nat.mod_eq_of_lt h]
    rfl
  · have h0 : k.tdiv 10 ≠ 0 := by
      intro e
      have := congrArg Int.natAbs e
      rw [Int.natAbs_tdiv] at this
      change k.natAbs / 10 = 0 at this
      omega
    rw [if_neg h0, Int.natAbs_tdiv]
    show Lib.decDigits (k.natAbs / 10) ++ _ = _
    conv => rhs; rw [Lib.decDigits, dif_neg h]
    simp
def absD (k : Int) : Int := (k.natAbs % 10 : Nat)
theorem tmod_abs (k : Int) : (0 ≤ k.tmod 10 → k.tmod 10 = absD k) ∧ (k.tmod 10 < 0 → -(k.tmod 10) = absD k) := by
  unfold absD
  have h : (k.tmod 10).natAbs = k.natAbs % 10 := by rw [Int.natAbs_tmod]; rfl
  rw [← h]
  constructor <;> intro h0 <;> omega

theorem absD_lt (k : Int) : 0 ≤ absD k ∧ absD k ≤ 9 := by
  unfold absD
  omega
theorem byte_one {w : World} {g : Nat} (x : Int) (h : Blk w g 5 #[.int .u8 x]) : (convert 60 9 (.slice (some ⟨g, 0, none⟩) 1 1)).run Tryd.prog w = .ok (.string ⟨#[UInt8.ofNat x.toNat]⟩) w := by
  rw [run_convert_bytes_string w 60 9 5 (some ⟨g, 0, none⟩) 1 1 Tryd.underlying60 Tryd.underlying5 Tryd.underlying9]
  have h0 : w.cell? ⟨g, 0, none⟩ = some (.int .u8 x) := h.cell 0
  have hl : (loadCells ⟨g, 0, none⟩ 1).run Tryd.prog w = .ok #[.int .u8 x] w := by
    unfold loadCells
    simp only [loadCellsFrom, Sem.run_bind, load]
    rw [show (Sem.load Mode.plain (Addr.add ⟨g, 0, none⟩ 0) Sem.pure).run Tryd.prog w = .ok (.int .u8 x) w by simp [Sem.run, Addr.add, h0]]
    simp [Sem.run_pure]
  rw [run_bytesToString (P := Tryd.prog) w ⟨g, 0, none⟩ 1 1 [x] (by simpa using hl)]
  rfl
def digB (k : Int) : UInt8 := UInt8.ofNat (48 + k.natAbs % 10)
theorem cat_one (b : UInt8) (s : List UInt8) : (⟨#[b]⟩ : ByteArray) ++ ⟨s.toArray⟩ = ⟨(b :: s).toArray⟩ := by
  apply ByteArray.ext
  simp
theorem quo_small (k : Int) (hk : k ≠ 0) : (k.tdiv 10).natAbs < k.natAbs := by
  rw [Int.natAbs_tdiv]
  show k.natAbs / 10 < _
  omega
theorem quo_in (k : Int) (h0 : -9223372036854775808 ≤ k) (h1 : k ≤ 9223372036854775807) : -9223372036854775808 ≤ k.tdiv 10 ∧ k.tdiv 10 ≤ 9223372036854775807 := by
  have h : (k.tdiv 10).natAbs = k.natAbs / 10 := by rw [Int.natAbs_tdiv]; rfl
  omega

set_option maxHeartbeats 2000000 in
set_option maxRecDepth 100000 in
theorem digits_any (n : Int) (h0 : -9223372036854775808 ≤ n) (h1 : n ≤ 9223372036854775807) (w : World) : Calls Tryd.prog 30 #[.int .i64 n] w (wordPost (Lib.itoa n) w) := by
  by_cases hn : n = 0
  · have t1 : (n == 0) = true := by simpa using hn
    have HQ := Lib.hid (show Lib.itoa n = [48] by rw [hn]; unfold Lib.itoa; rw [if_neg (by decide)]; exact Lib.decDigits_one (by decide))
    clear hn
    go_enter Tryd.func30, Tryd.ntmps30
    go_wp2_with fail
    go_ret
    exact ⟨by rw [HQ.out]; rfl, by go_grown⟩
  · have t1 : (n == 0) = false := by simpa using hn
    have HN := Lib.hid hn
    clear hn
    go_enter Tryd.func30, Tryd.ntmps30
    go_wp2_with fail
    clear t1
    go_loopw [3, 4, 5] (fun sv kv dv wr => ∃ (k : Int) (s : List UInt8), kv = .int .i64 k ∧ sv = .string ⟨s.toArray⟩ ∧ -9223372036854775808 ≤ k ∧ k ≤ 9223372036854775807 ∧ digRest k s = Lib.decDigits n.natAbs ∧ Below w.heap.size w wr) (fun _ kv _ _ => (intOf kv).natAbs)
    case atStart => exact ⟨n, [], rfl, rfl, h0, h1, by unfold digRest; rw [if_neg HN.out, List.append_nil], Below.refl _ _⟩
    case round =>
      obtain ⟨k, s, rfl, rfl, hk0, hk1, hd, hB⟩ := hrel
      have HD := Lib.hid hd
      clear hd
      by_cases hk : k = 0
      · have t1 : (k != 0) = false := by simpa using hk
        have HK := Lib.hid hk
        clear hk
        have HS := Lib.hid (show s = Lib.decDigits n.natAbs by have := HD.out; unfold digRest at this; rwa [if_pos HK.out] at this)
        by_cases hneg : n < 0
        · have t2 : decide (n < 0) = true := by simpa using hneg
          have hl : s.length ≤ 20 := by rw [HS.out, Lib.decDigits_length]; exact Lib.nDigits_le20 _ (by omega)
          have t3 := decide_eq_false (show ¬ 9223372036854775807 < 1 + s.length by omega)
          go_wp2_with fail
          have HQ := Lib.hid (show Lib.itoa n = 45 :: s by unfold Lib.itoa; rw [if_pos hneg, HS.out])
          rw [cat_one]
          go_ret
          exact ⟨by rw [HQ.out]; rfl, hB⟩
        · have t2 : decide (n < 0) = false := by simpa using hneg
          have HQ := Lib.hid (show Lib.itoa n = s by unfold Lib.itoa; rw [if_neg hneg, HS.out]; congr 1; omega)
          clear hneg
          go_wp2_with fail
          go_ret
          exact ⟨by rw [HQ.out]; rfl, hB⟩
      · have t1 : (k != 0) = true := by simpa using hk
        have HK := Lib.hid hk
        clear hk
        have hl : s.length ≤ 20 := by
          have h2 : (Lib.decDigits n.natAbs).length ≤ 20 := by rw [Lib.decDigits_length]; exact Lib.nDigits_le20 _ (by omega)
          rw [← HD.out] at h2
          unfold digRest at h2
          rw [if_neg HK.out, List.length_append] at h2
          omega
        have t3 := decide_eq_false (show ¬ 9223372036854775807 < 1 + s.length by omega)
        have HS := Lib.hid (digRest_step k HK.out s)
        have hq := quo_in k hk0 hk1
        have HM := Lib.hid (quo_small k HK.out)
        have hx : UInt8.ofNat (48 + absD k).toNat = digB k := by unfold digB absD; congr 1
        have hm := tmod_abs k
        have hd := absD_lt k
        by_cases hneg : k.tmod 10 < 0
        · have t2 : decide (k.tmod 10 < 0) = true := by simpa using hneg
          have w1 : wrap64 (-(k.tmod 10)) = absD k := by rw [hm.2 hneg]; unfold wrap64; omega
          have w2 : wrap64 (48 + absD k) % 256 = 48 + absD k := by unfold wrap64; omega
          have n3 : ¬ 9223372036854775807 < 1 + s.length := by omega
          clear hm hd hneg
          go_wp2_with fail
          rw [byte_one _ (Blk.new wr _ _)]
          simp only [Result.andThen_ok]
          have bb := later_new wr (.cells #[.int .u8 (48 + absD k)] 5)
          generalize wr.alloc (.cells #[.int .u8 (48 + absD k)] 5) = W at *
          rw [hx]
          go_wp2_with fail
          rw [cat_one]
          go_roundw
          case rel => exact ⟨k.tdiv 10, digB k :: s, by go_num, rfl, hq.1, hq.2, HS.out.trans HD.out, Later.then hB bb⟩
          case measure => exact HM.out
        · have t2 : decide (k.tmod 10 < 0) = false := by simpa using hneg
          have w1 : wrap64 (48 + k.tmod 10) % 256 = 48 + absD k := by rw [hm.1 (by omega)]; unfold wrap64; omega
          have n3 : ¬ 9223372036854775807 < 1 + s.length := by omega
          clear hm hd hneg
          go_wp2_with fail
          rw [byte_one _ (Blk.new wr _ _)]
          simp only [Result.andThen_ok]
          have bb := later_new wr (.cells #[.int .u8 (48 + absD k)] 5)
          generalize wr.alloc (.cells #[.int .u8 (48 + absD k)] 5) = W at *
          rw [hx]
          go_wp2_with fail
          rw [cat_one]
          go_roundw
          case rel => exact ⟨k.tdiv 10, digB k :: s, by go_num, rfl, hq.1, hq.2, HS.out.trans HD.out, Later.then hB bb⟩
          case measure => exact HM.out

end Go.Proofs.YtekedkbjnedhgaaDoor
