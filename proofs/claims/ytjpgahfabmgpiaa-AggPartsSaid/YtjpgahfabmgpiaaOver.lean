/- (wide).over: one answer, whatever the memory; of numbers that are not great: rounded down. -/
import Derived.Test.YtjpgahfabmgpiaaDiv
import Derived.Shelf.Spec.BitsCarry
namespace Go.Proofs.Ytjpgahfabmgpiaa
open Go.ChangeShapes Go.WideShapes Go.ChangeAt Go.RowKit
set_option linter.unusedVariables false

theorem sub_law (x y b : Nat) (hb : b ≤ 1) (w : World) : (callFunc 45 #[.int .u64 x, .int .u64 y, .int .u64 b]).run Try.prog w =
    .ok (.value (.tuple #[.int .u64 (((x + 18446744073709551616 - y - b) % 18446744073709551616 : Nat) : Int), .int .u64 ((if x < y + b then 1 else 0 : Nat) : Int)])) w := by
  rw [run_callFunc_extern Try.func45 (by kernel_rfl) (by kernel_rfl) (by kernel_rfl) (e := sub64Entry) (by kernel_rfl), run_sub64 x y b hb]
  rfl

/-- what Div64 answers -/
def DivIs (h l y q r : Int) : Prop := ∀ w, Calls Try.prog 44 #[.int .u64 h, .int .u64 l, .int .u64 y] w fun e w' => e = .returned (.tuple #[.int .u64 q, .int .u64 r]) ∧ Below w.heap.size w w'
theorem div_is (h l y : Int) (h0 : 0 ≤ h) (h1 : h < y) (hy : y < 512) (hl0 : 0 ≤ l) (hl1 : l < M) : ∃ q r, DivIs h l y q r := by
  by_cases hz : h = 0
  · subst hz
    exact ⟨_, _, fun w => div_fast l y h1 hl0 (by unfold M at hl1; omega) w⟩
  · obtain ⟨q, r, hq⟩ := div_det h l y (by omega) h1 hy hl0 hl1
    exact ⟨q, r, fun w => (hq w).mono fun e w' ⟨he, hw⟩ => ⟨he, by rw [hw]; exact Below.refl _ _⟩⟩

def OverIs (a n v : Int) : Prop := ∀ w, Calls Try.prog 43 #[.agg #[.int .u64 (hi a), .int .u64 (lo a)], .int .u64 n] w fun e w' => e = .returned (.int .i64 v) ∧ Below w.heap.size w w'

set_option maxHeartbeats 2000000 in
set_option maxRecDepth 100000 in
theorem over_pos (h l n q r hm : Int) (hn : 0 < n) (hh0 : 0 ≤ h) (hb : (h / 9223372036854775808 == 0) = true) (hd : DivIs hm l n q r) (hm0 : h.tmod n = hm) (w : World) :
    Calls Try.prog 43 #[.agg #[.int .u64 h, .int .u64 l], .int .u64 n] w fun e w' => e = .returned (.int .i64 (wrap64 q)) ∧ Below w.heap.size w w' := by
  have HD := Lib.hid hd
  clear hd
  have hn0 : ¬ n = 0 := by omega
  have hm1 : h % n = hm := by rw [← hm0, Int.tmod_eq_emod_of_nonneg hh0]
  go_enter Try.func43, Try.ntmps43
  go_wp2_with fail
  have c0 : ∀ (x : Ext (w.heap.size + 1) (w.alloc (.cells #[.int .u64 h, .int .u64 l] 58))), x.w.cell? ⟨w.heap.size, 0, none⟩ = some (.int .u64 h) := fun x => by rw [x.cell (by simp)]; simp
  have c1 : ∀ (x : Ext (w.heap.size + 1) (w.alloc (.cells #[.int .u64 h, .int .u64 l] 58))), x.w.cell? ⟨w.heap.size, 1, none⟩ = some (.int .u64 l) := fun x => by rw [x.cell (by simp)]; simp
  refine region_cut 13 (w.heap.size + 1) _ (Below.refl _ _) (by kernel_rfl) (by kernel_rfl) (by kernel_rfl) (by kernel_rfl) ?_
  simp only [List.take_succ_cons, List.take_zero, List.drop_succ_cons, List.drop_zero]
  repeat (go_big_quiet_step (first
    | (go_at_call 44; exact calls_later (by simp) (HD.out _))))
  refine wpQuiet_nil ?_
  rintro W ⟨x, hx⟩
  have hW := x.h
  rw [← hx] at hW
  clear c0 c1 hx x
  go_wp2_with fail
  go_ret
  exact ⟨rfl, ((Below.refl _ _).alloc (Nat.le_refl _) _).trans (hW.mono (by simp))⟩

set_option maxHeartbeats 2000000 in
set_option maxRecDepth 100000 in
theorem over_neg (h l n q r hm nl c nh c2 : Int) (hn : 0 < n) (hnh : 0 ≤ nh) (hb : (h / 9223372036854775808 == 0) = false) (hd : DivIs hm nl n q r) (hm0 : nh.tmod n = hm)
    (s1 : ∀ w, (callFunc 45 #[.int .u64 0, .int .u64 l, .int .u64 0]).run Try.prog w = .ok (.value (.tuple #[.int .u64 nl, .int .u64 c])) w)
    (s2 : ∀ w, (callFunc 45 #[.int .u64 0, .int .u64 h, .int .u64 c]).run Try.prog w = .ok (.value (.tuple #[.int .u64 nh, .int .u64 c2])) w) (w : World) :
    Calls Try.prog 43 #[.agg #[.int .u64 h, .int .u64 l], .int .u64 n] w fun e w' => e = .returned (.int .i64 (wrap64 (IntKind.u64.wrap (-(if 0 < r then IntKind.u64.wrap (q + 1) else q))))) ∧ Below w.heap.size w w' := by
  have HD := Lib.hid hd
  clear hd
  have hn0 : ¬ n = 0 := by omega
  have hm1 : nh % n = hm := by rw [← hm0, Int.tmod_eq_emod_of_nonneg hnh]
  by_cases hr : 0 < r
  · have hr1 : decide (0 < r) = true := by simpa using hr
    rw [if_pos hr]
    go_enter Try.func43, Try.ntmps43
    go_wp2_with (go_at_call 44; refine (HD.out _).mono ?_; rintro e w1 ⟨rfl, b1⟩)
    go_ret
    exact ⟨rfl, ((Below.refl _ _).alloc (Nat.le_refl _) _).trans (b1.mono (by simp))⟩
  · have hr1 : decide (0 < r) = false := by simpa using hr
    rw [if_neg hr]
    go_enter Try.func43, Try.ntmps43
    go_wp2_with (go_at_call 44; refine (HD.out _).mono ?_; rintro e w1 ⟨rfl, b1⟩)
    go_ret
    exact ⟨rfl, ((Below.refl _ _).alloc (Nat.le_refl _) _).trans (b1.mono (by simp))⟩

theorem hi_lt {a : Int} (h : a < M * M) : hi a < M := by unfold hi M at *; omega

theorem sub_of (x b : Int) (h0 : 0 ≤ x) (h1 : x < M) (hb0 : 0 ≤ b) (hb1 : b ≤ 1) : ∃ d c : Int, 0 ≤ d ∧ d < M ∧ 0 ≤ c ∧ c ≤ 1 ∧ d = (M - x - b) % M ∧ (c = if 0 < x + b then 1 else 0) ∧
    ∀ w, (callFunc 45 #[.int .u64 0, .int .u64 x, .int .u64 b]).run Try.prog w = .ok (.value (.tuple #[.int .u64 d, .int .u64 c])) w := by
  obtain ⟨X, rfl⟩ := Int.eq_ofNat_of_zero_le h0
  obtain ⟨B, rfl⟩ := Int.eq_ofNat_of_zero_le hb0
  have law := fun w => sub_law 0 X B (by omega) w
  refine ⟨_, _, ?_, ?_, ?_, ?_, ?_, ?_, law⟩
  · omega
  · unfold M; omega
  · omega
  · split <;> omega
  · unfold M at *; omega
  · by_cases hx : 0 < X + B
    · rw [if_pos (by omega), if_pos (by omega)]; rfl
    · rw [if_neg (by omega), if_neg (by omega)]; rfl

theorem over_det (a n : Int) (ha0 : 0 ≤ a) (ha1 : a < M * M) (hn : 0 < n) (hn1 : n < 512) : ∃ v, OverIs a n v := by
  have h0 := hi_nonneg ha0
  have h1 := hi_lt ha1
  have l0 := lo_nonneg a
  have l1 := lo_lt a
  by_cases hs : (hi a / 9223372036854775808 == 0) = true
  · have hm0 := Int.emod_nonneg (hi a) (show n ≠ 0 by omega)
    have hm1 := Int.emod_lt_of_pos (hi a) hn
    obtain ⟨q, r, hd⟩ := div_is (hi a % n) (lo a) n hm0 hm1 hn1 l0 l1
    exact ⟨_, fun w => over_pos (hi a) (lo a) n q r _ hn h0 hs hd (Int.tmod_eq_emod_of_nonneg h0) w⟩
  · rw [Bool.not_eq_true] at hs
    obtain ⟨nl, c, d0, d1, c0, c1, _, _, s1⟩ := sub_of (lo a) 0 l0 l1 (by omega) (by omega)
    obtain ⟨nh, c2, e0, e1, _, _, _, _, s2⟩ := sub_of (hi a) c h0 h1 c0 c1
    have hm0 := Int.emod_nonneg nh (show n ≠ 0 by omega)
    have hm1 := Int.emod_lt_of_pos nh hn
    obtain ⟨q, r, hd⟩ := div_is (nh % n) nl n hm0 hm1 hn1 d0 d1
    exact ⟨_, fun w => over_neg (hi a) (lo a) n q r _ nl c nh c2 hn e0 hs hd (Int.tmod_eq_emod_of_nonneg e0) s1 s2 w⟩

/-- of a number that is not great: rounded down -/
theorem over_small (s n : Int) (h1 : -1152921504606846976 ≤ s) (h2 : s ≤ 1152921504606846976) (hn : 0 < n) (hn1 : n < 512) : OverIs (widen s) n (s / n) := by
  intro w
  by_cases hs : 0 ≤ s
  · have eh : hi (widen s) = 0 := by unfold hi widen M; omega
    have el : lo (widen s) = s := by unfold lo widen M; omega
    rw [eh, el]
    have hd : DivIs 0 s n (s / n) (s % n) := fun w => div_fast s n hn hs (by omega) w
    have hq : 0 ≤ s / n ∧ s / n ≤ 1152921504606846976 := ⟨Int.ediv_nonneg hs (by omega), Int.le_trans (Int.ediv_le_self n hs) h2⟩
    have h := over_pos 0 s n (s / n) (s % n) 0 hn (by omega) (by decide) hd (by simp) w
    rw [show wrap64 (s / n) = s / n from IntWalk.wrap64_in _ ⟨by omega, by omega⟩] at h
    exact h
  · have eh : hi (widen s) = M - 1 := by unfold hi widen M; omega
    have el : lo (widen s) = M + s := by unfold lo widen M; omega
    rw [eh, el]
    have l0 : 0 ≤ M + s := by unfold M; omega
    have l1 : M + s < M := by omega
    obtain ⟨nl, c, d0, d1, c0, c1, dv, cv, s1⟩ := sub_of (M + s) 0 l0 l1 (by omega) (by omega)
    rw [if_pos (by unfold M; omega)] at cv
    have dv' : nl = -s := by rw [dv]; unfold M; omega
    obtain ⟨nh, c2, e0, e1, _, _, ev, _, s2⟩ := sub_of (M - 1) c (by unfold M; omega) (by omega) c0 c1
    have ev' : nh = 0 := by rw [ev, cv]; unfold M; omega
    subst dv' ev'
    have hd : DivIs 0 (-s) n (-s / n) (-s % n) := fun w => div_fast (-s) n hn (by omega) (by omega) w
    have h := over_neg (M - 1) (M + s) n (-s / n) (-s % n) 0 (-s) c 0 c2 hn (by omega) (by unfold M; decide) hd (by simp) s1 s2 w
    have hq : 0 ≤ -s / n ∧ -s / n ≤ 1152921504606846976 := ⟨Int.ediv_nonneg (by omega) (by omega), Int.le_trans (Int.ediv_le_self n (by omega)) (by omega)⟩
    have hm0 := Int.emod_nonneg (-s) (show n ≠ 0 by omega)
    have hm1 := Int.emod_lt_of_pos (-s) hn
    have hdm := Int.mul_ediv_add_emod (-s) n
    have hv : wrap64 (IntKind.u64.wrap (-(if 0 < -s % n then IntKind.u64.wrap (-s / n + 1) else -s / n))) = s / n := by
      generalize -s / n = b at *
      generalize -s % n = m at *
      have e1 : n * (-b - 1) = -(n * b) - n := by rw [Int.mul_sub, Int.mul_neg, Int.mul_one]
      have e2 : n * (-b) = -(n * b) := by rw [Int.mul_neg]
      unfold wrap64
      split
      · have hu : s / n = -b - 1 := ((Int.ediv_emod_unique hn (a := s) (q := -b - 1) (r := n - m)).2 ⟨by omega, by omega, by omega⟩).1
        rw [hu, IntKind.wrap_u64, IntKind.wrap_u64]
        omega
      · have hu : s / n = -b := ((Int.ediv_emod_unique hn (a := s) (q := -b) (r := 0)).2 ⟨by omega, by omega, by omega⟩).1
        rw [hu, IntKind.wrap_u64]
        omega
    rw [hv] at h
    exact h
end Go.Proofs.Ytjpgahfabmgpiaa
