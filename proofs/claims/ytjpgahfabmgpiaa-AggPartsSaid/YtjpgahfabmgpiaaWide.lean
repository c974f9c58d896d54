/- Numbers of 128 bits: widen, plus, narrow; math/bits.Add64 and Sub64 as laws of the call. -/
import Derived.Test.YtjpgahfabmgpiaaCmp
import Derived.Laws.Externs
namespace Go.Proofs.Ytjpgahfabmgpiaa
open Go.ChangeShapes Go.WideShapes Go.ChangeAt Go.RowKit
set_option linter.unusedVariables false

/-- 2^64, behind a name -/
def M : Int := 18446744073709551616
def lo (a : Int) : Int := a % M
def hi (a : Int) : Int := a / M
theorem lo_nonneg (a : Int) : 0 ≤ lo a := by unfold lo M; omega
theorem lo_lt (a : Int) : lo a < M := by unfold lo M; omega
theorem hi_nonneg {a : Int} (h : 0 ≤ a) : 0 ≤ hi a := by unfold hi M; omega

theorem add_law (x y c : Int) (hx : 0 ≤ x) (hy : 0 ≤ y) (hc0 : 0 ≤ c) (hc : c ≤ 1) (w : World) : (callFunc 39 #[.int .u64 x, .int .u64 y, .int .u64 c]).run Try.prog w = .ok (.value (.tuple #[.int .u64 (lo (x + y + c)), .int .u64 (hi (x + y + c))])) w := by
  rw [run_callFunc_extern Try.func39 (by kernel_rfl) (by kernel_rfl) (by kernel_rfl) (e := add64Entry) (by kernel_rfl), run_add64 x y c hx hy hc0 hc]
  rfl

/-- a wide number's value -/
def wv (a : Int) : Value := .agg #[.int .u64 (hi a), .int .u64 (lo a)]

/-- a number of 64 bits as a wide one -/
def widen (n : Int) : Int := n % (M * M)
theorem widen_hi (n : Int) (h1 : -9223372036854775808 ≤ n) (h2 : n ≤ 9223372036854775807) : hi (widen n) = if n < 0 then M - 1 else 0 := by
  unfold hi widen M
  split <;> omega
theorem widen_lo (n : Int) : lo (widen n) = n % M := by
  unfold lo widen M
  omega

theorem widen_val (n : Int) (h1 : -9223372036854775808 ≤ n) (h2 : n ≤ 9223372036854775807) : Value.agg #[.int .u64 (IntKind.u64.wrap (n / 9223372036854775808)), .int .u64 (IntKind.u64.wrap n)] = wv (widen n) := by
  unfold wv
  rw [widen_hi n h1 h2, widen_lo, IntKind.wrap_u64, IntKind.wrap_u64]
  have e1 : n / 9223372036854775808 % 18446744073709551616 = if n < 0 then M - 1 else 0 := by unfold M; split <;> omega
  rw [e1]
  rfl

set_option maxHeartbeats 1000000 in
theorem widen_any (n : Int) (h1 : -9223372036854775808 ≤ n) (h2 : n ≤ 9223372036854775807) (w : World) : Calls Try.prog 41 #[.int .i64 n] w fun e w' => e = .returned (wv (widen n)) ∧ Below w.heap.size w w' := by
  rw [← widen_val n h1 h2]
  go_enter Try.func41, Try.ntmps41
  go_wp2
  exact bodyPost_ret (v := .agg #[.int .u64 (IntKind.u64.wrap (n / 9223372036854775808)), .int .u64 (IntKind.u64.wrap n)]) (by simp [results, Try.results41, go_sem]) rfl ⟨rfl, (Below.refl _ _).alloc (Nat.le_refl _) _⟩

/-- two wide numbers together -/
def wplus (a b : Int) : Int := (a + b) % (M * M)
theorem wplus_bd (a b : Int) : 0 ≤ wplus a b ∧ wplus a b < M * M := by unfold wplus M; omega
theorem plus_val (a b : Int) (ha0 : 0 ≤ a) (ha : a < M * M) (hb0 : 0 ≤ b) (hb : b < M * M) :
    Value.agg #[.int .u64 (lo (hi a + hi b + hi (lo a + lo b + 0))), .int .u64 (lo (lo a + lo b + 0))] = wv (wplus a b) := by
  have e1 : lo (hi a + hi b + hi (lo a + lo b + 0)) = hi (wplus a b) := by
    unfold wplus hi lo M at *
    omega
  have e2 : lo (lo a + lo b + 0) = lo (wplus a b) := by
    unfold wplus lo M
    omega
  unfold wv
  rw [e1, e2]

set_option maxHeartbeats 1000000 in
theorem plus_any (a b : Int) (ha0 : 0 ≤ a) (ha : a < M * M) (hb0 : 0 ≤ b) (hb : b < M * M) (w : World) :
    Calls Try.prog 24 #[.agg #[.int .u64 (hi a), .int .u64 (lo a)], .agg #[.int .u64 (hi b), .int .u64 (lo b)]] w fun e w' => e = .returned (wv (wplus a b)) ∧ Below w.heap.size w w' := by
  rw [← plus_val a b ha0 ha hb0 hb]
  have q1 := lo_nonneg a
  have q2 := lo_nonneg b
  have q3 := hi_nonneg ha0
  have q4 := hi_nonneg hb0
  have q5 : 0 ≤ hi (lo a + lo b + 0) ∧ hi (lo a + lo b + 0) ≤ 1 := by
    have := lo_lt a
    have := lo_lt b
    unfold hi M at *
    omega
  have l1 := fun w => add_law (lo a) (lo b) 0 q1 q2 (by omega) (by omega) w
  have l2 := fun w => add_law (hi a) (hi b) (hi (lo a + lo b + 0)) q3 q4 q5.1 q5.2 w
  clear q1 q2 q3 q4 q5 ha0 ha hb0 hb
  generalize lo (lo a + lo b + 0) = x1 at *
  generalize hi (lo a + lo b + 0) = x2 at *
  generalize lo (hi a + hi b + x2) = x3 at *
  generalize hi (hi a + hi b + x2) = x4 at *
  generalize lo a = la at *
  generalize lo b = lb at *
  generalize hi a = ha at *
  generalize hi b = hb at *
  go_enter Try.func24, Try.ntmps24
  go_wp2
  exact bodyPost_ret (v := .agg #[.int .u64 x3, .int .u64 x1]) (by simp [results, Try.results24, go_sem]) rfl ⟨rfl, by go_grown⟩

theorem info_u64 : (Try.prog.info? 56).map (fun i => (i.zero, i.size, i.bytes)) = some (some (.int .u64 0), 1, 8) := by kernel_rfl

theorem eq_wide (a b c d : Int) (w : World) : (Op.equalIn 10000 58 (.agg #[.int .u64 a, .int .u64 b]) (.agg #[.int .u64 c, .int .u64 d])).run Try.prog w = .ok (a == c && b == d) w := by
  obtain ⟨i0, hi0, hz0, hz1, hz2⟩ := info_parts info_u64
  rw [show (10000 : Nat) = 9998 + 1 + 1 from rfl]
  unfold Op.equalIn
  simp [run_underlying Try.underlying58, sizeOf, typeInfo, hi0, hz1, Std.Legacy.Range.forIn_eq_forIn_range', List.range', part, isAgg, run_underlying Try.underlying56, run_equalIn_int w 9998 56 .u64 .u64 _ _ Try.underlying56]
  by_cases h1 : a = c
  · by_cases h2 : b = d <;> simp [h1, h2]
  · simp [h1]

/-- 64 bits as a number with a sign -/
def sgn (x : Int) : Int := IntKind.i64.wrap x
def isNarrow (a : Int) : Bool := (hi a == hi (widen (sgn (lo a)))) && (lo a == lo (widen (sgn (lo a))))

set_option maxHeartbeats 1000000 in
theorem narrow_any (a : Int) (w : World) : Calls Try.prog 42 #[.agg #[.int .u64 (hi a), .int .u64 (lo a)]] w fun e w' => e = .returned (.tuple #[.int .i64 (sgn (lo a)), .bool (isNarrow a)]) ∧ Below w.heap.size w w' := by
  have hb : -9223372036854775808 ≤ sgn (lo a) ∧ sgn (lo a) ≤ 9223372036854775807 := by unfold sgn; rw [IntKind.wrap_i64]; omega
  have hw := fun w => widen_any (sgn (lo a)) hb.1 hb.2 w
  unfold wv at hw
  have HW := Lib.hid hw
  have HD := Lib.hid (show isNarrow a = ((hi a == hi (widen (sgn (lo a)))) && (lo a == lo (widen (sgn (lo a))))) from rfl)
  clear hw hb
  have hs : IntKind.i64.wrap (lo a) = sgn (lo a) := rfl
  have he := eq_wide
  generalize sgn (lo a) = n at *
  generalize hi (widen n) = h2 at *
  generalize lo (widen n) = l2 at *
  generalize lo a = l1 at *
  generalize hi a = h1 at *
  generalize isNarrow a = r at *
  go_enter Try.func42, Try.ntmps42
  go_wp2_with fail
  have c0 : ∀ (x : Ext (w.heap.size + 1) (w.alloc (.cells #[.int .u64 h1, .int .u64 l1] 58))), x.w.cell? ⟨w.heap.size, 0, none⟩ = some (.int .u64 h1) := fun x => by rw [x.cell (by simp)]; simp
  have c1 : ∀ (x : Ext (w.heap.size + 1) (w.alloc (.cells #[.int .u64 h1, .int .u64 l1] 58))), x.w.cell? ⟨w.heap.size, 1, none⟩ = some (.int .u64 l1) := fun x => by rw [x.cell (by simp)]; simp
  refine region_cut 7 (w.heap.size + 1) _ (Below.refl _ _) (by kernel_rfl) (by kernel_rfl) (by kernel_rfl) (by kernel_rfl) ?_
  simp only [List.take_succ_cons, List.take_zero, List.drop_succ_cons, List.drop_zero]
  repeat (go_big_quiet_step (first
    | (go_at_call 41; exact calls_later (by simp) (HW.out _))))
  refine wpQuiet_nil ?_
  rintro W ⟨x, hx⟩
  have hW := x.h
  rw [← hx] at hW
  clear c0 c1 hx x
  go_wp2_with fail
  go_ret2
  rw [HD.out]
  exact ⟨rfl, ((Below.refl _ _).alloc (Nat.le_refl _) _).trans (hW.mono (by simp))⟩
end Go.Proofs.Ytjpgahfabmgpiaa
