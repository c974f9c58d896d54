/- math/bits.Div64 where the divisor is small: one answer, whatever the memory. -/
import Derived.Test.YtjpgahfabmgpiaaWide
import Derived.Test.YtjpgahfabmgpiaaShelf
import Derived.Lib.BitFns
import Derived.WalkSmall
namespace Go.Proofs.Ytjpgahfabmgpiaa
open Go.ChangeShapes Go.WideShapes Go.ChangeAt Go.RowKit
set_option linter.unusedVariables false

set_option maxHeartbeats 4000000 in
set_option maxRecDepth 100000 in
theorem div_walk (hi lo y Y Y1 H Lq U LL u1 u0 q1 r1 V q0 r0 : Int) (k : Nat) (hy0 : 0 < y) (hy1 : y ≤ 65535) (hh0 : 0 < hi) (hh1 : hi < y) (hk : k ≤ 63) (hk0 : 1 ≤ k)
    (hlz : (64 - (Lib.bitLen y.toNat : Int)) = (k : Int)) (hY1 : 1 ≤ Y1) (hU0 : 0 ≤ U) (hV0 : 0 ≤ V)
    (e1 : IntKind.u64.wrap (y * 2 ^ k) = Y) (e2 : Y / 4294967296 = Y1) (e3 : bits .and .u64 Y 4294967295 = 0)
    (e4 : IntKind.u64.wrap (hi * 2 ^ k) = H) (e5 : lo / 2 ^ (64 - k) = Lq) (e6 : bits .or .u64 H Lq = U) (e7 : IntKind.u64.wrap (lo * 2 ^ k) = LL) (e8 : LL / 4294967296 = u1) (e9 : bits .and .u64 LL 4294967295 = u0)
    (f1 : IntKind.u64.wrap (U.tdiv Y1) = q1) (f2 : IntKind.u64.wrap (U - IntKind.u64.wrap (q1 * Y1)) = r1) (hq1 : q1 < 4294967296) (hq10 : 0 ≤ q1)
    (g1 : IntKind.u64.wrap (IntKind.u64.wrap (IntKind.u64.wrap (U * 4294967296) + u1) - IntKind.u64.wrap (q1 * Y)) = V)
    (g2 : IntKind.u64.wrap (V.tdiv Y1) = q0) (g3 : IntKind.u64.wrap (V - IntKind.u64.wrap (q0 * Y1)) = r0) (hq0 : q0 < 4294967296) (hq00 : 0 ≤ q0) (q r : Int) (d1 : IntKind.u64.wrap (IntKind.u64.wrap (q1 * 4294967296) + q0) = q) (d2 : IntKind.u64.wrap (IntKind.u64.wrap (IntKind.u64.wrap (V * 4294967296) + u0) - IntKind.u64.wrap (q0 * Y)) / 2 ^ k = r) (w : World) :
    Calls Try.prog 44 #[.int .u64 hi, .int .u64 lo, .int .u64 y] w fun e w' => e = .returned (.tuple #[.int .u64 q, .int .u64 r]) ∧ w = w' := by
  have b1 : (y == 0) = false := by rw [beq_eq_false_iff_ne]; omega
  have b2 : decide (y ≤ hi) = false := by simp; omega
  have b3 : (hi == 0) = false := by rw [beq_eq_false_iff_ne]; omega
  have b4 : decide ((4294967296 : Int) ≤ q1) = false := by simp; omega
  have b5 : decide ((4294967296 : Int) ≤ q0) = false := by simp; omega
  have b6 : ∀ z : Int, decide (IntKind.u64.wrap z < 0) = false := by intro z; rw [IntKind.wrap_u64]; simp; omega
  have HL := Lib.hid hlz
  have E := Lib.hid e1
  clear hlz hh0 hh1 hq1 hq0 hq10 hq00
  go_enter Try.func44, Try.ntmps44
  go_wp2_with (go_at_call 46; refine (Try.bits_LeadingZeros64 y _ (by omega) (by omega)).mono ?_; rintro e w' ⟨rfl, rfl⟩; rw [HL.out])
  refine wp_loop_rounds 1 ?_
  rw [rounds_succ]
  go_wp2_with fail
  refine wp_loop_rounds 1 ?_
  rw [rounds_succ]
  go_wp2_with fail
  go_ret2
  exact ⟨rfl, rfl⟩

theorem len_bd : ∀ y : Fin 512, y.val = 0 ∨ (1 ≤ Lib.bitLen y.val ∧ Lib.bitLen y.val ≤ 9 ∧ 2 ^ (Lib.bitLen y.val - 1) ≤ y.val ∧ y.val < 2 ^ Lib.bitLen y.val) := by decide +kernel

theorem and_mask (x : Int) (h0 : 0 ≤ x) (h1 : x < M) : bits .and .u64 x 4294967295 = x % 4294967296 := by
  have := bits_mask .u64 64 (by decide) (fun n h0 h1 => by rw [IntKind.wrap_u64]; omega) 32 (by decide) x h0 (by unfold M at h1; omega)
  exact this
theorem or_join (k : Nat) (hk : k ≤ 64) (x y : Int) (hx0 : 0 ≤ x) (hx : x % 2 ^ k = 0) (hx1 : x < M) (hy0 : 0 ≤ y) (hy : y < 2 ^ k) (hy1 : y < M) : bits .or .u64 x y = x + y :=
  bits_join .u64 64 (by decide) (fun n h0 h1 => by rw [IntKind.wrap_u64]; omega) k x y hx0 hx (by unfold M at hx1; omega) hy0 hy (by unfold M at hy1; omega)

theorem V_bd (U Y Y1 u1 q1 : Int) (hY : Y = Y1 * 4294967296) (h1 : 1 ≤ Y1) (h2 : Y1 < 4294967296) (hU0 : 0 ≤ U) (hU1 : U < Y) (hu0 : 0 ≤ u1) (hu1 : u1 < 4294967296) (hq : q1 = U / Y1) :
    IntKind.u64.wrap (IntKind.u64.wrap (IntKind.u64.wrap (U * 4294967296) + u1) - IntKind.u64.wrap (q1 * Y)) = U % Y1 * 4294967296 + u1 := by
  have hm0 := Int.emod_nonneg U (show Y1 ≠ 0 by omega)
  have hm1 := Int.emod_lt_of_pos U (show 0 < Y1 by omega)
  have hd := Int.mul_ediv_add_emod U Y1
  have hp : q1 * Y = (q1 * Y1) * 4294967296 := by rw [hY, Int.mul_assoc]
  have hp2 : q1 * Y1 = U - U % Y1 := by rw [hq, Int.mul_comm]; omega
  rw [hp, hp2]
  simp only [IntKind.wrap_u64]
  omega

theorem det_k (hi lo y : Int) (L k : Nat) (hL : L = Lib.bitLen y.toNat) (hk : k = 64 - L) (hh0 : 0 < hi) (hh1 : hi < y) (hl0 : 0 ≤ lo) (hl1 : lo < M) (a1 : 1 ≤ L) (a2 : L ≤ 9) (P Q : Int) (hP : (2 : Int) ^ k = P) (hQ : (2 : Int) ^ (64 - k) = Q) (hPQ : P * Q = M)
    (hP32 : ∃ P' : Int, P = P' * 4294967296 ∧ 0 < P') (y1 : M ≤ 2 * (y * P)) (y2 : y * P < M) (hy : y ≤ 65535) :
    ∃ q r : Int, ∀ w, Calls Try.prog 44 #[.int .u64 hi, .int .u64 lo, .int .u64 y] w fun e w' => e = .returned (.tuple #[.int .u64 q, .int .u64 r]) ∧ w = w' := by
  obtain ⟨P', hP', hP'0⟩ := hP32
  have hP0 : 0 < P := by omega
  have hQ0 : 0 < Q := by rw [← hQ]; exact Int.pow_pos (by decide)
  have hY : IntKind.u64.wrap (y * P) = y * P := by
    rw [IntKind.wrap_u64]
    have : 0 ≤ y * P := Int.mul_nonneg (by omega) (by omega)
    unfold M at y2
    omega
  have hYe : y * P = (y * P') * 4294967296 := by rw [hP', Int.mul_assoc]
  have hY1 : y * P / 4294967296 = y * P' := by rw [hYe]; omega
  have hY1p : 1 ≤ y * P' := Int.mul_pos (by omega) hP'0
  have hY1u : y * P' < 4294967296 := by rw [hYe] at y2; unfold M at y2; omega
  have hHle : (hi + 1) * P ≤ y * P := Int.mul_le_mul_of_nonneg_right (by omega) (by omega)
  have hHx : (hi + 1) * P = hi * P + P := by rw [Int.add_mul, Int.one_mul]
  have hH0 : 0 ≤ hi * P := Int.mul_nonneg (by omega) (by omega)
  have hH : IntKind.u64.wrap (hi * P) = hi * P := by
    rw [IntKind.wrap_u64]
    unfold M at y2
    omega
  have hLq0 : 0 ≤ lo / Q := Int.ediv_nonneg hl0 (by omega)
  have hLq1 : lo / Q < P := by
    apply Int.ediv_lt_of_lt_mul hQ0
    rw [hPQ]; exact hl1
  have hU : bits .or .u64 (hi * P) (lo / Q) = hi * P + lo / Q := by
    refine or_join k (by omega) _ _ hH0 (by rw [hP]; exact Int.mul_emod_left _ _) (by omega) hLq0 (by rw [hP]; exact hLq1) (by unfold M at *; omega)
  have hUlt : hi * P + lo / Q < y * P := by omega
  have hLLb : 0 ≤ IntKind.u64.wrap (lo * P) ∧ IntKind.u64.wrap (lo * P) < M := by rw [IntKind.wrap_u64]; unfold M; omega
  have hu1 : 0 ≤ IntKind.u64.wrap (lo * P) / 4294967296 ∧ IntKind.u64.wrap (lo * P) / 4294967296 < 4294967296 := by unfold M at hLLb; omega
  have hUdiv : (hi * P + lo / Q).tdiv (y * P') = (hi * P + lo / Q) / (y * P') := Int.tdiv_eq_ediv_of_nonneg (by omega)
  have hUq : (hi * P + lo / Q) / (y * P') < 4294967296 := by
    apply Int.ediv_lt_of_lt_mul (by omega)
    omega
  have hUq0 : 0 ≤ (hi * P + lo / Q) / (y * P') := Int.ediv_nonneg (by omega) (by omega)
  have hq1 : IntKind.u64.wrap ((hi * P + lo / Q).tdiv (y * P')) = (hi * P + lo / Q) / (y * P') := by rw [hUdiv, IntKind.wrap_u64]; omega
  have hV := V_bd (hi * P + lo / Q) (y * P) (y * P') (IntKind.u64.wrap (lo * P) / 4294967296) _ hYe hY1p hY1u (by omega) hUlt hu1.1 hu1.2 hq1
  have hm0 := Int.emod_nonneg (hi * P + lo / Q) (show y * P' ≠ 0 by omega)
  have hm1 := Int.emod_lt_of_pos (hi * P + lo / Q) (show 0 < y * P' by omega)
  generalize hVV : (hi * P + lo / Q) % (y * P') * 4294967296 + IntKind.u64.wrap (lo * P) / 4294967296 = V at hV
  have hV0 : 0 ≤ V := by omega
  have hVlt : V < y * P := by rw [hYe]; omega
  have hVdiv : V.tdiv (y * P') = V / (y * P') := Int.tdiv_eq_ediv_of_nonneg hV0
  have hVq : V / (y * P') < 4294967296 := by
    apply Int.ediv_lt_of_lt_mul (by omega)
    omega
  have hVq0 : 0 ≤ V / (y * P') := Int.ediv_nonneg hV0 (by omega)
  have hq0 : IntKind.u64.wrap (V.tdiv (y * P')) = V / (y * P') := by rw [hVdiv, IntKind.wrap_u64]; omega
  refine ⟨_, _, fun w => div_walk hi lo y (y * P) (y * P') (hi * P) (lo / Q) (hi * P + lo / Q) (IntKind.u64.wrap (lo * P)) _ _ _ _ V _ _ k (by omega) hy hh0 hh1 (by omega) (by omega) (by omega) hY1p (by omega) hV0
    (by rw [hP]; exact hY) hY1 (by rw [and_mask _ (by omega) y2, hYe]; omega) (by rw [hP]; exact hH) (by rw [hQ]) hU (by rw [hP]) rfl rfl rfl rfl (by rw [hq1]; exact hUq) (by rw [hq1]; exact hUq0) hV rfl rfl (by rw [hq0]; exact hVq) (by rw [hq0]; exact hVq0) _ _ rfl rfl w⟩

theorem div_det (hi lo y : Int) (hh0 : 0 < hi) (hh1 : hi < y) (hy : y < 512) (hl0 : 0 ≤ lo) (hl1 : lo < M) :
    ∃ q r : Int, ∀ w, Calls Try.prog 44 #[.int .u64 hi, .int .u64 lo, .int .u64 y] w fun e w' => e = .returned (.tuple #[.int .u64 q, .int .u64 r]) ∧ w = w' := by
  obtain ⟨n, rfl⟩ := Int.eq_ofNat_of_zero_le (show 0 ≤ y by omega)
  have hb := len_bd ⟨n, by omega⟩
  simp only at hb
  rcases hb with h | ⟨a1, a2, a3, a4⟩
  · omega
  · have key := fun P Q h1 h2 h3 h4 h5 h6 => det_k hi lo (n : Int) (Lib.bitLen n) (64 - Lib.bitLen n) (by simp) rfl hh0 hh1 hl0 hl1 a1 a2 P Q h1 h2 h3 h4 h5 h6 (by omega)
    generalize Lib.bitLen n = L at *
    have hc : L = 1 ∨ L = 2 ∨ L = 3 ∨ L = 4 ∨ L = 5 ∨ L = 6 ∨ L = 7 ∨ L = 8 ∨ L = 9 := by omega
    rcases hc with rfl | rfl | rfl | rfl | rfl | rfl | rfl | rfl | rfl
    · exact key _ _ rfl rfl rfl ⟨2 ^ 31, by decide, by decide⟩ (by unfold M; simp; omega) (by unfold M; simp; omega)
    · exact key _ _ rfl rfl rfl ⟨2 ^ 30, by decide, by decide⟩ (by unfold M; simp; omega) (by unfold M; simp; omega)
    · exact key _ _ rfl rfl rfl ⟨2 ^ 29, by decide, by decide⟩ (by unfold M; simp; omega) (by unfold M; simp; omega)
    · exact key _ _ rfl rfl rfl ⟨2 ^ 28, by decide, by decide⟩ (by unfold M; simp; omega) (by unfold M; simp; omega)
    · exact key _ _ rfl rfl rfl ⟨2 ^ 27, by decide, by decide⟩ (by unfold M; simp; omega) (by unfold M; simp; omega)
    · exact key _ _ rfl rfl rfl ⟨2 ^ 26, by decide, by decide⟩ (by unfold M; simp; omega) (by unfold M; simp; omega)
    · exact key _ _ rfl rfl rfl ⟨2 ^ 25, by decide, by decide⟩ (by unfold M; simp; omega) (by unfold M; simp; omega)
    · exact key _ _ rfl rfl rfl ⟨2 ^ 24, by decide, by decide⟩ (by unfold M; simp; omega) (by unfold M; simp; omega)
    · exact key _ _ rfl rfl rfl ⟨2 ^ 23, by decide, by decide⟩ (by unfold M; simp; omega) (by unfold M; simp; omega)

set_option maxHeartbeats 1000000 in
theorem div_fast (lo y : Int) (hy : 0 < y) (hl0 : 0 ≤ lo) (hl1 : lo ≤ 18446744073709551615) (w : World) :
    Calls Try.prog 44 #[.int .u64 0, .int .u64 lo, .int .u64 y] w fun e w' => e = .returned (.tuple #[.int .u64 (lo / y), .int .u64 (lo % y)]) ∧ Below w.heap.size w w' := by
  have b1 : (y == 0) = false := by rw [beq_eq_false_iff_ne]; omega
  have b2 : decide (y ≤ 0) = false := by simp; omega
  have b3 : 0 ≤ lo / y ∧ lo / y ≤ 18446744073709551615 := ⟨Int.ediv_nonneg hl0 (by omega), Int.le_trans (Int.ediv_le_self y hl0) hl1⟩
  have b4 : IntKind.u64.wrap (lo.tdiv y) = lo / y := by rw [Int.tdiv_eq_ediv_of_nonneg hl0, IntKind.wrap_u64]; omega
  have b5 : lo.tmod y = lo % y := Int.tmod_eq_emod_of_nonneg hl0
  clear hl1 b3
  go_enter Try.func44, Try.ntmps44
  go_wp2_with fail
  go_quiet (fail)
  go_wp2_with fail
  go_ret2
  exact ⟨rfl, below_drewN (Below.refl _ _) _⟩
end Go.Proofs.Ytjpgahfabmgpiaa
