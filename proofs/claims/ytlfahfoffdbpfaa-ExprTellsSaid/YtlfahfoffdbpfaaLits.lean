/- The law's own small functions: lit, number, two, truth, rank. -/
import Derived.Test.YtlfahfoffdbpfaaDoIs
namespace Go.Proofs.Ytlfahfoffdbpfaa
open Go.ChangeShapes Go.WideShapes Go.ChangeAt Go.RowKit
set_option linter.unusedVariables false
set_option linter.unusedSimpArgs false

def litV (v : Val) : Value := .agg #[.int .u8 1, .int .u8 v.k, .int .i64 v.n, .string v.s, .string ByteArray.empty, .int .i64 0, .slice none 0 0]
set_option maxHeartbeats 1000000 in
theorem lit_any (v : Val) (w : World) : Calls Try.prog 15 #[.agg #[.int .u8 v.k, .int .i64 v.n, .string v.s]] w fun e w' => e = .returned (litV v) ∧ Below w.heap.size w w' := by
  unfold litV
  go_enter Try.func15, Try.ntmps15
  go_wp2
  exact bodyPost_ret (v := .agg #[.int .u8 1, .int .u8 v.k, .int .i64 v.n, .string v.s, .string ByteArray.empty, .int .i64 0, .slice none 0 0]) (by simp [results, Try.results15, go_sem]; try rfl) rfl ⟨rfl, by go_grown⟩
set_option maxHeartbeats 1000000 in
theorem lnumber_any (n : Int) (w : World) : Calls Try.prog 31 #[.int .i64 n] w fun e w' => e = .returned (litV (num n)) ∧ Below w.heap.size w w' := by
  unfold litV num
  go_enter Try.func31, Try.ntmps31
  go_wp2
  exact bodyPost_ret (v := .agg #[.int .u8 1, .int .u8 2, .int .i64 n, .string ByteArray.empty, .string ByteArray.empty, .int .i64 0, .slice none 0 0]) (by simp [results, Try.results31, go_sem]; try rfl) rfl ⟨rfl, by go_grown⟩
/-- a Bool, or Null -/
def truthV (k : Int) : Val := if k % 3 = 2 then zeroVal else ⟨1, k % 3, ByteArray.empty⟩
set_option maxHeartbeats 1000000 in
theorem ltruth_any (k : Int) (h0 : 0 ≤ k) (h1 : k ≤ 255) (w : World) : Calls Try.prog 9 #[.int .u8 k] w fun e w' => e = .returned (valV (truthV k)) ∧ Below w.heap.size w w' := by
  unfold valV truthV
  have hm : Int.tmod k 3 = k % 3 := Int.tmod_eq_emod_of_nonneg h0
  have hr : 0 ≤ k % 3 ∧ k % 3 < 3 := by omega
  by_cases h : k % 3 = 2
  · have t1 : (k % 3 == 2) = true := by simpa using h
    rw [if_pos h]
    clear h
    go_enter Try.func9, Try.ntmps9
    go_wp2_with fail
    exact bodyPost_ret (v := .agg #[.int .u8 0, .int .i64 0, .string ByteArray.empty]) (by simp [results, Try.results9, go_sem]; try rfl) rfl ⟨rfl, by go_grown⟩
  · have t1 : (k % 3 == 2) = false := by simpa using h
    rw [if_neg h]
    clear h
    go_enter Try.func9, Try.ntmps9
    go_wp2_with fail
    exact bodyPost_ret (v := .agg #[.int .u8 1, .int .i64 (k % 3), .string ByteArray.empty]) (by simp [results, Try.results9, go_sem]; try rfl) rfl ⟨rfl, by go_grown⟩
def rankV (v : Val) : Int := if v.k = 0 then 1 else 2 * v.n
set_option maxHeartbeats 1000000 in
theorem rank_any (v : Val) (h0 : 0 ≤ v.n) (h1 : v.n ≤ 1) (w : World) : Calls Try.prog 11 #[.agg #[.int .u8 v.k, .int .i64 v.n, .string v.s]] w fun e w' => e = .returned (.int .i64 (rankV v)) ∧ Below w.heap.size w w' := by
  unfold rankV
  by_cases h : v.k = 0
  · have t1 : (v.k == 0) = true := by simpa using h
    rw [if_pos h]
    clear h
    go_enter Try.func11, Try.ntmps11
    go_wp2_with fail
    go_ret
    exact ⟨rfl, by go_grown⟩
  · have t1 : (v.k == 0) = false := by simpa using h
    rw [if_neg h]
    clear h
    go_enter Try.func11, Try.ntmps11
    go_wp2_with fail
    go_ret
    exact ⟨rfl, by go_grown⟩
/-- which way a sum goes beyond 64 bits -/
def floatV (a b : Int) : Int := if 0 < a ∧ 0 < b ∧ wrap64 (a + b) < 0 then 1 else if a < 0 ∧ b < 0 ∧ 0 ≤ wrap64 (a + b) then -1 else 0
def TwoPost (op : Int) (y z : Ex) (w : World) (e : Ending) (w' : World) : Prop := ∃ g, e = .returned (.agg #[.int .u8 op, .int .u8 0, .int .i64 0, .string ByteArray.empty, .string ByteArray.empty, .int .i64 0, .slice (some ⟨g, 0, none⟩) 2 2]) ∧
  Blk w' g 36 #[.int .u8 y.op, .int .u8 y.v.k, .int .i64 y.v.n, .string y.v.s, .string y.name, .int .i64 y.width, .slice y.A y.n y.c, .int .u8 z.op, .int .u8 z.v.k, .int .i64 z.v.n, .string z.v.s, .string z.name, .int .i64 z.width, .slice z.A z.n z.c] ∧ Below w.heap.size w w'
set_option maxHeartbeats 1000000 in
set_option maxRecDepth 100000 in
theorem two_any (op : Int) (y z : Ex) (w : World) : Calls Try.prog 30 #[.int .u8 op, .agg #[.int .u8 y.op, .int .u8 y.v.k, .int .i64 y.v.n, .string y.v.s, .string y.name, .int .i64 y.width, .slice y.A y.n y.c], .agg #[.int .u8 z.op, .int .u8 z.v.k, .int .i64 z.v.n, .string z.v.s, .string z.name, .int .i64 z.width, .slice z.A z.n z.c]] w (TwoPost op y z w) := by
  go_enter Try.func30, Try.ntmps30
  go_wp2_with fail
  refine bodyPost_ret (v := .agg #[.int .u8 op, .int .u8 0, .int .i64 0, .string ByteArray.empty, .string ByteArray.empty, .int .i64 0, .slice (some ⟨w.heap.size + 1 + 1 + 1, 0, none⟩) 2 2]) ?_ rfl ?_
  · simp [results, Try.results30, go_sem]
    try rfl
  · refine ⟨_, rfl, ?_, by go_grown⟩
    have h := fun (u : World) (cs : Array Value) (hs : u.heap.size = w.heap.size + 1 + 1 + 1) => hs ▸ Blk.new u 36 cs
    exact h _ _ (by simp [World.size_alloc])
end Go.Proofs.Ytlfahfoffdbpfaa
