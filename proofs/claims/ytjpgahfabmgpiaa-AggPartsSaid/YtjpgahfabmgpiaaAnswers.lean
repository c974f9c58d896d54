/- (*agg.State).Answer, and of nil. -/
import Derived.Test.YtjpgahfabmgpiaaAnswer
namespace Go.Proofs.Ytjpgahfabmgpiaa
open Go.ChangeShapes Go.WideShapes Go.ChangeAt Go.RowKit
set_option linter.unusedVariables false

/-- what the mean is -/
def MeanIs (s : St) (v : Val) : Prop := (s.count = 0 ∧ v = zeroVal) ∨ (s.count ≠ 0 ∧ ∃ q, OverIs s.sum s.count q ∧ v = num q)
theorem mean_is (s : St) (ok : s.Ok) (hc : s.count < 512) : ∃ v, MeanIs s v := by
  by_cases h : s.count = 0
  · exact ⟨_, .inl ⟨h, rfl⟩⟩
  · obtain ⟨q, hq⟩ := over_det s.sum s.count ok.sum0 ok.sum1 (by have := ok.count0; omega) hc
    exact ⟨_, .inr ⟨h, q, hq, rfl⟩⟩

set_option maxHeartbeats 2000000 in
set_option maxRecDepth 100000 in
theorem mean_any (p : Nat) (s : St) (v : Val) (w : World) (h : StAt w p s) (ok : s.Ok) (hv : MeanIs s v) : Calls Try.prog 32 #[.pointer (some ⟨p, 0, none⟩)] w fun e w' => e = .returned (ansV v 0) ∧ Below w.heap.size w w' := by
  have cS := StAt.cells_ h
  have hp := Blk.lt h
  have q0 := ok.count0
  have q1 := ok.count1
  rcases hv with ⟨hz, rfl⟩ | ⟨hz, q, hq, rfl⟩
  · have t1 : (s.count == 0) = true := by simp [hz]
    clear hz
    unfold ansV zeroVal
    go_enter Try.func32, Try.ntmps32
    go_wp2_with fail
    exact bodyPost_ret (v := .tuple #[.agg #[.int .u8 0, .int .i64 0, .string ByteArray.empty], .int .i64 0]) (by simp [results, Try.results32, go_sem]; try rfl) rfl ⟨rfl, by go_grown⟩
  · have t1 : (s.count == 0) = false := by simp [hz]
    have HQ := Lib.hid hq
    clear hz hq
    unfold ansV num
    have hu : IntKind.u64.wrap s.count = s.count := by rw [IntKind.wrap_u64]; omega
    go_enter Try.func32, Try.ntmps32
    go_wp2_with fail
    have hS := Blk.alloc h (.cells #[.int .u8 0, .int .i64 0, .string { data := #[] }] 26)
    have hR := Blk.new w 26 #[.int .u8 0, .int .i64 0, .string { data := #[] }]
    have hB : Below w.heap.size w (w.alloc (.cells #[.int .u8 0, .int .i64 0, .string { data := #[] }] 26)) := (Below.refl _ _).alloc (Nat.le_refl _) _
    clear cS hp h
    generalize w.alloc (.cells #[.int .u8 0, .int .i64 0, .string { data := #[] }] 26) = W at *
    have cS := fun x : Ext W.heap.size W => StAt.cells_ (Blk.later hS x.h)
    refine region_cut 11 W.heap.size W (Below.refl _ _) (by kernel_rfl) (by kernel_rfl) (by kernel_rfl) (by kernel_rfl) ?_
    simp only [List.take_succ_cons, List.take_zero, List.drop_succ_cons, List.drop_zero]
    repeat (go_big_quiet_step (first
      | (go_at_call 43; exact calls_later (Nat.le_refl _) (HQ.out _))
      | (go_at_call 40; exact calls_later (Nat.le_refl _) (number_any _ _))))
    refine wpQuiet_nil ?_
    rintro W2 ⟨x, hx⟩
    have hW := x.h
    rw [← hx] at hW
    clear cS hx x
    have hR2 := hR.later hW
    have hR1 := val_cells hR2
    have hR3 := Blk.frozen hR2
    have hB2 : Below w.heap.size w W2 := hB.trans (hW.mono hB.size)
    clear hR2 hR hW hS
    go_wp2_with fail
    exact bodyPost_ret (v := .tuple #[.agg #[.int .u8 2, .int .i64 q, .string ByteArray.empty], .int .i64 0]) (by simp [results, Try.results32, go_sem, hR1]) rfl ⟨rfl, ((hB2.setCell (Nat.le_refl _) _).setCell (Nat.le_refl _) _).setCell (Nat.le_refl _) _⟩

/-- what a state answers -/
def AnsIs (s : St) (v : Val) (err : Int) : Prop :=
  if s.op = 21 then v = num s.all ∧ err = 0 else if s.op = 22 then v = num s.count ∧ err = 0 else if s.op = 23 then v = s.total.1 ∧ err = s.total.2 else if s.op = 26 then MeanIs s v ∧ err = 0 else v = s.a ∧ err = 0
theorem ans_is (s : St) (ok : s.Ok) (hc : s.count < 512) : ∃ v err, AnsIs s v err := by
  unfold AnsIs
  split
  · exact ⟨_, _, rfl, rfl⟩
  · split
    · exact ⟨_, _, rfl, rfl⟩
    · split
      · exact ⟨_, _, rfl, rfl⟩
      · split
        · obtain ⟨v, hv⟩ := mean_is s ok hc
          exact ⟨v, _, hv, rfl⟩
        · exact ⟨_, _, rfl, rfl⟩

theorem ans_do (p : Nat) (s : St) (v : Val) (err : Int) (w : World) (h : StAt w p s) (ok : s.Ok) (hv : AnsIs s v err) : Calls Try.prog (ansN s.op) #[.pointer (some ⟨p, 0, none⟩)] w fun e w' => e = .returned (ansV v err) ∧ Below w.heap.size w w' := by
  unfold AnsIs at hv
  unfold ansN
  by_cases h1 : s.op = 21
  · rw [if_pos h1] at *; obtain ⟨rfl, rfl⟩ := hv; exact pairs_any p s w h
  · rw [if_neg h1] at *
    by_cases h2 : s.op = 22
    · rw [if_pos h2] at *; obtain ⟨rfl, rfl⟩ := hv; exact many_any p s w h
    · rw [if_neg h2] at *
      by_cases h3 : s.op = 23
      · rw [if_pos h3] at *; obtain ⟨rfl, rfl⟩ := hv; exact total_any p s w h
      · rw [if_neg h3] at *
        by_cases h4 : s.op = 26
        · rw [if_pos h4] at *; obtain ⟨hm, rfl⟩ := hv; exact mean_any p s v w h ok hm
        · rw [if_neg h4] at *; obtain ⟨rfl, rfl⟩ := hv; exact best_any p s w h

theorem enter_pairs (args : Array Value) (w : World) : (callFunc 27 args).run Try.prog w = .ok (.enter 27 args) w := by kernel_rfl
theorem enter_many (args : Array Value) (w : World) : (callFunc 29 args).run Try.prog w = .ok (.enter 29 args) w := by kernel_rfl
theorem enter_total (args : Array Value) (w : World) : (callFunc 31 args).run Try.prog w = .ok (.enter 31 args) w := by kernel_rfl
theorem enter_mean (args : Array Value) (w : World) : (callFunc 32 args).run Try.prog w = .ok (.enter 32 args) w := by kernel_rfl
theorem enter_best (args : Array Value) (w : World) : (callFunc 34 args).run Try.prog w = .ok (.enter 34 args) w := by kernel_rfl
theorem enter_ans (op : Int) (args : Array Value) (w : World) : (callFunc (ansN op) args).run Try.prog w = .ok (.enter (ansN op) args) w := by
  unfold ansN
  split
  · exact enter_pairs args w
  · split
    · exact enter_many args w
    · split
      · exact enter_total args w
      · split
        · exact enter_mean args w
        · exact enter_best args w

def ansVs (p : Nat) (op : Int) (v0 : Val) (err : Int) : Nat → World → Value → Prop
  | 0 => fun w v => ∃ g, v = .map (some g) ∧ w.heap[g]? = some (.map tabD 8)
  | 1 => fun _ v => v = .pointer (some ⟨p, 0, none⟩)
  | 2 => fun _ v => v = .pointer (some ⟨p, 0, none⟩)
  | 3 => fun _ v => v = .pointer (some ⟨p, 0, none⟩)
  | 4 => fun _ v => v = .int .u8 op
  | 5 => fun _ v => v = doing op
  | 6 => fun _ v => v = fn (ansN op)
  | 7 => fun _ v => v = .pointer (some ⟨p, 0, none⟩)
  | 8 => fun _ v => v = ansV v0 err
  | 9 => fun _ v => v = .agg #[.int .u8 v0.k, .int .i64 v0.n, .string v0.s]
  | 10 => fun _ v => v = .int .i64 err
  | _ => fun _ _ => True
theorem ansVs_stays (p : Nat) (op : Int) (v0 : Val) (err : Int) (i : Nat) (w w' : World) (v : Value) (h : ansVs p op v0 err i w v) (hl : Later w w') : ansVs p op v0 err i w' v := by
  unfold ansVs at *
  split at h <;> try exact h
  obtain ⟨g, h1, h2⟩ := h
  refine ⟨g, h1, ?_⟩
  rw [hl.block g ?_]
  · exact h2
  · rcases Nat.lt_or_ge g w.heap.size with h' | h'
    · exact h'
    · rw [Array.getElem?_eq_none h'] at h2; cases h2

set_option maxHeartbeats 2000000 in
set_option maxRecDepth 100000 in
theorem answer_any (p : Nat) (s : St) (v : Val) (err : Int) (w : World) (h : StAt w p s) (ok : s.Ok) (hv : AnsIs s v err) :
    Calls Try.prog 10 #[.pointer (some ⟨p, 0, none⟩)] w fun e w' => e = .returned (ansV v err) ∧ Below w.heap.size w w' := by
  have HV := Lib.hid hv
  have HK := Lib.hid ok
  clear hv ok
  go_enter Try.func10, Try.ntmps10
  go_wp2_with fail
  have hS := Blk.alloc h (.cells #[.int .u8 0, .int .i64 0, .string { data := #[] }] 26)
  have hR := Blk.new w 26 #[.int .u8 0, .int .i64 0, .string { data := #[] }]
  have hB : Below w.heap.size w (w.alloc (.cells #[.int .u8 0, .int .i64 0, .string { data := #[] }] 26)) := (Below.refl _ _).alloc (Nat.le_refl _) _
  clear h
  generalize w.alloc (.cells #[.int .u8 0, .int .i64 0, .string { data := #[] }] 26) = W at *
  refine region_by 11 (ansVs p s.op v err) (ansVs_stays p s.op v err) (by kernel_rfl) (by kernel_rfl) (by kernel_rfl) ?_ ?_
  · simp only [List.take_succ_cons, List.take_zero]
    refine ⟨?_, ?_, ?_, ?_, ?_, ?_, ?_, ?_, ?_, ?_, ?_, trivial⟩
    · intro ρ w1 hc hL hr
      have e1 := hc.func 19
      refine opW_call (f := 19) (args := #[]) (w' := w1) (by simp [go_sem, e1]) ?_
      refine (doings_any w1).mono ?_
      rintro e w2 ⟨rfl, rfl⟩
      exact ⟨_, rfl, (Below.refl _ _).alloc (Nat.le_refl _) _, _, rfl, heap_alloc_new w1 _⟩
    · intro ρ w1 hc hL hr
      have h1 : ρ (.tmp 0) = .pointer (some ⟨p, 0, none⟩) := hr.1
      exact opW_move (.inl rfl) h1 ⟨Later.refl _, rfl⟩
    · intro ρ w1 hc hL hr
      have h1 : ρ (.tmp 8) = .pointer (some ⟨p, 0, none⟩) := hr.1
      exact opW_run (w' := w1) (by simp [go_sem, h1]) ⟨Later.refl _, rfl⟩
    · intro ρ w1 hc hL hr
      have h1 : ρ (.tmp 9) = .pointer (some ⟨p, 0, none⟩) := hr.1
      exact opW_run (w' := w1) (by simp [go_sem, h1]) ⟨Later.refl _, rfl⟩
    · intro ρ w1 hc hL hr
      have h1 : ρ (.tmp 10) = .pointer (some ⟨p, 0, none⟩) := hr.1
      have c0 := (StAt.cells_ (Blk.later hS hL)).1
      exact opW_run (w' := w1) (by simp [go_sem, h1, c0]) ⟨Later.refl _, rfl⟩
    · intro ρ w1 hc hL hr
      obtain ⟨g, h1, hgm⟩ : ∃ g, ρ (.tmp 7) = .map (some g) ∧ w1.heap[g]? = some (.map tabD 8) := hr.1
      have h2 : ρ (.tmp 11) = .int .u8 s.op := hr.2.1
      obtain ⟨i, hi⟩ := find_in s.op HK.out.op0 HK.out.op1
      have hl := look_at _ _ _ _ hgm s.op false i _ hi
      exact opW_run (w' := w1) (by simp [execOp, h1, h2, hl]) ⟨Later.refl _, rfl⟩
    · intro ρ w1 hc hL hr
      have h1 : ρ (.tmp 12) = doing s.op := hr.1
      have hf := field1 (fn (feedN s.op)) (fn (ansN s.op)) (.int .i64 (argN s.op)) w1
      exact opW_run (w' := w1) (by simp [execOp, h1, doing, hf]) ⟨Later.refl _, rfl⟩
    · intro ρ w1 hc hL hr
      have h1 : ρ (.tmp 0) = .pointer (some ⟨p, 0, none⟩) := hr.1
      exact opW_move (.inl rfl) h1 ⟨Later.refl _, rfl⟩
    · intro ρ w1 hc hL hr
      have h1 : ρ (.tmp 13) = .func (.func (ansN s.op)) #[] #[] := hr.1
      have h2 : ρ (.tmp 14) = .pointer (some ⟨p, 0, none⟩) := hr.2.1
      refine opW_call (f := ansN s.op) (args := #[.pointer (some ⟨p, 0, none⟩)]) (w' := w1) (by simp [go_sem, h1, h2, enter_ans]) ?_
      refine (ans_do p s v err w1 (Blk.later hS hL) HK.out HV.out).mono ?_
      rintro e w2 ⟨rfl, b2⟩
      exact ⟨_, rfl, b2, rfl⟩
    · intro ρ w1 hc hL hr
      have h1 : ρ (.tmp 15) = .tuple #[.agg #[.int .u8 v.k, .int .i64 v.n, .string v.s], .int .i64 err] := hr.1
      exact opW_run (w' := w1) (by simp [go_sem, h1]) ⟨Later.refl _, rfl⟩
    · intro ρ w1 hc hL hr
      have h1 : ρ (.tmp 15) = .tuple #[.agg #[.int .u8 v.k, .int .i64 v.n, .string v.s], .int .i64 err] := hr.1
      exact opW_run (w' := w1) (by simp [go_sem, h1]) ⟨Later.refl _, rfl⟩
  · intro w1 hL
    simp only [List.take_succ_cons, List.take_zero, List.drop_succ_cons, List.drop_zero]
    rintro _ ⟨g, rfl, hgm⟩ _ rfl _ rfl _ rfl _ rfl _ rfl _ rfl _ rfl _ rfl _ rfl _ rfl
    have hR2 := hR.later hL
    have hR1 := val_cells hR2
    have hR3 := Blk.frozen hR2
    have hB2 : Below w.heap.size w w1 := hB.trans (hL.mono hB.size)
    clear hR2 hR hL hS
    simp only [FinOf, Act.put, List.setIfInBounds_toArray, List.set_cons_succ, List.set_cons_zero, fn]
    go_wp2_with fail
    exact bodyPost_ret (v := .tuple #[.agg #[.int .u8 v.k, .int .i64 v.n, .string v.s], .int .i64 err]) (by simp [results, Try.results10, go_sem, hR1]) rfl ⟨rfl, ((hB2.setCell (Nat.le_refl _) _).setCell (Nat.le_refl _) _).setCell (Nat.le_refl _) _⟩

set_option maxHeartbeats 1000000 in
theorem answer_nil (w : World) : Calls Try.prog 10 #[.pointer none] w fun e w' => e = .returned (ansV zeroVal 8) ∧ Below w.heap.size w w' := by
  unfold ansV zeroVal
  go_enter Try.func10, Try.ntmps10
  go_wp2_with fail
  exact bodyPost_ret (v := .tuple #[.agg #[.int .u8 0, .int .i64 0, .string ByteArray.empty], .int .i64 8]) (by simp [results, Try.results10, go_sem]; try rfl) rfl ⟨rfl, by go_grown⟩

set_option maxHeartbeats 1000000 in
theorem feed_nil (a b : Val) (w : World) : Calls Try.prog 14 #[.pointer none, .agg #[.int .u8 a.k, .int .i64 a.n, .string a.s], .agg #[.int .u8 b.k, .int .i64 b.n, .string b.s]] w fun e w' =>
    e = .returned (.tuple #[]) ∧ Below w.heap.size w w' := by
  go_enter Try.func14, Try.ntmps14
  go_wp2_with fail
  go_end0
  exact ⟨rfl, by go_grown⟩
end Go.Proofs.Ytjpgahfabmgpiaa
