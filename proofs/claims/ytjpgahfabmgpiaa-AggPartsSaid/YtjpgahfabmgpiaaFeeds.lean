/- (*agg.State).Feed. -/
import Derived.Test.YtjpgahfabmgpiaaNew
namespace Go.Proofs.Ytjpgahfabmgpiaa
open Go.ChangeShapes Go.WideShapes Go.ChangeAt Go.RowKit
set_option linter.unusedVariables false

/-- what the aggregate does with a pair -/
def St.does (s : St) (a b : Val) : St :=
  if s.op = 21 then s else if s.op = 22 then s.some_ a else if s.op = 23 ∨ s.op = 26 then s.put a else if s.op = 24 ∨ s.op = 25 then s.alone a else s.timed a b
def St.feed (s : St) (a b : Val) : St := St.does { s with all := s.all + 1 } a b

/-- a state whose numbers are not great -/
structure St.Ok (s : St) : Prop where
  op0 : 21 ≤ s.op
  op1 : s.op ≤ 28
  all0 : 0 ≤ s.all
  all1 : s.all < 4611686018427387905
  count0 : 0 ≤ s.count
  count1 : s.count < 4611686018427387904
  sum0 : 0 ≤ s.sum
  sum1 : s.sum < M * M
def Val.Ok (a : Val) : Prop := -9223372036854775808 ≤ a.n ∧ a.n ≤ 9223372036854775807

theorem does_any (p : Nat) (s : St) (a b : Val) (w : World) (h : StAt w p s) (ok : s.Ok) (ha : a.Ok) :
    Calls Try.prog (feedN s.op) #[.pointer (some ⟨p, 0, none⟩), .agg #[.int .u8 a.k, .int .i64 a.n, .string a.s], .agg #[.int .u8 b.k, .int .i64 b.n, .string b.s]] w fun e w' =>
      e = .returned (.tuple #[]) ∧ StAt w' p (s.does a b) ∧ w.grownBy w' (some p) := by
  unfold feedN St.does
  by_cases h1 : s.op = 21
  · rw [if_pos h1, if_pos h1]; exact nothing_any p s a b w h
  · rw [if_neg h1, if_neg h1]
    by_cases h2 : s.op = 22
    · rw [if_pos h2, if_pos h2]; exact some_any p s a b w h ok.count0 ok.count1
    · rw [if_neg h2, if_neg h2]
      by_cases h3 : s.op = 23 ∨ s.op = 26
      · rw [if_pos h3, if_pos h3]; exact put_any p s a b w h ok.count0 ok.count1 ok.sum0 ok.sum1 ha.1 ha.2
      · rw [if_neg h3, if_neg h3]
        by_cases h4 : s.op = 24 ∨ s.op = 25
        · rw [if_pos h4, if_pos h4]; exact alone_any p s a b w h
        · rw [if_neg h4, if_neg h4]; exact timed_any p s a b w h

theorem enter_nothing (args : Array Value) (w : World) : (callFunc 26 args).run Try.prog w = .ok (.enter 26 args) w := by kernel_rfl
theorem enter_some (args : Array Value) (w : World) : (callFunc 28 args).run Try.prog w = .ok (.enter 28 args) w := by kernel_rfl
theorem enter_put (args : Array Value) (w : World) : (callFunc 30 args).run Try.prog w = .ok (.enter 30 args) w := by kernel_rfl
theorem enter_alone (args : Array Value) (w : World) : (callFunc 33 args).run Try.prog w = .ok (.enter 33 args) w := by kernel_rfl
theorem enter_timed (args : Array Value) (w : World) : (callFunc 35 args).run Try.prog w = .ok (.enter 35 args) w := by kernel_rfl
theorem enter_feed (op : Int) (args : Array Value) (w : World) : (callFunc (feedN op) args).run Try.prog w = .ok (.enter (feedN op) args) w := by
  unfold feedN
  split
  · exact enter_nothing args w
  · split
    · exact enter_some args w
    · split
      · exact enter_put args w
      · split
        · exact enter_alone args w
        · exact enter_timed args w

/-- what the operations of the last statement leave -/
def feedV (p : Nat) (op : Int) (a b : Val) : Nat → World → Value → Prop
  | 0 => fun w v => ∃ g, v = .map (some g) ∧ w.heap[g]? = some (.map tabD 8)
  | 1 => fun _ v => v = .pointer (some ⟨p, 0, none⟩)
  | 2 => fun _ v => v = .pointer (some ⟨p, 0, none⟩)
  | 3 => fun _ v => v = .pointer (some ⟨p, 0, none⟩)
  | 4 => fun _ v => v = .int .u8 op
  | 5 => fun _ v => v = doing op
  | 6 => fun _ v => v = fn (feedN op)
  | 7 => fun _ v => v = .pointer (some ⟨p, 0, none⟩)
  | 8 => fun _ v => v = .agg #[.int .u8 a.k, .int .i64 a.n, .string a.s]
  | 9 => fun _ v => v = .agg #[.int .u8 b.k, .int .i64 b.n, .string b.s]
  | _ => fun _ _ => True

theorem feedV_stays (p : Nat) (op : Int) (a b : Val) (i : Nat) (w w' : World) (v : Value) (h : feedV p op a b i w v) (hl : Later w w') : feedV p op a b i w' v := by
  unfold feedV at *
  split at h <;> try exact h
  obtain ⟨g, h1, h2⟩ := h
  refine ⟨g, h1, ?_⟩
  rw [hl.block g ?_]
  · exact h2
  · rcases Nat.lt_or_ge g w.heap.size with h' | h'
    · exact h'
    · rw [Array.getElem?_eq_none h'] at h2; cases h2

set_option maxHeartbeats 2000000 in
set_option maxRecDepth 100000 in
theorem feed_any (p : Nat) (s : St) (a b : Val) (w : World) (h : StAt w p s) (ok : s.Ok) (hall : s.all < 4611686018427387904) (ha : a.Ok) :
    Calls Try.prog 14 #[.pointer (some ⟨p, 0, none⟩), .agg #[.int .u8 a.k, .int .i64 a.n, .string a.s], .agg #[.int .u8 b.k, .int .i64 b.n, .string b.s]] w fun e w' =>
      e = .returned (.tuple #[]) ∧ StAt w' p (s.feed a b) ∧ w.grownBy w' (some p) := by
  have hS := boxed_st h a b
  have hA := boxed_a w a b
  have hB := boxed_b w a b
  have hg := boxed_grown w a b p
  have cS := (StAt.cells_ hS).2.1
  have fr := StAt.free hS 1
  have q0 := ok.all0
  have q1 := hall
  have hp := Blk.lt h
  have hS2 := set_all hS (s.all + 1)
  have hA2 := Blk.far hA (p := ⟨p, 1, none⟩) (fun e => by simp at e; omega) (.int .i64 (s.all + 1))
  have hB2 := Blk.far hB (p := ⟨p, 1, none⟩) (fun e => by simp at e; omega) (.int .i64 (s.all + 1))
  have hg2 := grown_set hg 1 (.int .i64 (s.all + 1))
  unfold boxed at *
  have HS := Lib.hid hS2
  have HA := Lib.hid hA2
  have HB := Lib.hid hB2
  have HG := Lib.hid hg2
  clear hS hA hB hg h hS2 hA2 hB2 hg2 hp
  go_enter Try.func14, Try.ntmps14
  go_wp2_with fail
  have hS := HS.out
  have hA := HA.out
  have hB := HB.out
  have hg := HG.out
  clear HS HA HB HG cS fr
  generalize (World.setCell _ ⟨p, 1, none⟩ (.int .i64 (s.all + 1))) = W at *
  refine region_by 10 (feedV p s.op a b) (feedV_stays p s.op a b) (by kernel_rfl) (by kernel_rfl) (by kernel_rfl) ?_ ?_
  · simp only [List.take_succ_cons, List.take_zero]
    refine ⟨?_, ?_, ?_, ?_, ?_, ?_, ?_, ?_, ?_, ?_, trivial⟩
    · intro ρ w1 hc hL hr
      have e1 := hc.func 19
      refine opW_call (f := 19) (args := #[]) (w' := w1) (by simp [go_sem, e1]) ?_
      refine (doings_any w1).mono ?_
      rintro e w2 ⟨rfl, rfl⟩
      exact ⟨_, rfl, (Below.refl _ _).alloc (Nat.le_refl _) _, _, rfl, heap_alloc_new w1 _⟩
    · intro ρ w1 hc hL hr
      have h1 : ρ (.tmp 0) = .pointer (some ⟨p, 0, none⟩) := hr.1
      exact opW_move (.inl rfl) h1 ⟨Later.refl _, rfl⟩
    · intro ρ w1 hc hL hr
      have h1 : ρ (.tmp 16) = .pointer (some ⟨p, 0, none⟩) := hr.1
      exact opW_run (w' := w1) (by simp [go_sem, h1]) ⟨Later.refl _, rfl⟩
    · intro ρ w1 hc hL hr
      have h1 : ρ (.tmp 17) = .pointer (some ⟨p, 0, none⟩) := hr.1
      exact opW_run (w' := w1) (by simp [go_sem, h1]) ⟨Later.refl _, rfl⟩
    · intro ρ w1 hc hL hr
      have h1 : ρ (.tmp 18) = .pointer (some ⟨p, 0, none⟩) := hr.1
      have c0 := (StAt.cells_ (Blk.later hS hL)).1
      exact opW_run (w' := w1) (by simp [go_sem, h1, c0]) ⟨Later.refl _, rfl⟩
    · intro ρ w1 hc hL hr
      obtain ⟨g, h1, hgm⟩ : ∃ g, ρ (.tmp 15) = .map (some g) ∧ w1.heap[g]? = some (.map tabD 8) := hr.1
      have h2 : ρ (.tmp 19) = .int .u8 s.op := hr.2.1
      obtain ⟨i, hi⟩ := find_in s.op ok.op0 ok.op1
      have hl := look_at _ _ _ _ hgm s.op false i _ hi
      exact opW_run (w' := w1) (by simp [execOp, h1, h2, hl]) ⟨Later.refl _, rfl⟩
    · intro ρ w1 hc hL hr
      have h1 : ρ (.tmp 20) = doing s.op := hr.1
      have hf := field0 (fn (feedN s.op)) (fn (ansN s.op)) (.int .i64 (argN s.op)) w1
      exact opW_run (w' := w1) (by simp [execOp, h1, doing, hf]) ⟨Later.refl _, rfl⟩
    · intro ρ w1 hc hL hr
      have h1 : ρ (.tmp 0) = .pointer (some ⟨p, 0, none⟩) := hr.1
      exact opW_move (.inl rfl) h1 ⟨Later.refl _, rfl⟩
    · intro ρ w1 hc hL hr
      have h1 : ρ (.tmp 4) = .pointer (some ⟨w.heap.size, 0, none⟩) := hr.1
      have c0 := val_cells (hA.later hL)
      exact opW_run (w' := w1) (by simp [go_sem, h1, c0]) ⟨Later.refl _, rfl⟩
    · intro ρ w1 hc hL hr
      have h1 : ρ (.tmp 5) = .pointer (some ⟨w.heap.size + 1, 0, none⟩) := hr.1
      have c0 := val_cells (hB.later hL)
      exact opW_run (w' := w1) (by simp [go_sem, h1, c0]) ⟨Later.refl _, rfl⟩
  · intro w1 hL
    simp only [List.take_succ_cons, List.take_zero, List.drop_succ_cons, List.drop_zero]
    rintro _ ⟨g, rfl, hgm⟩ _ rfl _ rfl _ rfl _ rfl _ rfl _ rfl _ rfl _ rfl _ rfl
    have hS2 : StAt w1 p { s with all := s.all + 1 } := Blk.later hS hL
    have hg2 := grown_trans hg (grown_below (p := p) hL)
    have ok2 : St.Ok { s with all := s.all + 1 } := ⟨ok.op0, ok.op1, by show 0 ≤ s.all + 1; omega, by show s.all + 1 < 4611686018427387905; omega, ok.count0, ok.count1, ok.sum0, ok.sum1⟩
    have hen := enter_feed s.op
    simp only [FinOf, Act.put, List.setIfInBounds_toArray, List.set_cons_succ, List.set_cons_zero, fn]
    go_wp2_with fail
    refine (does_any p { s with all := s.all + 1 } a b _ hS2 ok2 ha).mono ?_
    rintro e w2 ⟨rfl, hs3, hg3⟩
    go_wp2_with fail
    go_end0
    exact ⟨rfl, hs3, grown_trans hg2 hg3⟩
end Go.Proofs.Ytjpgahfabmgpiaa
