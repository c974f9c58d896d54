/- AggNil: the walk. -/
import Derived.Test.YtjpgahfabmgpiaaWakes
namespace Go.Proofs.Ytjpgahfabmgpiaa
open Go.ChangeShapes Go.WideShapes Go.ChangeAt Go.RowKit
set_option linter.unusedVariables false

/-- what New leaves, of any operation: a place or none, an error's number -/
def NewsPost (op : Int) (w : World) (e : Ending) (w' : World) : Prop :=
  (isAgg op = true ∧ ∃ p, w.heap.size ≤ p ∧ e = .returned (.tuple #[.pointer (some ⟨p, 0, none⟩), .int .i64 0]) ∧ StAt w' p (stNew op) ∧ Below w.heap.size w w') ∨
  (isAgg op = false ∧ e = .returned (.tuple #[.pointer none, .int .i64 1]) ∧ Below w.heap.size w w')
theorem news_any (op : Int) (w : World) : Calls Try.prog 15 #[.int .u8 op] w (NewsPost op w) := by
  by_cases h : isAgg op = true
  · exact (new_any op w h).mono fun e w' ⟨p, hp⟩ => .inl ⟨h, p, hp⟩
  · have h : isAgg op = false := by simpa using h
    exact (new_not op w h).mono fun e w' hp => .inr ⟨h, hp⟩

theorem add_nil_any (x : Option Addr) (hx : ∀ a, x = some a → ∃ p, a = ⟨p, 0, none⟩) (w : World) : Calls Try.prog 16 #[.pointer x, .pointer none] w fun e w' => e = .returned (.int .i64 8) ∧ w = w' := by
  cases x with
  | none => exact add_nil_left none w
  | some a => obtain ⟨p, rfl⟩ := hx a rfl; exact add_nil_right p w

set_option maxHeartbeats 1000000 in
set_option maxRecDepth 100000 in
theorem nil_any (op other : Int) (a : Val) (w : World) : Calls Try.prog 6 #[.int .u8 op, .int .u8 other, .agg #[.int .u8 a.k, .int .i64 a.n, .string a.s]] w fun e w' => e = .returned (.bool true) ∧ Below w.heap.size w w' := by
  go_enter Try.func6, Try.ntmps6
  go_wp2_with fail
  have b0 := later_new w (.cells #[.int .u8 a.k, .int .i64 a.n, .string a.s] 26)
  refine (feed_nil a a _).mono ?_
  rintro e w1 ⟨rfl, b1⟩
  have b1 := Later.then b0 b1
  clear b0
  go_wp2_with fail
  refine (answer_nil _).mono ?_
  rintro e w2 ⟨rfl, b2⟩
  have b2 := Later.then b1 b2
  clear b1
  unfold ansV zeroVal
  go_wp2_with fail
  have hV := Blk.new w2 26 #[.int .u8 0, .int .i64 0, .string ByteArray.empty]
  have b3 := Later.then b2 (later_new w2 (.cells #[.int .u8 0, .int .i64 0, .string ByteArray.empty] 26))
  generalize w2.alloc (.cells #[.int .u8 0, .int .i64 0, .string ByteArray.empty] 26) = W3 at *
  generalize w2.heap.size = g at *
  clear b2
  refine (news_any op _).mono ?_
  intro e w4 h4
  have HN : ∃ (x : Option Addr) (er : Int), e = .returned (.tuple #[.pointer x, .int .i64 er]) ∧ (∀ a, x = some a → ∃ p, a = ⟨p, 0, none⟩) ∧ ((er = 0 ∧ isAgg op = true ∧ ∃ p, w.heap.size ≤ p ∧ x = some ⟨p, 0, none⟩ ∧ StAt w4 p (stNew op)) ∨ er = 1) ∧ Below W3.heap.size W3 w4 := by
    rcases h4 with ⟨h, p, hp, rfl, hS, hb⟩ | ⟨h, rfl, hb⟩
    · exact ⟨_, _, rfl, fun a ha => ⟨p, by injection ha with h; exact h.symm⟩, .inl ⟨rfl, h, p, Nat.le_trans b3.size hp, rfl, hS⟩, hb⟩
    · exact ⟨_, _, rfl, by simp, .inr rfl, hb⟩
  clear h4
  obtain ⟨x, er, rfl, hx, h4, hb⟩ := HN
  have b4 := Later.then b3 hb
  have hV := hV.later hb
  clear hb b3
  go_wp2_with fail
  refine (news_any other _).mono ?_
  intro e w5 h5
  have HN : ∃ (y : Option Addr) (er : Int), e = .returned (.tuple #[.pointer y, .int .i64 er]) ∧ ((er = 0 ∧ isAgg other = true ∧ ∃ p, w4.heap.size ≤ p ∧ y = some ⟨p, 0, none⟩ ∧ StAt w5 p (stNew other)) ∨ er = 1) ∧ Below w4.heap.size w4 w5 := by
    rcases h5 with ⟨h, p, hp, rfl, hS, hb⟩ | ⟨h, rfl, hb⟩
    · exact ⟨_, _, rfl, .inl ⟨rfl, h, p, hp, rfl, hS⟩, hb⟩
    · exact ⟨_, _, rfl, .inr rfl, hb⟩
  clear h5
  obtain ⟨y, er2, rfl, h5, hb⟩ := HN
  have b5 := Later.then b4 hb
  have hV := val_cells (hV.later hb)
  have HX := Lib.hid hx
  have H4 := Lib.hid h4
  have H5 := Lib.hid h5
  clear hx h4 h5
  go_wp2_with fail
  refine (add_nil_left _ _).mono ?_
  rintro e w6 ⟨rfl, rfl⟩
  go_wp2_with fail
  refine (add_nil_any x HX.out _).mono ?_
  rintro e w6 ⟨rfl, rfl⟩
  go_wp2_with fail
  refine (clone_nil _).mono ?_
  rintro e w6 ⟨rfl, rfl⟩
  rcases H4.out with ⟨rfl, hop, p, hp, rfl, hS⟩ | rfl
  · rcases H5.out with ⟨rfl, hot, q, hq, rfl, hT⟩ | rfl
    · have hS := Blk.later hS hb
      have hpq : p ≠ q := by have := Blk.lt (show Blk w4 p _ _ from (by assumption)); omega
      clear H4 H5 HX
      by_cases ho : op = other
      · subst ho
        have hop2 : 21 ≤ op ∧ op ≤ 28 := by simpa [isAgg] using hop
        have hok := near_ok (near_new op) hop2.1 hop2.2 (by omega) (by omega)
        have HOK := Lib.hid hok
        clear hok hop hot
        go_wp2_with fail
        refine (add_any p q _ _ _ hS hT hpq rfl HOK.out HOK.out (by simp [stNew]) (by simp [stNew])).mono ?_
        rintro e w6 ⟨rfl, _, hg⟩
        have b6 := b5.trans (below_grown hg b5.size hp)
        clear hg
        go_wp2_with fail
        refine (wakes_any _).mono ?_
        rintro e w7 ⟨rfl, b7⟩
        go_wp2_with fail
        go_ret
        exact ⟨rfl, Later.then b6 b7⟩
      · have ho2 : (op == other) = false := by simpa using ho
        go_wp2_with fail
        refine (add_unlike p q _ _ _ hS hT ho).mono ?_
        rintro e w6 ⟨rfl, b6⟩
        go_wp2_with fail
        refine (wakes_any _).mono ?_
        rintro e w7 ⟨rfl, b7⟩
        go_wp2_with fail
        go_ret
        exact ⟨rfl, Later.then b5 (Later.then b6 b7)⟩
    · clear H4 H5 HX
      go_wp2_with fail
      refine (wakes_any _).mono ?_
      rintro e w7 ⟨rfl, b7⟩
      go_wp2_with fail
      go_ret
      exact ⟨rfl, Later.then b5 b7⟩
  · clear H4
    go_wp2_with fail
    refine (wakes_any _).mono ?_
    rintro e w7 ⟨rfl, b7⟩
    go_wp2_with fail
    go_ret
    exact ⟨rfl, Later.then b5 b7⟩
end Go.Proofs.Ytjpgahfabmgpiaa
