/- wakes: aggregates that are known. -/
import Derived.Test.YtjpgahfabmgpiaaGreat
namespace Go.Proofs.Ytjpgahfabmgpiaa
open Go.ChangeShapes Go.WideShapes Go.ChangeAt Go.RowKit
set_option linter.unusedVariables false

def wl1 : List (Val × Val) := [(num 3, num 2), (zeroVal, num 1), (num 4, zeroVal)]
def wl2 : List (Val × Val) := [(num (-3), zeroVal), (num (-4), zeroVal)]

theorem w_sum : AnsIs (fedSt 23 wl1) (num 7) 0 := by
  have h1 : (fedSt 23 wl1).op = 23 := by kernel_rfl
  have h2 : (fedSt 23 wl1).total = (num 7, 0) := by
    have a : (fedSt 23 wl1).count = 2 := by kernel_rfl
    have b : (fedSt 23 wl1).sum = 7 := by kernel_rfl
    unfold St.total
    rw [a, b]
    rfl
  unfold AnsIs
  rw [h1, h2]
  simp
theorem w_avg : AnsIs (fedSt 26 wl2) (num (-4)) 0 := by
  have h1 : (fedSt 26 wl2).op = 26 := by kernel_rfl
  have a : (fedSt 26 wl2).count = 2 := by kernel_rfl
  have b : (fedSt 26 wl2).sum = M * M - 7 := by kernel_rfl
  unfold AnsIs MeanIs
  rw [h1, a, b]
  simp
  refine ⟨-4, ?_, rfl⟩
  have := over_small (-7) 2 (by omega) (by omega) (by omega) (by omega)
  have e : widen (-7) = M * M - 7 := by unfold widen M; omega
  rw [e] at this
  exact this
theorem w_last : AnsIs (fedSt 28 wl1) (num 3) 0 := by
  have h1 : (fedSt 28 wl1).op = 28 := by kernel_rfl
  have h2 : (fedSt 28 wl1).a = num 3 := by kernel_rfl
  unfold AnsIs
  rw [h1, h2]
  simp

theorem pairAt_of {w : World} {b : Nat} {t : TypeId} {cs : Array Value} (h : Blk w b t cs) (off : Nat) (x : Val × Val)
    (e0 : cs[off]? = some (.int .u8 x.1.k)) (e1 : cs[off + 1]? = some (.int .i64 x.1.n)) (e2 : cs[off + 2]? = some (.string x.1.s))
    (e3 : cs[off + 3]? = some (.int .u8 x.2.k)) (e4 : cs[off + 4]? = some (.int .i64 x.2.n)) (e5 : cs[off + 5]? = some (.string x.2.s)) : PairAt w b off x :=
  ⟨(h.cell _).trans e0, (h.cell _).trans e1, (h.cell _).trans e2, (h.cell _).trans e3, (h.cell _).trans e4, (h.cell _).trans e5⟩

theorem Below.then {B : Nat} {a b c : World} (h : Below B a b) (hB : B ≤ a.heap.size) (k : Below b.heap.size b c) : Below B a c := h.trans (k.mono (Nat.le_trans hB h.size))
theorem Later.then {a b c : World} (h : Below a.heap.size a b) (k : Below b.heap.size b c) : Below a.heap.size a c := h.trans (k.mono h.size)
theorem later_new (w : World) (o : Obj) : Below w.heap.size w (w.alloc o) := (Below.refl _ _).alloc (Nat.le_refl _) o

theorem lnumber_in (B : Nat) (w W : World) (hb : Below B w W) (hB : B ≤ w.heap.size) (n : Int) : Calls Try.prog 8 #[.int .i64 n] W fun e w' => e = .returned (.agg #[.int .u8 2, .int .i64 n, .string ByteArray.empty]) ∧ Below B w w' :=
  (lnumber_any n W).mono fun _ _ h => ⟨h.1, hb.trans (h.2.mono (Nat.le_trans hB hb.size))⟩

theorem args27 (w : World) : Calls Try.prog 18 #[.int .u8 27] w fun e w' => e = .returned (.int .i64 2) ∧ Below w.heap.size w w' := args_any 27 w
theorem is24 (w : World) : Calls Try.prog 13 #[.int .u8 24] w fun e w' => e = .returned (.bool true) ∧ Below w.heap.size w w' := is_any 24 w

set_option maxHeartbeats 4000000 in
set_option maxRecDepth 100000 in
theorem wakes_any (w : World) : Calls Try.prog 7 #[] w fun e w' => e = .returned (.bool true) ∧ Below w.heap.size w w' := by
  go_enter Try.func7, Try.ntmps7
  go_wp2_with (go_at_call 8; refine (lnumber_in w.heap.size w _ (by first | exact Below.refl _ _ | assumption) (Nat.le_refl _) _).mono ?_; rintro e w1 ⟨rfl, b1⟩)
  have hR := Blk.new w1 29 #[.int .u8 2, .int .i64 3, .string ByteArray.empty, .int .u8 2, .int .i64 2, .string ByteArray.empty, .int .u8 0, .int .i64 0, .string ⟨#[]⟩, .int .u8 2, .int .i64 1, .string ByteArray.empty, .int .u8 2, .int .i64 4, .string ByteArray.empty, .int .u8 0, .int .i64 0, .string ⟨#[]⟩]
  have hB := b1.alloc b1.size (.cells #[.int .u8 2, .int .i64 3, .string ByteArray.empty, .int .u8 2, .int .i64 2, .string ByteArray.empty, .int .u8 0, .int .i64 0, .string ⟨#[]⟩, .int .u8 2, .int .i64 1, .string ByteArray.empty, .int .u8 2, .int .i64 4, .string ByteArray.empty, .int .u8 0, .int .i64 0, .string ⟨#[]⟩] 29)
  generalize w1.alloc (.cells #[.int .u8 2, .int .i64 3, .string ByteArray.empty, .int .u8 2, .int .i64 2, .string ByteArray.empty, .int .u8 0, .int .i64 0, .string ⟨#[]⟩, .int .u8 2, .int .i64 1, .string ByteArray.empty, .int .u8 2, .int .i64 4, .string ByteArray.empty, .int .u8 0, .int .i64 0, .string ⟨#[]⟩] 29) = W1 at *
  have g0 := b1.size
  generalize w1.heap.size = g at *
  have hRP : RP W1 W1.heap.size (some ⟨g, 0, none⟩) wl1 := .inr ⟨g, 0, rfl, hR.lt, fun i x hx => by
    match i, hx with
    | 0, hx => simp only [wl1, List.getElem?_cons_zero, Option.some.injEq] at hx; subst hx; exact pairAt_of hR 0 _ rfl rfl rfl rfl rfl rfl
    | 1, hx => simp only [wl1, List.getElem?_cons_zero, List.getElem?_cons_succ, Option.some.injEq] at hx; subst hx; exact pairAt_of hR 6 _ rfl rfl rfl rfl rfl rfl
    | 2, hx => simp only [wl1, List.getElem?_cons_zero, List.getElem?_cons_succ, Option.some.injEq] at hx; subst hx; exact pairAt_of hR 12 _ rfl rfl rfl rfl rfl rfl
    | (n + 3), hx => simp [wl1] at hx⟩
  have H1 := Lib.hid hRP
  clear hRP hR b1
  refine (fed_any 23 (some ⟨g, 0, none⟩) 3 wl1 _ rfl H1.out (by decide) (by unfold wl1 Val.Ok num zeroVal; simp)).mono ?_
  rintro e w2 ⟨p1, hp1, rfl, hS1, b2⟩
  go_wp2_with fail
  refine (answer_any p1 _ (num 7) 0 _ hS1 (near_ok (near_feeds 23 wl1 _ 0 (near_new 23)) (by omega) (by omega) (by decide) (by decide)) w_sum).mono ?_
  rintro e w3 ⟨rfl, b3⟩
  unfold ansV num
  go_wp2_with fail
  have hV1 := Blk.new w3 26 #[.int .u8 2, .int .i64 7, .string ByteArray.empty]
  have b4 := Later.then b2 (Later.then b3 (later_new w3 (.cells #[.int .u8 2, .int .i64 7, .string ByteArray.empty] 26)))
  generalize w3.alloc (.cells #[.int .u8 2, .int .i64 7, .string ByteArray.empty] 26) = W4 at *
  generalize w3.heap.size = g4 at *
  have hB4 := Later.then hB b4
  have H4 := Lib.hid ((H1.out.below b4).more b4.size)
  clear hS1 b2 b3 hp1 hB H1
  go_wp2_with (go_at_call 8; refine (lnumber_in W4.heap.size W4 _ (by first | exact Below.refl _ _ | assumption) (Nat.le_refl _) _).mono ?_; rintro e w5 ⟨rfl, b5⟩)
  have hR := Blk.new w5 29 #[.int .u8 2, .int .i64 (-3), .string ByteArray.empty, .int .u8 0, .int .i64 0, .string ⟨#[]⟩, .int .u8 2, .int .i64 (-4), .string ByteArray.empty, .int .u8 0, .int .i64 0, .string ⟨#[]⟩]
  have hB := Later.then b5 (later_new w5 (.cells #[.int .u8 2, .int .i64 (-3), .string ByteArray.empty, .int .u8 0, .int .i64 0, .string ⟨#[]⟩, .int .u8 2, .int .i64 (-4), .string ByteArray.empty, .int .u8 0, .int .i64 0, .string ⟨#[]⟩] 29))
  generalize w5.alloc (.cells #[.int .u8 2, .int .i64 (-3), .string ByteArray.empty, .int .u8 0, .int .i64 0, .string ⟨#[]⟩, .int .u8 2, .int .i64 (-4), .string ByteArray.empty, .int .u8 0, .int .i64 0, .string ⟨#[]⟩] 29) = W5 at *
  generalize w5.heap.size = g5 at *
  have hRP : RP W5 W5.heap.size (some ⟨g5, 0, none⟩) wl2 := .inr ⟨g5, 0, rfl, hR.lt, fun i x hx => by
    match i, hx with
    | 0, hx => simp only [wl2, List.getElem?_cons_zero, Option.some.injEq] at hx; subst hx; exact pairAt_of hR 0 _ rfl rfl rfl rfl rfl rfl
    | 1, hx => simp only [wl2, List.getElem?_cons_zero, List.getElem?_cons_succ, Option.some.injEq] at hx; subst hx; exact pairAt_of hR 6 _ rfl rfl rfl rfl rfl rfl
    | (n + 2), hx => simp [wl2] at hx⟩
  have HR := Lib.hid hRP
  clear hRP hR b5
  refine (fed_any 26 (some ⟨g5, 0, none⟩) 2 wl2 _ rfl HR.out (by decide) (by unfold wl2 Val.Ok num zeroVal; simp)).mono ?_
  rintro e w6 ⟨p2, hp2, rfl, hS2, b6⟩
  go_wp2_with fail
  refine (answer_any p2 _ (num (-4)) 0 _ hS2 (near_ok (near_feeds 26 wl2 _ 0 (near_new 26)) (by omega) (by omega) (by decide) (by decide)) w_avg).mono ?_
  rintro e w7 ⟨rfl, b7⟩
  unfold ansV num
  go_wp2_with fail
  have hV2 := Blk.new w7 26 #[.int .u8 2, .int .i64 (-4), .string ByteArray.empty]
  have b8 := Later.then hB (Later.then b6 (Later.then b7 (later_new w7 (.cells #[.int .u8 2, .int .i64 (-4), .string ByteArray.empty] 26))))
  generalize w7.alloc (.cells #[.int .u8 2, .int .i64 (-4), .string ByteArray.empty] 26) = W8 at *
  generalize w7.heap.size = g8 at *
  have hB8 := Later.then hB4 b8
  have hV1 := hV1.later b8
  have H8 := Lib.hid ((H4.out.below b8).more b8.size)
  clear hS2 b6 b7 hp2 hB H4 HR b8 hB4
  refine (fed_any 28 (some ⟨g, 0, none⟩) 3 wl1 _ rfl H8.out (by decide) (by unfold wl1 Val.Ok num zeroVal; simp)).mono ?_
  rintro e w9 ⟨p3, hp3, rfl, hS3, b9⟩
  go_wp2_with fail
  refine (answer_any p3 _ (num 3) 0 _ hS3 (near_ok (near_feeds 28 wl1 _ 0 (near_new 28)) (by omega) (by omega) (by decide) (by decide)) w_last).mono ?_
  rintro e w10 ⟨rfl, b10⟩
  unfold ansV num
  go_wp2_with fail
  have hV3 := Blk.new w10 26 #[.int .u8 2, .int .i64 3, .string ByteArray.empty]
  have b11 := Later.then b9 (Later.then b10 (later_new w10 (.cells #[.int .u8 2, .int .i64 3, .string ByteArray.empty] 26)))
  generalize w10.alloc (.cells #[.int .u8 2, .int .i64 3, .string ByteArray.empty] 26) = W11 at *
  generalize w10.heap.size = g11 at *
  have hB11 := Later.then hB8 b11
  have hV1 := hV1.later b11
  have hV2 := hV2.later b11
  clear hS3 b9 b10 hp3 H8 b11 hB8
  refine (new_not 1 _ rfl).mono ?_
  rintro e w12 ⟨rfl, b12⟩
  have hB12 := Later.then hB11 b12
  have hV1 := hV1.later b12
  have hV2 := hV2.later b12
  have hV3 := hV3.later b12
  clear b12 hB11
  go_wp2_with fail
  have cA := fun x : Ext w12.heap.size w12 => val_cells (hV1.later x.h)
  have cB := fun x : Ext w12.heap.size w12 => val_cells (hV2.later x.h)
  have cC := fun x : Ext w12.heap.size w12 => val_cells (hV3.later x.h)
  refine region_cut 36 w12.heap.size w12 (Below.refl _ _) (by kernel_rfl) (by kernel_rfl) (by kernel_rfl) (by kernel_rfl) ?_
  simp only [List.take_succ_cons, List.take_zero, List.drop_succ_cons, List.drop_zero]
  repeat (go_big_quiet_step (first
    | (go_at_call 8; exact calls_later (Nat.le_refl _) (lnumber_any _ _))
    | (go_at_call 18; exact calls_later (Nat.le_refl _) (args27 _))
    | (go_at_call 13; exact calls_later (Nat.le_refl _) (is24 _))))
  refine wpQuiet_nil ?_
  rintro W2 ⟨x2, hx2⟩
  have hW := x2.h
  rw [← hx2] at hW
  clear hx2 x2 cA cB cC
  go_wp2_with fail
  go_ret
  exact ⟨rfl, Later.then hB12 hW⟩
end Go.Proofs.Ytjpgahfabmgpiaa
