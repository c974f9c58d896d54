/- The law's wakes: expressions that are known. -/
import Derived.Test.YtlfahfoffdbpfaaWorth
import Derived.Test.YtlfahfoffdbpfaaType
import Derived.Test.YtlfahfoffdbpfaaSafe
namespace Go.Proofs.Ytlfahfoffdbpfaa
open Go.ChangeShapes Go.WideShapes Go.ChangeAt Go.RowKit
set_option linter.unusedVariables false
set_option linter.unusedSimpArgs false

/-- the two expressions behind a block of fourteen cells -/
theorem re_two {w : World} {g : Nat} {y z : Ex} (h : Blk w g 36 #[.int .u8 y.op, .int .u8 y.v.k, .int .i64 y.v.n, .string y.v.s, .string y.name, .int .i64 y.width, .slice y.A y.n y.c, .int .u8 z.op, .int .u8 z.v.k, .int .i64 z.v.n, .string z.v.s, .string z.name, .int .i64 z.width, .slice z.A z.n z.c]) :
    RE w w.heap.size (some ⟨g, 0, none⟩) [y, z] := by
  refine .inr ⟨g, 0, rfl, h.lt, fun i x hx => ?_⟩
  match i, hx with
  | 0, hx => simp at hx; subst hx; exact ⟨h.cell 0, h.cell 1, h.cell 2, h.cell 3, h.cell 4, h.cell 5, h.cell 6⟩
  | 1, hx => simp at hx; subst hx; exact ⟨h.cell 7, h.cell 8, h.cell 9, h.cell 10, h.cell 11, h.cell 12, h.cell 13⟩
  | (n + 2), hx => simp at hx
theorem re_one {w : World} {g : Nat} {y : Ex} (h : Blk w g 36 #[.int .u8 y.op, .int .u8 y.v.k, .int .i64 y.v.n, .string y.v.s, .string y.name, .int .i64 y.width, .slice y.A y.n y.c]) :
    RE w w.heap.size (some ⟨g, 0, none⟩) [y] := by
  refine .inr ⟨g, 0, rfl, h.lt, fun i x hx => ?_⟩
  match i, hx with
  | 0, hx => simp at hx; subst hx; exact ⟨h.cell 0, h.cell 1, h.cell 2, h.cell 3, h.cell 4, h.cell 5, h.cell 6⟩
  | (n + 1), hx => simp at hx

/-- an operation of two literals, in a block of their own -/
theorem eval_two (op : Int) (hop : op ≠ 2) (a b : Val) (ha : good a = true) (hb : good b = true) (oka : a.Ok) (okb : b.Ok) (g : Nat) (cV rV : Value) (w : World) (h : RE w w.heap.size (some ⟨g, 0, none⟩) [litEx a, litEx b]) (r : Val × Int) (hr : evalR ⟨op, zeroVal, ByteArray.empty, 0, none, 2, 0⟩ [a, b] = r) :
    Calls Try.prog 14 #[.agg #[.int .u8 op, .int .u8 0, .int .i64 0, .string ByteArray.empty, .string ByteArray.empty, .int .i64 0, .slice (some ⟨g, 0, none⟩) 2 2], cV, rV] w fun en w' => en = .returned (.tuple #[.agg #[.int .u8 r.1.k, .int .i64 r.1.n, .string r.1.s], .int .i64 r.2]) ∧ Below w.heap.size w w' := by
  have k := eval_op op hop zeroVal ByteArray.empty 0 (some ⟨g, 0, none⟩) 2 cV rV [(litEx a, a), (litEx b, b)] (by simp [oka, okb]) w (by simp) h (by
    intro x hx
    simp at hx
    rcases hx with rfl | rfl
    · exact eval_lit w _ _ a ha
    · exact eval_lit w _ _ b hb)
  subst hr
  exact k

theorem w_div : evalR ⟨8, zeroVal, ByteArray.empty, 0, none, 2, 0⟩ [num 7, num (-2)] = (num (-3), 0) := by kernel_rfl
theorem w_zero : evalR ⟨8, zeroVal, ByteArray.empty, 0, none, 2, 0⟩ [num 7, num 0] = (zeroVal, 44) := by kernel_rfl
theorem w_and : evalR ⟨16, zeroVal, ByteArray.empty, 0, none, 2, 0⟩ [zeroVal, ⟨1, 0, ByteArray.empty⟩] = (⟨1, 0, ByteArray.empty⟩, 0) := by kernel_rfl
theorem w_bucket : evalR ⟨20, zeroVal, ByteArray.empty, 5, none, 1, 0⟩ [num (-7)] = (num (-10), 0) := by kernel_rfl
theorem w_type : typeR ⟨12, zeroVal, ByteArray.empty, 0, none, 2, 0⟩ [2, 0] = (1, 0) := by kernel_rfl

/-- what the operations of the type's statement leave -/
def wtV : Nat → World → Value → Prop
  | 0 => fun _ u => u = litV (num 1)
  | 1 => fun _ u => u = .agg #[.int .u8 1, .int .u8 0, .int .i64 0, .string ⟨#[]⟩, .string ⟨#[]⟩, .int .i64 0, .slice none 0 0]
  | 2 => fun w u => ∃ g, u = .agg #[.int .u8 12, .int .u8 0, .int .i64 0, .string ByteArray.empty, .string ByteArray.empty, .int .i64 0, .slice (some ⟨g, 0, none⟩) 2 2] ∧ RE w w.heap.size (some ⟨g, 0, none⟩) [litEx (num 1), litEx zeroVal]
  | 3 => fun _ u => u = .tuple #[.int .u8 1, .int .i64 0]
  | 4 => fun _ u => u = .tuple #[.int .u8 1, .int .i64 0]
  | 5 => fun _ u => u = .int .u8 1
  | 6 => fun _ u => u = .int .i64 0
  | 7 => fun _ u => u = .int .u8 1
  | _ => fun _ _ => True
theorem wtV_stays (i : Nat) (w w' : World) (u : Value) (h : wtV i w u) (hr : Later w w') : wtV i w' u := by
  unfold wtV at *
  split at h
  all_goals first
    | exact h
    | (obtain ⟨g, h1, h2⟩ := h; exact ⟨g, h1, (h2.below hr).more hr.size⟩)

set_option maxHeartbeats 4000000 in
set_option maxRecDepth 100000 in
theorem wakes_any (w : World) : Calls Try.prog 12 #[] w fun e w' => e = .returned (.bool true) ∧ Below w.heap.size w w' := by
  go_enter Try.func12, Try.ntmps12
  go_wp2_with fail
  have hN := Blk.new w 36 #[.int .u8 1, .int .u8 0, .int .i64 0, .string ⟨#[]⟩, .string ⟨#[]⟩, .int .i64 0, .slice none 0 0]
  have hB := later_new w (.cells #[.int .u8 1, .int .u8 0, .int .i64 0, .string ⟨#[]⟩, .string ⟨#[]⟩, .int .i64 0, .slice none 0 0] 36)
  generalize w.alloc (.cells #[.int .u8 1, .int .u8 0, .int .i64 0, .string ⟨#[]⟩, .string ⟨#[]⟩, .int .i64 0, .slice none 0 0] 36) = W0 at *
  refine (lnumber_any 7 _).mono ?_
  rintro e w1 ⟨rfl, b1⟩
  replace hN := hN.later b1
  replace hB := Later.then hB b1
  clear b1
  unfold litV num
  go_wp2_with fail
  refine (lnumber_any (-2) _).mono ?_
  rintro e w2 ⟨rfl, b2⟩
  replace hN := hN.later b2
  replace hB := Later.then hB b2
  clear b2
  unfold litV num
  go_wp2_with fail
  refine (two_any 8 (litEx (num 7)) (litEx (num (-2))) _).mono ?_
  rintro e w3 ⟨g, rfl, hg, b3⟩
  replace hN := hN.later b3
  replace hB := Later.then hB b3
  clear b3
  go_wp2_with fail
  refine (eval_two 8 (by decide) (num 7) (num (-2)) (by kernel_rfl) (by kernel_rfl) ⟨by decide, by decide⟩ ⟨by decide, by decide⟩ g _ _ _ (re_two hg) _ w_div).mono ?_
  rintro e w4 ⟨rfl, b4⟩
  replace hN := hN.later b4
  replace hB := Later.then hB b4
  clear b4 hg
  unfold num
  go_wp2_with fail
  have bb := later_new w4 (.cells #[.int .u8 2, .int .i64 (-3), .string ByteArray.empty] 23)
  replace hN := hN.later bb
  replace hB := Later.then hB bb
  have hV1 := Blk.new w4 23 #[.int .u8 2, .int .i64 (-3), .string ByteArray.empty]
  clear bb
  generalize w4.alloc (.cells #[.int .u8 2, .int .i64 (-3), .string ByteArray.empty] 23) = W_hV1 at *
  generalize w4.heap.size = g_hV1 at *
  refine (lnumber_any 7 _).mono ?_
  rintro e w1 ⟨rfl, b1⟩
  replace hN := hN.later b1
  replace hB := Later.then hB b1
  replace hV1 := hV1.later b1
  clear b1
  unfold litV num
  go_wp2_with fail
  refine (lnumber_any 0 _).mono ?_
  rintro e w2 ⟨rfl, b2⟩
  replace hN := hN.later b2
  replace hB := Later.then hB b2
  replace hV1 := hV1.later b2
  clear b2
  unfold litV num
  go_wp2_with fail
  refine (two_any 8 (litEx (num 7)) (litEx (num 0)) _).mono ?_
  rintro e w3 ⟨g, rfl, hg, b3⟩
  replace hN := hN.later b3
  replace hB := Later.then hB b3
  replace hV1 := hV1.later b3
  clear b3
  go_wp2_with fail
  refine (eval_two 8 (by decide) (num 7) (num 0) (by kernel_rfl) (by kernel_rfl) ⟨by decide, by decide⟩ ⟨by decide, by decide⟩ g _ _ _ (re_two hg) _ w_zero).mono ?_
  rintro e w4 ⟨rfl, b4⟩
  replace hN := hN.later b4
  replace hB := Later.then hB b4
  replace hV1 := hV1.later b4
  clear b4 hg
  unfold zeroVal
  have n0 := (hN.alloc (.cells #[.int .u8 0, .int .i64 0, .string ByteArray.empty] 23)).cell
  have n00 := n0 0
  have n01 := n0 1
  have n02 := n0 2
  have n03 := n0 3
  have n04 := n0 4
  have n05 := n0 5
  have n06 := n0 6
  simp only [List.getElem?_toArray, List.getElem?_cons_zero, List.getElem?_cons_succ] at n00 n01 n02 n03 n04 n05 n06
  clear n0
  go_wp2_with fail
  clear n00 n01 n02 n03 n04 n05 n06
  have bb := later_new w4 (.cells #[.int .u8 0, .int .i64 0, .string ByteArray.empty] 23)
  replace hN := hN.later bb
  replace hB := Later.then hB bb
  replace hV1 := hV1.later bb
  have hV2 := Blk.new w4 23 #[.int .u8 0, .int .i64 0, .string ByteArray.empty]
  clear bb
  generalize w4.alloc (.cells #[.int .u8 0, .int .i64 0, .string ByteArray.empty] 23) = W_hV2 at *
  generalize w4.heap.size = g_hV2 at *
  refine (two_any 16 (litEx zeroVal) (litEx ⟨1, 0, ByteArray.empty⟩) _).mono ?_
  rintro e w3 ⟨g, rfl, hg, b3⟩
  replace hN := hN.later b3
  replace hB := Later.then hB b3
  replace hV1 := hV1.later b3
  replace hV2 := hV2.later b3
  clear b3
  go_wp2_with fail
  refine (eval_two 16 (by decide) zeroVal ⟨1, 0, ByteArray.empty⟩ (by kernel_rfl) (by kernel_rfl) ⟨by decide, by decide⟩ ⟨by decide, by decide⟩ g _ _ _ (re_two hg) _ w_and).mono ?_
  rintro e w4 ⟨rfl, b4⟩
  replace hN := hN.later b4
  replace hB := Later.then hB b4
  replace hV1 := hV1.later b4
  replace hV2 := hV2.later b4
  clear b4 hg
  go_wp2_with fail
  have bb := later_new w4 (.cells #[.int .u8 1, .int .i64 0, .string ByteArray.empty] 23)
  replace hN := hN.later bb
  replace hB := Later.then hB bb
  replace hV1 := hV1.later bb
  replace hV2 := hV2.later bb
  have hV3 := Blk.new w4 23 #[.int .u8 1, .int .i64 0, .string ByteArray.empty]
  clear bb
  generalize w4.alloc (.cells #[.int .u8 1, .int .i64 0, .string ByteArray.empty] 23) = W_hV3 at *
  generalize w4.heap.size = g_hV3 at *
  refine (lnumber_any (-7) _).mono ?_
  rintro e w1 ⟨rfl, b1⟩
  replace hN := hN.later b1
  replace hB := Later.then hB b1
  replace hV1 := hV1.later b1
  replace hV2 := hV2.later b1
  replace hV3 := hV3.later b1
  clear b1
  unfold litV num
  go_wp2_with fail
  have hg := Blk.new w1 36 #[.int .u8 1, .int .u8 2, .int .i64 (-7), .string ByteArray.empty, .string ByteArray.empty, .int .i64 0, .slice none 0 0]
  have b2 := later_new w1 (.cells #[.int .u8 1, .int .u8 2, .int .i64 (-7), .string ByteArray.empty, .string ByteArray.empty, .int .i64 0, .slice none 0 0] 36)
  replace hN := hN.later b2
  replace hB := Later.then hB b2
  replace hV1 := hV1.later b2
  replace hV2 := hV2.later b2
  replace hV3 := hV3.later b2
  clear b2
  generalize w1.alloc (.cells #[.int .u8 1, .int .u8 2, .int .i64 (-7), .string ByteArray.empty, .string ByteArray.empty, .int .i64 0, .slice none 0 0] 36) = w2 at *
  generalize w1.heap.size = g at *
  have hb := eval_op 20 (by decide) zeroVal ByteArray.empty 5 (some ⟨g, 0, none⟩) 1 (.slice none 0 0) (.slice none 0 0) [(litEx (num (-7)), num (-7))] (by intro x hx; simp at hx; subst hx; exact ⟨by decide, by decide⟩) w2 (by simp) (re_one (y := litEx (num (-7))) hg) (by intro x hx; simp at hx; subst hx; exact eval_lit w2 _ _ _ (by kernel_rfl))
  have hb2 : Calls Try.prog 14 #[.agg #[.int .u8 20, .int .u8 0, .int .i64 0, .string ⟨#[]⟩, .string ⟨#[]⟩, .int .i64 5, .slice (some ⟨g, 0, none⟩) 1 1], .slice none 0 0, .slice none 0 0] w2 fun en w' => en = .returned (.tuple #[.agg #[.int .u8 2, .int .i64 (-10), .string ByteArray.empty], .int .i64 0]) ∧ Below w2.heap.size w2 w' := by
    refine hb.mono fun en w' hh => ⟨?_, hh.2⟩
    rw [hh.1]
    show Ending.returned (ansV (evalR ⟨20, zeroVal, ByteArray.empty, 5, none, 1, 0⟩ [num (-7)]).1 (evalR ⟨20, zeroVal, ByteArray.empty, 5, none, 1, 0⟩ [num (-7)]).2) = _
    rw [w_bucket]
    rfl
  clear hb
  refine hb2.mono ?_
  rintro e w4 ⟨rfl, b4⟩
  replace hN := hN.later b4
  replace hB := Later.then hB b4
  replace hV1 := hV1.later b4
  replace hV2 := hV2.later b4
  replace hV3 := hV3.later b4
  clear b4 hg hb2
  go_wp2_with fail
  have bb := later_new w4 (.cells #[.int .u8 2, .int .i64 (-10), .string ByteArray.empty] 23)
  replace hN := hN.later bb
  replace hB := Later.then hB bb
  replace hV1 := hV1.later bb
  replace hV2 := hV2.later bb
  replace hV3 := hV3.later bb
  have hV4 := Blk.new w4 23 #[.int .u8 2, .int .i64 (-10), .string ByteArray.empty]
  clear bb
  generalize w4.alloc (.cells #[.int .u8 2, .int .i64 (-10), .string ByteArray.empty] 23) = W_hV4 at *
  generalize w4.heap.size = g_hV4 at *
  refine region_by 8 wtV wtV_stays (by kernel_rfl) (by kernel_rfl) (by kernel_rfl) ?_ ?_
  · simp only [List.take_succ_cons, List.take_zero]
    refine ⟨?_, ?_, ?_, ?_, ?_, ?_, ?_, ?_, trivial⟩
    · intro ρ w3 hc hL hr
      have e1 := hc.func 31
      have e2 := hc.const (.int .i64 1)
      refine opW_call (f := 31) (args := #[.int .i64 1]) (w' := w3) (by simp [go_sem, e1, e2]) ?_
      refine (lnumber_any 1 w3).mono ?_
      rintro e w4 ⟨rfl, b4⟩
      exact ⟨_, rfl, b4, rfl⟩
    · intro ρ w3 hc hL hr
      have h1 : ρ (.tmp 1) = .pointer (some ⟨w.heap.size, 0, none⟩) := hr.1
      have n0 := (hN.later hL).cell
      have n00 := n0 0
      have n01 := n0 1
      have n02 := n0 2
      have n03 := n0 3
      have n04 := n0 4
      have n05 := n0 5
      have n06 := n0 6
      simp only [List.getElem?_toArray, List.getElem?_cons_zero, List.getElem?_cons_succ] at n00 n01 n02 n03 n04 n05 n06
      exact opW_run (w' := w3) (by simp [go_sem, h1, n00, n01, n02, n03, n04, n05, n06]) ⟨Later.refl _, rfl⟩
    · intro ρ w3 hc hL hr
      have e1 := hc.func 30
      have e2 := hc.const (.int .u8 12)
      have h1 : ρ (.tmp 43) = litV (num 1) := hr.1
      have h2 : ρ (.tmp 44) = litV zeroVal := hr.2.1
      refine opW_call (f := 30) (args := #[.int .u8 12, litV (num 1), litV zeroVal]) (w' := w3) (by simp [go_sem, e1, e2, h1, h2]) ?_
      refine (two_any 12 (litEx (num 1)) (litEx zeroVal) w3).mono ?_
      rintro e w4 ⟨g, rfl, hg, b4⟩
      exact ⟨_, rfl, b4, g, rfl, re_two hg⟩
    · intro ρ w3 hc hL hr
      have e1 := hc.func 21
      have e2 := hc.const (.slice none 0 0)
      obtain ⟨g, h1, h2⟩ : ∃ g, ρ (.tmp 45) = .agg #[.int .u8 12, .int .u8 0, .int .i64 0, .string ByteArray.empty, .string ByteArray.empty, .int .i64 0, .slice (some ⟨g, 0, none⟩) 2 2] ∧ RE w3 w3.heap.size (some ⟨g, 0, none⟩) [litEx (num 1), litEx zeroVal] := hr.1
      refine opW_call (f := 21) (args := #[.agg #[.int .u8 12, .int .u8 0, .int .i64 0, .string ByteArray.empty, .string ByteArray.empty, .int .i64 0, .slice (some ⟨g, 0, none⟩) 2 2], .slice none 0 0]) (w' := w3) (by simp [go_sem, e1, e2, h1]) ?_
      have ht := type_op 12 (by decide) zeroVal ByteArray.empty 0 (some ⟨g, 0, none⟩) 2 (.slice none 0 0) [(litEx (num 1), 2), (litEx zeroVal, 0)] w3 (by simp) h2 (by
        intro x hx
        simp at hx
        rcases hx with rfl | rfl
        · exact type_lit w3 _ (num 1) (by kernel_rfl)
        · exact type_lit w3 _ zeroVal (by kernel_rfl))
      refine ht.mono fun en w' hh => ⟨.tuple #[.int .u8 1, .int .i64 0], ?_, hh.2, rfl⟩
      rw [hh.1]
      show Ending.returned (.tuple #[.int .u8 (typeR ⟨12, zeroVal, ByteArray.empty, 0, none, 2, 0⟩ [2, 0]).1, .int .i64 (typeR ⟨12, zeroVal, ByteArray.empty, 0, none, 2, 0⟩ [2, 0]).2]) = _
      rw [w_type]
    · intro ρ w3 hc hL hr
      exact opW_move (.inl rfl) rfl ⟨Later.refl _, hr.1⟩
    · intro ρ w3 hc hL hr
      have h1 : ρ (.tmp 42) = .tuple #[.int .u8 1, .int .i64 0] := hr.1
      exact opW_run (w' := w3) (by simp [go_sem, h1]) ⟨Later.refl _, rfl⟩
    · intro ρ w3 hc hL hr
      have h1 : ρ (.tmp 42) = .tuple #[.int .u8 1, .int .i64 0] := hr.1
      exact opW_run (w' := w3) (by simp [go_sem, h1]) ⟨Later.refl _, rfl⟩
    · intro ρ w3 hc hL hr
      exact opW_move (.inr rfl) rfl ⟨Later.refl _, hr.1⟩
  · intro w3 hL
    simp only [List.take_succ_cons, List.take_zero, List.drop_succ_cons, List.drop_zero]
    rintro _ rfl _ rfl _ ⟨g, rfl, _⟩ _ rfl _ rfl _ rfl _ rfl _ rfl
    simp only [FinOf, Act.put, List.setIfInBounds_toArray, List.set_cons_succ, List.set_cons_zero]
    replace hN := hN.later hL
    replace hB := Later.then hB hL
    replace hV1 := hV1.later hL
    replace hV2 := hV2.later hL
    replace hV3 := hV3.later hL
    replace hV4 := hV4.later hL
    have n0 := hN.cell
    have n00 := n0 0
    have n01 := n0 1
    have n02 := n0 2
    have n03 := n0 3
    have n04 := n0 4
    have n05 := n0 5
    have n06 := n0 6
    simp only [List.getElem?_toArray, List.getElem?_cons_zero, List.getElem?_cons_succ] at n00 n01 n02 n03 n04 n05 n06
    clear n0
    have c1 := val_cells hV1
    have c3 := val_cells hV3
    have c4 := val_cells hV4
    go_wp2_with fail
    refine (safe_lit zeroVal ByteArray.empty 0 none 0 _).mono ?_
    rintro e w9 ⟨rfl, b9⟩
    go_wp2_with fail
    go_ret
    exact ⟨rfl, Later.then hB b9⟩
end Go.Proofs.Ytlfahfoffdbpfaa
