/- expr.operations: the table. Printed by gen_table.py. -/
import Derived.Test.YtlfahfoffdbpfaaOps
namespace Go.Proofs.Ytlfahfoffdbpfaa
open Go.ChangeShapes Go.WideShapes Go.ChangeAt Go.RowKit
set_option linter.unusedVariables false
set_option linter.unusedSimpArgs false

def MkPost (k : Nat) (w : World) (e : Ending) (w' : World) : Prop := ∃ v, e = .returned v ∧ OpIs w' k v ∧ Below w.heap.size w w'
theorem mk_5 (w : World) : Calls Try.prog 69 #[(.func (.func 70) #[] #[])] w (MkPost 5 w) :=
  (numbers_any _ _ w).mono fun e w' ⟨q, he, hq, hb⟩ => ⟨_, he, ⟨q, rfl, hq⟩, hb⟩
theorem mk_6 (w : World) : Calls Try.prog 69 #[(.func (.func 71) #[] #[])] w (MkPost 6 w) :=
  (numbers_any _ _ w).mono fun e w' ⟨q, he, hq, hb⟩ => ⟨_, he, ⟨q, rfl, hq⟩, hb⟩
theorem mk_7 (w : World) : Calls Try.prog 69 #[(.func (.func 72) #[] #[])] w (MkPost 7 w) :=
  (numbers_any _ _ w).mono fun e w' ⟨q, he, hq, hb⟩ => ⟨_, he, ⟨q, rfl, hq⟩, hb⟩
theorem mk_8 (w : World) : Calls Try.prog 73 #[(.func (.func 74) #[] #[])] w (MkPost 8 w) :=
  (by_make _ _ w).mono fun e w' ⟨q, q2, he, hq, hq2, hb⟩ => ⟨_, he, ⟨q, q2, rfl, hq, hq2⟩, hb⟩
theorem mk_9 (w : World) : Calls Try.prog 73 #[(.func (.func 75) #[] #[])] w (MkPost 9 w) :=
  (by_make _ _ w).mono fun e w' ⟨q, q2, he, hq, hq2, hb⟩ => ⟨_, he, ⟨q, q2, rfl, hq, hq2⟩, hb⟩
theorem mk_10 (w : World) : Calls Try.prog 76 #[(.func (.func 77) #[] #[])] w (MkPost 10 w) :=
  (order_any _ _ w).mono fun e w' ⟨q, he, hq, hb⟩ => ⟨_, he, ⟨q, rfl, hq⟩, hb⟩
theorem mk_11 (w : World) : Calls Try.prog 76 #[(.func (.func 78) #[] #[])] w (MkPost 11 w) :=
  (order_any _ _ w).mono fun e w' ⟨q, he, hq, hb⟩ => ⟨_, he, ⟨q, rfl, hq⟩, hb⟩
theorem mk_12 (w : World) : Calls Try.prog 76 #[(.func (.func 79) #[] #[])] w (MkPost 12 w) :=
  (order_any _ _ w).mono fun e w' ⟨q, he, hq, hb⟩ => ⟨_, he, ⟨q, rfl, hq⟩, hb⟩
theorem mk_13 (w : World) : Calls Try.prog 76 #[(.func (.func 80) #[] #[])] w (MkPost 13 w) :=
  (order_any _ _ w).mono fun e w' ⟨q, he, hq, hb⟩ => ⟨_, he, ⟨q, rfl, hq⟩, hb⟩
theorem mk_14 (w : World) : Calls Try.prog 76 #[(.func (.func 81) #[] #[])] w (MkPost 14 w) :=
  (order_any _ _ w).mono fun e w' ⟨q, he, hq, hb⟩ => ⟨_, he, ⟨q, rfl, hq⟩, hb⟩
theorem mk_15 (w : World) : Calls Try.prog 76 #[(.func (.func 82) #[] #[])] w (MkPost 15 w) :=
  (order_any _ _ w).mono fun e w' ⟨q, he, hq, hb⟩ => ⟨_, he, ⟨q, rfl, hq⟩, hb⟩
theorem mk_16 (w : World) : Calls Try.prog 83 #[.bool false] w (MkPost 16 w) :=
  (logic_any _ w).mono fun e w' ⟨q, he, hq, hb⟩ => ⟨_, he, ⟨q, rfl, hq⟩, hb⟩
theorem mk_17 (w : World) : Calls Try.prog 83 #[.bool true] w (MkPost 17 w) :=
  (logic_any _ w).mono fun e w' ⟨q, he, hq, hb⟩ => ⟨_, he, ⟨q, rfl, hq⟩, hb⟩
theorem mk_18 (w : World) : Calls Try.prog 84 #[.bool true] w (MkPost 18 w) :=
  (nulls_any _ w).mono fun e w' ⟨q, he, hq, hb⟩ => ⟨_, he, ⟨q, rfl, hq⟩, hb⟩
theorem mk_19 (w : World) : Calls Try.prog 84 #[.bool false] w (MkPost 19 w) :=
  (nulls_any _ w).mono fun e w' ⟨q, he, hq, hb⟩ => ⟨_, he, ⟨q, rfl, hq⟩, hb⟩

theorem Tab.at_ {w : World} {g : Nat} {es : Array MapEntry} {c : Nat} (h : Tab w g es c) {k : Nat} {v : Value} {i : Nat} (hm : (⟨.int .u8 (k : Int), v, i⟩ : MapEntry) ∈ es.toList) : OpIs w k v := by
  obtain ⟨k', hk', ho⟩ := h.2 _ hm
  injection hk' with _ h3
  have : k = k' := Int.ofNat.inj h3
  subst this
  exact ho
/-- the whole table -/
def OpsPost (w : World) (e : Ending) (w' : World) : Prop := ∃ g es, e = .returned (.map (some g)) ∧ Tab w' g es 18 ∧ (∀ k : Nat, 3 ≤ k → k ≤ 20 → ∃ i v, Instr.findNow (.int .u8) (.int .u8 k) es.toList 0 = some (some (i, v)) ∧ OpIs w' k v) ∧ (∀ k : Int, k < 3 ∨ 20 < k → Instr.findNow (.int .u8) (.int .u8 k) es.toList 0 = some none) ∧ Below w.heap.size w w'

set_option maxHeartbeats 8000000 in
set_option maxRecDepth 100000 in
theorem operations_any (w : World) : Calls Try.prog 41 #[] w (OpsPost w) := by
  have hmm := @run_makeMap Try.prog
  have hT0 : Tab (w.alloc (.map #[] 0)) w.heap.size #[] 0 := ⟨heap_alloc_new w _, fun e he => by simp at he⟩
  have i3 := ins_at (w.alloc (.map #[] 0)) w.heap.size #[] 0 hT0.1 3 (.agg #[.int .i64 1, .int .u8 2, .int .u8 2, .bool false, .bool false, (.func (.func 65) #[] #[])]) rfl
  have hT3 : Tab (setMap (w.alloc (.map #[] 0)) w.heap.size #[⟨.int .u8 3, .agg #[.int .i64 1, .int .u8 2, .int .u8 2, .bool false, .bool false, (.func (.func 65) #[] #[])], 0⟩] 1) w.heap.size #[⟨.int .u8 3, .agg #[.int .i64 1, .int .u8 2, .int .u8 2, .bool false, .bool false, (.func (.func 65) #[] #[])], 0⟩] 1 := hT0.push 3 (.agg #[.int .i64 1, .int .u8 2, .int .u8 2, .bool false, .bool false, (.func (.func 65) #[] #[])]) rfl
  have i4 := ins_at (setMap (w.alloc (.map #[] 0)) w.heap.size #[⟨.int .u8 3, .agg #[.int .i64 1, .int .u8 2, .int .u8 2, .bool false, .bool false, (.func (.func 65) #[] #[])], 0⟩] 1) w.heap.size #[⟨.int .u8 3, .agg #[.int .i64 1, .int .u8 2, .int .u8 2, .bool false, .bool false, (.func (.func 65) #[] #[])], 0⟩] 1 hT3.1 4 (.agg #[.int .i64 1, .int .u8 1, .int .u8 1, .bool false, .bool false, (.func (.func 67) #[] #[])]) rfl
  have hT4 : Tab (setMap (setMap (w.alloc (.map #[] 0)) w.heap.size #[⟨.int .u8 3, .agg #[.int .i64 1, .int .u8 2, .int .u8 2, .bool false, .bool false, (.func (.func 65) #[] #[])], 0⟩] 1) w.heap.size #[⟨.int .u8 3, .agg #[.int .i64 1, .int .u8 2, .int .u8 2, .bool false, .bool false, (.func (.func 65) #[] #[])], 0⟩, ⟨.int .u8 4, .agg #[.int .i64 1, .int .u8 1, .int .u8 1, .bool false, .bool false, (.func (.func 67) #[] #[])], 1⟩] 2) w.heap.size #[⟨.int .u8 3, .agg #[.int .i64 1, .int .u8 2, .int .u8 2, .bool false, .bool false, (.func (.func 65) #[] #[])], 0⟩, ⟨.int .u8 4, .agg #[.int .i64 1, .int .u8 1, .int .u8 1, .bool false, .bool false, (.func (.func 67) #[] #[])], 1⟩] 2 := hT3.push 4 (.agg #[.int .i64 1, .int .u8 1, .int .u8 1, .bool false, .bool false, (.func (.func 67) #[] #[])]) rfl
  have hB : Below w.heap.size w (setMap (setMap (w.alloc (.map #[] 0)) w.heap.size #[⟨.int .u8 3, .agg #[.int .i64 1, .int .u8 2, .int .u8 2, .bool false, .bool false, (.func (.func 65) #[] #[])], 0⟩] 1) w.heap.size #[⟨.int .u8 3, .agg #[.int .i64 1, .int .u8 2, .int .u8 2, .bool false, .bool false, (.func (.func 65) #[] #[])], 0⟩, ⟨.int .u8 4, .agg #[.int .i64 1, .int .u8 1, .int .u8 1, .bool false, .bool false, (.func (.func 67) #[] #[])], 1⟩] 2) := setMap_below (setMap_below (later_new w _) _ (Nat.le_refl _) _ _) _ (Nat.le_refl _) _ _
  simp only [List.push_toArray, List.nil_append, List.cons_append, Nat.reduceAdd, Nat.zero_add] at i3 i4
  have HT := Lib.hid hT4
  have HB := Lib.hid hB
  clear hT0 hT3 hT4 hB
  go_enter Try.func41, Try.ntmps41
  go_wp2_with fail
  clear i3 i4 hmm
  have hgw : w.heap.size ≤ w.heap.size := Nat.le_refl _
  generalize setMap (setMap (w.alloc (.map #[] 0)) w.heap.size #[⟨.int .u8 3, .agg #[.int .i64 1, .int .u8 2, .int .u8 2, .bool false, .bool false, (.func (.func 65) #[] #[])], 0⟩] 1) w.heap.size #[⟨.int .u8 3, .agg #[.int .i64 1, .int .u8 2, .int .u8 2, .bool false, .bool false, (.func (.func 65) #[] #[])], 0⟩, ⟨.int .u8 4, .agg #[.int .i64 1, .int .u8 1, .int .u8 1, .bool false, .bool false, (.func (.func 67) #[] #[])], 1⟩] 2 = W at *
  generalize hgg : w.heap.size = g at HT hgw ⊢
  have hgb : w.heap.size ≤ g := by omega
  clear hgw
  refine (mk_5 _).mono ?_
  rintro e w' ⟨v5, rfl, hv, b1⟩
  have hT := HT.out.later b1
  have i5 := ins_at w' g #[⟨.int .u8 3, .agg #[.int .i64 1, .int .u8 2, .int .u8 2, .bool false, .bool false, (.func (.func 65) #[] #[])], 0⟩, ⟨.int .u8 4, .agg #[.int .i64 1, .int .u8 1, .int .u8 1, .bool false, .bool false, (.func (.func 67) #[] #[])], 1⟩] 2 hT.1 5 v5 rfl
  have hT2 : Tab (setMap w' g #[⟨.int .u8 3, .agg #[.int .i64 1, .int .u8 2, .int .u8 2, .bool false, .bool false, (.func (.func 65) #[] #[])], 0⟩, ⟨.int .u8 4, .agg #[.int .i64 1, .int .u8 1, .int .u8 1, .bool false, .bool false, (.func (.func 67) #[] #[])], 1⟩, ⟨.int .u8 5, v5, 2⟩] 3) g #[⟨.int .u8 3, .agg #[.int .i64 1, .int .u8 2, .int .u8 2, .bool false, .bool false, (.func (.func 65) #[] #[])], 0⟩, ⟨.int .u8 4, .agg #[.int .i64 1, .int .u8 1, .int .u8 1, .bool false, .bool false, (.func (.func 67) #[] #[])], 1⟩, ⟨.int .u8 5, v5, 2⟩] 3 := hT.push 5 v5 hv
  have hB2 : Below w.heap.size w (setMap w' g #[⟨.int .u8 3, .agg #[.int .i64 1, .int .u8 2, .int .u8 2, .bool false, .bool false, (.func (.func 65) #[] #[])], 0⟩, ⟨.int .u8 4, .agg #[.int .i64 1, .int .u8 1, .int .u8 1, .bool false, .bool false, (.func (.func 67) #[] #[])], 1⟩, ⟨.int .u8 5, v5, 2⟩] 3) := setMap_below (Later.then HB.out b1) g hgb _ _
  simp only [List.push_toArray, List.nil_append, List.cons_append, Nat.reduceAdd] at i5
  clear HT HB
  have HT := Lib.hid hT2
  have HB := Lib.hid hB2
  clear hT hT2 hB2 b1 hv
  go_wp2_with fail
  clear i5
  generalize setMap w' g #[⟨.int .u8 3, .agg #[.int .i64 1, .int .u8 2, .int .u8 2, .bool false, .bool false, (.func (.func 65) #[] #[])], 0⟩, ⟨.int .u8 4, .agg #[.int .i64 1, .int .u8 1, .int .u8 1, .bool false, .bool false, (.func (.func 67) #[] #[])], 1⟩, ⟨.int .u8 5, v5, 2⟩] 3 = W at *
  clear w'
  refine (mk_6 _).mono ?_
  rintro e w' ⟨v6, rfl, hv, b1⟩
  have hT := HT.out.later b1
  have i6 := ins_at w' g #[⟨.int .u8 3, .agg #[.int .i64 1, .int .u8 2, .int .u8 2, .bool false, .bool false, (.func (.func 65) #[] #[])], 0⟩, ⟨.int .u8 4, .agg #[.int .i64 1, .int .u8 1, .int .u8 1, .bool false, .bool false, (.func (.func 67) #[] #[])], 1⟩, ⟨.int .u8 5, v5, 2⟩] 3 hT.1 6 v6 rfl
  have hT2 : Tab (setMap w' g #[⟨.int .u8 3, .agg #[.int .i64 1, .int .u8 2, .int .u8 2, .bool false, .bool false, (.func (.func 65) #[] #[])], 0⟩, ⟨.int .u8 4, .agg #[.int .i64 1, .int .u8 1, .int .u8 1, .bool false, .bool false, (.func (.func 67) #[] #[])], 1⟩, ⟨.int .u8 5, v5, 2⟩, ⟨.int .u8 6, v6, 3⟩] 4) g #[⟨.int .u8 3, .agg #[.int .i64 1, .int .u8 2, .int .u8 2, .bool false, .bool false, (.func (.func 65) #[] #[])], 0⟩, ⟨.int .u8 4, .agg #[.int .i64 1, .int .u8 1, .int .u8 1, .bool false, .bool false, (.func (.func 67) #[] #[])], 1⟩, ⟨.int .u8 5, v5, 2⟩, ⟨.int .u8 6, v6, 3⟩] 4 := hT.push 6 v6 hv
  have hB2 : Below w.heap.size w (setMap w' g #[⟨.int .u8 3, .agg #[.int .i64 1, .int .u8 2, .int .u8 2, .bool false, .bool false, (.func (.func 65) #[] #[])], 0⟩, ⟨.int .u8 4, .agg #[.int .i64 1, .int .u8 1, .int .u8 1, .bool false, .bool false, (.func (.func 67) #[] #[])], 1⟩, ⟨.int .u8 5, v5, 2⟩, ⟨.int .u8 6, v6, 3⟩] 4) := setMap_below (Later.then HB.out b1) g hgb _ _
  simp only [List.push_toArray, List.nil_append, List.cons_append, Nat.reduceAdd] at i6
  clear HT HB
  have HT := Lib.hid hT2
  have HB := Lib.hid hB2
  clear hT hT2 hB2 b1 hv
  go_wp2_with fail
  clear i6
  generalize setMap w' g #[⟨.int .u8 3, .agg #[.int .i64 1, .int .u8 2, .int .u8 2, .bool false, .bool false, (.func (.func 65) #[] #[])], 0⟩, ⟨.int .u8 4, .agg #[.int .i64 1, .int .u8 1, .int .u8 1, .bool false, .bool false, (.func (.func 67) #[] #[])], 1⟩, ⟨.int .u8 5, v5, 2⟩, ⟨.int .u8 6, v6, 3⟩] 4 = W at *
  clear w'
  refine (mk_7 _).mono ?_
  rintro e w' ⟨v7, rfl, hv, b1⟩
  have hT := HT.out.later b1
  have i7 := ins_at w' g #[⟨.int .u8 3, .agg #[.int .i64 1, .int .u8 2, .int .u8 2, .bool false, .bool false, (.func (.func 65) #[] #[])], 0⟩, ⟨.int .u8 4, .agg #[.int .i64 1, .int .u8 1, .int .u8 1, .bool false, .bool false, (.func (.func 67) #[] #[])], 1⟩, ⟨.int .u8 5, v5, 2⟩, ⟨.int .u8 6, v6, 3⟩] 4 hT.1 7 v7 rfl
  have hT2 : Tab (setMap w' g #[⟨.int .u8 3, .agg #[.int .i64 1, .int .u8 2, .int .u8 2, .bool false, .bool false, (.func (.func 65) #[] #[])], 0⟩, ⟨.int .u8 4, .agg #[.int .i64 1, .int .u8 1, .int .u8 1, .bool false, .bool false, (.func (.func 67) #[] #[])], 1⟩, ⟨.int .u8 5, v5, 2⟩, ⟨.int .u8 6, v6, 3⟩, ⟨.int .u8 7, v7, 4⟩] 5) g #[⟨.int .u8 3, .agg #[.int .i64 1, .int .u8 2, .int .u8 2, .bool false, .bool false, (.func (.func 65) #[] #[])], 0⟩, ⟨.int .u8 4, .agg #[.int .i64 1, .int .u8 1, .int .u8 1, .bool false, .bool false, (.func (.func 67) #[] #[])], 1⟩, ⟨.int .u8 5, v5, 2⟩, ⟨.int .u8 6, v6, 3⟩, ⟨.int .u8 7, v7, 4⟩] 5 := hT.push 7 v7 hv
  have hB2 : Below w.heap.size w (setMap w' g #[⟨.int .u8 3, .agg #[.int .i64 1, .int .u8 2, .int .u8 2, .bool false, .bool false, (.func (.func 65) #[] #[])], 0⟩, ⟨.int .u8 4, .agg #[.int .i64 1, .int .u8 1, .int .u8 1, .bool false, .bool false, (.func (.func 67) #[] #[])], 1⟩, ⟨.int .u8 5, v5, 2⟩, ⟨.int .u8 6, v6, 3⟩, ⟨.int .u8 7, v7, 4⟩] 5) := setMap_below (Later.then HB.out b1) g hgb _ _
  simp only [List.push_toArray, List.nil_append, List.cons_append, Nat.reduceAdd] at i7
  clear HT HB
  have HT := Lib.hid hT2
  have HB := Lib.hid hB2
  clear hT hT2 hB2 b1 hv
  go_wp2_with fail
  clear i7
  generalize setMap w' g #[⟨.int .u8 3, .agg #[.int .i64 1, .int .u8 2, .int .u8 2, .bool false, .bool false, (.func (.func 65) #[] #[])], 0⟩, ⟨.int .u8 4, .agg #[.int .i64 1, .int .u8 1, .int .u8 1, .bool false, .bool false, (.func (.func 67) #[] #[])], 1⟩, ⟨.int .u8 5, v5, 2⟩, ⟨.int .u8 6, v6, 3⟩, ⟨.int .u8 7, v7, 4⟩] 5 = W at *
  clear w'
  refine (mk_8 _).mono ?_
  rintro e w' ⟨v8, rfl, hv, b1⟩
  have hT := HT.out.later b1
  have i8 := ins_at w' g #[⟨.int .u8 3, .agg #[.int .i64 1, .int .u8 2, .int .u8 2, .bool false, .bool false, (.func (.func 65) #[] #[])], 0⟩, ⟨.int .u8 4, .agg #[.int .i64 1, .int .u8 1, .int .u8 1, .bool false, .bool false, (.func (.func 67) #[] #[])], 1⟩, ⟨.int .u8 5, v5, 2⟩, ⟨.int .u8 6, v6, 3⟩, ⟨.int .u8 7, v7, 4⟩] 5 hT.1 8 v8 rfl
  have hT2 : Tab (setMap w' g #[⟨.int .u8 3, .agg #[.int .i64 1, .int .u8 2, .int .u8 2, .bool false, .bool false, (.func (.func 65) #[] #[])], 0⟩, ⟨.int .u8 4, .agg #[.int .i64 1, .int .u8 1, .int .u8 1, .bool false, .bool false, (.func (.func 67) #[] #[])], 1⟩, ⟨.int .u8 5, v5, 2⟩, ⟨.int .u8 6, v6, 3⟩, ⟨.int .u8 7, v7, 4⟩, ⟨.int .u8 8, v8, 5⟩] 6) g #[⟨.int .u8 3, .agg #[.int .i64 1, .int .u8 2, .int .u8 2, .bool false, .bool false, (.func (.func 65) #[] #[])], 0⟩, ⟨.int .u8 4, .agg #[.int .i64 1, .int .u8 1, .int .u8 1, .bool false, .bool false, (.func (.func 67) #[] #[])], 1⟩, ⟨.int .u8 5, v5, 2⟩, ⟨.int .u8 6, v6, 3⟩, ⟨.int .u8 7, v7, 4⟩, ⟨.int .u8 8, v8, 5⟩] 6 := hT.push 8 v8 hv
  have hB2 : Below w.heap.size w (setMap w' g #[⟨.int .u8 3, .agg #[.int .i64 1, .int .u8 2, .int .u8 2, .bool false, .bool false, (.func (.func 65) #[] #[])], 0⟩, ⟨.int .u8 4, .agg #[.int .i64 1, .int .u8 1, .int .u8 1, .bool false, .bool false, (.func (.func 67) #[] #[])], 1⟩, ⟨.int .u8 5, v5, 2⟩, ⟨.int .u8 6, v6, 3⟩, ⟨.int .u8 7, v7, 4⟩, ⟨.int .u8 8, v8, 5⟩] 6) := setMap_below (Later.then HB.out b1) g hgb _ _
  simp only [List.push_toArray, List.nil_append, List.cons_append, Nat.reduceAdd] at i8
  clear HT HB
  have HT := Lib.hid hT2
  have HB := Lib.hid hB2
  clear hT hT2 hB2 b1 hv
  go_wp2_with fail
  clear i8
  generalize setMap w' g #[⟨.int .u8 3, .agg #[.int .i64 1, .int .u8 2, .int .u8 2, .bool false, .bool false, (.func (.func 65) #[] #[])], 0⟩, ⟨.int .u8 4, .agg #[.int .i64 1, .int .u8 1, .int .u8 1, .bool false, .bool false, (.func (.func 67) #[] #[])], 1⟩, ⟨.int .u8 5, v5, 2⟩, ⟨.int .u8 6, v6, 3⟩, ⟨.int .u8 7, v7, 4⟩, ⟨.int .u8 8, v8, 5⟩] 6 = W at *
  clear w'
  refine (mk_9 _).mono ?_
  rintro e w' ⟨v9, rfl, hv, b1⟩
  have hT := HT.out.later b1
  have i9 := ins_at w' g #[⟨.int .u8 3, .agg #[.int .i64 1, .int .u8 2, .int .u8 2, .bool false, .bool false, (.func (.func 65) #[] #[])], 0⟩, ⟨.int .u8 4, .agg #[.int .i64 1, .int .u8 1, .int .u8 1, .bool false, .bool false, (.func (.func 67) #[] #[])], 1⟩, ⟨.int .u8 5, v5, 2⟩, ⟨.int .u8 6, v6, 3⟩, ⟨.int .u8 7, v7, 4⟩, ⟨.int .u8 8, v8, 5⟩] 6 hT.1 9 v9 rfl
  have hT2 : Tab (setMap w' g #[⟨.int .u8 3, .agg #[.int .i64 1, .int .u8 2, .int .u8 2, .bool false, .bool false, (.func (.func 65) #[] #[])], 0⟩, ⟨.int .u8 4, .agg #[.int .i64 1, .int .u8 1, .int .u8 1, .bool false, .bool false, (.func (.func 67) #[] #[])], 1⟩, ⟨.int .u8 5, v5, 2⟩, ⟨.int .u8 6, v6, 3⟩, ⟨.int .u8 7, v7, 4⟩, ⟨.int .u8 8, v8, 5⟩, ⟨.int .u8 9, v9, 6⟩] 7) g #[⟨.int .u8 3, .agg #[.int .i64 1, .int .u8 2, .int .u8 2, .bool false, .bool false, (.func (.func 65) #[] #[])], 0⟩, ⟨.int .u8 4, .agg #[.int .i64 1, .int .u8 1, .int .u8 1, .bool false, .bool false, (.func (.func 67) #[] #[])], 1⟩, ⟨.int .u8 5, v5, 2⟩, ⟨.int .u8 6, v6, 3⟩, ⟨.int .u8 7, v7, 4⟩, ⟨.int .u8 8, v8, 5⟩, ⟨.int .u8 9, v9, 6⟩] 7 := hT.push 9 v9 hv
  have hB2 : Below w.heap.size w (setMap w' g #[⟨.int .u8 3, .agg #[.int .i64 1, .int .u8 2, .int .u8 2, .bool false, .bool false, (.func (.func 65) #[] #[])], 0⟩, ⟨.int .u8 4, .agg #[.int .i64 1, .int .u8 1, .int .u8 1, .bool false, .bool false, (.func (.func 67) #[] #[])], 1⟩, ⟨.int .u8 5, v5, 2⟩, ⟨.int .u8 6, v6, 3⟩, ⟨.int .u8 7, v7, 4⟩, ⟨.int .u8 8, v8, 5⟩, ⟨.int .u8 9, v9, 6⟩] 7) := setMap_below (Later.then HB.out b1) g hgb _ _
  simp only [List.push_toArray, List.nil_append, List.cons_append, Nat.reduceAdd] at i9
  clear HT HB
  have HT := Lib.hid hT2
  have HB := Lib.hid hB2
  clear hT hT2 hB2 b1 hv
  go_wp2_with fail
  clear i9
  generalize setMap w' g #[⟨.int .u8 3, .agg #[.int .i64 1, .int .u8 2, .int .u8 2, .bool false, .bool false, (.func (.func 65) #[] #[])], 0⟩, ⟨.int .u8 4, .agg #[.int .i64 1, .int .u8 1, .int .u8 1, .bool false, .bool false, (.func (.func 67) #[] #[])], 1⟩, ⟨.int .u8 5, v5, 2⟩, ⟨.int .u8 6, v6, 3⟩, ⟨.int .u8 7, v7, 4⟩, ⟨.int .u8 8, v8, 5⟩, ⟨.int .u8 9, v9, 6⟩] 7 = W at *
  clear w'
  refine (mk_10 _).mono ?_
  rintro e w' ⟨v10, rfl, hv, b1⟩
  have hT := HT.out.later b1
  have i10 := ins_at w' g #[⟨.int .u8 3, .agg #[.int .i64 1, .int .u8 2, .int .u8 2, .bool false, .bool false, (.func (.func 65) #[] #[])], 0⟩, ⟨.int .u8 4, .agg #[.int .i64 1, .int .u8 1, .int .u8 1, .bool false, .bool false, (.func (.func 67) #[] #[])], 1⟩, ⟨.int .u8 5, v5, 2⟩, ⟨.int .u8 6, v6, 3⟩, ⟨.int .u8 7, v7, 4⟩, ⟨.int .u8 8, v8, 5⟩, ⟨.int .u8 9, v9, 6⟩] 7 hT.1 10 v10 rfl
  have hT2 : Tab (setMap w' g #[⟨.int .u8 3, .agg #[.int .i64 1, .int .u8 2, .int .u8 2, .bool false, .bool false, (.func (.func 65) #[] #[])], 0⟩, ⟨.int .u8 4, .agg #[.int .i64 1, .int .u8 1, .int .u8 1, .bool false, .bool false, (.func (.func 67) #[] #[])], 1⟩, ⟨.int .u8 5, v5, 2⟩, ⟨.int .u8 6, v6, 3⟩, ⟨.int .u8 7, v7, 4⟩, ⟨.int .u8 8, v8, 5⟩, ⟨.int .u8 9, v9, 6⟩, ⟨.int .u8 10, v10, 7⟩] 8) g #[⟨.int .u8 3, .agg #[.int .i64 1, .int .u8 2, .int .u8 2, .bool false, .bool false, (.func (.func 65) #[] #[])], 0⟩, ⟨.int .u8 4, .agg #[.int .i64 1, .int .u8 1, .int .u8 1, .bool false, .bool false, (.func (.func 67) #[] #[])], 1⟩, ⟨.int .u8 5, v5, 2⟩, ⟨.int .u8 6, v6, 3⟩, ⟨.int .u8 7, v7, 4⟩, ⟨.int .u8 8, v8, 5⟩, ⟨.int .u8 9, v9, 6⟩, ⟨.int .u8 10, v10, 7⟩] 8 := hT.push 10 v10 hv
  have hB2 : Below w.heap.size w (setMap w' g #[⟨.int .u8 3, .agg #[.int .i64 1, .int .u8 2, .int .u8 2, .bool false, .bool false, (.func (.func 65) #[] #[])], 0⟩, ⟨.int .u8 4, .agg #[.int .i64 1, .int .u8 1, .int .u8 1, .bool false, .bool false, (.func (.func 67) #[] #[])], 1⟩, ⟨.int .u8 5, v5, 2⟩, ⟨.int .u8 6, v6, 3⟩, ⟨.int .u8 7, v7, 4⟩, ⟨.int .u8 8, v8, 5⟩, ⟨.int .u8 9, v9, 6⟩, ⟨.int .u8 10, v10, 7⟩] 8) := setMap_below (Later.then HB.out b1) g hgb _ _
  simp only [List.push_toArray, List.nil_append, List.cons_append, Nat.reduceAdd] at i10
  clear HT HB
  have HT := Lib.hid hT2
  have HB := Lib.hid hB2
  clear hT hT2 hB2 b1 hv
  go_wp2_with fail
  clear i10
  generalize setMap w' g #[⟨.int .u8 3, .agg #[.int .i64 1, .int .u8 2, .int .u8 2, .bool false, .bool false, (.func (.func 65) #[] #[])], 0⟩, ⟨.int .u8 4, .agg #[.int .i64 1, .int .u8 1, .int .u8 1, .bool false, .bool false, (.func (.func 67) #[] #[])], 1⟩, ⟨.int .u8 5, v5, 2⟩, ⟨.int .u8 6, v6, 3⟩, ⟨.int .u8 7, v7, 4⟩, ⟨.int .u8 8, v8, 5⟩, ⟨.int .u8 9, v9, 6⟩, ⟨.int .u8 10, v10, 7⟩] 8 = W at *
  clear w'
  refine (mk_11 _).mono ?_
  rintro e w' ⟨v11, rfl, hv, b1⟩
  have hT := HT.out.later b1
  have i11 := ins_at w' g #[⟨.int .u8 3, .agg #[.int .i64 1, .int .u8 2, .int .u8 2, .bool false, .bool false, (.func (.func 65) #[] #[])], 0⟩, ⟨.int .u8 4, .agg #[.int .i64 1, .int .u8 1, .int .u8 1, .bool false, .bool false, (.func (.func 67) #[] #[])], 1⟩, ⟨.int .u8 5, v5, 2⟩, ⟨.int .u8 6, v6, 3⟩, ⟨.int .u8 7, v7, 4⟩, ⟨.int .u8 8, v8, 5⟩, ⟨.int .u8 9, v9, 6⟩, ⟨.int .u8 10, v10, 7⟩] 8 hT.1 11 v11 rfl
  have hT2 : Tab (setMap w' g #[⟨.int .u8 3, .agg #[.int .i64 1, .int .u8 2, .int .u8 2, .bool false, .bool false, (.func (.func 65) #[] #[])], 0⟩, ⟨.int .u8 4, .agg #[.int .i64 1, .int .u8 1, .int .u8 1, .bool false, .bool false, (.func (.func 67) #[] #[])], 1⟩, ⟨.int .u8 5, v5, 2⟩, ⟨.int .u8 6, v6, 3⟩, ⟨.int .u8 7, v7, 4⟩, ⟨.int .u8 8, v8, 5⟩, ⟨.int .u8 9, v9, 6⟩, ⟨.int .u8 10, v10, 7⟩, ⟨.int .u8 11, v11, 8⟩] 9) g #[⟨.int .u8 3, .agg #[.int .i64 1, .int .u8 2, .int .u8 2, .bool false, .bool false, (.func (.func 65) #[] #[])], 0⟩, ⟨.int .u8 4, .agg #[.int .i64 1, .int .u8 1, .int .u8 1, .bool false, .bool false, (.func (.func 67) #[] #[])], 1⟩, ⟨.int .u8 5, v5, 2⟩, ⟨.int .u8 6, v6, 3⟩, ⟨.int .u8 7, v7, 4⟩, ⟨.int .u8 8, v8, 5⟩, ⟨.int .u8 9, v9, 6⟩, ⟨.int .u8 10, v10, 7⟩, ⟨.int .u8 11, v11, 8⟩] 9 := hT.push 11 v11 hv
  have hB2 : Below w.heap.size w (setMap w' g #[⟨.int .u8 3, .agg #[.int .i64 1, .int .u8 2, .int .u8 2, .bool false, .bool false, (.func (.func 65) #[] #[])], 0⟩, ⟨.int .u8 4, .agg #[.int .i64 1, .int .u8 1, .int .u8 1, .bool false, .bool false, (.func (.func 67) #[] #[])], 1⟩, ⟨.int .u8 5, v5, 2⟩, ⟨.int .u8 6, v6, 3⟩, ⟨.int .u8 7, v7, 4⟩, ⟨.int .u8 8, v8, 5⟩, ⟨.int .u8 9, v9, 6⟩, ⟨.int .u8 10, v10, 7⟩, ⟨.int .u8 11, v11, 8⟩] 9) := setMap_below (Later.then HB.out b1) g hgb _ _
  simp only [List.push_toArray, List.nil_append, List.cons_append, Nat.reduceAdd] at i11
  clear HT HB
  have HT := Lib.hid hT2
  have HB := Lib.hid hB2
  clear hT hT2 hB2 b1 hv
  go_wp2_with fail
  clear i11
  generalize setMap w' g #[⟨.int .u8 3, .agg #[.int .i64 1, .int .u8 2, .int .u8 2, .bool false, .bool false, (.func (.func 65) #[] #[])], 0⟩, ⟨.int .u8 4, .agg #[.int .i64 1, .int .u8 1, .int .u8 1, .bool false, .bool false, (.func (.func 67) #[] #[])], 1⟩, ⟨.int .u8 5, v5, 2⟩, ⟨.int .u8 6, v6, 3⟩, ⟨.int .u8 7, v7, 4⟩, ⟨.int .u8 8, v8, 5⟩, ⟨.int .u8 9, v9, 6⟩, ⟨.int .u8 10, v10, 7⟩, ⟨.int .u8 11, v11, 8⟩] 9 = W at *
  clear w'
  refine (mk_12 _).mono ?_
  rintro e w' ⟨v12, rfl, hv, b1⟩
  have hT := HT.out.later b1
  have i12 := ins_at w' g #[⟨.int .u8 3, .agg #[.int .i64 1, .int .u8 2, .int .u8 2, .bool false, .bool false, (.func (.func 65) #[] #[])], 0⟩, ⟨.int .u8 4, .agg #[.int .i64 1, .int .u8 1, .int .u8 1, .bool false, .bool false, (.func (.func 67) #[] #[])], 1⟩, ⟨.int .u8 5, v5, 2⟩, ⟨.int .u8 6, v6, 3⟩, ⟨.int .u8 7, v7, 4⟩, ⟨.int .u8 8, v8, 5⟩, ⟨.int .u8 9, v9, 6⟩, ⟨.int .u8 10, v10, 7⟩, ⟨.int .u8 11, v11, 8⟩] 9 hT.1 12 v12 rfl
  have hT2 : Tab (setMap w' g #[⟨.int .u8 3, .agg #[.int .i64 1, .int .u8 2, .int .u8 2, .bool false, .bool false, (.func (.func 65) #[] #[])], 0⟩, ⟨.int .u8 4, .agg #[.int .i64 1, .int .u8 1, .int .u8 1, .bool false, .bool false, (.func (.func 67) #[] #[])], 1⟩, ⟨.int .u8 5, v5, 2⟩, ⟨.int .u8 6, v6, 3⟩, ⟨.int .u8 7, v7, 4⟩, ⟨.int .u8 8, v8, 5⟩, ⟨.int .u8 9, v9, 6⟩, ⟨.int .u8 10, v10, 7⟩, ⟨.int .u8 11, v11, 8⟩, ⟨.int .u8 12, v12, 9⟩] 10) g #[⟨.int .u8 3, .agg #[.int .i64 1, .int .u8 2, .int .u8 2, .bool false, .bool false, (.func (.func 65) #[] #[])], 0⟩, ⟨.int .u8 4, .agg #[.int .i64 1, .int .u8 1, .int .u8 1, .bool false, .bool false, (.func (.func 67) #[] #[])], 1⟩, ⟨.int .u8 5, v5, 2⟩, ⟨.int .u8 6, v6, 3⟩, ⟨.int .u8 7, v7, 4⟩, ⟨.int .u8 8, v8, 5⟩, ⟨.int .u8 9, v9, 6⟩, ⟨.int .u8 10, v10, 7⟩, ⟨.int .u8 11, v11, 8⟩, ⟨.int .u8 12, v12, 9⟩] 10 := hT.push 12 v12 hv
  have hB2 : Below w.heap.size w (setMap w' g #[⟨.int .u8 3, .agg #[.int .i64 1, .int .u8 2, .int .u8 2, .bool false, .bool false, (.func (.func 65) #[] #[])], 0⟩, ⟨.int .u8 4, .agg #[.int .i64 1, .int .u8 1, .int .u8 1, .bool false, .bool false, (.func (.func 67) #[] #[])], 1⟩, ⟨.int .u8 5, v5, 2⟩, ⟨.int .u8 6, v6, 3⟩, ⟨.int .u8 7, v7, 4⟩, ⟨.int .u8 8, v8, 5⟩, ⟨.int .u8 9, v9, 6⟩, ⟨.int .u8 10, v10, 7⟩, ⟨.int .u8 11, v11, 8⟩, ⟨.int .u8 12, v12, 9⟩] 10) := setMap_below (Later.then HB.out b1) g hgb _ _
  simp only [List.push_toArray, List.nil_append, List.cons_append, Nat.reduceAdd] at i12
  clear HT HB
  have HT := Lib.hid hT2
  have HB := Lib.hid hB2
  clear hT hT2 hB2 b1 hv
  go_wp2_with fail
  clear i12
  generalize setMap w' g #[⟨.int .u8 3, .agg #[.int .i64 1, .int .u8 2, .int .u8 2, .bool false, .bool false, (.func (.func 65) #[] #[])], 0⟩, ⟨.int .u8 4, .agg #[.int .i64 1, .int .u8 1, .int .u8 1, .bool false, .bool false, (.func (.func 67) #[] #[])], 1⟩, ⟨.int .u8 5, v5, 2⟩, ⟨.int .u8 6, v6, 3⟩, ⟨.int .u8 7, v7, 4⟩, ⟨.int .u8 8, v8, 5⟩, ⟨.int .u8 9, v9, 6⟩, ⟨.int .u8 10, v10, 7⟩, ⟨.int .u8 11, v11, 8⟩, ⟨.int .u8 12, v12, 9⟩] 10 = W at *
  clear w'
  refine (mk_13 _).mono ?_
  rintro e w' ⟨v13, rfl, hv, b1⟩
  have hT := HT.out.later b1
  have i13 := ins_at w' g #[⟨.int .u8 3, .agg #[.int .i64 1, .int .u8 2, .int .u8 2, .bool false, .bool false, (.func (.func 65) #[] #[])], 0⟩, ⟨.int .u8 4, .agg #[.int .i64 1, .int .u8 1, .int .u8 1, .bool false, .bool false, (.func (.func 67) #[] #[])], 1⟩, ⟨.int .u8 5, v5, 2⟩, ⟨.int .u8 6, v6, 3⟩, ⟨.int .u8 7, v7, 4⟩, ⟨.int .u8 8, v8, 5⟩, ⟨.int .u8 9, v9, 6⟩, ⟨.int .u8 10, v10, 7⟩, ⟨.int .u8 11, v11, 8⟩, ⟨.int .u8 12, v12, 9⟩] 10 hT.1 13 v13 rfl
  have hT2 : Tab (setMap w' g #[⟨.int .u8 3, .agg #[.int .i64 1, .int .u8 2, .int .u8 2, .bool false, .bool false, (.func (.func 65) #[] #[])], 0⟩, ⟨.int .u8 4, .agg #[.int .i64 1, .int .u8 1, .int .u8 1, .bool false, .bool false, (.func (.func 67) #[] #[])], 1⟩, ⟨.int .u8 5, v5, 2⟩, ⟨.int .u8 6, v6, 3⟩, ⟨.int .u8 7, v7, 4⟩, ⟨.int .u8 8, v8, 5⟩, ⟨.int .u8 9, v9, 6⟩, ⟨.int .u8 10, v10, 7⟩, ⟨.int .u8 11, v11, 8⟩, ⟨.int .u8 12, v12, 9⟩, ⟨.int .u8 13, v13, 10⟩] 11) g #[⟨.int .u8 3, .agg #[.int .i64 1, .int .u8 2, .int .u8 2, .bool false, .bool false, (.func (.func 65) #[] #[])], 0⟩, ⟨.int .u8 4, .agg #[.int .i64 1, .int .u8 1, .int .u8 1, .bool false, .bool false, (.func (.func 67) #[] #[])], 1⟩, ⟨.int .u8 5, v5, 2⟩, ⟨.int .u8 6, v6, 3⟩, ⟨.int .u8 7, v7, 4⟩, ⟨.int .u8 8, v8, 5⟩, ⟨.int .u8 9, v9, 6⟩, ⟨.int .u8 10, v10, 7⟩, ⟨.int .u8 11, v11, 8⟩, ⟨.int .u8 12, v12, 9⟩, ⟨.int .u8 13, v13, 10⟩] 11 := hT.push 13 v13 hv
  have hB2 : Below w.heap.size w (setMap w' g #[⟨.int .u8 3, .agg #[.int .i64 1, .int .u8 2, .int .u8 2, .bool false, .bool false, (.func (.func 65) #[] #[])], 0⟩, ⟨.int .u8 4, .agg #[.int .i64 1, .int .u8 1, .int .u8 1, .bool false, .bool false, (.func (.func 67) #[] #[])], 1⟩, ⟨.int .u8 5, v5, 2⟩, ⟨.int .u8 6, v6, 3⟩, ⟨.int .u8 7, v7, 4⟩, ⟨.int .u8 8, v8, 5⟩, ⟨.int .u8 9, v9, 6⟩, ⟨.int .u8 10, v10, 7⟩, ⟨.int .u8 11, v11, 8⟩, ⟨.int .u8 12, v12, 9⟩, ⟨.int .u8 13, v13, 10⟩] 11) := setMap_below (Later.then HB.out b1) g hgb _ _
  simp only [List.push_toArray, List.nil_append, List.cons_append, Nat.reduceAdd] at i13
  clear HT HB
  have HT := Lib.hid hT2
  have HB := Lib.hid hB2
  clear hT hT2 hB2 b1 hv
  go_wp2_with fail
  clear i13
  generalize setMap w' g #[⟨.int .u8 3, .agg #[.int .i64 1, .int .u8 2, .int .u8 2, .bool false, .bool false, (.func (.func 65) #[] #[])], 0⟩, ⟨.int .u8 4, .agg #[.int .i64 1, .int .u8 1, .int .u8 1, .bool false, .bool false, (.func (.func 67) #[] #[])], 1⟩, ⟨.int .u8 5, v5, 2⟩, ⟨.int .u8 6, v6, 3⟩, ⟨.int .u8 7, v7, 4⟩, ⟨.int .u8 8, v8, 5⟩, ⟨.int .u8 9, v9, 6⟩, ⟨.int .u8 10, v10, 7⟩, ⟨.int .u8 11, v11, 8⟩, ⟨.int .u8 12, v12, 9⟩, ⟨.int .u8 13, v13, 10⟩] 11 = W at *
  clear w'
  refine (mk_14 _).mono ?_
  rintro e w' ⟨v14, rfl, hv, b1⟩
  have hT := HT.out.later b1
  have i14 := ins_at w' g #[⟨.int .u8 3, .agg #[.int .i64 1, .int .u8 2, .int .u8 2, .bool false, .bool false, (.func (.func 65) #[] #[])], 0⟩, ⟨.int .u8 4, .agg #[.int .i64 1, .int .u8 1, .int .u8 1, .bool false, .bool false, (.func (.func 67) #[] #[])], 1⟩, ⟨.int .u8 5, v5, 2⟩, ⟨.int .u8 6, v6, 3⟩, ⟨.int .u8 7, v7, 4⟩, ⟨.int .u8 8, v8, 5⟩, ⟨.int .u8 9, v9, 6⟩, ⟨.int .u8 10, v10, 7⟩, ⟨.int .u8 11, v11, 8⟩, ⟨.int .u8 12, v12, 9⟩, ⟨.int .u8 13, v13, 10⟩] 11 hT.1 14 v14 rfl
  have hT2 : Tab (setMap w' g #[⟨.int .u8 3, .agg #[.int .i64 1, .int .u8 2, .int .u8 2, .bool false, .bool false, (.func (.func 65) #[] #[])], 0⟩, ⟨.int .u8 4, .agg #[.int .i64 1, .int .u8 1, .int .u8 1, .bool false, .bool false, (.func (.func 67) #[] #[])], 1⟩, ⟨.int .u8 5, v5, 2⟩, ⟨.int .u8 6, v6, 3⟩, ⟨.int .u8 7, v7, 4⟩, ⟨.int .u8 8, v8, 5⟩, ⟨.int .u8 9, v9, 6⟩, ⟨.int .u8 10, v10, 7⟩, ⟨.int .u8 11, v11, 8⟩, ⟨.int .u8 12, v12, 9⟩, ⟨.int .u8 13, v13, 10⟩, ⟨.int .u8 14, v14, 11⟩] 12) g #[⟨.int .u8 3, .agg #[.int .i64 1, .int .u8 2, .int .u8 2, .bool false, .bool false, (.func (.func 65) #[] #[])], 0⟩, ⟨.int .u8 4, .agg #[.int .i64 1, .int .u8 1, .int .u8 1, .bool false, .bool false, (.func (.func 67) #[] #[])], 1⟩, ⟨.int .u8 5, v5, 2⟩, ⟨.int .u8 6, v6, 3⟩, ⟨.int .u8 7, v7, 4⟩, ⟨.int .u8 8, v8, 5⟩, ⟨.int .u8 9, v9, 6⟩, ⟨.int .u8 10, v10, 7⟩, ⟨.int .u8 11, v11, 8⟩, ⟨.int .u8 12, v12, 9⟩, ⟨.int .u8 13, v13, 10⟩, ⟨.int .u8 14, v14, 11⟩] 12 := hT.push 14 v14 hv
  have hB2 : Below w.heap.size w (setMap w' g #[⟨.int .u8 3, .agg #[.int .i64 1, .int .u8 2, .int .u8 2, .bool false, .bool false, (.func (.func 65) #[] #[])], 0⟩, ⟨.int .u8 4, .agg #[.int .i64 1, .int .u8 1, .int .u8 1, .bool false, .bool false, (.func (.func 67) #[] #[])], 1⟩, ⟨.int .u8 5, v5, 2⟩, ⟨.int .u8 6, v6, 3⟩, ⟨.int .u8 7, v7, 4⟩, ⟨.int .u8 8, v8, 5⟩, ⟨.int .u8 9, v9, 6⟩, ⟨.int .u8 10, v10, 7⟩, ⟨.int .u8 11, v11, 8⟩, ⟨.int .u8 12, v12, 9⟩, ⟨.int .u8 13, v13, 10⟩, ⟨.int .u8 14, v14, 11⟩] 12) := setMap_below (Later.then HB.out b1) g hgb _ _
  simp only [List.push_toArray, List.nil_append, List.cons_append, Nat.reduceAdd] at i14
  clear HT HB
  have HT := Lib.hid hT2
  have HB := Lib.hid hB2
  clear hT hT2 hB2 b1 hv
  go_wp2_with fail
  clear i14
  generalize setMap w' g #[⟨.int .u8 3, .agg #[.int .i64 1, .int .u8 2, .int .u8 2, .bool false, .bool false, (.func (.func 65) #[] #[])], 0⟩, ⟨.int .u8 4, .agg #[.int .i64 1, .int .u8 1, .int .u8 1, .bool false, .bool false, (.func (.func 67) #[] #[])], 1⟩, ⟨.int .u8 5, v5, 2⟩, ⟨.int .u8 6, v6, 3⟩, ⟨.int .u8 7, v7, 4⟩, ⟨.int .u8 8, v8, 5⟩, ⟨.int .u8 9, v9, 6⟩, ⟨.int .u8 10, v10, 7⟩, ⟨.int .u8 11, v11, 8⟩, ⟨.int .u8 12, v12, 9⟩, ⟨.int .u8 13, v13, 10⟩, ⟨.int .u8 14, v14, 11⟩] 12 = W at *
  clear w'
  refine (mk_15 _).mono ?_
  rintro e w' ⟨v15, rfl, hv, b1⟩
  have hT := HT.out.later b1
  have i15 := ins_at w' g #[⟨.int .u8 3, .agg #[.int .i64 1, .int .u8 2, .int .u8 2, .bool false, .bool false, (.func (.func 65) #[] #[])], 0⟩, ⟨.int .u8 4, .agg #[.int .i64 1, .int .u8 1, .int .u8 1, .bool false, .bool false, (.func (.func 67) #[] #[])], 1⟩, ⟨.int .u8 5, v5, 2⟩, ⟨.int .u8 6, v6, 3⟩, ⟨.int .u8 7, v7, 4⟩, ⟨.int .u8 8, v8, 5⟩, ⟨.int .u8 9, v9, 6⟩, ⟨.int .u8 10, v10, 7⟩, ⟨.int .u8 11, v11, 8⟩, ⟨.int .u8 12, v12, 9⟩, ⟨.int .u8 13, v13, 10⟩, ⟨.int .u8 14, v14, 11⟩] 12 hT.1 15 v15 rfl
  have hT2 : Tab (setMap w' g #[⟨.int .u8 3, .agg #[.int .i64 1, .int .u8 2, .int .u8 2, .bool false, .bool false, (.func (.func 65) #[] #[])], 0⟩, ⟨.int .u8 4, .agg #[.int .i64 1, .int .u8 1, .int .u8 1, .bool false, .bool false, (.func (.func 67) #[] #[])], 1⟩, ⟨.int .u8 5, v5, 2⟩, ⟨.int .u8 6, v6, 3⟩, ⟨.int .u8 7, v7, 4⟩, ⟨.int .u8 8, v8, 5⟩, ⟨.int .u8 9, v9, 6⟩, ⟨.int .u8 10, v10, 7⟩, ⟨.int .u8 11, v11, 8⟩, ⟨.int .u8 12, v12, 9⟩, ⟨.int .u8 13, v13, 10⟩, ⟨.int .u8 14, v14, 11⟩, ⟨.int .u8 15, v15, 12⟩] 13) g #[⟨.int .u8 3, .agg #[.int .i64 1, .int .u8 2, .int .u8 2, .bool false, .bool false, (.func (.func 65) #[] #[])], 0⟩, ⟨.int .u8 4, .agg #[.int .i64 1, .int .u8 1, .int .u8 1, .bool false, .bool false, (.func (.func 67) #[] #[])], 1⟩, ⟨.int .u8 5, v5, 2⟩, ⟨.int .u8 6, v6, 3⟩, ⟨.int .u8 7, v7, 4⟩, ⟨.int .u8 8, v8, 5⟩, ⟨.int .u8 9, v9, 6⟩, ⟨.int .u8 10, v10, 7⟩, ⟨.int .u8 11, v11, 8⟩, ⟨.int .u8 12, v12, 9⟩, ⟨.int .u8 13, v13, 10⟩, ⟨.int .u8 14, v14, 11⟩, ⟨.int .u8 15, v15, 12⟩] 13 := hT.push 15 v15 hv
  have hB2 : Below w.heap.size w (setMap w' g #[⟨.int .u8 3, .agg #[.int .i64 1, .int .u8 2, .int .u8 2, .bool false, .bool false, (.func (.func 65) #[] #[])], 0⟩, ⟨.int .u8 4, .agg #[.int .i64 1, .int .u8 1, .int .u8 1, .bool false, .bool false, (.func (.func 67) #[] #[])], 1⟩, ⟨.int .u8 5, v5, 2⟩, ⟨.int .u8 6, v6, 3⟩, ⟨.int .u8 7, v7, 4⟩, ⟨.int .u8 8, v8, 5⟩, ⟨.int .u8 9, v9, 6⟩, ⟨.int .u8 10, v10, 7⟩, ⟨.int .u8 11, v11, 8⟩, ⟨.int .u8 12, v12, 9⟩, ⟨.int .u8 13, v13, 10⟩, ⟨.int .u8 14, v14, 11⟩, ⟨.int .u8 15, v15, 12⟩] 13) := setMap_below (Later.then HB.out b1) g hgb _ _
  simp only [List.push_toArray, List.nil_append, List.cons_append, Nat.reduceAdd] at i15
  clear HT HB
  have HT := Lib.hid hT2
  have HB := Lib.hid hB2
  clear hT hT2 hB2 b1 hv
  go_wp2_with fail
  clear i15
  generalize setMap w' g #[⟨.int .u8 3, .agg #[.int .i64 1, .int .u8 2, .int .u8 2, .bool false, .bool false, (.func (.func 65) #[] #[])], 0⟩, ⟨.int .u8 4, .agg #[.int .i64 1, .int .u8 1, .int .u8 1, .bool false, .bool false, (.func (.func 67) #[] #[])], 1⟩, ⟨.int .u8 5, v5, 2⟩, ⟨.int .u8 6, v6, 3⟩, ⟨.int .u8 7, v7, 4⟩, ⟨.int .u8 8, v8, 5⟩, ⟨.int .u8 9, v9, 6⟩, ⟨.int .u8 10, v10, 7⟩, ⟨.int .u8 11, v11, 8⟩, ⟨.int .u8 12, v12, 9⟩, ⟨.int .u8 13, v13, 10⟩, ⟨.int .u8 14, v14, 11⟩, ⟨.int .u8 15, v15, 12⟩] 13 = W at *
  clear w'
  refine (mk_16 _).mono ?_
  rintro e w' ⟨v16, rfl, hv, b1⟩
  have hT := HT.out.later b1
  have i16 := ins_at w' g #[⟨.int .u8 3, .agg #[.int .i64 1, .int .u8 2, .int .u8 2, .bool false, .bool false, (.func (.func 65) #[] #[])], 0⟩, ⟨.int .u8 4, .agg #[.int .i64 1, .int .u8 1, .int .u8 1, .bool false, .bool false, (.func (.func 67) #[] #[])], 1⟩, ⟨.int .u8 5, v5, 2⟩, ⟨.int .u8 6, v6, 3⟩, ⟨.int .u8 7, v7, 4⟩, ⟨.int .u8 8, v8, 5⟩, ⟨.int .u8 9, v9, 6⟩, ⟨.int .u8 10, v10, 7⟩, ⟨.int .u8 11, v11, 8⟩, ⟨.int .u8 12, v12, 9⟩, ⟨.int .u8 13, v13, 10⟩, ⟨.int .u8 14, v14, 11⟩, ⟨.int .u8 15, v15, 12⟩] 13 hT.1 16 v16 rfl
  have hT2 : Tab (setMap w' g #[⟨.int .u8 3, .agg #[.int .i64 1, .int .u8 2, .int .u8 2, .bool false, .bool false, (.func (.func 65) #[] #[])], 0⟩, ⟨.int .u8 4, .agg #[.int .i64 1, .int .u8 1, .int .u8 1, .bool false, .bool false, (.func (.func 67) #[] #[])], 1⟩, ⟨.int .u8 5, v5, 2⟩, ⟨.int .u8 6, v6, 3⟩, ⟨.int .u8 7, v7, 4⟩, ⟨.int .u8 8, v8, 5⟩, ⟨.int .u8 9, v9, 6⟩, ⟨.int .u8 10, v10, 7⟩, ⟨.int .u8 11, v11, 8⟩, ⟨.int .u8 12, v12, 9⟩, ⟨.int .u8 13, v13, 10⟩, ⟨.int .u8 14, v14, 11⟩, ⟨.int .u8 15, v15, 12⟩, ⟨.int .u8 16, v16, 13⟩] 14) g #[⟨.int .u8 3, .agg #[.int .i64 1, .int .u8 2, .int .u8 2, .bool false, .bool false, (.func (.func 65) #[] #[])], 0⟩, ⟨.int .u8 4, .agg #[.int .i64 1, .int .u8 1, .int .u8 1, .bool false, .bool false, (.func (.func 67) #[] #[])], 1⟩, ⟨.int .u8 5, v5, 2⟩, ⟨.int .u8 6, v6, 3⟩, ⟨.int .u8 7, v7, 4⟩, ⟨.int .u8 8, v8, 5⟩, ⟨.int .u8 9, v9, 6⟩, ⟨.int .u8 10, v10, 7⟩, ⟨.int .u8 11, v11, 8⟩, ⟨.int .u8 12, v12, 9⟩, ⟨.int .u8 13, v13, 10⟩, ⟨.int .u8 14, v14, 11⟩, ⟨.int .u8 15, v15, 12⟩, ⟨.int .u8 16, v16, 13⟩] 14 := hT.push 16 v16 hv
  have hB2 : Below w.heap.size w (setMap w' g #[⟨.int .u8 3, .agg #[.int .i64 1, .int .u8 2, .int .u8 2, .bool false, .bool false, (.func (.func 65) #[] #[])], 0⟩, ⟨.int .u8 4, .agg #[.int .i64 1, .int .u8 1, .int .u8 1, .bool false, .bool false, (.func (.func 67) #[] #[])], 1⟩, ⟨.int .u8 5, v5, 2⟩, ⟨.int .u8 6, v6, 3⟩, ⟨.int .u8 7, v7, 4⟩, ⟨.int .u8 8, v8, 5⟩, ⟨.int .u8 9, v9, 6⟩, ⟨.int .u8 10, v10, 7⟩, ⟨.int .u8 11, v11, 8⟩, ⟨.int .u8 12, v12, 9⟩, ⟨.int .u8 13, v13, 10⟩, ⟨.int .u8 14, v14, 11⟩, ⟨.int .u8 15, v15, 12⟩, ⟨.int .u8 16, v16, 13⟩] 14) := setMap_below (Later.then HB.out b1) g hgb _ _
  simp only [List.push_toArray, List.nil_append, List.cons_append, Nat.reduceAdd] at i16
  clear HT HB
  have HT := Lib.hid hT2
  have HB := Lib.hid hB2
  clear hT hT2 hB2 b1 hv
  go_wp2_with fail
  clear i16
  generalize setMap w' g #[⟨.int .u8 3, .agg #[.int .i64 1, .int .u8 2, .int .u8 2, .bool false, .bool false, (.func (.func 65) #[] #[])], 0⟩, ⟨.int .u8 4, .agg #[.int .i64 1, .int .u8 1, .int .u8 1, .bool false, .bool false, (.func (.func 67) #[] #[])], 1⟩, ⟨.int .u8 5, v5, 2⟩, ⟨.int .u8 6, v6, 3⟩, ⟨.int .u8 7, v7, 4⟩, ⟨.int .u8 8, v8, 5⟩, ⟨.int .u8 9, v9, 6⟩, ⟨.int .u8 10, v10, 7⟩, ⟨.int .u8 11, v11, 8⟩, ⟨.int .u8 12, v12, 9⟩, ⟨.int .u8 13, v13, 10⟩, ⟨.int .u8 14, v14, 11⟩, ⟨.int .u8 15, v15, 12⟩, ⟨.int .u8 16, v16, 13⟩] 14 = W at *
  clear w'
  refine (mk_17 _).mono ?_
  rintro e w' ⟨v17, rfl, hv, b1⟩
  have hT := HT.out.later b1
  have i17 := ins_at w' g #[⟨.int .u8 3, .agg #[.int .i64 1, .int .u8 2, .int .u8 2, .bool false, .bool false, (.func (.func 65) #[] #[])], 0⟩, ⟨.int .u8 4, .agg #[.int .i64 1, .int .u8 1, .int .u8 1, .bool false, .bool false, (.func (.func 67) #[] #[])], 1⟩, ⟨.int .u8 5, v5, 2⟩, ⟨.int .u8 6, v6, 3⟩, ⟨.int .u8 7, v7, 4⟩, ⟨.int .u8 8, v8, 5⟩, ⟨.int .u8 9, v9, 6⟩, ⟨.int .u8 10, v10, 7⟩, ⟨.int .u8 11, v11, 8⟩, ⟨.int .u8 12, v12, 9⟩, ⟨.int .u8 13, v13, 10⟩, ⟨.int .u8 14, v14, 11⟩, ⟨.int .u8 15, v15, 12⟩, ⟨.int .u8 16, v16, 13⟩] 14 hT.1 17 v17 rfl
  have hT2 : Tab (setMap w' g #[⟨.int .u8 3, .agg #[.int .i64 1, .int .u8 2, .int .u8 2, .bool false, .bool false, (.func (.func 65) #[] #[])], 0⟩, ⟨.int .u8 4, .agg #[.int .i64 1, .int .u8 1, .int .u8 1, .bool false, .bool false, (.func (.func 67) #[] #[])], 1⟩, ⟨.int .u8 5, v5, 2⟩, ⟨.int .u8 6, v6, 3⟩, ⟨.int .u8 7, v7, 4⟩, ⟨.int .u8 8, v8, 5⟩, ⟨.int .u8 9, v9, 6⟩, ⟨.int .u8 10, v10, 7⟩, ⟨.int .u8 11, v11, 8⟩, ⟨.int .u8 12, v12, 9⟩, ⟨.int .u8 13, v13, 10⟩, ⟨.int .u8 14, v14, 11⟩, ⟨.int .u8 15, v15, 12⟩, ⟨.int .u8 16, v16, 13⟩, ⟨.int .u8 17, v17, 14⟩] 15) g #[⟨.int .u8 3, .agg #[.int .i64 1, .int .u8 2, .int .u8 2, .bool false, .bool false, (.func (.func 65) #[] #[])], 0⟩, ⟨.int .u8 4, .agg #[.int .i64 1, .int .u8 1, .int .u8 1, .bool false, .bool false, (.func (.func 67) #[] #[])], 1⟩, ⟨.int .u8 5, v5, 2⟩, ⟨.int .u8 6, v6, 3⟩, ⟨.int .u8 7, v7, 4⟩, ⟨.int .u8 8, v8, 5⟩, ⟨.int .u8 9, v9, 6⟩, ⟨.int .u8 10, v10, 7⟩, ⟨.int .u8 11, v11, 8⟩, ⟨.int .u8 12, v12, 9⟩, ⟨.int .u8 13, v13, 10⟩, ⟨.int .u8 14, v14, 11⟩, ⟨.int .u8 15, v15, 12⟩, ⟨.int .u8 16, v16, 13⟩, ⟨.int .u8 17, v17, 14⟩] 15 := hT.push 17 v17 hv
  have hB2 : Below w.heap.size w (setMap w' g #[⟨.int .u8 3, .agg #[.int .i64 1, .int .u8 2, .int .u8 2, .bool false, .bool false, (.func (.func 65) #[] #[])], 0⟩, ⟨.int .u8 4, .agg #[.int .i64 1, .int .u8 1, .int .u8 1, .bool false, .bool false, (.func (.func 67) #[] #[])], 1⟩, ⟨.int .u8 5, v5, 2⟩, ⟨.int .u8 6, v6, 3⟩, ⟨.int .u8 7, v7, 4⟩, ⟨.int .u8 8, v8, 5⟩, ⟨.int .u8 9, v9, 6⟩, ⟨.int .u8 10, v10, 7⟩, ⟨.int .u8 11, v11, 8⟩, ⟨.int .u8 12, v12, 9⟩, ⟨.int .u8 13, v13, 10⟩, ⟨.int .u8 14, v14, 11⟩, ⟨.int .u8 15, v15, 12⟩, ⟨.int .u8 16, v16, 13⟩, ⟨.int .u8 17, v17, 14⟩] 15) := setMap_below (Later.then HB.out b1) g hgb _ _
  simp only [List.push_toArray, List.nil_append, List.cons_append, Nat.reduceAdd] at i17
  clear HT HB
  have HT := Lib.hid hT2
  have HB := Lib.hid hB2
  clear hT hT2 hB2 b1 hv
  go_wp2_with fail
  clear i17
  generalize setMap w' g #[⟨.int .u8 3, .agg #[.int .i64 1, .int .u8 2, .int .u8 2, .bool false, .bool false, (.func (.func 65) #[] #[])], 0⟩, ⟨.int .u8 4, .agg #[.int .i64 1, .int .u8 1, .int .u8 1, .bool false, .bool false, (.func (.func 67) #[] #[])], 1⟩, ⟨.int .u8 5, v5, 2⟩, ⟨.int .u8 6, v6, 3⟩, ⟨.int .u8 7, v7, 4⟩, ⟨.int .u8 8, v8, 5⟩, ⟨.int .u8 9, v9, 6⟩, ⟨.int .u8 10, v10, 7⟩, ⟨.int .u8 11, v11, 8⟩, ⟨.int .u8 12, v12, 9⟩, ⟨.int .u8 13, v13, 10⟩, ⟨.int .u8 14, v14, 11⟩, ⟨.int .u8 15, v15, 12⟩, ⟨.int .u8 16, v16, 13⟩, ⟨.int .u8 17, v17, 14⟩] 15 = W at *
  clear w'
  refine (mk_18 _).mono ?_
  rintro e w' ⟨v18, rfl, hv, b1⟩
  have hT := HT.out.later b1
  have i18 := ins_at w' g #[⟨.int .u8 3, .agg #[.int .i64 1, .int .u8 2, .int .u8 2, .bool false, .bool false, (.func (.func 65) #[] #[])], 0⟩, ⟨.int .u8 4, .agg #[.int .i64 1, .int .u8 1, .int .u8 1, .bool false, .bool false, (.func (.func 67) #[] #[])], 1⟩, ⟨.int .u8 5, v5, 2⟩, ⟨.int .u8 6, v6, 3⟩, ⟨.int .u8 7, v7, 4⟩, ⟨.int .u8 8, v8, 5⟩, ⟨.int .u8 9, v9, 6⟩, ⟨.int .u8 10, v10, 7⟩, ⟨.int .u8 11, v11, 8⟩, ⟨.int .u8 12, v12, 9⟩, ⟨.int .u8 13, v13, 10⟩, ⟨.int .u8 14, v14, 11⟩, ⟨.int .u8 15, v15, 12⟩, ⟨.int .u8 16, v16, 13⟩, ⟨.int .u8 17, v17, 14⟩] 15 hT.1 18 v18 rfl
  have hT2 : Tab (setMap w' g #[⟨.int .u8 3, .agg #[.int .i64 1, .int .u8 2, .int .u8 2, .bool false, .bool false, (.func (.func 65) #[] #[])], 0⟩, ⟨.int .u8 4, .agg #[.int .i64 1, .int .u8 1, .int .u8 1, .bool false, .bool false, (.func (.func 67) #[] #[])], 1⟩, ⟨.int .u8 5, v5, 2⟩, ⟨.int .u8 6, v6, 3⟩, ⟨.int .u8 7, v7, 4⟩, ⟨.int .u8 8, v8, 5⟩, ⟨.int .u8 9, v9, 6⟩, ⟨.int .u8 10, v10, 7⟩, ⟨.int .u8 11, v11, 8⟩, ⟨.int .u8 12, v12, 9⟩, ⟨.int .u8 13, v13, 10⟩, ⟨.int .u8 14, v14, 11⟩, ⟨.int .u8 15, v15, 12⟩, ⟨.int .u8 16, v16, 13⟩, ⟨.int .u8 17, v17, 14⟩, ⟨.int .u8 18, v18, 15⟩] 16) g #[⟨.int .u8 3, .agg #[.int .i64 1, .int .u8 2, .int .u8 2, .bool false, .bool false, (.func (.func 65) #[] #[])], 0⟩, ⟨.int .u8 4, .agg #[.int .i64 1, .int .u8 1, .int .u8 1, .bool false, .bool false, (.func (.func 67) #[] #[])], 1⟩, ⟨.int .u8 5, v5, 2⟩, ⟨.int .u8 6, v6, 3⟩, ⟨.int .u8 7, v7, 4⟩, ⟨.int .u8 8, v8, 5⟩, ⟨.int .u8 9, v9, 6⟩, ⟨.int .u8 10, v10, 7⟩, ⟨.int .u8 11, v11, 8⟩, ⟨.int .u8 12, v12, 9⟩, ⟨.int .u8 13, v13, 10⟩, ⟨.int .u8 14, v14, 11⟩, ⟨.int .u8 15, v15, 12⟩, ⟨.int .u8 16, v16, 13⟩, ⟨.int .u8 17, v17, 14⟩, ⟨.int .u8 18, v18, 15⟩] 16 := hT.push 18 v18 hv
  have hB2 : Below w.heap.size w (setMap w' g #[⟨.int .u8 3, .agg #[.int .i64 1, .int .u8 2, .int .u8 2, .bool false, .bool false, (.func (.func 65) #[] #[])], 0⟩, ⟨.int .u8 4, .agg #[.int .i64 1, .int .u8 1, .int .u8 1, .bool false, .bool false, (.func (.func 67) #[] #[])], 1⟩, ⟨.int .u8 5, v5, 2⟩, ⟨.int .u8 6, v6, 3⟩, ⟨.int .u8 7, v7, 4⟩, ⟨.int .u8 8, v8, 5⟩, ⟨.int .u8 9, v9, 6⟩, ⟨.int .u8 10, v10, 7⟩, ⟨.int .u8 11, v11, 8⟩, ⟨.int .u8 12, v12, 9⟩, ⟨.int .u8 13, v13, 10⟩, ⟨.int .u8 14, v14, 11⟩, ⟨.int .u8 15, v15, 12⟩, ⟨.int .u8 16, v16, 13⟩, ⟨.int .u8 17, v17, 14⟩, ⟨.int .u8 18, v18, 15⟩] 16) := setMap_below (Later.then HB.out b1) g hgb _ _
  simp only [List.push_toArray, List.nil_append, List.cons_append, Nat.reduceAdd] at i18
  clear HT HB
  have HT := Lib.hid hT2
  have HB := Lib.hid hB2
  clear hT hT2 hB2 b1 hv
  go_wp2_with fail
  clear i18
  generalize setMap w' g #[⟨.int .u8 3, .agg #[.int .i64 1, .int .u8 2, .int .u8 2, .bool false, .bool false, (.func (.func 65) #[] #[])], 0⟩, ⟨.int .u8 4, .agg #[.int .i64 1, .int .u8 1, .int .u8 1, .bool false, .bool false, (.func (.func 67) #[] #[])], 1⟩, ⟨.int .u8 5, v5, 2⟩, ⟨.int .u8 6, v6, 3⟩, ⟨.int .u8 7, v7, 4⟩, ⟨.int .u8 8, v8, 5⟩, ⟨.int .u8 9, v9, 6⟩, ⟨.int .u8 10, v10, 7⟩, ⟨.int .u8 11, v11, 8⟩, ⟨.int .u8 12, v12, 9⟩, ⟨.int .u8 13, v13, 10⟩, ⟨.int .u8 14, v14, 11⟩, ⟨.int .u8 15, v15, 12⟩, ⟨.int .u8 16, v16, 13⟩, ⟨.int .u8 17, v17, 14⟩, ⟨.int .u8 18, v18, 15⟩] 16 = W at *
  clear w'
  refine (mk_19 _).mono ?_
  rintro e w' ⟨v19, rfl, hv, b1⟩
  have hT := HT.out.later b1
  have i19 := ins_at w' g #[⟨.int .u8 3, .agg #[.int .i64 1, .int .u8 2, .int .u8 2, .bool false, .bool false, (.func (.func 65) #[] #[])], 0⟩, ⟨.int .u8 4, .agg #[.int .i64 1, .int .u8 1, .int .u8 1, .bool false, .bool false, (.func (.func 67) #[] #[])], 1⟩, ⟨.int .u8 5, v5, 2⟩, ⟨.int .u8 6, v6, 3⟩, ⟨.int .u8 7, v7, 4⟩, ⟨.int .u8 8, v8, 5⟩, ⟨.int .u8 9, v9, 6⟩, ⟨.int .u8 10, v10, 7⟩, ⟨.int .u8 11, v11, 8⟩, ⟨.int .u8 12, v12, 9⟩, ⟨.int .u8 13, v13, 10⟩, ⟨.int .u8 14, v14, 11⟩, ⟨.int .u8 15, v15, 12⟩, ⟨.int .u8 16, v16, 13⟩, ⟨.int .u8 17, v17, 14⟩, ⟨.int .u8 18, v18, 15⟩] 16 hT.1 19 v19 rfl
  have hT2 : Tab (setMap w' g #[⟨.int .u8 3, .agg #[.int .i64 1, .int .u8 2, .int .u8 2, .bool false, .bool false, (.func (.func 65) #[] #[])], 0⟩, ⟨.int .u8 4, .agg #[.int .i64 1, .int .u8 1, .int .u8 1, .bool false, .bool false, (.func (.func 67) #[] #[])], 1⟩, ⟨.int .u8 5, v5, 2⟩, ⟨.int .u8 6, v6, 3⟩, ⟨.int .u8 7, v7, 4⟩, ⟨.int .u8 8, v8, 5⟩, ⟨.int .u8 9, v9, 6⟩, ⟨.int .u8 10, v10, 7⟩, ⟨.int .u8 11, v11, 8⟩, ⟨.int .u8 12, v12, 9⟩, ⟨.int .u8 13, v13, 10⟩, ⟨.int .u8 14, v14, 11⟩, ⟨.int .u8 15, v15, 12⟩, ⟨.int .u8 16, v16, 13⟩, ⟨.int .u8 17, v17, 14⟩, ⟨.int .u8 18, v18, 15⟩, ⟨.int .u8 19, v19, 16⟩] 17) g #[⟨.int .u8 3, .agg #[.int .i64 1, .int .u8 2, .int .u8 2, .bool false, .bool false, (.func (.func 65) #[] #[])], 0⟩, ⟨.int .u8 4, .agg #[.int .i64 1, .int .u8 1, .int .u8 1, .bool false, .bool false, (.func (.func 67) #[] #[])], 1⟩, ⟨.int .u8 5, v5, 2⟩, ⟨.int .u8 6, v6, 3⟩, ⟨.int .u8 7, v7, 4⟩, ⟨.int .u8 8, v8, 5⟩, ⟨.int .u8 9, v9, 6⟩, ⟨.int .u8 10, v10, 7⟩, ⟨.int .u8 11, v11, 8⟩, ⟨.int .u8 12, v12, 9⟩, ⟨.int .u8 13, v13, 10⟩, ⟨.int .u8 14, v14, 11⟩, ⟨.int .u8 15, v15, 12⟩, ⟨.int .u8 16, v16, 13⟩, ⟨.int .u8 17, v17, 14⟩, ⟨.int .u8 18, v18, 15⟩, ⟨.int .u8 19, v19, 16⟩] 17 := hT.push 19 v19 hv
  have hB2 : Below w.heap.size w (setMap w' g #[⟨.int .u8 3, .agg #[.int .i64 1, .int .u8 2, .int .u8 2, .bool false, .bool false, (.func (.func 65) #[] #[])], 0⟩, ⟨.int .u8 4, .agg #[.int .i64 1, .int .u8 1, .int .u8 1, .bool false, .bool false, (.func (.func 67) #[] #[])], 1⟩, ⟨.int .u8 5, v5, 2⟩, ⟨.int .u8 6, v6, 3⟩, ⟨.int .u8 7, v7, 4⟩, ⟨.int .u8 8, v8, 5⟩, ⟨.int .u8 9, v9, 6⟩, ⟨.int .u8 10, v10, 7⟩, ⟨.int .u8 11, v11, 8⟩, ⟨.int .u8 12, v12, 9⟩, ⟨.int .u8 13, v13, 10⟩, ⟨.int .u8 14, v14, 11⟩, ⟨.int .u8 15, v15, 12⟩, ⟨.int .u8 16, v16, 13⟩, ⟨.int .u8 17, v17, 14⟩, ⟨.int .u8 18, v18, 15⟩, ⟨.int .u8 19, v19, 16⟩] 17) := setMap_below (Later.then HB.out b1) g hgb _ _
  simp only [List.push_toArray, List.nil_append, List.cons_append, Nat.reduceAdd] at i19
  clear HT HB
  have HT := Lib.hid hT2
  have HB := Lib.hid hB2
  clear hT hT2 hB2 b1 hv
  have i20 := ins_at (setMap w' g #[⟨.int .u8 3, .agg #[.int .i64 1, .int .u8 2, .int .u8 2, .bool false, .bool false, (.func (.func 65) #[] #[])], 0⟩, ⟨.int .u8 4, .agg #[.int .i64 1, .int .u8 1, .int .u8 1, .bool false, .bool false, (.func (.func 67) #[] #[])], 1⟩, ⟨.int .u8 5, v5, 2⟩, ⟨.int .u8 6, v6, 3⟩, ⟨.int .u8 7, v7, 4⟩, ⟨.int .u8 8, v8, 5⟩, ⟨.int .u8 9, v9, 6⟩, ⟨.int .u8 10, v10, 7⟩, ⟨.int .u8 11, v11, 8⟩, ⟨.int .u8 12, v12, 9⟩, ⟨.int .u8 13, v13, 10⟩, ⟨.int .u8 14, v14, 11⟩, ⟨.int .u8 15, v15, 12⟩, ⟨.int .u8 16, v16, 13⟩, ⟨.int .u8 17, v17, 14⟩, ⟨.int .u8 18, v18, 15⟩, ⟨.int .u8 19, v19, 16⟩] 17) g #[⟨.int .u8 3, .agg #[.int .i64 1, .int .u8 2, .int .u8 2, .bool false, .bool false, (.func (.func 65) #[] #[])], 0⟩, ⟨.int .u8 4, .agg #[.int .i64 1, .int .u8 1, .int .u8 1, .bool false, .bool false, (.func (.func 67) #[] #[])], 1⟩, ⟨.int .u8 5, v5, 2⟩, ⟨.int .u8 6, v6, 3⟩, ⟨.int .u8 7, v7, 4⟩, ⟨.int .u8 8, v8, 5⟩, ⟨.int .u8 9, v9, 6⟩, ⟨.int .u8 10, v10, 7⟩, ⟨.int .u8 11, v11, 8⟩, ⟨.int .u8 12, v12, 9⟩, ⟨.int .u8 13, v13, 10⟩, ⟨.int .u8 14, v14, 11⟩, ⟨.int .u8 15, v15, 12⟩, ⟨.int .u8 16, v16, 13⟩, ⟨.int .u8 17, v17, 14⟩, ⟨.int .u8 18, v18, 15⟩, ⟨.int .u8 19, v19, 16⟩] 17 HT.out.1 20 (.agg #[.int .i64 1, .int .u8 2, .int .u8 2, .bool false, .bool false, (.func (.func 85) #[] #[])]) rfl
  have hT20 : Tab (setMap (setMap w' g #[⟨.int .u8 3, .agg #[.int .i64 1, .int .u8 2, .int .u8 2, .bool false, .bool false, (.func (.func 65) #[] #[])], 0⟩, ⟨.int .u8 4, .agg #[.int .i64 1, .int .u8 1, .int .u8 1, .bool false, .bool false, (.func (.func 67) #[] #[])], 1⟩, ⟨.int .u8 5, v5, 2⟩, ⟨.int .u8 6, v6, 3⟩, ⟨.int .u8 7, v7, 4⟩, ⟨.int .u8 8, v8, 5⟩, ⟨.int .u8 9, v9, 6⟩, ⟨.int .u8 10, v10, 7⟩, ⟨.int .u8 11, v11, 8⟩, ⟨.int .u8 12, v12, 9⟩, ⟨.int .u8 13, v13, 10⟩, ⟨.int .u8 14, v14, 11⟩, ⟨.int .u8 15, v15, 12⟩, ⟨.int .u8 16, v16, 13⟩, ⟨.int .u8 17, v17, 14⟩, ⟨.int .u8 18, v18, 15⟩, ⟨.int .u8 19, v19, 16⟩] 17) g #[⟨.int .u8 3, .agg #[.int .i64 1, .int .u8 2, .int .u8 2, .bool false, .bool false, (.func (.func 65) #[] #[])], 0⟩, ⟨.int .u8 4, .agg #[.int .i64 1, .int .u8 1, .int .u8 1, .bool false, .bool false, (.func (.func 67) #[] #[])], 1⟩, ⟨.int .u8 5, v5, 2⟩, ⟨.int .u8 6, v6, 3⟩, ⟨.int .u8 7, v7, 4⟩, ⟨.int .u8 8, v8, 5⟩, ⟨.int .u8 9, v9, 6⟩, ⟨.int .u8 10, v10, 7⟩, ⟨.int .u8 11, v11, 8⟩, ⟨.int .u8 12, v12, 9⟩, ⟨.int .u8 13, v13, 10⟩, ⟨.int .u8 14, v14, 11⟩, ⟨.int .u8 15, v15, 12⟩, ⟨.int .u8 16, v16, 13⟩, ⟨.int .u8 17, v17, 14⟩, ⟨.int .u8 18, v18, 15⟩, ⟨.int .u8 19, v19, 16⟩, ⟨.int .u8 20, .agg #[.int .i64 1, .int .u8 2, .int .u8 2, .bool false, .bool false, (.func (.func 85) #[] #[])], 17⟩] 18) g #[⟨.int .u8 3, .agg #[.int .i64 1, .int .u8 2, .int .u8 2, .bool false, .bool false, (.func (.func 65) #[] #[])], 0⟩, ⟨.int .u8 4, .agg #[.int .i64 1, .int .u8 1, .int .u8 1, .bool false, .bool false, (.func (.func 67) #[] #[])], 1⟩, ⟨.int .u8 5, v5, 2⟩, ⟨.int .u8 6, v6, 3⟩, ⟨.int .u8 7, v7, 4⟩, ⟨.int .u8 8, v8, 5⟩, ⟨.int .u8 9, v9, 6⟩, ⟨.int .u8 10, v10, 7⟩, ⟨.int .u8 11, v11, 8⟩, ⟨.int .u8 12, v12, 9⟩, ⟨.int .u8 13, v13, 10⟩, ⟨.int .u8 14, v14, 11⟩, ⟨.int .u8 15, v15, 12⟩, ⟨.int .u8 16, v16, 13⟩, ⟨.int .u8 17, v17, 14⟩, ⟨.int .u8 18, v18, 15⟩, ⟨.int .u8 19, v19, 16⟩, ⟨.int .u8 20, .agg #[.int .i64 1, .int .u8 2, .int .u8 2, .bool false, .bool false, (.func (.func 85) #[] #[])], 17⟩] 18 := HT.out.push 20 (.agg #[.int .i64 1, .int .u8 2, .int .u8 2, .bool false, .bool false, (.func (.func 85) #[] #[])]) rfl
  have hB20 : Below w.heap.size w (setMap (setMap w' g #[⟨.int .u8 3, .agg #[.int .i64 1, .int .u8 2, .int .u8 2, .bool false, .bool false, (.func (.func 65) #[] #[])], 0⟩, ⟨.int .u8 4, .agg #[.int .i64 1, .int .u8 1, .int .u8 1, .bool false, .bool false, (.func (.func 67) #[] #[])], 1⟩, ⟨.int .u8 5, v5, 2⟩, ⟨.int .u8 6, v6, 3⟩, ⟨.int .u8 7, v7, 4⟩, ⟨.int .u8 8, v8, 5⟩, ⟨.int .u8 9, v9, 6⟩, ⟨.int .u8 10, v10, 7⟩, ⟨.int .u8 11, v11, 8⟩, ⟨.int .u8 12, v12, 9⟩, ⟨.int .u8 13, v13, 10⟩, ⟨.int .u8 14, v14, 11⟩, ⟨.int .u8 15, v15, 12⟩, ⟨.int .u8 16, v16, 13⟩, ⟨.int .u8 17, v17, 14⟩, ⟨.int .u8 18, v18, 15⟩, ⟨.int .u8 19, v19, 16⟩] 17) g #[⟨.int .u8 3, .agg #[.int .i64 1, .int .u8 2, .int .u8 2, .bool false, .bool false, (.func (.func 65) #[] #[])], 0⟩, ⟨.int .u8 4, .agg #[.int .i64 1, .int .u8 1, .int .u8 1, .bool false, .bool false, (.func (.func 67) #[] #[])], 1⟩, ⟨.int .u8 5, v5, 2⟩, ⟨.int .u8 6, v6, 3⟩, ⟨.int .u8 7, v7, 4⟩, ⟨.int .u8 8, v8, 5⟩, ⟨.int .u8 9, v9, 6⟩, ⟨.int .u8 10, v10, 7⟩, ⟨.int .u8 11, v11, 8⟩, ⟨.int .u8 12, v12, 9⟩, ⟨.int .u8 13, v13, 10⟩, ⟨.int .u8 14, v14, 11⟩, ⟨.int .u8 15, v15, 12⟩, ⟨.int .u8 16, v16, 13⟩, ⟨.int .u8 17, v17, 14⟩, ⟨.int .u8 18, v18, 15⟩, ⟨.int .u8 19, v19, 16⟩, ⟨.int .u8 20, .agg #[.int .i64 1, .int .u8 2, .int .u8 2, .bool false, .bool false, (.func (.func 85) #[] #[])], 17⟩] 18) := setMap_below HB.out g hgb _ _
  simp only [List.push_toArray, List.nil_append, List.cons_append, Nat.reduceAdd] at i20
  clear HT HB
  have HT := Lib.hid hT20
  have HB := Lib.hid hB20
  clear hT20 hB20
  go_wp2_with fail
  clear i19 i20
  generalize setMap (setMap w' g #[⟨.int .u8 3, .agg #[.int .i64 1, .int .u8 2, .int .u8 2, .bool false, .bool false, (.func (.func 65) #[] #[])], 0⟩, ⟨.int .u8 4, .agg #[.int .i64 1, .int .u8 1, .int .u8 1, .bool false, .bool false, (.func (.func 67) #[] #[])], 1⟩, ⟨.int .u8 5, v5, 2⟩, ⟨.int .u8 6, v6, 3⟩, ⟨.int .u8 7, v7, 4⟩, ⟨.int .u8 8, v8, 5⟩, ⟨.int .u8 9, v9, 6⟩, ⟨.int .u8 10, v10, 7⟩, ⟨.int .u8 11, v11, 8⟩, ⟨.int .u8 12, v12, 9⟩, ⟨.int .u8 13, v13, 10⟩, ⟨.int .u8 14, v14, 11⟩, ⟨.int .u8 15, v15, 12⟩, ⟨.int .u8 16, v16, 13⟩, ⟨.int .u8 17, v17, 14⟩, ⟨.int .u8 18, v18, 15⟩, ⟨.int .u8 19, v19, 16⟩] 17) g #[⟨.int .u8 3, .agg #[.int .i64 1, .int .u8 2, .int .u8 2, .bool false, .bool false, (.func (.func 65) #[] #[])], 0⟩, ⟨.int .u8 4, .agg #[.int .i64 1, .int .u8 1, .int .u8 1, .bool false, .bool false, (.func (.func 67) #[] #[])], 1⟩, ⟨.int .u8 5, v5, 2⟩, ⟨.int .u8 6, v6, 3⟩, ⟨.int .u8 7, v7, 4⟩, ⟨.int .u8 8, v8, 5⟩, ⟨.int .u8 9, v9, 6⟩, ⟨.int .u8 10, v10, 7⟩, ⟨.int .u8 11, v11, 8⟩, ⟨.int .u8 12, v12, 9⟩, ⟨.int .u8 13, v13, 10⟩, ⟨.int .u8 14, v14, 11⟩, ⟨.int .u8 15, v15, 12⟩, ⟨.int .u8 16, v16, 13⟩, ⟨.int .u8 17, v17, 14⟩, ⟨.int .u8 18, v18, 15⟩, ⟨.int .u8 19, v19, 16⟩, ⟨.int .u8 20, .agg #[.int .i64 1, .int .u8 2, .int .u8 2, .bool false, .bool false, (.func (.func 85) #[] #[])], 17⟩] 18 = W at *
  go_ret
  refine ⟨g, _, rfl, HT.out, ?_, ?_, HB.out⟩
  · intro k h1 h2
    have hk : k = 3 ∨ k = 4 ∨ k = 5 ∨ k = 6 ∨ k = 7 ∨ k = 8 ∨ k = 9 ∨ k = 10 ∨ k = 11 ∨ k = 12 ∨ k = 13 ∨ k = 14 ∨ k = 15 ∨ k = 16 ∨ k = 17 ∨ k = 18 ∨ k = 19 ∨ k = 20 := by omega
    rcases hk with rfl | rfl | rfl | rfl | rfl | rfl | rfl | rfl | rfl | rfl | rfl | rfl | rfl | rfl | rfl | rfl | rfl | rfl
    · exact ⟨0, _, rfl, Tab.at_ HT.out (k := 3) (i := 0) (by simp)⟩
    · exact ⟨1, _, rfl, Tab.at_ HT.out (k := 4) (i := 1) (by simp)⟩
    · exact ⟨2, _, rfl, Tab.at_ HT.out (k := 5) (i := 2) (by simp)⟩
    · exact ⟨3, _, rfl, Tab.at_ HT.out (k := 6) (i := 3) (by simp)⟩
    · exact ⟨4, _, rfl, Tab.at_ HT.out (k := 7) (i := 4) (by simp)⟩
    · exact ⟨5, _, rfl, Tab.at_ HT.out (k := 8) (i := 5) (by simp)⟩
    · exact ⟨6, _, rfl, Tab.at_ HT.out (k := 9) (i := 6) (by simp)⟩
    · exact ⟨7, _, rfl, Tab.at_ HT.out (k := 10) (i := 7) (by simp)⟩
    · exact ⟨8, _, rfl, Tab.at_ HT.out (k := 11) (i := 8) (by simp)⟩
    · exact ⟨9, _, rfl, Tab.at_ HT.out (k := 12) (i := 9) (by simp)⟩
    · exact ⟨10, _, rfl, Tab.at_ HT.out (k := 13) (i := 10) (by simp)⟩
    · exact ⟨11, _, rfl, Tab.at_ HT.out (k := 14) (i := 11) (by simp)⟩
    · exact ⟨12, _, rfl, Tab.at_ HT.out (k := 15) (i := 12) (by simp)⟩
    · exact ⟨13, _, rfl, Tab.at_ HT.out (k := 16) (i := 13) (by simp)⟩
    · exact ⟨14, _, rfl, Tab.at_ HT.out (k := 17) (i := 14) (by simp)⟩
    · exact ⟨15, _, rfl, Tab.at_ HT.out (k := 18) (i := 15) (by simp)⟩
    · exact ⟨16, _, rfl, Tab.at_ HT.out (k := 19) (i := 16) (by simp)⟩
    · exact ⟨17, _, rfl, Tab.at_ HT.out (k := 20) (i := 17) (by simp)⟩
  · intro k hk
    have q : ∀ j : Int, 3 ≤ j → j ≤ 20 → (k == j) = false := fun j h1 h2 => by rw [beq_eq_false_iff_ne]; omega
    simp only [Instr.findNow, Instr.sameNow]
    simp [q 3, q 4, q 5, q 6, q 7, q 8, q 9, q 10, q 11, q 12, q 13, q 14, q 15, q 16, q 17, q 18, q 19, q 20]
end Go.Proofs.Ytlfahfoffdbpfaa
