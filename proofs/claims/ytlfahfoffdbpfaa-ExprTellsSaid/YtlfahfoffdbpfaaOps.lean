/- The table of operations: what New builds. Printed by gen_ops.py. -/
import Derived.Test.YtlfahfoffdbpfaaDo3
import Derived.MapKept
import Derived.Laws.EntriesVeiled
namespace Go.Proofs.Ytlfahfoffdbpfaa
open Go.ChangeShapes Go.WideShapes Go.ChangeAt Go.RowKit
set_option linter.unusedVariables false
set_option linter.unusedSimpArgs false

def mkOp (args wants gives : Int) (alike nulls : Bool) (d : Value) : Value := .agg #[.int .i64 args, .int .u8 wants, .int .u8 gives, .bool alike, .bool nulls, d]
/-- what stands in the table under k -/
def OpIs (w : World) : Nat → Value → Prop
  | 3, v => v = mkOp 1 2 2 false false (.func (.func 65) #[] #[])
  | 4, v => v = mkOp 1 1 1 false false (.func (.func 67) #[] #[])
  | 5, v => ∃ q, v = mkOp 2 2 2 false false (.func (.func 95) #[] #[.pointer (some ⟨q, 0, none⟩)]) ∧ Blk w q 96 #[(.func (.func 70) #[] #[])]
  | 6, v => ∃ q, v = mkOp 2 2 2 false false (.func (.func 95) #[] #[.pointer (some ⟨q, 0, none⟩)]) ∧ Blk w q 96 #[(.func (.func 71) #[] #[])]
  | 7, v => ∃ q, v = mkOp 2 2 2 false false (.func (.func 95) #[] #[.pointer (some ⟨q, 0, none⟩)]) ∧ Blk w q 96 #[(.func (.func 72) #[] #[])]
  | 8, v => ∃ q q2, v = mkOp 2 2 2 false false (.func (.func 95) #[] #[.pointer (some ⟨q, 0, none⟩)]) ∧ Blk w q 96 #[(.func (.func 96) #[] #[.pointer (some ⟨q2, 0, none⟩)])] ∧ Blk w q2 96 #[(.func (.func 74) #[] #[])]
  | 9, v => ∃ q q2, v = mkOp 2 2 2 false false (.func (.func 95) #[] #[.pointer (some ⟨q, 0, none⟩)]) ∧ Blk w q 96 #[(.func (.func 96) #[] #[.pointer (some ⟨q2, 0, none⟩)])] ∧ Blk w q2 96 #[(.func (.func 75) #[] #[])]
  | 10, v => ∃ q, v = mkOp 2 0 1 true false (.func (.func 97) #[] #[.pointer (some ⟨q, 0, none⟩)]) ∧ Blk w q 98 #[(.func (.func 77) #[] #[])]
  | 11, v => ∃ q, v = mkOp 2 0 1 true false (.func (.func 97) #[] #[.pointer (some ⟨q, 0, none⟩)]) ∧ Blk w q 98 #[(.func (.func 78) #[] #[])]
  | 12, v => ∃ q, v = mkOp 2 0 1 true false (.func (.func 97) #[] #[.pointer (some ⟨q, 0, none⟩)]) ∧ Blk w q 98 #[(.func (.func 79) #[] #[])]
  | 13, v => ∃ q, v = mkOp 2 0 1 true false (.func (.func 97) #[] #[.pointer (some ⟨q, 0, none⟩)]) ∧ Blk w q 98 #[(.func (.func 80) #[] #[])]
  | 14, v => ∃ q, v = mkOp 2 0 1 true false (.func (.func 97) #[] #[.pointer (some ⟨q, 0, none⟩)]) ∧ Blk w q 98 #[(.func (.func 81) #[] #[])]
  | 15, v => ∃ q, v = mkOp 2 0 1 true false (.func (.func 97) #[] #[.pointer (some ⟨q, 0, none⟩)]) ∧ Blk w q 98 #[(.func (.func 82) #[] #[])]
  | 16, v => ∃ q, v = mkOp 2 1 1 false true (.func (.func 98) #[] #[.pointer (some ⟨q, 0, none⟩)]) ∧ Blk w q 4 #[.bool false]
  | 17, v => ∃ q, v = mkOp 2 1 1 false true (.func (.func 98) #[] #[.pointer (some ⟨q, 0, none⟩)]) ∧ Blk w q 4 #[.bool true]
  | 18, v => ∃ q, v = mkOp 1 0 1 false true (.func (.func 100) #[] #[.pointer (some ⟨q, 0, none⟩)]) ∧ Blk w q 4 #[.bool true]
  | 19, v => ∃ q, v = mkOp 1 0 1 false true (.func (.func 100) #[] #[.pointer (some ⟨q, 0, none⟩)]) ∧ Blk w q 4 #[.bool false]
  | 20, v => v = mkOp 1 2 2 false false (.func (.func 85) #[] #[])
  | _, _ => False
theorem OpIs.keep {w w' : World} (hk : ∀ (q : Nat) (t : TypeId) (cs : Array Value), Blk w q t cs → Blk w' q t cs) : ∀ (k : Nat) (v : Value), OpIs w k v → OpIs w' k v := by
  intro k v h
  unfold OpIs at *
  split at h
  · exact h
  · exact h
  · obtain ⟨q, h1, h2⟩ := h; exact ⟨q, h1, hk _ _ _ h2⟩
  · obtain ⟨q, h1, h2⟩ := h; exact ⟨q, h1, hk _ _ _ h2⟩
  · obtain ⟨q, h1, h2⟩ := h; exact ⟨q, h1, hk _ _ _ h2⟩
  · obtain ⟨q, q2, h1, h2, h3⟩ := h; exact ⟨q, q2, h1, hk _ _ _ h2, hk _ _ _ h3⟩
  · obtain ⟨q, q2, h1, h2, h3⟩ := h; exact ⟨q, q2, h1, hk _ _ _ h2, hk _ _ _ h3⟩
  · obtain ⟨q, h1, h2⟩ := h; exact ⟨q, h1, hk _ _ _ h2⟩
  · obtain ⟨q, h1, h2⟩ := h; exact ⟨q, h1, hk _ _ _ h2⟩
  · obtain ⟨q, h1, h2⟩ := h; exact ⟨q, h1, hk _ _ _ h2⟩
  · obtain ⟨q, h1, h2⟩ := h; exact ⟨q, h1, hk _ _ _ h2⟩
  · obtain ⟨q, h1, h2⟩ := h; exact ⟨q, h1, hk _ _ _ h2⟩
  · obtain ⟨q, h1, h2⟩ := h; exact ⟨q, h1, hk _ _ _ h2⟩
  · obtain ⟨q, h1, h2⟩ := h; exact ⟨q, h1, hk _ _ _ h2⟩
  · obtain ⟨q, h1, h2⟩ := h; exact ⟨q, h1, hk _ _ _ h2⟩
  · obtain ⟨q, h1, h2⟩ := h; exact ⟨q, h1, hk _ _ _ h2⟩
  · obtain ⟨q, h1, h2⟩ := h; exact ⟨q, h1, hk _ _ _ h2⟩
  · exact h
  · exact h

/-- the table, so far -/
def Tab (w : World) (g : Nat) (es : Array MapEntry) (c : Nat) : Prop := w.heap[g]? = some (.map es c) ∧ ∀ e ∈ es.toList, ∃ k : Nat, e.key = .int .u8 k ∧ OpIs w k e.val
theorem Tab.lt {w : World} {g : Nat} {es : Array MapEntry} {c : Nat} (h : Tab w g es c) : g < w.heap.size := by
  rcases Nat.lt_or_ge g w.heap.size with hlt | hge
  · exact hlt
  · have := h.1; rw [Array.getElem?_eq_none hge] at this; cases this
theorem Tab.later {w w' : World} {g : Nat} {es : Array MapEntry} {c : Nat} (h : Tab w g es c) (hb : Below w.heap.size w w') : Tab w' g es c :=
  ⟨(hb.block g h.lt).trans h.1, fun e he => by obtain ⟨k, h1, h2⟩ := h.2 e he; exact ⟨k, h1, h2.keep (fun q t cs hq => hq.later hb) _ _⟩⟩
/-- the world with another map at g -/
def setMap (w : World) (g : Nat) (es : Array MapEntry) (c : Nat) : World := { w with heap := w.heap.setIfInBounds g (.map es c) }
theorem setMap_below {B : Nat} {w0 w : World} (h : Below B w0 w) (g : Nat) (hg : B ≤ g) (es : Array MapEntry) (c : Nat) : Below B w0 (setMap w g es c) := by
  refine ⟨h.os, h.tape, h.output, ?_, fun k hk => ?_⟩
  · have := h.size; simp [setMap]; exact this
  · rw [← h.block k hk]
    simp only [setMap, Array.getElem?_setIfInBounds]
    rw [if_neg (by omega)]
theorem Tab.push {w : World} {g : Nat} {es : Array MapEntry} {c : Nat} (h : Tab w g es c) (k : Nat) (v : Value) (hv : OpIs w k v) : Tab (setMap w g (es.push ⟨.int .u8 k, v, c⟩) (c + 1)) g (es.push ⟨.int .u8 k, v, c⟩) (c + 1) := by
  have hlt := h.lt
  have keep : ∀ (q : Nat) (t : TypeId) (cs : Array Value), Blk w q t cs → Blk (setMap w g (es.push ⟨.int .u8 k, v, c⟩) (c + 1)) q t cs := by
    intro q t cs hq
    have hne : g ≠ q := by
      intro e
      subst e
      have h1 := h.1
      unfold Blk at hq
      rw [hq] at h1
      cases h1
    unfold Blk at *
    simp only [setMap, Array.getElem?_setIfInBounds]
    rw [if_neg hne]
    exact hq
  refine ⟨by simp [setMap, hlt], fun e he => ?_⟩
  rw [Array.toList_push] at he
  rcases List.mem_append.1 he with he | he
  · obtain ⟨k', h1, h2⟩ := h.2 e he
    exact ⟨k', h1, h2.keep keep _ _⟩
  · simp at he
    subst he
    exact ⟨k, rfl, hv.keep keep _ _⟩

theorem key_u8 (e : Bool) (k : Int) (w : World) : (Instr.checkKey e 10000 5 (.int .u8 k)).run Try.prog w = .ok () w :=
  MapKept.run_checkKey Try.underlying5 (by simp [MapKept.IsKey]) e 9999
/-- a new entry goes in at the end -/
theorem ins_at (w : World) (g : Nat) (es : Array MapEntry) (c : Nat) (hg : w.heap[g]? = some (.map es c)) (k : Int) (v : Value) (hf : Instr.findNow (.int .u8) (.int .u8 k) es.toList 0 = some none) :
    (Instr.mapUpdate 72 (.map (some g)) (.int .u8 k) v).run Try.prog w = .ok () (setMap w g (es.push ⟨.int .u8 k, v, c⟩) (c + 1)) := by
  unfold Instr.mapUpdate
  simp only [Sem.run_bind, run_underlying Try.underlying72, Result.andThen_ok, MapKept.run_getObj_map hg, key_u8, Instr.findKey, run_underlying Try.underlying5, hf, Sem.run_pure, MapKept.run_setObj_map _ hg]
  rfl

def numbers_post (fv : Value) (w : World) (e : Ending) (w' : World) : Prop := ∃ q, e = .returned (.agg #[.int .i64 2, .int .u8 2, .int .u8 2, .bool false, .bool false, (.func (.func 95) #[] #[.pointer (some ⟨q, 0, none⟩)])]) ∧ Blk w' q 96 #[fv] ∧ Below w.heap.size w w'
set_option maxHeartbeats 1000000 in
set_option maxRecDepth 100000 in
theorem numbers_any (F0 : Fn) (C0 : Array Value) (w : World) : Calls Try.prog 69 #[.func F0 #[] C0] w (numbers_post (.func F0 #[] C0) w) := by
  have hmf : ∀ (fn : Fn) (first cap : Array Value) (w : World), (Instr.makeFunc fn first cap).run Try.prog w = .ok (.func fn first cap) w := fun _ _ _ _ => rfl
  go_enter Try.func69, Try.ntmps69
  go_wp2
  refine bodyPost_ret (v := .agg #[.int .i64 2, .int .u8 2, .int .u8 2, .bool false, .bool false, (.func (.func 95) #[] #[.pointer (some ⟨w.heap.size, 0, none⟩)])]) ?_ rfl ?_
  · simp [results, Try.results69, go_sem]; try rfl
  · exact ⟨w.heap.size, rfl, (Blk.new w 96 #[.func F0 #[] C0]).alloc _, by go_grown⟩

def order_post (fv : Value) (w : World) (e : Ending) (w' : World) : Prop := ∃ q, e = .returned (.agg #[.int .i64 2, .int .u8 0, .int .u8 1, .bool true, .bool false, (.func (.func 97) #[] #[.pointer (some ⟨q, 0, none⟩)])]) ∧ Blk w' q 98 #[fv] ∧ Below w.heap.size w w'
set_option maxHeartbeats 1000000 in
set_option maxRecDepth 100000 in
theorem order_any (F0 : Fn) (C0 : Array Value) (w : World) : Calls Try.prog 76 #[.func F0 #[] C0] w (order_post (.func F0 #[] C0) w) := by
  have hmf : ∀ (fn : Fn) (first cap : Array Value) (w : World), (Instr.makeFunc fn first cap).run Try.prog w = .ok (.func fn first cap) w := fun _ _ _ _ => rfl
  go_enter Try.func76, Try.ntmps76
  go_wp2
  refine bodyPost_ret (v := .agg #[.int .i64 2, .int .u8 0, .int .u8 1, .bool true, .bool false, (.func (.func 97) #[] #[.pointer (some ⟨w.heap.size, 0, none⟩)])]) ?_ rfl ?_
  · simp [results, Try.results76, go_sem]; try rfl
  · exact ⟨w.heap.size, rfl, (Blk.new w 98 #[.func F0 #[] C0]).alloc _, by go_grown⟩

def logic_post (fv : Bool) (w : World) (e : Ending) (w' : World) : Prop := ∃ q, e = .returned (.agg #[.int .i64 2, .int .u8 1, .int .u8 1, .bool false, .bool true, (.func (.func 98) #[] #[.pointer (some ⟨q, 0, none⟩)])]) ∧ Blk w' q 4 #[.bool fv] ∧ Below w.heap.size w w'
set_option maxHeartbeats 1000000 in
set_option maxRecDepth 100000 in
theorem logic_any (fv : Bool) (w : World) : Calls Try.prog 83 #[.bool fv] w (logic_post fv w) := by
  have hmf : ∀ (fn : Fn) (first cap : Array Value) (w : World), (Instr.makeFunc fn first cap).run Try.prog w = .ok (.func fn first cap) w := fun _ _ _ _ => rfl
  go_enter Try.func83, Try.ntmps83
  go_wp2
  refine bodyPost_ret (v := .agg #[.int .i64 2, .int .u8 1, .int .u8 1, .bool false, .bool true, (.func (.func 98) #[] #[.pointer (some ⟨w.heap.size, 0, none⟩)])]) ?_ rfl ?_
  · simp [results, Try.results83, go_sem]; try rfl
  · exact ⟨w.heap.size, rfl, (Blk.new w 4 #[.bool fv]).alloc _, by go_grown⟩

def nulls_post (fv : Bool) (w : World) (e : Ending) (w' : World) : Prop := ∃ q, e = .returned (.agg #[.int .i64 1, .int .u8 0, .int .u8 1, .bool false, .bool true, (.func (.func 100) #[] #[.pointer (some ⟨q, 0, none⟩)])]) ∧ Blk w' q 4 #[.bool fv] ∧ Below w.heap.size w w'
set_option maxHeartbeats 1000000 in
set_option maxRecDepth 100000 in
theorem nulls_any (fv : Bool) (w : World) : Calls Try.prog 84 #[.bool fv] w (nulls_post fv w) := by
  have hmf : ∀ (fn : Fn) (first cap : Array Value) (w : World), (Instr.makeFunc fn first cap).run Try.prog w = .ok (.func fn first cap) w := fun _ _ _ _ => rfl
  go_enter Try.func84, Try.ntmps84
  go_wp2
  refine bodyPost_ret (v := .agg #[.int .i64 1, .int .u8 0, .int .u8 1, .bool false, .bool true, (.func (.func 100) #[] #[.pointer (some ⟨w.heap.size, 0, none⟩)])]) ?_ rfl ?_
  · simp [results, Try.results84, go_sem]; try rfl
  · exact ⟨w.heap.size, rfl, (Blk.new w 4 #[.bool fv]).alloc _, by go_grown⟩

def by_post (F0 : Fn) (C0 : Array Value) (w : World) (e : Ending) (w' : World) : Prop := ∃ q q2, e = .returned (.agg #[.int .i64 2, .int .u8 2, .int .u8 2, .bool false, .bool false, (.func (.func 95) #[] #[.pointer (some ⟨q, 0, none⟩)])]) ∧ Blk w' q 96 #[.func (.func 96) #[] #[.pointer (some ⟨q2, 0, none⟩)]] ∧ Blk w' q2 96 #[.func F0 #[] C0] ∧ Below w.heap.size w w'
set_option maxHeartbeats 1000000 in
set_option maxRecDepth 100000 in
theorem by_make (F0 : Fn) (C0 : Array Value) (w : World) : Calls Try.prog 73 #[.func F0 #[] C0] w (by_post F0 C0 w) := by
  have hmf : ∀ (fn : Fn) (first cap : Array Value) (w : World), (Instr.makeFunc fn first cap).run Try.prog w = .ok (.func fn first cap) w := fun _ _ _ _ => rfl
  go_enter Try.func73, Try.ntmps73
  go_wp2_with fail
  have h2 := (Blk.new w 96 #[.func F0 #[] C0]).alloc (.cells #[.int .i64 0, .int .u8 0, .int .u8 0, .bool false, .bool false, .nilFunc] 60)
  have hR := Blk.new (w.alloc (.cells #[.func F0 #[] C0] 96)) 60 #[.int .i64 0, .int .u8 0, .int .u8 0, .bool false, .bool false, .nilFunc]
  rw [World.size_alloc] at hR
  have hB := Later.then (later_new w (.cells #[.func F0 #[] C0] 96)) (later_new _ (.cells #[.int .i64 0, .int .u8 0, .int .u8 0, .bool false, .bool false, .nilFunc] 60))
  generalize (w.alloc (.cells #[.func F0 #[] C0] 96)).alloc (.cells #[.int .i64 0, .int .u8 0, .int .u8 0, .bool false, .bool false, .nilFunc] 60) = W at *
  have hgw : w.heap.size ≤ w.heap.size + 1 := by omega
  have hne : w.heap.size ≠ w.heap.size + 1 := by omega
  generalize w.heap.size + 1 = g at *
  refine (numbers_any _ _ _).mono ?_
  rintro e w1 ⟨q, rfl, hq, b1⟩
  replace h2 := h2.later b1
  replace hR := hR.later b1
  replace hB := Later.then hB b1
  clear b1
  have hqg : q ≠ g := fun e => by
    subst e
    unfold Blk at hq hR
    rw [hq] at hR
    injection hR with hR
    injection hR with _ hR _
    revert hR
    decide
  have cR : ∀ i, i < 6 → ∃ u, w1.cell? ⟨g, i, none⟩ = some u := fun i hi => ⟨_, (hR.cell i).trans (Array.getElem?_eq_getElem (by simpa using hi))⟩
  have c0 := hR.cell 0
  have c1 := hR.cell 1
  have c2 := hR.cell 2
  have c3 := hR.cell 3
  have c4 := hR.cell 4
  have c5 := hR.cell 5
  simp only [List.getElem?_toArray, List.getElem?_cons_zero, List.getElem?_cons_succ] at c0 c1 c2 c3 c4 c5
  have fR := hR.frozen
  clear cR hR
  go_wp2_with fail
  refine bodyPost_ret (v := .agg #[.int .i64 2, .int .u8 2, .int .u8 2, .bool false, .bool false, (.func (.func 95) #[] #[.pointer (some ⟨q, 0, none⟩)])]) ?_ rfl ?_
  · simp [results, Try.results73, go_sem, c0, c1, c2, c3, c4, c5]
  · exact ⟨q, w.heap.size, rfl, (((((hq.far (p := ⟨g, 0, none⟩) hqg _).far (p := ⟨g, 1, none⟩) hqg _).far (p := ⟨g, 2, none⟩) hqg _).far (p := ⟨g, 3, none⟩) hqg _).far (p := ⟨g, 4, none⟩) hqg _).far (p := ⟨g, 5, none⟩) hqg _, (((((h2.far (p := ⟨g, 0, none⟩) hne _).far (p := ⟨g, 1, none⟩) hne _).far (p := ⟨g, 2, none⟩) hne _).far (p := ⟨g, 3, none⟩) hne _).far (p := ⟨g, 4, none⟩) hne _).far (p := ⟨g, 5, none⟩) hne _, (((((hB.setCell hgw _).setCell hgw _).setCell hgw _).setCell hgw _).setCell hgw _).setCell hgw _⟩

end Go.Proofs.Ytlfahfoffdbpfaa
