/- What the operations of layer 15 do, as the table's closures: each one's contract. Printed by gen_do2.py. -/
import Derived.Test.YtlfahfoffdbpfaaDo
namespace Go.Proofs.Ytlfahfoffdbpfaa
open Go.ChangeShapes Go.WideShapes Go.ChangeAt Go.RowKit
set_option linter.unusedVariables false
set_option linter.unusedSimpArgs false

theorem add_tup (a b : Int) (w : World) : Calls Try.prog 70 #[.int .i64 a, .int .i64 b] w fun e w' => e = .returned (.tuple #[.agg #[.int .u8 (addT a b).1.k, .int .i64 (addT a b).1.n, .string (addT a b).1.s], .int .i64 (addT a b).2]) ∧ Below w.heap.size w w' := add_any a b w
set_option maxHeartbeats 2000000 in
set_option maxRecDepth 100000 in
theorem do_add (x : Ex) (A : Option Addr) (c q : Nat) (a b' : Val) (w : World) (h : RV w w.heap.size A [a, b']) (hq : Blk w q 96 #[.func (.func 70) #[] #[]]) : Calls Try.prog 95 #[.agg #[.int .u8 x.op, .int .u8 x.v.k, .int .i64 x.v.n, .string x.v.s, .string x.name, .int .i64 x.width, .slice x.A x.n x.c], .slice A 2 c, .pointer (some ⟨q, 0, none⟩)] w fun e w' => e = .returned (ansV (addT a.n b'.n).1 (addT a.n b'.n).2) ∧ Below w.heap.size w w' := by
  obtain ⟨b, off, rfl, hb, hv, hu⟩ := h.two
  go_enter Try.func95, Try.ntmps95
  go_wp2_with fail
  have hB := Later.then (later_new w (.cells #[.int .u8 x.op, .int .u8 x.v.k, .int .i64 x.v.n, .string x.v.s, .string x.name, .int .i64 x.width, .slice x.A x.n x.c] 36)) (later_new _ (.cells #[.int .u8 0, .int .i64 0, .string ⟨#[]⟩] 23))
  have hR := Blk.new (w.alloc (.cells #[.int .u8 x.op, .int .u8 x.v.k, .int .i64 x.v.n, .string x.v.s, .string x.name, .int .i64 x.width, .slice x.A x.n x.c] 36)) 23 #[.int .u8 0, .int .i64 0, .string ⟨#[]⟩]
  have hX := (Blk.new w 36 #[.int .u8 x.op, .int .u8 x.v.k, .int .i64 x.v.n, .string x.v.s, .string x.name, .int .i64 x.width, .slice x.A x.n x.c]).alloc (.cells #[.int .u8 0, .int .i64 0, .string ⟨#[]⟩] 23)
  rw [World.size_alloc] at hR
  generalize hWW : (w.alloc (.cells #[.int .u8 x.op, .int .u8 x.v.k, .int .i64 x.v.n, .string x.v.s, .string x.name, .int .i64 x.width, .slice x.A x.n x.c] 36)).alloc (.cells #[.int .u8 0, .int .i64 0, .string ⟨#[]⟩] 23) = W at *
  clear hWW
  replace hv := hv.keep (w' := W) fun o => hB.cell (p := ⟨b, o, none⟩) hb
  replace hu := hu.keep (w' := W) fun o => hB.cell (p := ⟨b, o, none⟩) hb
  have hb2 : b < W.heap.size := Nat.lt_of_lt_of_le hb hB.size
  have cV := fun y : Ext W.heap.size W => hv.keep (w' := y.w) fun o => y.cell (p := ⟨b, o, none⟩) hb2
  have cU := fun y : Ext W.heap.size W => hu.keep (w' := y.w) fun o => y.cell (p := ⟨b, o, none⟩) hb2
  unfold ValAt at cV cU
  have hq2 : Blk W q 96 #[.func (.func 70) #[] #[]] := hq.later hB
  have cQ := fun y : Ext W.heap.size W => (hq2.later y.h).cell 0
  simp only [List.getElem?_toArray, List.getElem?_cons_zero] at cQ
  have hgw : w.heap.size ≤ w.heap.size + 1 := by omega
  generalize w.heap.size + 1 = g at *
  refine region_cut 12 W.heap.size W (Below.refl _ _) (by kernel_rfl) (by kernel_rfl) (by kernel_rfl) (by kernel_rfl) ?_
  simp only [List.take_succ_cons, List.take_zero, List.drop_succ_cons, List.drop_zero]
  repeat (go_big_quiet_step (first
    | (go_at_call 70; exact calls_later (Nat.le_refl _) (add_tup a.n b'.n _))))
  refine wpQuiet_nil ?_
  rintro W2 ⟨y2, hy2⟩
  have hW := y2.h
  rw [← hy2] at hW
  clear hy2 y2 cV cU cQ
  replace hR := hR.later hW
  replace hB := Later.then hB hW
  generalize hr : (addT a.n b'.n) = r at *
  have HE := Lib.hid hr
  clear hr
  have hR1 := val_cells hR
  have hR3 := Blk.frozen hR
  clear hR
  go_wp2_with fail
  exact bodyPost_ret (v := .tuple #[.agg #[.int .u8 r.1.k, .int .i64 r.1.n, .string r.1.s], .int .i64 r.2]) (by simp [results, Try.results95, go_sem, hR1]) rfl ⟨by rw [HE.out]; rfl, ((hB.setCell (hgw) _).setCell (hgw) _).setCell (hgw) _⟩

theorem sub_tup (a b : Int) (w : World) : Calls Try.prog 71 #[.int .i64 a, .int .i64 b] w fun e w' => e = .returned (.tuple #[.agg #[.int .u8 (subT a b).1.k, .int .i64 (subT a b).1.n, .string (subT a b).1.s], .int .i64 (subT a b).2]) ∧ Below w.heap.size w w' := sub_any a b w
set_option maxHeartbeats 2000000 in
set_option maxRecDepth 100000 in
theorem do_sub (x : Ex) (A : Option Addr) (c q : Nat) (a b' : Val) (w : World) (h : RV w w.heap.size A [a, b']) (hq : Blk w q 96 #[.func (.func 71) #[] #[]]) : Calls Try.prog 95 #[.agg #[.int .u8 x.op, .int .u8 x.v.k, .int .i64 x.v.n, .string x.v.s, .string x.name, .int .i64 x.width, .slice x.A x.n x.c], .slice A 2 c, .pointer (some ⟨q, 0, none⟩)] w fun e w' => e = .returned (ansV (subT a.n b'.n).1 (subT a.n b'.n).2) ∧ Below w.heap.size w w' := by
  obtain ⟨b, off, rfl, hb, hv, hu⟩ := h.two
  go_enter Try.func95, Try.ntmps95
  go_wp2_with fail
  have hB := Later.then (later_new w (.cells #[.int .u8 x.op, .int .u8 x.v.k, .int .i64 x.v.n, .string x.v.s, .string x.name, .int .i64 x.width, .slice x.A x.n x.c] 36)) (later_new _ (.cells #[.int .u8 0, .int .i64 0, .string ⟨#[]⟩] 23))
  have hR := Blk.new (w.alloc (.cells #[.int .u8 x.op, .int .u8 x.v.k, .int .i64 x.v.n, .string x.v.s, .string x.name, .int .i64 x.width, .slice x.A x.n x.c] 36)) 23 #[.int .u8 0, .int .i64 0, .string ⟨#[]⟩]
  have hX := (Blk.new w 36 #[.int .u8 x.op, .int .u8 x.v.k, .int .i64 x.v.n, .string x.v.s, .string x.name, .int .i64 x.width, .slice x.A x.n x.c]).alloc (.cells #[.int .u8 0, .int .i64 0, .string ⟨#[]⟩] 23)
  rw [World.size_alloc] at hR
  generalize hWW : (w.alloc (.cells #[.int .u8 x.op, .int .u8 x.v.k, .int .i64 x.v.n, .string x.v.s, .string x.name, .int .i64 x.width, .slice x.A x.n x.c] 36)).alloc (.cells #[.int .u8 0, .int .i64 0, .string ⟨#[]⟩] 23) = W at *
  clear hWW
  replace hv := hv.keep (w' := W) fun o => hB.cell (p := ⟨b, o, none⟩) hb
  replace hu := hu.keep (w' := W) fun o => hB.cell (p := ⟨b, o, none⟩) hb
  have hb2 : b < W.heap.size := Nat.lt_of_lt_of_le hb hB.size
  have cV := fun y : Ext W.heap.size W => hv.keep (w' := y.w) fun o => y.cell (p := ⟨b, o, none⟩) hb2
  have cU := fun y : Ext W.heap.size W => hu.keep (w' := y.w) fun o => y.cell (p := ⟨b, o, none⟩) hb2
  unfold ValAt at cV cU
  have hq2 : Blk W q 96 #[.func (.func 71) #[] #[]] := hq.later hB
  have cQ := fun y : Ext W.heap.size W => (hq2.later y.h).cell 0
  simp only [List.getElem?_toArray, List.getElem?_cons_zero] at cQ
  have hgw : w.heap.size ≤ w.heap.size + 1 := by omega
  generalize w.heap.size + 1 = g at *
  refine region_cut 12 W.heap.size W (Below.refl _ _) (by kernel_rfl) (by kernel_rfl) (by kernel_rfl) (by kernel_rfl) ?_
  simp only [List.take_succ_cons, List.take_zero, List.drop_succ_cons, List.drop_zero]
  repeat (go_big_quiet_step (first
    | (go_at_call 71; exact calls_later (Nat.le_refl _) (sub_tup a.n b'.n _))))
  refine wpQuiet_nil ?_
  rintro W2 ⟨y2, hy2⟩
  have hW := y2.h
  rw [← hy2] at hW
  clear hy2 y2 cV cU cQ
  replace hR := hR.later hW
  replace hB := Later.then hB hW
  generalize hr : (subT a.n b'.n) = r at *
  have HE := Lib.hid hr
  clear hr
  have hR1 := val_cells hR
  have hR3 := Blk.frozen hR
  clear hR
  go_wp2_with fail
  exact bodyPost_ret (v := .tuple #[.agg #[.int .u8 r.1.k, .int .i64 r.1.n, .string r.1.s], .int .i64 r.2]) (by simp [results, Try.results95, go_sem, hR1]) rfl ⟨by rw [HE.out]; rfl, ((hB.setCell (hgw) _).setCell (hgw) _).setCell (hgw) _⟩

theorem times_tup (a b : Int) (w : World) : Calls Try.prog 72 #[.int .i64 a, .int .i64 b] w fun e w' => e = .returned (.tuple #[.agg #[.int .u8 (mulT a b).1.k, .int .i64 (mulT a b).1.n, .string (mulT a b).1.s], .int .i64 (mulT a b).2]) ∧ Below w.heap.size w w' := times_any a b w
set_option maxHeartbeats 2000000 in
set_option maxRecDepth 100000 in
theorem do_times (x : Ex) (A : Option Addr) (c q : Nat) (a b' : Val) (w : World) (h : RV w w.heap.size A [a, b']) (hq : Blk w q 96 #[.func (.func 72) #[] #[]]) : Calls Try.prog 95 #[.agg #[.int .u8 x.op, .int .u8 x.v.k, .int .i64 x.v.n, .string x.v.s, .string x.name, .int .i64 x.width, .slice x.A x.n x.c], .slice A 2 c, .pointer (some ⟨q, 0, none⟩)] w fun e w' => e = .returned (ansV (mulT a.n b'.n).1 (mulT a.n b'.n).2) ∧ Below w.heap.size w w' := by
  obtain ⟨b, off, rfl, hb, hv, hu⟩ := h.two
  go_enter Try.func95, Try.ntmps95
  go_wp2_with fail
  have hB := Later.then (later_new w (.cells #[.int .u8 x.op, .int .u8 x.v.k, .int .i64 x.v.n, .string x.v.s, .string x.name, .int .i64 x.width, .slice x.A x.n x.c] 36)) (later_new _ (.cells #[.int .u8 0, .int .i64 0, .string ⟨#[]⟩] 23))
  have hR := Blk.new (w.alloc (.cells #[.int .u8 x.op, .int .u8 x.v.k, .int .i64 x.v.n, .string x.v.s, .string x.name, .int .i64 x.width, .slice x.A x.n x.c] 36)) 23 #[.int .u8 0, .int .i64 0, .string ⟨#[]⟩]
  have hX := (Blk.new w 36 #[.int .u8 x.op, .int .u8 x.v.k, .int .i64 x.v.n, .string x.v.s, .string x.name, .int .i64 x.width, .slice x.A x.n x.c]).alloc (.cells #[.int .u8 0, .int .i64 0, .string ⟨#[]⟩] 23)
  rw [World.size_alloc] at hR
  generalize hWW : (w.alloc (.cells #[.int .u8 x.op, .int .u8 x.v.k, .int .i64 x.v.n, .string x.v.s, .string x.name, .int .i64 x.width, .slice x.A x.n x.c] 36)).alloc (.cells #[.int .u8 0, .int .i64 0, .string ⟨#[]⟩] 23) = W at *
  clear hWW
  replace hv := hv.keep (w' := W) fun o => hB.cell (p := ⟨b, o, none⟩) hb
  replace hu := hu.keep (w' := W) fun o => hB.cell (p := ⟨b, o, none⟩) hb
  have hb2 : b < W.heap.size := Nat.lt_of_lt_of_le hb hB.size
  have cV := fun y : Ext W.heap.size W => hv.keep (w' := y.w) fun o => y.cell (p := ⟨b, o, none⟩) hb2
  have cU := fun y : Ext W.heap.size W => hu.keep (w' := y.w) fun o => y.cell (p := ⟨b, o, none⟩) hb2
  unfold ValAt at cV cU
  have hq2 : Blk W q 96 #[.func (.func 72) #[] #[]] := hq.later hB
  have cQ := fun y : Ext W.heap.size W => (hq2.later y.h).cell 0
  simp only [List.getElem?_toArray, List.getElem?_cons_zero] at cQ
  have hgw : w.heap.size ≤ w.heap.size + 1 := by omega
  generalize w.heap.size + 1 = g at *
  refine region_cut 12 W.heap.size W (Below.refl _ _) (by kernel_rfl) (by kernel_rfl) (by kernel_rfl) (by kernel_rfl) ?_
  simp only [List.take_succ_cons, List.take_zero, List.drop_succ_cons, List.drop_zero]
  repeat (go_big_quiet_step (first
    | (go_at_call 72; exact calls_later (Nat.le_refl _) (times_tup a.n b'.n _))))
  refine wpQuiet_nil ?_
  rintro W2 ⟨y2, hy2⟩
  have hW := y2.h
  rw [← hy2] at hW
  clear hy2 y2 cV cU cQ
  replace hR := hR.later hW
  replace hB := Later.then hB hW
  generalize hr : (mulT a.n b'.n) = r at *
  have HE := Lib.hid hr
  clear hr
  have hR1 := val_cells hR
  have hR3 := Blk.frozen hR
  clear hR
  go_wp2_with fail
  exact bodyPost_ret (v := .tuple #[.agg #[.int .u8 r.1.k, .int .i64 r.1.n, .string r.1.s], .int .i64 r.2]) (by simp [results, Try.results95, go_sem, hR1]) rfl ⟨by rw [HE.out]; rfl, ((hB.setCell (hgw) _).setCell (hgw) _).setCell (hgw) _⟩

theorem enter_div (args : Array Value) (w : World) : (callFunc 74 args).run Try.prog w = .ok (.enter 74 args) w := by kernel_rfl
def divZ (a b : Int) : Val × Int := if b = 0 then (zeroVal, 44) else divT a b
theorem div_tup (a b : Int) (g : Nat) (w : World) (hg : Blk w g 96 #[.func (.func 74) #[] #[]]) : Calls Try.prog 96 #[.int .i64 a, .int .i64 b, .pointer (some ⟨g, 0, none⟩)] w fun e w' => e = .returned (.tuple #[.agg #[.int .u8 (divZ a b).1.k, .int .i64 (divZ a b).1.n, .string (divZ a b).1.s], .int .i64 (divZ a b).2]) ∧ Below w.heap.size w w' := by
  by_cases hb : b = 0
  · have e : divZ a b = (zeroVal, 44) := if_pos hb
    rw [e]
    subst hb
    exact by_zero a g w
  · have e : divZ a b = divT a b := if_neg hb
    rw [e]
    exact by_any a b hb g _ _ w hg enter_div (div_any a b hb)
set_option maxHeartbeats 2000000 in
set_option maxRecDepth 100000 in
theorem do_div (x : Ex) (A : Option Addr) (c q : Nat) (a b' : Val) (q2 : Nat) (w : World) (h : RV w w.heap.size A [a, b']) (hq : Blk w q 96 #[.func (.func 96) #[] #[.pointer (some ⟨q2, 0, none⟩)]]) (hq2 : Blk w q2 96 #[.func (.func 74) #[] #[]]) : Calls Try.prog 95 #[.agg #[.int .u8 x.op, .int .u8 x.v.k, .int .i64 x.v.n, .string x.v.s, .string x.name, .int .i64 x.width, .slice x.A x.n x.c], .slice A 2 c, .pointer (some ⟨q, 0, none⟩)] w fun e w' => e = .returned (ansV (divZ a.n b'.n).1 (divZ a.n b'.n).2) ∧ Below w.heap.size w w' := by
  obtain ⟨b, off, rfl, hb, hv, hu⟩ := h.two
  go_enter Try.func95, Try.ntmps95
  go_wp2_with fail
  have hB := Later.then (later_new w (.cells #[.int .u8 x.op, .int .u8 x.v.k, .int .i64 x.v.n, .string x.v.s, .string x.name, .int .i64 x.width, .slice x.A x.n x.c] 36)) (later_new _ (.cells #[.int .u8 0, .int .i64 0, .string ⟨#[]⟩] 23))
  have hR := Blk.new (w.alloc (.cells #[.int .u8 x.op, .int .u8 x.v.k, .int .i64 x.v.n, .string x.v.s, .string x.name, .int .i64 x.width, .slice x.A x.n x.c] 36)) 23 #[.int .u8 0, .int .i64 0, .string ⟨#[]⟩]
  have hX := (Blk.new w 36 #[.int .u8 x.op, .int .u8 x.v.k, .int .i64 x.v.n, .string x.v.s, .string x.name, .int .i64 x.width, .slice x.A x.n x.c]).alloc (.cells #[.int .u8 0, .int .i64 0, .string ⟨#[]⟩] 23)
  rw [World.size_alloc] at hR
  generalize hWW : (w.alloc (.cells #[.int .u8 x.op, .int .u8 x.v.k, .int .i64 x.v.n, .string x.v.s, .string x.name, .int .i64 x.width, .slice x.A x.n x.c] 36)).alloc (.cells #[.int .u8 0, .int .i64 0, .string ⟨#[]⟩] 23) = W at *
  clear hWW
  replace hv := hv.keep (w' := W) fun o => hB.cell (p := ⟨b, o, none⟩) hb
  replace hu := hu.keep (w' := W) fun o => hB.cell (p := ⟨b, o, none⟩) hb
  have hb2 : b < W.heap.size := Nat.lt_of_lt_of_le hb hB.size
  have cV := fun y : Ext W.heap.size W => hv.keep (w' := y.w) fun o => y.cell (p := ⟨b, o, none⟩) hb2
  have cU := fun y : Ext W.heap.size W => hu.keep (w' := y.w) fun o => y.cell (p := ⟨b, o, none⟩) hb2
  unfold ValAt at cV cU
  have hq3 := hq2.later hB
  have hq2 : Blk W q 96 #[.func (.func 96) #[] #[.pointer (some ⟨q2, 0, none⟩)]] := hq.later hB
  have cQ := fun y : Ext W.heap.size W => (hq2.later y.h).cell 0
  simp only [List.getElem?_toArray, List.getElem?_cons_zero] at cQ
  have hgw : w.heap.size ≤ w.heap.size + 1 := by omega
  generalize w.heap.size + 1 = g at *
  refine region_cut 12 W.heap.size W (Below.refl _ _) (by kernel_rfl) (by kernel_rfl) (by kernel_rfl) (by kernel_rfl) ?_
  simp only [List.take_succ_cons, List.take_zero, List.drop_succ_cons, List.drop_zero]
  repeat (go_big_quiet_step (first
    | (go_at_call 96; exact calls_later (Nat.le_refl _) (div_tup a.n b'.n q2 _ (hq3.later (Ext.h _))))))
  refine wpQuiet_nil ?_
  rintro W2 ⟨y2, hy2⟩
  have hW := y2.h
  rw [← hy2] at hW
  clear hy2 y2 cV cU cQ
  replace hR := hR.later hW
  replace hB := Later.then hB hW
  generalize hr : (divZ a.n b'.n) = r at *
  have HE := Lib.hid hr
  clear hr
  have hR1 := val_cells hR
  have hR3 := Blk.frozen hR
  clear hR
  go_wp2_with fail
  exact bodyPost_ret (v := .tuple #[.agg #[.int .u8 r.1.k, .int .i64 r.1.n, .string r.1.s], .int .i64 r.2]) (by simp [results, Try.results95, go_sem, hR1]) rfl ⟨by rw [HE.out]; rfl, ((hB.setCell (hgw) _).setCell (hgw) _).setCell (hgw) _⟩

theorem enter_mod (args : Array Value) (w : World) : (callFunc 75 args).run Try.prog w = .ok (.enter 75 args) w := by kernel_rfl
def modZ (a b : Int) : Val × Int := if b = 0 then (zeroVal, 44) else modT a b
theorem mod_tup (a b : Int) (g : Nat) (w : World) (hg : Blk w g 96 #[.func (.func 75) #[] #[]]) : Calls Try.prog 96 #[.int .i64 a, .int .i64 b, .pointer (some ⟨g, 0, none⟩)] w fun e w' => e = .returned (.tuple #[.agg #[.int .u8 (modZ a b).1.k, .int .i64 (modZ a b).1.n, .string (modZ a b).1.s], .int .i64 (modZ a b).2]) ∧ Below w.heap.size w w' := by
  by_cases hb : b = 0
  · have e : modZ a b = (zeroVal, 44) := if_pos hb
    rw [e]
    subst hb
    exact by_zero a g w
  · have e : modZ a b = modT a b := if_neg hb
    rw [e]
    exact by_any a b hb g _ _ w hg enter_mod (mod_any a b hb)
set_option maxHeartbeats 2000000 in
set_option maxRecDepth 100000 in
theorem do_mod (x : Ex) (A : Option Addr) (c q : Nat) (a b' : Val) (q2 : Nat) (w : World) (h : RV w w.heap.size A [a, b']) (hq : Blk w q 96 #[.func (.func 96) #[] #[.pointer (some ⟨q2, 0, none⟩)]]) (hq2 : Blk w q2 96 #[.func (.func 75) #[] #[]]) : Calls Try.prog 95 #[.agg #[.int .u8 x.op, .int .u8 x.v.k, .int .i64 x.v.n, .string x.v.s, .string x.name, .int .i64 x.width, .slice x.A x.n x.c], .slice A 2 c, .pointer (some ⟨q, 0, none⟩)] w fun e w' => e = .returned (ansV (modZ a.n b'.n).1 (modZ a.n b'.n).2) ∧ Below w.heap.size w w' := by
  obtain ⟨b, off, rfl, hb, hv, hu⟩ := h.two
  go_enter Try.func95, Try.ntmps95
  go_wp2_with fail
  have hB := Later.then (later_new w (.cells #[.int .u8 x.op, .int .u8 x.v.k, .int .i64 x.v.n, .string x.v.s, .string x.name, .int .i64 x.width, .slice x.A x.n x.c] 36)) (later_new _ (.cells #[.int .u8 0, .int .i64 0, .string ⟨#[]⟩] 23))
  have hR := Blk.new (w.alloc (.cells #[.int .u8 x.op, .int .u8 x.v.k, .int .i64 x.v.n, .string x.v.s, .string x.name, .int .i64 x.width, .slice x.A x.n x.c] 36)) 23 #[.int .u8 0, .int .i64 0, .string ⟨#[]⟩]
  have hX := (Blk.new w 36 #[.int .u8 x.op, .int .u8 x.v.k, .int .i64 x.v.n, .string x.v.s, .string x.name, .int .i64 x.width, .slice x.A x.n x.c]).alloc (.cells #[.int .u8 0, .int .i64 0, .string ⟨#[]⟩] 23)
  rw [World.size_alloc] at hR
  generalize hWW : (w.alloc (.cells #[.int .u8 x.op, .int .u8 x.v.k, .int .i64 x.v.n, .string x.v.s, .string x.name, .int .i64 x.width, .slice x.A x.n x.c] 36)).alloc (.cells #[.int .u8 0, .int .i64 0, .string ⟨#[]⟩] 23) = W at *
  clear hWW
  replace hv := hv.keep (w' := W) fun o => hB.cell (p := ⟨b, o, none⟩) hb
  replace hu := hu.keep (w' := W) fun o => hB.cell (p := ⟨b, o, none⟩) hb
  have hb2 : b < W.heap.size := Nat.lt_of_lt_of_le hb hB.size
  have cV := fun y : Ext W.heap.size W => hv.keep (w' := y.w) fun o => y.cell (p := ⟨b, o, none⟩) hb2
  have cU := fun y : Ext W.heap.size W => hu.keep (w' := y.w) fun o => y.cell (p := ⟨b, o, none⟩) hb2
  unfold ValAt at cV cU
  have hq3 := hq2.later hB
  have hq2 : Blk W q 96 #[.func (.func 96) #[] #[.pointer (some ⟨q2, 0, none⟩)]] := hq.later hB
  have cQ := fun y : Ext W.heap.size W => (hq2.later y.h).cell 0
  simp only [List.getElem?_toArray, List.getElem?_cons_zero] at cQ
  have hgw : w.heap.size ≤ w.heap.size + 1 := by omega
  generalize w.heap.size + 1 = g at *
  refine region_cut 12 W.heap.size W (Below.refl _ _) (by kernel_rfl) (by kernel_rfl) (by kernel_rfl) (by kernel_rfl) ?_
  simp only [List.take_succ_cons, List.take_zero, List.drop_succ_cons, List.drop_zero]
  repeat (go_big_quiet_step (first
    | (go_at_call 96; exact calls_later (Nat.le_refl _) (mod_tup a.n b'.n q2 _ (hq3.later (Ext.h _))))))
  refine wpQuiet_nil ?_
  rintro W2 ⟨y2, hy2⟩
  have hW := y2.h
  rw [← hy2] at hW
  clear hy2 y2 cV cU cQ
  replace hR := hR.later hW
  replace hB := Later.then hB hW
  generalize hr : (modZ a.n b'.n) = r at *
  have HE := Lib.hid hr
  clear hr
  have hR1 := val_cells hR
  have hR3 := Blk.frozen hR
  clear hR
  go_wp2_with fail
  exact bodyPost_ret (v := .tuple #[.agg #[.int .u8 r.1.k, .int .i64 r.1.n, .string r.1.s], .int .i64 r.2]) (by simp [results, Try.results95, go_sem, hR1]) rfl ⟨by rw [HE.out]; rfl, ((hB.setCell (hgw) _).setCell (hgw) _).setCell (hgw) _⟩

set_option maxHeartbeats 2000000 in
set_option maxRecDepth 100000 in
theorem do_eq (x : Ex) (A : Option Addr) (c q : Nat) (a b' : Val) (w : World) (h : RV w w.heap.size A [a, b']) (hq : Blk w q 98 #[.func (.func 77) #[] #[]]) : Calls Try.prog 97 #[.agg #[.int .u8 x.op, .int .u8 x.v.k, .int .i64 x.v.n, .string x.v.s, .string x.name, .int .i64 x.width, .slice x.A x.n x.c], .slice A 2 c, .pointer (some ⟨q, 0, none⟩)] w fun e w' => e = .returned (ansV (boolV (decide (vcmp a b' = 0))) 0) ∧ Below w.heap.size w w' := by
  obtain ⟨b, off, rfl, hb, hv, hu⟩ := h.two
  go_enter Try.func97, Try.ntmps97
  go_wp2_with fail
  have hB := Later.then (later_new w (.cells #[.int .u8 x.op, .int .u8 x.v.k, .int .i64 x.v.n, .string x.v.s, .string x.name, .int .i64 x.width, .slice x.A x.n x.c] 36)) (later_new _ (.cells #[.int .u8 0, .int .i64 0, .string ⟨#[]⟩] 23))
  have hR := Blk.new (w.alloc (.cells #[.int .u8 x.op, .int .u8 x.v.k, .int .i64 x.v.n, .string x.v.s, .string x.name, .int .i64 x.width, .slice x.A x.n x.c] 36)) 23 #[.int .u8 0, .int .i64 0, .string ⟨#[]⟩]
  have hX := (Blk.new w 36 #[.int .u8 x.op, .int .u8 x.v.k, .int .i64 x.v.n, .string x.v.s, .string x.name, .int .i64 x.width, .slice x.A x.n x.c]).alloc (.cells #[.int .u8 0, .int .i64 0, .string ⟨#[]⟩] 23)
  rw [World.size_alloc] at hR
  generalize hWW : (w.alloc (.cells #[.int .u8 x.op, .int .u8 x.v.k, .int .i64 x.v.n, .string x.v.s, .string x.name, .int .i64 x.width, .slice x.A x.n x.c] 36)).alloc (.cells #[.int .u8 0, .int .i64 0, .string ⟨#[]⟩] 23) = W at *
  clear hWW
  replace hv := hv.keep (w' := W) fun o => hB.cell (p := ⟨b, o, none⟩) hb
  replace hu := hu.keep (w' := W) fun o => hB.cell (p := ⟨b, o, none⟩) hb
  have hb2 : b < W.heap.size := Nat.lt_of_lt_of_le hb hB.size
  have cV := fun y : Ext W.heap.size W => hv.keep (w' := y.w) fun o => y.cell (p := ⟨b, o, none⟩) hb2
  have cU := fun y : Ext W.heap.size W => hu.keep (w' := y.w) fun o => y.cell (p := ⟨b, o, none⟩) hb2
  unfold ValAt at cV cU
  have hq2 : Blk W q 98 #[.func (.func 77) #[] #[]] := hq.later hB
  have cQ := fun y : Ext W.heap.size W => (hq2.later y.h).cell 0
  simp only [List.getElem?_toArray, List.getElem?_cons_zero] at cQ
  have hgw : w.heap.size ≤ w.heap.size + 1 := by omega
  generalize w.heap.size + 1 = g at *
  have kC := Lib.hid (compare_any a b')
  generalize hcc : vcmp a b' = cc at kC
  have HC := Lib.hid hcc
  clear hcc
  refine region_cut 12 W.heap.size W (Below.refl _ _) (by kernel_rfl) (by kernel_rfl) (by kernel_rfl) (by kernel_rfl) ?_
  simp only [List.take_succ_cons, List.take_zero, List.drop_succ_cons, List.drop_zero]
  repeat (go_big_quiet_step (first
    | (go_at_call 17; exact calls_later (Nat.le_refl _) (kC.out _))
    | (go_at_call 77; exact calls_ext_same (is_eq cc _))
    | (go_at_call 68; exact calls_later (Nat.le_refl _) (truth_tup _ _))))
  refine wpQuiet_nil ?_
  rintro W2 ⟨y2, hy2⟩
  have hW := y2.h
  rw [← hy2] at hW
  clear hy2 y2 cV cU cQ
  replace hR := hR.later hW
  replace hB := Later.then hB hW
  generalize hr : boolV (decide (cc = 0)) = r at *
  have HE : Hid ((r, (0 : Int)) = (boolV (decide (vcmp a b' = 0)), 0)) := by rw [HC.out, hr]; exact rfl
  clear hr
  have hR1 := val_cells hR
  have hR3 := Blk.frozen hR
  clear hR
  go_wp2_with fail
  exact bodyPost_ret (v := .tuple #[.agg #[.int .u8 (r, (0 : Int)).1.k, .int .i64 (r, (0 : Int)).1.n, .string (r, (0 : Int)).1.s], .int .i64 (r, (0 : Int)).2]) (by simp [results, Try.results97, go_sem, hR1]) rfl ⟨by have := HE.out; injection this with h1 h2; rw [← h1]; rfl, ((hB.setCell (hgw) _).setCell (hgw) _).setCell (hgw) _⟩

set_option maxHeartbeats 2000000 in
set_option maxRecDepth 100000 in
theorem do_ne (x : Ex) (A : Option Addr) (c q : Nat) (a b' : Val) (w : World) (h : RV w w.heap.size A [a, b']) (hq : Blk w q 98 #[.func (.func 78) #[] #[]]) : Calls Try.prog 97 #[.agg #[.int .u8 x.op, .int .u8 x.v.k, .int .i64 x.v.n, .string x.v.s, .string x.name, .int .i64 x.width, .slice x.A x.n x.c], .slice A 2 c, .pointer (some ⟨q, 0, none⟩)] w fun e w' => e = .returned (ansV (boolV (!decide (vcmp a b' = 0))) 0) ∧ Below w.heap.size w w' := by
  obtain ⟨b, off, rfl, hb, hv, hu⟩ := h.two
  go_enter Try.func97, Try.ntmps97
  go_wp2_with fail
  have hB := Later.then (later_new w (.cells #[.int .u8 x.op, .int .u8 x.v.k, .int .i64 x.v.n, .string x.v.s, .string x.name, .int .i64 x.width, .slice x.A x.n x.c] 36)) (later_new _ (.cells #[.int .u8 0, .int .i64 0, .string ⟨#[]⟩] 23))
  have hR := Blk.new (w.alloc (.cells #[.int .u8 x.op, .int .u8 x.v.k, .int .i64 x.v.n, .string x.v.s, .string x.name, .int .i64 x.width, .slice x.A x.n x.c] 36)) 23 #[.int .u8 0, .int .i64 0, .string ⟨#[]⟩]
  have hX := (Blk.new w 36 #[.int .u8 x.op, .int .u8 x.v.k, .int .i64 x.v.n, .string x.v.s, .string x.name, .int .i64 x.width, .slice x.A x.n x.c]).alloc (.cells #[.int .u8 0, .int .i64 0, .string ⟨#[]⟩] 23)
  rw [World.size_alloc] at hR
  generalize hWW : (w.alloc (.cells #[.int .u8 x.op, .int .u8 x.v.k, .int .i64 x.v.n, .string x.v.s, .string x.name, .int .i64 x.width, .slice x.A x.n x.c] 36)).alloc (.cells #[.int .u8 0, .int .i64 0, .string ⟨#[]⟩] 23) = W at *
  clear hWW
  replace hv := hv.keep (w' := W) fun o => hB.cell (p := ⟨b, o, none⟩) hb
  replace hu := hu.keep (w' := W) fun o => hB.cell (p := ⟨b, o, none⟩) hb
  have hb2 : b < W.heap.size := Nat.lt_of_lt_of_le hb hB.size
  have cV := fun y : Ext W.heap.size W => hv.keep (w' := y.w) fun o => y.cell (p := ⟨b, o, none⟩) hb2
  have cU := fun y : Ext W.heap.size W => hu.keep (w' := y.w) fun o => y.cell (p := ⟨b, o, none⟩) hb2
  unfold ValAt at cV cU
  have hq2 : Blk W q 98 #[.func (.func 78) #[] #[]] := hq.later hB
  have cQ := fun y : Ext W.heap.size W => (hq2.later y.h).cell 0
  simp only [List.getElem?_toArray, List.getElem?_cons_zero] at cQ
  have hgw : w.heap.size ≤ w.heap.size + 1 := by omega
  generalize w.heap.size + 1 = g at *
  have kC := Lib.hid (compare_any a b')
  generalize hcc : vcmp a b' = cc at kC
  have HC := Lib.hid hcc
  clear hcc
  refine region_cut 12 W.heap.size W (Below.refl _ _) (by kernel_rfl) (by kernel_rfl) (by kernel_rfl) (by kernel_rfl) ?_
  simp only [List.take_succ_cons, List.take_zero, List.drop_succ_cons, List.drop_zero]
  repeat (go_big_quiet_step (first
    | (go_at_call 17; exact calls_later (Nat.le_refl _) (kC.out _))
    | (go_at_call 78; exact calls_ext_same (is_ne cc _))
    | (go_at_call 68; exact calls_later (Nat.le_refl _) (truth_tup _ _))))
  refine wpQuiet_nil ?_
  rintro W2 ⟨y2, hy2⟩
  have hW := y2.h
  rw [← hy2] at hW
  clear hy2 y2 cV cU cQ
  replace hR := hR.later hW
  replace hB := Later.then hB hW
  generalize hr : boolV (!decide (cc = 0)) = r at *
  have HE : Hid ((r, (0 : Int)) = (boolV (!decide (vcmp a b' = 0)), 0)) := by rw [HC.out, hr]; exact rfl
  clear hr
  have hR1 := val_cells hR
  have hR3 := Blk.frozen hR
  clear hR
  go_wp2_with fail
  exact bodyPost_ret (v := .tuple #[.agg #[.int .u8 (r, (0 : Int)).1.k, .int .i64 (r, (0 : Int)).1.n, .string (r, (0 : Int)).1.s], .int .i64 (r, (0 : Int)).2]) (by simp [results, Try.results97, go_sem, hR1]) rfl ⟨by have := HE.out; injection this with h1 h2; rw [← h1]; rfl, ((hB.setCell (hgw) _).setCell (hgw) _).setCell (hgw) _⟩

set_option maxHeartbeats 2000000 in
set_option maxRecDepth 100000 in
theorem do_lt (x : Ex) (A : Option Addr) (c q : Nat) (a b' : Val) (w : World) (h : RV w w.heap.size A [a, b']) (hq : Blk w q 98 #[.func (.func 79) #[] #[]]) : Calls Try.prog 97 #[.agg #[.int .u8 x.op, .int .u8 x.v.k, .int .i64 x.v.n, .string x.v.s, .string x.name, .int .i64 x.width, .slice x.A x.n x.c], .slice A 2 c, .pointer (some ⟨q, 0, none⟩)] w fun e w' => e = .returned (ansV (boolV (decide (vcmp a b' < 0))) 0) ∧ Below w.heap.size w w' := by
  obtain ⟨b, off, rfl, hb, hv, hu⟩ := h.two
  go_enter Try.func97, Try.ntmps97
  go_wp2_with fail
  have hB := Later.then (later_new w (.cells #[.int .u8 x.op, .int .u8 x.v.k, .int .i64 x.v.n, .string x.v.s, .string x.name, .int .i64 x.width, .slice x.A x.n x.c] 36)) (later_new _ (.cells #[.int .u8 0, .int .i64 0, .string ⟨#[]⟩] 23))
  have hR := Blk.new (w.alloc (.cells #[.int .u8 x.op, .int .u8 x.v.k, .int .i64 x.v.n, .string x.v.s, .string x.name, .int .i64 x.width, .slice x.A x.n x.c] 36)) 23 #[.int .u8 0, .int .i64 0, .string ⟨#[]⟩]
  have hX := (Blk.new w 36 #[.int .u8 x.op, .int .u8 x.v.k, .int .i64 x.v.n, .string x.v.s, .string x.name, .int .i64 x.width, .slice x.A x.n x.c]).alloc (.cells #[.int .u8 0, .int .i64 0, .string ⟨#[]⟩] 23)
  rw [World.size_alloc] at hR
  generalize hWW : (w.alloc (.cells #[.int .u8 x.op, .int .u8 x.v.k, .int .i64 x.v.n, .string x.v.s, .string x.name, .int .i64 x.width, .slice x.A x.n x.c] 36)).alloc (.cells #[.int .u8 0, .int .i64 0, .string ⟨#[]⟩] 23) = W at *
  clear hWW
  replace hv := hv.keep (w' := W) fun o => hB.cell (p := ⟨b, o, none⟩) hb
  replace hu := hu.keep (w' := W) fun o => hB.cell (p := ⟨b, o, none⟩) hb
  have hb2 : b < W.heap.size := Nat.lt_of_lt_of_le hb hB.size
  have cV := fun y : Ext W.heap.size W => hv.keep (w' := y.w) fun o => y.cell (p := ⟨b, o, none⟩) hb2
  have cU := fun y : Ext W.heap.size W => hu.keep (w' := y.w) fun o => y.cell (p := ⟨b, o, none⟩) hb2
  unfold ValAt at cV cU
  have hq2 : Blk W q 98 #[.func (.func 79) #[] #[]] := hq.later hB
  have cQ := fun y : Ext W.heap.size W => (hq2.later y.h).cell 0
  simp only [List.getElem?_toArray, List.getElem?_cons_zero] at cQ
  have hgw : w.heap.size ≤ w.heap.size + 1 := by omega
  generalize w.heap.size + 1 = g at *
  have kC := Lib.hid (compare_any a b')
  generalize hcc : vcmp a b' = cc at kC
  have HC := Lib.hid hcc
  clear hcc
  refine region_cut 12 W.heap.size W (Below.refl _ _) (by kernel_rfl) (by kernel_rfl) (by kernel_rfl) (by kernel_rfl) ?_
  simp only [List.take_succ_cons, List.take_zero, List.drop_succ_cons, List.drop_zero]
  repeat (go_big_quiet_step (first
    | (go_at_call 17; exact calls_later (Nat.le_refl _) (kC.out _))
    | (go_at_call 79; exact calls_ext_same (is_lt cc _))
    | (go_at_call 68; exact calls_later (Nat.le_refl _) (truth_tup _ _))))
  refine wpQuiet_nil ?_
  rintro W2 ⟨y2, hy2⟩
  have hW := y2.h
  rw [← hy2] at hW
  clear hy2 y2 cV cU cQ
  replace hR := hR.later hW
  replace hB := Later.then hB hW
  generalize hr : boolV (decide (cc < 0)) = r at *
  have HE : Hid ((r, (0 : Int)) = (boolV (decide (vcmp a b' < 0)), 0)) := by rw [HC.out, hr]; exact rfl
  clear hr
  have hR1 := val_cells hR
  have hR3 := Blk.frozen hR
  clear hR
  go_wp2_with fail
  exact bodyPost_ret (v := .tuple #[.agg #[.int .u8 (r, (0 : Int)).1.k, .int .i64 (r, (0 : Int)).1.n, .string (r, (0 : Int)).1.s], .int .i64 (r, (0 : Int)).2]) (by simp [results, Try.results97, go_sem, hR1]) rfl ⟨by have := HE.out; injection this with h1 h2; rw [← h1]; rfl, ((hB.setCell (hgw) _).setCell (hgw) _).setCell (hgw) _⟩

set_option maxHeartbeats 2000000 in
set_option maxRecDepth 100000 in
theorem do_le (x : Ex) (A : Option Addr) (c q : Nat) (a b' : Val) (w : World) (h : RV w w.heap.size A [a, b']) (hq : Blk w q 98 #[.func (.func 80) #[] #[]]) : Calls Try.prog 97 #[.agg #[.int .u8 x.op, .int .u8 x.v.k, .int .i64 x.v.n, .string x.v.s, .string x.name, .int .i64 x.width, .slice x.A x.n x.c], .slice A 2 c, .pointer (some ⟨q, 0, none⟩)] w fun e w' => e = .returned (ansV (boolV (decide (vcmp a b' ≤ 0))) 0) ∧ Below w.heap.size w w' := by
  obtain ⟨b, off, rfl, hb, hv, hu⟩ := h.two
  go_enter Try.func97, Try.ntmps97
  go_wp2_with fail
  have hB := Later.then (later_new w (.cells #[.int .u8 x.op, .int .u8 x.v.k, .int .i64 x.v.n, .string x.v.s, .string x.name, .int .i64 x.width, .slice x.A x.n x.c] 36)) (later_new _ (.cells #[.int .u8 0, .int .i64 0, .string ⟨#[]⟩] 23))
  have hR := Blk.new (w.alloc (.cells #[.int .u8 x.op, .int .u8 x.v.k, .int .i64 x.v.n, .string x.v.s, .string x.name, .int .i64 x.width, .slice x.A x.n x.c] 36)) 23 #[.int .u8 0, .int .i64 0, .string ⟨#[]⟩]
  have hX := (Blk.new w 36 #[.int .u8 x.op, .int .u8 x.v.k, .int .i64 x.v.n, .string x.v.s, .string x.name, .int .i64 x.width, .slice x.A x.n x.c]).alloc (.cells #[.int .u8 0, .int .i64 0, .string ⟨#[]⟩] 23)
  rw [World.size_alloc] at hR
  generalize hWW : (w.alloc (.cells #[.int .u8 x.op, .int .u8 x.v.k, .int .i64 x.v.n, .string x.v.s, .string x.name, .int .i64 x.width, .slice x.A x.n x.c] 36)).alloc (.cells #[.int .u8 0, .int .i64 0, .string ⟨#[]⟩] 23) = W at *
  clear hWW
  replace hv := hv.keep (w' := W) fun o => hB.cell (p := ⟨b, o, none⟩) hb
  replace hu := hu.keep (w' := W) fun o => hB.cell (p := ⟨b, o, none⟩) hb
  have hb2 : b < W.heap.size := Nat.lt_of_lt_of_le hb hB.size
  have cV := fun y : Ext W.heap.size W => hv.keep (w' := y.w) fun o => y.cell (p := ⟨b, o, none⟩) hb2
  have cU := fun y : Ext W.heap.size W => hu.keep (w' := y.w) fun o => y.cell (p := ⟨b, o, none⟩) hb2
  unfold ValAt at cV cU
  have hq2 : Blk W q 98 #[.func (.func 80) #[] #[]] := hq.later hB
  have cQ := fun y : Ext W.heap.size W => (hq2.later y.h).cell 0
  simp only [List.getElem?_toArray, List.getElem?_cons_zero] at cQ
  have hgw : w.heap.size ≤ w.heap.size + 1 := by omega
  generalize w.heap.size + 1 = g at *
  have kC := Lib.hid (compare_any a b')
  generalize hcc : vcmp a b' = cc at kC
  have HC := Lib.hid hcc
  clear hcc
  refine region_cut 12 W.heap.size W (Below.refl _ _) (by kernel_rfl) (by kernel_rfl) (by kernel_rfl) (by kernel_rfl) ?_
  simp only [List.take_succ_cons, List.take_zero, List.drop_succ_cons, List.drop_zero]
  repeat (go_big_quiet_step (first
    | (go_at_call 17; exact calls_later (Nat.le_refl _) (kC.out _))
    | (go_at_call 80; exact calls_ext_same (is_le cc _))
    | (go_at_call 68; exact calls_later (Nat.le_refl _) (truth_tup _ _))))
  refine wpQuiet_nil ?_
  rintro W2 ⟨y2, hy2⟩
  have hW := y2.h
  rw [← hy2] at hW
  clear hy2 y2 cV cU cQ
  replace hR := hR.later hW
  replace hB := Later.then hB hW
  generalize hr : boolV (decide (cc ≤ 0)) = r at *
  have HE : Hid ((r, (0 : Int)) = (boolV (decide (vcmp a b' ≤ 0)), 0)) := by rw [HC.out, hr]; exact rfl
  clear hr
  have hR1 := val_cells hR
  have hR3 := Blk.frozen hR
  clear hR
  go_wp2_with fail
  exact bodyPost_ret (v := .tuple #[.agg #[.int .u8 (r, (0 : Int)).1.k, .int .i64 (r, (0 : Int)).1.n, .string (r, (0 : Int)).1.s], .int .i64 (r, (0 : Int)).2]) (by simp [results, Try.results97, go_sem, hR1]) rfl ⟨by have := HE.out; injection this with h1 h2; rw [← h1]; rfl, ((hB.setCell (hgw) _).setCell (hgw) _).setCell (hgw) _⟩

set_option maxHeartbeats 2000000 in
set_option maxRecDepth 100000 in
theorem do_gt (x : Ex) (A : Option Addr) (c q : Nat) (a b' : Val) (w : World) (h : RV w w.heap.size A [a, b']) (hq : Blk w q 98 #[.func (.func 81) #[] #[]]) : Calls Try.prog 97 #[.agg #[.int .u8 x.op, .int .u8 x.v.k, .int .i64 x.v.n, .string x.v.s, .string x.name, .int .i64 x.width, .slice x.A x.n x.c], .slice A 2 c, .pointer (some ⟨q, 0, none⟩)] w fun e w' => e = .returned (ansV (boolV (decide (0 < vcmp a b'))) 0) ∧ Below w.heap.size w w' := by
  obtain ⟨b, off, rfl, hb, hv, hu⟩ := h.two
  go_enter Try.func97, Try.ntmps97
  go_wp2_with fail
  have hB := Later.then (later_new w (.cells #[.int .u8 x.op, .int .u8 x.v.k, .int .i64 x.v.n, .string x.v.s, .string x.name, .int .i64 x.width, .slice x.A x.n x.c] 36)) (later_new _ (.cells #[.int .u8 0, .int .i64 0, .string ⟨#[]⟩] 23))
  have hR := Blk.new (w.alloc (.cells #[.int .u8 x.op, .int .u8 x.v.k, .int .i64 x.v.n, .string x.v.s, .string x.name, .int .i64 x.width, .slice x.A x.n x.c] 36)) 23 #[.int .u8 0, .int .i64 0, .string ⟨#[]⟩]
  have hX := (Blk.new w 36 #[.int .u8 x.op, .int .u8 x.v.k, .int .i64 x.v.n, .string x.v.s, .string x.name, .int .i64 x.width, .slice x.A x.n x.c]).alloc (.cells #[.int .u8 0, .int .i64 0, .string ⟨#[]⟩] 23)
  rw [World.size_alloc] at hR
  generalize hWW : (w.alloc (.cells #[.int .u8 x.op, .int .u8 x.v.k, .int .i64 x.v.n, .string x.v.s, .string x.name, .int .i64 x.width, .slice x.A x.n x.c] 36)).alloc (.cells #[.int .u8 0, .int .i64 0, .string ⟨#[]⟩] 23) = W at *
  clear hWW
  replace hv := hv.keep (w' := W) fun o => hB.cell (p := ⟨b, o, none⟩) hb
  replace hu := hu.keep (w' := W) fun o => hB.cell (p := ⟨b, o, none⟩) hb
  have hb2 : b < W.heap.size := Nat.lt_of_lt_of_le hb hB.size
  have cV := fun y : Ext W.heap.size W => hv.keep (w' := y.w) fun o => y.cell (p := ⟨b, o, none⟩) hb2
  have cU := fun y : Ext W.heap.size W => hu.keep (w' := y.w) fun o => y.cell (p := ⟨b, o, none⟩) hb2
  unfold ValAt at cV cU
  have hq2 : Blk W q 98 #[.func (.func 81) #[] #[]] := hq.later hB
  have cQ := fun y : Ext W.heap.size W => (hq2.later y.h).cell 0
  simp only [List.getElem?_toArray, List.getElem?_cons_zero] at cQ
  have hgw : w.heap.size ≤ w.heap.size + 1 := by omega
  generalize w.heap.size + 1 = g at *
  have kC := Lib.hid (compare_any a b')
  generalize hcc : vcmp a b' = cc at kC
  have HC := Lib.hid hcc
  clear hcc
  refine region_cut 12 W.heap.size W (Below.refl _ _) (by kernel_rfl) (by kernel_rfl) (by kernel_rfl) (by kernel_rfl) ?_
  simp only [List.take_succ_cons, List.take_zero, List.drop_succ_cons, List.drop_zero]
  repeat (go_big_quiet_step (first
    | (go_at_call 17; exact calls_later (Nat.le_refl _) (kC.out _))
    | (go_at_call 81; exact calls_ext_same (is_gt cc _))
    | (go_at_call 68; exact calls_later (Nat.le_refl _) (truth_tup _ _))))
  refine wpQuiet_nil ?_
  rintro W2 ⟨y2, hy2⟩
  have hW := y2.h
  rw [← hy2] at hW
  clear hy2 y2 cV cU cQ
  replace hR := hR.later hW
  replace hB := Later.then hB hW
  generalize hr : boolV (decide (0 < cc)) = r at *
  have HE : Hid ((r, (0 : Int)) = (boolV (decide (0 < vcmp a b')), 0)) := by rw [HC.out, hr]; exact rfl
  clear hr
  have hR1 := val_cells hR
  have hR3 := Blk.frozen hR
  clear hR
  go_wp2_with fail
  exact bodyPost_ret (v := .tuple #[.agg #[.int .u8 (r, (0 : Int)).1.k, .int .i64 (r, (0 : Int)).1.n, .string (r, (0 : Int)).1.s], .int .i64 (r, (0 : Int)).2]) (by simp [results, Try.results97, go_sem, hR1]) rfl ⟨by have := HE.out; injection this with h1 h2; rw [← h1]; rfl, ((hB.setCell (hgw) _).setCell (hgw) _).setCell (hgw) _⟩

set_option maxHeartbeats 2000000 in
set_option maxRecDepth 100000 in
theorem do_ge (x : Ex) (A : Option Addr) (c q : Nat) (a b' : Val) (w : World) (h : RV w w.heap.size A [a, b']) (hq : Blk w q 98 #[.func (.func 82) #[] #[]]) : Calls Try.prog 97 #[.agg #[.int .u8 x.op, .int .u8 x.v.k, .int .i64 x.v.n, .string x.v.s, .string x.name, .int .i64 x.width, .slice x.A x.n x.c], .slice A 2 c, .pointer (some ⟨q, 0, none⟩)] w fun e w' => e = .returned (ansV (boolV (decide (0 ≤ vcmp a b'))) 0) ∧ Below w.heap.size w w' := by
  obtain ⟨b, off, rfl, hb, hv, hu⟩ := h.two
  go_enter Try.func97, Try.ntmps97
  go_wp2_with fail
  have hB := Later.then (later_new w (.cells #[.int .u8 x.op, .int .u8 x.v.k, .int .i64 x.v.n, .string x.v.s, .string x.name, .int .i64 x.width, .slice x.A x.n x.c] 36)) (later_new _ (.cells #[.int .u8 0, .int .i64 0, .string ⟨#[]⟩] 23))
  have hR := Blk.new (w.alloc (.cells #[.int .u8 x.op, .int .u8 x.v.k, .int .i64 x.v.n, .string x.v.s, .string x.name, .int .i64 x.width, .slice x.A x.n x.c] 36)) 23 #[.int .u8 0, .int .i64 0, .string ⟨#[]⟩]
  have hX := (Blk.new w 36 #[.int .u8 x.op, .int .u8 x.v.k, .int .i64 x.v.n, .string x.v.s, .string x.name, .int .i64 x.width, .slice x.A x.n x.c]).alloc (.cells #[.int .u8 0, .int .i64 0, .string ⟨#[]⟩] 23)
  rw [World.size_alloc] at hR
  generalize hWW : (w.alloc (.cells #[.int .u8 x.op, .int .u8 x.v.k, .int .i64 x.v.n, .string x.v.s, .string x.name, .int .i64 x.width, .slice x.A x.n x.c] 36)).alloc (.cells #[.int .u8 0, .int .i64 0, .string ⟨#[]⟩] 23) = W at *
  clear hWW
  replace hv := hv.keep (w' := W) fun o => hB.cell (p := ⟨b, o, none⟩) hb
  replace hu := hu.keep (w' := W) fun o => hB.cell (p := ⟨b, o, none⟩) hb
  have hb2 : b < W.heap.size := Nat.lt_of_lt_of_le hb hB.size
  have cV := fun y : Ext W.heap.size W => hv.keep (w' := y.w) fun o => y.cell (p := ⟨b, o, none⟩) hb2
  have cU := fun y : Ext W.heap.size W => hu.keep (w' := y.w) fun o => y.cell (p := ⟨b, o, none⟩) hb2
  unfold ValAt at cV cU
  have hq2 : Blk W q 98 #[.func (.func 82) #[] #[]] := hq.later hB
  have cQ := fun y : Ext W.heap.size W => (hq2.later y.h).cell 0
  simp only [List.getElem?_toArray, List.getElem?_cons_zero] at cQ
  have hgw : w.heap.size ≤ w.heap.size + 1 := by omega
  generalize w.heap.size + 1 = g at *
  have kC := Lib.hid (compare_any a b')
  generalize hcc : vcmp a b' = cc at kC
  have HC := Lib.hid hcc
  clear hcc
  refine region_cut 12 W.heap.size W (Below.refl _ _) (by kernel_rfl) (by kernel_rfl) (by kernel_rfl) (by kernel_rfl) ?_
  simp only [List.take_succ_cons, List.take_zero, List.drop_succ_cons, List.drop_zero]
  repeat (go_big_quiet_step (first
    | (go_at_call 17; exact calls_later (Nat.le_refl _) (kC.out _))
    | (go_at_call 82; exact calls_ext_same (is_ge cc _))
    | (go_at_call 68; exact calls_later (Nat.le_refl _) (truth_tup _ _))))
  refine wpQuiet_nil ?_
  rintro W2 ⟨y2, hy2⟩
  have hW := y2.h
  rw [← hy2] at hW
  clear hy2 y2 cV cU cQ
  replace hR := hR.later hW
  replace hB := Later.then hB hW
  generalize hr : boolV (decide (0 ≤ cc)) = r at *
  have HE : Hid ((r, (0 : Int)) = (boolV (decide (0 ≤ vcmp a b')), 0)) := by rw [HC.out, hr]; exact rfl
  clear hr
  have hR1 := val_cells hR
  have hR3 := Blk.frozen hR
  clear hR
  go_wp2_with fail
  exact bodyPost_ret (v := .tuple #[.agg #[.int .u8 (r, (0 : Int)).1.k, .int .i64 (r, (0 : Int)).1.n, .string (r, (0 : Int)).1.s], .int .i64 (r, (0 : Int)).2]) (by simp [results, Try.results97, go_sem, hR1]) rfl ⟨by have := HE.out; injection this with h1 h2; rw [← h1]; rfl, ((hB.setCell (hgw) _).setCell (hgw) _).setCell (hgw) _⟩

end Go.Proofs.Ytlfahfoffdbpfaa
