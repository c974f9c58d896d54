/- ExprLogic: the walk, of any values that answer so. -/
import Derived.Test.YtlfahfoffdbpfaaLogic
namespace Go.Proofs.Ytlfahfoffdbpfaa
open Go.ChangeShapes Go.WideShapes Go.ChangeAt Go.RowKit
set_option linter.unusedVariables false
set_option linter.unusedSimpArgs false

def W2 (op : Int) (x y p : Val) (ok : Bool) : Prop := ∀ g w, Blk w g 23 #[.int .u8 x.k, .int .i64 x.n, .string x.s, .int .u8 y.k, .int .i64 y.n, .string y.s] → Calls Try.prog 10 #[.int .u8 op, .slice (some ⟨g, 0, none⟩) 2 2] w fun e w' => e = .returned (.tuple #[.agg #[.int .u8 p.k, .int .i64 p.n, .string p.s], .bool ok]) ∧ Below w.heap.size w w'
def W1 (op : Int) (x p : Val) (ok : Bool) : Prop := ∀ g w, Blk w g 23 #[.int .u8 x.k, .int .i64 x.n, .string x.s] → Calls Try.prog 10 #[.int .u8 op, .slice (some ⟨g, 0, none⟩) 1 1] w fun e w' => e = .returned (.tuple #[.agg #[.int .u8 p.k, .int .i64 p.n, .string p.s], .bool ok]) ∧ Below w.heap.size w w'
def Rk (x : Val) (n : Int) : Prop := ∀ w, Calls Try.prog 11 #[.agg #[.int .u8 x.k, .int .i64 x.n, .string x.s]] w fun e w' => e = .returned (.int .i64 n) ∧ Below w.heap.size w w'
def Tr (k : Int) (x : Val) : Prop := ∀ w, Calls Try.prog 9 #[.int .u8 k] w fun e w' => e = .returned (.agg #[.int .u8 x.k, .int .i64 x.n, .string x.s]) ∧ Below w.heap.size w w'

set_option maxHeartbeats 1400000 in
set_option maxRecDepth 100000 in
theorem logic_core (k0 k1 k2 : Int) (x y z p q r yz l xz ny nn : Val) (rx ry : Int) (hx : Tr k0 x) (hy : Tr k1 y) (hz : Tr k2 z) (h1 : W2 16 x y p true) (h2 : W2 17 x y q true) (h3 : W1 4 x r true)
    (h4 : W2 17 y z yz true) (h5 : W2 16 x yz l true) (h6 : W2 16 x z xz true) (h7 : W2 17 p xz l true) (h8 : W1 4 y ny true) (h9 : W1 4 p nn true) (h10 : W2 17 r ny nn true)
    (kx : Rk x rx) (ky : Rk y ry) (kp : Rk p ((if ry < rx then ry else rx))) (kq : Rk q ((if rx < ry then ry else rx))) (kr : Rk r (2 - rx)) (b0 : 0 ≤ rx) (b1 : rx ≤ 2) (b2 : 0 ≤ ry) (b3 : ry ≤ 2) (w : World) :
    Calls Try.prog 3 #[.int .u8 k0, .int .u8 k1, .int .u8 k2] w fun e w' => e = .returned (.bool true) ∧ Below w.heap.size w w' := by
  go_enter Try.func3, Try.ntmps3
  go_wp2_with fail
  refine (hx w).mono ?_
  rintro e w1 ⟨rfl, b1'⟩
  have hB := b1'
  clear b1'
  go_wp2_with fail
  refine (hy _).mono ?_
  rintro e w2 ⟨rfl, b1'⟩
  replace hB := Later.then hB b1'
  clear b1'
  go_wp2_with fail
  refine (hz _).mono ?_
  rintro e w3 ⟨rfl, b1'⟩
  replace hB := Later.then hB b1'
  clear b1'
  go_wp2_with fail
  have bb := later_new w3 (.cells #[.int .u8 x.k, .int .i64 x.n, .string x.s] 23)
  replace hB := Later.then hB bb
  have hX := Blk.new w3 23 #[.int .u8 x.k, .int .i64 x.n, .string x.s]
  clear bb
  have bb := later_new (w3.alloc (.cells #[.int .u8 x.k, .int .i64 x.n, .string x.s] 23)) (.cells #[.int .u8 y.k, .int .i64 y.n, .string y.s] 23)
  replace hB := Later.then hB bb
  replace hX := hX.later bb
  have hY := Blk.new (w3.alloc (.cells #[.int .u8 x.k, .int .i64 x.n, .string x.s] 23)) 23 #[.int .u8 y.k, .int .i64 y.n, .string y.s]
  clear bb
  have bb := later_new ((w3.alloc (.cells #[.int .u8 x.k, .int .i64 x.n, .string x.s] 23)).alloc (.cells #[.int .u8 y.k, .int .i64 y.n, .string y.s] 23)) (.cells #[.int .u8 z.k, .int .i64 z.n, .string z.s] 23)
  replace hB := Later.then hB bb
  replace hX := hX.later bb
  replace hY := hY.later bb
  have hZ := Blk.new ((w3.alloc (.cells #[.int .u8 x.k, .int .i64 x.n, .string x.s] 23)).alloc (.cells #[.int .u8 y.k, .int .i64 y.n, .string y.s] 23)) 23 #[.int .u8 z.k, .int .i64 z.n, .string z.s]
  clear bb
  have bb := later_new (((w3.alloc (.cells #[.int .u8 x.k, .int .i64 x.n, .string x.s] 23)).alloc (.cells #[.int .u8 y.k, .int .i64 y.n, .string y.s] 23)).alloc (.cells #[.int .u8 z.k, .int .i64 z.n, .string z.s] 23)) (.cells #[.int .u8 x.k, .int .i64 x.n, .string x.s, .int .u8 y.k, .int .i64 y.n, .string y.s] 23)
  replace hB := Later.then hB bb
  replace hX := hX.later bb
  replace hY := hY.later bb
  replace hZ := hZ.later bb
  have hS := Blk.new (((w3.alloc (.cells #[.int .u8 x.k, .int .i64 x.n, .string x.s] 23)).alloc (.cells #[.int .u8 y.k, .int .i64 y.n, .string y.s] 23)).alloc (.cells #[.int .u8 z.k, .int .i64 z.n, .string z.s] 23)) 23 #[.int .u8 x.k, .int .i64 x.n, .string x.s, .int .u8 y.k, .int .i64 y.n, .string y.s]
  clear bb
  simp only [World.size_alloc] at hY hZ hS
  generalize ((((w3.alloc (.cells #[.int .u8 x.k, .int .i64 x.n, .string x.s] 23)).alloc (.cells #[.int .u8 y.k, .int .i64 y.n, .string y.s] 23)).alloc (.cells #[.int .u8 z.k, .int .i64 z.n, .string z.s] 23)).alloc (.cells #[.int .u8 x.k, .int .i64 x.n, .string x.s, .int .u8 y.k, .int .i64 y.n, .string y.s] 23)) = V0 at *
  generalize w3.heap.size + 1 + 1 + 1 = gs at *
  generalize w3.heap.size + 1 + 1 = gz at *
  generalize w3.heap.size + 1 = gy at *
  generalize w3.heap.size = gx at *
  refine (h1 _ _ hS).mono ?_
  clear hS
  rintro e u1 ⟨rfl, bq⟩
  replace hB := Later.then hB bq
  replace hX := hX.later bq
  replace hY := hY.later bq
  replace hZ := hZ.later bq
  clear bq
  have bb := later_new u1 (.cells #[.int .u8 p.k, .int .i64 p.n, .string p.s] 23)
  replace hB := Later.then hB bb
  replace hX := hX.later bb
  replace hY := hY.later bb
  replace hZ := hZ.later bb
  have hP := Blk.new u1 23 #[.int .u8 p.k, .int .i64 p.n, .string p.s]
  clear bb
  have c_hX := val_cells hX
  have c_hY := val_cells hY
  go_wp2_with fail
  clear c_hX c_hY
  have bb := later_new (u1.alloc (.cells #[.int .u8 p.k, .int .i64 p.n, .string p.s] 23)) (.cells #[.int .u8 x.k, .int .i64 x.n, .string x.s, .int .u8 y.k, .int .i64 y.n, .string y.s] 23)
  replace hB := Later.then hB bb
  replace hX := hX.later bb
  replace hY := hY.later bb
  replace hZ := hZ.later bb
  replace hP := hP.later bb
  have hS := Blk.new (u1.alloc (.cells #[.int .u8 p.k, .int .i64 p.n, .string p.s] 23)) 23 #[.int .u8 x.k, .int .i64 x.n, .string x.s, .int .u8 y.k, .int .i64 y.n, .string y.s]
  clear bb
  simp only [World.size_alloc] at hS
  generalize ((u1.alloc (.cells #[.int .u8 p.k, .int .i64 p.n, .string p.s] 23)).alloc (.cells #[.int .u8 x.k, .int .i64 x.n, .string x.s, .int .u8 y.k, .int .i64 y.n, .string y.s] 23)) = V1 at *
  generalize u1.heap.size + 1 = gs1 at *
  generalize u1.heap.size = gr1 at *
  refine (h2 _ _ hS).mono ?_
  clear hS
  rintro e u2 ⟨rfl, bq⟩
  replace hB := Later.then hB bq
  replace hX := hX.later bq
  replace hY := hY.later bq
  replace hZ := hZ.later bq
  replace hP := hP.later bq
  clear bq
  have bb := later_new u2 (.cells #[.int .u8 q.k, .int .i64 q.n, .string q.s] 23)
  replace hB := Later.then hB bb
  replace hX := hX.later bb
  replace hY := hY.later bb
  replace hZ := hZ.later bb
  replace hP := hP.later bb
  have hQ := Blk.new u2 23 #[.int .u8 q.k, .int .i64 q.n, .string q.s]
  clear bb
  have c_hX := val_cells hX
  go_wp2_with fail
  clear c_hX
  have bb := later_new (u2.alloc (.cells #[.int .u8 q.k, .int .i64 q.n, .string q.s] 23)) (.cells #[.int .u8 x.k, .int .i64 x.n, .string x.s] 23)
  replace hB := Later.then hB bb
  replace hX := hX.later bb
  replace hY := hY.later bb
  replace hZ := hZ.later bb
  replace hP := hP.later bb
  replace hQ := hQ.later bb
  have hS := Blk.new (u2.alloc (.cells #[.int .u8 q.k, .int .i64 q.n, .string q.s] 23)) 23 #[.int .u8 x.k, .int .i64 x.n, .string x.s]
  clear bb
  simp only [World.size_alloc] at hS
  generalize ((u2.alloc (.cells #[.int .u8 q.k, .int .i64 q.n, .string q.s] 23)).alloc (.cells #[.int .u8 x.k, .int .i64 x.n, .string x.s] 23)) = V2 at *
  generalize u2.heap.size + 1 = gs2 at *
  generalize u2.heap.size = gr2 at *
  refine (h3 _ _ hS).mono ?_
  clear hS
  rintro e u3 ⟨rfl, bq⟩
  replace hB := Later.then hB bq
  replace hX := hX.later bq
  replace hY := hY.later bq
  replace hZ := hZ.later bq
  replace hP := hP.later bq
  replace hQ := hQ.later bq
  clear bq
  have bb := later_new u3 (.cells #[.int .u8 r.k, .int .i64 r.n, .string r.s] 23)
  replace hB := Later.then hB bb
  replace hX := hX.later bb
  replace hY := hY.later bb
  replace hZ := hZ.later bb
  replace hP := hP.later bb
  replace hQ := hQ.later bb
  have hR := Blk.new u3 23 #[.int .u8 r.k, .int .i64 r.n, .string r.s]
  clear bb
  go_wp2_with fail
  generalize (u3.alloc (.cells #[.int .u8 r.k, .int .i64 r.n, .string r.s] 23)) = V3 at *
  generalize u3.heap.size = gr3 at *
  have c_hX := fun x : Ext V3.heap.size V3 => val_cells (hX.later x.h)
  have c_hY := fun x : Ext V3.heap.size V3 => val_cells (hY.later x.h)
  have c_hP := fun x : Ext V3.heap.size V3 => val_cells (hP.later x.h)
  have c_hQ := fun x : Ext V3.heap.size V3 => val_cells (hQ.later x.h)
  have c_hR := fun x : Ext V3.heap.size V3 => val_cells (hR.later x.h)
  have t1 : ((if ry < rx then ry else rx) != (if ry < rx then ry else rx)) = false := by simp
  have t2 : ((if rx < ry then ry else rx) != (if rx < ry then ry else rx)) = false := by simp
  have t3 : (2 - rx != 2 - rx) = false := by simp
  refine region_cut 38 V3.heap.size V3 (Below.refl _ _) (by kernel_rfl) (by kernel_rfl) (by kernel_rfl) (by kernel_rfl) ?_
  simp only [List.take_succ_cons, List.take_zero, List.drop_succ_cons, List.drop_zero]
  repeat (go_big_quiet_step (fail))
  go_big_quiet_step ((go_at_call 11; exact calls_later (Nat.le_refl _) (kp _)))
  repeat (go_big_quiet_step (fail))
  go_big_quiet_step ((go_at_call 11; exact calls_later (Nat.le_refl _) (kx _)))
  repeat (go_big_quiet_step (fail))
  go_big_quiet_step ((go_at_call 11; exact calls_later (Nat.le_refl _) (ky _)))
  repeat (go_big_quiet_step (fail))
  go_big_quiet_step ((go_at_call 11; exact calls_later (Nat.le_refl _) (kq _)))
  repeat (go_big_quiet_step (fail))
  go_big_quiet_step ((go_at_call 11; exact calls_later (Nat.le_refl _) (kx _)))
  repeat (go_big_quiet_step (fail))
  go_big_quiet_step ((go_at_call 11; exact calls_later (Nat.le_refl _) (ky _)))
  repeat (go_big_quiet_step (fail))
  go_big_quiet_step ((go_at_call 11; exact calls_later (Nat.le_refl _) (kr _)))
  repeat (go_big_quiet_step (fail))
  go_big_quiet_step ((go_at_call 11; exact calls_later (Nat.le_refl _) (kx _)))
  repeat (go_big_quiet_step (fail))
  refine wpQuiet_nil ?_
  rintro V4 ⟨x2, hx2⟩
  have hW := x2.h
  rw [← hx2] at hW
  clear hx2 x2 c_hX c_hY c_hP c_hQ c_hR
  generalize (if ry < rx then ry else rx) = m1 at *
  generalize (if rx < ry then ry else rx) = m2 at *
  replace hB := Later.then hB hW
  replace hX := hX.later hW
  replace hY := hY.later hW
  replace hZ := hZ.later hW
  replace hP := hP.later hW
  replace hQ := hQ.later hW
  replace hR := hR.later hW
  clear hW
  have c_hY := val_cells hY
  have c_hZ := val_cells hZ
  go_wp2_with fail
  clear c_hY c_hZ
  have bb := later_new V4 (.cells #[.int .u8 y.k, .int .i64 y.n, .string y.s, .int .u8 z.k, .int .i64 z.n, .string z.s] 23)
  replace hB := Later.then hB bb
  replace hX := hX.later bb
  replace hY := hY.later bb
  replace hZ := hZ.later bb
  replace hP := hP.later bb
  replace hQ := hQ.later bb
  replace hR := hR.later bb
  have hS := Blk.new V4 23 #[.int .u8 y.k, .int .i64 y.n, .string y.s, .int .u8 z.k, .int .i64 z.n, .string z.s]
  clear bb
  generalize (V4.alloc (.cells #[.int .u8 y.k, .int .i64 y.n, .string y.s, .int .u8 z.k, .int .i64 z.n, .string z.s] 23)) = V5 at *
  generalize V4.heap.size = g5 at *
  refine (h4 _ _ hS).mono ?_
  clear hS
  rintro e u11 ⟨rfl, bq⟩
  replace hB := Later.then hB bq
  replace hX := hX.later bq
  replace hY := hY.later bq
  replace hZ := hZ.later bq
  replace hP := hP.later bq
  replace hQ := hQ.later bq
  replace hR := hR.later bq
  clear bq
  have bb := later_new u11 (.cells #[.int .u8 yz.k, .int .i64 yz.n, .string yz.s] 23)
  replace hB := Later.then hB bb
  replace hX := hX.later bb
  replace hY := hY.later bb
  replace hZ := hZ.later bb
  replace hP := hP.later bb
  replace hQ := hQ.later bb
  replace hR := hR.later bb
  have hYZ := Blk.new u11 23 #[.int .u8 yz.k, .int .i64 yz.n, .string yz.s]
  clear bb
  have c_hX := val_cells hX
  have c_hYZ := val_cells hYZ
  go_wp2_with fail
  clear c_hX c_hYZ
  have bb := later_new (u11.alloc (.cells #[.int .u8 yz.k, .int .i64 yz.n, .string yz.s] 23)) (.cells #[.int .u8 x.k, .int .i64 x.n, .string x.s, .int .u8 yz.k, .int .i64 yz.n, .string yz.s] 23)
  replace hB := Later.then hB bb
  replace hX := hX.later bb
  replace hY := hY.later bb
  replace hZ := hZ.later bb
  replace hP := hP.later bb
  replace hQ := hQ.later bb
  replace hR := hR.later bb
  replace hYZ := hYZ.later bb
  have hS := Blk.new (u11.alloc (.cells #[.int .u8 yz.k, .int .i64 yz.n, .string yz.s] 23)) 23 #[.int .u8 x.k, .int .i64 x.n, .string x.s, .int .u8 yz.k, .int .i64 yz.n, .string yz.s]
  clear bb
  simp only [World.size_alloc] at hS
  generalize ((u11.alloc (.cells #[.int .u8 yz.k, .int .i64 yz.n, .string yz.s] 23)).alloc (.cells #[.int .u8 x.k, .int .i64 x.n, .string x.s, .int .u8 yz.k, .int .i64 yz.n, .string yz.s] 23)) = V11 at *
  generalize u11.heap.size + 1 = gs11 at *
  generalize u11.heap.size = gr11 at *
  refine (h5 _ _ hS).mono ?_
  clear hS
  rintro e u12 ⟨rfl, bq⟩
  replace hB := Later.then hB bq
  replace hX := hX.later bq
  replace hY := hY.later bq
  replace hZ := hZ.later bq
  replace hP := hP.later bq
  replace hQ := hQ.later bq
  replace hR := hR.later bq
  replace hYZ := hYZ.later bq
  clear bq
  have bb := later_new u12 (.cells #[.int .u8 l.k, .int .i64 l.n, .string l.s] 23)
  replace hB := Later.then hB bb
  replace hX := hX.later bb
  replace hY := hY.later bb
  replace hZ := hZ.later bb
  replace hP := hP.later bb
  replace hQ := hQ.later bb
  replace hR := hR.later bb
  replace hYZ := hYZ.later bb
  have hL := Blk.new u12 23 #[.int .u8 l.k, .int .i64 l.n, .string l.s]
  clear bb
  have c_hX := val_cells hX
  have c_hZ := val_cells hZ
  go_wp2_with fail
  clear c_hX c_hZ
  have bb := later_new (u12.alloc (.cells #[.int .u8 l.k, .int .i64 l.n, .string l.s] 23)) (.cells #[.int .u8 x.k, .int .i64 x.n, .string x.s, .int .u8 z.k, .int .i64 z.n, .string z.s] 23)
  replace hB := Later.then hB bb
  replace hX := hX.later bb
  replace hY := hY.later bb
  replace hZ := hZ.later bb
  replace hP := hP.later bb
  replace hQ := hQ.later bb
  replace hR := hR.later bb
  replace hYZ := hYZ.later bb
  replace hL := hL.later bb
  have hS := Blk.new (u12.alloc (.cells #[.int .u8 l.k, .int .i64 l.n, .string l.s] 23)) 23 #[.int .u8 x.k, .int .i64 x.n, .string x.s, .int .u8 z.k, .int .i64 z.n, .string z.s]
  clear bb
  simp only [World.size_alloc] at hS
  generalize ((u12.alloc (.cells #[.int .u8 l.k, .int .i64 l.n, .string l.s] 23)).alloc (.cells #[.int .u8 x.k, .int .i64 x.n, .string x.s, .int .u8 z.k, .int .i64 z.n, .string z.s] 23)) = V12 at *
  generalize u12.heap.size + 1 = gs12 at *
  generalize u12.heap.size = gr12 at *
  refine (h6 _ _ hS).mono ?_
  clear hS
  rintro e u13 ⟨rfl, bq⟩
  replace hB := Later.then hB bq
  replace hX := hX.later bq
  replace hY := hY.later bq
  replace hZ := hZ.later bq
  replace hP := hP.later bq
  replace hQ := hQ.later bq
  replace hR := hR.later bq
  replace hYZ := hYZ.later bq
  replace hL := hL.later bq
  clear bq
  have bb := later_new u13 (.cells #[.int .u8 xz.k, .int .i64 xz.n, .string xz.s] 23)
  replace hB := Later.then hB bb
  replace hX := hX.later bb
  replace hY := hY.later bb
  replace hZ := hZ.later bb
  replace hP := hP.later bb
  replace hQ := hQ.later bb
  replace hR := hR.later bb
  replace hYZ := hYZ.later bb
  replace hL := hL.later bb
  have hXZ := Blk.new u13 23 #[.int .u8 xz.k, .int .i64 xz.n, .string xz.s]
  clear bb
  have c_hP := val_cells hP
  have c_hXZ := val_cells hXZ
  go_wp2_with fail
  clear c_hP c_hXZ
  have bb := later_new (u13.alloc (.cells #[.int .u8 xz.k, .int .i64 xz.n, .string xz.s] 23)) (.cells #[.int .u8 p.k, .int .i64 p.n, .string p.s, .int .u8 xz.k, .int .i64 xz.n, .string xz.s] 23)
  replace hB := Later.then hB bb
  replace hX := hX.later bb
  replace hY := hY.later bb
  replace hZ := hZ.later bb
  replace hP := hP.later bb
  replace hQ := hQ.later bb
  replace hR := hR.later bb
  replace hYZ := hYZ.later bb
  replace hL := hL.later bb
  replace hXZ := hXZ.later bb
  have hS := Blk.new (u13.alloc (.cells #[.int .u8 xz.k, .int .i64 xz.n, .string xz.s] 23)) 23 #[.int .u8 p.k, .int .i64 p.n, .string p.s, .int .u8 xz.k, .int .i64 xz.n, .string xz.s]
  clear bb
  simp only [World.size_alloc] at hS
  generalize ((u13.alloc (.cells #[.int .u8 xz.k, .int .i64 xz.n, .string xz.s] 23)).alloc (.cells #[.int .u8 p.k, .int .i64 p.n, .string p.s, .int .u8 xz.k, .int .i64 xz.n, .string xz.s] 23)) = V13 at *
  generalize u13.heap.size + 1 = gs13 at *
  generalize u13.heap.size = gr13 at *
  refine (h7 _ _ hS).mono ?_
  clear hS
  rintro e u14 ⟨rfl, bq⟩
  replace hB := Later.then hB bq
  replace hX := hX.later bq
  replace hY := hY.later bq
  replace hZ := hZ.later bq
  replace hP := hP.later bq
  replace hQ := hQ.later bq
  replace hR := hR.later bq
  replace hYZ := hYZ.later bq
  replace hL := hL.later bq
  replace hXZ := hXZ.later bq
  clear bq
  have bb := later_new u14 (.cells #[.int .u8 l.k, .int .i64 l.n, .string l.s] 23)
  replace hB := Later.then hB bb
  replace hX := hX.later bb
  replace hY := hY.later bb
  replace hZ := hZ.later bb
  replace hP := hP.later bb
  replace hQ := hQ.later bb
  replace hR := hR.later bb
  replace hYZ := hYZ.later bb
  replace hL := hL.later bb
  replace hXZ := hXZ.later bb
  have hL2 := Blk.new u14 23 #[.int .u8 l.k, .int .i64 l.n, .string l.s]
  clear bb
  have c_hY := val_cells hY
  go_wp2_with fail
  clear c_hY
  have bb := later_new (u14.alloc (.cells #[.int .u8 l.k, .int .i64 l.n, .string l.s] 23)) (.cells #[.int .u8 y.k, .int .i64 y.n, .string y.s] 23)
  replace hB := Later.then hB bb
  replace hX := hX.later bb
  replace hY := hY.later bb
  replace hZ := hZ.later bb
  replace hP := hP.later bb
  replace hQ := hQ.later bb
  replace hR := hR.later bb
  replace hYZ := hYZ.later bb
  replace hL := hL.later bb
  replace hXZ := hXZ.later bb
  replace hL2 := hL2.later bb
  have hS := Blk.new (u14.alloc (.cells #[.int .u8 l.k, .int .i64 l.n, .string l.s] 23)) 23 #[.int .u8 y.k, .int .i64 y.n, .string y.s]
  clear bb
  simp only [World.size_alloc] at hS
  generalize ((u14.alloc (.cells #[.int .u8 l.k, .int .i64 l.n, .string l.s] 23)).alloc (.cells #[.int .u8 y.k, .int .i64 y.n, .string y.s] 23)) = V14 at *
  generalize u14.heap.size + 1 = gs14 at *
  generalize u14.heap.size = gr14 at *
  refine (h8 _ _ hS).mono ?_
  clear hS
  rintro e u15 ⟨rfl, bq⟩
  replace hB := Later.then hB bq
  replace hX := hX.later bq
  replace hY := hY.later bq
  replace hZ := hZ.later bq
  replace hP := hP.later bq
  replace hQ := hQ.later bq
  replace hR := hR.later bq
  replace hYZ := hYZ.later bq
  replace hL := hL.later bq
  replace hXZ := hXZ.later bq
  replace hL2 := hL2.later bq
  clear bq
  have bb := later_new u15 (.cells #[.int .u8 ny.k, .int .i64 ny.n, .string ny.s] 23)
  replace hB := Later.then hB bb
  replace hX := hX.later bb
  replace hY := hY.later bb
  replace hZ := hZ.later bb
  replace hP := hP.later bb
  replace hQ := hQ.later bb
  replace hR := hR.later bb
  replace hYZ := hYZ.later bb
  replace hL := hL.later bb
  replace hXZ := hXZ.later bb
  replace hL2 := hL2.later bb
  have hNY := Blk.new u15 23 #[.int .u8 ny.k, .int .i64 ny.n, .string ny.s]
  clear bb
  have c_hP := val_cells hP
  go_wp2_with fail
  clear c_hP
  have bb := later_new (u15.alloc (.cells #[.int .u8 ny.k, .int .i64 ny.n, .string ny.s] 23)) (.cells #[.int .u8 p.k, .int .i64 p.n, .string p.s] 23)
  replace hB := Later.then hB bb
  replace hX := hX.later bb
  replace hY := hY.later bb
  replace hZ := hZ.later bb
  replace hP := hP.later bb
  replace hQ := hQ.later bb
  replace hR := hR.later bb
  replace hYZ := hYZ.later bb
  replace hL := hL.later bb
  replace hXZ := hXZ.later bb
  replace hL2 := hL2.later bb
  replace hNY := hNY.later bb
  have hS := Blk.new (u15.alloc (.cells #[.int .u8 ny.k, .int .i64 ny.n, .string ny.s] 23)) 23 #[.int .u8 p.k, .int .i64 p.n, .string p.s]
  clear bb
  simp only [World.size_alloc] at hS
  generalize ((u15.alloc (.cells #[.int .u8 ny.k, .int .i64 ny.n, .string ny.s] 23)).alloc (.cells #[.int .u8 p.k, .int .i64 p.n, .string p.s] 23)) = V15 at *
  generalize u15.heap.size + 1 = gs15 at *
  generalize u15.heap.size = gr15 at *
  refine (h9 _ _ hS).mono ?_
  clear hS
  rintro e u16 ⟨rfl, bq⟩
  replace hB := Later.then hB bq
  replace hX := hX.later bq
  replace hY := hY.later bq
  replace hZ := hZ.later bq
  replace hP := hP.later bq
  replace hQ := hQ.later bq
  replace hR := hR.later bq
  replace hYZ := hYZ.later bq
  replace hL := hL.later bq
  replace hXZ := hXZ.later bq
  replace hL2 := hL2.later bq
  replace hNY := hNY.later bq
  clear bq
  have bb := later_new u16 (.cells #[.int .u8 nn.k, .int .i64 nn.n, .string nn.s] 23)
  replace hB := Later.then hB bb
  replace hX := hX.later bb
  replace hY := hY.later bb
  replace hZ := hZ.later bb
  replace hP := hP.later bb
  replace hQ := hQ.later bb
  replace hR := hR.later bb
  replace hYZ := hYZ.later bb
  replace hL := hL.later bb
  replace hXZ := hXZ.later bb
  replace hL2 := hL2.later bb
  replace hNY := hNY.later bb
  have hNN := Blk.new u16 23 #[.int .u8 nn.k, .int .i64 nn.n, .string nn.s]
  clear bb
  have c_hR := val_cells hR
  have c_hNY := val_cells hNY
  go_wp2_with fail
  clear c_hR c_hNY
  have bb := later_new (u16.alloc (.cells #[.int .u8 nn.k, .int .i64 nn.n, .string nn.s] 23)) (.cells #[.int .u8 r.k, .int .i64 r.n, .string r.s, .int .u8 ny.k, .int .i64 ny.n, .string ny.s] 23)
  replace hB := Later.then hB bb
  replace hX := hX.later bb
  replace hY := hY.later bb
  replace hZ := hZ.later bb
  replace hP := hP.later bb
  replace hQ := hQ.later bb
  replace hR := hR.later bb
  replace hYZ := hYZ.later bb
  replace hL := hL.later bb
  replace hXZ := hXZ.later bb
  replace hL2 := hL2.later bb
  replace hNY := hNY.later bb
  replace hNN := hNN.later bb
  have hS := Blk.new (u16.alloc (.cells #[.int .u8 nn.k, .int .i64 nn.n, .string nn.s] 23)) 23 #[.int .u8 r.k, .int .i64 r.n, .string r.s, .int .u8 ny.k, .int .i64 ny.n, .string ny.s]
  clear bb
  simp only [World.size_alloc] at hS
  generalize ((u16.alloc (.cells #[.int .u8 nn.k, .int .i64 nn.n, .string nn.s] 23)).alloc (.cells #[.int .u8 r.k, .int .i64 r.n, .string r.s, .int .u8 ny.k, .int .i64 ny.n, .string ny.s] 23)) = V16 at *
  generalize u16.heap.size + 1 = gs16 at *
  generalize u16.heap.size = gr16 at *
  refine (h10 _ _ hS).mono ?_
  clear hS
  rintro e u17 ⟨rfl, bq⟩
  replace hB := Later.then hB bq
  replace hX := hX.later bq
  replace hY := hY.later bq
  replace hZ := hZ.later bq
  replace hP := hP.later bq
  replace hQ := hQ.later bq
  replace hR := hR.later bq
  replace hYZ := hYZ.later bq
  replace hL := hL.later bq
  replace hXZ := hXZ.later bq
  replace hL2 := hL2.later bq
  replace hNY := hNY.later bq
  replace hNN := hNN.later bq
  clear bq
  have bb := later_new u17 (.cells #[.int .u8 nn.k, .int .i64 nn.n, .string nn.s] 23)
  replace hB := Later.then hB bb
  replace hX := hX.later bb
  replace hY := hY.later bb
  replace hZ := hZ.later bb
  replace hP := hP.later bb
  replace hQ := hQ.later bb
  replace hR := hR.later bb
  replace hYZ := hYZ.later bb
  replace hL := hL.later bb
  replace hXZ := hXZ.later bb
  replace hL2 := hL2.later bb
  replace hNY := hNY.later bb
  replace hNN := hNN.later bb
  have hNN2 := Blk.new u17 23 #[.int .u8 nn.k, .int .i64 nn.n, .string nn.s]
  clear bb
  have c_hL := val_cells hL
  have c_hL2 := val_cells hL2
  have c_hNN := val_cells hNN
  have c_hNN2 := val_cells hNN2
  go_wp2_with fail
  clear c_hL c_hL2 c_hNN c_hNN2
  generalize (u17.alloc (.cells #[.int .u8 nn.k, .int .i64 nn.n, .string nn.s] 23)) = V17 at *
  generalize u17.heap.size = gr17 at *
  refine (wakes_any _).mono ?_
  rintro e w9 ⟨rfl, b9⟩
  go_wp2_with fail
  go_ret
  exact ⟨rfl, Later.then hB b9⟩
end Go.Proofs.Ytlfahfoffdbpfaa
