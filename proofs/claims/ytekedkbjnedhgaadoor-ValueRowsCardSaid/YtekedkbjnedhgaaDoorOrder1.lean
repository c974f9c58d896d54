/- ValueOrder: the walk. Printed by gen_order.py. -/
import Derived.Test.YtekedkbjnedhgaaDoorEqv
import Derived.Test.YtekedkbjnedhgaaDoorOwnV
import Derived.Deep.DeepCutAuto
import Derived.Test.YtekedkbjnedhgaaDoorRule2
import Derived.Test.YtekedkbjnedhgaaDoorApp2
namespace Go.Proofs.YtekedkbjnedhgaaDoor
open Go.ChangeShapes Go.WideShapes Go.ChangeAt Go.RowKit
set_option linter.unusedVariables false
set_option linter.unusedSimpArgs false
set_option maxRecDepth 100000

theorem rv_three {w : World} {g : Nat} {a b c : Val} (h : Blk w g 23 #[.int .u8 a.k, .int .i64 a.n, .string a.s, .int .u8 b.k, .int .i64 b.n, .string b.s, .int .u8 c.k, .int .i64 c.n, .string c.s]) : RV w w.heap.size (some ⟨g, 0, none⟩) [a, b, c] := by
  refine .inr ⟨g, 0, rfl, h.lt, fun i x hx => ?_⟩
  match i with
  | 0 => simp at hx; subst hx; exact ⟨h.cell 0, h.cell 1, h.cell 2⟩
  | 1 => simp at hx; subst hx; exact ⟨h.cell 3, h.cell 4, h.cell 5⟩
  | 2 => simp at hx; subst hx; exact ⟨h.cell 6, h.cell 7, h.cell 8⟩
  | i + 3 => simp at hx
theorem rv_one {w : World} {g : Nat} {a : Val} (h : Blk w g 23 #[.int .u8 a.k, .int .i64 a.n, .string a.s]) : RV w w.heap.size (some ⟨g, 0, none⟩) [a] := by
  refine .inr ⟨g, 0, rfl, h.lt, fun i x hx => ?_⟩
  match i with
  | 0 => simp at hx; subst hx; exact ⟨h.cell 0, h.cell 1, h.cell 2⟩
  | i + 1 => simp at hx
theorem rr_four {w : World} {g : Nat} {x y z u : RowS} (h : Blk w g 29 #[.slice x.A x.l.length x.c, .slice y.A y.l.length y.c, .slice z.A z.l.length z.c, .slice u.A u.l.length u.c])
    (hx : RV w w.heap.size x.A x.l) (hy : RV w w.heap.size y.A y.l) (hz : RV w w.heap.size z.A z.l) (hu : RV w w.heap.size u.A u.l) : RR w w.heap.size (some ⟨g, 0, none⟩) [x, y, z, u] := by
  refine .inr ⟨g, 0, rfl, h.lt, fun i r hr => ?_⟩
  match i with
  | 0 => simp at hr; subst hr; exact ⟨h.cell 0, hx⟩
  | 1 => simp at hr; subst hr; exact ⟨h.cell 1, hy⟩
  | 2 => simp at hr; subst hr; exact ⟨h.cell 2, hz⟩
  | 3 => simp at hr; subst hr; exact ⟨h.cell 3, hu⟩
  | i + 4 => simp at hr
theorem RV.later {w w' : World} {A : Option Addr} {l : List Val} (h : RV w w.heap.size A l) (hb : Below w.heap.size w w') : RV w' w'.heap.size A l := (h.below hb).more hb.size
theorem not_great {rs : List RowS} (h : greatL rs = false) {r : RowS} (hr : r ∈ rs) : r.l.length ≤ 40 ∧ ∀ v ∈ r.l, v.s.size ≤ 300 := by
  unfold greatL at h
  simp only [Bool.or_eq_false_iff] at h
  have h2 := List.any_eq_false.1 h.2 r hr
  unfold rowGreat at h2
  simp only [Bool.or_eq_true, not_or, decide_eq_true_eq] at h2
  refine ⟨by omega, fun v hv => ?_⟩
  have h3 := h2.2
  simp only [Bool.not_eq_true] at h3
  have := List.any_eq_false.1 h3 v hv
  unfold valGreat at this
  simp only [decide_eq_true_eq] at this
  omega

def o7V (XA : Option Addr) (x : List Val) (xc : Nat) (a : Val) (base : Nat) : Nat → World → Value → Prop
  | 0, _, u => u = .slice XA x.length xc
  | 1, w, u => OwnF valCells 23 3 w base u x
  | 2, _, u => u = valV a
  | 3, w, u => ∃ g, u = .slice (some ⟨g, 0, none⟩) 1 1 ∧ Blk w g 23 #[.int .u8 a.k, .int .i64 a.n, .string a.s]
  | _, _, _ => False
theorem o7V_stays (XA : Option Addr) (x : List Val) (xc : Nat) (a : Val) (base : Nat) : ∀ i w w' u, o7V XA x xc a base i w u → Later w w' → o7V XA x xc a base i w' u := by
  intro i w w' u h hl
  match i with
  | 0 => exact h
  | 1 => exact OwnF.later h hl
  | 2 => exact h
  | 3 => obtain ⟨g, h1, h2⟩ := h; exact ⟨g, h1, h2.later hl⟩
  | _ + 4 => exact h
def o8V (XA : Option Addr) (x : List Val) (xc : Nat) (a b : Val) (wv : Value) : Nat → World → Value → Prop
  | 0, _, u => u = .slice XA x.length xc
  | 1, _, u => u = wv
  | 2, _, u => u = .int .i64 (-1)
  | 3, _, u => u = .bool true
  | 4, _, u => u = .bool true
  | 5, _, u => u = valV a
  | 6, w, u => ∃ g, u = .slice (some ⟨g, 0, none⟩) 1 1 ∧ Blk w g 23 #[.int .u8 a.k, .int .i64 a.n, .string a.s]
  | 7, _, u => u = valV b
  | 8, w, u => ∃ g, u = .slice (some ⟨g, 0, none⟩) 1 1 ∧ Blk w g 23 #[.int .u8 b.k, .int .i64 b.n, .string b.s]
  | 9, _, u => u = .int .i64 (vcmp a b)
  | 10, _, u => u = valV a
  | 11, _, u => u = valV b
  | 12, _, u => u = .int .i64 (vcmp a b)
  | 13, _, u => u = .bool true
  | 14, _, u => u = .bool true
  | 15, _, u => u = .bool true
  | 16, _, u => u = .bool true
  | 17, _, u => u = .bool true
  | _, _, _ => False
theorem o8V_stays (XA : Option Addr) (x : List Val) (xc : Nat) (a b : Val) (wv : Value) : ∀ i w w' u, o8V XA x xc a b wv i w u → Later w w' → o8V XA x xc a b wv i w' u := by
  intro i w w' u h hl
  match i with
  | 6 => obtain ⟨g, h1, h2⟩ := h; exact ⟨g, h1, h2.later hl⟩
  | 8 => obtain ⟨g, h1, h2⟩ := h; exact ⟨g, h1, h2.later hl⟩
  | 0 | 1 | 2 | 3 | 4 | 5 | 7 | 9 | 10 | 11 | 12 | 13 | 14 | 15 | 16 | 17 => exact h
  | _ + 18 => exact h

set_option maxHeartbeats 4000000 in
theorem valueOrder_any (a b c : Val) (XA YA ZA : Option Addr) (x y z : List Val) (xc yc zc : Nat) (ha : a.Ok) (hb : b.Ok) (hc : c.Ok) (w : World) (hx : RV w w.heap.size XA x) (hy : RV w w.heap.size YA y) (hz : RV w w.heap.size ZA z) (hxl : x.length ≤ 140737488355328) (hyl : y.length ≤ 140737488355328) (hzl : z.length ≤ 140737488355328) (hE : Env w) :
    Calls Tryd.prog 4 #[.agg #[.int .u8 a.k, .int .i64 a.n, .string a.s], .agg #[.int .u8 b.k, .int .i64 b.n, .string b.s], .agg #[.int .u8 c.k, .int .i64 c.n, .string c.s], .slice XA x.length xc, .slice YA y.length yc, .slice ZA z.length zc] w fun e w' => e = .returned (.bool true) ∧ Below w.heap.size w w' := by
  have hA := ((Blk.new w 23 #[.int .u8 a.k, .int .i64 a.n, .string a.s]).alloc (.cells #[.int .u8 b.k, .int .i64 b.n, .string b.s] 23)).alloc (.cells #[.int .u8 c.k, .int .i64 c.n, .string c.s] 23)
  have hBB := (Blk.new (w.alloc (.cells #[.int .u8 a.k, .int .i64 a.n, .string a.s] 23)) 23 #[.int .u8 b.k, .int .i64 b.n, .string b.s]).alloc (.cells #[.int .u8 c.k, .int .i64 c.n, .string c.s] 23)
  have hCC := Blk.new ((w.alloc (.cells #[.int .u8 a.k, .int .i64 a.n, .string a.s] 23)).alloc (.cells #[.int .u8 b.k, .int .i64 b.n, .string b.s] 23)) 23 #[.int .u8 c.k, .int .i64 c.n, .string c.s]
  simp only [World.size_alloc] at hBB hCC
  have hB := Later.then (Later.then (later_new w (.cells #[.int .u8 a.k, .int .i64 a.n, .string a.s] 23)) (later_new _ (.cells #[.int .u8 b.k, .int .i64 b.n, .string b.s] 23))) (later_new _ (.cells #[.int .u8 c.k, .int .i64 c.n, .string c.s] 23))
  have HE := Lib.hid hE
  have HX := Lib.hid hx
  have HY := Lib.hid hy
  have HZ := Lib.hid hz
  clear hE hx hy hz
  go_enter Tryd.func4, Tryd.ntmps4
  go_upto_region 1 with fail
  generalize ((w.alloc (.cells #[.int .u8 a.k, .int .i64 a.n, .string a.s] 23)).alloc (.cells #[.int .u8 b.k, .int .i64 b.n, .string b.s] 23)).alloc (.cells #[.int .u8 c.k, .int .i64 c.n, .string c.s] 23) = W at *
  generalize w.heap.size + 1 + 1 = gc at *
  generalize w.heap.size + 1 = gb at *
  obtain ⟨a0, a1, a2⟩ := val_cells hA
  obtain ⟨b0, b1, b2⟩ := val_cells hBB
  obtain ⟨c0, c1, c2⟩ := val_cells hCC
  go_wp2_with fail
  clear a0 a1 a2 b0 b1 b2 c0 c1 c2
  have hS := (Blk.new W 23 #[.int .u8 a.k, .int .i64 a.n, .string a.s, .int .u8 b.k, .int .i64 b.n, .string b.s, .int .u8 c.k, .int .i64 c.n, .string c.s]).alloc (.cells #[.slice XA x.length xc, .slice YA y.length yc, .slice ZA z.length zc, .slice (some ⟨W.heap.size, 0, none⟩) 3 3] 29)
  have hT := Blk.new (W.alloc (.cells #[.int .u8 a.k, .int .i64 a.n, .string a.s, .int .u8 b.k, .int .i64 b.n, .string b.s, .int .u8 c.k, .int .i64 c.n, .string c.s] 23)) 29 #[.slice XA x.length xc, .slice YA y.length yc, .slice ZA z.length zc, .slice (some ⟨W.heap.size, 0, none⟩) 3 3]
  have bb := Later.then (later_new W (.cells #[.int .u8 a.k, .int .i64 a.n, .string a.s, .int .u8 b.k, .int .i64 b.n, .string b.s, .int .u8 c.k, .int .i64 c.n, .string c.s] 23)) (later_new (W.alloc (.cells #[.int .u8 a.k, .int .i64 a.n, .string a.s, .int .u8 b.k, .int .i64 b.n, .string b.s, .int .u8 c.k, .int .i64 c.n, .string c.s] 23)) (.cells #[.slice XA x.length xc, .slice YA y.length yc, .slice ZA z.length zc, .slice (some ⟨W.heap.size, 0, none⟩) 3 3] 29))
  rw [World.size_alloc] at hT
  replace hA := hA.later bb
  replace hBB := hBB.later bb
  replace hCC := hCC.later bb
  replace hB := Later.then hB bb
  generalize (W.alloc (.cells #[.int .u8 a.k, .int .i64 a.n, .string a.s, .int .u8 b.k, .int .i64 b.n, .string b.s, .int .u8 c.k, .int .i64 c.n, .string c.s] 23)).alloc (.cells #[.slice XA x.length xc, .slice YA y.length yc, .slice ZA z.length zc, .slice (some ⟨W.heap.size, 0, none⟩) 3 3] 29) = W2 at *
  have hS3 := rv_three hS
  refine (great_any (some ⟨W.heap.size + 1, 0, none⟩) 4 [⟨XA, x, xc⟩, ⟨YA, y, yc⟩, ⟨ZA, z, zc⟩, ⟨some ⟨W.heap.size, 0, none⟩, [a, b, c], 3⟩] W2 (rr_four hT (HX.out.later hB) (HY.out.later hB) (HZ.out.later hB) hS3) (by simp) ?_).mono ?_
  · intro r hr
    simp at hr
    rcases hr with rfl | rfl | rfl | rfl <;> simp <;> omega
  clear hS hT hS3 bb
  rintro e_ w2 ⟨rfl, rfl⟩
  cases hg : greatL [⟨XA, x, xc⟩, ⟨YA, y, yc⟩, ⟨ZA, z, zc⟩, ⟨some ⟨W.heap.size, 0, none⟩, [a, b, c], 3⟩]
  · have gx := (not_great hg (r := ⟨XA, x, xc⟩) (by simp)).1
    have gy := (not_great hg (r := ⟨YA, y, yc⟩) (by simp)).1
    have gz := (not_great hg (r := ⟨ZA, z, zc⟩) (by simp)).1
    clear hg
    dsimp only at gx gy gz
    replace HX := Lib.hid (HX.out.later hB)
    replace HY := Lib.hid (HY.out.later hB)
    replace HZ := Lib.hid (HZ.out.later hB)
    replace HE := Lib.hid (HE.out.later hB)
    clear hxl hyl hzl
    generalize hWW : W.heap.size + 1 = gt at *
    clear hWW
    go_upto_region 3 with fail
    go_cut [59] (fun s wr => s = .bool false ∧ Below w2.heap.size w2 wr)
    case first =>
      have x0 := fun q : Ext w2.heap.size w2 => val_cells (hA.later q.h)
      have y0 := fun q : Ext w2.heap.size w2 => val_cells (hBB.later q.h)
      have z0 := fun q : Ext w2.heap.size w2 => val_cells (hCC.later q.h)
      have n1 : wrap64 (-(vcmp b a)) = vcmp a b := by
        have h1 := vcmp_good.anti a b
        have h2 := vcmp_bd b a
        rw [← h1]
        have h3 := vcmp_bd a b
        unfold wrap64
        omega
      have he := eqv_run a b
      by_cases h1 : vcmp a b ≤ 0
      · by_cases h2 : vcmp b c ≤ 0
        · have t1 := decide_eq_true h1
          have t2 := decide_eq_true h2
          have t3 := decide_eq_false (show ¬ 0 < vcmp a c from by have := vcmp_good.trans a b c h1 h2; omega)
          clear h1 h2
          refine region_cut 36 w2.heap.size w2 (Below.refl _ _) (by kernel_rfl) (by kernel_rfl) (by kernel_rfl) (by kernel_rfl) ?_
          simp only [List.append, List.take_succ_cons, List.take_zero, List.drop_succ_cons, List.drop_zero]
          repeat (go_big_quiet_step (fail))
          go_big_quiet_step ((go_at_call 11; exact calls_later (Nat.le_refl _) (compare_any a b _)))
          repeat (go_big_quiet_step (fail))
          go_big_quiet_step ((go_at_call 11; exact calls_later (Nat.le_refl _) (compare_any b a _)))
          repeat (go_big_quiet_step (fail))
          go_big_quiet_step ((go_at_call 11; exact calls_later (Nat.le_refl _) (compare_any a b _)))
          repeat (go_big_quiet_step (fail))
          go_big_quiet_step ((go_at_call 11; exact calls_later (Nat.le_refl _) (compare_any a b _)))
          repeat (go_big_quiet_step (fail))
          go_big_quiet_step ((go_at_call 11; exact calls_later (Nat.le_refl _) (compare_any b c _)))
          repeat (go_big_quiet_step (fail))
          go_big_quiet_step ((go_at_call 11; exact calls_later (Nat.le_refl _) (compare_any a c _)))
          repeat (go_big_quiet_step (fail))
          refine wpQuiet_nil ?_
          rintro V4 ⟨x9, hx9⟩
          have hW := x9.h
          rw [← hx9] at hW
          clear hx9 x9
          go_wp2_with fail
          go_meet
          case rel => exact ⟨rfl, hW⟩
        · have t1 := decide_eq_true h1
          have t2 := decide_eq_false h2
          clear h1 h2
          refine region_cut 36 w2.heap.size w2 (Below.refl _ _) (by kernel_rfl) (by kernel_rfl) (by kernel_rfl) (by kernel_rfl) ?_
          simp only [List.append, List.take_succ_cons, List.take_zero, List.drop_succ_cons, List.drop_zero]
          repeat (go_big_quiet_step (fail))
          go_big_quiet_step ((go_at_call 11; exact calls_later (Nat.le_refl _) (compare_any a b _)))
          repeat (go_big_quiet_step (fail))
          go_big_quiet_step ((go_at_call 11; exact calls_later (Nat.le_refl _) (compare_any b a _)))
          repeat (go_big_quiet_step (fail))
          go_big_quiet_step ((go_at_call 11; exact calls_later (Nat.le_refl _) (compare_any a b _)))
          repeat (go_big_quiet_step (fail))
          go_big_quiet_step ((go_at_call 11; exact calls_later (Nat.le_refl _) (compare_any a b _)))
          repeat (go_big_quiet_step (fail))
          go_big_quiet_step ((go_at_call 11; exact calls_later (Nat.le_refl _) (compare_any b c _)))
          repeat (go_big_quiet_step (fail))
          refine wpQuiet_nil ?_
          rintro V4 ⟨x9, hx9⟩
          have hW := x9.h
          rw [← hx9] at hW
          clear hx9 x9
          go_wp2_with fail
          go_meet
          case rel => exact ⟨rfl, hW⟩
      · have t1 := decide_eq_false h1
        clear h1
        refine region_cut 36 w2.heap.size w2 (Below.refl _ _) (by kernel_rfl) (by kernel_rfl) (by kernel_rfl) (by kernel_rfl) ?_
        simp only [List.append, List.take_succ_cons, List.take_zero, List.drop_succ_cons, List.drop_zero]
        repeat (go_big_quiet_step (fail))
        go_big_quiet_step ((go_at_call 11; exact calls_later (Nat.le_refl _) (compare_any a b _)))
        repeat (go_big_quiet_step (fail))
        go_big_quiet_step ((go_at_call 11; exact calls_later (Nat.le_refl _) (compare_any b a _)))
        repeat (go_big_quiet_step (fail))
        go_big_quiet_step ((go_at_call 11; exact calls_later (Nat.le_refl _) (compare_any a b _)))
        repeat (go_big_quiet_step (fail))
        go_big_quiet_step ((go_at_call 11; exact calls_later (Nat.le_refl _) (compare_any a b _)))
        repeat (go_big_quiet_step (fail))
        refine wpQuiet_nil ?_
        rintro V4 ⟨x9, hx9⟩
        have hW := x9.h
        rw [← hx9] at hW
        clear hx9 x9
        go_wp2_with fail
        go_meet
        case rel => exact ⟨rfl, hW⟩
    case rest =>
      obtain ⟨rfl, b1⟩ := hcut
      replace hA := hA.later b1
      replace hBB := hBB.later b1
      replace hCC := hCC.later b1
      replace hB := Later.then hB b1
      replace HX := Lib.hid (HX.out.later b1)
      replace HY := Lib.hid (HY.out.later b1)
      replace HZ := Lib.hid (HZ.out.later b1)
      replace HE := Lib.hid (HE.out.later b1)
      clear b1
      go_upto_region 5 with fail
      go_cut [91] (fun s wr => s = .bool false ∧ Below wc.heap.size wc wr)
      case first =>
        have n1 : wrap64 (-(rcmp y x)) = rcmp x y := by
          have h1 := rcmp_anti x y
          rw [← h1]
          have h3 := rcmp_bd x y
          unfold wrap64
          omega
        have hb1 := Below.refl wc.heap.size wc
        by_cases h1 : rcmp x y ≤ 0
        · by_cases h2 : rcmp y z ≤ 0
          · have t1 := decide_eq_true h1
            have t2 := decide_eq_true h2
            have t3 := decide_eq_false (show ¬ 0 < rcmp x z from by have := rcmp_trans x y z h1 h2; omega)
            clear h1 h2
            go_wp2_with fail
            refine (rows_any XA xc x YA yc y _ (HX.out.later hb1) (HY.out.later hb1) (by omega) (by omega)).mono ?_
            rintro e_ wn ⟨rfl, b9⟩
            replace hb1 := Later.then hb1 b9
            clear b9
            go_wp2_with fail
            refine (rows_any YA yc y XA xc x _ (HY.out.later hb1) (HX.out.later hb1) (by omega) (by omega)).mono ?_
            rintro e_ wn ⟨rfl, b9⟩
            replace hb1 := Later.then hb1 b9
            clear b9
            go_wp2_with fail
            refine (rows_any XA xc x XA xc x _ (HX.out.later hb1) (HX.out.later hb1) (by omega) (by omega)).mono ?_
            rintro e_ wn ⟨rfl, b9⟩
            replace hb1 := Later.then hb1 b9
            clear b9
            rw [rcmp_refl x]
            go_wp2_with fail
            refine (rows_any XA xc x YA yc y _ (HX.out.later hb1) (HY.out.later hb1) (by omega) (by omega)).mono ?_
            rintro e_ wn ⟨rfl, b9⟩
            replace hb1 := Later.then hb1 b9
            clear b9
            go_wp2_with fail
            refine (rows_any YA yc y ZA zc z _ (HY.out.later hb1) (HZ.out.later hb1) (by omega) (by omega)).mono ?_
            rintro e_ wn ⟨rfl, b9⟩
            replace hb1 := Later.then hb1 b9
            clear b9
            go_wp2_with fail
            refine (rows_any XA xc x ZA zc z _ (HX.out.later hb1) (HZ.out.later hb1) (by omega) (by omega)).mono ?_
            rintro e_ wn ⟨rfl, b9⟩
            replace hb1 := Later.then hb1 b9
            clear b9
            go_wp2_with fail
            go_meet
            case rel => exact ⟨rfl, hb1⟩
          · have t1 := decide_eq_true h1
            have t2 := decide_eq_false h2
            clear h1 h2
            go_wp2_with fail
            refine (rows_any XA xc x YA yc y _ (HX.out.later hb1) (HY.out.later hb1) (by omega) (by omega)).mono ?_
            rintro e_ wn ⟨rfl, b9⟩
            replace hb1 := Later.then hb1 b9
            clear b9
            go_wp2_with fail
            refine (rows_any YA yc y XA xc x _ (HY.out.later hb1) (HX.out.later hb1) (by omega) (by omega)).mono ?_
            rintro e_ wn ⟨rfl, b9⟩
            replace hb1 := Later.then hb1 b9
            clear b9
            go_wp2_with fail
            refine (rows_any XA xc x XA xc x _ (HX.out.later hb1) (HX.out.later hb1) (by omega) (by omega)).mono ?_
            rintro e_ wn ⟨rfl, b9⟩
            replace hb1 := Later.then hb1 b9
            clear b9
            rw [rcmp_refl x]
            go_wp2_with fail
            refine (rows_any XA xc x YA yc y _ (HX.out.later hb1) (HY.out.later hb1) (by omega) (by omega)).mono ?_
            rintro e_ wn ⟨rfl, b9⟩
            replace hb1 := Later.then hb1 b9
            clear b9
            go_wp2_with fail
            refine (rows_any YA yc y ZA zc z _ (HY.out.later hb1) (HZ.out.later hb1) (by omega) (by omega)).mono ?_
            rintro e_ wn ⟨rfl, b9⟩
            replace hb1 := Later.then hb1 b9
            clear b9
            go_wp2_with fail
            go_meet
            case rel => exact ⟨rfl, hb1⟩
        · have t1 := decide_eq_false h1
          clear h1
          go_wp2_with fail
          refine (rows_any XA xc x YA yc y _ (HX.out.later hb1) (HY.out.later hb1) (by omega) (by omega)).mono ?_
          rintro e_ wn ⟨rfl, b9⟩
          replace hb1 := Later.then hb1 b9
          clear b9
          go_wp2_with fail
          refine (rows_any YA yc y XA xc x _ (HY.out.later hb1) (HX.out.later hb1) (by omega) (by omega)).mono ?_
          rintro e_ wn ⟨rfl, b9⟩
          replace hb1 := Later.then hb1 b9
          clear b9
          go_wp2_with fail
          refine (rows_any XA xc x XA xc x _ (HX.out.later hb1) (HX.out.later hb1) (by omega) (by omega)).mono ?_
          rintro e_ wn ⟨rfl, b9⟩
          replace hb1 := Later.then hb1 b9
          clear b9
          rw [rcmp_refl x]
          go_wp2_with fail
          refine (rows_any XA xc x YA yc y _ (HX.out.later hb1) (HY.out.later hb1) (by omega) (by omega)).mono ?_
          rintro e_ wn ⟨rfl, b9⟩
          replace hb1 := Later.then hb1 b9
          clear b9
          go_wp2_with fail
          go_meet
          case rel => exact ⟨rfl, hb1⟩
      case rest =>
        obtain ⟨rfl, b1⟩ := hcut
        replace hA := hA.later b1
        replace hBB := hBB.later b1
        replace hCC := hCC.later b1
        replace hB := Later.then hB b1
        replace HX := Lib.hid (HX.out.later b1)
        replace HE := Lib.hid (HE.out.later b1)
        clear b1 HY HZ
        go_upto_region 7 with fail
        have hbase := Nat.le_refl wc.heap.size
        refine region_by 4 (o7V XA x xc a wc.heap.size) (o7V_stays _ _ _ _ _) (by kernel_rfl) (by kernel_rfl) (by kernel_rfl) ?_ ?_
        · simp only [List.take_succ_cons, List.take_zero]
          refine ⟨?_, ?_, ?_, ?_, trivial⟩
          · intro ρ w3 hc_ hL hr
            have h1 : ρ (.tmp 3) = .slice XA x.length xc := hr.1
            exact opW_move (.inl rfl) h1 ⟨Later.refl _, rfl⟩
          · intro ρ w3 hc_ hL hr
            have h0 := hc_.const (.slice none 0 0)
            have h1 : ρ (.tmp 92) = .slice XA x.length xc := hr.1
            obtain ⟨v', w', hrun, ho, hl⟩ := run_clone (w := w3) wc.heap.size 29 xc (HX.out.below hL) (by omega) hL.size
            exact opW_run (v := v') (w' := w') (by simp only [execOp, resolve, invoke, builtin, Sem.run_bind, Sem.run_pure, Result.andThen_ok, List.map_toArray, List.map_cons, List.map_nil, h0, h1, hrun]) ⟨hl, ho⟩
          · intro ρ w3 hc_ hL hr
            have h1 : ρ (.tmp 6) = .pointer (some ⟨w.heap.size, 0, none⟩) := hr.1
            have c0 := val_cells (hA.later hL)
            exact opW_run (v := valV a) (w' := w3) (by simp [go_sem, h1, c0, valV]) ⟨Later.refl _, rfl⟩
          · intro ρ w3 hc_ hL hr
            have h1 : ρ (.tmp 94) = valV a := hr.1
            unfold valV at h1
            exact opW_run (v := .slice (some ⟨w3.heap.size, 0, none⟩) 1 1) (w' := w3.alloc (.cells #[.int .u8 a.k, .int .i64 a.n, .string a.s] 23)) (by simp [go_sem, h1]) ⟨later_new w3 _, ⟨_, rfl, Blk.new w3 _ _⟩⟩
        · intro w3 hL
          simp only [List.take_succ_cons, List.take_zero, List.drop_succ_cons, List.drop_zero]
          intro a0 h0 a1 h1 a2 h2 a3 h3
          have h0 : .slice XA x.length xc = a0 := Eq.symm h0
          have h2 : valV a = a2 := Eq.symm h2
          subst h0 h2
          have HO := Lib.hid (show OwnF valCells 23 3 w3 wc.heap.size a1 x from h1)
          clear h1
          obtain ⟨q, rfl, hq⟩ := h3
          have HQ := Lib.hid hq
          clear hq
          simp only [FinOf, Act.put, List.setIfInBounds_toArray, List.set_cons_succ, List.set_cons_zero, valV]
          have hsz := hL.size
          go_wp2_with (first
            | (at_builtin
               refine wpList_append_one rfl (.tmp 93) (.tmp 95) 29 rfl _ 32 Tryd.underlying29 val_info rfl (by omega) a rfl (by simp [valCells, Value.oneCell']) rfl HO.out q rfl HQ.out (by omega) (by omega) hsz ?_
               intro v2 w4 o2 g2
               have b3 := below_own HO.out g2 hsz
               have O2 := Lib.hid o2
               clear o2))
          have b4 := Below.trans hL b3
          replace hA := hA.later b4
          replace hBB := hBB.later b4
          replace hCC := hCC.later b4
          replace hB := Later.then hB b4
          replace HX := Lib.hid (HX.out.later b4)
          replace HE := Lib.hid (HE.out.later b4)
          clear g2 b3 hL b4 HO HQ h0 h2 hbase hsz
          obtain ⟨A2, c2, rfl, hR2, _⟩ := rv_own O2.out
          refine region_by 18 (o8V XA x xc a b (.slice A2 (x ++ [a]).length c2)) (o8V_stays _ _ _ _ _ _) (by kernel_rfl) (by kernel_rfl) (by kernel_rfl) ?_ ?_
          · simp only [List.take_succ_cons, List.take_zero]
            refine ⟨?_, ?_, ?_, ?_, ?_, ?_, ?_, ?_, ?_, ?_, ?_, ?_, ?_, ?_, ?_, ?_, ?_, ?_, trivial⟩
            · intro ρ w3 hc_ hL hr
              have h1 : ρ (.tmp 3) = .slice XA x.length xc := hr.1
              exact opW_move (.inl rfl) h1 ⟨Later.refl _, rfl⟩
            · intro ρ w3 hc_ hL hr
              have h1 : ρ (.tmp 13) = .slice A2 (x ++ [a]).length c2 := hr.1
              exact opW_move (.inl rfl) h1 ⟨Later.refl _, rfl⟩
            · intro ρ w3 hc_ hL hr
              have h1 : ρ (.tmp 97) = .slice XA x.length xc := hr.1
              have h2 : ρ (.tmp 98) = .slice A2 (x ++ [a]).length c2 := hr.2.1
              have e1 := hc_.func 16
              refine opW_call (f := 16) (args := #[.slice XA x.length xc, .slice A2 (x ++ [a]).length c2]) (w' := w3) (by simp [go_sem, e1, h1, h2]) ?_
              refine (rows_any XA xc x A2 c2 (x ++ [a]) w3 (HX.out.later hL) (hR2.later hL) (by omega) (by simp; omega)).mono ?_
              rintro e_ w6 ⟨rfl, b6⟩
              exact ⟨_, rfl, b6, by rw [rcmp_snoc]; rfl⟩
            · intro ρ w3 hc_ hL hr
              have h1 : ρ (.tmp 99) = .int .i64 (-1) := hr.1
              have h2 := hc_.const (.int .i64 (-1))
              exact opW_run (v := .bool true) (w' := w3) (by simp [go_sem, h1, h2]) ⟨Later.refl _, rfl⟩
            · intro ρ w3 hc_ hL hr
              have h1 : ρ (.tmp 100) = .bool true := hr.1
              exact opW_move (.inl rfl) h1 ⟨Later.refl _, rfl⟩
            · intro ρ w3 hc_ hL hr
              intro hg
              have hg : ρ (.tmp 101) = .bool true := hg
              refine ⟨fun _ => ?_, fun hn => absurd hg hn⟩
              have h1 : ρ (.tmp 6) = .pointer (some ⟨w.heap.size, 0, none⟩) := hr.1
              have c0 := val_cells (hA.later hL)
              exact opW_run (v := valV a) (w' := w3) (by simp [go_sem, h1, c0, valV]) ⟨Later.refl _, rfl⟩
            · intro ρ w3 hc_ hL hr
              intro hg
              have hg : ρ (.tmp 101) = .bool true := hg
              refine ⟨fun _ => ?_, fun hn => absurd hg hn⟩
              have h1 : ρ (.tmp 102) = valV a := hr.1
              unfold valV at h1
              exact opW_run (v := .slice (some ⟨w3.heap.size, 0, none⟩) 1 1) (w' := w3.alloc (.cells #[.int .u8 a.k, .int .i64 a.n, .string a.s] 23)) (by simp [go_sem, h1]) ⟨later_new w3 _, ⟨_, rfl, Blk.new w3 _ _⟩⟩
            · intro ρ w3 hc_ hL hr
              intro hg
              have hg : ρ (.tmp 101) = .bool true := hg
              refine ⟨fun _ => ?_, fun hn => absurd hg hn⟩
              have h1 : ρ (.tmp 7) = .pointer (some ⟨gb, 0, none⟩) := hr.1
              have c0 := val_cells (hBB.later hL)
              exact opW_run (v := valV b) (w' := w3) (by simp [go_sem, h1, c0, valV]) ⟨Later.refl _, rfl⟩
            · intro ρ w3 hc_ hL hr
              intro hg
              have hg : ρ (.tmp 101) = .bool true := hg
              refine ⟨fun _ => ?_, fun hn => absurd hg hn⟩
              have h1 : ρ (.tmp 104) = valV b := hr.1
              unfold valV at h1
              exact opW_run (v := .slice (some ⟨w3.heap.size, 0, none⟩) 1 1) (w' := w3.alloc (.cells #[.int .u8 b.k, .int .i64 b.n, .string b.s] 23)) (by simp [go_sem, h1]) ⟨later_new w3 _, ⟨_, rfl, Blk.new w3 _ _⟩⟩
            · intro ρ w3 hc_ hL hr
              intro hg
              have hg : ρ (.tmp 101) = .bool true := hg
              refine ⟨fun _ => ?_, fun hn => absurd hg hn⟩
              obtain ⟨g1, h1, k1⟩ : ∃ g, ρ (.tmp 103) = .slice (some ⟨g, 0, none⟩) 1 1 ∧ Blk w3 g 23 #[.int .u8 a.k, .int .i64 a.n, .string a.s] := hr.1
              obtain ⟨g2, h2, k2⟩ : ∃ g, ρ (.tmp 105) = .slice (some ⟨g, 0, none⟩) 1 1 ∧ Blk w3 g 23 #[.int .u8 b.k, .int .i64 b.n, .string b.s] := hr.2.1
              have e1 := hc_.func 16
              refine opW_call (f := 16) (args := #[.slice (some ⟨g1, 0, none⟩) 1 1, .slice (some ⟨g2, 0, none⟩) 1 1]) (w' := w3) (by simp [go_sem, e1, h1, h2]) ?_
              refine (rows_any (some ⟨g1, 0, none⟩) 1 [a] (some ⟨g2, 0, none⟩) 1 [b] w3 (rv_one k1) (rv_one k2) (by simp) (by simp)).mono ?_
              rintro e_ w6 ⟨rfl, b6⟩
              exact ⟨_, rfl, b6, by rw [rcmp_one]; rfl⟩
            · intro ρ w3 hc_ hL hr
              intro hg
              have hg : ρ (.tmp 101) = .bool true := hg
              refine ⟨fun _ => ?_, fun hn => absurd hg hn⟩
              have h1 : ρ (.tmp 6) = .pointer (some ⟨w.heap.size, 0, none⟩) := hr.1
              have c0 := val_cells (hA.later hL)
              exact opW_run (v := valV a) (w' := w3) (by simp [go_sem, h1, c0, valV]) ⟨Later.refl _, rfl⟩
            · intro ρ w3 hc_ hL hr
              intro hg
              have hg : ρ (.tmp 101) = .bool true := hg
              refine ⟨fun _ => ?_, fun hn => absurd hg hn⟩
              have h1 : ρ (.tmp 7) = .pointer (some ⟨gb, 0, none⟩) := hr.1
              have c0 := val_cells (hBB.later hL)
              exact opW_run (v := valV b) (w' := w3) (by simp [go_sem, h1, c0, valV]) ⟨Later.refl _, rfl⟩
            · intro ρ w3 hc_ hL hr
              intro hg
              have hg : ρ (.tmp 101) = .bool true := hg
              refine ⟨fun _ => ?_, fun hn => absurd hg hn⟩
              have h1 : ρ (.tmp 107) = valV a := hr.1
              have h2 : ρ (.tmp 108) = valV b := hr.2.1
              have e1 := hc_.func 11
              refine opW_call (f := 11) (args := #[valV a, valV b]) (w' := w3) (by simp [go_sem, e1, h1, h2]) ?_
              refine (compare_any a b w3).mono ?_
              rintro e_ w6 ⟨rfl, b6⟩
              exact ⟨_, rfl, b6, rfl⟩
            · intro ρ w3 hc_ hL hr
              intro hg
              have hg : ρ (.tmp 101) = .bool true := hg
              refine ⟨fun _ => ?_, fun hn => absurd hg hn⟩
              have h1 : ρ (.tmp 106) = .int .i64 (vcmp a b) := hr.1
              have h2 : ρ (.tmp 109) = .int .i64 (vcmp a b) := hr.2.1
              exact opW_run (v := .bool true) (w' := w3) (by simp [go_sem, h1, h2]) ⟨Later.refl _, rfl⟩
            · intro ρ w3 hc_ hL hr
              have h1 : ρ (.tmp 101) = .bool true := hr.1
              have h2 : ρ (.tmp 110) = .bool true := hr.2.1
              exact opW_run (v := .bool true) (w' := w3) (by simp [go_sem, h1, h2]) ⟨Later.refl _, rfl⟩
            · intro ρ w3 hc_ hL hr
              have h1 : ρ (.tmp 111) = .bool true := hr.1
              exact opW_move (.inl rfl) h1 ⟨Later.refl _, rfl⟩
            · intro ρ w3 hc_ hL hr
              intro hg
              have hg : ρ (.tmp 112) = .bool true := hg
              refine ⟨fun _ => ?_, fun hn => absurd hg hn⟩
              have e1 := hc_.func 8
              refine opW_call (f := 8) (args := #[]) (w' := w3) (by simp [go_sem, e1]) ?_
              refine (wakes_any w3 (HE.out.later hL)).mono ?_
              rintro e_ w6 ⟨rfl, b6⟩
              exact ⟨_, rfl, b6, rfl⟩
            · intro ρ w3 hc_ hL hr
              have h1 : ρ (.tmp 112) = .bool true := hr.1
              have h2 : ρ (.tmp 113) = .bool true := hr.2.1
              exact opW_run (v := .bool true) (w' := w3) (by simp [go_sem, h1, h2]) ⟨Later.refl _, rfl⟩
          · intro w5 hL5
            simp only [List.take_succ_cons, List.take_zero, List.drop_succ_cons, List.drop_zero]
            intro a0 _ a1 _ a2 _ a3 _ a4 _ a5 _ a6 _ a7 _ a8 _ a9 _ a10 _ a11 _ a12 _ a13 _ a14 _ a15 _ a16 _ a17 h17
            have h17 : .bool true = a17 := Eq.symm h17
            subst h17
            simp only [FinOf, Act.put, List.setIfInBounds_toArray, List.set_cons_succ, List.set_cons_zero]
            clear hR2 hA hBB hCC HX HE O2
            go_wp2_with fail
            go_ret
            exact ⟨rfl, Later.then hB hL5⟩
  · clear hg
    go_wp2_with fail
    refine (wakes_any _ (HE.out.later hB)).mono ?_
    rintro e_ w9 ⟨rfl, b9⟩
    go_wp2_with fail
    go_ret
    exact ⟨rfl, Later.then hB b9⟩
end Go.Proofs.YtekedkbjnedhgaaDoor
