/- Parts of the proof: Sm2. Put together by slim.py. -/
import Derived.Test.YtcneefmaghoejaaGreatDoorB41
namespace Go.Proofs.YtcneefmaghoejaaGreatDoor
open Go.ChangeShapes Go.WideShapes Go.ChangeAt Go.RowKit
set_option linter.unusedVariables false
set_option linter.unusedSimpArgs false
theorem all2_atS {α β : Type} {R : α → β → Prop} {l : List α} {m : List β} (h : All2 R l m) : ∀ {i : Nat} {x : α} {y : β}, l[i]? = some x → m[i]? = some y → R x y := by
  induction h with
  | nil => intro i x y h; simp at h
  | cons a _ ih =>
    intro i x y h k
    cases i with
    | zero => simp at h k; subst h k; exact a
    | succ i => exact ih (by simpa using h) (by simpa using k)
def QuT (w : World) (y z : QuM) : Prop := ∀ W, Below w.heap.size w W → Calls Tryz.prog 28 #[quV y, quV z] W fun e w' => e = .returned (.bool true) ∧ Below W.heap.size W w'
structure Qu.slim (q : Qu) : Prop where
  items : q.items.length ≤ 1000000000
  order : q.order.length ≤ 1000000000
  limit : q.limit.length ≤ 1000000000
  whr : q.whr.length ≤ 1000000000
  group : q.group.length ≤ 1000000000
  having : q.having.length ≤ 1000000000
  titems : ∀ t ∈ q.items, t.1.thin
  torder : ∀ t ∈ q.order, t.1.thin
  twhr : Tr.thins q.whr
  tgroup : Tr.thins q.group
  thaving : Tr.thins q.having
set_option maxHeartbeats 4000000 in
set_option maxRecDepth 100000 in
theorem rqueries_is {w : World} {S S2 : Nat → Prop} (hS : ∀ b, S b → b < w.heap.size) (hS2 : ∀ b, S2 b → b < w.heap.size) {q : Qu} {y z : QuM} (h : q.at_ w S y) (h2 : q.at_ w S2 z) (hs : q.slim) : QuT w y z := by
  intro W hW
  have HWH := Lib.hid (all_is hS hS2 h.whr h2.whr hs.twhr hs.whr)
  have HGR := Lib.hid (all_is hS hS2 h.group h2.group hs.tgroup hs.group)
  have HHA := Lib.hid (all_is hS hS2 h.having h2.having hs.thaving hs.having)
  obtain ⟨items_h, items_ys, items_r, items_a⟩ := h.items
  obtain ⟨items_h2, items_zs, items_q, items_b⟩ := h2.items
  have items_R := Lib.hid items_r
  have items_Q := Lib.hid items_q
  have items_HA := Lib.hid items_a
  have items_HB := Lib.hid items_b
  obtain ⟨order_h, order_ys, order_r, order_a⟩ := h.order
  obtain ⟨order_h2, order_zs, order_q, order_b⟩ := h2.order
  have order_R := Lib.hid order_r
  have order_Q := Lib.hid order_q
  have order_HA := Lib.hid order_a
  have order_HB := Lib.hid order_b
  obtain ⟨limit_h, limit_ys, limit_r, limit_a⟩ := h.limit
  obtain ⟨limit_h2, limit_zs, limit_q, limit_b⟩ := h2.limit
  have limit_R := Lib.hid limit_r
  have limit_Q := Lib.hid limit_q
  have limit_HA := Lib.hid limit_a
  have limit_HB := Lib.hid limit_b
  obtain ⟨whr_h, _⟩ := h.whr
  obtain ⟨whr_h2, _⟩ := h2.whr
  obtain ⟨group_h, _⟩ := h.group
  obtain ⟨group_h2, _⟩ := h2.group
  obtain ⟨having_h, _⟩ := h.having
  obtain ⟨having_h2, _⟩ := h2.having
  have hfrm := h.frm.symm
  have hfrm2 := h2.frm.symm
  have honly := h.only.symm
  have honly2 := h2.only.symm
  have items_T := Lib.hid hs.titems
  have order_T := Lib.hid hs.torder
  have bI := hs.items
  have bO := hs.order
  have bL := hs.limit
  clear h h2 hs
  obtain ⟨items_l, frm, only, whr_l, group_l, having_l, order_l, limit_l⟩ := q
  obtain ⟨⟨items_A, items_m, items_c⟩, frm1, only1, ⟨whr_A, whr_m, whr_c⟩, ⟨group_A, group_m, group_c⟩, ⟨having_A, having_m, having_c⟩, ⟨order_A, order_m, order_c⟩, ⟨limit_A, limit_m, limit_c⟩⟩ := y
  obtain ⟨⟨items_2A, items_m2, items_2c⟩, frm2, only2, ⟨whr_2A, whr_m2, whr_2c⟩, ⟨group_2A, group_m2, group_2c⟩, ⟨having_2A, having_m2, having_2c⟩, ⟨order_2A, order_m2, order_2c⟩, ⟨limit_2A, limit_m2, limit_2c⟩⟩ := z
  simp only at hfrm hfrm2 honly honly2 bI bO bL items_h items_h2 whr_h whr_h2 group_h group_h2 having_h having_h2 order_h order_h2 limit_h limit_h2
  subst hfrm hfrm2 honly honly2
  obtain ⟨items_n, items_e⟩ : ∃ n : Nat, n = items_l.length := ⟨_, rfl⟩
  rw [← items_e] at items_h items_h2
  replace items_h := items_h.symm
  replace items_h2 := items_h2.symm
  subst items_h items_h2
  have items_L := Lib.hid items_e
  clear items_e
  obtain ⟨whr_n, whr_e⟩ : ∃ n : Nat, n = whr_l.length := ⟨_, rfl⟩
  rw [← whr_e] at whr_h whr_h2
  replace whr_h := whr_h.symm
  replace whr_h2 := whr_h2.symm
  subst whr_h whr_h2
  have whr_L := Lib.hid whr_e
  clear whr_e
  obtain ⟨group_n, group_e⟩ : ∃ n : Nat, n = group_l.length := ⟨_, rfl⟩
  rw [← group_e] at group_h group_h2
  replace group_h := group_h.symm
  replace group_h2 := group_h2.symm
  subst group_h group_h2
  have group_L := Lib.hid group_e
  clear group_e
  obtain ⟨having_n, having_e⟩ : ∃ n : Nat, n = having_l.length := ⟨_, rfl⟩
  rw [← having_e] at having_h having_h2
  replace having_h := having_h.symm
  replace having_h2 := having_h2.symm
  subst having_h having_h2
  have having_L := Lib.hid having_e
  clear having_e
  obtain ⟨order_n, order_e⟩ : ∃ n : Nat, n = order_l.length := ⟨_, rfl⟩
  rw [← order_e] at order_h order_h2
  replace order_h := order_h.symm
  replace order_h2 := order_h2.symm
  subst order_h order_h2
  have order_L := Lib.hid order_e
  clear order_e
  obtain ⟨limit_n, limit_e⟩ : ∃ n : Nat, n = limit_l.length := ⟨_, rfl⟩
  rw [← limit_e] at limit_h limit_h2
  replace limit_h := limit_h.symm
  replace limit_h2 := limit_h2.symm
  subst limit_h limit_h2
  have limit_L := Lib.hid limit_e
  clear limit_e
  clear items_r items_q items_a items_b order_r order_q order_a order_b limit_r limit_q limit_a limit_b
  rw [← items_L.out] at bI
  rw [← order_L.out] at bO
  rw [← limit_L.out] at bL
  show Calls Tryz.prog 28 #[.agg #[.slice items_A items_n items_c, .string frm, .bool only, .slice whr_A whr_n whr_c, .slice group_A group_n group_c, .slice having_A having_n having_c, .slice order_A order_n order_c, .slice limit_A limit_n limit_c], .agg #[.slice items_2A items_n items_2c, .string frm, .bool only, .slice whr_2A whr_n whr_2c, .slice group_2A group_n group_2c, .slice having_2A having_n having_2c, .slice order_2A order_n order_2c, .slice limit_2A limit_n limit_2c]] W _
  go_enter Tryz.func28, Tryz.ntmps28
  have hX := (Blk.new W 29 #[.slice items_A items_n items_c, .string frm, .bool only, .slice whr_A whr_n whr_c, .slice group_A group_n group_c, .slice having_A having_n having_c, .slice order_A order_n order_c, .slice limit_A limit_n limit_c]).alloc (.cells #[.slice items_2A items_n items_2c, .string frm, .bool only, .slice whr_2A whr_n whr_2c, .slice group_2A group_n group_2c, .slice having_2A having_n having_2c, .slice order_2A order_n order_2c, .slice limit_2A limit_n limit_2c] 29)
  have hZ := Blk.new (W.alloc (.cells #[.slice items_A items_n items_c, .string frm, .bool only, .slice whr_A whr_n whr_c, .slice group_A group_n group_c, .slice having_A having_n having_c, .slice order_A order_n order_c, .slice limit_A limit_n limit_c] 29)) 29 #[.slice items_2A items_n items_2c, .string frm, .bool only, .slice whr_2A whr_n whr_2c, .slice group_2A group_n group_2c, .slice having_2A having_n having_2c, .slice order_2A order_n order_2c, .slice limit_2A limit_n limit_2c]
  rw [World.size_alloc] at hZ
  have hB := Later.then (later_new W (.cells #[.slice items_A items_n items_c, .string frm, .bool only, .slice whr_A whr_n whr_c, .slice group_A group_n group_c, .slice having_A having_n having_c, .slice order_A order_n order_c, .slice limit_A limit_n limit_c] 29)) (later_new _ (.cells #[.slice items_2A items_n items_2c, .string frm, .bool only, .slice whr_2A whr_n whr_2c, .slice group_2A group_n group_2c, .slice having_2A having_n having_2c, .slice order_2A order_n order_2c, .slice limit_2A limit_n limit_2c] 29))
  have x0 := hX.cell 0
  have z0 := hZ.cell 0
  have x1 := hX.cell 1
  have z1 := hZ.cell 1
  have x2 := hX.cell 2
  have z2 := hZ.cell 2
  have x3 := hX.cell 3
  have z3 := hZ.cell 3
  have x4 := hX.cell 4
  have z4 := hZ.cell 4
  have x5 := hX.cell 5
  have z5 := hZ.cell 5
  have x6 := hX.cell 6
  have z6 := hZ.cell 6
  have x7 := hX.cell 7
  have z7 := hZ.cell 7
  simp only [List.getElem?_toArray, List.getElem?_cons_zero, List.getElem?_cons_succ] at x0 z0 x1 z1 x2 z2 x3 z3 x4 z4 x5 z5 x6 z6 x7 z7
  have e0 : (frm.toList != frm.toList) = false := by simp
  have e1 : (only != only) = false := by simp
  have e2 : ((items_n : Int) != (items_n : Int)) = false := by simp
  have e3 : ((order_n : Int) != (order_n : Int)) = false := by simp
  have e4 : ((limit_n : Int) != (limit_n : Int)) = false := by simp
  have e5 : (items_n != items_n) = false := by simp
  have e6 : (order_n != order_n) = false := by simp
  have e7 : (limit_n != limit_n) = false := by simp
  go_upto_region 1 with fail
  change Code.wp _ _ _ _ ((W.alloc (.cells #[.slice items_A items_n items_c, .string frm, .bool only, .slice whr_A whr_n whr_c, .slice group_A group_n group_c, .slice having_A having_n having_c, .slice order_A order_n order_c, .slice limit_A limit_n limit_c] 29)).alloc (.cells #[.slice items_2A items_n items_2c, .string frm, .bool only, .slice whr_2A whr_n whr_2c, .slice group_2A group_n group_2c, .slice having_2A having_n having_2c, .slice order_2A order_n order_2c, .slice limit_2A limit_n limit_2c] 29))
  have HW1 := Lib.hid (hW.trans (hB.mono hW.size))
  generalize hQX : W.heap.size = QX at *
  generalize hQZ : QX + 1 = QZ at *
  generalize hW1 : ((W.alloc _).alloc _) = W1 at *
  have HX := Lib.hid hX
  have HZ := Lib.hid hZ
  have HB := Lib.hid hB
  have HQX := Lib.hid hQX
  clear hX hZ hB hQX hQZ hW1
  go_wp2_with fail
  refine (HWH.out _ HW1.out).mono ?_
  rintro e V1 ⟨rfl, b1⟩
  have hb1 := b1
  replace x0 := (b1.cell (cell_lt x0)).trans x0
  replace z0 := (b1.cell (cell_lt z0)).trans z0
  replace x1 := (b1.cell (cell_lt x1)).trans x1
  replace z1 := (b1.cell (cell_lt z1)).trans z1
  replace x2 := (b1.cell (cell_lt x2)).trans x2
  replace z2 := (b1.cell (cell_lt z2)).trans z2
  replace x3 := (b1.cell (cell_lt x3)).trans x3
  replace z3 := (b1.cell (cell_lt z3)).trans z3
  replace x4 := (b1.cell (cell_lt x4)).trans x4
  replace z4 := (b1.cell (cell_lt z4)).trans z4
  replace x5 := (b1.cell (cell_lt x5)).trans x5
  replace z5 := (b1.cell (cell_lt z5)).trans z5
  replace x6 := (b1.cell (cell_lt x6)).trans x6
  replace z6 := (b1.cell (cell_lt z6)).trans z6
  replace x7 := (b1.cell (cell_lt x7)).trans x7
  replace z7 := (b1.cell (cell_lt z7)).trans z7
  go_wp2_with fail
  refine (HGR.out _ (HW1.out.trans (hb1.mono HW1.out.size))).mono ?_
  rintro e V2 ⟨rfl, b2⟩
  have hb2 := Later.then hb1 b2
  replace x0 := (b2.cell (cell_lt x0)).trans x0
  replace z0 := (b2.cell (cell_lt z0)).trans z0
  replace x1 := (b2.cell (cell_lt x1)).trans x1
  replace z1 := (b2.cell (cell_lt z1)).trans z1
  replace x2 := (b2.cell (cell_lt x2)).trans x2
  replace z2 := (b2.cell (cell_lt z2)).trans z2
  replace x3 := (b2.cell (cell_lt x3)).trans x3
  replace z3 := (b2.cell (cell_lt z3)).trans z3
  replace x4 := (b2.cell (cell_lt x4)).trans x4
  replace z4 := (b2.cell (cell_lt z4)).trans z4
  replace x5 := (b2.cell (cell_lt x5)).trans x5
  replace z5 := (b2.cell (cell_lt z5)).trans z5
  replace x6 := (b2.cell (cell_lt x6)).trans x6
  replace z6 := (b2.cell (cell_lt z6)).trans z6
  replace x7 := (b2.cell (cell_lt x7)).trans x7
  replace z7 := (b2.cell (cell_lt z7)).trans z7
  go_wp2_with fail
  refine (HHA.out _ (HW1.out.trans (hb2.mono HW1.out.size))).mono ?_
  rintro e V3 ⟨rfl, b3⟩
  have hb3 := Later.then hb2 b3
  clear x0 z0 x1 z1 x2 z2 x3 z3 x4 z4 x5 z5 x6 z6 x7 z7
  go_wp2_with fail
  clear e0 e1 e2 e3 e4 e5 e6 e7
  go_loopw [5] (fun iv wr => ∃ i : Nat, i ≤ items_n ∧ iv = .int .i64 i ∧ Below W1.heap.size W1 wr) (fun iv _ => items_n - (intOf iv).toNat)
  case atStart => exact ⟨0, Nat.zero_le _, rfl, hb3⟩
  case round =>
    obtain ⟨i, hi, rfl, hbw⟩ := hrel
    have x0 := (HX.out.later hbw).cell 0
    have z0 := (HZ.out.later hbw).cell 0
    simp only [List.getElem?_toArray, List.getElem?_cons_zero, List.getElem?_cons_succ] at x0 z0
    have HBW := Lib.hid hbw
    by_cases hlt : i < items_n
    · obtain ⟨x, hx⟩ : ∃ x : Ex × ByteArray, items_ys[i]? = some x := ⟨_, List.getElem?_eq_getElem (by have h1 := items_L.out; have h2 := items_HA.out.len; omega)⟩
      obtain ⟨u, hu⟩ : ∃ u : Ex × ByteArray, items_zs[i]? = some u := ⟨_, List.getElem?_eq_getElem (by have h1 := items_L.out; have h2 := items_HB.out.len; omega)⟩
      obtain ⟨t, ht⟩ : ∃ t, items_l[i]? = some t := ⟨_, List.getElem?_eq_getElem (by have h1 := items_L.out; omega)⟩
      have r1 := all2_atS items_HA.out ht hx
      have r2 := all2_atS items_HB.out ht hu
      have hwr : Below w.heap.size w wr := HW1.out.trans (hbw.mono HW1.out.size)
      rcases items_R.out with h0 | ⟨b, off, hAe, hSb, hc⟩
      · subst h0; simp at hx
      rcases items_Q.out with h0 | ⟨b2, off2, hAe2, hSb2, hc2⟩
      · subst h0; simp at hu
      have hbb : b < wr.heap.size := Nat.lt_of_lt_of_le (hS b hSb) hwr.size
      have hbb2 : b2 < wr.heap.size := Nat.lt_of_lt_of_le (hS2 b2 hSb2) hwr.size
      have hcell := fun j v hv => (hwr.cell (p := ⟨b, off + i * 8 + j, none⟩) (hS b hSb)).trans (hc i x j v hx hv)
      have hcell2 := fun j v hv => (hwr.cell (p := ⟨b2, off2 + i * 8 + j, none⟩) (hS2 b2 hSb2)).trans (hc2 i u j v hu hv)
      have k0 := fun q : Ext wr.heap.size wr => (q.h.cell (p := ⟨b, off + i * 8, none⟩) hbb).trans (hcell 0 (.int .u8 x.1.op) rfl)
      have k1 := fun q : Ext wr.heap.size wr => (q.h.cell (p := ⟨b, off + i * 8 + 1, none⟩) hbb).trans (hcell 1 (.int .u8 x.1.v.k) rfl)
      have k2 := fun q : Ext wr.heap.size wr => (q.h.cell (p := ⟨b, off + i * 8 + 2, none⟩) hbb).trans (hcell 2 (.int .i64 x.1.v.n) rfl)
      have k3 := fun q : Ext wr.heap.size wr => (q.h.cell (p := ⟨b, off + i * 8 + 3, none⟩) hbb).trans (hcell 3 (.string x.1.v.s) rfl)
      have k4 := fun q : Ext wr.heap.size wr => (q.h.cell (p := ⟨b, off + i * 8 + 4, none⟩) hbb).trans (hcell 4 (.string x.1.name) rfl)
      have k5 := fun q : Ext wr.heap.size wr => (q.h.cell (p := ⟨b, off + i * 8 + 5, none⟩) hbb).trans (hcell 5 (.int .i64 x.1.width) rfl)
      have k6 := fun q : Ext wr.heap.size wr => (q.h.cell (p := ⟨b, off + i * 8 + 6, none⟩) hbb).trans (hcell 6 (.slice x.1.A x.1.n x.1.c) rfl)
      have k7 := fun q : Ext wr.heap.size wr => (q.h.cell (p := ⟨b, off + i * 8 + 7, none⟩) hbb).trans (hcell 7 (.string x.2) rfl)
      have m0 := fun q : Ext wr.heap.size wr => (q.h.cell (p := ⟨b2, off2 + i * 8, none⟩) hbb2).trans (hcell2 0 (.int .u8 u.1.op) rfl)
      have m1 := fun q : Ext wr.heap.size wr => (q.h.cell (p := ⟨b2, off2 + i * 8 + 1, none⟩) hbb2).trans (hcell2 1 (.int .u8 u.1.v.k) rfl)
      have m2 := fun q : Ext wr.heap.size wr => (q.h.cell (p := ⟨b2, off2 + i * 8 + 2, none⟩) hbb2).trans (hcell2 2 (.int .i64 u.1.v.n) rfl)
      have m3 := fun q : Ext wr.heap.size wr => (q.h.cell (p := ⟨b2, off2 + i * 8 + 3, none⟩) hbb2).trans (hcell2 3 (.string u.1.v.s) rfl)
      have m4 := fun q : Ext wr.heap.size wr => (q.h.cell (p := ⟨b2, off2 + i * 8 + 4, none⟩) hbb2).trans (hcell2 4 (.string u.1.name) rfl)
      have m5 := fun q : Ext wr.heap.size wr => (q.h.cell (p := ⟨b2, off2 + i * 8 + 5, none⟩) hbb2).trans (hcell2 5 (.int .i64 u.1.width) rfl)
      have m6 := fun q : Ext wr.heap.size wr => (q.h.cell (p := ⟨b2, off2 + i * 8 + 6, none⟩) hbb2).trans (hcell2 6 (.slice u.1.A u.1.n u.1.c) rfl)
      have m7 := fun q : Ext wr.heap.size wr => (q.h.cell (p := ⟨b2, off2 + i * 8 + 7, none⟩) hbb2).trans (hcell2 7 (.string u.2) rfl)
      have p2 := fun q : Ext wr.heap.size wr => (q.h.cell (p := ⟨QX, 0, none⟩) (HX.out.later hbw).lt).trans x0
      have p3 := fun q : Ext wr.heap.size wr => (q.h.cell (p := ⟨QZ, 0, none⟩) (HZ.out.later hbw).lt).trans z0
      have HTH := Lib.hid (items_T.out t (List.mem_of_getElem? ht))
      have hev := fun q : Ext wr.heap.size wr => Tr.same_is hS hS2 t.1 x.1 u.1 r1.1 r2.1 HTH.out q.w (hwr.trans (q.h.mono hwr.size))
      have heq : u.2 = x.2 := by rw [r1.2, r2.2]
      obtain ⟨x, xa⟩ := x
      obtain ⟨u, ua⟩ := u
      simp only at heq hev k0 m0 k1 m1 k2 m2 k3 m3 k4 m4 k5 m5 k6 m6 k7 m7
      subst heq
      have f0 : (ua.toList != ua.toList) = false := by simp
      unfold exV exC at hev
      clear hcell hcell2 hc hc2 hx hu ht hwr r1 r2
      subst hAe hAe2
      go_upto_region 6 with fail
      clear x0 z0
      refine region_cut 29 wr.heap.size wr (Below.refl _ _) (by kernel_rfl) (by kernel_rfl) (by kernel_rfl) (by kernel_rfl) ?_
      simp only [List.take_succ_cons, List.take_zero, List.drop_succ_cons, List.drop_zero]
      repeat (go_big_quiet_step (fail))
      go_big_quiet_step ((go_at_call 29; exact calls_later (Nat.le_refl _) (hev _)))
      repeat (go_big_quiet_step (fail))
      refine wpQuiet_nil ?_
      rintro V4 ⟨x9, hx9⟩
      have hW9 := x9.h
      rw [← hx9] at hW9
      have hb1 := Later.then HBW.out hW9
      clear hx9 x9 k0 m0 k1 m1 k2 m2 k3 m3 k4 m4 k5 m5 k6 m6 k7 m7 p2 p3 hW9 hev f0
      go_wp2_with fail
      go_roundw
      case rel => exact ⟨i + 1, by omega, by go_num, hb1⟩
      case measure => simp [intOf]; omega
    · obtain rfl : i = items_n := by omega
      go_wp2_with fail
      clear x0 z0 hbw
      go_loopw [6] (fun iv wr => ∃ i : Nat, i ≤ order_n ∧ iv = .int .i64 i ∧ Below W1.heap.size W1 wr) (fun iv _ => order_n - (intOf iv).toNat)
      case atStart => exact ⟨0, Nat.zero_le _, rfl, HBW.out⟩
      case round =>
        obtain ⟨i, hi, rfl, hbw⟩ := hrel
        have x6 := (HX.out.later hbw).cell 6
        have z6 := (HZ.out.later hbw).cell 6
        simp only [List.getElem?_toArray, List.getElem?_cons_zero, List.getElem?_cons_succ] at x6 z6
        have HBW := Lib.hid hbw
        by_cases hlt : i < order_n
        · obtain ⟨x, hx⟩ : ∃ x : Ex × Bool, order_ys[i]? = some x := ⟨_, List.getElem?_eq_getElem (by have h1 := order_L.out; have h2 := order_HA.out.len; omega)⟩
          obtain ⟨u, hu⟩ : ∃ u : Ex × Bool, order_zs[i]? = some u := ⟨_, List.getElem?_eq_getElem (by have h1 := order_L.out; have h2 := order_HB.out.len; omega)⟩
          obtain ⟨t, ht⟩ : ∃ t, order_l[i]? = some t := ⟨_, List.getElem?_eq_getElem (by have h1 := order_L.out; omega)⟩
          have r1 := all2_atS order_HA.out ht hx
          have r2 := all2_atS order_HB.out ht hu
          have hwr : Below w.heap.size w wr := HW1.out.trans (hbw.mono HW1.out.size)
          rcases order_R.out with h0 | ⟨b, off, hAe, hSb, hc⟩
          · subst h0; simp at hx
          rcases order_Q.out with h0 | ⟨b2, off2, hAe2, hSb2, hc2⟩
          · subst h0; simp at hu
          have hbb : b < wr.heap.size := Nat.lt_of_lt_of_le (hS b hSb) hwr.size
          have hbb2 : b2 < wr.heap.size := Nat.lt_of_lt_of_le (hS2 b2 hSb2) hwr.size
          have hcell := fun j v hv => (hwr.cell (p := ⟨b, off + i * 8 + j, none⟩) (hS b hSb)).trans (hc i x j v hx hv)
          have hcell2 := fun j v hv => (hwr.cell (p := ⟨b2, off2 + i * 8 + j, none⟩) (hS2 b2 hSb2)).trans (hc2 i u j v hu hv)
          have k0 := fun q : Ext wr.heap.size wr => (q.h.cell (p := ⟨b, off + i * 8, none⟩) hbb).trans (hcell 0 (.int .u8 x.1.op) rfl)
          have k1 := fun q : Ext wr.heap.size wr => (q.h.cell (p := ⟨b, off + i * 8 + 1, none⟩) hbb).trans (hcell 1 (.int .u8 x.1.v.k) rfl)
          have k2 := fun q : Ext wr.heap.size wr => (q.h.cell (p := ⟨b, off + i * 8 + 2, none⟩) hbb).trans (hcell 2 (.int .i64 x.1.v.n) rfl)
          have k3 := fun q : Ext wr.heap.size wr => (q.h.cell (p := ⟨b, off + i * 8 + 3, none⟩) hbb).trans (hcell 3 (.string x.1.v.s) rfl)
          have k4 := fun q : Ext wr.heap.size wr => (q.h.cell (p := ⟨b, off + i * 8 + 4, none⟩) hbb).trans (hcell 4 (.string x.1.name) rfl)
          have k5 := fun q : Ext wr.heap.size wr => (q.h.cell (p := ⟨b, off + i * 8 + 5, none⟩) hbb).trans (hcell 5 (.int .i64 x.1.width) rfl)
          have k6 := fun q : Ext wr.heap.size wr => (q.h.cell (p := ⟨b, off + i * 8 + 6, none⟩) hbb).trans (hcell 6 (.slice x.1.A x.1.n x.1.c) rfl)
          have k7 := fun q : Ext wr.heap.size wr => (q.h.cell (p := ⟨b, off + i * 8 + 7, none⟩) hbb).trans (hcell 7 (.bool x.2) rfl)
          have m0 := fun q : Ext wr.heap.size wr => (q.h.cell (p := ⟨b2, off2 + i * 8, none⟩) hbb2).trans (hcell2 0 (.int .u8 u.1.op) rfl)
          have m1 := fun q : Ext wr.heap.size wr => (q.h.cell (p := ⟨b2, off2 + i * 8 + 1, none⟩) hbb2).trans (hcell2 1 (.int .u8 u.1.v.k) rfl)
          have m2 := fun q : Ext wr.heap.size wr => (q.h.cell (p := ⟨b2, off2 + i * 8 + 2, none⟩) hbb2).trans (hcell2 2 (.int .i64 u.1.v.n) rfl)
          have m3 := fun q : Ext wr.heap.size wr => (q.h.cell (p := ⟨b2, off2 + i * 8 + 3, none⟩) hbb2).trans (hcell2 3 (.string u.1.v.s) rfl)
          have m4 := fun q : Ext wr.heap.size wr => (q.h.cell (p := ⟨b2, off2 + i * 8 + 4, none⟩) hbb2).trans (hcell2 4 (.string u.1.name) rfl)
          have m5 := fun q : Ext wr.heap.size wr => (q.h.cell (p := ⟨b2, off2 + i * 8 + 5, none⟩) hbb2).trans (hcell2 5 (.int .i64 u.1.width) rfl)
          have m6 := fun q : Ext wr.heap.size wr => (q.h.cell (p := ⟨b2, off2 + i * 8 + 6, none⟩) hbb2).trans (hcell2 6 (.slice u.1.A u.1.n u.1.c) rfl)
          have m7 := fun q : Ext wr.heap.size wr => (q.h.cell (p := ⟨b2, off2 + i * 8 + 7, none⟩) hbb2).trans (hcell2 7 (.bool u.2) rfl)
          have p2 := fun q : Ext wr.heap.size wr => (q.h.cell (p := ⟨QX, 6, none⟩) (HX.out.later hbw).lt).trans x6
          have p3 := fun q : Ext wr.heap.size wr => (q.h.cell (p := ⟨QZ, 6, none⟩) (HZ.out.later hbw).lt).trans z6
          have HTH := Lib.hid (order_T.out t (List.mem_of_getElem? ht))
          have hev := fun q : Ext wr.heap.size wr => Tr.same_is hS hS2 t.1 x.1 u.1 r1.1 r2.1 HTH.out q.w (hwr.trans (q.h.mono hwr.size))
          have heq : u.2 = x.2 := by rw [r1.2, r2.2]
          obtain ⟨x, xa⟩ := x
          obtain ⟨u, ua⟩ := u
          simp only at heq hev k0 m0 k1 m1 k2 m2 k3 m3 k4 m4 k5 m5 k6 m6 k7 m7
          subst heq
          have f0 : (ua != ua) = false := by simp
          unfold exV exC at hev
          clear hcell hcell2 hc hc2 hx hu ht hwr r1 r2
          subst hAe hAe2
          go_upto_region 11 with fail
          clear x6 z6
          refine region_cut 29 wr.heap.size wr (Below.refl _ _) (by kernel_rfl) (by kernel_rfl) (by kernel_rfl) (by kernel_rfl) ?_
          simp only [List.take_succ_cons, List.take_zero, List.drop_succ_cons, List.drop_zero]
          repeat (go_big_quiet_step (fail))
          go_big_quiet_step ((go_at_call 29; exact calls_later (Nat.le_refl _) (hev _)))
          repeat (go_big_quiet_step (fail))
          refine wpQuiet_nil ?_
          rintro V4 ⟨x9, hx9⟩
          have hW9 := x9.h
          rw [← hx9] at hW9
          have hb1 := Later.then HBW.out hW9
          clear hx9 x9 k0 m0 k1 m1 k2 m2 k3 m3 k4 m4 k5 m5 k6 m6 k7 m7 p2 p3 hW9 hev f0
          go_wp2_with fail
          go_roundw
          case rel => exact ⟨i + 1, by omega, by go_num, hb1⟩
          case measure => simp [intOf]; omega
        · obtain rfl : i = order_n := by omega
          go_wp2_with fail
          clear x6 z6 hbw
          go_loopw [7] (fun iv wr => ∃ i : Nat, i ≤ limit_n ∧ iv = .int .i64 i ∧ Below W1.heap.size W1 wr) (fun iv _ => limit_n - (intOf iv).toNat)
          case atStart => exact ⟨0, Nat.zero_le _, rfl, HBW.out⟩
          case round =>
            obtain ⟨i, hi, rfl, hbw⟩ := hrel
            have x7 := (HX.out.later hbw).cell 7
            have z7 := (HZ.out.later hbw).cell 7
            simp only [List.getElem?_toArray, List.getElem?_cons_zero, List.getElem?_cons_succ] at x7 z7
            have HBW := Lib.hid hbw
            by_cases hlt : i < limit_n
            · obtain ⟨x, hx⟩ : ∃ x : Int, limit_ys[i]? = some x := ⟨_, List.getElem?_eq_getElem (by have h1 := limit_L.out; have h2 := limit_HA.out.len; omega)⟩
              obtain ⟨u, hu⟩ : ∃ u : Int, limit_zs[i]? = some u := ⟨_, List.getElem?_eq_getElem (by have h1 := limit_L.out; have h2 := limit_HB.out.len; omega)⟩
              obtain ⟨t, ht⟩ : ∃ t, limit_l[i]? = some t := ⟨_, List.getElem?_eq_getElem (by have h1 := limit_L.out; omega)⟩
              have r1 := all2_atS limit_HA.out ht hx
              have r2 := all2_atS limit_HB.out ht hu
              have hwr : Below w.heap.size w wr := HW1.out.trans (hbw.mono HW1.out.size)
              rcases limit_R.out with h0 | ⟨b, off, hAe, hSb, hc⟩
              · subst h0; simp at hx
              rcases limit_Q.out with h0 | ⟨b2, off2, hAe2, hSb2, hc2⟩
              · subst h0; simp at hu
              have hbb : b < wr.heap.size := Nat.lt_of_lt_of_le (hS b hSb) hwr.size
              have hbb2 : b2 < wr.heap.size := Nat.lt_of_lt_of_le (hS2 b2 hSb2) hwr.size
              have hcell := fun j v hv => (hwr.cell (p := ⟨b, off + i * 1 + j, none⟩) (hS b hSb)).trans (hc i x j v hx hv)
              have hcell2 := fun j v hv => (hwr.cell (p := ⟨b2, off2 + i * 1 + j, none⟩) (hS2 b2 hSb2)).trans (hc2 i u j v hu hv)
              have k0' := hcell 0 (.int .i64 x) rfl
              simp only [Nat.mul_one, Nat.add_zero] at k0'
              have k0 := fun q : Ext wr.heap.size wr => (q.h.cell (p := ⟨b, off + i, none⟩) hbb).trans k0'
              clear k0'
              have m0' := hcell2 0 (.int .i64 u) rfl
              simp only [Nat.mul_one, Nat.add_zero] at m0'
              have m0 := fun q : Ext wr.heap.size wr => (q.h.cell (p := ⟨b2, off2 + i, none⟩) hbb2).trans m0'
              clear m0'
              have p2 := fun q : Ext wr.heap.size wr => (q.h.cell (p := ⟨QX, 7, none⟩) (HX.out.later hbw).lt).trans x7
              have p3 := fun q : Ext wr.heap.size wr => (q.h.cell (p := ⟨QZ, 7, none⟩) (HZ.out.later hbw).lt).trans z7
              have heq : u = x := by rw [show x = t from r1, show u = t from r2]
              subst heq
              have f0 : (u != u) = false := by simp
              clear hcell hcell2 hc hc2 hx hu ht hwr r1 r2
              subst hAe hAe2
              go_upto_region 16 with fail
              clear x7 z7
              refine region_cut 11 wr.heap.size wr (Below.refl _ _) (by kernel_rfl) (by kernel_rfl) (by kernel_rfl) (by kernel_rfl) ?_
              simp only [List.take_succ_cons, List.take_zero, List.drop_succ_cons, List.drop_zero]
              repeat (go_big_quiet_step (fail))
              refine wpQuiet_nil ?_
              rintro V4 ⟨x9, hx9⟩
              have hW9 := x9.h
              rw [← hx9] at hW9
              have hb1 := Later.then HBW.out hW9
              clear hx9 x9 k0 m0 p2 p3 hW9 f0
              go_wp2_with fail
              go_roundw
              case rel => exact ⟨i + 1, by omega, by go_num, hb1⟩
              case measure => simp [intOf]; omega
            · obtain rfl : i = limit_n := by omega
              go_wp2_with fail
              go_ret
              have h1 := HB.out
              rw [← HQX.out] at h1
              exact ⟨rfl, Later.then h1 HBW.out⟩
end Go.Proofs.YtcneefmaghoejaaGreatDoor
