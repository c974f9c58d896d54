/- Parts of the proof: Sm3. Put together by slim.py. -/
import Derived.Test.YtcneefmaghoejaaGreatDoorB42
namespace Go.Proofs.YtcneefmaghoejaaGreatDoor
open Go.ChangeShapes Go.WideShapes Go.ChangeAt Go.RowKit
set_option linter.unusedVariables false
set_option linter.unusedSimpArgs false
def StT (w : World) (y z : StM) : Prop := ∀ W, Below w.heap.size w W → Calls Tryz.prog 12 #[stV y, stV z] W fun e w' => e = .returned (.bool true) ∧ Below W.heap.size W w'
structure St.slim (s : St) : Prop where
  cols : s.cols.length ≤ 1000000000
  rows : s.rows.length ≤ 1000000000
  sets : s.sets.length ≤ 1000000000
  whr : s.whr.length ≤ 1000000000
  twhr : Tr.thins s.whr
  trows : ∀ r ∈ s.rows, Tr.thins r ∧ r.length ≤ 1000000000
  tsets : ∀ t ∈ s.sets, t.2.thin
  query : s.query.slim
set_option maxHeartbeats 4000000 in
set_option maxRecDepth 100000 in
theorem rstmts_is {w : World} {S S2 : Nat → Prop} (hS : ∀ b, S b → b < w.heap.size) (hS2 : ∀ b, S2 b → b < w.heap.size) {q : St} {y z : StM} (h : q.at_ w S y) (h2 : q.at_ w S2 z) (hs : q.slim) : StT w y z := by
  intro W hW
  have HWH := Lib.hid (all_is hS hS2 h.whr h2.whr hs.twhr hs.whr)
  have HQU := Lib.hid (rqueries_is hS hS2 h.query h2.query hs.query)
  obtain ⟨cols_h, cols_ys, cols_r, cols_a⟩ := h.cols
  obtain ⟨cols_h2, cols_zs, cols_q, cols_b⟩ := h2.cols
  have cols_R := Lib.hid cols_r
  have cols_Q := Lib.hid cols_q
  have cols_HA := Lib.hid cols_a
  have cols_HB := Lib.hid cols_b
  obtain ⟨rows_h, rows_ys, rows_r, rows_a⟩ := h.rows
  obtain ⟨rows_h2, rows_zs, rows_q, rows_b⟩ := h2.rows
  have rows_R := Lib.hid rows_r
  have rows_Q := Lib.hid rows_q
  have rows_HA := Lib.hid rows_a
  have rows_HB := Lib.hid rows_b
  obtain ⟨sets_h, sets_ys, sets_r, sets_a⟩ := h.sets
  obtain ⟨sets_h2, sets_zs, sets_q, sets_b⟩ := h2.sets
  have sets_R := Lib.hid sets_r
  have sets_Q := Lib.hid sets_q
  have sets_HA := Lib.hid sets_a
  have sets_HB := Lib.hid sets_b
  obtain ⟨whr_h, _⟩ := h.whr
  obtain ⟨whr_h2, _⟩ := h2.whr
  have h_kind := h.kind.symm
  have h2_kind := h2.kind.symm
  have h_name := h.name.symm
  have h2_name := h2.name.symm
  have h_time := h.time.symm
  have h2_time := h2.time.symm
  have h_every := h.every.symm
  have h2_every := h2.every.symm
  have h_space := h.space.symm
  have h2_space := h2.space.symm
  have h_parts := h.parts.symm
  have h2_parts := h2.parts.symm
  have h_what := h.what.symm
  have h2_what := h2.what.symm
  have h_of_ := h.of_.symm
  have h2_of_ := h2.of_.symm
  have h_a := h.a.symm
  have h2_a := h2.a.symm
  have h_b := h.b.symm
  have h2_b := h2.b.symm
  have h_frm := h.frm.symm
  have h2_frm := h2.frm.symm
  have h_to_ := h.to_.symm
  have h2_to_ := h2.to_.symm
  have rows_T := Lib.hid hs.trows
  have sets_T := Lib.hid hs.tsets
  have bC := hs.cols
  have bR := hs.rows
  have bS := hs.sets
  clear h h2 hs
  obtain ⟨kind, name, cols_l, time, every, space, parts, query, what, of_, a, b, rows_l, sets_l, whr_l, frm, to_⟩ := q
  obtain ⟨kind1, name1, ⟨cols_A, cols_m1, cols_c⟩, time1, every1, space1, parts1, ⟨⟨qi_A, qi_n, qi_c⟩, qf, qy, ⟨qw_A, qw_n, qw_c⟩, ⟨qg_A, qg_n, qg_c⟩, ⟨qh_A, qh_n, qh_c⟩, ⟨qo_A, qo_n, qo_c⟩, ⟨ql_A, ql_n, ql_c⟩⟩, what1, of_1, a1, b1, ⟨rows_A, rows_m1, rows_c⟩, ⟨sets_A, sets_m1, sets_c⟩, ⟨whr_A, whr_m1, whr_c⟩, fv1, tv1⟩ := y
  obtain ⟨kind2, name2, ⟨cols_2A, cols_m2, cols_2c⟩, time2, every2, space2, parts2, ⟨⟨qi_2A, qi_2n, qi_2c⟩, qf2, qy2, ⟨qw_2A, qw_2n, qw_2c⟩, ⟨qg_2A, qg_2n, qg_2c⟩, ⟨qh_2A, qh_2n, qh_2c⟩, ⟨qo_2A, qo_2n, qo_2c⟩, ⟨ql_2A, ql_2n, ql_2c⟩⟩, what2, of_2, a2, b2, ⟨rows_2A, rows_m2, rows_2c⟩, ⟨sets_2A, sets_m2, sets_2c⟩, ⟨whr_2A, whr_m2, whr_2c⟩, fv2, tv2⟩ := z
  simp only at h_kind h2_kind h_name h2_name h_time h2_time h_every h2_every h_space h2_space h_parts h2_parts h_what h2_what h_of_ h2_of_ h_a h2_a h_b h2_b h_frm h2_frm h_to_ h2_to_ bC bR bS cols_h cols_h2 rows_h rows_h2 sets_h sets_h2 whr_h whr_h2
  subst h_kind h2_kind h_name h2_name h_time h2_time h_every h2_every h_space h2_space h_parts h2_parts h_what h2_what h_of_ h2_of_ h_a h2_a h_b h2_b h_frm h2_frm h_to_ h2_to_
  obtain ⟨cols_n, cols_e⟩ : ∃ n : Nat, n = cols_l.length := ⟨_, rfl⟩
  rw [← cols_e] at cols_h cols_h2
  replace cols_h := cols_h.symm
  replace cols_h2 := cols_h2.symm
  subst cols_h cols_h2
  have cols_L := Lib.hid cols_e
  clear cols_e
  obtain ⟨rows_n, rows_e⟩ : ∃ n : Nat, n = rows_l.length := ⟨_, rfl⟩
  rw [← rows_e] at rows_h rows_h2
  replace rows_h := rows_h.symm
  replace rows_h2 := rows_h2.symm
  subst rows_h rows_h2
  have rows_L := Lib.hid rows_e
  clear rows_e
  obtain ⟨sets_n, sets_e⟩ : ∃ n : Nat, n = sets_l.length := ⟨_, rfl⟩
  rw [← sets_e] at sets_h sets_h2
  replace sets_h := sets_h.symm
  replace sets_h2 := sets_h2.symm
  subst sets_h sets_h2
  have sets_L := Lib.hid sets_e
  clear sets_e
  obtain ⟨whr_n, whr_e⟩ : ∃ n : Nat, n = whr_l.length := ⟨_, rfl⟩
  rw [← whr_e] at whr_h whr_h2
  replace whr_h := whr_h.symm
  replace whr_h2 := whr_h2.symm
  subst whr_h whr_h2
  have whr_L := Lib.hid whr_e
  clear whr_e
  clear cols_r cols_q cols_a cols_b rows_r rows_q rows_a rows_b sets_r sets_q sets_a sets_b
  rw [← cols_L.out] at bC
  rw [← rows_L.out] at bR
  rw [← sets_L.out] at bS
  obtain ⟨fk, fn, fs⟩ := frm
  obtain ⟨tk, tn, ts⟩ := to_
  show Calls Tryz.prog 12 #[.agg #[.int .u8 kind, .string name, .slice cols_A cols_n cols_c, .string time, .int .i64 every, .string space, .int .i64 parts, .slice qi_A qi_n qi_c, .string qf, .bool qy, .slice qw_A qw_n qw_c, .slice qg_A qg_n qg_c, .slice qh_A qh_n qh_c, .slice qo_A qo_n qo_c, .slice ql_A ql_n ql_c, .int .u8 what, .string of_, .int .i64 a, .int .i64 b, .slice rows_A rows_n rows_c, .slice sets_A sets_n sets_c, .slice whr_A whr_n whr_c, .int .u8 fk, .int .i64 fn, .string fs, .int .u8 tk, .int .i64 tn, .string ts], .agg #[.int .u8 kind, .string name, .slice cols_2A cols_n cols_2c, .string time, .int .i64 every, .string space, .int .i64 parts, .slice qi_2A qi_2n qi_2c, .string qf2, .bool qy2, .slice qw_2A qw_2n qw_2c, .slice qg_2A qg_2n qg_2c, .slice qh_2A qh_2n qh_2c, .slice qo_2A qo_2n qo_2c, .slice ql_2A ql_2n ql_2c, .int .u8 what, .string of_, .int .i64 a, .int .i64 b, .slice rows_2A rows_n rows_2c, .slice sets_2A sets_n sets_2c, .slice whr_2A whr_n whr_2c, .int .u8 fk, .int .i64 fn, .string fs, .int .u8 tk, .int .i64 tn, .string ts]] W _
  have HQV : ∀ W, Below w.heap.size w W → Calls Tryz.prog 28 #[.agg #[.slice qi_A qi_n qi_c, .string qf, .bool qy, .slice qw_A qw_n qw_c, .slice qg_A qg_n qg_c, .slice qh_A qh_n qh_c, .slice qo_A qo_n qo_c, .slice ql_A ql_n ql_c], .agg #[.slice qi_2A qi_2n qi_2c, .string qf2, .bool qy2, .slice qw_2A qw_2n qw_2c, .slice qg_2A qg_2n qg_2c, .slice qh_2A qh_2n qh_2c, .slice qo_2A qo_2n qo_2c, .slice ql_2A ql_2n ql_2c]] W fun e w' => e = .returned (.bool true) ∧ Below W.heap.size W w' := HQU.out
  clear HQU
  have HQU := Lib.hid HQV
  clear HQV
  go_enter Tryz.func12, Tryz.ntmps12
  have hX := (Blk.new W 35 #[.int .u8 kind, .string name, .slice cols_A cols_n cols_c, .string time, .int .i64 every, .string space, .int .i64 parts, .slice qi_A qi_n qi_c, .string qf, .bool qy, .slice qw_A qw_n qw_c, .slice qg_A qg_n qg_c, .slice qh_A qh_n qh_c, .slice qo_A qo_n qo_c, .slice ql_A ql_n ql_c, .int .u8 what, .string of_, .int .i64 a, .int .i64 b, .slice rows_A rows_n rows_c, .slice sets_A sets_n sets_c, .slice whr_A whr_n whr_c, .int .u8 fk, .int .i64 fn, .string fs, .int .u8 tk, .int .i64 tn, .string ts]).alloc (.cells #[.int .u8 kind, .string name, .slice cols_2A cols_n cols_2c, .string time, .int .i64 every, .string space, .int .i64 parts, .slice qi_2A qi_2n qi_2c, .string qf2, .bool qy2, .slice qw_2A qw_2n qw_2c, .slice qg_2A qg_2n qg_2c, .slice qh_2A qh_2n qh_2c, .slice qo_2A qo_2n qo_2c, .slice ql_2A ql_2n ql_2c, .int .u8 what, .string of_, .int .i64 a, .int .i64 b, .slice rows_2A rows_n rows_2c, .slice sets_2A sets_n sets_2c, .slice whr_2A whr_n whr_2c, .int .u8 fk, .int .i64 fn, .string fs, .int .u8 tk, .int .i64 tn, .string ts] 35)
  have hZ := Blk.new (W.alloc (.cells #[.int .u8 kind, .string name, .slice cols_A cols_n cols_c, .string time, .int .i64 every, .string space, .int .i64 parts, .slice qi_A qi_n qi_c, .string qf, .bool qy, .slice qw_A qw_n qw_c, .slice qg_A qg_n qg_c, .slice qh_A qh_n qh_c, .slice qo_A qo_n qo_c, .slice ql_A ql_n ql_c, .int .u8 what, .string of_, .int .i64 a, .int .i64 b, .slice rows_A rows_n rows_c, .slice sets_A sets_n sets_c, .slice whr_A whr_n whr_c, .int .u8 fk, .int .i64 fn, .string fs, .int .u8 tk, .int .i64 tn, .string ts] 35)) 35 #[.int .u8 kind, .string name, .slice cols_2A cols_n cols_2c, .string time, .int .i64 every, .string space, .int .i64 parts, .slice qi_2A qi_2n qi_2c, .string qf2, .bool qy2, .slice qw_2A qw_2n qw_2c, .slice qg_2A qg_2n qg_2c, .slice qh_2A qh_2n qh_2c, .slice qo_2A qo_2n qo_2c, .slice ql_2A ql_2n ql_2c, .int .u8 what, .string of_, .int .i64 a, .int .i64 b, .slice rows_2A rows_n rows_2c, .slice sets_2A sets_n sets_2c, .slice whr_2A whr_n whr_2c, .int .u8 fk, .int .i64 fn, .string fs, .int .u8 tk, .int .i64 tn, .string ts]
  rw [World.size_alloc] at hZ
  have hB := Later.then (later_new W (.cells #[.int .u8 kind, .string name, .slice cols_A cols_n cols_c, .string time, .int .i64 every, .string space, .int .i64 parts, .slice qi_A qi_n qi_c, .string qf, .bool qy, .slice qw_A qw_n qw_c, .slice qg_A qg_n qg_c, .slice qh_A qh_n qh_c, .slice qo_A qo_n qo_c, .slice ql_A ql_n ql_c, .int .u8 what, .string of_, .int .i64 a, .int .i64 b, .slice rows_A rows_n rows_c, .slice sets_A sets_n sets_c, .slice whr_A whr_n whr_c, .int .u8 fk, .int .i64 fn, .string fs, .int .u8 tk, .int .i64 tn, .string ts] 35)) (later_new _ (.cells #[.int .u8 kind, .string name, .slice cols_2A cols_n cols_2c, .string time, .int .i64 every, .string space, .int .i64 parts, .slice qi_2A qi_2n qi_2c, .string qf2, .bool qy2, .slice qw_2A qw_2n qw_2c, .slice qg_2A qg_2n qg_2c, .slice qh_2A qh_2n qh_2c, .slice qo_2A qo_2n qo_2c, .slice ql_2A ql_2n ql_2c, .int .u8 what, .string of_, .int .i64 a, .int .i64 b, .slice rows_2A rows_n rows_2c, .slice sets_2A sets_n sets_2c, .slice whr_2A whr_n whr_2c, .int .u8 fk, .int .i64 fn, .string fs, .int .u8 tk, .int .i64 tn, .string ts] 35))
  have x0 := hX.cell 0
  have z0 := hZ.cell 0
  have x1 := hX.cell 1
  have z1 := hZ.cell 1
  have x2 := hX.cell 2
  have z2 := hZ.cell 2
  have x3 := hX.cell 3
  have z3 := hZ.cell 3
  have x4 := hX.cell 4
  have z4 := hZ.cell 4
  have x5 := hX.cell 5
  have z5 := hZ.cell 5
  have x6 := hX.cell 6
  have z6 := hZ.cell 6
  have x7 := hX.cell 7
  have z7 := hZ.cell 7
  have x8 := hX.cell 8
  have z8 := hZ.cell 8
  have x9 := hX.cell 9
  have z9 := hZ.cell 9
  have x10 := hX.cell 10
  have z10 := hZ.cell 10
  have x11 := hX.cell 11
  have z11 := hZ.cell 11
  have x12 := hX.cell 12
  have z12 := hZ.cell 12
  have x13 := hX.cell 13
  have z13 := hZ.cell 13
  have x14 := hX.cell 14
  have z14 := hZ.cell 14
  have x15 := hX.cell 15
  have z15 := hZ.cell 15
  have x16 := hX.cell 16
  have z16 := hZ.cell 16
  have x17 := hX.cell 17
  have z17 := hZ.cell 17
  have x18 := hX.cell 18
  have z18 := hZ.cell 18
  have x19 := hX.cell 19
  have z19 := hZ.cell 19
  have x20 := hX.cell 20
  have z20 := hZ.cell 20
  have x21 := hX.cell 21
  have z21 := hZ.cell 21
  have x22 := hX.cell 22
  have z22 := hZ.cell 22
  have x23 := hX.cell 23
  have z23 := hZ.cell 23
  have x24 := hX.cell 24
  have z24 := hZ.cell 24
  have x25 := hX.cell 25
  have z25 := hZ.cell 25
  have x26 := hX.cell 26
  have z26 := hZ.cell 26
  have x27 := hX.cell 27
  have z27 := hZ.cell 27
  simp only [List.getElem?_toArray, List.getElem?_cons_zero, List.getElem?_cons_succ] at x0 z0 x1 z1 x2 z2 x3 z3 x4 z4 x5 z5 x6 z6 x7 z7 x8 z8 x9 z9 x10 z10 x11 z11 x12 z12 x13 z13 x14 z14 x15 z15 x16 z16 x17 z17 x18 z18 x19 z19 x20 z20 x21 z21 x22 z22 x23 z23 x24 z24 x25 z25 x26 z26 x27 z27
  have e0 : (name.toList != name.toList) = false := by simp
  have e1 : (time.toList != time.toList) = false := by simp
  have e2 : (space.toList != space.toList) = false := by simp
  have e3 : (of_.toList != of_.toList) = false := by simp
  have e4 : (kind != kind) = false := by simp
  have e5 : (every != every) = false := by simp
  have e6 : (parts != parts) = false := by simp
  have e7 : (what != what) = false := by simp
  have e8 : (a != a) = false := by simp
  have e9 : (b != b) = false := by simp
  have e10 : (fk == fk) = true := by simp
  have e11 : (fn == fn) = true := by simp
  have e12 : (tk == tk) = true := by simp
  have e13 : (tn == tn) = true := by simp
  have e14 : (fs.toList == fs.toList) = true := by simp
  have e15 : (ts.toList == ts.toList) = true := by simp
  have e16 : ((cols_n : Int) != (cols_n : Int)) = false := by simp
  have e17 : ((rows_n : Int) != (rows_n : Int)) = false := by simp
  have e18 : ((sets_n : Int) != (sets_n : Int)) = false := by simp
  go_upto_region 1 with fail
  change Code.wp _ _ _ _ ((W.alloc (.cells #[.int .u8 kind, .string name, .slice cols_A cols_n cols_c, .string time, .int .i64 every, .string space, .int .i64 parts, .slice qi_A qi_n qi_c, .string qf, .bool qy, .slice qw_A qw_n qw_c, .slice qg_A qg_n qg_c, .slice qh_A qh_n qh_c, .slice qo_A qo_n qo_c, .slice ql_A ql_n ql_c, .int .u8 what, .string of_, .int .i64 a, .int .i64 b, .slice rows_A rows_n rows_c, .slice sets_A sets_n sets_c, .slice whr_A whr_n whr_c, .int .u8 fk, .int .i64 fn, .string fs, .int .u8 tk, .int .i64 tn, .string ts] 35)).alloc (.cells #[.int .u8 kind, .string name, .slice cols_2A cols_n cols_2c, .string time, .int .i64 every, .string space, .int .i64 parts, .slice qi_2A qi_2n qi_2c, .string qf2, .bool qy2, .slice qw_2A qw_2n qw_2c, .slice qg_2A qg_2n qg_2c, .slice qh_2A qh_2n qh_2c, .slice qo_2A qo_2n qo_2c, .slice ql_2A ql_2n ql_2c, .int .u8 what, .string of_, .int .i64 a, .int .i64 b, .slice rows_2A rows_n rows_2c, .slice sets_2A sets_n sets_2c, .slice whr_2A whr_n whr_2c, .int .u8 fk, .int .i64 fn, .string fs, .int .u8 tk, .int .i64 tn, .string ts] 35))
  have HW1 := Lib.hid (hW.trans (hB.mono hW.size))
  generalize hQX : W.heap.size = QX at *
  generalize hQZ : QX + 1 = QZ at *
  generalize hW1 : ((W.alloc _).alloc _) = W1 at *
  have HX := Lib.hid hX
  have HZ := Lib.hid hZ
  have HB := Lib.hid hB
  have HQX := Lib.hid hQX
  clear hX hZ hB hQX hQZ hW1
  go_wp2_with fail
  refine (HWH.out _ HW1.out).mono ?_
  rintro e V1 ⟨rfl, b1⟩
  have hb1 := b1
  replace x0 := (b1.cell (cell_lt x0)).trans x0
  replace z0 := (b1.cell (cell_lt z0)).trans z0
  replace x1 := (b1.cell (cell_lt x1)).trans x1
  replace z1 := (b1.cell (cell_lt z1)).trans z1
  replace x2 := (b1.cell (cell_lt x2)).trans x2
  replace z2 := (b1.cell (cell_lt z2)).trans z2
  replace x3 := (b1.cell (cell_lt x3)).trans x3
  replace z3 := (b1.cell (cell_lt z3)).trans z3
  replace x4 := (b1.cell (cell_lt x4)).trans x4
  replace z4 := (b1.cell (cell_lt z4)).trans z4
  replace x5 := (b1.cell (cell_lt x5)).trans x5
  replace z5 := (b1.cell (cell_lt z5)).trans z5
  replace x6 := (b1.cell (cell_lt x6)).trans x6
  replace z6 := (b1.cell (cell_lt z6)).trans z6
  replace x7 := (b1.cell (cell_lt x7)).trans x7
  replace z7 := (b1.cell (cell_lt z7)).trans z7
  replace x8 := (b1.cell (cell_lt x8)).trans x8
  replace z8 := (b1.cell (cell_lt z8)).trans z8
  replace x9 := (b1.cell (cell_lt x9)).trans x9
  replace z9 := (b1.cell (cell_lt z9)).trans z9
  replace x10 := (b1.cell (cell_lt x10)).trans x10
  replace z10 := (b1.cell (cell_lt z10)).trans z10
  replace x11 := (b1.cell (cell_lt x11)).trans x11
  replace z11 := (b1.cell (cell_lt z11)).trans z11
  replace x12 := (b1.cell (cell_lt x12)).trans x12
  replace z12 := (b1.cell (cell_lt z12)).trans z12
  replace x13 := (b1.cell (cell_lt x13)).trans x13
  replace z13 := (b1.cell (cell_lt z13)).trans z13
  replace x14 := (b1.cell (cell_lt x14)).trans x14
  replace z14 := (b1.cell (cell_lt z14)).trans z14
  replace x15 := (b1.cell (cell_lt x15)).trans x15
  replace z15 := (b1.cell (cell_lt z15)).trans z15
  replace x16 := (b1.cell (cell_lt x16)).trans x16
  replace z16 := (b1.cell (cell_lt z16)).trans z16
  replace x17 := (b1.cell (cell_lt x17)).trans x17
  replace z17 := (b1.cell (cell_lt z17)).trans z17
  replace x18 := (b1.cell (cell_lt x18)).trans x18
  replace z18 := (b1.cell (cell_lt z18)).trans z18
  replace x19 := (b1.cell (cell_lt x19)).trans x19
  replace z19 := (b1.cell (cell_lt z19)).trans z19
  replace x20 := (b1.cell (cell_lt x20)).trans x20
  replace z20 := (b1.cell (cell_lt z20)).trans z20
  replace x21 := (b1.cell (cell_lt x21)).trans x21
  replace z21 := (b1.cell (cell_lt z21)).trans z21
  replace x22 := (b1.cell (cell_lt x22)).trans x22
  replace z22 := (b1.cell (cell_lt z22)).trans z22
  replace x23 := (b1.cell (cell_lt x23)).trans x23
  replace z23 := (b1.cell (cell_lt z23)).trans z23
  replace x24 := (b1.cell (cell_lt x24)).trans x24
  replace z24 := (b1.cell (cell_lt z24)).trans z24
  replace x25 := (b1.cell (cell_lt x25)).trans x25
  replace z25 := (b1.cell (cell_lt z25)).trans z25
  replace x26 := (b1.cell (cell_lt x26)).trans x26
  replace z26 := (b1.cell (cell_lt z26)).trans z26
  replace x27 := (b1.cell (cell_lt x27)).trans x27
  replace z27 := (b1.cell (cell_lt z27)).trans z27
  go_wp2_with fail
  refine (HQU.out _ (HW1.out.trans (hb1.mono HW1.out.size))).mono ?_
  rintro e V2 ⟨rfl, b2⟩
  have hb2 := Later.then hb1 b2
  clear x0 z0 x1 z1 x2 z2 x3 z3 x4 z4 x5 z5 x6 z6 x7 z7 x8 z8 x9 z9 x10 z10 x11 z11 x12 z12 x13 z13 x14 z14 x15 z15 x16 z16 x17 z17 x18 z18 x19 z19 x20 z20 x21 z21 x22 z22 x23 z23 x24 z24 x25 z25 x26 z26 x27 z27
  go_wp2_with fail
  clear e0 e1 e2 e3 e4 e5 e6 e7 e8 e9 e10 e11 e12 e13 e14 e15 e16 e17 e18
  go_loopw [5] (fun iv wr => ∃ i : Nat, i ≤ cols_n ∧ iv = .int .i64 i ∧ Below W1.heap.size W1 wr) (fun iv _ => cols_n - (intOf iv).toNat)
  case atStart => exact ⟨0, Nat.zero_le _, rfl, hb2⟩
  case round =>
    obtain ⟨i, hi, rfl, hbw⟩ := hrel
    have x2 := (HX.out.later hbw).cell 2
    have z2 := (HZ.out.later hbw).cell 2
    simp only [List.getElem?_toArray, List.getElem?_cons_zero, List.getElem?_cons_succ] at x2 z2
    have HBW := Lib.hid hbw
    by_cases hlt : i < cols_n
    · obtain ⟨x, hx⟩ : ∃ x : ByteArray × Int, cols_ys[i]? = some x := ⟨_, List.getElem?_eq_getElem (by have h1 := cols_L.out; have h2 := cols_HA.out.len; omega)⟩
      obtain ⟨u, hu⟩ : ∃ u : ByteArray × Int, cols_zs[i]? = some u := ⟨_, List.getElem?_eq_getElem (by have h1 := cols_L.out; have h2 := cols_HB.out.len; omega)⟩
      obtain ⟨t, ht⟩ : ∃ t, cols_l[i]? = some t := ⟨_, List.getElem?_eq_getElem (by have h1 := cols_L.out; omega)⟩
      have r1 := all2_atS cols_HA.out ht hx
      have r2 := all2_atS cols_HB.out ht hu
      have hwr : Below w.heap.size w wr := HW1.out.trans (hbw.mono HW1.out.size)
      rcases cols_R.out with h0 | ⟨b, off, hAe, hSb, hc⟩
      · subst h0; simp at hx
      rcases cols_Q.out with h0 | ⟨b2, off2, hAe2, hSb2, hc2⟩
      · subst h0; simp at hu
      have hbb : b < wr.heap.size := Nat.lt_of_lt_of_le (hS b hSb) hwr.size
      have hbb2 : b2 < wr.heap.size := Nat.lt_of_lt_of_le (hS2 b2 hSb2) hwr.size
      have hcell := fun j v hv => (hwr.cell (p := ⟨b, off + i * 2 + j, none⟩) (hS b hSb)).trans (hc i x j v hx hv)
      have hcell2 := fun j v hv => (hwr.cell (p := ⟨b2, off2 + i * 2 + j, none⟩) (hS2 b2 hSb2)).trans (hc2 i u j v hu hv)
      have k0 := fun q : Ext wr.heap.size wr => (q.h.cell (p := ⟨b, off + i * 2, none⟩) hbb).trans (hcell 0 (.string x.1) rfl)
      have k1 := fun q : Ext wr.heap.size wr => (q.h.cell (p := ⟨b, off + i * 2 + 1, none⟩) hbb).trans (hcell 1 (.int .u8 x.2) rfl)
      have m0 := fun q : Ext wr.heap.size wr => (q.h.cell (p := ⟨b2, off2 + i * 2, none⟩) hbb2).trans (hcell2 0 (.string u.1) rfl)
      have m1 := fun q : Ext wr.heap.size wr => (q.h.cell (p := ⟨b2, off2 + i * 2 + 1, none⟩) hbb2).trans (hcell2 1 (.int .u8 u.2) rfl)
      have p2 := fun q : Ext wr.heap.size wr => (q.h.cell (p := ⟨QX, 2, none⟩) (HX.out.later hbw).lt).trans x2
      have p3 := fun q : Ext wr.heap.size wr => (q.h.cell (p := ⟨QZ, 2, none⟩) (HZ.out.later hbw).lt).trans z2
      have heq : u = x := by rw [show x = t from r1, show u = t from r2]
      subst heq
      obtain ⟨ua, ub⟩ := u
      have f0 : (ua.toList == ua.toList) = true := by simp
      have f1 : (ub == ub) = true := by simp
      clear hcell hcell2 hc hc2 hx hu ht hwr r1 r2
      subst hAe hAe2
      go_upto_region 6 with fail
      clear x2 z2
      refine region_cut 11 wr.heap.size wr (Below.refl _ _) (by kernel_rfl) (by kernel_rfl) (by kernel_rfl) (by kernel_rfl) ?_
      simp only [List.take_succ_cons, List.take_zero, List.drop_succ_cons, List.drop_zero]
      repeat (go_big_quiet_step (fail))
      refine wpQuiet_nil ?_
      rintro V4 ⟨x9, hx9⟩
      have hW9 := x9.h
      rw [← hx9] at hW9
      have hb1 := Later.then HBW.out hW9
      clear hx9 x9 k0 m0 k1 m1 p2 p3 hW9 f0 f1
      go_wp2_with fail
      go_roundw
      case rel => exact ⟨i + 1, by omega, by go_num, hb1⟩
      case measure => simp [intOf]; omega
    · obtain rfl : i = cols_n := by omega
      go_wp2_with fail
      clear x2 z2 hbw
      go_loopw [6] (fun iv wr => ∃ i : Nat, i ≤ rows_n ∧ iv = .int .i64 i ∧ Below W1.heap.size W1 wr) (fun iv _ => rows_n - (intOf iv).toNat)
      case atStart => exact ⟨0, Nat.zero_le _, rfl, HBW.out⟩
      case round =>
        obtain ⟨i, hi, rfl, hbw⟩ := hrel
        have x19 := (HX.out.later hbw).cell 19
        have z19 := (HZ.out.later hbw).cell 19
        simp only [List.getElem?_toArray, List.getElem?_cons_zero, List.getElem?_cons_succ] at x19 z19
        have HBW := Lib.hid hbw
        by_cases hlt : i < rows_n
        · obtain ⟨x, hx⟩ : ∃ x : Sl, rows_ys[i]? = some x := ⟨_, List.getElem?_eq_getElem (by have h1 := rows_L.out; have h2 := rows_HA.out.len; omega)⟩
          obtain ⟨u, hu⟩ : ∃ u : Sl, rows_zs[i]? = some u := ⟨_, List.getElem?_eq_getElem (by have h1 := rows_L.out; have h2 := rows_HB.out.len; omega)⟩
          obtain ⟨t, ht⟩ : ∃ t, rows_l[i]? = some t := ⟨_, List.getElem?_eq_getElem (by have h1 := rows_L.out; omega)⟩
          have r1 := all2_atS rows_HA.out ht hx
          have r2 := all2_atS rows_HB.out ht hu
          have hwr : Below w.heap.size w wr := HW1.out.trans (hbw.mono HW1.out.size)
          rcases rows_R.out with h0 | ⟨b, off, hAe, hSb, hc⟩
          · subst h0; simp at hx
          rcases rows_Q.out with h0 | ⟨b2, off2, hAe2, hSb2, hc2⟩
          · subst h0; simp at hu
          have hbb : b < wr.heap.size := Nat.lt_of_lt_of_le (hS b hSb) hwr.size
          have hbb2 : b2 < wr.heap.size := Nat.lt_of_lt_of_le (hS2 b2 hSb2) hwr.size
          have hcell := fun j v hv => (hwr.cell (p := ⟨b, off + i * 1 + j, none⟩) (hS b hSb)).trans (hc i x j v hx hv)
          have hcell2 := fun j v hv => (hwr.cell (p := ⟨b2, off2 + i * 1 + j, none⟩) (hS2 b2 hSb2)).trans (hc2 i u j v hu hv)
          have k0' := hcell 0 (.slice x.A x.n x.c) rfl
          simp only [Nat.mul_one, Nat.add_zero] at k0'
          have k0 := fun q : Ext wr.heap.size wr => (q.h.cell (p := ⟨b, off + i, none⟩) hbb).trans k0'
          clear k0'
          have m0' := hcell2 0 (.slice u.A u.n u.c) rfl
          simp only [Nat.mul_one, Nat.add_zero] at m0'
          have m0 := fun q : Ext wr.heap.size wr => (q.h.cell (p := ⟨b2, off2 + i, none⟩) hbb2).trans m0'
          clear m0'
          have p2 := fun q : Ext wr.heap.size wr => (q.h.cell (p := ⟨QX, 19, none⟩) (HX.out.later hbw).lt).trans x19
          have p3 := fun q : Ext wr.heap.size wr => (q.h.cell (p := ⟨QZ, 19, none⟩) (HZ.out.later hbw).lt).trans z19
          have HTH := rows_T.out t (List.mem_of_getElem? ht)
          have hev := fun q : Ext wr.heap.size wr => all_is hS hS2 r1 r2 HTH.1 HTH.2 q.w (hwr.trans (q.h.mono hwr.size))
          clear HTH
          clear hcell hcell2 hc hc2 hx hu ht hwr r1 r2
          subst hAe hAe2
          go_upto_region 11 with fail
          clear x19 z19
          refine region_cut 12 wr.heap.size wr (Below.refl _ _) (by kernel_rfl) (by kernel_rfl) (by kernel_rfl) (by kernel_rfl) ?_
          simp only [List.take_succ_cons, List.take_zero, List.drop_succ_cons, List.drop_zero]
          repeat (go_big_quiet_step (fail))
          go_big_quiet_step ((go_at_call 27; exact calls_later (Nat.le_refl _) (hev _)))
          repeat (go_big_quiet_step (fail))
          refine wpQuiet_nil ?_
          rintro V4 ⟨x9, hx9⟩
          have hW9 := x9.h
          rw [← hx9] at hW9
          have hb1 := Later.then HBW.out hW9
          clear hx9 x9 k0 m0 p2 p3 hW9 hev
          go_wp2_with fail
          go_roundw
          case rel => exact ⟨i + 1, by omega, by go_num, hb1⟩
          case measure => simp [intOf]; omega
        · obtain rfl : i = rows_n := by omega
          go_wp2_with fail
          clear x19 z19 hbw
          go_loopw [7] (fun iv wr => ∃ i : Nat, i ≤ sets_n ∧ iv = .int .i64 i ∧ Below W1.heap.size W1 wr) (fun iv _ => sets_n - (intOf iv).toNat)
          case atStart => exact ⟨0, Nat.zero_le _, rfl, HBW.out⟩
          case round =>
            obtain ⟨i, hi, rfl, hbw⟩ := hrel
            have x20 := (HX.out.later hbw).cell 20
            have z20 := (HZ.out.later hbw).cell 20
            simp only [List.getElem?_toArray, List.getElem?_cons_zero, List.getElem?_cons_succ] at x20 z20
            have HBW := Lib.hid hbw
            by_cases hlt : i < sets_n
            · obtain ⟨x, hx⟩ : ∃ x : ByteArray × Ex, sets_ys[i]? = some x := ⟨_, List.getElem?_eq_getElem (by have h1 := sets_L.out; have h2 := sets_HA.out.len; omega)⟩
              obtain ⟨u, hu⟩ : ∃ u : ByteArray × Ex, sets_zs[i]? = some u := ⟨_, List.getElem?_eq_getElem (by have h1 := sets_L.out; have h2 := sets_HB.out.len; omega)⟩
              obtain ⟨t, ht⟩ : ∃ t, sets_l[i]? = some t := ⟨_, List.getElem?_eq_getElem (by have h1 := sets_L.out; omega)⟩
              have r1 := all2_atS sets_HA.out ht hx
              have r2 := all2_atS sets_HB.out ht hu
              have hwr : Below w.heap.size w wr := HW1.out.trans (hbw.mono HW1.out.size)
              rcases sets_R.out with h0 | ⟨b, off, hAe, hSb, hc⟩
              · subst h0; simp at hx
              rcases sets_Q.out with h0 | ⟨b2, off2, hAe2, hSb2, hc2⟩
              · subst h0; simp at hu
              have hbb : b < wr.heap.size := Nat.lt_of_lt_of_le (hS b hSb) hwr.size
              have hbb2 : b2 < wr.heap.size := Nat.lt_of_lt_of_le (hS2 b2 hSb2) hwr.size
              have hcell := fun j v hv => (hwr.cell (p := ⟨b, off + i * 8 + j, none⟩) (hS b hSb)).trans (hc i x j v hx hv)
              have hcell2 := fun j v hv => (hwr.cell (p := ⟨b2, off2 + i * 8 + j, none⟩) (hS2 b2 hSb2)).trans (hc2 i u j v hu hv)
              have k0 := fun q : Ext wr.heap.size wr => (q.h.cell (p := ⟨b, off + i * 8, none⟩) hbb).trans (hcell 0 (.string x.1) rfl)
              have k1 := fun q : Ext wr.heap.size wr => (q.h.cell (p := ⟨b, off + i * 8 + 1, none⟩) hbb).trans (hcell 1 (.int .u8 x.2.op) rfl)
              have k2 := fun q : Ext wr.heap.size wr => (q.h.cell (p := ⟨b, off + i * 8 + 2, none⟩) hbb).trans (hcell 2 (.int .u8 x.2.v.k) rfl)
              have k3 := fun q : Ext wr.heap.size wr => (q.h.cell (p := ⟨b, off + i * 8 + 3, none⟩) hbb).trans (hcell 3 (.int .i64 x.2.v.n) rfl)
              have k4 := fun q : Ext wr.heap.size wr => (q.h.cell (p := ⟨b, off + i * 8 + 4, none⟩) hbb).trans (hcell 4 (.string x.2.v.s) rfl)
              have k5 := fun q : Ext wr.heap.size wr => (q.h.cell (p := ⟨b, off + i * 8 + 5, none⟩) hbb).trans (hcell 5 (.string x.2.name) rfl)
              have k6 := fun q : Ext wr.heap.size wr => (q.h.cell (p := ⟨b, off + i * 8 + 6, none⟩) hbb).trans (hcell 6 (.int .i64 x.2.width) rfl)
              have k7 := fun q : Ext wr.heap.size wr => (q.h.cell (p := ⟨b, off + i * 8 + 7, none⟩) hbb).trans (hcell 7 (.slice x.2.A x.2.n x.2.c) rfl)
              have m0 := fun q : Ext wr.heap.size wr => (q.h.cell (p := ⟨b2, off2 + i * 8, none⟩) hbb2).trans (hcell2 0 (.string u.1) rfl)
              have m1 := fun q : Ext wr.heap.size wr => (q.h.cell (p := ⟨b2, off2 + i * 8 + 1, none⟩) hbb2).trans (hcell2 1 (.int .u8 u.2.op) rfl)
              have m2 := fun q : Ext wr.heap.size wr => (q.h.cell (p := ⟨b2, off2 + i * 8 + 2, none⟩) hbb2).trans (hcell2 2 (.int .u8 u.2.v.k) rfl)
              have m3 := fun q : Ext wr.heap.size wr => (q.h.cell (p := ⟨b2, off2 + i * 8 + 3, none⟩) hbb2).trans (hcell2 3 (.int .i64 u.2.v.n) rfl)
              have m4 := fun q : Ext wr.heap.size wr => (q.h.cell (p := ⟨b2, off2 + i * 8 + 4, none⟩) hbb2).trans (hcell2 4 (.string u.2.v.s) rfl)
              have m5 := fun q : Ext wr.heap.size wr => (q.h.cell (p := ⟨b2, off2 + i * 8 + 5, none⟩) hbb2).trans (hcell2 5 (.string u.2.name) rfl)
              have m6 := fun q : Ext wr.heap.size wr => (q.h.cell (p := ⟨b2, off2 + i * 8 + 6, none⟩) hbb2).trans (hcell2 6 (.int .i64 u.2.width) rfl)
              have m7 := fun q : Ext wr.heap.size wr => (q.h.cell (p := ⟨b2, off2 + i * 8 + 7, none⟩) hbb2).trans (hcell2 7 (.slice u.2.A u.2.n u.2.c) rfl)
              have p2 := fun q : Ext wr.heap.size wr => (q.h.cell (p := ⟨QX, 20, none⟩) (HX.out.later hbw).lt).trans x20
              have p3 := fun q : Ext wr.heap.size wr => (q.h.cell (p := ⟨QZ, 20, none⟩) (HZ.out.later hbw).lt).trans z20
              have HTH := Lib.hid (sets_T.out t (List.mem_of_getElem? ht))
              have hev := fun q : Ext wr.heap.size wr => Tr.same_is hS hS2 t.2 x.2 u.2 r1.2 r2.2 HTH.out q.w (hwr.trans (q.h.mono hwr.size))
              have heq : u.1 = x.1 := by rw [r1.1, r2.1]
              obtain ⟨xa, x⟩ := x
              obtain ⟨ua, u⟩ := u
              simp only at heq hev k0 m0 k1 m1 k2 m2 k3 m3 k4 m4 k5 m5 k6 m6 k7 m7
              subst heq
              have f0 : (ua.toList != ua.toList) = false := by simp
              unfold exV exC at hev
              clear hcell hcell2 hc hc2 hx hu ht hwr r1 r2
              subst hAe hAe2
              go_upto_region 16 with fail
              clear x20 z20
              refine region_cut 29 wr.heap.size wr (Below.refl _ _) (by kernel_rfl) (by kernel_rfl) (by kernel_rfl) (by kernel_rfl) ?_
              simp only [List.take_succ_cons, List.take_zero, List.drop_succ_cons, List.drop_zero]
              repeat (go_big_quiet_step (fail))
              go_big_quiet_step ((go_at_call 29; exact calls_later (Nat.le_refl _) (hev _)))
              repeat (go_big_quiet_step (fail))
              refine wpQuiet_nil ?_
              rintro V4 ⟨x9, hx9⟩
              have hW9 := x9.h
              rw [← hx9] at hW9
              have hb1 := Later.then HBW.out hW9
              clear hx9 x9 k0 m0 k1 m1 k2 m2 k3 m3 k4 m4 k5 m5 k6 m6 k7 m7 p2 p3 hW9 hev f0
              go_wp2_with fail
              go_roundw
              case rel => exact ⟨i + 1, by omega, by go_num, hb1⟩
              case measure => simp [intOf]; omega
            · obtain rfl : i = sets_n := by omega
              go_wp2_with fail
              go_ret
              have h1 := HB.out
              rw [← HQX.out] at h1
              exact ⟨rfl, Later.then h1 HBW.out⟩
end Go.Proofs.YtcneefmaghoejaaGreatDoor
