/- tidelinelaw15.put of a column, and of any tree. Printed by gen_putc.py. -/
import Derived.Test.YtlfahfoffdbpfaaPut
import Derived.Test.YtlfahfoffdbpfaaEval3
namespace Go.Proofs.Ytlfahfoffdbpfaa
open Go.ChangeShapes Go.WideShapes Go.ChangeAt Go.RowKit
set_option linter.unusedVariables false
set_option linter.unusedSimpArgs false

mutual
/-- a tree, its columns turned into literals of a row -/
def Tr.put (cols : List Col) (row : List Val) : Tr → Tr
  | .mk op v name width args => if op = 2 ∧ args.length = 0 ∧ placeK name cols < cols.length ∧ placeK name cols < row.length then .mk 1 (row.getD (placeK name cols) zeroVal) ByteArray.empty 0 [] else .mk op v name width (Tr.puts cols row args)
def Tr.puts (cols : List Col) (row : List Val) : List Tr → List Tr
  | [] => []
  | t :: ts => t.put cols row :: Tr.puts cols row ts
end

set_option maxHeartbeats 4000000 in
set_option maxRecDepth 100000 in
theorem put_col (xv : Val) (name : ByteArray) (width : Int) (A : Option Addr) (c : Nat) (cols : List Col) (CA : Option Addr) (cc : Nat) (row : List Val) (RA : Option Addr) (rc : Nat) (w : World) (hC : RC w w.heap.size CA cols) (hcl : cols.length ≤ 140737488355328) (hV : RV w w.heap.size RA row) (hrl : row.length ≤ 140737488355328) :
    Calls Try.prog 20 #[.agg #[.int .u8 2, .int .u8 xv.k, .int .i64 xv.n, .string xv.s, .string name, .int .i64 width, .slice A 0 c], .slice CA cols.length cc, .slice RA row.length rc] w (PutPost ((Tr.mk 2 xv name width []).put cols row) w) := by
  have HC := Lib.hid hC
  have HV := Lib.hid hV
  clear hC hV
  go_enter Try.func20, Try.ntmps20
  have hX := (Blk.new w 36 #[.int .u8 2, .int .u8 xv.k, .int .i64 xv.n, .string xv.s, .string name, .int .i64 width, .slice A 0 c]).alloc (.cells #[.int .u8 0, .int .u8 0, .int .i64 0, .string ⟨#[]⟩, .string ⟨#[]⟩, .int .i64 0, .slice none 0 0] 36)
  have hR := Blk.new (w.alloc (.cells #[.int .u8 2, .int .u8 xv.k, .int .i64 xv.n, .string xv.s, .string name, .int .i64 width, .slice A 0 c] 36)) 36 #[.int .u8 0, .int .u8 0, .int .i64 0, .string ⟨#[]⟩, .string ⟨#[]⟩, .int .i64 0, .slice none 0 0]
  rw [World.size_alloc] at hR
  have hB := Later.then (later_new w (.cells #[.int .u8 2, .int .u8 xv.k, .int .i64 xv.n, .string xv.s, .string name, .int .i64 width, .slice A 0 c] 36)) (later_new _ (.cells #[.int .u8 0, .int .u8 0, .int .i64 0, .string ⟨#[]⟩, .string ⟨#[]⟩, .int .i64 0, .slice none 0 0] 36))
  go_upto_region 1 with fail
  generalize (w.alloc (.cells #[.int .u8 2, .int .u8 xv.k, .int .i64 xv.n, .string xv.s, .string name, .int .i64 width, .slice A 0 c] 36)).alloc (.cells #[.int .u8 0, .int .u8 0, .int .i64 0, .string ⟨#[]⟩, .string ⟨#[]⟩, .int .i64 0, .slice none 0 0] 36) = W0 at *
  generalize hgr : w.heap.size + 1 = gr at *
  have hgr2 : w.heap.size ≤ gr := by omega
  clear hgr
  have x0 := hX.cell 0
  have x1 := hX.cell 1
  have x2 := hX.cell 2
  have x3 := hX.cell 3
  have x4 := hX.cell 4
  have x5 := hX.cell 5
  have x6 := hX.cell 6
  simp only [List.getElem?_toArray, List.getElem?_cons_zero, List.getElem?_cons_succ] at x0 x1 x2 x3 x4 x5 x6
  go_wp2_with fail
  clear x0 x1 x2 x3 x4 x5 x6
  go_loopw [7] (fun i wr => ∃ k : Nat, k ≤ cols.length ∧ k ≤ row.length ∧ i = .int .i64 k ∧ placeK name cols = k + placeK name (cols.drop k) ∧ Below W0.heap.size W0 wr) (fun i _ => cols.length - (intOf i).toNat)
  case atStart => exact ⟨0, Nat.zero_le _, Nat.zero_le _, rfl, by simp, Below.refl _ _⟩
  case round =>
    obtain ⟨k, hk, hkr, rfl, hp, hb⟩ := hrel
    have HP := Lib.hid hp
    clear hp
    have hX1 := hX.later hb
    have hR1 := hR.later hb
    have hB1 := Later.then hB hb
    clear hX hR hB
    have done : ¬ (placeK name cols < cols.length ∧ placeK name cols < row.length) → Hid ((Tr.mk 2 xv name width []).put cols row = .mk 2 xv name width []) := fun nf => by
      show (Tr.mk 2 xv name width []).put cols row = .mk 2 xv name width []
      unfold Tr.put
      rw [if_neg (fun h => nf h.2.2)]
      rfl
    by_cases hlt : k < cols.length ∧ k < row.length
    · obtain ⟨hlt, hlt2⟩ := hlt
      clear done
      obtain ⟨b, off, rfl, hbb, hcol⟩ := (HC.out.below hB1).at_ hlt
      have HD := Lib.hid (drop_at hlt)
      have HPC := Lib.hid (show cols[k] = cols[k] from rfl)
      obtain ⟨b2, off2, rfl, hbb2, hval⟩ := (HV.out.below hB1).at_ hlt2
      have HG := Lib.hid (show row.getD k zeroVal = row[k] by rw [List.getD_eq_getElem?_getD, List.getElem?_eq_getElem hlt2]; rfl)
      clear HPC
      generalize cols[k] = x at *
      generalize row[k] = v at *
      have hbw : b < wr.heap.size := Nat.lt_of_lt_of_le hbb hB1.size
      have hbw2 : b2 < wr.heap.size := Nat.lt_of_lt_of_le hbb2 hB1.size
      have hcx := fun z : Ext wr.heap.size wr => (hcol.keep (w' := z.w) fun o => z.h.cell (p := ⟨b, o, none⟩) hbw)
      unfold ColAt at hcx
      have hnx := fun z : Ext wr.heap.size wr => (hX1.later z.h).cell 4
      simp only [List.getElem?_toArray, List.getElem?_cons_zero, List.getElem?_cons_succ] at hnx
      cases hm : (x.name.toList == name.toList)
      · go_wp2_with fail
        refine region_cut 8 wr.heap.size wr (Below.refl _ _) (by kernel_rfl) (by kernel_rfl) (by kernel_rfl) (by kernel_rfl) ?_
        simp only [List.take_succ_cons, List.take_zero, List.drop_succ_cons, List.drop_zero]
        repeat (go_big_quiet_step (fail))
        refine wpQuiet_nil ?_
        rintro V4 ⟨x2, hx2⟩
        have hW := x2.h
        rw [← hx2] at hW
        clear hx2 x2 hcx hnx
        go_wp2_with fail
        go_roundw
        case rel =>
          refine ⟨k + 1, by omega, by omega, by go_num, ?_, Later.then hb hW⟩
          rw [HP.out, HD.out, placeK_no hm]
          omega
        case measure => simp [intOf]; omega
      · have HT := Lib.hid (show (Tr.mk 2 xv name width []).put cols row = .mk 1 v ByteArray.empty 0 [] by
          have hpk : placeK name cols = k := by
            rw [HP.out, HD.out, placeK_yes hm]
            omega
          unfold Tr.put
          rw [hpk, if_pos ⟨rfl, rfl, hlt, hlt2⟩, HG.out])
        rw [HT.out]
        go_wp2_with fail
        refine region_cut 8 wr.heap.size wr (Below.refl _ _) (by kernel_rfl) (by kernel_rfl) (by kernel_rfl) (by kernel_rfl) ?_
        simp only [List.take_succ_cons, List.take_zero, List.drop_succ_cons, List.drop_zero]
        repeat (go_big_quiet_step (fail))
        refine wpQuiet_nil ?_
        rintro V4 ⟨x2, hx2⟩
        have hW := x2.h
        rw [← hx2] at hW
        clear hx2 x2 hcx hnx
        replace hval := hval.keep (w' := V4) fun o => hW.cell (p := ⟨b2, o, none⟩) hbw2
        unfold ValAt at hval
        go_wp2_with fail
        refine (lit_any v _).mono ?_
        rintro e w5 ⟨rfl, b5⟩
        have hR5 := (hR1.later hW).later b5
        have hB5 := Later.then (Later.then hB1 hW) b5
        clear hval b5 hW hX1 hR1 hB1
        unfold litV
        have r0 := hR5.cell 0
        have r1 := hR5.cell 1
        have r2 := hR5.cell 2
        have r3 := hR5.cell 3
        have r4 := hR5.cell 4
        have r5 := hR5.cell 5
        have r6 := hR5.cell 6
        simp only [List.getElem?_toArray, List.getElem?_cons_zero, List.getElem?_cons_succ] at r0 r1 r2 r3 r4 r5 r6
        have fr := Blk.frozen hR5
        go_wp2_with fail
        refine bodyPost_ret (v := .agg #[.int .u8 1, .int .u8 v.k, .int .i64 v.n, .string v.s, .string ByteArray.empty, .int .i64 0, .slice none 0 0]) (by simp [results, Try.results20, go_sem, r0, r1, r2, r3, r4, r5, r6]; try rfl) rfl ⟨⟨1, v, ByteArray.empty, 0, none, 0, 0⟩, rfl, ?_, ((((((hB5.setCell hgr2 _).setCell hgr2 _).setCell hgr2 _).setCell hgr2 _).setCell hgr2 _).setCell hgr2 _).setCell hgr2 _⟩
        unfold Tr.at_
        exact ⟨rfl, rfl, rfl, rfl, rfl, [], .inl rfl, by unfold Tr.all_; rfl⟩
    · have HT := done (by
        intro h
        have h1 := HP.out
        apply hlt
        rcases Nat.lt_or_ge k cols.length with h3 | h3
        · exact ⟨h3, by omega⟩
        · rw [List.drop_eq_nil_of_le h3] at h1
          have : placeK name ([] : List Col) = 0 := rfl
          omega)
      rw [HT.out]
      clear done
      have hex : (¬ k < cols.length) ∨ (k < cols.length ∧ ¬ k < row.length) := by omega
      clear hlt
      rcases hex with h1 | ⟨h1, h2⟩
      · have t1 : decide (k < cols.length) = false := decide_eq_false h1
        have x0 := hX1.cell 0
        have x1 := hX1.cell 1
        have x2 := hX1.cell 2
        have x3 := hX1.cell 3
        have x4 := hX1.cell 4
        have x5 := hX1.cell 5
        have x6 := hX1.cell 6
        simp only [List.getElem?_toArray, List.getElem?_cons_zero, List.getElem?_cons_succ] at x0 x1 x2 x3 x4 x5 x6
        go_wp2_with fail
        clear x0 x1 x2 x3 x4 x5 x6
        have bb := later_new wr (.cells #[.int .u8 2, .int .u8 xv.k, .int .i64 xv.n, .string xv.s, .string name, .int .i64 width, .slice none 0 0] 36)
        have hY := Blk.new wr 36 #[.int .u8 2, .int .u8 xv.k, .int .i64 xv.n, .string xv.s, .string name, .int .i64 width, .slice none 0 0]
        have hX2 := hX1.later bb
        have hR2 := hR1.later bb
        have hB2 := Later.then hB1 bb
        clear bb hX1 hR1 hB1
        generalize wr.alloc (.cells #[.int .u8 2, .int .u8 xv.k, .int .i64 xv.n, .string xv.s, .string name, .int .i64 width, .slice none 0 0] 36) = W2 at *
        generalize wr.heap.size = gy at *
        go_loopw [9] (fun i wx => i = .int .i64 0 ∧ wx = W2) (fun _ _ => 0)
        case atStart => exact ⟨rfl, rfl⟩
        case round =>
          obtain ⟨rfl, rfl⟩ := hrel
          have x0 := hX2.cell 0
          have x1 := hX2.cell 1
          have x2 := hX2.cell 2
          have x3 := hX2.cell 3
          have x4 := hX2.cell 4
          have x5 := hX2.cell 5
          have x6 := hX2.cell 6
          simp only [List.getElem?_toArray, List.getElem?_cons_zero, List.getElem?_cons_succ] at x0 x1 x2 x3 x4 x5 x6
          have y0 := hY.cell 0
          have y1 := hY.cell 1
          have y2 := hY.cell 2
          have y3 := hY.cell 3
          have y4 := hY.cell 4
          have y5 := hY.cell 5
          have y6 := hY.cell 6
          simp only [List.getElem?_toArray, List.getElem?_cons_zero, List.getElem?_cons_succ] at y0 y1 y2 y3 y4 y5 y6
          have r0 := hR2.cell 0
          have r1 := hR2.cell 1
          have r2 := hR2.cell 2
          have r3 := hR2.cell 3
          have r4 := hR2.cell 4
          have r5 := hR2.cell 5
          have r6 := hR2.cell 6
          simp only [List.getElem?_toArray, List.getElem?_cons_zero, List.getElem?_cons_succ] at r0 r1 r2 r3 r4 r5 r6
          have fr := Blk.frozen hR2
          go_wp2_with fail
          refine bodyPost_ret (v := .agg #[.int .u8 2, .int .u8 xv.k, .int .i64 xv.n, .string xv.s, .string name, .int .i64 width, .slice none 0 0]) (by simp [results, Try.results20, go_sem, r0, r1, r2, r3, r4, r5, r6]; try rfl) rfl ⟨⟨2, xv, name, width, none, 0, 0⟩, rfl, ?_, ((((((hB2.setCell hgr2 _).setCell hgr2 _).setCell hgr2 _).setCell hgr2 _).setCell hgr2 _).setCell hgr2 _).setCell hgr2 _⟩
          rw [HT.out]
          unfold Tr.at_
          exact ⟨rfl, rfl, rfl, rfl, rfl, [], .inl rfl, by unfold Tr.all_; rfl⟩
      · have t1 : decide (k < cols.length) = true := decide_eq_true h1
        have t2 : decide (k < row.length) = false := decide_eq_false h2
        have x0 := hX1.cell 0
        have x1 := hX1.cell 1
        have x2 := hX1.cell 2
        have x3 := hX1.cell 3
        have x4 := hX1.cell 4
        have x5 := hX1.cell 5
        have x6 := hX1.cell 6
        simp only [List.getElem?_toArray, List.getElem?_cons_zero, List.getElem?_cons_succ] at x0 x1 x2 x3 x4 x5 x6
        go_wp2_with fail
        clear x0 x1 x2 x3 x4 x5 x6
        have bb := later_new wr (.cells #[.int .u8 2, .int .u8 xv.k, .int .i64 xv.n, .string xv.s, .string name, .int .i64 width, .slice none 0 0] 36)
        have hY := Blk.new wr 36 #[.int .u8 2, .int .u8 xv.k, .int .i64 xv.n, .string xv.s, .string name, .int .i64 width, .slice none 0 0]
        have hX2 := hX1.later bb
        have hR2 := hR1.later bb
        have hB2 := Later.then hB1 bb
        clear bb hX1 hR1 hB1
        generalize wr.alloc (.cells #[.int .u8 2, .int .u8 xv.k, .int .i64 xv.n, .string xv.s, .string name, .int .i64 width, .slice none 0 0] 36) = W2 at *
        generalize wr.heap.size = gy at *
        go_loopw [9] (fun i wx => i = .int .i64 0 ∧ wx = W2) (fun _ _ => 0)
        case atStart => exact ⟨rfl, rfl⟩
        case round =>
          obtain ⟨rfl, rfl⟩ := hrel
          have x0 := hX2.cell 0
          have x1 := hX2.cell 1
          have x2 := hX2.cell 2
          have x3 := hX2.cell 3
          have x4 := hX2.cell 4
          have x5 := hX2.cell 5
          have x6 := hX2.cell 6
          simp only [List.getElem?_toArray, List.getElem?_cons_zero, List.getElem?_cons_succ] at x0 x1 x2 x3 x4 x5 x6
          have y0 := hY.cell 0
          have y1 := hY.cell 1
          have y2 := hY.cell 2
          have y3 := hY.cell 3
          have y4 := hY.cell 4
          have y5 := hY.cell 5
          have y6 := hY.cell 6
          simp only [List.getElem?_toArray, List.getElem?_cons_zero, List.getElem?_cons_succ] at y0 y1 y2 y3 y4 y5 y6
          have r0 := hR2.cell 0
          have r1 := hR2.cell 1
          have r2 := hR2.cell 2
          have r3 := hR2.cell 3
          have r4 := hR2.cell 4
          have r5 := hR2.cell 5
          have r6 := hR2.cell 6
          simp only [List.getElem?_toArray, List.getElem?_cons_zero, List.getElem?_cons_succ] at r0 r1 r2 r3 r4 r5 r6
          have fr := Blk.frozen hR2
          go_wp2_with fail
          refine bodyPost_ret (v := .agg #[.int .u8 2, .int .u8 xv.k, .int .i64 xv.n, .string xv.s, .string name, .int .i64 width, .slice none 0 0]) (by simp [results, Try.results20, go_sem, r0, r1, r2, r3, r4, r5, r6]; try rfl) rfl ⟨⟨2, xv, name, width, none, 0, 0⟩, rfl, ?_, ((((((hB2.setCell hgr2 _).setCell hgr2 _).setCell hgr2 _).setCell hgr2 _).setCell hgr2 _).setCell hgr2 _).setCell hgr2 _⟩
          rw [HT.out]
          unfold Tr.at_
          exact ⟨rfl, rfl, rfl, rfl, rfl, [], .inl rfl, by unfold Tr.all_; rfl⟩
theorem Tr.puts_length (cols : List Col) (row : List Val) : ∀ ts, (Tr.puts cols row ts).length = ts.length
  | [] => by simp [Tr.puts]
  | t :: ts => by simp [Tr.puts, Tr.puts_length cols row ts]
section
variable (cols : List Col) (CA : Option Addr) (cc : Nat) (row : List Val) (RA : Option Addr) (rc : Nat)
mutual
theorem Tr.put_is (hcl : cols.length ≤ 140737488355328) (hrl : row.length ≤ 140737488355328) : ∀ (t : Tr) (y : Ex) (w : World), t.ok → t.at_ w (Old w) y → RC w w.heap.size CA cols → RV w w.heap.size RA row → PutIs w (.slice CA cols.length cc) (.slice RA row.length rc) y (t.put cols row)
  | .mk op v name width args, y, w, hok, hat, hC, hV => by
    intro W hb
    have hat2 := hat.later hb
    unfold Tr.at_ at hat2
    obtain ⟨h1, h2, h3, h4, h5, ys, h6, h7⟩ := hat2
    unfold Tr.ok at hok
    obtain ⟨l, hl1, hl2, hl3⟩ := Tr.puts_is hcl hrl args ys W hok.2.2.2.2.2 h7 (hC.later hb) (hV.later hb)
    obtain ⟨yop, yv, yname, ywidth, yA, yn, yc⟩ := y
    dsimp only at h1 h2 h3 h4 h5 h6
    subst h1 h2 h3 h4 h5
    have hlen : l.length = args.length := by
      have : (l.map (·.2)).length = (Tr.puts cols row args).length := by rw [hl2]
      rw [List.length_map, Tr.puts_length] at this
      exact this
    by_cases hc : yop = 2 ∧ args = []
    · obtain ⟨rfl, rfl⟩ := hc
      exact put_col yv yname ywidth yA yc cols CA cc row RA rc W (hC.later hb) hcl (hV.later hb) hrl
    · have k := put_node yop yv yname ywidth yA yc (.slice CA cols.length cc) (.slice RA row.length rc) l (by
          by_cases ho : yop = 2
          · right; intro h; subst h; exact hc ⟨ho, List.eq_nil_of_length_eq_zero hlen.symm⟩
          · exact .inl ho) W (by rw [hlen]; exact hok.2.1) (by rw [hl1]; exact h6.old) hl3
      rw [hl2, hlen] at k
      have e : (Tr.mk yop yv yname ywidth args).put cols row = .mk yop yv yname ywidth (Tr.puts cols row args) := by
        unfold Tr.put
        rw [if_neg (fun h => hc ⟨h.1, List.eq_nil_of_length_eq_zero h.2.1⟩)]
      rw [e]
      exact k
theorem Tr.puts_is (hcl : cols.length ≤ 140737488355328) (hrl : row.length ≤ 140737488355328) : ∀ (ts : List Tr) (ys : List Ex) (w : World), Tr.oks ts → Tr.all_ w (Old w) ts ys → RC w w.heap.size CA cols → RV w w.heap.size RA row → ∃ l : List (Ex × Tr), l.map (·.1) = ys ∧ l.map (·.2) = Tr.puts cols row ts ∧ ∀ a ∈ l, PutIs w (.slice CA cols.length cc) (.slice RA row.length rc) a.1 a.2
  | [], ys, w, _, hat, _, _ => by
    unfold Tr.all_ at hat
    subst hat
    exact ⟨[], rfl, by simp [Tr.puts], by simp⟩
  | t :: ts, ys, w, hok, hat, hC, hV => by
    unfold Tr.all_ at hat
    unfold Tr.oks at hok
    obtain ⟨y, ys', rfl, h2, h3⟩ := hat
    obtain ⟨l, hl1, hl2, hl3⟩ := Tr.puts_is hcl hrl ts ys' w hok.2 h3 hC hV
    refine ⟨(y, t.put cols row) :: l, by simp [hl1], by simp [hl2, Tr.puts], fun a ha => ?_⟩
    rcases List.mem_cons.1 ha with rfl | ha
    · exact Tr.put_is hcl hrl t y w hok.1 h2 hC hV
    · exact hl3 a ha
end
end
end Go.Proofs.Ytlfahfoffdbpfaa
