/- ValueRows: the walk, first part. -/
import Derived.Test.YtekedkbjnedhgaaDoorRefS
import Derived.Test.YtekedkbjnedhgaaDoorWords1
namespace Go.Proofs.YtekedkbjnedhgaaDoor
open Go.ChangeShapes Go.WideShapes Go.ChangeAt Go.RowKit
set_option linter.unusedVariables false
set_option linter.unusedSimpArgs false
set_option maxRecDepth 100000

/-- an own slice of own rows reads as rows -/
theorem own_rr {w : World} {base : Nat} {ov : Value} {cl : List RowS} (h : OwnF rowCell 29 1 w base ov cl) (hm : Mine w base cl) : ∃ A c, ov = .slice A cl.length c ∧ RR w w.heap.size A cl := by
  obtain ⟨A1, c1, e1, _⟩ := h.reads
  subst e1
  refine ⟨A1, c1, rfl, ?_⟩
  rcases own_cell h with h0 | ⟨g, rfl, hg, _, _, hcell⟩
  · exact .inl h0
  · refine .inr ⟨g, 0, rfl, hg, fun j r hr => ⟨?_, ?_⟩⟩
    · obtain ⟨hj, rfl⟩ := List.getElem?_eq_some_iff.1 hr
      rw [Nat.zero_add]
      exact hcell j hj
    · obtain ⟨A2, c2, e2, e3, _⟩ := rv_own (hm r (List.mem_of_getElem? hr))
      unfold RowS.v at e2
      injection e2 with e2
      subst e2
      exact e3

/-- out's rows, each of which may be written -/
def OutW (base : Nat) (w : World) (A : Option Addr) (out : List RowS) : Prop := ∀ i (hi : i < out.length), ∃ g cs, A = some ⟨g, 0, none⟩ ∧ Blk w g 29 cs ∧ cs[i]? = some (.slice out[i].A out[i].l.length out[i].c) ∧ (out[i].l = [] ∨ ∃ q ds, out[i].A = some ⟨q, 0, none⟩ ∧ base ≤ q ∧ Blk w q 23 ds ∧ 3 * out[i].l.length ≤ ds.size)
theorem OutW.later {base : Nat} {w w' : World} {A : Option Addr} {out : List RowS} (h : OutW base w A out) (hb : Below w.heap.size w w') : OutW base w' A out := by
  intro i hi
  obtain ⟨g, cs, h1, h2, h3, h4⟩ := h i hi
  refine ⟨g, cs, h1, h2.later hb, h3, ?_⟩
  rcases h4 with h4 | ⟨q, ds, h5, h6, h7, h8⟩
  · exact .inl h4
  · exact .inr ⟨q, ds, h5, h6, h7.later hb, h8⟩
theorem OutW.set {base : Nat} {w : World} {A : Option Addr} {out : List RowS} (h : OutW base w A out) {p : Nat} {es : Array Value} (hp : Blk w p 23 es) (j : Nat) (u : Value) : OutW base (w.setCell ⟨p, j, none⟩ u) A out := by
  intro i hi
  obtain ⟨g, cs, h1, h2, h3, h4⟩ := h i hi
  have hne : g ≠ p := fun e => by
    subst e
    unfold Blk at h2 hp
    rw [h2] at hp
    injection hp with hp
    injection hp with _ hp _
    exact absurd hp (by decide)
  refine ⟨g, cs, h1, h2.far (p := ⟨p, j, none⟩) hne u, h3, ?_⟩
  rcases h4 with h4 | ⟨q, ds, h5, h6, h7, h8⟩
  · exact .inl h4
  · refine .inr ⟨q, ?_⟩
    by_cases e : q = p
    · subst e
      exact ⟨_, h5, h6, h7.set_ j u, by simpa using h8⟩
    · exact ⟨ds, h5, h6, h7.far (p := ⟨p, j, none⟩) e u, h8⟩
theorem below_set {base : Nat} {a w : World} (h : Below base a w) (p j : Nat) (hp : base ≤ p) (u : Value) : Below base a (w.setCell ⟨p, j, none⟩ u) := by
  refine ⟨h.os, h.tape, h.output, ?_, fun k hk => ?_⟩
  · have : (w.setCell ⟨p, j, none⟩ u).heap.size = w.heap.size := by simp [World.setCell]
    rw [this]; exact h.size
  · rw [Below.heap_setCell w ⟨p, j, none⟩ u k (by simp; omega)]
    exact h.block k hk
theorem outW_of {base : Nat} {w : World} {A : Option Addr} {out : List RowS} (h : RR w w.heap.size A out) (hm : Mine w base out) (hl : Lies w A out) : OutW base w A out := by
  intro i hi
  rcases hl with hl | ⟨g, cs, rfl, hg⟩
  · subst hl; simp at hi
  · obtain ⟨b, off, e1, _, hc, _⟩ := h.at_ hi
    injection e1 with e1
    injection e1 with e1a e1b _
    subst e1a e1b
    rw [Nat.zero_add, hg.cell i] at hc
    refine ⟨g, cs, rfl, hg, hc, ?_⟩
    rcases (hm _ (List.getElem_mem hi)).2 with ⟨_, h2⟩ | ⟨q, cap, cur, h1, hb, hq, hn, _, hsz, _⟩
    · exact .inl (List.eq_nil_of_length_eq_zero h2)
    · unfold RowS.v at h1
      injection h1 with h1 _ h3
      exact .inr ⟨q, cur, h1, hb, hq, by rw [hsz]; omega⟩

set_option maxHeartbeats 16000000 in
theorem valueRows_any (A : Option Addr) (c : Nat) (rs : List RowS) (w : World) (h : RR w w.heap.size A rs) (hm : rs.length ≤ 140737488355328) (hl : ∀ r ∈ rs, r.l.length ≤ 140737488355328) (ho : ∀ r ∈ rs, ∀ v ∈ r.l, v.Ok) (hE : Env w) :
    Calls Tryd.prog 6 #[.slice A rs.length c] w fun e w' => e = .returned (.bool true) ∧ Below w.heap.size w w' := by
  have HR := Lib.hid h
  have HE := Lib.hid hE
  have HL := Lib.hid hl
  have HOk := Lib.hid ho
  clear h hE hl ho
  go_enter Tryd.func6, Tryd.ntmps6
  go_wp2_with fail
  refine (great_any A c rs w HR.out (by omega) (fun r hr => by have := HL.out r hr; omega)).mono ?_
  rintro e_ w1 ⟨rfl, rfl⟩
  cases hg : greatL rs
  · have hm2 : rs.length ≤ 200 := by
      unfold greatL at hg
      simp only [Bool.or_eq_false_iff, decide_eq_false_iff_not] at hg
      omega
    have HL2 := Lib.hid (show ∀ r ∈ rs, r.l.length ≤ 40 ∧ ∀ v ∈ r.l, v.Small from fun r hr => ⟨(not_great hg hr).1, fun v hv => ⟨HOk.out r hr v hv, (not_great hg hr).2 v hv⟩⟩)
    clear hg HL hm HOk
    obtain ⟨j0, hj0, hy0, hy1, hy2⟩ := info_parts val_info
    have HJ := Lib.hid (And.intro hj0 (And.intro hy0 (And.intro hy1 hy2)))
    clear hj0 hy0 hy1 hy2
    go_wp2_with fail
    go_loopw [3, 4] (fun ov iv wr => ∃ (i : Nat) (cl : List RowS), i ≤ rs.length ∧ iv = .int .i64 i ∧ cl.map (·.l) = (rs.take i).map (·.l) ∧ OwnF rowCell 29 1 wr w1.heap.size ov cl ∧ Mine wr w1.heap.size cl ∧ Below w1.heap.size w1 wr) (fun _ iv _ => rs.length - (intOf iv).toNat)
    case atStart => exact ⟨0, [], Nat.zero_le _, rfl, rfl, OwnF.nil, fun r hr => by simp at hr, Below.refl _ _⟩
    case round =>
      obtain ⟨i, cl, hi, rfl, hcl, hO, hM, hB⟩ := hrel
      have HC := Lib.hid hcl
      have HO := Lib.hid hO
      have HM := Lib.hid hM
      clear hcl hO hM
      by_cases hlt : i < rs.length
      · obtain ⟨b, off, rfl, hb, hcell, hrv⟩ := (HR.out.below hB).at_ hlt
        have HT := Lib.hid (show (rs.take (i + 1)).map (·.l) = (rs.take i).map (·.l) ++ [rs[i].l] by rw [List.take_add_one, List.getElem?_eq_getElem hlt, List.map_append]; rfl)
        have hlr := (HL2.out rs[i] (List.getElem_mem hlt)).1
        have HSm := Lib.hid (HL2.out rs[i] (List.getElem_mem hlt)).2
        have RV5 := Lib.hid (hrv.more hB.size).reads
        clear hrv
        have hcl9 : cl.length = i := by
          have := congrArg List.length HC.out
          simp at this
          omega
        have HC9 := Lib.hid hcl9
        have hc9 : cl.length ≤ 200 := by omega
        clear hcl9
        go_upto_region 8 with (first
          | (at_builtin
             refine wpList_append_any _ rfl (.const (.slice none 0 0)) (.tmp 21) 29 rfl wr.heap.size 23 j0 _ 3 32 Tryd.underlying29 HJ.out.1 HJ.out.2.1 HJ.out.2.2.1 HJ.out.2.2.2 rfl (by omega) (.slice none 0 0) 0 [] rfl ⟨by simp, .inl ⟨rfl, rfl⟩⟩ _ rs[i].A rs[i].l.length rs[i].c (rs[i].l.flatMap valCells) rfl RV5.out (val_one _) (by unfold maxLen; omega) (by omega) (Nat.le_refl _) ?_
             intro v3 w6 o3 g3 _
             have b6 := later_grown g3
             have O3 : OwnF valCells 23 3 w6 wr.heap.size v3 rs[i].l := by
               unfold OwnF
               simpa using o3
             obtain ⟨A3, c3, e3, _⟩ := O3.reads
             subst e3
             have T6 := Lib.hid ((HO.out.later b6).later (later_new w6 (.cells #[.slice A3 rs[i].l.length c3] 29)))
             have G6 := Lib.hid (Blk.new w6 29 #[.slice A3 rs[i].l.length c3])
             have M6 : Mine (w6.alloc (.cells #[.slice A3 rs[i].l.length c3] 29)) w1.heap.size (cl ++ [⟨A3, rs[i].l, c3⟩]) := by
               intro r hr
               rcases List.mem_append.1 hr with hr | hr
               · exact ((HM.out r hr).later b6).later (later_new w6 _)
               · simp at hr
                 subst hr
                 exact (O3.down hB.size).later (later_new w6 _)
             have M6 := Lib.hid M6
             have hB6 := Later.then (Later.then hB b6) (later_new w6 (.cells #[.slice A3 rs[i].l.length c3] 29))
             clear o3 g3 O3)
          | (at_builtin
             refine wpList_append_one (f := rowCell) rfl (.tmp 17) (.tmp 23) 35 rfl _ 24 Tryd.underlying35 row_info rfl (by omega) (⟨A3, rs[i].l, c3⟩ : RowS) rfl (by simp [rowCell, Value.oneCell']) rfl T6.out w6.heap.size rfl G6.out (by omega) (by omega) hB6.size ?_
             intro v4 w7 o4 g4
             have M7 := Lib.hid (M6.out.grown T6.out g4)
             have hB7 := hB6.trans (below_own T6.out g4 hB6.size)
             have O4 := Lib.hid o4
             clear o4 g4))
        clear T6 G6 M6 hB6 b6 HO HM RV5 hcell
        have hN : (cl ++ [(⟨A3, rs[i].l, c3⟩ : RowS)]).map (·.l) = (rs.take (i + 1)).map (·.l) := by
          rw [HT.out, ← HC.out, List.map_append]
          rfl
        have HN := Lib.hid hN
        clear hN
        obtain ⟨b', off', e1, l1, c1, r1⟩ := (HR.out.later hB7).at_ hlt
        injection e1 with e1
        injection e1 with e1a e1b _
        subst e1a e1b
        have k1 := fun q : Ext w7.heap.size w7 => (q.h.cell (p := ⟨b, off + i, none⟩) l1).trans c1
        have hc3 := fun q : Ext w7.heap.size w7 => Line_any rs[i].A rs[i].c rs[i].l q.w (r1.later q.h) (by omega) HSm.out ((HE.out.later hB7).later q.h)
        have hc4 := fun q : Ext w7.heap.size w7 => lineR_any rs[i].A rs[i].c rs[i].l q.w (r1.later q.h) (by omega) HSm.out
        clear c1 l1 r1
        by_cases hi0 : i = 0
        · have t1 : decide ((0 : Int) < (i : Int)) = false := decide_eq_false (by omega)
          have n1 : ¬ 0 < i := by omega
          have t1n := decide_eq_false n1
          clear hi0 n1
          refine region_cut 38 w7.heap.size w7 (Below.refl _ _) (by kernel_rfl) (by kernel_rfl) (by kernel_rfl) (by kernel_rfl) ?_
          simp only [List.append, List.take_succ_cons, List.take_zero, List.drop_succ_cons, List.drop_zero]
          repeat (go_big_quiet_step (fail))
          go_big_quiet_step ((go_at_call 17; exact calls_later (v := .string ⟨(lineL rs[i].l).toArray⟩) (Nat.le_refl _) (hc3 _)))
          repeat (go_big_quiet_step (fail))
          go_big_quiet_step ((go_at_call 19; exact calls_later (v := .string ⟨(lineL rs[i].l).toArray⟩) (Nat.le_refl _) (hc4 _)))
          repeat (go_big_quiet_step (fail))
          refine wpQuiet_nil ?_
          rintro W8 ⟨x9, hx9⟩
          have hW := x9.h
          rw [← hx9] at hW
          clear hx9 x9
          go_wp2_with fail
          exact ⟨⟨i + 1, _, hlt, by go_num, HN.out, O4.out.later hW, M7.out.later hW, Later.then hB7 hW⟩, by simp [intOf]; omega⟩
        · obtain ⟨ip, hip⟩ : ∃ q, i = q + 1 := ⟨i - 1, by omega⟩
          have hlp : ip < rs.length := by omega
          have HIP := Lib.hid hip
          have zp : (i : Int) - 1 = (ip : Int) := by omega
          have t1 : decide ((0 : Int) < (i : Int)) = true := decide_eq_true (by omega)
          have t1n : decide (0 < i) = true := decide_eq_true (by omega)
          obtain ⟨b', off', e1, l2, c2, r2⟩ := (HR.out.later hB7).at_ hlp
          injection e1 with e1
          injection e1 with e1a e1b _
          subst e1a e1b
          obtain ⟨b', off', e1, _, _, r1⟩ := (HR.out.later hB7).at_ hlt
          have hlp40 := (HL2.out rs[ip] (List.getElem_mem hlp)).1
          have k2 := fun q : Ext w7.heap.size w7 => (q.h.cell (p := ⟨b, off + ip, none⟩) l2).trans c2
          have hc1 := fun q : Ext w7.heap.size w7 => rows_any rs[ip].A rs[ip].c rs[ip].l rs[i].A rs[i].c rs[i].l q.w (r2.later q.h) (r1.later q.h) (by omega) (by omega)
          have hc2 := fun q : Ext w7.heap.size w7 => rowsR_any rs[ip].A rs[ip].c rs[ip].l rs[i].A rs[i].c rs[i].l q.w (r2.later q.h) (r1.later q.h) (by omega) (by omega)
          clear hi0 hip e1 c2 l2 r1 r2
          refine region_cut 38 w7.heap.size w7 (Below.refl _ _) (by kernel_rfl) (by kernel_rfl) (by kernel_rfl) (by kernel_rfl) ?_
          simp only [List.append, List.take_succ_cons, List.take_zero, List.drop_succ_cons, List.drop_zero]
          repeat (go_big_quiet_step (fail))
          go_big_quiet_step ((go_at_call 16; exact calls_later (Nat.le_refl _) (hc1 _)))
          repeat (go_big_quiet_step (fail))
          go_big_quiet_step ((go_at_call 18; exact calls_later (Nat.le_refl _) (hc2 _)))
          repeat (go_big_quiet_step (fail))
          go_big_quiet_step ((go_at_call 17; exact calls_later (v := .string ⟨(lineL rs[i].l).toArray⟩) (Nat.le_refl _) (hc3 _)))
          repeat (go_big_quiet_step (fail))
          go_big_quiet_step ((go_at_call 19; exact calls_later (v := .string ⟨(lineL rs[i].l).toArray⟩) (Nat.le_refl _) (hc4 _)))
          repeat (go_big_quiet_step (fail))
          refine wpQuiet_nil ?_
          rintro W8 ⟨x9, hx9⟩
          have hW := x9.h
          rw [← hx9] at hW
          clear hx9 x9
          go_wp2_with fail
          exact ⟨⟨i + 1, _, hlt, by go_num, HN.out, O4.out.later hW, M7.out.later hW, Later.then hB7 hW⟩, by simp [intOf]; omega⟩
      · have hie : i = rs.length := by omega
        subst hie
        rw [List.take_length] at HC
        obtain ⟨A1, c1, e1, hRR⟩ := own_rr HO.out HM.out
        subst e1
        have hcl : cl.length = rs.length := by simpa using congrArg List.length HC.out
        have hcl9 : cl.length ≤ 200 := by omega
        have HLC := Lib.hid (show ∀ r ∈ cl, r.l.length ≤ 1000 from fun r hr => by
          have h1 : r.l ∈ cl.map (·.l) := List.mem_map.2 ⟨r, hr, rfl⟩
          rw [HC.out] at h1
          obtain ⟨r', h2, h3⟩ := List.mem_map.1 h1
          rw [← h3]; have := (HL2.out r' h2).1; omega)
        have HLR := Lib.hid (show ∀ r ∈ rs, r.l.length ≤ 1000 from fun r hr => by have := (HL2.out r hr).1; omega)
        have HIN := Lib.hid hRR
        have HLEN := Lib.hid hcl
        clear hRR hcl HO HM
        go_wp2_with fail
        refine (sort_any A1 c1 cl _ HIN.out (by omega) HLC.out).mono ?_
        rintro e_ w2 ⟨A2, c2, out, rfl, hp, hso, hRO, ⟨hMO, hLi⟩, b2⟩
        have HLI := Lib.hid hLi
        clear hLi
        have HMO := Lib.hid hMO
        have HRO := Lib.hid hRO
        have HLO := Lib.hid (show ∀ r ∈ out, r.l.length ≤ 1000 from fun r hr => by
          have h1 : r.l ∈ cl.map (·.l) := hp.mem_iff.1 (List.mem_map.2 ⟨r, hr, rfl⟩)
          obtain ⟨r', h2, h3⟩ := List.mem_map.1 h1
          rw [← h3]; exact HLC.out r' h2)
        have hlo : out.length ≤ 200 := by
          have := hp.length_eq
          simp at this
          omega
        have HPS := Lib.hid (And.intro hp hso)
        clear hp hso hMO hRO
        go_wp2_with fail
        refine (sortR_any A c rs _ ((HR.out.later hB).later b2) (by omega) HLR.out).mono ?_
        rintro e_ w3 ⟨A3, c3, ref, rfl, hp3, hso3, hR3, _, b3⟩
        have heq : out.map (·.l) = ref.map (·.l) := perm_sorted (map_pairwise HPS.out.2) (map_pairwise hso3) (HPS.out.1.trans (by rw [HC.out]; exact hp3.symm))
        have HEQ := Lib.hid heq
        have HR3 := Lib.hid hR3
        clear heq hp3 hso3 hR3
        go_wp2_with fail
        refine (all_yes A2 c2 out A3 c3 ref _ (HRO.out.later b3) HR3.out HEQ.out (by omega) HLO.out).mono ?_
        rintro e_ w4 ⟨rfl, b4⟩
        go_wp2_with fail
        refine (all_yes A1 c1 cl A c rs _ (((HIN.out.later b2).later b3).later b4) ((((HR.out.later hB).later b2).later b3).later b4) HC.out (by omega) HLC.out).mono ?_
        rintro e_ w5 ⟨rfl, b5⟩
        have HW5 := Lib.hid ((((outW_of HRO.out HMO.out HLI.out).later b3).later b4).later b5)
        have HB5 := Later.then (Later.then (Later.then b2 b3) b4) b5
        clear HRO HMO HLI HR3 HEQ HPS b2 b3 b4 b5
        go_wp2_with fail
        obtain ⟨wo, rfl⟩ : ∃ q, q = wr := ⟨_, rfl⟩
        go_loopw [6] (fun iv wr2 => ∃ i : Nat, i ≤ out.length ∧ iv = .int .i64 i ∧ OutW wo.heap.size wr2 A2 out ∧ Below wo.heap.size wo wr2) (fun iv _ => out.length - (intOf iv).toNat)
        case atStart => exact ⟨0, Nat.zero_le _, rfl, HW5.out, HB5⟩
        case round =>
          clear HW5 HB5
          obtain ⟨i, hi, rfl, hw, hb2⟩ := hrel
          have HW := Lib.hid hw
          clear hw
          by_cases hlt2 : i < out.length
          · have hl1 := HLO.out out[i] (List.getElem_mem hlt2)
            obtain ⟨g, cs, rfl, _, _, _⟩ := HW.out i hlt2
            go_wp2_with fail
            go_loopw [7] (fun kv wr3 => ∃ k : Nat, k ≤ out[i].l.length ∧ kv = .int .i64 k ∧ OutW wo.heap.size wr3 (some ⟨g, 0, none⟩) out ∧ Below wo.heap.size wo wr3) (fun kv _ => out[i].l.length - (intOf kv).toNat)
            case atStart => exact ⟨0, Nat.zero_le _, rfl, HW.out, hb2⟩
            case round =>
              clear HW hb2
              obtain ⟨k, hk, rfl, hw, hb2⟩ := hrel
              have HW := Lib.hid hw
              clear hw
              obtain ⟨g', cs', e1, hg, hci, hrow⟩ := HW.out i hlt2
              injection e1 with e1
              injection e1 with e1
              subst e1
              have hc := (hg.cell i).trans hci
              by_cases hlt3 : k < out[i].l.length
              · rcases hrow with hrow | ⟨q, ds, hA, hq, hblk, hsz⟩
                · rw [hrow] at hlt3; simp at hlt3
                rw [hA] at hc
                have x1 := fun x : Ext wr.heap.size wr => (x.h.cell (p := ⟨g, i, none⟩) hg.lt).trans hc
                have hnum := fun x : Ext wr.heap.size wr => number_any 99 x.w
                unfold valV num at hnum
                go_upto_region 19 with fail
                refine region_cut 6 wr.heap.size wr (Below.refl _ _) (by kernel_rfl) (by kernel_rfl) (by kernel_rfl) (by kernel_rfl) ?_
                simp only [List.append, List.take_succ_cons, List.take_zero, List.drop_succ_cons, List.drop_zero]
                repeat (go_big_quiet_step (fail))
                go_big_quiet_step ((go_at_call 23; exact calls_later (Nat.le_refl _) (hnum _)))
                repeat (go_big_quiet_step (fail))
                refine wpQuiet_nil ?_
                rintro W4 ⟨x9, hx9⟩
                have hW := x9.h
                rw [← hx9] at hW
                clear hx9 x9 x1 hnum
                have hbk := hblk.later hW
                have HW4 := HW.out.later hW
                have hB4 := hb2.trans (hW.mono hb2.size)
                have s0 : ∃ u, ds[k * 3]? = some u := ⟨ds[k * 3]'(by omega), Array.getElem?_eq_getElem _⟩
                have hk1 := hbk.set_ (k * 3) (.int .u8 2)
                have hk2 := hk1.set_ (k * 3 + 1) (.int .i64 99)
                have hk3 := hk2.set_ (k * 3 + 2) (.string ByteArray.empty)
                have some_of : ∀ {es : Array Value} {j : Nat}, j < es.size → ∃ u, es[j]? = some u := fun h => ⟨_, Array.getElem?_eq_getElem h⟩
                obtain ⟨u0, e0⟩ := some_of (es := ds) (j := k * 3) (by omega)
                obtain ⟨u1, e1⟩ := some_of (es := ds.setIfInBounds (k * 3) (.int .u8 2)) (j := k * 3 + 1) (by simp; omega)
                obtain ⟨u2, e2⟩ := some_of (es := (ds.setIfInBounds (k * 3) (.int .u8 2)).setIfInBounds (k * 3 + 1) (.int .i64 99)) (j := k * 3 + 2) (by simp; omega)
                have z0 := (hbk.cell (k * 3)).trans e0
                have z1 := (hk1.cell (k * 3 + 1)).trans e1
                have z2 := (hk2.cell (k * 3 + 2)).trans e2
                have f0 := hbk.frozen (k * 3)
                have f1 := hk1.frozen (k * 3 + 1)
                have f2 := hk2.frozen (k * 3 + 2)
                have HF := Lib.hid (And.intro (((HW4.set hbk (k * 3) (.int .u8 2)).set hk1 (k * 3 + 1) (.int .i64 99)).set hk2 (k * 3 + 2) (.string ByteArray.empty)) (below_set (below_set (below_set hB4 q (k * 3) hq (.int .u8 2)) q (k * 3 + 1) hq (.int .i64 99)) q (k * 3 + 2) hq (.string ByteArray.empty)))
                clear e0 e1 e2 s0 some_of hk1 hk2 hk3 HW4 hB4 hbk
                go_wp2_with fail
                exact ⟨⟨k + 1, hlt3, by go_num, HF.out.1, HF.out.2⟩, by simp [intOf]; omega⟩
              · go_wp2_with fail
                exact ⟨⟨i + 1, hlt2, by go_num, HW.out, hb2⟩, by simp [intOf]; omega⟩
          · go_wp2_with fail
            refine (all_yes A1 c1 cl A c rs _ ((HIN.out.later hb2)) ((HR.out.later hB).later hb2) HC.out (by omega) HLC.out).mono ?_
            rintro e_ w7 ⟨rfl, b7⟩
            go_wp2_with fail
            refine (wakes_any _ (((HE.out.later hB).later hb2).later b7)).mono ?_
            rintro e_ w9 ⟨rfl, b9⟩
            go_wp2_with fail
            go_ret
            exact ⟨rfl, Later.then hB (Later.then (Later.then hb2 b7) b9)⟩
  · clear hg
    go_wp2_with fail
    refine (wakes_any _ HE.out).mono ?_
    rintro e_ w9 ⟨rfl, b9⟩
    go_wp2_with fail
    go_ret
    exact ⟨rfl, b9⟩
end Go.Proofs.YtekedkbjnedhgaaDoor
