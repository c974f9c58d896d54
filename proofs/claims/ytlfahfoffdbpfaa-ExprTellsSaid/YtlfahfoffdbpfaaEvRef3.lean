/- tidelineref15.Eval: and. Printed by gen_evref.py. -/
import Derived.Test.YtlfahfoffdbpfaaEvRef2
import Derived.Test.YtlfahfoffdbpfaaSound
namespace Go.Proofs.Ytlfahfoffdbpfaa
open Go.ChangeShapes Go.WideShapes Go.ChangeAt Go.RowKit
set_option linter.unusedVariables false
set_option linter.unusedSimpArgs false

set_option maxHeartbeats 4000000 in
set_option maxRecDepth 100000 in
theorem evref_and (op : Int) (xv : Val) (name : ByteArray) (width : Int) (A : Option Addr) (c : Nat) (cV rV : Value) (args : List (Ex × Val)) (hop : 0 ≤ op ∧ op ≤ 255) (hfb : formB ⟨op, xv, name, width, A, args.length, c⟩ = true) (hag : isAgg op = false) (h1 : (op == 1) = false) (h2 : (op == 2) = false) (h3 : (op == 18) = false) (h4 : (op == 19) = false) (h5 : op = 16) (hw1 : wantsR op = 1) (hlen : args.length = 2) (hgd : ∀ a ∈ args, good a.2 = true) (hal : (args.all fun a => goesR a.2.k (wantsR op)) = true) (w : World) (hl : args.length ≤ 1599289640356) (hA : RE w w.heap.size A (args.map (·.1))) (hE : ∀ a ∈ args, EvRefIs w cV rV a.1 a.2 0) :
    Calls Try.prog 25 #[.agg #[.int .u8 op, .int .u8 xv.k, .int .i64 xv.n, .string xv.s, .string name, .int .i64 width, .slice A args.length c], cV, rV] w fun en w' => en = .returned (ansV (logicT false (args.map (·.2))) (0)) ∧ Below w.heap.size w w' := by
  have HOP := Lib.hid hop
  have HA := Lib.hid hA
  have HE := Lib.hid hE
  clear hA hE hop
  have HFB := Lib.hid hfb
  clear hfb
  have HAG := Lib.hid hag
  clear hag
  have H1 := Lib.hid h1
  have H2 := Lib.hid h2
  clear h1 h2
  have H3 := Lib.hid h3
  have H4 := Lib.hid h4
  clear h3 h4
  have HAL := Lib.hid hal
  clear hal
  have H5 := Lib.hid h5
  have HW1 := Lib.hid hw1
  have HLEN := Lib.hid hlen
  have HGD := Lib.hid hgd
  clear h5 hw1 hlen hgd
  go_enter Try.func25, Try.ntmps25
  have hX := (Blk.new w 36 #[.int .u8 op, .int .u8 xv.k, .int .i64 xv.n, .string xv.s, .string name, .int .i64 width, .slice A args.length c]).alloc (.cells #[.int .u8 0, .int .i64 0, .string ⟨#[]⟩] 23)
  have hR := Blk.new (w.alloc (.cells #[.int .u8 op, .int .u8 xv.k, .int .i64 xv.n, .string xv.s, .string name, .int .i64 width, .slice A args.length c] 36)) 23 #[.int .u8 0, .int .i64 0, .string ⟨#[]⟩]
  rw [World.size_alloc] at hR
  have hB := Later.then (later_new w (.cells #[.int .u8 op, .int .u8 xv.k, .int .i64 xv.n, .string xv.s, .string name, .int .i64 width, .slice A args.length c] 36)) (later_new _ (.cells #[.int .u8 0, .int .i64 0, .string ⟨#[]⟩] 23))
  go_wp2_with fail
  generalize (w.alloc (.cells #[.int .u8 op, .int .u8 xv.k, .int .i64 xv.n, .string xv.s, .string name, .int .i64 width, .slice A args.length c] 36)).alloc (.cells #[.int .u8 0, .int .i64 0, .string ⟨#[]⟩] 23) = W at *
  have hgw : w.heap.size ≤ w.heap.size + 1 := by omega
  generalize w.heap.size + 1 = gR at *
  go_loopw [8, 9, 10] (fun lv nv i wr => ∃ k : Nat, k ≤ args.length ∧ i = .int .i64 k ∧ OwnF valCells 23 3 wr W.heap.size lv ((args.take k).map (·.2)) ∧ nv = .bool ((args.take k).any (·.2.k == 0)) ∧ Below W.heap.size W wr) (fun _ _ i _ => args.length - (intOf i).toNat)
  case atStart => exact ⟨0, Nat.zero_le _, rfl, OwnF.nil, rfl, Below.refl _ _⟩
  case round =>
    obtain ⟨k, hk, rfl, hO, rfl, hb⟩ := hrel
    have HO := Lib.hid hO
    clear hO
    generalize hnl : (args.take k).any (·.2.k == 0) = nl
    have HNL := Lib.hid hnl
    clear hnl
    rcases Nat.lt_or_ge k args.length with hlt | hge
    · obtain ⟨b, off, rfl, hbb, hex⟩ := (HA.out.below (hB.trans (hb.mono hB.size))).at_ (show k < (args.map (·.1)).length by simpa using hlt)
      have he1 : (args.map (·.1))[k]'(by simpa using hlt) = args[k].1 := by simp
      rw [he1] at hex
      clear he1
      have hev := HE.out args[k] (List.getElem_mem hlt)
      have HT := Lib.hid (show args.take (k + 1) = args.take k ++ [args[k]] by rw [List.take_add_one, List.getElem?_eq_getElem hlt]; rfl)
      generalize args[k] = yv at *
      obtain ⟨y, v⟩ := yv
      dsimp only at *
      unfold ExAt at hex
      have x6 := (hX.later hb).cell 6
      simp only [List.getElem?_toArray, List.getElem?_cons_zero, List.getElem?_cons_succ] at x6
      go_wp2_with fail
      clear x6
      refine (hev wr (hB.trans (hb.mono hB.size))).mono ?_
      rintro e w1 ⟨rfl, b1⟩
      unfold ansV
      have b4 := Later.then b1 (Later.then (later_new w1 (.cells #[.int .u8 v.k, .int .i64 v.n, .string v.s] 23)) (later_new _ (.cells #[.int .u8 v.k, .int .i64 v.n, .string v.s] 23)))
      have hQ := Blk.new (w1.alloc (.cells #[.int .u8 v.k, .int .i64 v.n, .string v.s] 23)) 23 #[.int .u8 v.k, .int .i64 v.n, .string v.s]
      rw [World.size_alloc] at hQ
      have HQ := Lib.hid hQ
      replace HO := Lib.hid (HO.out.later b4)
      replace hb := Later.then hb b4
      have hbase := hb.size
      have hlenv : ((args.take k).map (·.2)).length ≤ 1599289640356 := by simp; omega
      clear b1 b4 hQ hex hev
      cases nl
      · cases hvk : (v.k == 0)
        · go_wp2_with (first
            | (at_builtin
               refine wpList_append_one rfl (.tmp 50) (.tmp 52) 40 rfl _ 32 Try.underlying40 val_info rfl (by omega) v rfl (by simp [valCells, Value.oneCell']) rfl HO.out (w1.heap.size + 1) rfl HQ.out (by omega) (by omega) hbase ?_
               intro v4 w4 o4 g4
               have b5 := below_own HO.out g4 hbase
               have O4 := Lib.hid o4
               clear o4 g4 HQ HO))
          go_roundw
          case rel =>
            refine ⟨k + 1, by omega, by go_num, ?_, ?_, hb.trans b5⟩
            · rw [HT.out, List.map_append]; exact O4.out
            · rw [HT.out, List.any_append, HNL.out]; simp [hvk]
          case measure => simp [intOf]; omega
        · go_wp2_with (first
            | (at_builtin
               refine wpList_append_one rfl (.tmp 50) (.tmp 52) 40 rfl _ 32 Try.underlying40 val_info rfl (by omega) v rfl (by simp [valCells, Value.oneCell']) rfl HO.out (w1.heap.size + 1) rfl HQ.out (by omega) (by omega) hbase ?_
               intro v4 w4 o4 g4
               have b5 := below_own HO.out g4 hbase
               have O4 := Lib.hid o4
               clear o4 g4 HQ HO))
          go_roundw
          case rel =>
            refine ⟨k + 1, by omega, by go_num, ?_, ?_, hb.trans b5⟩
            · rw [HT.out, List.map_append]; exact O4.out
            · rw [HT.out, List.any_append, HNL.out]; simp [hvk]
          case measure => simp [intOf]; omega
      · go_wp2_with (first
          | (at_builtin
             refine wpList_append_one rfl (.tmp 50) (.tmp 52) 40 rfl _ 32 Try.underlying40 val_info rfl (by omega) v rfl (by simp [valCells, Value.oneCell']) rfl HO.out (w1.heap.size + 1) rfl HQ.out (by omega) (by omega) hbase ?_
             intro v4 w4 o4 g4
             have b5 := below_own HO.out g4 hbase
             have O4 := Lib.hid o4
             clear o4 g4 HQ HO))
        go_roundw
        case rel =>
          refine ⟨k + 1, by omega, by go_num, ?_, ?_, hb.trans b5⟩
          · rw [HT.out, List.map_append]; exact O4.out
          · rw [HT.out, List.any_append, HNL.out]; simp 
        case measure => simp [intOf]; omega
    · have htk : args.take k = args := List.take_of_length_le hge
      rw [htk] at HO HNL
      clear htk
      obtain ⟨A8, c8, hu8, hRV⟩ := own_rv HO.out
      rw [List.length_map] at hu8
      subst hu8
      have hX2 := hX.later hb
      have hR2 := hR.later hb
      have hB2 := Later.then hB hb
      have HRV := Lib.hid hRV
      clear HO hX hR hB hRV hb
      have x0 := hX2.cell 0
      have x1 := hX2.cell 1
      have x2 := hX2.cell 2
      have x3 := hX2.cell 3
      have x4 := hX2.cell 4
      have x5 := hX2.cell 5
      have x6 := hX2.cell 6
      simp only [List.getElem?_toArray, List.getElem?_cons_zero, List.getElem?_cons_succ] at x0 x1 x2 x3 x4 x5 x6
      go_wp2_with fail
      clear x0 x1 x2 x3 x4 x5 x6
      refine (formR_any ⟨op, xv, name, width, A, args.length, c⟩ HOP.out.1 HOP.out.2 _).mono ?_
      rintro e w1 ⟨rfl, b1⟩
      rw [HFB.out]
      replace HRV := Lib.hid (HRV.out.later b1)
      replace hX2 := hX2.later b1
      replace hR2 := hR2.later b1
      replace hB2 := Later.then hB2 b1
      clear b1
      have x0 := hX2.cell 0
      have x1 := hX2.cell 1
      have x2 := hX2.cell 2
      have x3 := hX2.cell 3
      have x4 := hX2.cell 4
      have x5 := hX2.cell 5
      have x6 := hX2.cell 6
      simp only [List.getElem?_toArray, List.getElem?_cons_zero, List.getElem?_cons_succ] at x0 x1 x2 x3 x4 x5 x6
      go_wp2_with fail
      refine (isR_any op HOP.out.1 HOP.out.2 _).mono ?_
      rintro e w2 ⟨rfl, rfl⟩
      rw [HAG.out]
      have t1 := H1.out
      have t2 := H2.out
      have t3 := H3.out
      have t4 := H4.out
      go_wp2_with fail
      clear t1 t2 t3 t4
      clear x0 x1 x2 x3 x4 x5 x6
      refine (wantsR_any op HOP.out.1 HOP.out.2 _).mono ?_
      rintro e w2 ⟨rfl, rfl⟩
      go_wp2_with fail
      go_loop [15] (fun i => ∃ j : Nat, j ≤ args.length ∧ i = .int .i64 j ∧ (args.all fun a => goesR a.2.k (wantsR op)) = ((args.drop j).all fun a => goesR a.2.k (wantsR op))) (fun i => args.length - (intOf i).toNat)
      case atStart => exact ⟨0, Nat.zero_le _, rfl, rfl⟩
      case round =>
        obtain ⟨j, hj, rfl, hall⟩ := hrel
        have HALL := Lib.hid hall
        clear hall
        rcases Nat.lt_or_ge j args.length with hlt | hge2
        · obtain ⟨b, off, rfl, hbb, hval⟩ := HRV.out.at_ (show j < (args.map (·.2)).length by simpa using hlt)
          have he1 : (args.map (·.2))[j]'(by simpa using hlt) = args[j].2 := by simp
          rw [he1] at hval
          clear he1
          have HD := Lib.hid (show args.drop j = args[j] :: args.drop (j + 1) from List.drop_eq_getElem_cons hlt)
          generalize args[j] = yv at *
          obtain ⟨y, v⟩ := yv
          dsimp only at *
          unfold ValAt at hval
          have hgo := goesR_any v.k (wantsR op)
          cases hg : goesR v.k (wantsR op)
          · exfalso
            have h9 := HAL.out
            rw [HALL.out, HD.out] at h9
            simp [hg] at h9
          · rw [hg] at hgo
            go_wp2_with fail
            refine (hgo _).mono ?_
            rintro e w3 ⟨rfl, rfl⟩
            go_wp2_with fail
            go_round
            case rel =>
              refine ⟨j + 1, hlt, by go_num, ?_⟩
              rw [HALL.out, HD.out]
              simp [hg]
            case measure => simp [intOf]; omega
        · obtain ⟨⟨y1, v1⟩, ⟨y2, v2⟩, rfl⟩ := len2 HLEN.out
          have hrv := HRV.out
          simp only [List.map_cons, List.map_nil] at hrv
          obtain ⟨b, off, rfl, hbb, hv1, hv2⟩ := hrv.two
          clear hrv HRV
          have hj2 : 2 ≤ j := by simpa using hge2
          clear hge2 hge hk
          have ha := HAL.out
          rw [HW1.out] at ha
          simp only [List.all_cons, List.all_nil, Bool.and_true, Bool.and_eq_true] at ha
          have g1 := HGD.out _ (List.mem_cons_self ..)
          have g2 := HGD.out (y2, v2) (by simp)
          dsimp only at g1 g2
          have C1 := Lib.hid (tri_cases g1 ha.1)
          have C2 := Lib.hid (tri_cases g2 ha.2)
          clear ha g1 g2
          have t16 : (op == 16) = true := by have := H5.out; rw [this]; rfl
          have t17 : (op == 17) = false := by have := H5.out; rw [this]; rfl
          have x0 := hX2.cell 0
          have x1 := hX2.cell 1
          have x2 := hX2.cell 2
          have x3 := hX2.cell 3
          have x4 := hX2.cell 4
          have x5 := hX2.cell 5
          have x6 := hX2.cell 6
          simp only [List.getElem?_toArray, List.getElem?_cons_zero, List.getElem?_cons_succ] at x0 x1 x2 x3 x4 x5 x6
          go_wp2_with fail
          refine (truthR_any false _).mono ?_
          rintro e w3 ⟨rfl, b3⟩
          clear x0 x1 x2 x3 x4 x5 x6
          replace hX2 := hX2.later b3
          replace hR2 := hR2.later b3
          replace hB2 := Later.then hB2 b3
          replace hv1 := hv1.keep (w' := w3) fun o => b3.cell (p := ⟨b, o, none⟩) hbb
          replace hv2 := hv2.keep (w' := w3) fun o => b3.cell (p := ⟨b, o, none⟩) hbb
          replace hbb := Nat.lt_of_lt_of_le hbb b3.size
          clear b3
          unfold valV boolV
          simp only [↓reduceIte, Bool.false_eq_true]
          go_wp2_with fail
          have hS := Blk.new w3 23 #[.int .u8 1, .int .i64 0, .string ByteArray.empty]
          have b5 := later_new w3 (.cells #[.int .u8 1, .int .i64 0, .string ByteArray.empty] 23)
          replace hX2 := hX2.later b5
          replace hR2 := hR2.later b5
          replace hB2 := Later.then hB2 b5
          replace hv1 := hv1.keep (w' := w3.alloc (.cells #[.int .u8 1, .int .i64 0, .string ByteArray.empty] 23)) fun o => b5.cell (p := ⟨b, o, none⟩) hbb
          replace hv2 := hv2.keep (w' := w3.alloc (.cells #[.int .u8 1, .int .i64 0, .string ByteArray.empty] 23)) fun o => b5.cell (p := ⟨b, o, none⟩) hbb
          replace hbb := Nat.lt_of_lt_of_le hbb b5.size
          clear b5
          generalize w3.alloc (.cells #[.int .u8 1, .int .i64 0, .string ByteArray.empty] 23) = W5 at *
          generalize w3.heap.size = g5 at *
          have z1 := fun z : Ext W5.heap.size W5 => (hv1.keep (w' := z.w) fun o => z.h.cell (p := ⟨b, o, none⟩) hbb)
          have z2 := fun z : Ext W5.heap.size W5 => (hv2.keep (w' := z.w) fun o => z.h.cell (p := ⟨b, o, none⟩) hbb)
          unfold ValAt at z1 z2
          have zS := fun z : Ext W5.heap.size W5 => val_cells (hS.later z.h)
          have HNL2 := HNL.out
          simp only [List.any_cons, List.any_nil, Bool.or_false] at HNL2
          have HNL3 := Lib.hid HNL2
          clear HNL2 HNL
          rcases C1.out with ⟨p1, p2, p3, p4⟩ | ⟨p1, p2, p3, p3b, p4⟩ | ⟨p1, p2, p3, p3b, p4⟩
          · rcases C2.out with ⟨q1, q2, q3, q4⟩ | ⟨q1, q2, q3, q3b, q4⟩ | ⟨q1, q2, q3, q3b, q4⟩
            · have hnl : nl = true := by have h9 := HNL3.out; rw [← h9, p1, q1]; rfl
              subst hnl
              have HQ := Lib.hid (logic_null (short := false) (v1 := v1) (v2 := v2) (veq_no1 (k := 1) p2) (veq_no1 (k := 1) q2) (.inl (veq_yes (k := 0) (n := 0) p1 p3 p4)))
              clear HNL3 C1 C2
              refine region_cut 12 W5.heap.size W5 (Below.refl _ _) (by kernel_rfl) (by kernel_rfl) (by kernel_rfl) (by kernel_rfl) ?_
              simp only [List.take_succ_cons, List.take_zero, List.drop_succ_cons, List.drop_zero]
              repeat (go_big_quiet_step (fail))
              refine wpQuiet_nil ?_
              rintro V4 ⟨x9, hx9⟩
              have hW := x9.h
              rw [← hx9] at hW
              clear hx9 x9
              clear z1 z2 zS
              replace hX2 := hX2.later hW
              replace hR2 := hR2.later hW
              replace hB2 := Later.then hB2 hW
              replace hS := hS.later hW
              have s0 := val_cells hS
              have hR1 := val_cells hR2
              have hR3 := Blk.frozen hR2
              go_wp2_with fail
              exact bodyPost_ret (v := .tuple #[.agg #[.int .u8 0, .int .i64 0, .string ByteArray.empty], .int .i64 0]) (by simp [results, Try.results25, go_sem, hR1]; try rfl) rfl ⟨by show _ = Ending.returned (ansV (logicT false [v1, v2]) 0); rw [HQ.out]; rfl, ((hB2.setCell hgw _).setCell hgw _).setCell hgw _⟩
            · have HQ := Lib.hid (logic_hit (short := false) (v1 := v1) (v2 := v2) (.inr (veq_yes (k := 1) q2 q3 q4)))
              clear HNL3 C1 C2
              refine region_cut 12 W5.heap.size W5 (Below.refl _ _) (by kernel_rfl) (by kernel_rfl) (by kernel_rfl) (by kernel_rfl) ?_
              simp only [List.take_succ_cons, List.take_zero, List.drop_succ_cons, List.drop_zero]
              repeat (go_big_quiet_step (fail))
              refine wpQuiet_nil ?_
              rintro V4 ⟨x9, hx9⟩
              have hW := x9.h
              rw [← hx9] at hW
              clear hx9 x9
              clear z1 z2 zS
              replace hX2 := hX2.later hW
              replace hR2 := hR2.later hW
              replace hB2 := Later.then hB2 hW
              replace hS := hS.later hW
              have s0 := val_cells hS
              have hR1 := val_cells hR2
              have hR3 := Blk.frozen hR2
              go_wp2_with fail
              exact bodyPost_ret (v := .tuple #[.agg #[.int .u8 1, .int .i64 0, .string ByteArray.empty], .int .i64 0]) (by simp [results, Try.results25, go_sem, hR1]; try rfl) rfl ⟨by show _ = Ending.returned (ansV (logicT false [v1, v2]) 0); rw [HQ.out]; rfl, ((hB2.setCell hgw _).setCell hgw _).setCell hgw _⟩
            · have hnl : nl = true := by have h9 := HNL3.out; rw [← h9, p1, q1]; rfl
              subst hnl
              have HQ := Lib.hid (logic_null (short := false) (v1 := v1) (v2 := v2) (veq_no1 (k := 1) p2) (veq_no2 (k := 1) q3) (.inl (veq_yes (k := 0) (n := 0) p1 p3 p4)))
              clear HNL3 C1 C2
              refine region_cut 12 W5.heap.size W5 (Below.refl _ _) (by kernel_rfl) (by kernel_rfl) (by kernel_rfl) (by kernel_rfl) ?_
              simp only [List.take_succ_cons, List.take_zero, List.drop_succ_cons, List.drop_zero]
              repeat (go_big_quiet_step (fail))
              refine wpQuiet_nil ?_
              rintro V4 ⟨x9, hx9⟩
              have hW := x9.h
              rw [← hx9] at hW
              clear hx9 x9
              clear z1 z2 zS
              replace hX2 := hX2.later hW
              replace hR2 := hR2.later hW
              replace hB2 := Later.then hB2 hW
              replace hS := hS.later hW
              have s0 := val_cells hS
              have hR1 := val_cells hR2
              have hR3 := Blk.frozen hR2
              go_wp2_with fail
              exact bodyPost_ret (v := .tuple #[.agg #[.int .u8 0, .int .i64 0, .string ByteArray.empty], .int .i64 0]) (by simp [results, Try.results25, go_sem, hR1]; try rfl) rfl ⟨by show _ = Ending.returned (ansV (logicT false [v1, v2]) 0); rw [HQ.out]; rfl, ((hB2.setCell hgw _).setCell hgw _).setCell hgw _⟩
          · have HQ := Lib.hid (logic_hit (short := false) (v1 := v1) (v2 := v2) (.inl (veq_yes (k := 1) p2 p3 p4)))
            clear HNL3 C1 C2
            refine region_cut 12 W5.heap.size W5 (Below.refl _ _) (by kernel_rfl) (by kernel_rfl) (by kernel_rfl) (by kernel_rfl) ?_
            simp only [List.take_succ_cons, List.take_zero, List.drop_succ_cons, List.drop_zero]
            repeat (go_big_quiet_step (fail))
            refine wpQuiet_nil ?_
            rintro V4 ⟨x9, hx9⟩
            have hW := x9.h
            rw [← hx9] at hW
            clear hx9 x9
            clear z1 z2 zS
            replace hX2 := hX2.later hW
            replace hR2 := hR2.later hW
            replace hB2 := Later.then hB2 hW
            replace hS := hS.later hW
            have s0 := val_cells hS
            have hR1 := val_cells hR2
            have hR3 := Blk.frozen hR2
            go_wp2_with fail
            exact bodyPost_ret (v := .tuple #[.agg #[.int .u8 1, .int .i64 0, .string ByteArray.empty], .int .i64 0]) (by simp [results, Try.results25, go_sem, hR1]; try rfl) rfl ⟨by show _ = Ending.returned (ansV (logicT false [v1, v2]) 0); rw [HQ.out]; rfl, ((hB2.setCell hgw _).setCell hgw _).setCell hgw _⟩
          · rcases C2.out with ⟨q1, q2, q3, q4⟩ | ⟨q1, q2, q3, q3b, q4⟩ | ⟨q1, q2, q3, q3b, q4⟩
            · have hnl : nl = true := by have h9 := HNL3.out; rw [← h9, p1, q1]; rfl
              subst hnl
              have HQ := Lib.hid (logic_null (short := false) (v1 := v1) (v2 := v2) (veq_no2 (k := 1) p3) (veq_no1 (k := 1) q2) (.inr (veq_yes (k := 0) (n := 0) q1 q3 q4)))
              clear HNL3 C1 C2
              refine region_cut 12 W5.heap.size W5 (Below.refl _ _) (by kernel_rfl) (by kernel_rfl) (by kernel_rfl) (by kernel_rfl) ?_
              simp only [List.take_succ_cons, List.take_zero, List.drop_succ_cons, List.drop_zero]
              repeat (go_big_quiet_step (fail))
              refine wpQuiet_nil ?_
              rintro V4 ⟨x9, hx9⟩
              have hW := x9.h
              rw [← hx9] at hW
              clear hx9 x9
              clear z1 z2 zS
              replace hX2 := hX2.later hW
              replace hR2 := hR2.later hW
              replace hB2 := Later.then hB2 hW
              replace hS := hS.later hW
              have s0 := val_cells hS
              have hR1 := val_cells hR2
              have hR3 := Blk.frozen hR2
              go_wp2_with fail
              exact bodyPost_ret (v := .tuple #[.agg #[.int .u8 0, .int .i64 0, .string ByteArray.empty], .int .i64 0]) (by simp [results, Try.results25, go_sem, hR1]; try rfl) rfl ⟨by show _ = Ending.returned (ansV (logicT false [v1, v2]) 0); rw [HQ.out]; rfl, ((hB2.setCell hgw _).setCell hgw _).setCell hgw _⟩
            · have HQ := Lib.hid (logic_hit (short := false) (v1 := v1) (v2 := v2) (.inr (veq_yes (k := 1) q2 q3 q4)))
              clear HNL3 C1 C2
              refine region_cut 12 W5.heap.size W5 (Below.refl _ _) (by kernel_rfl) (by kernel_rfl) (by kernel_rfl) (by kernel_rfl) ?_
              simp only [List.take_succ_cons, List.take_zero, List.drop_succ_cons, List.drop_zero]
              repeat (go_big_quiet_step (fail))
              refine wpQuiet_nil ?_
              rintro V4 ⟨x9, hx9⟩
              have hW := x9.h
              rw [← hx9] at hW
              clear hx9 x9
              clear z1 z2 zS
              replace hX2 := hX2.later hW
              replace hR2 := hR2.later hW
              replace hB2 := Later.then hB2 hW
              replace hS := hS.later hW
              have s0 := val_cells hS
              have hR1 := val_cells hR2
              have hR3 := Blk.frozen hR2
              go_wp2_with fail
              exact bodyPost_ret (v := .tuple #[.agg #[.int .u8 1, .int .i64 0, .string ByteArray.empty], .int .i64 0]) (by simp [results, Try.results25, go_sem, hR1]; try rfl) rfl ⟨by show _ = Ending.returned (ansV (logicT false [v1, v2]) 0); rw [HQ.out]; rfl, ((hB2.setCell hgw _).setCell hgw _).setCell hgw _⟩
            · have hnl : nl = false := by have h9 := HNL3.out; rw [← h9, p1, q1]; rfl
              subst hnl
              have HQ := Lib.hid (logic_else (short := false) (v1 := v1) (v2 := v2) (veq_no2 (k := 1) p3) (veq_no2 (k := 1) q3) (veq_no1 (k := 0) (n := 0) p1) (veq_no1 (k := 0) (n := 0) q1))
              clear HNL3 C1 C2
              refine region_cut 12 W5.heap.size W5 (Below.refl _ _) (by kernel_rfl) (by kernel_rfl) (by kernel_rfl) (by kernel_rfl) ?_
              simp only [List.take_succ_cons, List.take_zero, List.drop_succ_cons, List.drop_zero]
              repeat (go_big_quiet_step (fail))
              refine wpQuiet_nil ?_
              rintro V4 ⟨x9, hx9⟩
              have hW := x9.h
              rw [← hx9] at hW
              clear hx9 x9
              clear z1 z2 zS
              replace hX2 := hX2.later hW
              replace hR2 := hR2.later hW
              replace hB2 := Later.then hB2 hW
              replace hS := hS.later hW
              have s0 := val_cells hS
              have hR1 := val_cells hR2
              have hR3 := Blk.frozen hR2
              have x0 := hX2.cell 0
              have x1 := hX2.cell 1
              have x2 := hX2.cell 2
              have x3 := hX2.cell 3
              have x4 := hX2.cell 4
              have x5 := hX2.cell 5
              have x6 := hX2.cell 6
              simp only [List.getElem?_toArray, List.getElem?_cons_zero, List.getElem?_cons_succ] at x0 x1 x2 x3 x4 x5 x6
              go_wp2_with fail
              refine (truthR_any true _).mono ?_
              rintro e w6 ⟨rfl, b6⟩
              clear hR1 hR3 s0
              clear x0 x1 x2 x3 x4 x5 x6
              replace hX2 := hX2.later b6
              replace hR2 := hR2.later b6
              replace hB2 := Later.then hB2 b6
              unfold valV boolV
              simp only [↓reduceIte, Bool.false_eq_true]
              have hR1 := val_cells hR2
              have hR3 := Blk.frozen hR2
              go_wp2_with fail
              exact bodyPost_ret (v := .tuple #[.agg #[.int .u8 1, .int .i64 1, .string ByteArray.empty], .int .i64 0]) (by simp [results, Try.results25, go_sem, hR1]; try rfl) rfl ⟨by show _ = Ending.returned (ansV (logicT false [v1, v2]) 0); rw [HQ.out]; rfl, ((hB2.setCell hgw _).setCell hgw _).setCell hgw _⟩
end Go.Proofs.Ytlfahfoffdbpfaa
