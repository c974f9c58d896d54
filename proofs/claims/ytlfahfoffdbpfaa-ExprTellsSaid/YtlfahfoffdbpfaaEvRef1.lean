/- tidelineref15.Eval: an argument goes wrong; no form; an aggregate; a literal. Printed by gen_evref.py. -/
import Derived.Test.YtlfahfoffdbpfaaRef2
import Derived.Test.YtlfahfoffdbpfaaEval0
namespace Go.Proofs.Ytlfahfoffdbpfaa
open Go.ChangeShapes Go.WideShapes Go.ChangeAt Go.RowKit
set_option linter.unusedVariables false
set_option linter.unusedSimpArgs false

def EvRefIs (w : World) (cV rV : Value) (y : Ex) (v : Val) (e : Int) : Prop := ∀ W, Below w.heap.size w W → Calls Try.prog 25 #[.agg #[.int .u8 y.op, .int .u8 y.v.k, .int .i64 y.v.n, .string y.v.s, .string y.name, .int .i64 y.width, .slice y.A y.n y.c], cV, rV] W fun en w' => en = .returned (ansV v e) ∧ Below W.heap.size W w'
set_option maxHeartbeats 4000000 in
set_option maxRecDepth 100000 in
theorem evref_err (op : Int) (xv : Val) (name : ByteArray) (width : Int) (A : Option Addr) (n c : Nat) (cV rV : Value) (args : List (Ex × Val)) (bad : Ex) (er : Int) (post : List Ex) (hn : args.length + 1 + post.length = n) (w : World) (hl : args.length ≤ 1599289640356) (hn2 : n ≤ 1599289640356) (hA : RE w w.heap.size A (args.map (·.1) ++ bad :: post)) (hE : ∀ a ∈ args, EvRefIs w cV rV a.1 a.2 0) (hbad : EvRefIs w cV rV bad zeroVal er) (her : er ≠ 0) :
    Calls Try.prog 25 #[.agg #[.int .u8 op, .int .u8 xv.k, .int .i64 xv.n, .string xv.s, .string name, .int .i64 width, .slice A n c], cV, rV] w fun en w' => en = .returned (ansV (zeroVal) (er)) ∧ Below w.heap.size w w' := by
  have HN := Lib.hid hn
  have HBAD := Lib.hid hbad
  have HER := Lib.hid her
  have HA := Lib.hid hA
  have HE := Lib.hid hE
  clear hA hE hn hbad her
  go_enter Try.func25, Try.ntmps25
  have hX := (Blk.new w 36 #[.int .u8 op, .int .u8 xv.k, .int .i64 xv.n, .string xv.s, .string name, .int .i64 width, .slice A n c]).alloc (.cells #[.int .u8 0, .int .i64 0, .string ⟨#[]⟩] 23)
  have hR := Blk.new (w.alloc (.cells #[.int .u8 op, .int .u8 xv.k, .int .i64 xv.n, .string xv.s, .string name, .int .i64 width, .slice A n c] 36)) 23 #[.int .u8 0, .int .i64 0, .string ⟨#[]⟩]
  rw [World.size_alloc] at hR
  have hB := Later.then (later_new w (.cells #[.int .u8 op, .int .u8 xv.k, .int .i64 xv.n, .string xv.s, .string name, .int .i64 width, .slice A n c] 36)) (later_new _ (.cells #[.int .u8 0, .int .i64 0, .string ⟨#[]⟩] 23))
  go_wp2_with fail
  generalize (w.alloc (.cells #[.int .u8 op, .int .u8 xv.k, .int .i64 xv.n, .string xv.s, .string name, .int .i64 width, .slice A n c] 36)).alloc (.cells #[.int .u8 0, .int .i64 0, .string ⟨#[]⟩] 23) = W at *
  have hgw : w.heap.size ≤ w.heap.size + 1 := by omega
  generalize w.heap.size + 1 = gR at *
  go_loopw [8, 9, 10] (fun lv nv i wr => ∃ k : Nat, k ≤ args.length ∧ i = .int .i64 k ∧ OwnF valCells 23 3 wr W.heap.size lv ((args.take k).map (·.2)) ∧ nv = .bool ((args.take k).any (·.2.k == 0)) ∧ Below W.heap.size W wr) (fun _ _ i _ => args.length - (intOf i).toNat)
  case atStart => exact ⟨0, Nat.zero_le _, rfl, OwnF.nil, rfl, Below.refl _ _⟩
  case round =>
    obtain ⟨k, hk, rfl, hO, rfl, hb⟩ := hrel
    have HO := Lib.hid hO
    clear hO
    generalize hnl : (args.take k).any (·.2.k == 0) = nl
    have HNL := Lib.hid hnl
    clear hnl
    rcases Nat.lt_or_ge k args.length with hlt | hge
    · have hkn : k < n := by have := HN.out; omega
      obtain ⟨b, off, rfl, hbb, hex⟩ := (HA.out.below (hB.trans (hb.mono hB.size))).at_ (show k < (args.map (·.1) ++ bad :: post).length by simp; omega)
      have he1 : (args.map (·.1) ++ bad :: post)[k]'(by simp; omega) = args[k].1 := by rw [List.getElem_append_left (by simpa using hlt)]; simp
      rw [he1] at hex
      clear he1
      have hev := HE.out args[k] (List.getElem_mem hlt)
      have HT := Lib.hid (show args.take (k + 1) = args.take k ++ [args[k]] by rw [List.take_add_one, List.getElem?_eq_getElem hlt]; rfl)
      generalize args[k] = yv at *
      obtain ⟨y, v⟩ := yv
      dsimp only at *
      unfold ExAt at hex
      have x6 := (hX.later hb).cell 6
      simp only [List.getElem?_toArray, List.getElem?_cons_zero, List.getElem?_cons_succ] at x6
      go_wp2_with fail
      clear x6
      refine (hev wr (hB.trans (hb.mono hB.size))).mono ?_
      rintro e w1 ⟨rfl, b1⟩
      unfold ansV
      have b4 := Later.then b1 (Later.then (later_new w1 (.cells #[.int .u8 v.k, .int .i64 v.n, .string v.s] 23)) (later_new _ (.cells #[.int .u8 v.k, .int .i64 v.n, .string v.s] 23)))
      have hQ := Blk.new (w1.alloc (.cells #[.int .u8 v.k, .int .i64 v.n, .string v.s] 23)) 23 #[.int .u8 v.k, .int .i64 v.n, .string v.s]
      rw [World.size_alloc] at hQ
      have HQ := Lib.hid hQ
      replace HO := Lib.hid (HO.out.later b4)
      replace hb := Later.then hb b4
      have hbase := hb.size
      have hlenv : ((args.take k).map (·.2)).length ≤ 1599289640356 := by simp; omega
      clear b1 b4 hQ hex hev
      cases nl
      · cases hvk : (v.k == 0)
        · go_wp2_with (first
            | (at_builtin
               refine wpList_append_one rfl (.tmp 50) (.tmp 52) 40 rfl _ 32 Try.underlying40 val_info rfl (by omega) v rfl (by simp [valCells, Value.oneCell']) rfl HO.out (w1.heap.size + 1) rfl HQ.out (by omega) (by omega) hbase ?_
               intro v4 w4 o4 g4
               have b5 := below_own HO.out g4 hbase
               have O4 := Lib.hid o4
               clear o4 g4 HQ HO))
          go_roundw
          case rel =>
            refine ⟨k + 1, by omega, by go_num, ?_, ?_, hb.trans b5⟩
            · rw [HT.out, List.map_append]; exact O4.out
            · rw [HT.out, List.any_append, HNL.out]; simp [hvk]
          case measure => simp [intOf]; omega
        · go_wp2_with (first
            | (at_builtin
               refine wpList_append_one rfl (.tmp 50) (.tmp 52) 40 rfl _ 32 Try.underlying40 val_info rfl (by omega) v rfl (by simp [valCells, Value.oneCell']) rfl HO.out (w1.heap.size + 1) rfl HQ.out (by omega) (by omega) hbase ?_
               intro v4 w4 o4 g4
               have b5 := below_own HO.out g4 hbase
               have O4 := Lib.hid o4
               clear o4 g4 HQ HO))
          go_roundw
          case rel =>
            refine ⟨k + 1, by omega, by go_num, ?_, ?_, hb.trans b5⟩
            · rw [HT.out, List.map_append]; exact O4.out
            · rw [HT.out, List.any_append, HNL.out]; simp [hvk]
          case measure => simp [intOf]; omega
      · go_wp2_with (first
          | (at_builtin
             refine wpList_append_one rfl (.tmp 50) (.tmp 52) 40 rfl _ 32 Try.underlying40 val_info rfl (by omega) v rfl (by simp [valCells, Value.oneCell']) rfl HO.out (w1.heap.size + 1) rfl HQ.out (by omega) (by omega) hbase ?_
             intro v4 w4 o4 g4
             have b5 := below_own HO.out g4 hbase
             have O4 := Lib.hid o4
             clear o4 g4 HQ HO))
        go_roundw
        case rel =>
          refine ⟨k + 1, by omega, by go_num, ?_, ?_, hb.trans b5⟩
          · rw [HT.out, List.map_append]; exact O4.out
          · rw [HT.out, List.any_append, HNL.out]; simp 
        case measure => simp [intOf]; omega
    · have htk : args.take k = args := List.take_of_length_le hge
      rw [htk] at HO HNL
      clear htk
      have hkk : k = args.length := by omega
      have hkn : k < n := by have := HN.out; omega
      obtain ⟨b, off, rfl, hbb, hex⟩ := (HA.out.below (hB.trans (hb.mono hB.size))).at_ (show k < (args.map (·.1) ++ bad :: post).length by simp; omega)
      have he1 : (args.map (·.1) ++ bad :: post)[k]'(by simp; omega) = bad := by rw [List.getElem_append_right (by simp; omega)]; simp [hkk]
      rw [he1] at hex
      clear he1 hkk HO
      have hev := HBAD.out
      unfold ExAt at hex
      have x6 := (hX.later hb).cell 6
      simp only [List.getElem?_toArray, List.getElem?_cons_zero, List.getElem?_cons_succ] at x6
      go_wp2_with fail
      clear x6
      refine (hev wr (hB.trans (hb.mono hB.size))).mono ?_
      rintro e w1 ⟨rfl, b1⟩
      have hb2 := Later.then hb (Later.then b1 (later_new w1 (.cells #[.int .u8 0, .int .i64 0, .string ByteArray.empty] 23)))
      have hR2 := hR.later hb2
      have hB2 := Later.then hB hb2
      have hR1 := val_cells hR2
      have hR3 := Blk.frozen hR2
      have te : (er != 0) = true := by have := HER.out; simpa using this
      clear hev hex b1 hb2 hR2 hX hR hB hb
      unfold ansV zeroVal
      go_wp2_with fail
      exact bodyPost_ret (v := .tuple #[.agg #[.int .u8 0, .int .i64 0, .string ByteArray.empty], .int .i64 er]) (by simp [results, Try.results25, go_sem, hR1]; try rfl) rfl ⟨rfl, ((hB2.setCell hgw _).setCell hgw _).setCell hgw _⟩
set_option maxHeartbeats 4000000 in
set_option maxRecDepth 100000 in
theorem evref_form (op : Int) (xv : Val) (name : ByteArray) (width : Int) (A : Option Addr) (c : Nat) (cV rV : Value) (args : List (Ex × Val)) (hop : 0 ≤ op ∧ op ≤ 255) (hfb : formB ⟨op, xv, name, width, A, args.length, c⟩ = false) (w : World) (hl : args.length ≤ 1599289640356) (hA : RE w w.heap.size A (args.map (·.1))) (hE : ∀ a ∈ args, EvRefIs w cV rV a.1 a.2 0) :
    Calls Try.prog 25 #[.agg #[.int .u8 op, .int .u8 xv.k, .int .i64 xv.n, .string xv.s, .string name, .int .i64 width, .slice A args.length c], cV, rV] w fun en w' => en = .returned (ansV (zeroVal) (21)) ∧ Below w.heap.size w w' := by
  have HOP := Lib.hid hop
  have HA := Lib.hid hA
  have HE := Lib.hid hE
  clear hA hE hop
  have HFB := Lib.hid hfb
  clear hfb
  go_enter Try.func25, Try.ntmps25
  have hX := (Blk.new w 36 #[.int .u8 op, .int .u8 xv.k, .int .i64 xv.n, .string xv.s, .string name, .int .i64 width, .slice A args.length c]).alloc (.cells #[.int .u8 0, .int .i64 0, .string ⟨#[]⟩] 23)
  have hR := Blk.new (w.alloc (.cells #[.int .u8 op, .int .u8 xv.k, .int .i64 xv.n, .string xv.s, .string name, .int .i64 width, .slice A args.length c] 36)) 23 #[.int .u8 0, .int .i64 0, .string ⟨#[]⟩]
  rw [World.size_alloc] at hR
  have hB := Later.then (later_new w (.cells #[.int .u8 op, .int .u8 xv.k, .int .i64 xv.n, .string xv.s, .string name, .int .i64 width, .slice A args.length c] 36)) (later_new _ (.cells #[.int .u8 0, .int .i64 0, .string ⟨#[]⟩] 23))
  go_wp2_with fail
  generalize (w.alloc (.cells #[.int .u8 op, .int .u8 xv.k, .int .i64 xv.n, .string xv.s, .string name, .int .i64 width, .slice A args.length c] 36)).alloc (.cells #[.int .u8 0, .int .i64 0, .string ⟨#[]⟩] 23) = W at *
  have hgw : w.heap.size ≤ w.heap.size + 1 := by omega
  generalize w.heap.size + 1 = gR at *
  go_loopw [8, 9, 10] (fun lv nv i wr => ∃ k : Nat, k ≤ args.length ∧ i = .int .i64 k ∧ OwnF valCells 23 3 wr W.heap.size lv ((args.take k).map (·.2)) ∧ nv = .bool ((args.take k).any (·.2.k == 0)) ∧ Below W.heap.size W wr) (fun _ _ i _ => args.length - (intOf i).toNat)
  case atStart => exact ⟨0, Nat.zero_le _, rfl, OwnF.nil, rfl, Below.refl _ _⟩
  case round =>
    obtain ⟨k, hk, rfl, hO, rfl, hb⟩ := hrel
    have HO := Lib.hid hO
    clear hO
    generalize hnl : (args.take k).any (·.2.k == 0) = nl
    have HNL := Lib.hid hnl
    clear hnl
    rcases Nat.lt_or_ge k args.length with hlt | hge
    · obtain ⟨b, off, rfl, hbb, hex⟩ := (HA.out.below (hB.trans (hb.mono hB.size))).at_ (show k < (args.map (·.1)).length by simpa using hlt)
      have he1 : (args.map (·.1))[k]'(by simpa using hlt) = args[k].1 := by simp
      rw [he1] at hex
      clear he1
      have hev := HE.out args[k] (List.getElem_mem hlt)
      have HT := Lib.hid (show args.take (k + 1) = args.take k ++ [args[k]] by rw [List.take_add_one, List.getElem?_eq_getElem hlt]; rfl)
      generalize args[k] = yv at *
      obtain ⟨y, v⟩ := yv
      dsimp only at *
      unfold ExAt at hex
      have x6 := (hX.later hb).cell 6
      simp only [List.getElem?_toArray, List.getElem?_cons_zero, List.getElem?_cons_succ] at x6
      go_wp2_with fail
      clear x6
      refine (hev wr (hB.trans (hb.mono hB.size))).mono ?_
      rintro e w1 ⟨rfl, b1⟩
      unfold ansV
      have b4 := Later.then b1 (Later.then (later_new w1 (.cells #[.int .u8 v.k, .int .i64 v.n, .string v.s] 23)) (later_new _ (.cells #[.int .u8 v.k, .int .i64 v.n, .string v.s] 23)))
      have hQ := Blk.new (w1.alloc (.cells #[.int .u8 v.k, .int .i64 v.n, .string v.s] 23)) 23 #[.int .u8 v.k, .int .i64 v.n, .string v.s]
      rw [World.size_alloc] at hQ
      have HQ := Lib.hid hQ
      replace HO := Lib.hid (HO.out.later b4)
      replace hb := Later.then hb b4
      have hbase := hb.size
      have hlenv : ((args.take k).map (·.2)).length ≤ 1599289640356 := by simp; omega
      clear b1 b4 hQ hex hev
      cases nl
      · cases hvk : (v.k == 0)
        · go_wp2_with (first
            | (at_builtin
               refine wpList_append_one rfl (.tmp 50) (.tmp 52) 40 rfl _ 32 Try.underlying40 val_info rfl (by omega) v rfl (by simp [valCells, Value.oneCell']) rfl HO.out (w1.heap.size + 1) rfl HQ.out (by omega) (by omega) hbase ?_
               intro v4 w4 o4 g4
               have b5 := below_own HO.out g4 hbase
               have O4 := Lib.hid o4
               clear o4 g4 HQ HO))
          go_roundw
          case rel =>
            refine ⟨k + 1, by omega, by go_num, ?_, ?_, hb.trans b5⟩
            · rw [HT.out, List.map_append]; exact O4.out
            · rw [HT.out, List.any_append, HNL.out]; simp [hvk]
          case measure => simp [intOf]; omega
        · go_wp2_with (first
            | (at_builtin
               refine wpList_append_one rfl (.tmp 50) (.tmp 52) 40 rfl _ 32 Try.underlying40 val_info rfl (by omega) v rfl (by simp [valCells, Value.oneCell']) rfl HO.out (w1.heap.size + 1) rfl HQ.out (by omega) (by omega) hbase ?_
               intro v4 w4 o4 g4
               have b5 := below_own HO.out g4 hbase
               have O4 := Lib.hid o4
               clear o4 g4 HQ HO))
          go_roundw
          case rel =>
            refine ⟨k + 1, by omega, by go_num, ?_, ?_, hb.trans b5⟩
            · rw [HT.out, List.map_append]; exact O4.out
            · rw [HT.out, List.any_append, HNL.out]; simp [hvk]
          case measure => simp [intOf]; omega
      · go_wp2_with (first
          | (at_builtin
             refine wpList_append_one rfl (.tmp 50) (.tmp 52) 40 rfl _ 32 Try.underlying40 val_info rfl (by omega) v rfl (by simp [valCells, Value.oneCell']) rfl HO.out (w1.heap.size + 1) rfl HQ.out (by omega) (by omega) hbase ?_
             intro v4 w4 o4 g4
             have b5 := below_own HO.out g4 hbase
             have O4 := Lib.hid o4
             clear o4 g4 HQ HO))
        go_roundw
        case rel =>
          refine ⟨k + 1, by omega, by go_num, ?_, ?_, hb.trans b5⟩
          · rw [HT.out, List.map_append]; exact O4.out
          · rw [HT.out, List.any_append, HNL.out]; simp 
        case measure => simp [intOf]; omega
    · have htk : args.take k = args := List.take_of_length_le hge
      rw [htk] at HO HNL
      clear htk
      obtain ⟨A8, c8, hu8, hRV⟩ := own_rv HO.out
      rw [List.length_map] at hu8
      subst hu8
      have hX2 := hX.later hb
      have hR2 := hR.later hb
      have hB2 := Later.then hB hb
      have HRV := Lib.hid hRV
      clear HO hX hR hB hRV hb
      have x0 := hX2.cell 0
      have x1 := hX2.cell 1
      have x2 := hX2.cell 2
      have x3 := hX2.cell 3
      have x4 := hX2.cell 4
      have x5 := hX2.cell 5
      have x6 := hX2.cell 6
      simp only [List.getElem?_toArray, List.getElem?_cons_zero, List.getElem?_cons_succ] at x0 x1 x2 x3 x4 x5 x6
      go_wp2_with fail
      clear x0 x1 x2 x3 x4 x5 x6
      refine (formR_any ⟨op, xv, name, width, A, args.length, c⟩ HOP.out.1 HOP.out.2 _).mono ?_
      rintro e w1 ⟨rfl, b1⟩
      rw [HFB.out]
      replace HRV := Lib.hid (HRV.out.later b1)
      replace hX2 := hX2.later b1
      replace hR2 := hR2.later b1
      replace hB2 := Later.then hB2 b1
      clear b1
      have hR1 := val_cells hR2
      have hR3 := Blk.frozen hR2
      go_wp2_with fail
      exact bodyPost_ret (v := .tuple #[.agg #[.int .u8 0, .int .i64 0, .string ByteArray.empty], .int .i64 21]) (by simp [results, Try.results25, go_sem, hR1]; try rfl) rfl ⟨rfl, ((hB2.setCell hgw _).setCell hgw _).setCell hgw _⟩
set_option maxHeartbeats 4000000 in
set_option maxRecDepth 100000 in
theorem evref_agg (op : Int) (xv : Val) (name : ByteArray) (width : Int) (A : Option Addr) (c : Nat) (cV rV : Value) (args : List (Ex × Val)) (hop : 0 ≤ op ∧ op ≤ 255) (hfb : formB ⟨op, xv, name, width, A, args.length, c⟩ = true) (hag : isAgg op = true) (w : World) (hl : args.length ≤ 1599289640356) (hA : RE w w.heap.size A (args.map (·.1))) (hE : ∀ a ∈ args, EvRefIs w cV rV a.1 a.2 0) :
    Calls Try.prog 25 #[.agg #[.int .u8 op, .int .u8 xv.k, .int .i64 xv.n, .string xv.s, .string name, .int .i64 width, .slice A args.length c], cV, rV] w fun en w' => en = .returned (ansV (zeroVal) (42)) ∧ Below w.heap.size w w' := by
  have HOP := Lib.hid hop
  have HA := Lib.hid hA
  have HE := Lib.hid hE
  clear hA hE hop
  have HFB := Lib.hid hfb
  clear hfb
  have HAG := Lib.hid hag
  clear hag
  go_enter Try.func25, Try.ntmps25
  have hX := (Blk.new w 36 #[.int .u8 op, .int .u8 xv.k, .int .i64 xv.n, .string xv.s, .string name, .int .i64 width, .slice A args.length c]).alloc (.cells #[.int .u8 0, .int .i64 0, .string ⟨#[]⟩] 23)
  have hR := Blk.new (w.alloc (.cells #[.int .u8 op, .int .u8 xv.k, .int .i64 xv.n, .string xv.s, .string name, .int .i64 width, .slice A args.length c] 36)) 23 #[.int .u8 0, .int .i64 0, .string ⟨#[]⟩]
  rw [World.size_alloc] at hR
  have hB := Later.then (later_new w (.cells #[.int .u8 op, .int .u8 xv.k, .int .i64 xv.n, .string xv.s, .string name, .int .i64 width, .slice A args.length c] 36)) (later_new _ (.cells #[.int .u8 0, .int .i64 0, .string ⟨#[]⟩] 23))
  go_wp2_with fail
  generalize (w.alloc (.cells #[.int .u8 op, .int .u8 xv.k, .int .i64 xv.n, .string xv.s, .string name, .int .i64 width, .slice A args.length c] 36)).alloc (.cells #[.int .u8 0, .int .i64 0, .string ⟨#[]⟩] 23) = W at *
  have hgw : w.heap.size ≤ w.heap.size + 1 := by omega
  generalize w.heap.size + 1 = gR at *
  go_loopw [8, 9, 10] (fun lv nv i wr => ∃ k : Nat, k ≤ args.length ∧ i = .int .i64 k ∧ OwnF valCells 23 3 wr W.heap.size lv ((args.take k).map (·.2)) ∧ nv = .bool ((args.take k).any (·.2.k == 0)) ∧ Below W.heap.size W wr) (fun _ _ i _ => args.length - (intOf i).toNat)
  case atStart => exact ⟨0, Nat.zero_le _, rfl, OwnF.nil, rfl, Below.refl _ _⟩
  case round =>
    obtain ⟨k, hk, rfl, hO, rfl, hb⟩ := hrel
    have HO := Lib.hid hO
    clear hO
    generalize hnl : (args.take k).any (·.2.k == 0) = nl
    have HNL := Lib.hid hnl
    clear hnl
    rcases Nat.lt_or_ge k args.length with hlt | hge
    · obtain ⟨b, off, rfl, hbb, hex⟩ := (HA.out.below (hB.trans (hb.mono hB.size))).at_ (show k < (args.map (·.1)).length by simpa using hlt)
      have he1 : (args.map (·.1))[k]'(by simpa using hlt) = args[k].1 := by simp
      rw [he1] at hex
      clear he1
      have hev := HE.out args[k] (List.getElem_mem hlt)
      have HT := Lib.hid (show args.take (k + 1) = args.take k ++ [args[k]] by rw [List.take_add_one, List.getElem?_eq_getElem hlt]; rfl)
      generalize args[k] = yv at *
      obtain ⟨y, v⟩ := yv
      dsimp only at *
      unfold ExAt at hex
      have x6 := (hX.later hb).cell 6
      simp only [List.getElem?_toArray, List.getElem?_cons_zero, List.getElem?_cons_succ] at x6
      go_wp2_with fail
      clear x6
      refine (hev wr (hB.trans (hb.mono hB.size))).mono ?_
      rintro e w1 ⟨rfl, b1⟩
      unfold ansV
      have b4 := Later.then b1 (Later.then (later_new w1 (.cells #[.int .u8 v.k, .int .i64 v.n, .string v.s] 23)) (later_new _ (.cells #[.int .u8 v.k, .int .i64 v.n, .string v.s] 23)))
      have hQ := Blk.new (w1.alloc (.cells #[.int .u8 v.k, .int .i64 v.n, .string v.s] 23)) 23 #[.int .u8 v.k, .int .i64 v.n, .string v.s]
      rw [World.size_alloc] at hQ
      have HQ := Lib.hid hQ
      replace HO := Lib.hid (HO.out.later b4)
      replace hb := Later.then hb b4
      have hbase := hb.size
      have hlenv : ((args.take k).map (·.2)).length ≤ 1599289640356 := by simp; omega
      clear b1 b4 hQ hex hev
      cases nl
      · cases hvk : (v.k == 0)
        · go_wp2_with (first
            | (at_builtin
               refine wpList_append_one rfl (.tmp 50) (.tmp 52) 40 rfl _ 32 Try.underlying40 val_info rfl (by omega) v rfl (by simp [valCells, Value.oneCell']) rfl HO.out (w1.heap.size + 1) rfl HQ.out (by omega) (by omega) hbase ?_
               intro v4 w4 o4 g4
               have b5 := below_own HO.out g4 hbase
               have O4 := Lib.hid o4
               clear o4 g4 HQ HO))
          go_roundw
          case rel =>
            refine ⟨k + 1, by omega, by go_num, ?_, ?_, hb.trans b5⟩
            · rw [HT.out, List.map_append]; exact O4.out
            · rw [HT.out, List.any_append, HNL.out]; simp [hvk]
          case measure => simp [intOf]; omega
        · go_wp2_with (first
            | (at_builtin
               refine wpList_append_one rfl (.tmp 50) (.tmp 52) 40 rfl _ 32 Try.underlying40 val_info rfl (by omega) v rfl (by simp [valCells, Value.oneCell']) rfl HO.out (w1.heap.size + 1) rfl HQ.out (by omega) (by omega) hbase ?_
               intro v4 w4 o4 g4
               have b5 := below_own HO.out g4 hbase
               have O4 := Lib.hid o4
               clear o4 g4 HQ HO))
          go_roundw
          case rel =>
            refine ⟨k + 1, by omega, by go_num, ?_, ?_, hb.trans b5⟩
            · rw [HT.out, List.map_append]; exact O4.out
            · rw [HT.out, List.any_append, HNL.out]; simp [hvk]
          case measure => simp [intOf]; omega
      · go_wp2_with (first
          | (at_builtin
             refine wpList_append_one rfl (.tmp 50) (.tmp 52) 40 rfl _ 32 Try.underlying40 val_info rfl (by omega) v rfl (by simp [valCells, Value.oneCell']) rfl HO.out (w1.heap.size + 1) rfl HQ.out (by omega) (by omega) hbase ?_
             intro v4 w4 o4 g4
             have b5 := below_own HO.out g4 hbase
             have O4 := Lib.hid o4
             clear o4 g4 HQ HO))
        go_roundw
        case rel =>
          refine ⟨k + 1, by omega, by go_num, ?_, ?_, hb.trans b5⟩
          · rw [HT.out, List.map_append]; exact O4.out
          · rw [HT.out, List.any_append, HNL.out]; simp 
        case measure => simp [intOf]; omega
    · have htk : args.take k = args := List.take_of_length_le hge
      rw [htk] at HO HNL
      clear htk
      obtain ⟨A8, c8, hu8, hRV⟩ := own_rv HO.out
      rw [List.length_map] at hu8
      subst hu8
      have hX2 := hX.later hb
      have hR2 := hR.later hb
      have hB2 := Later.then hB hb
      have HRV := Lib.hid hRV
      clear HO hX hR hB hRV hb
      have x0 := hX2.cell 0
      have x1 := hX2.cell 1
      have x2 := hX2.cell 2
      have x3 := hX2.cell 3
      have x4 := hX2.cell 4
      have x5 := hX2.cell 5
      have x6 := hX2.cell 6
      simp only [List.getElem?_toArray, List.getElem?_cons_zero, List.getElem?_cons_succ] at x0 x1 x2 x3 x4 x5 x6
      go_wp2_with fail
      clear x0 x1 x2 x3 x4 x5 x6
      refine (formR_any ⟨op, xv, name, width, A, args.length, c⟩ HOP.out.1 HOP.out.2 _).mono ?_
      rintro e w1 ⟨rfl, b1⟩
      rw [HFB.out]
      replace HRV := Lib.hid (HRV.out.later b1)
      replace hX2 := hX2.later b1
      replace hR2 := hR2.later b1
      replace hB2 := Later.then hB2 b1
      clear b1
      have x0 := hX2.cell 0
      have x1 := hX2.cell 1
      have x2 := hX2.cell 2
      have x3 := hX2.cell 3
      have x4 := hX2.cell 4
      have x5 := hX2.cell 5
      have x6 := hX2.cell 6
      simp only [List.getElem?_toArray, List.getElem?_cons_zero, List.getElem?_cons_succ] at x0 x1 x2 x3 x4 x5 x6
      go_wp2_with fail
      refine (isR_any op HOP.out.1 HOP.out.2 _).mono ?_
      rintro e w2 ⟨rfl, rfl⟩
      rw [HAG.out]
      have hR1 := val_cells hR2
      have hR3 := Blk.frozen hR2
      go_wp2_with fail
      exact bodyPost_ret (v := .tuple #[.agg #[.int .u8 0, .int .i64 0, .string ByteArray.empty], .int .i64 42]) (by simp [results, Try.results25, go_sem, hR1]; try rfl) rfl ⟨rfl, ((hB2.setCell hgw _).setCell hgw _).setCell hgw _⟩
set_option maxHeartbeats 4000000 in
set_option maxRecDepth 100000 in
theorem evref_lit (op : Int) (xv : Val) (name : ByteArray) (width : Int) (A : Option Addr) (c : Nat) (cV rV : Value) (args : List (Ex × Val)) (hop : 0 ≤ op ∧ op ≤ 255) (hfb : formB ⟨op, xv, name, width, A, args.length, c⟩ = true) (hag : isAgg op = false) (h1 : (op == 1) = true) (w : World) (hl : args.length ≤ 1599289640356) (hA : RE w w.heap.size A (args.map (·.1))) (hE : ∀ a ∈ args, EvRefIs w cV rV a.1 a.2 0) :
    Calls Try.prog 25 #[.agg #[.int .u8 op, .int .u8 xv.k, .int .i64 xv.n, .string xv.s, .string name, .int .i64 width, .slice A args.length c], cV, rV] w fun en w' => en = .returned (ansV (xv) (0)) ∧ Below w.heap.size w w' := by
  have HOP := Lib.hid hop
  have HA := Lib.hid hA
  have HE := Lib.hid hE
  clear hA hE hop
  have HFB := Lib.hid hfb
  clear hfb
  have HAG := Lib.hid hag
  clear hag
  have H1 := Lib.hid h1
  clear h1
  go_enter Try.func25, Try.ntmps25
  have hX := (Blk.new w 36 #[.int .u8 op, .int .u8 xv.k, .int .i64 xv.n, .string xv.s, .string name, .int .i64 width, .slice A args.length c]).alloc (.cells #[.int .u8 0, .int .i64 0, .string ⟨#[]⟩] 23)
  have hR := Blk.new (w.alloc (.cells #[.int .u8 op, .int .u8 xv.k, .int .i64 xv.n, .string xv.s, .string name, .int .i64 width, .slice A args.length c] 36)) 23 #[.int .u8 0, .int .i64 0, .string ⟨#[]⟩]
  rw [World.size_alloc] at hR
  have hB := Later.then (later_new w (.cells #[.int .u8 op, .int .u8 xv.k, .int .i64 xv.n, .string xv.s, .string name, .int .i64 width, .slice A args.length c] 36)) (later_new _ (.cells #[.int .u8 0, .int .i64 0, .string ⟨#[]⟩] 23))
  go_wp2_with fail
  generalize (w.alloc (.cells #[.int .u8 op, .int .u8 xv.k, .int .i64 xv.n, .string xv.s, .string name, .int .i64 width, .slice A args.length c] 36)).alloc (.cells #[.int .u8 0, .int .i64 0, .string ⟨#[]⟩] 23) = W at *
  have hgw : w.heap.size ≤ w.heap.size + 1 := by omega
  generalize w.heap.size + 1 = gR at *
  go_loopw [8, 9, 10] (fun lv nv i wr => ∃ k : Nat, k ≤ args.length ∧ i = .int .i64 k ∧ OwnF valCells 23 3 wr W.heap.size lv ((args.take k).map (·.2)) ∧ nv = .bool ((args.take k).any (·.2.k == 0)) ∧ Below W.heap.size W wr) (fun _ _ i _ => args.length - (intOf i).toNat)
  case atStart => exact ⟨0, Nat.zero_le _, rfl, OwnF.nil, rfl, Below.refl _ _⟩
  case round =>
    obtain ⟨k, hk, rfl, hO, rfl, hb⟩ := hrel
    have HO := Lib.hid hO
    clear hO
    generalize hnl : (args.take k).any (·.2.k == 0) = nl
    have HNL := Lib.hid hnl
    clear hnl
    rcases Nat.lt_or_ge k args.length with hlt | hge
    · obtain ⟨b, off, rfl, hbb, hex⟩ := (HA.out.below (hB.trans (hb.mono hB.size))).at_ (show k < (args.map (·.1)).length by simpa using hlt)
      have he1 : (args.map (·.1))[k]'(by simpa using hlt) = args[k].1 := by simp
      rw [he1] at hex
      clear he1
      have hev := HE.out args[k] (List.getElem_mem hlt)
      have HT := Lib.hid (show args.take (k + 1) = args.take k ++ [args[k]] by rw [List.take_add_one, List.getElem?_eq_getElem hlt]; rfl)
      generalize args[k] = yv at *
      obtain ⟨y, v⟩ := yv
      dsimp only at *
      unfold ExAt at hex
      have x6 := (hX.later hb).cell 6
      simp only [List.getElem?_toArray, List.getElem?_cons_zero, List.getElem?_cons_succ] at x6
      go_wp2_with fail
      clear x6
      refine (hev wr (hB.trans (hb.mono hB.size))).mono ?_
      rintro e w1 ⟨rfl, b1⟩
      unfold ansV
      have b4 := Later.then b1 (Later.then (later_new w1 (.cells #[.int .u8 v.k, .int .i64 v.n, .string v.s] 23)) (later_new _ (.cells #[.int .u8 v.k, .int .i64 v.n, .string v.s] 23)))
      have hQ := Blk.new (w1.alloc (.cells #[.int .u8 v.k, .int .i64 v.n, .string v.s] 23)) 23 #[.int .u8 v.k, .int .i64 v.n, .string v.s]
      rw [World.size_alloc] at hQ
      have HQ := Lib.hid hQ
      replace HO := Lib.hid (HO.out.later b4)
      replace hb := Later.then hb b4
      have hbase := hb.size
      have hlenv : ((args.take k).map (·.2)).length ≤ 1599289640356 := by simp; omega
      clear b1 b4 hQ hex hev
      cases nl
      · cases hvk : (v.k == 0)
        · go_wp2_with (first
            | (at_builtin
               refine wpList_append_one rfl (.tmp 50) (.tmp 52) 40 rfl _ 32 Try.underlying40 val_info rfl (by omega) v rfl (by simp [valCells, Value.oneCell']) rfl HO.out (w1.heap.size + 1) rfl HQ.out (by omega) (by omega) hbase ?_
               intro v4 w4 o4 g4
               have b5 := below_own HO.out g4 hbase
               have O4 := Lib.hid o4
               clear o4 g4 HQ HO))
          go_roundw
          case rel =>
            refine ⟨k + 1, by omega, by go_num, ?_, ?_, hb.trans b5⟩
            · rw [HT.out, List.map_append]; exact O4.out
            · rw [HT.out, List.any_append, HNL.out]; simp [hvk]
          case measure => simp [intOf]; omega
        · go_wp2_with (first
            | (at_builtin
               refine wpList_append_one rfl (.tmp 50) (.tmp 52) 40 rfl _ 32 Try.underlying40 val_info rfl (by omega) v rfl (by simp [valCells, Value.oneCell']) rfl HO.out (w1.heap.size + 1) rfl HQ.out (by omega) (by omega) hbase ?_
               intro v4 w4 o4 g4
               have b5 := below_own HO.out g4 hbase
               have O4 := Lib.hid o4
               clear o4 g4 HQ HO))
          go_roundw
          case rel =>
            refine ⟨k + 1, by omega, by go_num, ?_, ?_, hb.trans b5⟩
            · rw [HT.out, List.map_append]; exact O4.out
            · rw [HT.out, List.any_append, HNL.out]; simp [hvk]
          case measure => simp [intOf]; omega
      · go_wp2_with (first
          | (at_builtin
             refine wpList_append_one rfl (.tmp 50) (.tmp 52) 40 rfl _ 32 Try.underlying40 val_info rfl (by omega) v rfl (by simp [valCells, Value.oneCell']) rfl HO.out (w1.heap.size + 1) rfl HQ.out (by omega) (by omega) hbase ?_
             intro v4 w4 o4 g4
             have b5 := below_own HO.out g4 hbase
             have O4 := Lib.hid o4
             clear o4 g4 HQ HO))
        go_roundw
        case rel =>
          refine ⟨k + 1, by omega, by go_num, ?_, ?_, hb.trans b5⟩
          · rw [HT.out, List.map_append]; exact O4.out
          · rw [HT.out, List.any_append, HNL.out]; simp 
        case measure => simp [intOf]; omega
    · have htk : args.take k = args := List.take_of_length_le hge
      rw [htk] at HO HNL
      clear htk
      obtain ⟨A8, c8, hu8, hRV⟩ := own_rv HO.out
      rw [List.length_map] at hu8
      subst hu8
      have hX2 := hX.later hb
      have hR2 := hR.later hb
      have hB2 := Later.then hB hb
      have HRV := Lib.hid hRV
      clear HO hX hR hB hRV hb
      have x0 := hX2.cell 0
      have x1 := hX2.cell 1
      have x2 := hX2.cell 2
      have x3 := hX2.cell 3
      have x4 := hX2.cell 4
      have x5 := hX2.cell 5
      have x6 := hX2.cell 6
      simp only [List.getElem?_toArray, List.getElem?_cons_zero, List.getElem?_cons_succ] at x0 x1 x2 x3 x4 x5 x6
      go_wp2_with fail
      clear x0 x1 x2 x3 x4 x5 x6
      refine (formR_any ⟨op, xv, name, width, A, args.length, c⟩ HOP.out.1 HOP.out.2 _).mono ?_
      rintro e w1 ⟨rfl, b1⟩
      rw [HFB.out]
      replace HRV := Lib.hid (HRV.out.later b1)
      replace hX2 := hX2.later b1
      replace hR2 := hR2.later b1
      replace hB2 := Later.then hB2 b1
      clear b1
      have x0 := hX2.cell 0
      have x1 := hX2.cell 1
      have x2 := hX2.cell 2
      have x3 := hX2.cell 3
      have x4 := hX2.cell 4
      have x5 := hX2.cell 5
      have x6 := hX2.cell 6
      simp only [List.getElem?_toArray, List.getElem?_cons_zero, List.getElem?_cons_succ] at x0 x1 x2 x3 x4 x5 x6
      go_wp2_with fail
      refine (isR_any op HOP.out.1 HOP.out.2 _).mono ?_
      rintro e w2 ⟨rfl, rfl⟩
      rw [HAG.out]
      have t1 := H1.out
      have hR1 := val_cells hR2
      have hR3 := Blk.frozen hR2
      go_wp2_with fail
      exact bodyPost_ret (v := .tuple #[.agg #[.int .u8 xv.k, .int .i64 xv.n, .string xv.s], .int .i64 0]) (by simp [results, Try.results25, go_sem, hR1]; try rfl) rfl ⟨rfl, ((hB2.setCell hgw _).setCell hgw _).setCell hgw _⟩
end Go.Proofs.Ytlfahfoffdbpfaa
