/- AggParts: the walk. -/
import Derived.Test.YtjpgahfabmgpiaaPartsLib
namespace Go.Proofs.Ytjpgahfabmgpiaa
open Go.ChangeShapes Go.WideShapes Go.ChangeAt Go.RowKit
set_option linter.unusedVariables false
set_option linter.unusedSimpArgs false

set_option maxHeartbeats 8000000 in
set_option maxRecDepth 100000 in
theorem parts_any (op : Int) (A : Option Addr) (c : Nat) (l : List (Val × Val)) (A2 : Option Addr) (c2 : Nat) (zs : List Int) (w : World) (h : RP w w.heap.size A l) (hc : l.length ≤ c) (hv : ∀ x ∈ l, x.1.Ok) (h2 : RN w w.heap.size A2 zs) (hz : ∀ z ∈ zs, -9223372036854775808 ≤ z ∧ z ≤ 9223372036854775807) (hm2 : zs.length ≤ 9223372036854775807) :
    Calls Try.prog 5 #[.int .u8 op, .slice A l.length c, .slice A2 zs.length c2] w fun e w' => e = .returned (.bool true) ∧ Below w.heap.size w w' := by
  have HV := Lib.hid hv
  have HZ := Lib.hid hz
  have HRP := Lib.hid h
  have HRN := Lib.hid h2
  clear hv hz h h2
  go_enter Try.func5, Try.ntmps5
  go_wp2_with fail
  refine (great_any A c l _ HRP.out).mono ?_
  rintro e w1 ⟨big, rfl, hsmall, b1⟩
  have HS := Lib.hid hsmall
  clear hsmall
  rcases (by cases big <;> simp : big = true ∨ big = false) with rfl | rfl
  · go_wp2_with fail
    refine (wakes_any _).mono ?_
    rintro e w7 ⟨rfl, b7⟩
    go_wp2_with fail
    go_ret
    exact ⟨rfl, Later.then b1 b7⟩
  have hl := HS.out rfl
  clear HS
  rcases Nat.lt_or_ge 60 zs.length with hzl | hzl
  · have d1 : decide ((60 : Int) < (zs.length : Int)) = true := by simp; omega
    go_wp2_with fail
    refine (wakes_any _).mono ?_
    rintro e w7 ⟨rfl, b7⟩
    go_wp2_with fail
    go_ret
    exact ⟨rfl, Later.then b1 b7⟩
  have d1 : decide ((60 : Int) < (zs.length : Int)) = false := by simp; omega
  cases hop : isAgg op
  · have his := is_any op
    rw [hop] at his
    have HIS := Lib.hid his
    clear his
    go_wp2_with fail
    refine (HIS.out _).mono ?_
    rintro e w3 ⟨rfl, b3⟩
    have b4 := Later.then b1 b3
    clear b1
    go_wp2_with fail
    refine (wakes_any _).mono ?_
    rintro e w7 ⟨rfl, b7⟩
    go_wp2_with fail
    go_ret
    exact ⟨rfl, Later.then b4 b7⟩
  have his := is_any op
  rw [hop] at his
  have HIS := Lib.hid his
  clear his
  go_wp2_with fail
  refine (HIS.out _).mono ?_
  rintro e w3 ⟨rfl, b3⟩
  have hB := Later.then b1 b3
  clear b1 b3 HIS
  go_wp2_with fail
  refine (fed_any op A c l _ hop ((HRP.out.below hB).more hB.size) (by omega) HV.out).mono ?_
  rintro e w5 ⟨p, hp, rfl, hS, b5⟩
  replace hB := Later.then hB b5
  have hop2 : 21 ≤ op ∧ op ≤ 28 := by simpa [isAgg] using hop
  have hrep := rep_fed hop2.1 hop2.2 l
  have HR := Lib.hid hrep
  have hok := rep_ok hop2.1 hop2.2 hrep (by omega)
  obtain ⟨v, err, hans⟩ := rep_ans hop2.1 hop2.2 hrep hl
  have HA := Lib.hid hans
  have HOK := Lib.hid hok
  clear b5 hp hrep hok hans
  go_wp2_with fail
  refine (answer_any p _ v err _ hS HOK.out HA.out).mono ?_
  rintro e w7 ⟨rfl, b7⟩
  replace hB := Later.then hB b7
  clear b7 hS
  unfold ansV
  go_wp2_with fail
  have hV := Blk.new w7 26 #[.int .u8 v.k, .int .i64 v.n, .string v.s]
  replace hB := Later.then hB (later_new w7 (.cells #[.int .u8 v.k, .int .i64 v.n, .string v.s] 26))
  generalize w7.alloc (.cells #[.int .u8 v.k, .int .i64 v.n, .string v.s] 26) = w8 at *
  generalize w7.heap.size = g at *
  refine (new_any op _ hop).mono ?_
  rintro e w9 ⟨P, hP, rfl, hU, b9⟩
  replace hV := hV.later b9
  have hBP := Nat.le_trans hB.size hP
  replace hB := Later.then hB b9
  clear b9 hP
  go_wp2_with fail
  refine (new_any op _ hop).mono ?_
  rintro e w10 ⟨Q, hQ, rfl, hD, b10⟩
  replace hV := hV.later b10
  have hPQ : P < Q := Nat.lt_of_lt_of_le (Blk.lt hU) hQ
  replace hU := Blk.later hU b10
  have hBQ := Nat.le_trans hB.size hQ
  replace hB := Later.then hB b10
  clear b10 hQ
  go_wp2_with fail
  have hQlt : Q < w10.heap.size := Blk.lt hD
  have hw10 := hB.size
  go_loopw [13, 14, 15] (fun pv at_ i wr => ∃ (j a : Nat) (ps : List (Nat × List (Val × Val))), j ≤ zs.length + 1 ∧ a ≤ l.length ∧ (j = zs.length + 1 → a = l.length) ∧ i = .int .i64 j ∧ at_ = .int .i64 a ∧ ps.length = j ∧ OwnF ptrCell 32 1 wr w10.heap.size pv (ps.map (·.1)) ∧ PartsAt op wr w10.heap.size ps ∧ lists ps = l.take a ∧ Below w10.heap.size w10 wr) (fun _ _ i _ => zs.length + 1 - (intOf i).toNat)
  case atStart => exact ⟨0, 0, [], Nat.zero_le _, Nat.zero_le _, by simp, rfl, rfl, rfl, OwnF.nil, by intro x hx; simp at hx, by simp [lists], Below.refl _ _⟩
  case round =>
    obtain ⟨j, a, ps, hj, ha, hja, rfl, rfl, hpl, hO, hPA, hli, hb⟩ := hrel
    have HO := Lib.hid hO
    have HPA := Lib.hid hPA
    have HLI := Lib.hid hli
    clear hO hPA hli
    rcases Nat.lt_or_ge zs.length j with hjz | hjz
    · have e1 : decide ((j : Int) ≤ (zs.length : Int)) = false := by simp; omega
      go_wp2_with fail
      have hdec : decide (j ≤ zs.length) = false := by simp; omega
      simp only [hdec]
      clear hdec
      have hj2 : j = zs.length + 1 := by omega
      have hal := hja hj2
      have HL : Hid (lists ps = l) := by have := HLI.out; rw [hal, List.take_of_length_le (Nat.le_refl _)] at this; exact this
      obtain ⟨AP, cP, hpv, _⟩ := own_ptr HO.out
      rw [List.length_map] at hpv
      subst hpv
      have hVr := Lib.hid (hV.later hb)
      have hUr := Lib.hid (Blk.later hU hb)
      have hDr := Lib.hid (Blk.later hD hb)
      have hBr := Lib.hid (Later.then hB hb)
      have hpl2 : ps.length ≤ 61 := by omega
      clear hj hjz e1 hja HLI hj2 hal
      clear hpl
      go_loopw [17] (fun v17 wr2 => ∃ (i : Nat) (su sd : St), i ≤ ps.length ∧ v17 = .int .i64 i ∧ StAt wr2 P su ∧ Rep op su (lists (ps.take i)) ∧ StAt wr2 Q sd ∧ Rep op sd (lists (ps.drop (ps.length - i))) ∧ PartsAt op wr2 w10.heap.size ps ∧ OwnF ptrCell 32 1 wr2 w10.heap.size (.slice AP ps.length cP) (ps.map (·.1)) ∧ Blk wr2 g 26 #[.int .u8 v.k, .int .i64 v.n, .string v.s] ∧ Below w.heap.size w wr2) (fun v17 _ => ps.length - (intOf v17).toNat)
      case atStart => exact ⟨0, stNew op, stNew op, Nat.zero_le _, rfl, hUr.out, rep_new op, hDr.out, by rw [Nat.sub_zero, List.drop_length]; exact rep_new op, HPA.out, HO.out, hVr.out, hBr.out⟩
      case round =>
        obtain ⟨i, su, sd, hi, rfl, hU2, hR2, hD2, hRd, hP2, hO2, hV2, hB2⟩ := hrel
        clear HPA HO hVr hUr hDr hBr
        rcases Nat.lt_or_ge i ps.length with hlt | hge
        · obtain ⟨k2, hk2⟩ : ∃ k2 : Nat, (ps.length : Int) - 1 - (i : Int) = (k2 : Int) := ⟨ps.length - 1 - i, by omega⟩
          have hk2l : k2 < ps.length := by omega
          have hx := hP2 ps[i] (List.getElem_mem hlt)
          have hxl := lists_len (List.getElem_mem hlt)
          have hyl := lists_len (List.getElem_mem hk2l)
          have hLlen : (lists ps).length ≤ 300 := by rw [HL.out]; exact hl
          have hs1 := lists_split ps i
          have hs2 := lists_split ps (ps.length - i)
          have oku := rep_ok hop2.1 hop2.2 hR2 (by omega)
          have okd := rep_ok hop2.1 hop2.2 hRd (by omega)
          have rx := rep_fed hop2.1 hop2.2 ps[i].2
          have ry := rep_fed hop2.1 hop2.2 ps[k2].2
          have okx := rep_ok hop2.1 hop2.2 rx (by omega)
          have oky := rep_ok hop2.1 hop2.2 ry (by omega)
          have cu := cnt_bd op (lists (ps.take i))
          have cd := cnt_bd op (lists (ps.drop (ps.length - i)))
          have cx := cnt_bd op ps[i].2
          have cy := cnt_bd op ps[k2].2
          have b1 : su.all + (fedSt op ps[i].2).all < 4611686018427387904 := by rw [hR2.all, rx.all]; omega
          have b2 : su.count + (fedSt op ps[i].2).count < 4611686018427387904 := by rw [hR2.count, rx.count]; omega
          have b3 : sd.all + (fedSt op ps[k2].2).all < 4611686018427387904 := by rw [hRd.all, ry.all]; omega
          have b4 : sd.count + (fedSt op ps[k2].2).count < 4611686018427387904 := by rw [hRd.count, ry.count]; omega
          have hRu := Lib.hid (hR2.add rx)
          have hRdd := Lib.hid (hRd.add ry).turn
          have eop1 : su.op = (fedSt op ps[i].2).op := hR2.kind.trans rx.kind.symm
          have eop2 : sd.op = (fedSt op ps[k2].2).op := hRd.kind.trans ry.kind.symm
          have EU := Lib.hid (lists_take hlt)
          have ED := Lib.hid (lists_drop hk2l)
          have ek : k2 + 1 = ps.length - i := by omega
          rw [ek] at ED
          have ek2 : ps.length - (i + 1) = k2 := by omega
          obtain ⟨gP, hAP, hcell⟩ := own_cell hO2 (i := i) (q := ps[i].1) (by rw [List.getElem?_map, List.getElem?_eq_getElem hlt]; rfl)
          subst hAP
          have hPx : P ≠ ps[i].1 := by have := hx.1; omega
          clear hs1 hs2 cu cd cx cy rx ry hR2 hRd ek hxl hyl hLlen
          have HOKU := Lib.hid oku
          have HOKD := Lib.hid okd
          have HOKX := Lib.hid okx
          have HOKY := Lib.hid oky
          clear oku okd okx oky
          have HO2 := Lib.hid hO2
          have HP2 := Lib.hid hP2
          have HX := Lib.hid hx.2
          clear hO2 hP2 hx
          go_wp2_with fail
          refine (add_any P ps[i].1 su _ _ hU2 HX.out hPx eop1 HOKU.out HOKX.out b1 b2).mono ?_
          rintro e w3 ⟨rfl, hU3, g3⟩
          have hO3 := HO2.out.grown g3 (HO2.out.other hU2 (by decide))
          have hP3 := HP2.out.grown g3 (by omega)
          have hD3 : StAt w3 Q sd := Blk.grown hD2 g3 (fun e => by injection e with e; omega)
          have hV3 := hV2.grown g3 (fun e => by
            injection e with e
            subst e
            unfold StAt Blk at *
            rw [hU2] at hV2
            injection hV2 with hV2
            injection hV2 with _ hV2 _
            revert hV2
            decide)
          have hB3 := hB2.trans (below_grown g3 hB2.size hBP)
          clear HO2 HP2 HX hU2 hD2 hV2 hB2 g3 hcell
          have hy := hP3 ps[k2] (List.getElem_mem hk2l)
          obtain ⟨gP2, hAP2, hcell⟩ := own_cell hO3 (i := k2) (q := ps[k2].1) (by rw [List.getElem?_map, List.getElem?_eq_getElem hk2l]; rfl)
          have hgg : gP2 = gP := by injection hAP2 with e; injection e with e; exact e.symm
          subst hgg
          have HO3 := Lib.hid hO3
          have HP3 := Lib.hid hP3
          have HY := Lib.hid hy.2
          have hQy : Q ≠ ps[k2].1 := by have := hy.1; omega
          clear hO3 hP3 hy hAP2
          go_wp2_with fail
          refine (add_any Q ps[k2].1 sd _ _ hD3 HY.out hQy eop2 HOKD.out HOKY.out b3 b4).mono ?_
          rintro e w4 ⟨rfl, hD4, g4⟩
          have hO4 := HO3.out.grown g4 (HO3.out.other hD3 (by decide))
          have hP4 := HP3.out.grown g4 (by omega)
          have hU4 : StAt w4 P (su.add (fedSt op ps[i].2)) := Blk.grown hU3 g4 (fun e => by injection e with e; omega)
          have hV4 := hV3.grown g4 (fun e => by
            injection e with e
            subst e
            unfold StAt Blk at *
            rw [hD3] at hV3
            injection hV3 with hV3
            injection hV3 with _ hV3 _
            revert hV3
            decide)
          have hB4 := hB3.trans (below_grown g4 hB3.size hBQ)
          clear HO3 HP3 HY hU3 hD3 hV3 hB3 g4 hcell
          go_wp2_with fail
          go_roundw
          case rel =>
            refine ⟨i + 1, _, _, hlt, by go_num, hU4, ?_, hD4, ?_, hP4, hO4, hV4, hB4⟩
            · rw [EU.out]; exact hRu.out
            · rw [ek2, ED.out]; exact hRdd.out
          case measure => simp [intOf]; omega
        · have hi2 : i = ps.length := by omega
          have su1 : su = fedSt op l := by
            rw [hi2, List.take_length, HL.out] at hR2
            exact hR2.same HR.out
          have sd1 : sd = fedSt op l := by
            rw [hi2, Nat.sub_self, List.drop_zero, HL.out] at hRd
            exact hRd.same HR.out
          subst su1 sd1
          have hgP : g ≠ P := fun e => by
            subst e
            unfold StAt Blk at *
            rw [hU2] at hV2
            injection hV2 with hV2
            injection hV2 with _ hV2 _
            revert hV2
            decide
          clear hR2 hRd hP2 hO2 hi
          go_wp2_with fail
          have hdec : decide (i < ps.length) = false := by simp; omega
          try simp only [hdec]
          clear hdec
          refine (answer_any P _ v err _ hU2 HOK.out HA.out).mono ?_
          rintro e wa ⟨rfl, ba⟩
          unfold ansV
          go_wp2_with fail
          have ba2 := Later.then ba (later_new wa (.cells #[.int .u8 v.k, .int .i64 v.n, .string v.s] 26))
          replace hV2 := hV2.later ba2
          replace hD2 := Blk.later hD2 ba2
          replace hB2 := Later.then hB2 ba2
          have hV18 := Blk.new wa 26 #[.int .u8 v.k, .int .i64 v.n, .string v.s]
          generalize wa.alloc (.cells #[.int .u8 v.k, .int .i64 v.n, .string v.s] 26) = wb at *
          generalize wa.heap.size = g18 at *
          clear ba ba2 hU2
          refine (answer_any Q _ v err _ hD2 HOK.out HA.out).mono ?_
          rintro e wc ⟨rfl, bc⟩
          unfold ansV
          go_wp2_with fail
          have bc2 := Later.then bc (later_new wc (.cells #[.int .u8 v.k, .int .i64 v.n, .string v.s] 26))
          replace hV2 := hV2.later bc2
          replace hV18 := hV18.later bc2
          replace hB2 := Later.then hB2 bc2
          have hV20 := Blk.new wc 26 #[.int .u8 v.k, .int .i64 v.n, .string v.s]
          generalize wc.alloc (.cells #[.int .u8 v.k, .int .i64 v.n, .string v.s] 26) = wd at *
          generalize wc.heap.size = g20 at *
          clear bc bc2 hD2
          refine (new_any op _ hop).mono ?_
          rintro e we ⟨R, hR, rfl, hS, be⟩
          have hBR := Nat.le_trans hB2.size hR
          have hg1 : g < R := Nat.lt_of_lt_of_le hV2.lt hR
          have hg2 : g18 < R := Nat.lt_of_lt_of_le hV18.lt hR
          have hg3 : g20 < R := Nat.lt_of_lt_of_le hV20.lt hR
          replace hV2 := hV2.later be
          replace hV18 := hV18.later be
          replace hV20 := hV20.later be
          replace hB2 := Later.then hB2 be
          clear be hR
          go_wp2_with fail
          go_loopw [24] (fun v24 wx => ∃ (k : Nat) (sb : St), k ≤ l.length ∧ v24 = .int .i64 ((k : Int) - 1) ∧ StAt wx R sb ∧ Rep op sb (l.drop k) ∧ Blk wx g 26 #[.int .u8 v.k, .int .i64 v.n, .string v.s] ∧ Blk wx g18 26 #[.int .u8 v.k, .int .i64 v.n, .string v.s] ∧ Blk wx g20 26 #[.int .u8 v.k, .int .i64 v.n, .string v.s] ∧ Below w.heap.size w wx) (fun v24 _ => (intOf v24 + 1).toNat)
          case atStart => exact ⟨l.length, stNew op, Nat.le_refl _, by go_num, hS, by rw [List.drop_length]; exact rep_new op, hV2, hV18, hV20, hB2⟩
          case round =>
            obtain ⟨k, sb, hk, rfl, hS2, hRb, hW2, hW18, hW20, hB3⟩ := hrel
            clear hV2 hV18 hV20 hS hB2
            rcases k with _ | k
            · have hz0 : (((0 : Nat) : Int) - 1) = -1 := by omega
              rw [hz0]
              have sb1 : sb = fedSt op l := by rw [List.drop_zero] at hRb; exact hRb.same HR.out
              subst sb1
              clear hz0 hRb
              go_wp2_with fail
              refine (answer_any R _ v err _ hS2 HOK.out HA.out).mono ?_
              rintro e wa ⟨rfl, ba⟩
              unfold ansV
              have ba2 := Later.then ba (later_new wa (.cells #[.int .u8 v.k, .int .i64 v.n, .string v.s] 26))
              have c1 := val_cells (hW2.later ba2)
              have c2 := val_cells (hW18.later ba2)
              have c3 := val_cells (hW20.later ba2)
              have c4 := val_cells (Blk.new wa 26 #[.int .u8 v.k, .int .i64 v.n, .string v.s])
              replace hB3 := Later.then hB3 ba2
              clear ba ba2 hW2 hW18 hW20 hS2
              go_wp2_with fail
              refine (wakes_any _).mono ?_
              rintro e w7 ⟨rfl, b7⟩
              go_wp2_with fail
              go_ret
              exact ⟨rfl, Later.then hB3 b7⟩
            · have hk1 : (((k + 1 : Nat) : Int) - 1) = (k : Int) := by omega
              rw [hk1]
              have hkl : k < l.length := by omega
              obtain ⟨b, off, rfl, hb9, hpair⟩ := (HRP.out.below hB3).at_ hkl
              have hvk := HV.out l[k] (List.getElem_mem hkl)
              have okb := Lib.hid (rep_ok hop2.1 hop2.2 hRb (by rw [List.length_drop]; omega))
              have hallb : sb.all < 4611686018427387904 := by rw [hRb.all, List.length_drop]; omega
              have HRF := Lib.hid (hRb.feed hop2.1 hop2.2 l[k])
              have HDR := Lib.hid (List.drop_eq_getElem_cons hkl)
              generalize l[k] = x at *
              clear hk1 hRb
              go_wp2_with fail
              have cS := fun y : Ext wr.heap.size wr => hpair.keep (w' := y.w) fun o => y.cell (p := ⟨b, o, none⟩) (by have := hB3.size; simp; omega)
              unfold PairAt at cS
              refine region_cut 11 wr.heap.size wr (Below.refl _ _) (by kernel_rfl) (by kernel_rfl) (by kernel_rfl) (by kernel_rfl) ?_
              simp only [List.take_succ_cons, List.take_zero, List.drop_succ_cons, List.drop_zero]
              repeat (go_big_quiet_step (fail))
              refine wpQuiet_nil ?_
              rintro W2 ⟨x2, hx2⟩
              have hW := x2.h
              rw [← hx2] at hW
              clear hx2 x2 cS hpair
              replace hW2 := hW2.later hW
              replace hW18 := hW18.later hW
              replace hW20 := hW20.later hW
              replace hS2 := Blk.later hS2 hW
              replace hB3 := Later.then hB3 hW
              go_wp2_with fail
              refine (feed_any R sb x.1 x.2 W2 hS2 okb.out hallb hvk).mono ?_
              rintro e w2 ⟨rfl, hS3, hg⟩
              replace hW2 := hW2.grown hg (fun e => by injection e with e; omega)
              replace hW18 := hW18.grown hg (fun e => by injection e with e; omega)
              replace hW20 := hW20.grown hg (fun e => by injection e with e; omega)
              replace hB3 := hB3.trans (below_grown hg hB3.size hBR)
              clear hg hS2
              go_wp2_with fail
              go_roundw
              case rel => exact ⟨k, _, by omega, by go_num, hS3, by rw [HDR.out]; exact HRF.out, hW2, hW18, hW20, hB3⟩
              case measure => simp [intOf]
    have e1 : decide ((j : Int) ≤ (zs.length : Int)) = true := by simp; omega
    obtain ⟨d, hd⟩ : ∃ d : Nat, (l.length : Int) - (a : Int) = (d : Int) := ⟨l.length - a, by omega⟩
    rcases Nat.lt_or_ge j zs.length with hjlt | hjge
    · have e2 : decide ((j : Int) < (zs.length : Int)) = true := by simp; omega
      obtain ⟨bz, offz, rfl, hbz, hcz⟩ := (HRN.out.below (hB.trans (hb.mono hw10))).at_ hjlt
      have hzb := HZ.out zs[j] (List.getElem_mem hjlt)
      generalize zs[j] = z at *
      have hcut := cut_bd z d
      have hne : ((d : Int) + 1 == 0) = false := by rw [beq_eq_false_iff_ne]; omega
      generalize ht : Int.tmod z ((d : Int) + 1) = tt at *
      rcases Int.lt_or_le tt 0 with hneg | hneg
      · have e3 : decide (tt < 0) = true := by simpa using hneg
        obtain ⟨n, hn⟩ : ∃ n : Nat, -tt = (n : Int) := ⟨(-tt).toNat, by omega⟩
        have hnd : n ≤ d := by omega
        rcases Classical.em (a = c) with hca | hca
        · exfalso; omega
        · have HRW := Lib.hid ((HRP.out.below (hB.trans (hb.mono hw10))).more (Nat.le_trans hw10 hb.size))
          have hlen : ((l.drop a).take n).length = n := by rw [List.length_take, List.length_drop]; omega
          have hnil : Hid (a = c → (l.drop a).take n = []) := fun e => List.eq_nil_of_length_eq_zero (by omega)
          have HVP : Hid (∀ x ∈ (l.drop a).take n, x.1.Ok) := fun x hx => HV.out x (List.mem_of_mem_drop (List.mem_of_mem_take hx))
          have HLT : Hid (l.take (a + n) = l.take a ++ (l.drop a).take n) := List.take_add
          have hca2 : ¬ c = a := fun e => hca e.symm
          go_wp2_with fail
          refine (fed_at op _ _ ((l.drop a).take n) _ (by omega) _ hop (HRW.out.part2 a n) (by rw [hlen]; omega) HVP.out).mono ?_
          rintro e wa ⟨p', hp', rfl, hS', ba⟩
          clear HRW hnil HVP
          generalize (l.drop a).take n = lp at *
          have hO := HO.out.later (Later.then ba (later_new wa (.cells #[.pointer (some ⟨p', 0, none⟩)] 32)))
          have hPA := HPA.out.later (Later.then ba (later_new wa (.cells #[.pointer (some ⟨p', 0, none⟩)] 32)))
          have hb0 := hb.size
          replace hb := Later.then hb (Later.then ba (later_new wa (.cells #[.pointer (some ⟨p', 0, none⟩)] 32)))
          have hp10 : w10.heap.size ≤ p' := by exact Nat.le_trans hb0 hp'
          replace hS' := Blk.alloc hS' (.cells #[.pointer (some ⟨p', 0, none⟩)] 32)
          have hG := Blk.new wa 32 #[.pointer (some ⟨p', 0, none⟩)]
          have hbz2 := hb.size
          clear HO HPA ba
          have HO := Lib.hid hO
          have HPA := Lib.hid hPA
          have HG := Lib.hid hG
          have HS2 := Lib.hid hS'
          clear hO hPA hG hS'
          go_wp2_with (first
            | (at_builtin
               refine wpList_append_one rfl (.tmp 91) (.tmp 100) 44 rfl _ 8 Try.underlying44 ptr_info rfl (by omega) p' rfl (by simp [ptrCell, Value.oneCell']) rfl HO.out wa.heap.size rfl HG.out (by rw [List.length_map]; omega) (by rw [List.length_map]; omega) hb.size ?_
               intro v2 w2 o2 g2
               have b2 := below_own HO.out g2 hb.size
               have s2 := Blk.grownOwn HS2.out HO.out (by decide) g2
               have p2 := HPA.out.own HO.out (by decide) g2
               have O2 := Lib.hid o2
               have S2 := Lib.hid s2
               have P2 := Lib.hid p2
               clear o2 g2 HO HG s2 p2 HPA))
          go_roundw
          case rel =>
            refine ⟨j + 1, a + n, ps ++ [(p', lp)], by omega, by omega, by omega, by go_num, by first | go_num | (rw [← hca]; go_num) | (rw [hca]; go_num), by simp [hpl], ?_, ?_, ?_, hb.trans b2⟩
            · rw [List.map_append]; exact O2.out
            · intro x hx
              rcases List.mem_append.1 hx with hx | hx
              · exact P2.out x hx
              · simp at hx; subst hx; exact ⟨hp10, S2.out⟩
            · rw [lists_app, lists_one, HLI.out, HLT.out]
          case measure => simp [intOf]; omega
      · have e3 : decide (tt < 0) = false := by simpa using hneg
        obtain ⟨n, hn⟩ : ∃ n : Nat, tt = (n : Int) := ⟨tt.toNat, by omega⟩
        subst hn
        have hnd : n ≤ d := by omega
        rcases Classical.em (a = c) with hca | hca
        · have hd2 : (l.length : Int) - (c : Int) = (d : Int) := by omega
          have HRW := Lib.hid ((HRP.out.below (hB.trans (hb.mono hw10))).more (Nat.le_trans hw10 hb.size))
          have hlen : ((l.drop a).take n).length = n := by rw [List.length_take, List.length_drop]; omega
          have hnil : Hid (a = c → (l.drop a).take n = []) := fun e => List.eq_nil_of_length_eq_zero (by omega)
          have HVP : Hid (∀ x ∈ (l.drop a).take n, x.1.Ok) := fun x hx => HV.out x (List.mem_of_mem_drop (List.mem_of_mem_take hx))
          have HLT : Hid (l.take (a + n) = l.take a ++ (l.drop a).take n) := List.take_add
          go_wp2_with fail
          refine (fed_at op _ _ ((l.drop a).take n) _ (by omega) _ hop (.inl (hnil.out hca)) (by rw [hlen]; omega) HVP.out).mono ?_
          rintro e wa ⟨p', hp', rfl, hS', ba⟩
          clear HRW hnil HVP
          generalize (l.drop a).take n = lp at *
          have hO := HO.out.later (Later.then ba (later_new wa (.cells #[.pointer (some ⟨p', 0, none⟩)] 32)))
          have hPA := HPA.out.later (Later.then ba (later_new wa (.cells #[.pointer (some ⟨p', 0, none⟩)] 32)))
          have hb0 := hb.size
          replace hb := Later.then hb (Later.then ba (later_new wa (.cells #[.pointer (some ⟨p', 0, none⟩)] 32)))
          have hp10 : w10.heap.size ≤ p' := by exact Nat.le_trans hb0 hp'
          replace hS' := Blk.alloc hS' (.cells #[.pointer (some ⟨p', 0, none⟩)] 32)
          have hG := Blk.new wa 32 #[.pointer (some ⟨p', 0, none⟩)]
          have hbz2 := hb.size
          clear HO HPA ba
          have HO := Lib.hid hO
          have HPA := Lib.hid hPA
          have HG := Lib.hid hG
          have HS2 := Lib.hid hS'
          clear hO hPA hG hS'
          go_wp2_with (first
            | (at_builtin
               refine wpList_append_one rfl (.tmp 91) (.tmp 100) 44 rfl _ 8 Try.underlying44 ptr_info rfl (by omega) p' rfl (by simp [ptrCell, Value.oneCell']) rfl HO.out wa.heap.size rfl HG.out (by rw [List.length_map]; omega) (by rw [List.length_map]; omega) hb.size ?_
               intro v2 w2 o2 g2
               have b2 := below_own HO.out g2 hb.size
               have s2 := Blk.grownOwn HS2.out HO.out (by decide) g2
               have p2 := HPA.out.own HO.out (by decide) g2
               have O2 := Lib.hid o2
               have S2 := Lib.hid s2
               have P2 := Lib.hid p2
               clear o2 g2 HO HG s2 p2 HPA))
          go_roundw
          case rel =>
            refine ⟨j + 1, a + n, ps ++ [(p', lp)], by omega, by omega, by omega, by go_num, by first | go_num | (rw [← hca]; go_num) | (rw [hca]; go_num), by simp [hpl], ?_, ?_, ?_, hb.trans b2⟩
            · rw [List.map_append]; exact O2.out
            · intro x hx
              rcases List.mem_append.1 hx with hx | hx
              · exact P2.out x hx
              · simp at hx; subst hx; exact ⟨hp10, S2.out⟩
            · rw [lists_app, lists_one, HLI.out, HLT.out]
          case measure => simp [intOf]; omega
        · have HRW := Lib.hid ((HRP.out.below (hB.trans (hb.mono hw10))).more (Nat.le_trans hw10 hb.size))
          have hlen : ((l.drop a).take n).length = n := by rw [List.length_take, List.length_drop]; omega
          have hnil : Hid (a = c → (l.drop a).take n = []) := fun e => List.eq_nil_of_length_eq_zero (by omega)
          have HVP : Hid (∀ x ∈ (l.drop a).take n, x.1.Ok) := fun x hx => HV.out x (List.mem_of_mem_drop (List.mem_of_mem_take hx))
          have HLT : Hid (l.take (a + n) = l.take a ++ (l.drop a).take n) := List.take_add
          have hca2 : ¬ c = a := fun e => hca e.symm
          go_wp2_with fail
          refine (fed_at op _ _ ((l.drop a).take n) _ (by omega) _ hop (HRW.out.part2 a n) (by rw [hlen]; omega) HVP.out).mono ?_
          rintro e wa ⟨p', hp', rfl, hS', ba⟩
          clear HRW hnil HVP
          generalize (l.drop a).take n = lp at *
          have hO := HO.out.later (Later.then ba (later_new wa (.cells #[.pointer (some ⟨p', 0, none⟩)] 32)))
          have hPA := HPA.out.later (Later.then ba (later_new wa (.cells #[.pointer (some ⟨p', 0, none⟩)] 32)))
          have hb0 := hb.size
          replace hb := Later.then hb (Later.then ba (later_new wa (.cells #[.pointer (some ⟨p', 0, none⟩)] 32)))
          have hp10 : w10.heap.size ≤ p' := by exact Nat.le_trans hb0 hp'
          replace hS' := Blk.alloc hS' (.cells #[.pointer (some ⟨p', 0, none⟩)] 32)
          have hG := Blk.new wa 32 #[.pointer (some ⟨p', 0, none⟩)]
          have hbz2 := hb.size
          clear HO HPA ba
          have HO := Lib.hid hO
          have HPA := Lib.hid hPA
          have HG := Lib.hid hG
          have HS2 := Lib.hid hS'
          clear hO hPA hG hS'
          go_wp2_with (first
            | (at_builtin
               refine wpList_append_one rfl (.tmp 91) (.tmp 100) 44 rfl _ 8 Try.underlying44 ptr_info rfl (by omega) p' rfl (by simp [ptrCell, Value.oneCell']) rfl HO.out wa.heap.size rfl HG.out (by rw [List.length_map]; omega) (by rw [List.length_map]; omega) hb.size ?_
               intro v2 w2 o2 g2
               have b2 := below_own HO.out g2 hb.size
               have s2 := Blk.grownOwn HS2.out HO.out (by decide) g2
               have p2 := HPA.out.own HO.out (by decide) g2
               have O2 := Lib.hid o2
               have S2 := Lib.hid s2
               have P2 := Lib.hid p2
               clear o2 g2 HO HG s2 p2 HPA))
          go_roundw
          case rel =>
            refine ⟨j + 1, a + n, ps ++ [(p', lp)], by omega, by omega, by omega, by go_num, by first | go_num | (rw [← hca]; go_num) | (rw [hca]; go_num), by simp [hpl], ?_, ?_, ?_, hb.trans b2⟩
            · rw [List.map_append]; exact O2.out
            · intro x hx
              rcases List.mem_append.1 hx with hx | hx
              · exact P2.out x hx
              · simp at hx; subst hx; exact ⟨hp10, S2.out⟩
            · rw [lists_app, lists_one, HLI.out, HLT.out]
          case measure => simp [intOf]; omega
    · have e2 : decide ((j : Int) < (zs.length : Int)) = false := by simp; omega
      have e3 : decide ((d : Int) < 0) = false := by simp
      obtain ⟨n, hn⟩ : ∃ n : Nat, n = d := ⟨d, rfl⟩
      have hnd : n ≤ d := by omega
      subst hn
      rcases Classical.em (a = c) with hca | hca
      · have hd2 : (l.length : Int) - (c : Int) = (n : Int) := by omega
        have HRW := Lib.hid ((HRP.out.below (hB.trans (hb.mono hw10))).more (Nat.le_trans hw10 hb.size))
        have hlen : ((l.drop a).take n).length = n := by rw [List.length_take, List.length_drop]; omega
        have hnil : Hid (a = c → (l.drop a).take n = []) := fun e => List.eq_nil_of_length_eq_zero (by omega)
        have HVP : Hid (∀ x ∈ (l.drop a).take n, x.1.Ok) := fun x hx => HV.out x (List.mem_of_mem_drop (List.mem_of_mem_take hx))
        have HLT : Hid (l.take (a + n) = l.take a ++ (l.drop a).take n) := List.take_add
        go_wp2_with fail
        refine (fed_at op _ _ ((l.drop a).take n) _ (by omega) _ hop (.inl (hnil.out hca)) (by rw [hlen]; omega) HVP.out).mono ?_
        rintro e wa ⟨p', hp', rfl, hS', ba⟩
        clear HRW hnil HVP
        generalize (l.drop a).take n = lp at *
        have hO := HO.out.later (Later.then ba (later_new wa (.cells #[.pointer (some ⟨p', 0, none⟩)] 32)))
        have hPA := HPA.out.later (Later.then ba (later_new wa (.cells #[.pointer (some ⟨p', 0, none⟩)] 32)))
        have hb0 := hb.size
        replace hb := Later.then hb (Later.then ba (later_new wa (.cells #[.pointer (some ⟨p', 0, none⟩)] 32)))
        have hp10 : w10.heap.size ≤ p' := by exact Nat.le_trans hb0 hp'
        replace hS' := Blk.alloc hS' (.cells #[.pointer (some ⟨p', 0, none⟩)] 32)
        have hG := Blk.new wa 32 #[.pointer (some ⟨p', 0, none⟩)]
        have hbz2 := hb.size
        clear HO HPA ba
        have HO := Lib.hid hO
        have HPA := Lib.hid hPA
        have HG := Lib.hid hG
        have HS2 := Lib.hid hS'
        clear hO hPA hG hS'
        go_wp2_with (first
          | (at_builtin
             refine wpList_append_one rfl (.tmp 91) (.tmp 100) 44 rfl _ 8 Try.underlying44 ptr_info rfl (by omega) p' rfl (by simp [ptrCell, Value.oneCell']) rfl HO.out wa.heap.size rfl HG.out (by rw [List.length_map]; omega) (by rw [List.length_map]; omega) hb.size ?_
             intro v2 w2 o2 g2
             have b2 := below_own HO.out g2 hb.size
             have s2 := Blk.grownOwn HS2.out HO.out (by decide) g2
             have p2 := HPA.out.own HO.out (by decide) g2
             have O2 := Lib.hid o2
             have S2 := Lib.hid s2
             have P2 := Lib.hid p2
             clear o2 g2 HO HG s2 p2 HPA))
        go_roundw
        case rel =>
          refine ⟨j + 1, a + n, ps ++ [(p', lp)], by omega, by omega, by omega, by go_num, by first | go_num | (rw [← hca]; go_num) | (rw [hca]; go_num), by simp [hpl], ?_, ?_, ?_, hb.trans b2⟩
          · rw [List.map_append]; exact O2.out
          · intro x hx
            rcases List.mem_append.1 hx with hx | hx
            · exact P2.out x hx
            · simp at hx; subst hx; exact ⟨hp10, S2.out⟩
          · rw [lists_app, lists_one, HLI.out, HLT.out]
        case measure => simp [intOf]; omega
      · have HRW := Lib.hid ((HRP.out.below (hB.trans (hb.mono hw10))).more (Nat.le_trans hw10 hb.size))
        have hlen : ((l.drop a).take n).length = n := by rw [List.length_take, List.length_drop]; omega
        have hnil : Hid (a = c → (l.drop a).take n = []) := fun e => List.eq_nil_of_length_eq_zero (by omega)
        have HVP : Hid (∀ x ∈ (l.drop a).take n, x.1.Ok) := fun x hx => HV.out x (List.mem_of_mem_drop (List.mem_of_mem_take hx))
        have HLT : Hid (l.take (a + n) = l.take a ++ (l.drop a).take n) := List.take_add
        have hca2 : ¬ c = a := fun e => hca e.symm
        go_wp2_with fail
        refine (fed_at op _ _ ((l.drop a).take n) _ (by omega) _ hop (HRW.out.part2 a n) (by rw [hlen]; omega) HVP.out).mono ?_
        rintro e wa ⟨p', hp', rfl, hS', ba⟩
        clear HRW hnil HVP
        generalize (l.drop a).take n = lp at *
        have hO := HO.out.later (Later.then ba (later_new wa (.cells #[.pointer (some ⟨p', 0, none⟩)] 32)))
        have hPA := HPA.out.later (Later.then ba (later_new wa (.cells #[.pointer (some ⟨p', 0, none⟩)] 32)))
        have hb0 := hb.size
        replace hb := Later.then hb (Later.then ba (later_new wa (.cells #[.pointer (some ⟨p', 0, none⟩)] 32)))
        have hp10 : w10.heap.size ≤ p' := by exact Nat.le_trans hb0 hp'
        replace hS' := Blk.alloc hS' (.cells #[.pointer (some ⟨p', 0, none⟩)] 32)
        have hG := Blk.new wa 32 #[.pointer (some ⟨p', 0, none⟩)]
        have hbz2 := hb.size
        clear HO HPA ba
        have HO := Lib.hid hO
        have HPA := Lib.hid hPA
        have HG := Lib.hid hG
        have HS2 := Lib.hid hS'
        clear hO hPA hG hS'
        go_wp2_with (first
          | (at_builtin
             refine wpList_append_one rfl (.tmp 91) (.tmp 100) 44 rfl _ 8 Try.underlying44 ptr_info rfl (by omega) p' rfl (by simp [ptrCell, Value.oneCell']) rfl HO.out wa.heap.size rfl HG.out (by rw [List.length_map]; omega) (by rw [List.length_map]; omega) hb.size ?_
             intro v2 w2 o2 g2
             have b2 := below_own HO.out g2 hb.size
             have s2 := Blk.grownOwn HS2.out HO.out (by decide) g2
             have p2 := HPA.out.own HO.out (by decide) g2
             have O2 := Lib.hid o2
             have S2 := Lib.hid s2
             have P2 := Lib.hid p2
             clear o2 g2 HO HG s2 p2 HPA))
        go_roundw
        case rel =>
          refine ⟨j + 1, a + n, ps ++ [(p', lp)], by omega, by omega, by omega, by go_num, by first | go_num | (rw [← hca]; go_num) | (rw [hca]; go_num), by simp [hpl], ?_, ?_, ?_, hb.trans b2⟩
          · rw [List.map_append]; exact O2.out
          · intro x hx
            rcases List.mem_append.1 hx with hx | hx
            · exact P2.out x hx
            · simp at hx; subst hx; exact ⟨hp10, S2.out⟩
          · rw [lists_app, lists_one, HLI.out, HLT.out]
        case measure => simp [intOf]; omega
end Go.Proofs.Ytjpgahfabmgpiaa
