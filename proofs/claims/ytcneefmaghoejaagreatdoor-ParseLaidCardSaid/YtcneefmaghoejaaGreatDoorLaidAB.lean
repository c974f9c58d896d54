/- ParseLaid. Printed by gen_laid13.py. -/
import Derived.Test.YtcneefmaghoejaaGreatDoorB48
import Derived.Test.YtcneefmaghoejaaGreatDoorB40
namespace Go.Proofs.YtcneefmaghoejaaGreatDoor
open Go.ChangeShapes Go.WideShapes Go.ChangeAt Go.RowKit Go.Shelf
set_option linter.unusedVariables false
set_option linter.unusedSimpArgs false
set_option maxHeartbeats 4000000 in
set_option maxRecDepth 100000 in
theorem laidA_any (s : ByteArray) (w : World) (hE : LexEnv w) : Calls Tryz.prog 4 #[.string s] w (namePost true w) := by
  by_cases hbig : 1000 < s.size
  · have HE := Lib.hid hE
    clear hE
    go_enter Tryz.func4, Tryz.ntmps4
    go_wp2_with fail
    refine (wakes_any _ HE.out).mono ?_
    rintro e w1 ⟨rfl, b1⟩
    go_wp2_with fail
    go_ret
    exact ⟨rfl, b1⟩
  · have HE := Lib.hid hE
    have HSS := Lib.hid (show s.size ≤ 4294967280 by omega)
    have HSS2 := Lib.hid (show s.size ≤ 1000 by omega)
    have HBW := Lib.hid (Below.refl w.heap.size w)
    have hssz : s.size ≤ 1000 := by omega
    clear hE
    cases hl : lexL s.data.toList with
    | error px =>
      obtain ⟨p, x⟩ := px
      go_enter Tryz.func4, Tryz.ntmps4
      have HX := Lib.hid (par_lex hl)
      have HL := Lib.hid hl
      have hx0 : ((x : Int) != 0) = true := by rcases lexL_errs hl with rfl | rfl <;> rfl
      clear hl
      go_wp2_with fail
      refine (glex_err HL.out HE.out HSS.out).mono ?_
      rintro e v1 ⟨rfl, b⟩
      have HE9 := Lib.hid (HE.out.later b)
      have HBW9 := Lib.hid (Later.then HBW.out b)
      replace HE := HE9
      clear HE9
      replace HBW := HBW9
      clear HBW9
      clear b
      go_wp2_with fail
      refine (gpar_any s _ HE.out (HSS.out)).mono ?_
      rintro e w1 ⟨y1, rfl, hat1, b1⟩
      have HAT1 := Lib.hid hat1
      clear hat1
      have HE9 := Lib.hid (HE.out.later b1)
      have HBW9 := Lib.hid (Later.then HBW.out b1)
      replace HE := HE9
      clear HE9
      replace HBW := HBW9
      clear HBW9
      clear b1
      obtain ⟨cs1, hcs1⟩ : ∃ cs, cs = (stC y1).toArray := ⟨_, rfl⟩
      have HSZ := Lib.hid (show (Tryz.prog.info? 35).map (·.size) = some cs1.size by rw [hcs1]; exact gst_info)
      have HGS := Lib.hid (show gst0.size = cs1.size by rw [hcs1, gst_siz]; exact gst_siz _)
      have HON := Lib.hid (show cs1.all (·.oneCell') = true by rw [hcs1]; exact gst_one _)
      have HCS1 := Lib.hid hcs1
      unfold stV
      rw [← hcs1]
      clear hcs1
      generalize hpp1 : parP _ = pp1
      generalize hpx1 : parX _ = px1
      have HPP1 := Lib.hid hpp1
      have HPX1 := Lib.hid hpx1
      clear hpp1 hpx1
      have bn1 := later_new w1 (.cells cs1 35)
      have HB1 := Lib.hid (Blk.new w1 35 cs1)
      go_upto_region 6 with (first
        | (refine wpList_store_row rfl 35 (.tmp 6) (.tmp 38) rfl w1.heap.size cs1 rfl rfl 35 gst0 (Blk.new w1 35 gst0) HSZ.out HGS.out HON.out ?_
           rw [alloc_row]))
      change Code.wp _ _ _ _ (w1.alloc (.cells cs1 35))
      have HE9 := Lib.hid (HE.out.later bn1)
      have HBW9 := Lib.hid (Later.then HBW.out bn1)
      have HAT19 := Lib.hid (St.at_.keep (btw_later bn1) HAT1.out)
      replace HE := HE9
      clear HE9
      replace HBW := HBW9
      clear HBW9
      replace HAT1 := HAT19
      clear HAT19
      clear bn1 HSZ HGS HON
      generalize hbl1 : w1.heap.size = q1 at *
      generalize hW : (World.alloc w1 _) = W1 at *
      clear hW hbl1
      have hp := HPP1.out.symm.trans HX.out.2
      have hx := HPX1.out.symm.trans HX.out.1
      subst hp hx
      have t1 : ((px1 : Int) == (px1 : Int)) = true := by simp
      have t2 : ((pp1 : Int) == (pp1 : Int)) = true := by simp
      clear hx0
      go_wp2_with fail
      refine (glex_err HL.out HE.out HSS.out).mono ?_
      rintro e v2 ⟨rfl, b⟩
      have HE9 := Lib.hid (HE.out.later b)
      have HBW9 := Lib.hid (Later.then HBW.out b)
      have HAT19 := Lib.hid (St.at_.keep (btw_later b) HAT1.out)
      have HB19 := Lib.hid (HB1.out.later b)
      replace HE := HE9
      clear HE9
      replace HBW := HBW9
      clear HBW9
      replace HAT1 := HAT19
      clear HAT19
      replace HB1 := HB19
      clear HB19
      clear b
      go_wp2_with fail
      refine (wakes_any _ HE.out).mono ?_
      rintro e w4 ⟨rfl, b4⟩
      go_wp2_with fail
      go_ret
      exact ⟨rfl, Later.then HBW.out b4⟩
    | ok l =>
      go_enter Tryz.func4, Tryz.ntmps4
      obtain ⟨pre, ws, ps, hcut⟩ := cut_of hl
      obtain ⟨m, hm, hmw⟩ := lay_lex hcut (by simp; omega) none
      have hwd : m.map (·.w) = l.map (·.w) := by rw [hmw, layW_none, hcut.words]
      have HCU := Lib.hid hcut
      have HL := Lib.hid hl
      have HM := Lib.hid hm
      have HWD := Lib.hid hwd
      have HSL := Lib.hid (show (layL none 0 ps).length ≤ 4000 by
        have h3 := (layL_len2 none 0 ps hcut.pcs.ne).1
        have e3 := congrArg List.length hcut.txt
        simp only [List.length_append] at e3
        have : s.data.toList.length = s.size := by simp
        omega)
      have HN := Lib.hid (lexL_ok hl).2.1
      have hx0 : ((0 : Int) != 0) = false := rfl
      clear hl hm hmw hwd hcut
      go_wp2_with fail
      refine (glex_ok HL.out HE.out (HSS.out)).mono ?_
      rintro e v1 ⟨A1, c1, rfl, ho, b⟩
      obtain ⟨gl1, rfl, hgb, hgl, hc⟩ := ho.cells (by have := (lexL_cons HL.out); obtain ⟨a, b, h⟩ := this; rw [h]; simp)
      have HK1 := Lib.hid (TkAt.mk hgl hc)
      clear ho hgb hgl hc
      have HE9 := Lib.hid (HE.out.later b)
      have HBW9 := Lib.hid (Later.then HBW.out b)
      replace HE := HE9
      clear HE9
      replace HBW := HBW9
      clear HBW9
      clear b
      go_wp2_with fail
      refine (laid_any s none HCU.out HN.out (by have := HSS2.out; omega) gl1 c1 _ HK1.out.lt HK1.out.cell).mono ?_
      rintro e v2 ⟨⟨T, rfl, hT⟩, b⟩
      have HT := Lib.hid hT
      have HMT := Lib.hid (show lexL T.data.toList = .ok m by rw [hT]; exact HM.out)
      have HTS := Lib.hid (show T.size ≤ 4294967280 by
        have h1 := HSL.out
        rw [← hT] at h1
        have : T.data.toList.length = T.size := by simp
        omega)
      clear hT hx0
      have HE9 := Lib.hid (HE.out.later b)
      have HBW9 := Lib.hid (Later.then HBW.out b)
      have HK19 := Lib.hid (HK1.out.later b)
      replace HE := HE9
      clear HE9
      replace HBW := HBW9
      clear HBW9
      replace HK1 := HK19
      clear HK19
      clear b
      go_wp2_with fail
      refine (gpar_any s _ HE.out (HSS.out)).mono ?_
      rintro e w1 ⟨y1, rfl, hat1, b1⟩
      have HAT1 := Lib.hid hat1
      clear hat1
      have HE9 := Lib.hid (HE.out.later b1)
      have HBW9 := Lib.hid (Later.then HBW.out b1)
      have HK19 := Lib.hid (HK1.out.later b1)
      replace HE := HE9
      clear HE9
      replace HBW := HBW9
      clear HBW9
      replace HK1 := HK19
      clear HK19
      clear b1
      obtain ⟨cs1, hcs1⟩ : ∃ cs, cs = (stC y1).toArray := ⟨_, rfl⟩
      have HSZ := Lib.hid (show (Tryz.prog.info? 35).map (·.size) = some cs1.size by rw [hcs1]; exact gst_info)
      have HGS := Lib.hid (show gst0.size = cs1.size by rw [hcs1, gst_siz]; exact gst_siz _)
      have HON := Lib.hid (show cs1.all (·.oneCell') = true by rw [hcs1]; exact gst_one _)
      have HCS1 := Lib.hid hcs1
      unfold stV
      rw [← hcs1]
      clear hcs1
      generalize hpp1 : parP _ = pp1
      generalize hpx1 : parX _ = px1
      have HPP1 := Lib.hid hpp1
      have HPX1 := Lib.hid hpx1
      clear hpp1 hpx1
      have bn1 := later_new w1 (.cells cs1 35)
      have HB1 := Lib.hid (Blk.new w1 35 cs1)
      go_upto_region 10 with (first
        | (refine wpList_store_row rfl 35 (.tmp 13) (.tmp 64) rfl w1.heap.size cs1 rfl rfl 35 gst0 (Blk.new w1 35 gst0) HSZ.out HGS.out HON.out ?_
           rw [alloc_row]))
      change Code.wp _ _ _ _ (w1.alloc (.cells cs1 35))
      have HE9 := Lib.hid (HE.out.later bn1)
      have HBW9 := Lib.hid (Later.then HBW.out bn1)
      have HK19 := Lib.hid (HK1.out.later bn1)
      have HAT19 := Lib.hid (St.at_.keep (btw_later bn1) HAT1.out)
      replace HE := HE9
      clear HE9
      replace HBW := HBW9
      clear HBW9
      replace HK1 := HK19
      clear HK19
      replace HAT1 := HAT19
      clear HAT19
      clear bn1 HSZ HGS HON
      generalize hbl1 : w1.heap.size = q1 at *
      generalize hW : (World.alloc w1 _) = W1 at *
      clear hW hbl1
      go_wp2_with fail
      refine (gpar_any T _ HE.out (HTS.out)).mono ?_
      rintro e w2 ⟨y2, rfl, hat2, b2⟩
      have HAT2 := Lib.hid hat2
      clear hat2
      have HE9 := Lib.hid (HE.out.later b2)
      have HBW9 := Lib.hid (Later.then HBW.out b2)
      have HK19 := Lib.hid (HK1.out.later b2)
      have HAT19 := Lib.hid (St.at_.keep (btw_later b2) HAT1.out)
      have HB19 := Lib.hid (HB1.out.later b2)
      replace HE := HE9
      clear HE9
      replace HBW := HBW9
      clear HBW9
      replace HK1 := HK19
      clear HK19
      replace HAT1 := HAT19
      clear HAT19
      replace HB1 := HB19
      clear HB19
      clear b2
      obtain ⟨cs2, hcs2⟩ : ∃ cs, cs = (stC y2).toArray := ⟨_, rfl⟩
      have HSZ := Lib.hid (show (Tryz.prog.info? 35).map (·.size) = some cs2.size by rw [hcs2]; exact gst_info)
      have HGS := Lib.hid (show gst0.size = cs2.size by rw [hcs2, gst_siz]; exact gst_siz _)
      have HON := Lib.hid (show cs2.all (·.oneCell') = true by rw [hcs2]; exact gst_one _)
      have HCS2 := Lib.hid hcs2
      unfold stV
      rw [← hcs2]
      clear hcs2
      generalize hpp2 : parP _ = pp2
      generalize hpx2 : parX _ = px2
      have HPP2 := Lib.hid hpp2
      have HPX2 := Lib.hid hpx2
      clear hpp2 hpx2
      have bn2 := later_new w2 (.cells cs2 35)
      have HB2 := Lib.hid (Blk.new w2 35 cs2)
      go_upto_region 11 with (first
        | (refine wpList_store_row rfl 35 (.tmp 16) (.tmp 70) rfl w2.heap.size cs2 rfl rfl 35 gst0 (Blk.new w2 35 gst0) HSZ.out HGS.out HON.out ?_
           rw [alloc_row]))
      change Code.wp _ _ _ _ (w2.alloc (.cells cs2 35))
      have HE9 := Lib.hid (HE.out.later bn2)
      have HBW9 := Lib.hid (Later.then HBW.out bn2)
      have HK19 := Lib.hid (HK1.out.later bn2)
      have HAT19 := Lib.hid (St.at_.keep (btw_later bn2) HAT1.out)
      have HB19 := Lib.hid (HB1.out.later bn2)
      have HAT29 := Lib.hid (St.at_.keep (btw_later bn2) HAT2.out)
      replace HE := HE9
      clear HE9
      replace HBW := HBW9
      clear HBW9
      replace HK1 := HK19
      clear HK19
      replace HAT1 := HAT19
      clear HAT19
      replace HB1 := HB19
      clear HB19
      replace HAT2 := HAT29
      clear HAT29
      clear bn2 HSZ HGS HON
      generalize hbl2 : w2.heap.size = q2 at *
      generalize hW : (World.alloc w2 _) = W2 at *
      clear hW hbl2
      go_wp2_with fail
      refine (glex_ok HMT.out HE.out (HTS.out)).mono ?_
      rintro e v3 ⟨A3, c3, rfl, ho, b⟩
      obtain ⟨gl3, rfl, hgb, hgl, hc⟩ := ho.cells (by have := (lexL_cons HMT.out); obtain ⟨a, b, h⟩ := this; rw [h]; simp)
      have HK3 := Lib.hid (TkAt.mk hgl hc)
      clear ho hgb hgl hc
      have HE9 := Lib.hid (HE.out.later b)
      have HBW9 := Lib.hid (Later.then HBW.out b)
      have HK19 := Lib.hid (HK1.out.later b)
      have HAT19 := Lib.hid (St.at_.keep (btw_later b) HAT1.out)
      have HB19 := Lib.hid (HB1.out.later b)
      have HAT29 := Lib.hid (St.at_.keep (btw_later b) HAT2.out)
      have HB29 := Lib.hid (HB2.out.later b)
      replace HE := HE9
      clear HE9
      replace HBW := HBW9
      clear HBW9
      replace HK1 := HK19
      clear HK19
      replace HAT1 := HAT19
      clear HAT19
      replace HB1 := HB19
      clear HB19
      replace HAT2 := HAT29
      clear HAT29
      replace HB2 := HB29
      clear HB29
      clear b
      obtain ⟨k1, k2, k3, k4⟩ := par_words HL.out HMT.out HWD.out
      rw [HPX1.out, HPX2.out] at k1
      rw [HPP1.out, HPP2.out, HPX1.out] at k3
      rw [HPP1.out, HPP2.out, HPX1.out] at k4
      subst k1
      have hat2 := HAT2.out
      rw [k2] at hat2
      have HST := Lib.hid (stmts_true HCS1.out HCS2.out HAT1.out hat2 (par_slim s.data.toList))
      have hml : m.length = l.length := by have := congrArg List.length HWD.out; simpa using this
      have HN3 := Lib.hid HN.out
      generalize hln : l.length = n at *
      have HLN := Lib.hid hln
      rw [hml]
      have K3 := Lib.hid k3
      have K4 := Lib.hid k4
      have t1 : ((px2 : Int) != (px2 : Int)) = false := by simp
      have t2 : ((n : Int) != (n : Int)) = false := by simp
      clear k2 k3 k4 hat2 hln hml
      go_wp2_with (first
        | (refine wpList_load_rowG rfl 35 (.tmp 13) rfl q1 rfl 35 cs1 (0, 0) _ HB1.out Tryz.underlying35 rfl (st_csz HCS1.out) ?_)
        | (refine wpList_load_rowG rfl 35 (.tmp 16) rfl q2 rfl 35 cs2 (0, 0) _ HB2.out Tryz.underlying35 rfl (st_csz HCS2.out) ?_))
      refine HST.out.mono ?_
      clear HST t1 t2
      rintro e v4 ⟨rfl, b⟩
      have HE9 := Lib.hid (HE.out.later b)
      have HBW9 := Lib.hid (Later.then HBW.out b)
      have HK19 := Lib.hid (HK1.out.later b)
      have HAT19 := Lib.hid (St.at_.keep (btw_later b) HAT1.out)
      have HB19 := Lib.hid (HB1.out.later b)
      have HAT29 := Lib.hid (St.at_.keep (btw_later b) HAT2.out)
      have HB29 := Lib.hid (HB2.out.later b)
      have HK39 := Lib.hid (HK3.out.later b)
      replace HE := HE9
      clear HE9
      replace HBW := HBW9
      clear HBW9
      replace HK1 := HK19
      clear HK19
      replace HAT1 := HAT19
      clear HAT19
      replace HB1 := HB19
      clear HB19
      replace HAT2 := HAT29
      clear HAT29
      replace HB2 := HB29
      clear HB29
      replace HK3 := HK39
      clear HK39
      clear b
      by_cases h31 : px2 = 31
      · have t3 : ((px2 : Int) != 31) = false := by simp; omega
        obtain ⟨i0, ta, tb, a1, a2, a3, a4⟩ := K4.out h31
        have HI := Lib.hid (And.intro a1 a2)
        have HP1 := Lib.hid a3
        have HP2 := Lib.hid a4
        clear h31 a1 a2 a3 a4 K3 K4
        go_wp2_with fail
        clear t3
        go_loopw [22] (fun iv wr => ∃ i : Nat, i ≤ i0 ∧ iv = .int .i64 i ∧ Below v4.heap.size v4 wr) (fun iv _ => i0 - (intOf iv).toNat)
        case atStart => exact ⟨0, Nat.zero_le _, rfl, Below.refl _ _⟩
        case round =>
          obtain ⟨i, hi, rfl, hbw⟩ := hrel
          obtain ⟨x1, h1⟩ : ∃ x, l[i]? = some x := ⟨_, List.getElem?_eq_getElem (by have := (List.getElem?_eq_some_iff.1 HI.out.1).1; omega)⟩
          obtain ⟨x2, h2⟩ : ∃ x, m[i]? = some x := ⟨_, List.getElem?_eq_getElem (by have := (List.getElem?_eq_some_iff.1 HI.out.2).1; omega)⟩
          have hin : (i : Int) < (n : Int) := by have := (List.getElem?_eq_some_iff.1 HI.out.1).1; have := HLN.out; omega
          have hib : i ≤ 5000 := by have := (List.getElem?_eq_some_iff.1 HI.out.1).1; have := HLN.out; have := HN3.out; omega
          have d1 := ((HK1.out.later hbw).cell i x1 h1).2.2.2
          have d2 := ((HK3.out.later hbw).cell i x2 h2).2.2.2
          by_cases he : x1.p = pp1 ∧ x2.p = pp2
          · have z1 : ((x1.p : Int) == (pp1 : Int)) = true := by simp; omega
            have z2 : ((x2.p : Int) == (pp2 : Int)) = true := by simp; omega
            have HE9 := Lib.hid (HE.out.later hbw)
            have HB9 := Lib.hid (Later.then HBW.out hbw)
            clear h1 h2 he hi
            go_wp2_with fail
            refine (wakes_any _ HE9.out).mono ?_
            rintro e w9 ⟨rfl, b9⟩
            go_wp2_with fail
            go_ret
            exact ⟨rfl, Later.then HB9.out b9⟩
          · have hlt : i < i0 := by
              apply Classical.byContradiction
              intro hn
              have hie : i = i0 := by omega
              subst hie
              have y1 := HI.out.1
              have y2 := HI.out.2
              rw [h1] at y1
              rw [h2] at y2
              injection y1 with y1
              injection y2 with y2
              exact he ⟨by rw [y1, ← HP1.out], by rw [y2, ← HP2.out]⟩
            have HLT := Lib.hid hlt
            by_cases he1 : x1.p = pp1
            · have z1 : ((x1.p : Int) == (pp1 : Int)) = true := by simp; omega
              have z2 : ((x2.p : Int) == (pp2 : Int)) = false := by simp; omega
              clear h1 h2 he he1 hi hlt
              go_wp2_with fail
              go_roundw
              case rel => exact ⟨i + 1, by have := HLT.out; omega, by go_num, hbw⟩
              case measure => have := HLT.out; simp [intOf]; omega
            · have z1 : ((x1.p : Int) == (pp1 : Int)) = false := by simp; omega
              clear h1 h2 he he1 hi hlt
              go_wp2_with fail
              go_roundw
              case rel => exact ⟨i + 1, by have := HLT.out; omega, by go_num, hbw⟩
              case measure => have := HLT.out; simp [intOf]; omega
      · have t3 : ((px2 : Int) != 31) = true := by simp; omega
        obtain ⟨rfl, rfl⟩ := K3.out h31
        clear h31
        go_wp2_with fail
        refine (wakes_any _ HE.out).mono ?_
        rintro e w9 ⟨rfl, b9⟩
        go_wp2_with fail
        go_ret
        exact ⟨rfl, Later.then HBW.out b9⟩
end Go.Proofs.YtcneefmaghoejaaGreatDoor
