/- ParseCuts. Printed by gen_cuts.py. -/
import Derived.Test.YtcneefmaghoejaaGreatDoorLcB
import Derived.Test.YtcneefmaghoejaaGreatDoorB40
namespace Go.Proofs.YtcneefmaghoejaaGreatDoor
open Go.ChangeShapes Go.WideShapes Go.ChangeAt Go.RowKit Go.Shelf
set_option linter.unusedVariables false
set_option linter.unusedSimpArgs false
set_option maxHeartbeats 4000000 in
set_option maxRecDepth 100000 in
theorem cutA_any (s more : ByteArray) (w : World) (hE : LexEnv w) : Calls Tryz.prog 5 #[.string s, .string more] w (namePost true w) := by
  by_cases hbig : 1000 < s.size
  · have HE := Lib.hid hE
    clear hE
    go_enter Tryz.func5, Tryz.ntmps5
    go_wp2_with fail
    refine (wakes_any _ HE.out).mono ?_
    rintro e w1 ⟨rfl, b1⟩
    go_wp2_with fail
    go_ret
    exact ⟨rfl, b1⟩
  · by_cases hbig2 : 100 < more.size
    · have HE := Lib.hid hE
      clear hE
      go_enter Tryz.func5, Tryz.ntmps5
      go_wp2_with fail
      refine (wakes_any _ HE.out).mono ?_
      rintro e w1 ⟨rfl, b1⟩
      go_wp2_with fail
      go_ret
      exact ⟨rfl, b1⟩
    · have HE := Lib.hid hE
      have HSS := Lib.hid (show s.size ≤ 4294967280 by omega)
      have HSS2 := Lib.hid (show s.size ≤ 1000 by omega)
      have HMO := Lib.hid (show more.size ≤ 100 by omega)
      have HBW := Lib.hid (Below.refl w.heap.size w)
      have b1 : ¬ 1000 < s.size := by omega
      have b2 : ¬ 100 < more.size := by omega
      clear hE
      cases hl : lexL s.data.toList with
      | error px =>
        obtain ⟨p, x⟩ := px
        go_enter Tryz.func5, Tryz.ntmps5
        have HL := Lib.hid hl
        have HX := Lib.hid (par_lex hl)
        have hx31 : ((x : Int) != 31) = true := by rcases lexL_errs hl with rfl | rfl <;> rfl
        clear hl
        go_wp2_with fail
        refine (gpar_any s _ HE.out (HSS.out)).mono ?_
        rintro e w1 ⟨y1, rfl, hat1, b1⟩
        have HAT1 := Lib.hid hat1
        clear hat1
        have HE9 := Lib.hid (HE.out.later b1)
        have HBW9 := Lib.hid (Later.then HBW.out b1)
        replace HE := HE9
        clear HE9
        replace HBW := HBW9
        clear HBW9
        clear b1
        obtain ⟨cs1, hcs1⟩ : ∃ cs, cs = (stC y1).toArray := ⟨_, rfl⟩
        have HSZ := Lib.hid (show (Tryz.prog.info? 35).map (·.size) = some cs1.size by rw [hcs1]; exact gst_info)
        have HGS := Lib.hid (show gst0.size = cs1.size by rw [hcs1, gst_siz]; exact gst_siz _)
        have HON := Lib.hid (show cs1.all (·.oneCell') = true by rw [hcs1]; exact gst_one _)
        have HCS1 := Lib.hid hcs1
        unfold stV
        rw [← hcs1]
        clear hcs1
        generalize hpp1 : parP _ = pp1
        generalize hpx1 : parX _ = px1
        have HPP1 := Lib.hid hpp1
        have HPX1 := Lib.hid hpx1
        clear hpp1 hpx1
        have bn1 := later_new w1 (.cells cs1 35)
        have HB1 := Lib.hid (Blk.new w1 35 cs1)
        go_upto_region 4 with (first
          | (refine wpList_store_row rfl 35 (.tmp 5) (.tmp 35) rfl w1.heap.size cs1 rfl rfl 35 gst0 (Blk.new w1 35 gst0) HSZ.out HGS.out HON.out ?_
             rw [alloc_row]))
        change Code.wp _ _ _ _ (w1.alloc (.cells cs1 35))
        have HE9 := Lib.hid (HE.out.later bn1)
        have HBW9 := Lib.hid (Later.then HBW.out bn1)
        have HAT19 := Lib.hid (St.at_.keep (btw_later bn1) HAT1.out)
        replace HE := HE9
        clear HE9
        replace HBW := HBW9
        clear HBW9
        replace HAT1 := HAT19
        clear HAT19
        clear bn1 HSZ HGS HON
        generalize hbl1 : w1.heap.size = q1 at *
        generalize hW : (World.alloc w1 _) = W1 at *
        clear hW hbl1
        have hx := HPX1.out.symm.trans HX.out.1
        subst hx
        go_wp2_with fail
        refine (glex_err HL.out HE.out HSS.out).mono ?_
        rintro e v1 ⟨rfl, b⟩
        have HE9 := Lib.hid (HE.out.later b)
        have HBW9 := Lib.hid (Later.then HBW.out b)
        have HAT19 := Lib.hid (St.at_.keep (btw_later b) HAT1.out)
        have HB19 := Lib.hid (HB1.out.later b)
        replace HE := HE9
        clear HE9
        replace HBW := HBW9
        clear HBW9
        replace HAT1 := HAT19
        clear HAT19
        replace HB1 := HB19
        clear HB19
        clear b
        go_wp2_with fail
        refine (wakes_any _ HE.out).mono ?_
        rintro e w9 ⟨rfl, b9⟩
        go_wp2_with fail
        go_ret
        exact ⟨rfl, Later.then HBW.out b9⟩
      | ok l =>
        go_enter Tryz.func5, Tryz.ntmps5
        have HL := Lib.hid hl
        have HN := Lib.hid (lexL_ok hl).2.1
        clear hl
        go_wp2_with fail
        refine (gpar_any s _ HE.out (HSS.out)).mono ?_
        rintro e w1 ⟨y1, rfl, hat1, b1⟩
        have HAT1 := Lib.hid hat1
        clear hat1
        have HE9 := Lib.hid (HE.out.later b1)
        have HBW9 := Lib.hid (Later.then HBW.out b1)
        replace HE := HE9
        clear HE9
        replace HBW := HBW9
        clear HBW9
        clear b1
        obtain ⟨cs1, hcs1⟩ : ∃ cs, cs = (stC y1).toArray := ⟨_, rfl⟩
        have HSZ := Lib.hid (show (Tryz.prog.info? 35).map (·.size) = some cs1.size by rw [hcs1]; exact gst_info)
        have HGS := Lib.hid (show gst0.size = cs1.size by rw [hcs1, gst_siz]; exact gst_siz _)
        have HON := Lib.hid (show cs1.all (·.oneCell') = true by rw [hcs1]; exact gst_one _)
        have HCS1 := Lib.hid hcs1
        unfold stV
        rw [← hcs1]
        clear hcs1
        generalize hpp1 : parP _ = pp1
        generalize hpx1 : parX _ = px1
        have HPP1 := Lib.hid hpp1
        have HPX1 := Lib.hid hpx1
        clear hpp1 hpx1
        have bn1 := later_new w1 (.cells cs1 35)
        have HB1 := Lib.hid (Blk.new w1 35 cs1)
        go_upto_region 4 with (first
          | (refine wpList_store_row rfl 35 (.tmp 5) (.tmp 35) rfl w1.heap.size cs1 rfl rfl 35 gst0 (Blk.new w1 35 gst0) HSZ.out HGS.out HON.out ?_
             rw [alloc_row]))
        change Code.wp _ _ _ _ (w1.alloc (.cells cs1 35))
        have HE9 := Lib.hid (HE.out.later bn1)
        have HBW9 := Lib.hid (Later.then HBW.out bn1)
        have HAT19 := Lib.hid (St.at_.keep (btw_later bn1) HAT1.out)
        replace HE := HE9
        clear HE9
        replace HBW := HBW9
        clear HBW9
        replace HAT1 := HAT19
        clear HAT19
        clear bn1 HSZ HGS HON
        generalize hbl1 : w1.heap.size = q1 at *
        generalize hW : (World.alloc w1 _) = W1 at *
        clear hW hbl1
        go_wp2_with fail
        refine (glex_ok HL.out HE.out (HSS.out)).mono ?_
        rintro e v1 ⟨A1, c1, rfl, ho, b⟩
        obtain ⟨gl1, rfl, hgb, hgl, hc⟩ := ho.cells (by have := (lexL_cons HL.out); obtain ⟨a, b, h⟩ := this; rw [h]; simp)
        have HK1 := Lib.hid (TkAt.mk hgl hc)
        clear ho hgb hgl hc
        have HE9 := Lib.hid (HE.out.later b)
        have HBW9 := Lib.hid (Later.then HBW.out b)
        have HAT19 := Lib.hid (St.at_.keep (btw_later b) HAT1.out)
        have HB19 := Lib.hid (HB1.out.later b)
        replace HE := HE9
        clear HE9
        replace HBW := HBW9
        clear HBW9
        replace HAT1 := HAT19
        clear HAT19
        replace HB1 := HB19
        clear HB19
        clear b
        by_cases hx : px1 = 31
        · obtain ⟨k0, a, hka, hpa, hwa⟩ := wrong_at HL.out (HPX1.out.trans hx)
          have hpp : pp1 = a.p := HPP1.out.symm.trans hpa
          subst hx hpp
          have t1 : (((31 : Nat) : Int) != 31) = false := rfl
          have t0 : ((0 : Int) != 0) = false := rfl
          have HKA := Lib.hid hka
          have HWA := Lib.hid hwa
          have hk0 : k0 < l.length := (List.getElem?_eq_some_iff.1 hka).1
          have hplb : a.p ≤ s.size := by
            obtain ⟨pre, ws, ps, hc⟩ := cut_of HL.out
            obtain ⟨t, q1, _, q3⟩ := hc.place (i := k0) (by have := hc.len; omega)
            rw [hka] at q1
            injection q1 with q1
            rw [q1]
            have : s.data.toList.length = s.size := by simp
            omega
          have HKB := Lib.hid (fun (b : Tok) (hb : l[k0 + 1]? = some b) => show b.p ≤ s.size by
            obtain ⟨pre, ws, ps, hc⟩ := cut_of HL.out
            obtain ⟨t, q1, _, q3⟩ := hc.place (i := k0 + 1) (by have := hc.len; have := (List.getElem?_eq_some_iff.1 hb).1; omega)
            rw [hb] at q1
            injection q1 with q1
            rw [q1]
            have : s.data.toList.length = s.size := by simp
            omega)
          clear hka hwa hpa
          generalize hLL : l.length = L at *
          have HLE := Lib.hid hLL
          have hL5 : L ≤ 5000 := by have := HN.out; omega
          clear hLL
          have HK0 := Lib.hid hk0
          have hk5 : k0 ≤ 5000 := by omega
          go_wp2_with fail
          clear t0 t1 hk0
          go_loopw [11] (fun iv wr => ∃ i : Nat, i ≤ k0 ∧ iv = .int .i64 i ∧ Below v1.heap.size v1 wr) (fun iv _ => k0 - (intOf iv).toNat)
          case atStart => exact ⟨0, Nat.zero_le _, rfl, Below.refl _ _⟩
          case round =>
            obtain ⟨i, hi, rfl, hbw⟩ := hrel
            have hil : (i : Int) < (L : Int) := by have := HK0.out; omega
            have hib : i ≤ 5000 := by omega
            obtain ⟨x, hx⟩ : ∃ x, l[i]? = some x := ⟨_, List.getElem?_eq_getElem (by have := HLE.out; have := HK0.out; omega)⟩
            have d1 := ((HK1.out.later hbw).cell i x hx).2.2.2
            by_cases hik : i = k0
            · subst hik
              have hxa : x = a := by
                have := HKA.out
                rw [hx] at this
                injection this
              subst hxa
              have y1 : ((x.p : Int) != (x.p : Int)) = false := by simp
              have y2 : ((i : Int) == (L : Int)) = false := by simp; omega
              have HE9 := Lib.hid (HE.out.later hbw)
              have HBW9 := Lib.hid (Later.then HBW.out hbw)
              have HAT19 := Lib.hid (St.at_.keep (btw_later hbw) HAT1.out)
              have HB19 := Lib.hid (HB1.out.later hbw)
              have HK19 := Lib.hid (HK1.out.later hbw)
              replace HE := HE9
              clear HE9
              replace HBW := HBW9
              clear HBW9
              replace HAT1 := HAT19
              clear HAT19
              replace HB1 := HB19
              clear HB19
              replace HK1 := HK19
              clear HK19
              clear hbw hx
              have hxs : (s.extract 0 x.p).size ≤ 1000 := by rw [ByteArray.size_extract]; have := HSS2.out; omega
              have hsu : s.size ≤ 1000 := HSS2.out
              go_upto_region 13 with fail
              obtain ⟨T1, hT1⟩ : ∃ T1, T1 = s.extract 0 x.p ++ ⟨#[10]⟩ := ⟨_, rfl⟩
              rw [← hT1]
              have hTL : T1.data.toList = s.data.toList.take x.p ++ [10] := by rw [hT1, bytes_app, extract_list]; simp
              have hTS : T1.size ≤ 2000 := by rw [hT1, ByteArray.size_append]; have : (⟨#[10]⟩ : ByteArray).size = 1 := rfl; omega
              have HZ1 := Lib.hid (show T1.size ≤ 4294967280 by omega)
              have HAH := Lib.hid (ahead_law HL.out (by have h0 : s.data.toList.length = s.size := (by simp); omega) HKA.out (by rw [HLE.out]; exact HWA.out))
              have HTL := Lib.hid hTL
              have hTlen : T1.data.toList.length = T1.size := by simp
              have HTN := Lib.hid hTlen
              clear hT1 hTL hxs y1 y2 d1 hTlen
              go_wp2_with fail
              refine (gpar_any T1 _ HE.out (HZ1.out)).mono ?_
              rintro e w2 ⟨y2, rfl, hat2, b2⟩
              have HAT2 := Lib.hid hat2
              clear hat2
              have HE9 := Lib.hid (HE.out.later b2)
              have HBW9 := Lib.hid (Later.then HBW.out b2)
              have HAT19 := Lib.hid (St.at_.keep (btw_later b2) HAT1.out)
              have HB19 := Lib.hid (HB1.out.later b2)
              have HK19 := Lib.hid (HK1.out.later b2)
              replace HE := HE9
              clear HE9
              replace HBW := HBW9
              clear HBW9
              replace HAT1 := HAT19
              clear HAT19
              replace HB1 := HB19
              clear HB19
              replace HK1 := HK19
              clear HK19
              clear b2
              obtain ⟨cs2, hcs2⟩ : ∃ cs, cs = (stC y2).toArray := ⟨_, rfl⟩
              have HSZ := Lib.hid (show (Tryz.prog.info? 35).map (·.size) = some cs2.size by rw [hcs2]; exact gst_info)
              have HGS := Lib.hid (show gst0.size = cs2.size by rw [hcs2, gst_siz]; exact gst_siz _)
              have HON := Lib.hid (show cs2.all (·.oneCell') = true by rw [hcs2]; exact gst_one _)
              have HCS2 := Lib.hid hcs2
              unfold stV
              rw [← hcs2]
              clear hcs2
              generalize hpp2 : parP _ = pp2
              generalize hpx2 : parX _ = px2
              have HPP2 := Lib.hid hpp2
              have HPX2 := Lib.hid hpx2
              clear hpp2 hpx2
              have bn2 := later_new w2 (.cells cs2 35)
              have HB2 := Lib.hid (Blk.new w2 35 cs2)
              go_upto_region 14 with (first
                | (refine wpList_store_row rfl 35 (.tmp 13) (.tmp 77) rfl w2.heap.size cs2 rfl rfl 35 gst0 (Blk.new w2 35 gst0) HSZ.out HGS.out HON.out ?_
                   rw [alloc_row]))
              change Code.wp _ _ _ _ (w2.alloc (.cells cs2 35))
              have HE9 := Lib.hid (HE.out.later bn2)
              have HBW9 := Lib.hid (Later.then HBW.out bn2)
              have HAT19 := Lib.hid (St.at_.keep (btw_later bn2) HAT1.out)
              have HB19 := Lib.hid (HB1.out.later bn2)
              have HK19 := Lib.hid (HK1.out.later bn2)
              have HAT29 := Lib.hid (St.at_.keep (btw_later bn2) HAT2.out)
              replace HE := HE9
              clear HE9
              replace HBW := HBW9
              clear HBW9
              replace HAT1 := HAT19
              clear HAT19
              replace HB1 := HB19
              clear HB19
              replace HK1 := HK19
              clear HK19
              replace HAT2 := HAT29
              clear HAT29
              clear bn2 HSZ HGS HON
              generalize hbl2 : w2.heap.size = q2 at *
              generalize hW : (World.alloc w2 _) = W2 at *
              clear hW hbl2
              obtain ⟨n30, n31⟩ := HAH.out
              rw [← HTL.out] at n30 n31
              rw [HPX2.out] at n30
              rw [HPX2.out, HPP2.out, HTN.out] at n31
              have K30 := Lib.hid n30
              have K31 := Lib.hid n31
              clear n30 n31
              obtain ⟨d0, _, _, d1⟩ := HK1.out.cell i x HKA.out
              have z3 : i ≤ 5000 := hib
              have F0 : ∃ c1b c2b : Bool, ((px2 : Int) == 31) = c1b ∧ ((px2 : Int) == 30) = false ∧ (c1b = true → ((pp2 : Int) != (T1.size : Int)) = false) := by
                refine ⟨_, true, rfl, ?_, fun h => ?_⟩
                · have := K30.out
                  simp; omega
                · have h0 : (px2 : Int) = 31 := by simpa using h
                  have h1 : px2 = 31 := by omega
                  have := K31.out h1
                  simp; omega
              obtain ⟨c1b, _, f1, f2, f3⟩ := F0
              cases c1b
              · by_cases hk : x.w.k = 0
                · have y1 : ((x.w.k : Int) == 0) = true := by simp; omega
                  clear hk
                  go_wp2_with fail
                  refine (wakes_any _ HE.out).mono ?_
                  rintro e w9 ⟨rfl, b9⟩
                  go_wp2_with fail
                  go_ret
                  exact ⟨rfl, Later.then HBW.out b9⟩
                · have y1 : ((x.w.k : Int) == 0) = false := by simp; omega
                  have hlast : i + 1 < L := by
                    apply Classical.byContradiction
                    intro hn
                    obtain ⟨bb, n, hb⟩ := (lexL_ok HL.out).1
                    have e1 := HLE.out
                    have e2 := HK0.out
                    have e3 := HKA.out
                    rw [hb] at e1 e3
                    simp at e1
                    rw [List.getElem?_append_right (by omega)] at e3
                    have : i - bb.length = 0 := by omega
                    rw [this] at e3
                    injection e3 with e3
                    rw [← e3] at hk
                    exact hk rfl
                  obtain ⟨nx, hnx⟩ : ∃ nx, l[i + 1]? = some nx := ⟨_, List.getElem?_eq_getElem (by have := HLE.out; omega)⟩
                  have HNX := Lib.hid hnx
                  have hnb := HKB.out nx hnx
                  have d2 := (HK1.out.cell (i + 1) nx hnx).2.2.2
                  obtain ⟨j, hj⟩ : ∃ j, j = i + 1 := ⟨_, rfl⟩
                  rw [← hj] at d2
                  have z1 : (i : Int) + 1 = (j : Int) := by omega
                  have z2 : (j : Int) < (L : Int) := by omega
                  have hxs : (s.extract 0 nx.p).size ≤ 1000 := by rw [ByteArray.size_extract]; omega
                  have hmo : more.size ≤ 100 := HMO.out
                  clear hk hlast hnx hj
                  go_upto_region 19 with fail
                  obtain ⟨T2, hT2⟩ : ∃ T2, T2 = s.extract 0 nx.p ++ ⟨#[10]⟩ ++ more := ⟨_, rfl⟩
                  rw [← hT2]
                  have hTL : T2.data.toList = s.data.toList.take nx.p ++ 10 :: more.data.toList := by rw [hT2, bytes_app, bytes_app, extract_list]; simp
                  have hTS2 : T2.size ≤ 2000 := by rw [hT2, ByteArray.size_append, ByteArray.size_append]; have : (⟨#[10]⟩ : ByteArray).size = 1 := rfl; omega
                  have HZ2 := Lib.hid (show T2.size ≤ 4294967280 by omega)
                  have HBE := Lib.hid (behind_law (more := more.data.toList) HL.out (by have h0 : s.data.toList.length = s.size := (by simp); omega) (by have h0 : more.data.toList.length = more.size := (by simp); omega) HKA.out HNX.out (by rw [HLE.out]; exact HWA.out))
                  have HTL2 := Lib.hid hTL
                  clear hT2 hTL hxs y1 d0 d1 d2
                  go_wp2_with fail
                  refine (gpar_any T2 _ HE.out (HZ2.out)).mono ?_
                  rintro e w3 ⟨y3, rfl, hat3, b3⟩
                  have HAT3 := Lib.hid hat3
                  clear hat3
                  have HE9 := Lib.hid (HE.out.later b3)
                  have HBW9 := Lib.hid (Later.then HBW.out b3)
                  have HAT19 := Lib.hid (St.at_.keep (btw_later b3) HAT1.out)
                  have HB19 := Lib.hid (HB1.out.later b3)
                  have HK19 := Lib.hid (HK1.out.later b3)
                  have HAT29 := Lib.hid (St.at_.keep (btw_later b3) HAT2.out)
                  have HB29 := Lib.hid (HB2.out.later b3)
                  replace HE := HE9
                  clear HE9
                  replace HBW := HBW9
                  clear HBW9
                  replace HAT1 := HAT19
                  clear HAT19
                  replace HB1 := HB19
                  clear HB19
                  replace HK1 := HK19
                  clear HK19
                  replace HAT2 := HAT29
                  clear HAT29
                  replace HB2 := HB29
                  clear HB29
                  clear b3
                  obtain ⟨cs3, hcs3⟩ : ∃ cs, cs = (stC y3).toArray := ⟨_, rfl⟩
                  have HSZ := Lib.hid (show (Tryz.prog.info? 35).map (·.size) = some cs3.size by rw [hcs3]; exact gst_info)
                  have HGS := Lib.hid (show gst0.size = cs3.size by rw [hcs3, gst_siz]; exact gst_siz _)
                  have HON := Lib.hid (show cs3.all (·.oneCell') = true by rw [hcs3]; exact gst_one _)
                  have HCS3 := Lib.hid hcs3
                  unfold stV
                  rw [← hcs3]
                  clear hcs3
                  generalize hpp3 : parP _ = pp3
                  generalize hpx3 : parX _ = px3
                  have HPP3 := Lib.hid hpp3
                  have HPX3 := Lib.hid hpx3
                  clear hpp3 hpx3
                  have bn3 := later_new w3 (.cells cs3 35)
                  have HB3 := Lib.hid (Blk.new w3 35 cs3)
                  go_upto_region 20 with (first
                    | (refine wpList_store_row rfl 35 (.tmp 17) (.tmp 113) rfl w3.heap.size cs3 rfl rfl 35 gst0 (Blk.new w3 35 gst0) HSZ.out HGS.out HON.out ?_
                       rw [alloc_row]))
                  change Code.wp _ _ _ _ (w3.alloc (.cells cs3 35))
                  have HE9 := Lib.hid (HE.out.later bn3)
                  have HBW9 := Lib.hid (Later.then HBW.out bn3)
                  have HAT19 := Lib.hid (St.at_.keep (btw_later bn3) HAT1.out)
                  have HB19 := Lib.hid (HB1.out.later bn3)
                  have HK19 := Lib.hid (HK1.out.later bn3)
                  have HAT29 := Lib.hid (St.at_.keep (btw_later bn3) HAT2.out)
                  have HB29 := Lib.hid (HB2.out.later bn3)
                  have HAT39 := Lib.hid (St.at_.keep (btw_later bn3) HAT3.out)
                  replace HE := HE9
                  clear HE9
                  replace HBW := HBW9
                  clear HBW9
                  replace HAT1 := HAT19
                  clear HAT19
                  replace HB1 := HB19
                  clear HB19
                  replace HK1 := HK19
                  clear HK19
                  replace HAT2 := HAT29
                  clear HAT29
                  replace HB2 := HB29
                  clear HB29
                  replace HAT3 := HAT39
                  clear HAT39
                  clear bn3 HSZ HGS HON
                  generalize hbl3 : w3.heap.size = q3 at *
                  generalize hW : (World.alloc w3 _) = W3 at *
                  clear hW hbl3
                  rcases HBE.out with hle | hle
                  · obtain ⟨⟨p, xx⟩, hle⟩ := hle
                    rw [← HTL2.out] at hle
                    have y1 : ((xx : Int) != 0) = true := by rcases lexL_errs hle with rfl | rfl <;> rfl
                    have HLX := Lib.hid hle
                    clear hle
                    go_wp2_with fail
                    refine (glex_err HLX.out HE.out HZ2.out).mono ?_
                    rintro e v8 ⟨rfl, b⟩
                    have HE9 := Lib.hid (HE.out.later b)
                    have HBW9 := Lib.hid (Later.then HBW.out b)
                    have HAT19 := Lib.hid (St.at_.keep (btw_later b) HAT1.out)
                    have HB19 := Lib.hid (HB1.out.later b)
                    have HK19 := Lib.hid (HK1.out.later b)
                    have HAT29 := Lib.hid (St.at_.keep (btw_later b) HAT2.out)
                    have HB29 := Lib.hid (HB2.out.later b)
                    have HAT39 := Lib.hid (St.at_.keep (btw_later b) HAT3.out)
                    have HB39 := Lib.hid (HB3.out.later b)
                    replace HE := HE9
                    clear HE9
                    replace HBW := HBW9
                    clear HBW9
                    replace HAT1 := HAT19
                    clear HAT19
                    replace HB1 := HB19
                    clear HB19
                    replace HK1 := HK19
                    clear HK19
                    replace HAT2 := HAT29
                    clear HAT29
                    replace HB2 := HB29
                    clear HB29
                    replace HAT3 := HAT39
                    clear HAT39
                    replace HB3 := HB39
                    clear HB39
                    clear b
                    go_wp2_with fail
                    refine (wakes_any _ HE.out).mono ?_
                    rintro e w9 ⟨rfl, b9⟩
                    go_wp2_with fail
                    go_ret
                    exact ⟨rfl, Later.then HBW.out b9⟩
                  · obtain ⟨m, hlm, hpx, hpp⟩ := hle
                    rw [← HTL2.out] at hlm hpx hpp
                    have q1 : px3 = 31 := HPX3.out.symm.trans hpx
                    have q2 : pp3 = x.p := HPP3.out.symm.trans hpp
                    subst q1 q2
                    have y0 : ((0 : Int) != 0) = false := rfl
                    have y1 : (((31 : Nat) : Int) == 31) = true := rfl
                    have y2 : ((x.p : Int) == (x.p : Int)) = true := by simp
                    have HLX := Lib.hid hlm
                    clear hlm hpx hpp
                    go_wp2_with fail
                    refine (glex_ok HLX.out HE.out (HZ2.out)).mono ?_
                    rintro e v5 ⟨A5, c5, rfl, ho, b⟩
                    obtain ⟨gl5, rfl, hgb, hgl, hc⟩ := ho.cells (by have := (lexL_cons HLX.out); obtain ⟨a, b, h⟩ := this; rw [h]; simp)
                    have HK5 := Lib.hid (TkAt.mk hgl hc)
                    clear ho hgb hgl hc
                    have HE9 := Lib.hid (HE.out.later b)
                    have HBW9 := Lib.hid (Later.then HBW.out b)
                    have HAT19 := Lib.hid (St.at_.keep (btw_later b) HAT1.out)
                    have HB19 := Lib.hid (HB1.out.later b)
                    have HK19 := Lib.hid (HK1.out.later b)
                    have HAT29 := Lib.hid (St.at_.keep (btw_later b) HAT2.out)
                    have HB29 := Lib.hid (HB2.out.later b)
                    have HAT39 := Lib.hid (St.at_.keep (btw_later b) HAT3.out)
                    have HB39 := Lib.hid (HB3.out.later b)
                    replace HE := HE9
                    clear HE9
                    replace HBW := HBW9
                    clear HBW9
                    replace HAT1 := HAT19
                    clear HAT19
                    replace HB1 := HB19
                    clear HB19
                    replace HK1 := HK19
                    clear HK19
                    replace HAT2 := HAT29
                    clear HAT29
                    replace HB2 := HB29
                    clear HB29
                    replace HAT3 := HAT39
                    clear HAT39
                    replace HB3 := HB39
                    clear HB39
                    clear b
                    go_wp2_with fail
                    refine (wakes_any _ HE.out).mono ?_
                    rintro e w9 ⟨rfl, b9⟩
                    go_wp2_with fail
                    go_ret
                    exact ⟨rfl, Later.then HBW.out b9⟩
              · have f4 := f3 rfl
                clear f3
                by_cases hk : x.w.k = 0
                · have y1 : ((x.w.k : Int) == 0) = true := by simp; omega
                  clear hk
                  go_wp2_with fail
                  refine (wakes_any _ HE.out).mono ?_
                  rintro e w9 ⟨rfl, b9⟩
                  go_wp2_with fail
                  go_ret
                  exact ⟨rfl, Later.then HBW.out b9⟩
                · have y1 : ((x.w.k : Int) == 0) = false := by simp; omega
                  have hlast : i + 1 < L := by
                    apply Classical.byContradiction
                    intro hn
                    obtain ⟨bb, n, hb⟩ := (lexL_ok HL.out).1
                    have e1 := HLE.out
                    have e2 := HK0.out
                    have e3 := HKA.out
                    rw [hb] at e1 e3
                    simp at e1
                    rw [List.getElem?_append_right (by omega)] at e3
                    have : i - bb.length = 0 := by omega
                    rw [this] at e3
                    injection e3 with e3
                    rw [← e3] at hk
                    exact hk rfl
                  obtain ⟨nx, hnx⟩ : ∃ nx, l[i + 1]? = some nx := ⟨_, List.getElem?_eq_getElem (by have := HLE.out; omega)⟩
                  have HNX := Lib.hid hnx
                  have hnb := HKB.out nx hnx
                  have d2 := (HK1.out.cell (i + 1) nx hnx).2.2.2
                  obtain ⟨j, hj⟩ : ∃ j, j = i + 1 := ⟨_, rfl⟩
                  rw [← hj] at d2
                  have z1 : (i : Int) + 1 = (j : Int) := by omega
                  have z2 : (j : Int) < (L : Int) := by omega
                  have hxs : (s.extract 0 nx.p).size ≤ 1000 := by rw [ByteArray.size_extract]; omega
                  have hmo : more.size ≤ 100 := HMO.out
                  clear hk hlast hnx hj
                  go_upto_region 19 with fail
                  obtain ⟨T2, hT2⟩ : ∃ T2, T2 = s.extract 0 nx.p ++ ⟨#[10]⟩ ++ more := ⟨_, rfl⟩
                  rw [← hT2]
                  have hTL : T2.data.toList = s.data.toList.take nx.p ++ 10 :: more.data.toList := by rw [hT2, bytes_app, bytes_app, extract_list]; simp
                  have hTS2 : T2.size ≤ 2000 := by rw [hT2, ByteArray.size_append, ByteArray.size_append]; have : (⟨#[10]⟩ : ByteArray).size = 1 := rfl; omega
                  have HZ2 := Lib.hid (show T2.size ≤ 4294967280 by omega)
                  have HBE := Lib.hid (behind_law (more := more.data.toList) HL.out (by have h0 : s.data.toList.length = s.size := (by simp); omega) (by have h0 : more.data.toList.length = more.size := (by simp); omega) HKA.out HNX.out (by rw [HLE.out]; exact HWA.out))
                  have HTL2 := Lib.hid hTL
                  clear hT2 hTL hxs y1 d0 d1 d2
                  go_wp2_with fail
                  refine (gpar_any T2 _ HE.out (HZ2.out)).mono ?_
                  rintro e w3 ⟨y3, rfl, hat3, b3⟩
                  have HAT3 := Lib.hid hat3
                  clear hat3
                  have HE9 := Lib.hid (HE.out.later b3)
                  have HBW9 := Lib.hid (Later.then HBW.out b3)
                  have HAT19 := Lib.hid (St.at_.keep (btw_later b3) HAT1.out)
                  have HB19 := Lib.hid (HB1.out.later b3)
                  have HK19 := Lib.hid (HK1.out.later b3)
                  have HAT29 := Lib.hid (St.at_.keep (btw_later b3) HAT2.out)
                  have HB29 := Lib.hid (HB2.out.later b3)
                  replace HE := HE9
                  clear HE9
                  replace HBW := HBW9
                  clear HBW9
                  replace HAT1 := HAT19
                  clear HAT19
                  replace HB1 := HB19
                  clear HB19
                  replace HK1 := HK19
                  clear HK19
                  replace HAT2 := HAT29
                  clear HAT29
                  replace HB2 := HB29
                  clear HB29
                  clear b3
                  obtain ⟨cs3, hcs3⟩ : ∃ cs, cs = (stC y3).toArray := ⟨_, rfl⟩
                  have HSZ := Lib.hid (show (Tryz.prog.info? 35).map (·.size) = some cs3.size by rw [hcs3]; exact gst_info)
                  have HGS := Lib.hid (show gst0.size = cs3.size by rw [hcs3, gst_siz]; exact gst_siz _)
                  have HON := Lib.hid (show cs3.all (·.oneCell') = true by rw [hcs3]; exact gst_one _)
                  have HCS3 := Lib.hid hcs3
                  unfold stV
                  rw [← hcs3]
                  clear hcs3
                  generalize hpp3 : parP _ = pp3
                  generalize hpx3 : parX _ = px3
                  have HPP3 := Lib.hid hpp3
                  have HPX3 := Lib.hid hpx3
                  clear hpp3 hpx3
                  have bn3 := later_new w3 (.cells cs3 35)
                  have HB3 := Lib.hid (Blk.new w3 35 cs3)
                  go_upto_region 20 with (first
                    | (refine wpList_store_row rfl 35 (.tmp 17) (.tmp 113) rfl w3.heap.size cs3 rfl rfl 35 gst0 (Blk.new w3 35 gst0) HSZ.out HGS.out HON.out ?_
                       rw [alloc_row]))
                  change Code.wp _ _ _ _ (w3.alloc (.cells cs3 35))
                  have HE9 := Lib.hid (HE.out.later bn3)
                  have HBW9 := Lib.hid (Later.then HBW.out bn3)
                  have HAT19 := Lib.hid (St.at_.keep (btw_later bn3) HAT1.out)
                  have HB19 := Lib.hid (HB1.out.later bn3)
                  have HK19 := Lib.hid (HK1.out.later bn3)
                  have HAT29 := Lib.hid (St.at_.keep (btw_later bn3) HAT2.out)
                  have HB29 := Lib.hid (HB2.out.later bn3)
                  have HAT39 := Lib.hid (St.at_.keep (btw_later bn3) HAT3.out)
                  replace HE := HE9
                  clear HE9
                  replace HBW := HBW9
                  clear HBW9
                  replace HAT1 := HAT19
                  clear HAT19
                  replace HB1 := HB19
                  clear HB19
                  replace HK1 := HK19
                  clear HK19
                  replace HAT2 := HAT29
                  clear HAT29
                  replace HB2 := HB29
                  clear HB29
                  replace HAT3 := HAT39
                  clear HAT39
                  clear bn3 HSZ HGS HON
                  generalize hbl3 : w3.heap.size = q3 at *
                  generalize hW : (World.alloc w3 _) = W3 at *
                  clear hW hbl3
                  rcases HBE.out with hle | hle
                  · obtain ⟨⟨p, xx⟩, hle⟩ := hle
                    rw [← HTL2.out] at hle
                    have y1 : ((xx : Int) != 0) = true := by rcases lexL_errs hle with rfl | rfl <;> rfl
                    have HLX := Lib.hid hle
                    clear hle
                    go_wp2_with fail
                    refine (glex_err HLX.out HE.out HZ2.out).mono ?_
                    rintro e v8 ⟨rfl, b⟩
                    have HE9 := Lib.hid (HE.out.later b)
                    have HBW9 := Lib.hid (Later.then HBW.out b)
                    have HAT19 := Lib.hid (St.at_.keep (btw_later b) HAT1.out)
                    have HB19 := Lib.hid (HB1.out.later b)
                    have HK19 := Lib.hid (HK1.out.later b)
                    have HAT29 := Lib.hid (St.at_.keep (btw_later b) HAT2.out)
                    have HB29 := Lib.hid (HB2.out.later b)
                    have HAT39 := Lib.hid (St.at_.keep (btw_later b) HAT3.out)
                    have HB39 := Lib.hid (HB3.out.later b)
                    replace HE := HE9
                    clear HE9
                    replace HBW := HBW9
                    clear HBW9
                    replace HAT1 := HAT19
                    clear HAT19
                    replace HB1 := HB19
                    clear HB19
                    replace HK1 := HK19
                    clear HK19
                    replace HAT2 := HAT29
                    clear HAT29
                    replace HB2 := HB29
                    clear HB29
                    replace HAT3 := HAT39
                    clear HAT39
                    replace HB3 := HB39
                    clear HB39
                    clear b
                    go_wp2_with fail
                    refine (wakes_any _ HE.out).mono ?_
                    rintro e w9 ⟨rfl, b9⟩
                    go_wp2_with fail
                    go_ret
                    exact ⟨rfl, Later.then HBW.out b9⟩
                  · obtain ⟨m, hlm, hpx, hpp⟩ := hle
                    rw [← HTL2.out] at hlm hpx hpp
                    have q1 : px3 = 31 := HPX3.out.symm.trans hpx
                    have q2 : pp3 = x.p := HPP3.out.symm.trans hpp
                    subst q1 q2
                    have y0 : ((0 : Int) != 0) = false := rfl
                    have y1 : (((31 : Nat) : Int) == 31) = true := rfl
                    have y2 : ((x.p : Int) == (x.p : Int)) = true := by simp
                    have HLX := Lib.hid hlm
                    clear hlm hpx hpp
                    go_wp2_with fail
                    refine (glex_ok HLX.out HE.out (HZ2.out)).mono ?_
                    rintro e v5 ⟨A5, c5, rfl, ho, b⟩
                    obtain ⟨gl5, rfl, hgb, hgl, hc⟩ := ho.cells (by have := (lexL_cons HLX.out); obtain ⟨a, b, h⟩ := this; rw [h]; simp)
                    have HK5 := Lib.hid (TkAt.mk hgl hc)
                    clear ho hgb hgl hc
                    have HE9 := Lib.hid (HE.out.later b)
                    have HBW9 := Lib.hid (Later.then HBW.out b)
                    have HAT19 := Lib.hid (St.at_.keep (btw_later b) HAT1.out)
                    have HB19 := Lib.hid (HB1.out.later b)
                    have HK19 := Lib.hid (HK1.out.later b)
                    have HAT29 := Lib.hid (St.at_.keep (btw_later b) HAT2.out)
                    have HB29 := Lib.hid (HB2.out.later b)
                    have HAT39 := Lib.hid (St.at_.keep (btw_later b) HAT3.out)
                    have HB39 := Lib.hid (HB3.out.later b)
                    replace HE := HE9
                    clear HE9
                    replace HBW := HBW9
                    clear HBW9
                    replace HAT1 := HAT19
                    clear HAT19
                    replace HB1 := HB19
                    clear HB19
                    replace HK1 := HK19
                    clear HK19
                    replace HAT2 := HAT29
                    clear HAT29
                    replace HB2 := HB29
                    clear HB29
                    replace HAT3 := HAT39
                    clear HAT39
                    replace HB3 := HB39
                    clear HB39
                    clear b
                    go_wp2_with fail
                    refine (wakes_any _ HE.out).mono ?_
                    rintro e w9 ⟨rfl, b9⟩
                    go_wp2_with fail
                    go_ret
                    exact ⟨rfl, Later.then HBW.out b9⟩
            · have hlt : i < k0 := by omega
              have hne : ((x.p : Int) != (a.p : Int)) = true := by
                have : x.p ≠ a.p := fun h => hik (place_up HL.out hx HKA.out h)
                simp; omega
              have HLT := Lib.hid hlt
              clear hx hik hlt hi
              go_wp2_with fail
              go_roundw
              case rel => exact ⟨i + 1, by have := HLT.out; omega, by go_num, hbw⟩
              case measure => have := HLT.out; simp [intOf]; omega
        · have t1 : ((px1 : Int) != 31) = true := by simp; omega
          go_wp2_with fail
          refine (wakes_any _ HE.out).mono ?_
          rintro e w9 ⟨rfl, b9⟩
          go_wp2_with fail
          go_ret
          exact ⟨rfl, Later.then HBW.out b9⟩
end Go.Proofs.YtcneefmaghoejaaGreatDoor
