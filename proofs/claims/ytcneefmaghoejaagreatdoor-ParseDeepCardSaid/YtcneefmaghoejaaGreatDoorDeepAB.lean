/- ParseDeep. Printed by gen_deep.py. -/
import Derived.Test.YtcneefmaghoejaaGreatDoorLdB
import Derived.Test.YtcneefmaghoejaaGreatDoorB40
import Derived.Test.YtcneefmaghoejaaGreatDoorB20
namespace Go.Proofs.YtcneefmaghoejaaGreatDoor
open Go.ChangeShapes Go.WideShapes Go.ChangeAt Go.RowKit Go.Shelf
set_option linter.unusedVariables false
set_option linter.unusedSimpArgs false
theorem dashes_snoc : ∀ n, dashes n ++ [45, 32] = dashes (n + 1)
  | 0 => rfl
  | n + 1 => by show 45 :: 32 :: (dashes n ++ [45, 32]) = _; rw [dashes_snoc n]; rfl
theorem opens_snoc (c : UInt8) (n : Nat) : List.replicate n c ++ [c] = List.replicate (n + 1) c := by rw [List.replicate_succ']
theorem at_old {w w' : World} {q : Nat} {t : Tr} {y : Ex} (h : t.at_ w (fun b => b < q) y) (hb : ∀ b, b < q → w'.heap[b]? = w.heap[b]?) : t.at_ w' (fun b => b < q) y :=
  Tr.at_.keep (fun b hl => ⟨cell_of_heap (hb b hl), hl⟩) t y h
set_option maxHeartbeats 4000000 in
set_option maxRecDepth 100000 in
theorem deepA_any (n b : Int) (w : World) (hE : LexEnv w) : Calls Tryz.prog 6 #[.int .i64 n, .int .i64 b] w (namePost true w) := by
  by_cases hbig : n < 0
  · have HE := Lib.hid hE
    clear hE
    go_enter Tryz.func6, Tryz.ntmps6
    go_wp2_with fail
    refine (wakes_any _ HE.out).mono ?_
    rintro e w1 ⟨rfl, b1⟩
    go_wp2_with fail
    go_ret
    exact ⟨rfl, b1⟩
  · by_cases hbig : n > 200
    · have HE := Lib.hid hE
      clear hE
      go_enter Tryz.func6, Tryz.ntmps6
      go_wp2_with fail
      refine (wakes_any _ HE.out).mono ?_
      rintro e w1 ⟨rfl, b1⟩
      go_wp2_with fail
      go_ret
      exact ⟨rfl, b1⟩
    · by_cases hbig : b < 0
      · have HE := Lib.hid hE
        clear hE
        go_enter Tryz.func6, Tryz.ntmps6
        go_wp2_with fail
        refine (wakes_any _ HE.out).mono ?_
        rintro e w1 ⟨rfl, b1⟩
        go_wp2_with fail
        go_ret
        exact ⟨rfl, b1⟩
      · by_cases hbig : b > 200
        · have HE := Lib.hid hE
          clear hE
          go_enter Tryz.func6, Tryz.ntmps6
          go_wp2_with fail
          refine (wakes_any _ HE.out).mono ?_
          rintro e w1 ⟨rfl, b1⟩
          go_wp2_with fail
          go_ret
          exact ⟨rfl, b1⟩
        · obtain ⟨n, hn⟩ : ∃ n' : Nat, n = n' := ⟨n.toNat, by omega⟩
          obtain ⟨b, hb⟩ : ∃ b' : Nat, b = b' := ⟨b.toNat, by omega⟩
          subst hn hb
          have hn2 : n ≤ 200 := by omega
          have hb2 : b ≤ 200 := by omega
          have HE := Lib.hid hE
          have HE0 := Lib.hid hE
          have HBW := Lib.hid (Below.refl w.heap.size w)
          clear hE
          go_enter Tryz.func6, Tryz.ntmps6
          go_wp2_with fail
          clear hbig
          go_loop [5, 6] (fun tv iv => ∃ (i : Nat) (T : ByteArray), i ≤ b ∧ iv = .int .i64 i ∧ tv = .string T ∧ T.data.toList = t_select ++ List.replicate i 40) (fun _ iv => b - (intOf iv).toNat)
          case atStart => exact ⟨0, _, Nat.zero_le _, rfl, rfl, rfl⟩
          case round =>
            obtain ⟨i, T1, hi, rfl, rfl, hT⟩ := hrel
            have hTs : T1.size ≤ 1000 := by
              have h1 := congrArg List.length hT
              simp only [List.length_append, List.length_cons, List.length_nil, List.length_replicate, dashes_len, show t_select.length = 7 from rfl] at h1
              have h2 : T1.data.toList.length = T1.size := by simp
              omega
            have HT1 := Lib.hid hT
            clear hT
            by_cases hlt : i < b
            · have HLT := Lib.hid hlt
              go_wp2_with fail
              go_round
              case rel =>
                refine ⟨i + 1, _, by have := HLT.out; omega, by go_num, rfl, ?_⟩
                rw [bytes_app, HT1.out]
                rw [← opens_snoc 40 i]; simp
              case measure => have := HLT.out; simp [intOf]; omega
            · obtain hie : b = i := by omega
              subst hie
              clear hlt hi
              go_wp2_with fail
              go_loop [5, 7] (fun tv iv => ∃ (i : Nat) (T : ByteArray), i ≤ n ∧ iv = .int .i64 i ∧ tv = .string T ∧ T.data.toList = t_select ++ (List.replicate b 40 ++ dashes i)) (fun _ iv => n - (intOf iv).toNat)
              case atStart => exact ⟨0, _, Nat.zero_le _, rfl, rfl, by rw [HT1.out]; simp [dashes]⟩
              case round =>
                obtain ⟨i, T2, hi, rfl, rfl, hT⟩ := hrel
                have hTs : T2.size ≤ 1000 := by
                  have h1 := congrArg List.length hT
                  simp only [List.length_append, List.length_cons, List.length_nil, List.length_replicate, dashes_len, show t_select.length = 7 from rfl] at h1
                  have h2 : T2.data.toList.length = T2.size := by simp
                  omega
                have HT2 := Lib.hid hT
                clear hT
                by_cases hlt : i < n
                · have HLT := Lib.hid hlt
                  go_wp2_with fail
                  go_round
                  case rel =>
                    refine ⟨i + 1, _, by have := HLT.out; omega, by go_num, rfl, ?_⟩
                    rw [bytes_app, HT2.out]
                    rw [← dashes_snoc i]; simp
                  case measure => have := HLT.out; simp [intOf]; omega
                · obtain hie : n = i := by omega
                  subst hie
                  clear hlt hi
                  go_wp2_with fail
                  go_loop [5, 8] (fun tv iv => ∃ (i : Nat) (T : ByteArray), i ≤ b ∧ iv = .int .i64 i ∧ tv = .string T ∧ T.data.toList = t_select ++ (List.replicate b 40 ++ (dashes n ++ 97 :: List.replicate i 41))) (fun _ iv => b - (intOf iv).toNat)
                  case atStart => exact ⟨0, _, Nat.zero_le _, rfl, rfl, by rw [bytes_app, HT2.out]; simp⟩
                  case round =>
                    obtain ⟨i, T3, hi, rfl, rfl, hT⟩ := hrel
                    have hTs : T3.size ≤ 1000 := by
                      have h1 := congrArg List.length hT
                      simp only [List.length_append, List.length_cons, List.length_nil, List.length_replicate, dashes_len, show t_select.length = 7 from rfl] at h1
                      have h2 : T3.data.toList.length = T3.size := by simp
                      omega
                    have HT3 := Lib.hid hT
                    clear hT
                    by_cases hlt : i < b
                    · have HLT := Lib.hid hlt
                      go_wp2_with fail
                      go_round
                      case rel =>
                        refine ⟨i + 1, _, by have := HLT.out; omega, by go_num, rfl, ?_⟩
                        rw [bytes_app, HT3.out]
                        rw [← opens_snoc 41 i]; simp
                      case measure => have := HLT.out; simp [intOf]; omega
                    · obtain hie : b = i := by omega
                      subst hie
                      clear hlt hi
                      go_wp2_with fail
                      obtain ⟨T4, hT4⟩ : ∃ T4, T4 = T3 ++ (⟨#[32, 102, 114, 111, 109, 32, 116]⟩ : ByteArray) := ⟨_, rfl⟩
                      rw [← hT4]
                      have HTT := Lib.hid (show T4.data.toList = deepT n b by
                        rw [hT4, bytes_app, HT3.out]
                        simp [deepT, t_from])
                      have HZ4 := Lib.hid (show T4.size ≤ 4294967280 by rw [hT4, ByteArray.size_append]; have h7 : (⟨#[32, 102, 114, 111, 109, 32, 116]⟩ : ByteArray).size = 7 := rfl; omega)
                      clear hT4
                      refine (gpar_any T4 _ HE.out (HZ4.out)).mono ?_
                      rintro e w1 ⟨y1, rfl, hat1, b1⟩
                      have HAT1 := Lib.hid hat1
                      clear hat1
                      have HE9 := Lib.hid (HE.out.later b1)
                      have HBW9 := Lib.hid (Later.then HBW.out b1)
                      replace HE := HE9
                      clear HE9
                      replace HBW := HBW9
                      clear HBW9
                      clear b1
                      obtain ⟨cs1, hcs1⟩ : ∃ cs, cs = (stC y1).toArray := ⟨_, rfl⟩
                      have HSZ := Lib.hid (show (Tryz.prog.info? 35).map (·.size) = some cs1.size by rw [hcs1]; exact gst_info)
                      have HGS := Lib.hid (show gst0.size = cs1.size by rw [hcs1, gst_siz]; exact gst_siz _)
                      have HON := Lib.hid (show cs1.all (·.oneCell') = true by rw [hcs1]; exact gst_one _)
                      have HCS1 := Lib.hid hcs1
                      unfold stV
                      rw [← hcs1]
                      clear hcs1
                      generalize hpp1 : parP _ = pp1
                      generalize hpx1 : parX _ = px1
                      have HPP1 := Lib.hid hpp1
                      have HPX1 := Lib.hid hpx1
                      clear hpp1 hpx1
                      have bn1 := later_new w1 (.cells cs1 35)
                      have HB1 := Lib.hid (Blk.new w1 35 cs1)
                      go_upto_region 18 with (first
                        | (refine wpList_store_row rfl 35 (.tmp 9) (.tmp 56) rfl w1.heap.size cs1 rfl rfl 35 gst0 (Blk.new w1 35 gst0) HSZ.out HGS.out HON.out ?_
                           rw [alloc_row]))
                      change Code.wp _ _ _ _ (w1.alloc (.cells cs1 35))
                      have HE9 := Lib.hid (HE.out.later bn1)
                      have HBW9 := Lib.hid (Later.then HBW.out bn1)
                      have HAT19 := Lib.hid (St.at_.keep (btw_later bn1) HAT1.out)
                      replace HE := HE9
                      clear HE9
                      replace HBW := HBW9
                      clear HBW9
                      replace HAT1 := HAT19
                      clear HAT19
                      clear bn1 HSZ HGS HON
                      generalize hbl1 : w1.heap.size = q1 at *
                      generalize hW : (World.alloc w1 _) = W1 at *
                      clear hW hbl1
                      rw [HTT.out] at HPX1 HAT1
                      have hpar := deep_parse n b hn2 hb2
                      by_cases hdp : 32 < n + 1
                      · rw [if_pos hdp] at hpar
                        have hx : px1 = 32 := by rw [← HPX1.out]; unfold parX; rw [hpar]
                        have hat := HAT1.out
                        rw [show parS (deepT n b) = {} by unfold parS; rw [hpar]] at hat
                        have hq := HB1.out
                        rw [HCS1.out] at hq
                        have c7 : W1.cell? ⟨q1, 7, none⟩ = some (.slice y1.query.items.A y1.query.items.n y1.query.items.c) := hq.cell 7
                        have hn0 : y1.query.items.n = 0 := hat.query.items.1
                        rw [hn0] at c7
                        generalize y1.query.items.A = iA at c7
                        generalize y1.query.items.c = ic at c7
                        have z1 : ((n : Int) + 1 > 32) := by omega
                        subst hx
                        clear hat hq hn0 hpar hdp
                        go_wp2_with fail
                        refine (wakes_any _ HE.out).mono ?_
                        rintro e w9 ⟨rfl, b9⟩
                        go_wp2_with fail
                        go_ret
                        exact ⟨rfl, Later.then HBW.out b9⟩
                      · rw [if_neg hdp] at hpar
                        have hx : px1 = 0 := by rw [← HPX1.out]; unfold parX; rw [hpar]
                        have hat := HAT1.out
                        rw [show parS (deepT n b) = deepD n by unfold parS; rw [hpar]] at hat
                        have hq := HB1.out
                        rw [HCS1.out] at hq
                        have c7 : W1.cell? ⟨q1, 7, none⟩ = some (.slice y1.query.items.A y1.query.items.n y1.query.items.c) := hq.cell 7
                        obtain ⟨hn1, ys, hr, ha⟩ := hat.query.items
                        have hn1 : y1.query.items.n = 1 := hn1
                        have hlen := ha.len
                        match ys, hlen with
                        | [yx], _ =>
                        obtain ⟨ht, hnm⟩ := all2_atS ha (i := 0) rfl rfl
                        rcases hr with h0 | ⟨bq, off, hA, hSb, hc⟩
                        · cases h0
                        have hlb := hSb.2
                        rw [hA, hn1] at c7
                        generalize y1.query.items.c = ic at c7
                        obtain ⟨⟨xop, xv, xname, xwidth, xA, xn, xc⟩, xs⟩ := yx
                        have k0 := hc 0 _ 0 _ rfl rfl
                        have k1 := hc 0 _ 1 _ rfl rfl
                        have k2 := hc 0 _ 2 _ rfl rfl
                        have k3 := hc 0 _ 3 _ rfl rfl
                        have k4 := hc 0 _ 4 _ rfl rfl
                        have k5 := hc 0 _ 5 _ rfl rfl
                        have k6 := hc 0 _ 6 _ rfl rfl
                        simp only [Nat.zero_mul, Nat.add_zero] at k0 k1 k2 k3 k4 k5 k6
                        have z1 : ¬ ((n : Int) + 1 > 32) := by omega
                        subst hx
                        have htr : (negT n).at_ W1 (fun b => b < W1.heap.size) ⟨xop, xv, xname, xwidth, xA, xn, xc⟩ := Tr.at_.keep (fun b hb => ⟨fun _ => rfl, hb.2⟩) _ _ ht
                        have HTR := Lib.hid htr
                        have HBF := Lib.hid HBW.out
                        clear hat hq hn1 hpar hdp ha hlen hnm hA hSb htr ht HAT1 HE
                        clear hc
                        go_upto_region 23 with fail
                        change Code.wp _ _ _ _ (W1.alloc (.cells #[.int .u8 xop, .int .u8 xv.k, .int .i64 xv.n, .string xv.s, .string xname, .int .i64 xwidth, .slice xA xn xc] 49))
                        have bn := later_new W1 (.cells #[.int .u8 xop, .int .u8 xv.k, .int .i64 xv.n, .string xv.s, .string xname, .int .i64 xwidth, .slice xA xn xc] 49)
                        have HX : Blk (W1.alloc (.cells #[.int .u8 xop, .int .u8 xv.k, .int .i64 xv.n, .string xv.s, .string xname, .int .i64 xwidth, .slice xA xn xc] 49)) W1.heap.size 49 (exC ⟨xop, xv, xname, xwidth, xA, xn, xc⟩).toArray := Blk.new W1 _ _
                        have HT4 := at_old HTR.out (w' := W1.alloc (.cells #[.int .u8 xop, .int .u8 xv.k, .int .i64 xv.n, .string xv.s, .string xname, .int .i64 xwidth, .slice xA xn xc] 49)) (fun b hb => bn.block b hb)
                        have HB4 := Later.then HBF.out bn
                        have hqq : w.heap.size ≤ W1.heap.size := HBF.out.size
                        have HXH := Lib.hid HX
                        have HTH := Lib.hid HT4
                        have HBH := Lib.hid HB4
                        clear bn HX HT4 HB4 k0 k1 k2 k3 k4 k5 k6 c7 HTR z1
                        generalize W1.heap.size = qb at *
                        generalize W1.alloc _ = W4 at *
                        go_wp2_with fail
                        go_loopw [13] (fun iv wr => ∃ (i : Nat) (yx : Ex), i ≤ n ∧ iv = .int .i64 i ∧ Blk wr qb 49 (exC yx).toArray ∧ (negT (n - i)).at_ wr (fun b => b < qb) yx ∧ Below w.heap.size w wr) (fun iv _ => n - (intOf iv).toNat)
                        case atStart => exact ⟨0, _, Nat.zero_le _, rfl, HXH.out, HTH.out, HBH.out⟩
                        case round =>
                          obtain ⟨i, yx, hi, rfl, hq, ht, hbw⟩ := hrel
                          obtain ⟨yop, yv, yname, ywidth, yA, yn, yc⟩ := yx
                          have x0 : wr.cell? ⟨qb, 0, none⟩ = some (.int .u8 yop) := hq.cell 0
                          have x2 : wr.cell? ⟨qb, 4, none⟩ = some (.string yname) := hq.cell 4
                          have x6 : wr.cell? ⟨qb, 6, none⟩ = some (.slice yA yn yc) := hq.cell 6
                          have HQ := Lib.hid hq
                          have HBR := Lib.hid hbw
                          have hqs := hq.lt
                          by_cases hlt : i < n
                          · obtain ⟨m, hm⟩ : ∃ m, n - i = m + 1 := ⟨n - i - 1, by omega⟩
                            rw [hm] at ht
                            unfold negT opT Tr.at_ at ht
                            obtain ⟨a1, _, _, _, a5, ys, hr, ha⟩ := ht
                            have a1 : yop = 3 := a1
                            have a5 : yn = 1 := a5
                            have hlen := Tr.all_.length ha
                            match ys, hlen with
                            | [y2], _ =>
                            rcases hr with h0 | ⟨b2, off2, hA2, hSb2, hc2⟩
                            · cases h0
                            have hA2 : yA = some ⟨b2, off2, none⟩ := hA2
                            unfold Tr.all_ at ha
                            obtain ⟨y3, ys3, he3, ha3, _⟩ := ha
                            injection he3 with he3 _
                            subst a1 a5 hA2 he3
                            have k0 := hc2 0 _ 0 _ rfl rfl
                            have k1 := hc2 0 _ 1 _ rfl rfl
                            have k2 := hc2 0 _ 2 _ rfl rfl
                            have k3 := hc2 0 _ 3 _ rfl rfl
                            have k4 := hc2 0 _ 4 _ rfl rfl
                            have k5 := hc2 0 _ 5 _ rfl rfl
                            have k6 := hc2 0 _ 6 _ rfl rfl
                            simp only [Nat.zero_mul, Nat.add_zero] at k0 k1 k2 k3 k4 k5 k6
                            have HLT := Lib.hid hlt
                            have HM := Lib.hid hm
                            have H3 := Lib.hid ha3
                            clear hc2 hlen hm ha3 hq hbw hi hSb2
                            go_upto_region 28 with fail
                            refine wp_region_lit ?_
                            obtain ⟨zop, zv, zname, zwidth, zA, zn, zc⟩ := y2
                            go_wp2_with (first
                              | (refine wpList_store_row rfl 49 (.tmp 12) (.tmp 106) rfl qb (exC ⟨zop, zv, zname, zwidth, zA, zn, zc⟩).toArray rfl rfl 49 _ HQ.out gex_info rfl (ex_oneC _) ?_))
                            go_roundw
                            case rel =>
                              refine ⟨i + 1, by have := HLT.out; omega, by go_num, ⟨zop, zv, zname, zwidth, zA, zn, zc⟩, HQ.out.row _, ?_, HBR.out.trans (below_grown (grown_row wr qb _) (by omega) hqq)⟩
                              rw [show n - (i + 1) = m by have := HM.out; omega]
                              exact at_old H3.out (fun b hb => setRow_other wr qb b _ (by omega))
                            case measure => have := HLT.out; simp [intOf]; omega
                          · obtain rfl : i = n := by omega
                            rw [Nat.sub_self] at ht
                            unfold negT colT Tr.at_ at ht
                            obtain ⟨a1, _, a3, _⟩ := ht
                            have a1 : yop = 2 := a1
                            have a3 : yname = ⟨#[97]⟩ := a3
                            subst a1 a3
                            have HE9 := Lib.hid (HE0.out.later hbw)
                            clear hq hbw hi hlt
                            go_wp2_with fail
                            refine (wakes_any _ HE9.out).mono ?_
                            rintro e w9 ⟨rfl, b9⟩
                            go_wp2_with fail
                            go_ret
                            exact ⟨rfl, Later.then HBR.out b9⟩
end Go.Proofs.YtcneefmaghoejaaGreatDoor
