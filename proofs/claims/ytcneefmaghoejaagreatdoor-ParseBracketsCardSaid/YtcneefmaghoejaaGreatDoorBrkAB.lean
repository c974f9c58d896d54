/- ParseBrackets. Printed by gen_brk.py. -/
import Derived.Test.YtcneefmaghoejaaGreatDoorB48
import Derived.Test.YtcneefmaghoejaaGreatDoorB39
import Derived.Test.YtcneefmaghoejaaGreatDoorB12
import Derived.Deep.DeepCutAuto
namespace Go.Proofs.YtcneefmaghoejaaGreatDoor
open Go.ChangeShapes Go.WideShapes Go.ChangeAt Go.RowKit Go.Shelf
set_option linter.unusedVariables false
set_option linter.unusedSimpArgs false
theorem bytes_tl {a : ByteArray} {l : List UInt8} (h : a ≠ ⟨l.toArray⟩) : (a.toList == l) = false := by
  rw [beq_eq_false_iff_ne]
  intro e
  rw [ByteArray.toList_eq] at e
  exact h (ByteArray.ext (Array.toList_inj.1 e))
/-- a region that goes in the order of the text: a quiet front -/
theorem wpList_of_quiet {P : Program} {ops : Array Oper} {C : World → Prop} {Q : Exit → Act → World → Prop} {zs : List Oper} : ∀ (l : List Oper) (a : Act) (w : World), C w → wpQuiet P ops C (fun a => ∀ w, C w → wpList P ops Q zs a w) l a → wpList P ops Q (l ++ zs) a w
  | [], a, w, hC, h => h w hC
  | o :: l, a, w, hC, h => by
    unfold wpQuiet at h
    show wpList P ops Q (o :: (l ++ zs)) a w
    unfold wpList
    by_cases hw : Region.wanted o (yielded ops a.tmps) = true
    · rw [if_pos hw] at h ⊢
      exact .inl (Oper.wp_of_quiet hC (fun a' w' hC' h' => wpList_of_quiet l a' w' hC' h') h)
    · rw [if_neg hw] at h ⊢
      exact wpList_of_quiet l _ w hC h
theorem region_lex {P : Program} {Q : Exit → Act → World → Prop} {a0 : Act} {w : World} {id : Nat} {ops : List Oper} (k B : Nat) (w0 : World) (hb : Below B w0 w)
    (h : wpQuiet P ops.toArray (fun w' => ∃ x : Ext B w0, w' = x.w) (fun a => ∀ w, (∃ x : Ext B w0, w = x.w) → wpList P ops.toArray Q (ops.drop k) a w) (ops.take k) a0) : (Code.region id ops.toArray false).wp P Q a0 w := by
  apply wp_region_lit
  have := wpList_of_quiet (ops.take k) a0 w ⟨⟨w, hb⟩, rfl⟩ h
  rwa [List.take_append_drop] at this
theorem oneL_short {r rest : List UInt8} {w : Wd} (h : oneL r = .ok (w, rest)) (hk : w.k = 1) : w.s.length ≤ 32 := by
  match r with
  | [] => simp [oneL] at h
  | c :: r =>
    simp only [oneL] at h
    split at h
    · split at h
      · rename_i hl
        injection h with h; injection h with h1 h2; subst h1 h2
        simpa using hl
      · cases h
    · split at h
      · split at h
        · injection h with h; injection h with h1 h2; subst h1 h2
          cases hk
        · cases h
      · split at h
        · split at h
          · injection h with h; injection h with h1 h2; subst h1 h2
            cases hk
          · cases h
        · split at h
          · injection h with h; injection h with h1 h2; subst h1 h2
            cases hk
          · cases h
theorem run_short {r q : List UInt8} {ws : List (Wd × Nat)} (h : Run r ws q) : ∀ x ∈ ws, x.1.k = 1 → x.1.s.length ≤ 32 := by
  induction h with
  | stop r => intro x hx; simp at hx
  | step hs ho _ ih =>
    intro x hx hk
    rcases List.mem_cons.1 hx with rfl | hx
    · exact oneL_short ho hk
    · exact ih x hx hk
theorem lex_size {s : ByteArray} {l : List Tok} (h : lexL s.data.toList = .ok l) {i : Nat} {t : Tok} (ht : l[i]? = some t) (hk : t.w.k = 1) : (⟨t.w.s.toArray⟩ : ByteArray).size ≤ 4294967280 := by
  obtain ⟨_, ws, hr, hl⟩ := run_of_ok h
  have hm := List.mem_of_getElem? ht
  rw [hl] at hm
  simp only [List.mem_append, List.mem_map, List.mem_singleton] at hm
  rcases hm with ⟨x, hx, rfl⟩ | rfl
  · have := run_short hr x hx hk
    show x.1.s.length ≤ _
    omega
  · cases hk
set_option maxHeartbeats 4000000 in
set_option maxRecDepth 100000 in
theorem brkA_any (s : ByteArray) (k : Int) (hk0 : -9223372036854775808 ≤ k ∧ k ≤ 9223372036854775807) (w : World) (hE : LexEnv w) : Calls Tryz.prog 8 #[.string s, .int .i64 k] w (namePost true w) := by
  by_cases hbig : 1000 < s.size
  · have HE := Lib.hid hE
    clear hE
    go_enter Tryz.func8, Tryz.ntmps8
    go_wp2_with fail
    refine (wakes_any _ HE.out).mono ?_
    rintro e w1 ⟨rfl, b1⟩
    go_wp2_with fail
    go_ret
    exact ⟨rfl, b1⟩
  · have HE := Lib.hid hE
    have HSS := Lib.hid (show s.size ≤ 4294967280 by omega)
    have HSS2 := Lib.hid (show s.size ≤ 1000 by omega)
    have HBW := Lib.hid (Below.refl w.heap.size w)
    have hssz : s.size ≤ 1000 := by omega
    clear hE
    cases hl : lexL s.data.toList with
    | error px =>
      obtain ⟨p, x⟩ := px
      go_enter Tryz.func8, Tryz.ntmps8
      have HL := Lib.hid hl
      have hx0 : ((x : Int) != 0) = true := by rcases lexL_errs hl with rfl | rfl <;> rfl
      clear hl
      go_wp2_with fail
      refine (glex_err HL.out HE.out HSS.out).mono ?_
      rintro e v1 ⟨rfl, b⟩
      have HE9 := Lib.hid (HE.out.later b)
      have HBW9 := Lib.hid (Later.then HBW.out b)
      replace HE := HE9
      clear HE9
      replace HBW := HBW9
      clear HBW9
      clear b
      go_wp2_with fail
      refine (gpar_any s _ HE.out (HSS.out)).mono ?_
      rintro e w1 ⟨y1, rfl, hat1, b1⟩
      have HAT1 := Lib.hid hat1
      clear hat1
      have HE9 := Lib.hid (HE.out.later b1)
      have HBW9 := Lib.hid (Later.then HBW.out b1)
      replace HE := HE9
      clear HE9
      replace HBW := HBW9
      clear HBW9
      clear b1
      obtain ⟨cs1, hcs1⟩ : ∃ cs, cs = (stC y1).toArray := ⟨_, rfl⟩
      have HSZ := Lib.hid (show (Tryz.prog.info? 35).map (·.size) = some cs1.size by rw [hcs1]; exact gst_info)
      have HGS := Lib.hid (show gst0.size = cs1.size by rw [hcs1, gst_siz]; exact gst_siz _)
      have HON := Lib.hid (show cs1.all (·.oneCell') = true by rw [hcs1]; exact gst_one _)
      have HCS1 := Lib.hid hcs1
      unfold stV
      rw [← hcs1]
      clear hcs1
      generalize hpp1 : parP _ = pp1
      generalize hpx1 : parX _ = px1
      have HPP1 := Lib.hid hpp1
      have HPX1 := Lib.hid hpx1
      clear hpp1 hpx1
      have bn1 := later_new w1 (.cells cs1 35)
      have HB1 := Lib.hid (Blk.new w1 35 cs1)
      go_upto_region 5 with (first
        | (refine wpList_store_row rfl 35 (.tmp 8) (.tmp 31) rfl w1.heap.size cs1 rfl rfl 35 gst0 (Blk.new w1 35 gst0) HSZ.out HGS.out HON.out ?_
           rw [alloc_row]))
      change Code.wp _ _ _ _ (w1.alloc (.cells cs1 35))
      have HE9 := Lib.hid (HE.out.later bn1)
      have HBW9 := Lib.hid (Later.then HBW.out bn1)
      have HAT19 := Lib.hid (St.at_.keep (btw_later bn1) HAT1.out)
      replace HE := HE9
      clear HE9
      replace HBW := HBW9
      clear HBW9
      replace HAT1 := HAT19
      clear HAT19
      clear bn1 HSZ HGS HON
      generalize hbl1 : w1.heap.size = q1 at *
      generalize hW : (World.alloc w1 _) = W1 at *
      clear hW hbl1
      as_aux_lemma =>
        go_wp2_with fail
        refine (wakes_any _ HE.out).mono ?_
        rintro e w9 ⟨rfl, b9⟩
        go_wp2_with fail
        go_ret
        exact ⟨rfl, Later.then HBW.out b9⟩
    | ok l =>
      go_enter Tryz.func8, Tryz.ntmps8
      obtain ⟨pre, ws, ps, hcut⟩ := cut_of hl
      have HCU := Lib.hid hcut
      have HL := Lib.hid hl
      have HN := Lib.hid (lexL_ok hl).2.1
      have hx0 : ((0 : Int) != 0) = false := rfl
      clear hl hcut
      go_wp2_with fail
      refine (glex_ok HL.out HE.out (HSS.out)).mono ?_
      rintro e v1 ⟨A1, c1, rfl, ho, b⟩
      obtain ⟨gl1, rfl, hgb, hgl, hc⟩ := ho.cells (by have := (lexL_cons HL.out); obtain ⟨a, b, h⟩ := this; rw [h]; simp)
      have HK1 := Lib.hid (TkAt.mk hgl hc)
      clear ho hgb hgl hc
      have HE9 := Lib.hid (HE.out.later b)
      have HBW9 := Lib.hid (Later.then HBW.out b)
      replace HE := HE9
      clear HE9
      replace HBW := HBW9
      clear HBW9
      clear b
      go_wp2_with fail
      refine (gpar_any s _ HE.out (HSS.out)).mono ?_
      rintro e w1 ⟨y1, rfl, hat1, b1⟩
      have HAT1 := Lib.hid hat1
      clear hat1
      have HE9 := Lib.hid (HE.out.later b1)
      have HBW9 := Lib.hid (Later.then HBW.out b1)
      have HK19 := Lib.hid (HK1.out.later b1)
      replace HE := HE9
      clear HE9
      replace HBW := HBW9
      clear HBW9
      replace HK1 := HK19
      clear HK19
      clear b1
      obtain ⟨cs1, hcs1⟩ : ∃ cs, cs = (stC y1).toArray := ⟨_, rfl⟩
      have HSZ := Lib.hid (show (Tryz.prog.info? 35).map (·.size) = some cs1.size by rw [hcs1]; exact gst_info)
      have HGS := Lib.hid (show gst0.size = cs1.size by rw [hcs1, gst_siz]; exact gst_siz _)
      have HON := Lib.hid (show cs1.all (·.oneCell') = true by rw [hcs1]; exact gst_one _)
      have HCS1 := Lib.hid hcs1
      unfold stV
      rw [← hcs1]
      clear hcs1
      generalize hpp1 : parP _ = pp1
      generalize hpx1 : parX _ = px1
      have HPP1 := Lib.hid hpp1
      have HPX1 := Lib.hid hpx1
      clear hpp1 hpx1
      have bn1 := later_new w1 (.cells cs1 35)
      have HB1 := Lib.hid (Blk.new w1 35 cs1)
      go_upto_region 5 with (first
        | (refine wpList_store_row rfl 35 (.tmp 8) (.tmp 31) rfl w1.heap.size cs1 rfl rfl 35 gst0 (Blk.new w1 35 gst0) HSZ.out HGS.out HON.out ?_
           rw [alloc_row]))
      change Code.wp _ _ _ _ (w1.alloc (.cells cs1 35))
      have HE9 := Lib.hid (HE.out.later bn1)
      have HBW9 := Lib.hid (Later.then HBW.out bn1)
      have HK19 := Lib.hid (HK1.out.later bn1)
      have HAT19 := Lib.hid (St.at_.keep (btw_later bn1) HAT1.out)
      replace HE := HE9
      clear HE9
      replace HBW := HBW9
      clear HBW9
      replace HK1 := HK19
      clear HK19
      replace HAT1 := HAT19
      clear HAT19
      clear bn1 HSZ HGS HON
      generalize hbl1 : w1.heap.size = q1 at *
      generalize hW : (World.alloc w1 _) = W1 at *
      clear hW hbl1
      by_cases hx : px1 = 0
      · obtain ⟨d, hpd, hsd⟩ := par_ok (HPX1.out.trans hx)
        subst hx
        rw [show ((0 : Nat) : Int) = 0 from rfl]
        have HPD := Lib.hid hpd
        have HSLM := Lib.hid (show d.slim by rw [← hsd]; exact par_slim _)
        have hyk := HAT1.out.kind
        rw [hsd] at hyk
        have c0 : W1.cell? ⟨q1, 0, none⟩ = some (.int .u8 d.kind) := by
          have h0 := HB1.out
          rw [HCS1.out] at h0
          rw [← hyk]
          exact h0.cell 0
        clear hpd hsd hyk
        by_cases hk : d.kind = 8
        · have t1 : (d.kind != 8) = false := by simp [hk]
          have HKD := Lib.hid hk
          clear hk
          have hne : l.length ≠ 1 := by
            intro h1
            obtain ⟨⟨r, hw⟩, _, _⟩ := parse_inv HPD.out HL.out
            obtain ⟨x, rr, e1⟩ := lexL_cons HL.out
            rw [e1] at h1
            have e2 : rr = [] := by simpa using h1
            obtain ⟨b, n, hb⟩ := (lexL_ok HL.out).1
            rw [e1, e2] at hb
            have e3 : x = ⟨⟨0, [], 0⟩, n⟩ := by
              cases b with
              | nil => simpa using hb
              | cons y b => simp at hb
            rw [e1, e2, e3] at hw
            cases hw
          obtain ⟨n1, hn1⟩ : ∃ n1, l.length = n1 + 1 ∧ 0 < n1 := ⟨l.length - 1, by have := (lexL_cons HL.out); obtain ⟨x, rr, e1⟩ := this; rw [e1] at hne ⊢; simp at hne ⊢; exact List.length_pos_iff.2 hne⟩
          have HWS := Lib.hid (fun (i : Nat) (t : Tok) (ht : l[i]? = some t) (hk : t.w.k = 1) => lex_size HL.out ht hk)
          have HLN := Lib.hid hn1.1
          have hlaid : ∀ (a0 L : Nat), L = l.length → ∀ w, TkAt w gl1 l → Calls Tryz.prog 14 #[.string s, .slice (some ⟨gl1, 0, none⟩) L c1, .int .i64 a0, .int .i64 a0] w fun e w' => (∃ T : ByteArray, e = .returned (.string T) ∧ T.data.toList = layL (some a0) 0 ps) ∧ Below w.heap.size w w' := by
            intro a0 L hL w hw
            subst hL
            exact laid_any s (some a0) HCU.out HN.out (by have := HSS2.out; omega) gl1 c1 w hw.lt hw.cell
          have HLA := Lib.hid hlaid
          clear hlaid
          generalize hLL : l.length = L at *
          have HLE := Lib.hid hLL.symm
          have e1 : (L : Int) - 1 = (n1 : Int) := by omega
          have e2 : ¬ ((n1 : Int) = 0) := by omega
          obtain ⟨r, hr⟩ : ∃ r, r = Int.tmod k n1 := ⟨_, rfl⟩
          obtain ⟨a0, ha0⟩ : ∃ a0, a0 = r.natAbs := ⟨_, rfl⟩
          have hab : a0 < n1 := by
            rw [ha0, hr, Int.natAbs_tmod]
            have : 0 < ((n1 : Int)).natAbs := by omega
            have := Nat.mod_lt k.natAbs this
            omega
          have hL5 : L ≤ 5000 := by have := HN.out; omega
          clear hne hLL
          have hra : (r < 0 ∧ -r = (a0 : Int)) ∨ (¬ r < 0 ∧ r = (a0 : Int)) := by omega
          have hrb : -5000 ≤ r ∧ r ≤ 5000 := by omega
          have hn5 : n1 ≤ 5000 := by omega
          have hnp : 0 < n1 := hn1.2
          clear hn1
          go_upto_region 9 with fail
          rw [← hr]
          clear hr ha0
          go_upto_if 53 with fail
          go_cut [12] (fun v wx => v = .int .i64 a0 ∧ wx = W1)
          case first =>
            rcases hra with ⟨h1, h2⟩ | ⟨h1, h2⟩
            · go_wp2_with fail
              go_meet
              exact ⟨rfl, rfl⟩
            · subst h2
              go_wp2_with fail
              go_meet
              exact ⟨rfl, rfl⟩
          case rest =>
            obtain ⟨rfl, hw1⟩ := hcut
            obtain rfl := hw1.symm
            clear hw1
            clear hra hrb e1 e2 t1 c0 hx0
            go_upto_region 11 with fail
            go_cut [13] (fun v wx => ∃ op : Bool, v = .bool op ∧ Below W1.heap.size W1 wx ∧ (op = true → ∃ (j : Nat) (t : Tok), a0 = j + 1 ∧ l[j]? = some t ∧ opnB t.w = true))
            case first =>
              by_cases ha : a0 = 0
              · have nn1 := decide_eq_false (show ¬ (0 : Int) < (a0 : Int) by omega)
                have nn2 := decide_eq_false (show ¬ 0 < a0 by omega)
                clear ha
                as_aux_lemma =>
                  refine region_lex 92 W1.heap.size W1 (Below.refl _ _) ?_
                  simp only [List.append, List.take_succ_cons, List.take_zero, List.drop_succ_cons, List.drop_zero]
                  repeat (go_big_quiet_step (fail))
                  refine wpQuiet_nil ?_
                  rintro V4 ⟨x9, hx9⟩
                  have hW9 := x9.h
                  rw [← hx9] at hW9
                  have HW9 := Lib.hid hW9
                  clear hx9 x9 hW9
                  go_wp2_with fail
                  go_meet
                  exact ⟨false, rfl, HW9.out, fun h => nomatch h⟩
              · obtain ⟨j, hj⟩ : ∃ j, a0 = j + 1 := ⟨a0 - 1, by omega⟩
                obtain ⟨t, ht⟩ : ∃ t, l[j]? = some t := ⟨_, List.getElem?_eq_getElem (by have := HLN.out; have := HLE.out; omega)⟩
                have nn1 := decide_eq_true (show (0 : Int) < (a0 : Int) by omega)
                have nn2 := decide_eq_true (show 0 < a0 by omega)
                have z2 : (a0 : Int) - 1 = (j : Int) := by omega
                have z3 : (j : Int) < (L : Int) := by have := HLN.out; omega
                have z4 : j ≤ 5000 := by have := HLN.out; have := HLE.out; have := HN.out; omega
                obtain ⟨d0, d1, _, _⟩ := HK1.out.cell j t ht
                have HJ := Lib.hid hj
                have HT := Lib.hid ht
                clear hj ht ha
                obtain ⟨⟨tk, ts, tn⟩, tp⟩ := t
                simp only at d0 d1
                obtain ⟨nb, hnb⟩ : ∃ nb : ByteArray, nb = ⟨ts.toArray⟩ := ⟨_, rfl⟩
                rw [← hnb] at d1
                have HNB := Lib.hid (show nb.data.toList = ts by rw [hnb])
                have hgr : gl1 < W1.heap.size := HK1.out.lt
                have q0 := fun q : Ext W1.heap.size W1 => (q.h.cell (p := ⟨gl1, j * 4, none⟩) hgr).trans d0
                have q1 := fun q : Ext W1.heap.size W1 => (q.h.cell (p := ⟨gl1, j * 4 + 1, none⟩) hgr).trans d1
                clear hnb d0 d1
                by_cases k2 : tk = 2
                · have y2 : ((tk : Int) != 2) = false := by simp; omega
                  clear k2
                  as_aux_lemma =>
                    refine region_lex 92 W1.heap.size W1 (Below.refl _ _) ?_
                    simp only [List.append, List.take_succ_cons, List.take_zero, List.drop_succ_cons, List.drop_zero]
                    repeat (go_big_quiet_step (fail))
                    refine wpQuiet_nil ?_
                    rintro V4 ⟨x9, hx9⟩
                    have hW9 := x9.h
                    rw [← hx9] at hW9
                    have HW9 := Lib.hid hW9
                    clear hx9 x9 hW9
                    go_wp2_with fail
                    go_meet
                    exact ⟨false, rfl, HW9.out, fun h => nomatch h⟩
                · have y2 : ((tk : Int) != 2) = true := by simp; omega
                  have K2 := Lib.hid k2
                  clear k2
                  by_cases k3 : tk = 3
                  · have y3 : ((tk : Int) != 3) = false := by simp; omega
                    clear k3
                    as_aux_lemma =>
                      refine region_lex 92 W1.heap.size W1 (Below.refl _ _) ?_
                      simp only [List.append, List.take_succ_cons, List.take_zero, List.drop_succ_cons, List.drop_zero]
                      repeat (go_big_quiet_step (fail))
                      refine wpQuiet_nil ?_
                      rintro V4 ⟨x9, hx9⟩
                      have hW9 := x9.h
                      rw [← hx9] at hW9
                      have HW9 := Lib.hid hW9
                      clear hx9 x9 hW9
                      go_wp2_with fail
                      go_meet
                      exact ⟨false, rfl, HW9.out, fun h => nomatch h⟩
                  · have y3 : ((tk : Int) != 3) = true := by simp; omega
                    have K3 := Lib.hid k3
                    clear k3
                    by_cases w0 : nb = (⟨#[115, 101, 108, 101, 99, 116]⟩ : ByteArray)
                    · have x0 : (nb.toList == [115, 101, 108, 101, 99, 116]) = true := by rw [w0]; kernel_rfl
                      have HW := Lib.hid w0
                      clear w0
                      as_aux_lemma =>
                        refine region_lex 92 W1.heap.size W1 (Below.refl _ _) ?_
                        simp only [List.append, List.take_succ_cons, List.take_zero, List.drop_succ_cons, List.drop_zero]
                        repeat (go_big_quiet_step (fail))
                        refine wpQuiet_nil ?_
                        rintro V4 ⟨x9, hx9⟩
                        have hW9 := x9.h
                        rw [← hx9] at hW9
                        have HW9 := Lib.hid hW9
                        clear hx9 x9 hW9
                        go_wp2_with fail
                        go_meet
                        exact ⟨true, rfl, HW9.out, fun _ => ⟨j, _, HJ.out, HT.out, by have h2 := K2.out; have h3 := K3.out; have hw := HNB.out; rw [HW.out] at hw; have hw : [115, 101, 108, 101, 99, 116] = ts := hw; simp [opnB, openWs, h2, h3, ← hw, w_select]⟩⟩
                    · have x0 : (nb.toList == [115, 101, 108, 101, 99, 116]) = false := bytes_tl w0
                      clear w0
                      by_cases w1 : nb = (⟨#[119, 104, 101, 114, 101]⟩ : ByteArray)
                      · have x1 : (nb.toList == [119, 104, 101, 114, 101]) = true := by rw [w1]; kernel_rfl
                        have HW := Lib.hid w1
                        clear w1
                        as_aux_lemma =>
                          refine region_lex 92 W1.heap.size W1 (Below.refl _ _) ?_
                          simp only [List.append, List.take_succ_cons, List.take_zero, List.drop_succ_cons, List.drop_zero]
                          repeat (go_big_quiet_step (fail))
                          refine wpQuiet_nil ?_
                          rintro V4 ⟨x9, hx9⟩
                          have hW9 := x9.h
                          rw [← hx9] at hW9
                          have HW9 := Lib.hid hW9
                          clear hx9 x9 hW9
                          go_wp2_with fail
                          go_meet
                          exact ⟨true, rfl, HW9.out, fun _ => ⟨j, _, HJ.out, HT.out, by have h2 := K2.out; have h3 := K3.out; have hw := HNB.out; rw [HW.out] at hw; have hw : [119, 104, 101, 114, 101] = ts := hw; simp [opnB, openWs, h2, h3, ← hw, w_where]⟩⟩
                      · have x1 : (nb.toList == [119, 104, 101, 114, 101]) = false := bytes_tl w1
                        clear w1
                        by_cases w2 : nb = (⟨#[104, 97, 118, 105, 110, 103]⟩ : ByteArray)
                        · have x2 : (nb.toList == [104, 97, 118, 105, 110, 103]) = true := by rw [w2]; kernel_rfl
                          have HW := Lib.hid w2
                          clear w2
                          as_aux_lemma =>
                            refine region_lex 92 W1.heap.size W1 (Below.refl _ _) ?_
                            simp only [List.append, List.take_succ_cons, List.take_zero, List.drop_succ_cons, List.drop_zero]
                            repeat (go_big_quiet_step (fail))
                            refine wpQuiet_nil ?_
                            rintro V4 ⟨x9, hx9⟩
                            have hW9 := x9.h
                            rw [← hx9] at hW9
                            have HW9 := Lib.hid hW9
                            clear hx9 x9 hW9
                            go_wp2_with fail
                            go_meet
                            exact ⟨true, rfl, HW9.out, fun _ => ⟨j, _, HJ.out, HT.out, by have h2 := K2.out; have h3 := K3.out; have hw := HNB.out; rw [HW.out] at hw; have hw : [104, 97, 118, 105, 110, 103] = ts := hw; simp [opnB, openWs, h2, h3, ← hw, w_having]⟩⟩
                        · have x2 : (nb.toList == [104, 97, 118, 105, 110, 103]) = false := bytes_tl w2
                          clear w2
                          by_cases w3 : nb = (⟨#[98, 121]⟩ : ByteArray)
                          · have x3 : (nb.toList == [98, 121]) = true := by rw [w3]; kernel_rfl
                            have HW := Lib.hid w3
                            clear w3
                            as_aux_lemma =>
                              refine region_lex 92 W1.heap.size W1 (Below.refl _ _) ?_
                              simp only [List.append, List.take_succ_cons, List.take_zero, List.drop_succ_cons, List.drop_zero]
                              repeat (go_big_quiet_step (fail))
                              refine wpQuiet_nil ?_
                              rintro V4 ⟨x9, hx9⟩
                              have hW9 := x9.h
                              rw [← hx9] at hW9
                              have HW9 := Lib.hid hW9
                              clear hx9 x9 hW9
                              go_wp2_with fail
                              go_meet
                              exact ⟨true, rfl, HW9.out, fun _ => ⟨j, _, HJ.out, HT.out, by have h2 := K2.out; have h3 := K3.out; have hw := HNB.out; rw [HW.out] at hw; have hw : [98, 121] = ts := hw; simp [opnB, openWs, h2, h3, ← hw, w_by]⟩⟩
                          · have x3 : (nb.toList == [98, 121]) = false := bytes_tl w3
                            clear w3
                            by_cases w4 : nb = (⟨#[61]⟩ : ByteArray)
                            · have x4 : (nb.toList == [61]) = true := by rw [w4]; kernel_rfl
                              have HW := Lib.hid w4
                              clear w4
                              as_aux_lemma =>
                                refine region_lex 92 W1.heap.size W1 (Below.refl _ _) ?_
                                simp only [List.append, List.take_succ_cons, List.take_zero, List.drop_succ_cons, List.drop_zero]
                                repeat (go_big_quiet_step (fail))
                                refine wpQuiet_nil ?_
                                rintro V4 ⟨x9, hx9⟩
                                have hW9 := x9.h
                                rw [← hx9] at hW9
                                have HW9 := Lib.hid hW9
                                clear hx9 x9 hW9
                                go_wp2_with fail
                                go_meet
                                exact ⟨true, rfl, HW9.out, fun _ => ⟨j, _, HJ.out, HT.out, by have h2 := K2.out; have h3 := K3.out; have hw := HNB.out; rw [HW.out] at hw; have hw : [61] = ts := hw; simp [opnB, openWs, h2, h3, ← hw, s_eq]⟩⟩
                            · have x4 : (nb.toList == [61]) = false := bytes_tl w4
                              clear w4
                              by_cases w5 : nb = (⟨#[43]⟩ : ByteArray)
                              · have x5 : (nb.toList == [43]) = true := by rw [w5]; kernel_rfl
                                have HW := Lib.hid w5
                                clear w5
                                as_aux_lemma =>
                                  refine region_lex 92 W1.heap.size W1 (Below.refl _ _) ?_
                                  simp only [List.append, List.take_succ_cons, List.take_zero, List.drop_succ_cons, List.drop_zero]
                                  repeat (go_big_quiet_step (fail))
                                  refine wpQuiet_nil ?_
                                  rintro V4 ⟨x9, hx9⟩
                                  have hW9 := x9.h
                                  rw [← hx9] at hW9
                                  have HW9 := Lib.hid hW9
                                  clear hx9 x9 hW9
                                  go_wp2_with fail
                                  go_meet
                                  exact ⟨true, rfl, HW9.out, fun _ => ⟨j, _, HJ.out, HT.out, by have h2 := K2.out; have h3 := K3.out; have hw := HNB.out; rw [HW.out] at hw; have hw : [43] = ts := hw; simp [opnB, openWs, h2, h3, ← hw, s_plus]⟩⟩
                              · have x5 : (nb.toList == [43]) = false := bytes_tl w5
                                clear w5
                                by_cases w6 : nb = (⟨#[97, 110, 100]⟩ : ByteArray)
                                · have x6 : (nb.toList == [97, 110, 100]) = true := by rw [w6]; kernel_rfl
                                  have HW := Lib.hid w6
                                  clear w6
                                  as_aux_lemma =>
                                    refine region_lex 92 W1.heap.size W1 (Below.refl _ _) ?_
                                    simp only [List.append, List.take_succ_cons, List.take_zero, List.drop_succ_cons, List.drop_zero]
                                    repeat (go_big_quiet_step (fail))
                                    refine wpQuiet_nil ?_
                                    rintro V4 ⟨x9, hx9⟩
                                    have hW9 := x9.h
                                    rw [← hx9] at hW9
                                    have HW9 := Lib.hid hW9
                                    clear hx9 x9 hW9
                                    go_wp2_with fail
                                    go_meet
                                    exact ⟨true, rfl, HW9.out, fun _ => ⟨j, _, HJ.out, HT.out, by have h2 := K2.out; have h3 := K3.out; have hw := HNB.out; rw [HW.out] at hw; have hw : [97, 110, 100] = ts := hw; simp [opnB, openWs, h2, h3, ← hw, w_and]⟩⟩
                                · have x6 : (nb.toList == [97, 110, 100]) = false := bytes_tl w6
                                  clear w6
                                  by_cases w7 : nb = (⟨#[111, 114]⟩ : ByteArray)
                                  · have x7 : (nb.toList == [111, 114]) = true := by rw [w7]; kernel_rfl
                                    have HW := Lib.hid w7
                                    clear w7
                                    as_aux_lemma =>
                                      refine region_lex 92 W1.heap.size W1 (Below.refl _ _) ?_
                                      simp only [List.append, List.take_succ_cons, List.take_zero, List.drop_succ_cons, List.drop_zero]
                                      repeat (go_big_quiet_step (fail))
                                      refine wpQuiet_nil ?_
                                      rintro V4 ⟨x9, hx9⟩
                                      have hW9 := x9.h
                                      rw [← hx9] at hW9
                                      have HW9 := Lib.hid hW9
                                      clear hx9 x9 hW9
                                      go_wp2_with fail
                                      go_meet
                                      exact ⟨true, rfl, HW9.out, fun _ => ⟨j, _, HJ.out, HT.out, by have h2 := K2.out; have h3 := K3.out; have hw := HNB.out; rw [HW.out] at hw; have hw : [111, 114] = ts := hw; simp [opnB, openWs, h2, h3, ← hw, w_or]⟩⟩
                                  · have x7 : (nb.toList == [111, 114]) = false := bytes_tl w7
                                    clear w7
                                    as_aux_lemma =>
                                      refine region_lex 92 W1.heap.size W1 (Below.refl _ _) ?_
                                      simp only [List.append, List.take_succ_cons, List.take_zero, List.drop_succ_cons, List.drop_zero]
                                      repeat (go_big_quiet_step (fail))
                                      refine wpQuiet_nil ?_
                                      rintro V4 ⟨x9, hx9⟩
                                      have hW9 := x9.h
                                      rw [← hx9] at hW9
                                      have HW9 := Lib.hid hW9
                                      clear hx9 x9 hW9
                                      go_wp2_with fail
                                      go_meet
                                      exact ⟨false, rfl, HW9.out, fun h => nomatch h⟩
            case rest =>
              obtain ⟨op, rfl, hlat, hop⟩ := hcut
              have HOP := Lib.hid hop
              clear hop
              have HE9 := Lib.hid (HE.out.later hlat)
              have HBW9 := Lib.hid (Later.then HBW.out hlat)
              have HAT19 := Lib.hid (St.at_.keep (btw_later hlat) HAT1.out)
              have HB19 := Lib.hid (HB1.out.later hlat)
              have HK19 := Lib.hid (HK1.out.later hlat)
              replace HE := HE9
              clear HE9
              replace HBW := HBW9
              clear HBW9
              replace HAT1 := HAT19
              clear HAT19
              replace HB1 := HB19
              clear HB19
              replace HK1 := HK19
              clear HK19
              clear hlat
              generalize wc = W2 at *
              obtain ⟨x, hx⟩ : ∃ x, l[a0]? = some x := ⟨_, List.getElem?_eq_getElem (by have := HLN.out; have := HLE.out; omega)⟩
              obtain ⟨nx, hnx⟩ : ∃ nx, l[a0 + 1]? = some nx := ⟨_, List.getElem?_eq_getElem (by have := HLN.out; have := HLE.out; omega)⟩
              have HX := Lib.hid hx
              have HNX := Lib.hid hnx
              have z2 : (a0 : Int) < (L : Int) := by have := HLN.out; omega
              have z4 : a0 ≤ 5000 := by have := HLN.out; have := HLE.out; have := HN.out; omega
              clear hx hnx
              go_upto_region 12 with fail
              go_cut [14] (fun v wx => ∃ al : Bool, v = .bool al ∧ Below W2.heap.size W2 wx ∧ (al = true → alnB x.w nx.w = true))
              case first =>
                obtain ⟨d0, d1, _, _⟩ := HK1.out.cell a0 x HX.out
                have d2 := (HK1.out.cell (a0 + 1) nx HNX.out).2.1
                obtain ⟨a1, ha1⟩ : ∃ a1, a1 = a0 + 1 := ⟨_, rfl⟩
                rw [← ha1] at d2
                have z1 : (a0 : Int) + 1 = (a1 : Int) := by omega
                have z3 : (a1 : Int) < (L : Int) := by have := HLN.out; have := HLE.out; omega
                obtain ⟨⟨xk, xs, xn⟩, xp⟩ := x
                obtain ⟨⟨nk, ns, nn⟩, np⟩ := nx
                simp only at d0 d1 d2
                obtain ⟨xb, hxb⟩ : ∃ xb : ByteArray, xb = ⟨xs.toArray⟩ := ⟨_, rfl⟩
                obtain ⟨nb, hnb⟩ : ∃ nb : ByteArray, nb = ⟨ns.toArray⟩ := ⟨_, rfl⟩
                rw [← hxb] at d1
                rw [← hnb] at d2
                have HXB := Lib.hid hxb
                have HNB := Lib.hid (show nb.data.toList = ns by rw [hnb])
                have hgr : gl1 < W2.heap.size := HK1.out.lt
                have q0 := fun q : Ext W2.heap.size W2 => (q.h.cell (p := ⟨gl1, a0 * 4, none⟩) hgr).trans d0
                have q1 := fun q : Ext W2.heap.size W2 => (q.h.cell (p := ⟨gl1, a0 * 4 + 1, none⟩) hgr).trans d1
                have q2 := fun q : Ext W2.heap.size W2 => (q.h.cell (p := ⟨gl1, a1 * 4 + 1, none⟩) hgr).trans d2
                clear hxb hnb d0 d1 d2 ha1
                by_cases k3 : xk = 3
                · have y3 : ((xk : Int) == 3) = true := by simp; omega
                  have K3 := Lib.hid k3
                  clear k3
                  as_aux_lemma =>
                    refine region_lex 39 W2.heap.size W2 (Below.refl _ _) ?_
                    simp only [List.append, List.take_succ_cons, List.take_zero, List.drop_succ_cons, List.drop_zero]
                    repeat (go_big_quiet_step (fail))
                    refine wpQuiet_nil ?_
                    rintro V4 ⟨x9, hx9⟩
                    have hW9 := x9.h
                    rw [← hx9] at hW9
                    have HW9 := Lib.hid hW9
                    clear hx9 x9 hW9
                    go_wp2_with fail
                    go_meet
                    exact ⟨true, rfl, HW9.out, fun _ => by have h3 := K3.out; simp [alnB, h3]⟩
                · have y3 : ((xk : Int) == 3) = false := by simp; omega
                  by_cases k2 : xk = 2
                  · have y2 : ((xk : Int) == 2) = true := by simp; omega
                    have K2 := Lib.hid k2
                    clear k3 k2
                    as_aux_lemma =>
                      refine region_lex 39 W2.heap.size W2 (Below.refl _ _) ?_
                      simp only [List.append, List.take_succ_cons, List.take_zero, List.drop_succ_cons, List.drop_zero]
                      repeat (go_big_quiet_step (fail))
                      refine wpQuiet_nil ?_
                      rintro V4 ⟨x9, hx9⟩
                      have hW9 := x9.h
                      rw [← hx9] at hW9
                      have HW9 := Lib.hid hW9
                      clear hx9 x9 hW9
                      go_wp2_with fail
                      go_meet
                      exact ⟨true, rfl, HW9.out, fun _ => by have h2 := K2.out; simp [alnB, h2]⟩
                  · have y2 : ((xk : Int) == 2) = false := by simp; omega
                    by_cases k1 : xk = 1
                    · have y1 : ((xk : Int) == 1) = true := by simp; omega
                      have K1 := Lib.hid k1
                      have HXS := Lib.hid (show xb.size ≤ 4294967280 by rw [HXB.out]; exact HWS.out a0 _ HX.out k1)
                      have qn := fun q : Ext W2.heap.size W2 => Name_any xb q.w (Env.mk0 (HE.out.later q.h)) HXS.out
                      rw [show nameB xb.data.toList = nameB xs by rw [HXB.out]] at qn
                      clear k3 k2 k1
                      cases hnm : nameB xs
                      · rw [hnm] at qn
                        as_aux_lemma =>
                          refine region_lex 39 W2.heap.size W2 (Below.refl _ _) ?_
                          simp only [List.append, List.take_succ_cons, List.take_zero, List.drop_succ_cons, List.drop_zero]
                          repeat (go_big_quiet_step (fail))
                          go_big_quiet_step ((go_at_call 15; exact calls_later (Nat.le_refl _) (qn _)))
                          repeat (go_big_quiet_step (fail))
                          refine wpQuiet_nil ?_
                          rintro V4 ⟨x9, hx9⟩
                          have hW9 := x9.h
                          rw [← hx9] at hW9
                          have HW9 := Lib.hid hW9
                          clear hx9 x9 hW9
                          go_wp2_with fail
                          go_meet
                          exact ⟨false, rfl, HW9.out, fun h => nomatch h⟩
                      · rw [hnm] at qn
                        by_cases hns : nb = (⟨#[40]⟩ : ByteArray)
                        · have y4 : (nb.toList == [40]) = true := by rw [hns]; kernel_rfl
                          clear hns
                          as_aux_lemma =>
                            refine region_lex 39 W2.heap.size W2 (Below.refl _ _) ?_
                            simp only [List.append, List.take_succ_cons, List.take_zero, List.drop_succ_cons, List.drop_zero]
                            repeat (go_big_quiet_step (fail))
                            go_big_quiet_step ((go_at_call 15; exact calls_later (Nat.le_refl _) (qn _)))
                            repeat (go_big_quiet_step (fail))
                            refine wpQuiet_nil ?_
                            rintro V4 ⟨x9, hx9⟩
                            have hW9 := x9.h
                            rw [← hx9] at hW9
                            have HW9 := Lib.hid hW9
                            clear hx9 x9 hW9
                            go_wp2_with fail
                            go_meet
                            exact ⟨false, rfl, HW9.out, fun h => nomatch h⟩
                        · have y5 : (nb.toList == [40]) = false := bytes_tl hns
                          have HNS := Lib.hid (show (ns == s_open) = false by
                            rw [beq_eq_false_iff_ne]
                            intro e
                            apply hns
                            have h0 := HNB.out
                            rw [e] at h0
                            apply ByteArray.ext
                            apply Array.toList_inj.1
                            exact h0)
                          have HNM := Lib.hid hnm
                          clear hns hnm
                          as_aux_lemma =>
                            refine region_lex 39 W2.heap.size W2 (Below.refl _ _) ?_
                            simp only [List.append, List.take_succ_cons, List.take_zero, List.drop_succ_cons, List.drop_zero]
                            repeat (go_big_quiet_step (fail))
                            go_big_quiet_step ((go_at_call 15; exact calls_later (Nat.le_refl _) (qn _)))
                            repeat (go_big_quiet_step (fail))
                            refine wpQuiet_nil ?_
                            rintro V4 ⟨x9, hx9⟩
                            have hW9 := x9.h
                            rw [← hx9] at hW9
                            have HW9 := Lib.hid hW9
                            clear hx9 x9 hW9
                            go_wp2_with fail
                            go_meet
                            exact ⟨true, rfl, HW9.out, fun _ => by have h1 := K1.out; have h2 := HNS.out; have h3 := HNM.out; simp [alnB, h1, h2, h3]⟩
                    · have y1 : ((xk : Int) == 1) = false := by simp; omega
                      clear k3 k2 k1
                      as_aux_lemma =>
                        refine region_lex 39 W2.heap.size W2 (Below.refl _ _) ?_
                        simp only [List.append, List.take_succ_cons, List.take_zero, List.drop_succ_cons, List.drop_zero]
                        repeat (go_big_quiet_step (fail))
                        refine wpQuiet_nil ?_
                        rintro V4 ⟨x9, hx9⟩
                        have hW9 := x9.h
                        rw [← hx9] at hW9
                        have HW9 := Lib.hid hW9
                        clear hx9 x9 hW9
                        go_wp2_with fail
                        go_meet
                        exact ⟨false, rfl, HW9.out, fun h => nomatch h⟩
              case rest =>
                obtain ⟨al, rfl, hlat, hal⟩ := hcut
                have HAL := Lib.hid hal
                clear hal
                have HE9 := Lib.hid (HE.out.later hlat)
                have HBW9 := Lib.hid (Later.then HBW.out hlat)
                have HAT19 := Lib.hid (St.at_.keep (btw_later hlat) HAT1.out)
                have HB19 := Lib.hid (HB1.out.later hlat)
                have HK19 := Lib.hid (HK1.out.later hlat)
                replace HE := HE9
                clear HE9
                replace HBW := HBW9
                clear HBW9
                replace HAT1 := HAT19
                clear HAT19
                replace HB1 := HB19
                clear HB19
                replace HK1 := HK19
                clear HK19
                clear hlat
                cases op
                · as_aux_lemma =>
                    go_wp2_with fail
                    refine (wakes_any _ HE.out).mono ?_
                    rintro e w9 ⟨rfl, b9⟩
                    go_wp2_with fail
                    go_ret
                    exact ⟨rfl, Later.then HBW.out b9⟩
                · cases al
                  · as_aux_lemma =>
                      go_wp2_with fail
                      refine (wakes_any _ HE.out).mono ?_
                      rintro e w9 ⟨rfl, b9⟩
                      go_wp2_with fail
                      go_ret
                      exact ⟨rfl, Later.then HBW.out b9⟩
                  · obtain ⟨j, t, hj, ht, hopn⟩ := HOP.out rfl
                    have HALN := Lib.hid (HAL.out rfl)
                    have HBL := Lib.hid (show parseL (layL (some a0) 0 ps) = .ok d by
                      subst hj
                      exact brackets_law HCU.out HL.out (by have h1 := HSS2.out; have h0 : s.data.toList.length = s.size := (by simp); omega) HPD.out HKD.out ht HX.out HNX.out hopn HALN.out)
                    have HSL := Lib.hid (show (layL (some a0) 0 ps).length ≤ 4000 by
                      have h3 := (layL_len2 (some a0) 0 ps HCU.out.pcs.ne).1
                      have e3 := congrArg List.length HCU.out.txt
                      simp only [List.length_append] at e3
                      have : s.data.toList.length = s.size := by simp
                      have := HSS2.out
                      omega)
                    clear hj ht hopn
                    go_wp2_with fail
                    refine (HLA.out a0 L rfl _ HK1.out).mono ?_
                    rintro e v2 ⟨⟨T, rfl, hT⟩, b⟩
                    have HTS := Lib.hid (show T.size ≤ 4294967280 by
                      have h1 := HSL.out
                      rw [← hT] at h1
                      have : T.data.toList.length = T.size := by simp
                      omega)
                    have HPT := Lib.hid (show parseL T.data.toList = .ok d by rw [hT]; exact HBL.out)
                    clear hT HBL HSL
                    have HE9 := Lib.hid (HE.out.later b)
                    have HBW9 := Lib.hid (Later.then HBW.out b)
                    have HAT19 := Lib.hid (St.at_.keep (btw_later b) HAT1.out)
                    have HB19 := Lib.hid (HB1.out.later b)
                    have HK19 := Lib.hid (HK1.out.later b)
                    replace HE := HE9
                    clear HE9
                    replace HBW := HBW9
                    clear HBW9
                    replace HAT1 := HAT19
                    clear HAT19
                    replace HB1 := HB19
                    clear HB19
                    replace HK1 := HK19
                    clear HK19
                    clear b
                    go_wp2_with fail
                    refine (gpar_any T _ HE.out (HTS.out)).mono ?_
                    rintro e w2 ⟨y2, rfl, hat2, b2⟩
                    have HAT2 := Lib.hid hat2
                    clear hat2
                    have HE9 := Lib.hid (HE.out.later b2)
                    have HBW9 := Lib.hid (Later.then HBW.out b2)
                    have HAT19 := Lib.hid (St.at_.keep (btw_later b2) HAT1.out)
                    have HB19 := Lib.hid (HB1.out.later b2)
                    have HK19 := Lib.hid (HK1.out.later b2)
                    replace HE := HE9
                    clear HE9
                    replace HBW := HBW9
                    clear HBW9
                    replace HAT1 := HAT19
                    clear HAT19
                    replace HB1 := HB19
                    clear HB19
                    replace HK1 := HK19
                    clear HK19
                    clear b2
                    obtain ⟨cs2, hcs2⟩ : ∃ cs, cs = (stC y2).toArray := ⟨_, rfl⟩
                    have HSZ := Lib.hid (show (Tryz.prog.info? 35).map (·.size) = some cs2.size by rw [hcs2]; exact gst_info)
                    have HGS := Lib.hid (show gst0.size = cs2.size by rw [hcs2, gst_siz]; exact gst_siz _)
                    have HON := Lib.hid (show cs2.all (·.oneCell') = true by rw [hcs2]; exact gst_one _)
                    have HCS2 := Lib.hid hcs2
                    unfold stV
                    rw [← hcs2]
                    clear hcs2
                    generalize hpp2 : parP _ = pp2
                    generalize hpx2 : parX _ = px2
                    have HPP2 := Lib.hid hpp2
                    have HPX2 := Lib.hid hpx2
                    clear hpp2 hpx2
                    have bn2 := later_new w2 (.cells cs2 35)
                    have HB2 := Lib.hid (Blk.new w2 35 cs2)
                    go_upto_region 16 with (first
                      | (refine wpList_store_row rfl 35 (.tmp 15) (.tmp 201) rfl w2.heap.size cs2 rfl rfl 35 gst0 (Blk.new w2 35 gst0) HSZ.out HGS.out HON.out ?_
                         rw [alloc_row]))
                    change Code.wp _ _ _ _ (w2.alloc (.cells cs2 35))
                    have HE9 := Lib.hid (HE.out.later bn2)
                    have HBW9 := Lib.hid (Later.then HBW.out bn2)
                    have HAT19 := Lib.hid (St.at_.keep (btw_later bn2) HAT1.out)
                    have HB19 := Lib.hid (HB1.out.later bn2)
                    have HK19 := Lib.hid (HK1.out.later bn2)
                    have HAT29 := Lib.hid (St.at_.keep (btw_later bn2) HAT2.out)
                    replace HE := HE9
                    clear HE9
                    replace HBW := HBW9
                    clear HBW9
                    replace HAT1 := HAT19
                    clear HAT19
                    replace HB1 := HB19
                    clear HB19
                    replace HK1 := HK19
                    clear HK19
                    replace HAT2 := HAT29
                    clear HAT29
                    clear bn2 HSZ HGS HON
                    generalize hbl2 : w2.heap.size = q2 at *
                    generalize hW : (World.alloc w2 _) = W2 at *
                    clear hW hbl2
                    have hp2 : px2 = 0 := by rw [← HPX2.out]; unfold parX; rw [HPT.out]
                    have hat1 := HAT1.out
                    have hat2 := HAT2.out
                    rw [show parS s.data.toList = d by unfold parS; rw [HPD.out]] at hat1
                    rw [show parS T.data.toList = d by unfold parS; rw [HPT.out]] at hat2
                    have HST := Lib.hid (stmts_true HCS1.out HCS2.out hat1 hat2 HSLM.out)
                    subst hp2
                    clear hat1 hat2
                    go_wp2_with (first
                      | (refine wpList_load_rowG rfl 35 (.tmp 8) rfl q1 rfl 35 cs1 (0, 0) _ HB1.out Tryz.underlying35 rfl (st_csz HCS1.out) ?_)
                      | (refine wpList_load_rowG rfl 35 (.tmp 15) rfl q2 rfl 35 cs2 (0, 0) _ HB2.out Tryz.underlying35 rfl (st_csz HCS2.out) ?_))
                    refine HST.out.mono ?_
                    rintro e v4 ⟨rfl, b⟩
                    have HE9 := Lib.hid (HE.out.later b)
                    have HBW9 := Lib.hid (Later.then HBW.out b)
                    have HAT19 := Lib.hid (St.at_.keep (btw_later b) HAT1.out)
                    have HB19 := Lib.hid (HB1.out.later b)
                    have HK19 := Lib.hid (HK1.out.later b)
                    have HAT29 := Lib.hid (St.at_.keep (btw_later b) HAT2.out)
                    have HB29 := Lib.hid (HB2.out.later b)
                    replace HE := HE9
                    clear HE9
                    replace HBW := HBW9
                    clear HBW9
                    replace HAT1 := HAT19
                    clear HAT19
                    replace HB1 := HB19
                    clear HB19
                    replace HK1 := HK19
                    clear HK19
                    replace HAT2 := HAT29
                    clear HAT29
                    replace HB2 := HB29
                    clear HB29
                    clear b
                    as_aux_lemma =>
                      go_wp2_with fail
                      refine (wakes_any _ HE.out).mono ?_
                      rintro e w9 ⟨rfl, b9⟩
                      go_wp2_with fail
                      go_ret
                      exact ⟨rfl, Later.then HBW.out b9⟩
        · have t1 : (d.kind != 8) = true := by simp [hk]
          as_aux_lemma =>
            go_wp2_with fail
            refine (wakes_any _ HE.out).mono ?_
            rintro e w9 ⟨rfl, b9⟩
            go_wp2_with fail
            go_ret
            exact ⟨rfl, Later.then HBW.out b9⟩
      · have t1 : ((px1 : Int) != 0) = true := by simp; omega
        as_aux_lemma =>
          go_wp2_with fail
          refine (wakes_any _ HE.out).mono ?_
          rintro e w9 ⟨rfl, b9⟩
          go_wp2_with fail
          go_ret
          exact ⟨rfl, Later.then HBW.out b9⟩
end Go.Proofs.YtcneefmaghoejaaGreatDoor
