/- ParseCase. Printed by gen_case.py. -/
import Derived.Test.YtcneefmaghoejaaGreatDoorLfB
import Derived.Test.YtcneefmaghoejaaGreatDoorB47
import Derived.Test.YtcneefmaghoejaaGreatDoorB39
import Derived.Laws.IdiomStrings
namespace Go.Proofs.YtcneefmaghoejaaGreatDoor
open Go.ChangeShapes Go.WideShapes Go.ChangeAt Go.RowKit Go.Shelf
set_option linter.unusedVariables false
set_option linter.unusedSimpArgs false
theorem run_one (w : World) (g : Nat) (c : UInt8) (h : Blk w g 5 #[.int .u8 (c.toNat : Int)]) : (convert 53 9 (.slice (some ⟨g, 0, none⟩) 1 1)).run Tryz.prog w = .ok (.string ⟨#[c]⟩) w := by
  have := run_convert_bytes_back (P := Tryz.prog) w 53 9 5 ⟨g, 0, none⟩ 1 [c] Tryz.underlying53 Tryz.underlying5 Tryz.underlying9 (fun j hj => by
    have : j = 0 := by simpa using hj
    subst this
    have h0 := h.cell 0
    simpa [Addr.add] using h0)
  simpa using this
theorem bytes_tl {a : ByteArray} {l : List UInt8} (h : a ≠ ⟨l.toArray⟩) : (a.toList == l) = false := by
  rw [beq_eq_false_iff_ne]
  intro e
  rw [ByteArray.toList_eq] at e
  exact h (ByteArray.ext (Array.toList_inj.1 e))
theorem region_by {P : Program} {Q : Exit → Act → World → Prop} {a0 : Act} {w0 : World} {id : Nat} {ops : List Oper} (k : Nat) (V : Nat → World → Value → Prop) (hV : ∀ i w w' v, V i w v → Later w w' → V i w' v) (hm : P.follows .mixedOrders = true)
    (hok : okFrom (ops.take k) a0.tmps.size (ops.take k) 0 = true) (hz : tailOk ops (ops.drop k) (ops.take k).length = true)
    (hs : Steps P (ops.take k) Later V a0 w0 (ops.take k) 0) (hf : ∀ w, Later w0 w → FinOf V (fun a w => wpList P ops.toArray Q (ops.drop k) a w) (ops.take k) 0 a0 w) : (Code.region id ops.toArray true).wp P Q a0 w0 :=
  region_rule (ops.drop k) (ops.take k) (List.take_append_drop k ops).symm Later Later.refl (fun _ _ _ => Later.trans) Later.drew V hV hm hok (by rw [List.take_append_drop]; exact hz) hs hf
/-- a region that goes in the order of the text: a quiet front -/
theorem wpList_of_quiet {P : Program} {ops : Array Oper} {C : World → Prop} {Q : Exit → Act → World → Prop} {zs : List Oper} : ∀ (l : List Oper) (a : Act) (w : World), C w → wpQuiet P ops C (fun a => ∀ w, C w → wpList P ops Q zs a w) l a → wpList P ops Q (l ++ zs) a w
  | [], a, w, hC, h => h w hC
  | o :: l, a, w, hC, h => by
    unfold wpQuiet at h
    show wpList P ops Q (o :: (l ++ zs)) a w
    unfold wpList
    by_cases hw : Region.wanted o (yielded ops a.tmps) = true
    · rw [if_pos hw] at h ⊢
      exact .inl (Oper.wp_of_quiet hC (fun a' w' hC' h' => wpList_of_quiet l a' w' hC' h') h)
    · rw [if_neg hw] at h ⊢
      exact wpList_of_quiet l _ w hC h
theorem region_lex {P : Program} {Q : Exit → Act → World → Prop} {a0 : Act} {w : World} {id : Nat} {ops : List Oper} (k B : Nat) (w0 : World) (hb : Below B w0 w)
    (h : wpQuiet P ops.toArray (fun w' => ∃ x : Ext B w0, w' = x.w) (fun a => ∀ w, (∃ x : Ext B w0, w = x.w) → wpList P ops.toArray Q (ops.drop k) a w) (ops.take k) a0) : (Code.region id ops.toArray false).wp P Q a0 w := by
  apply wp_region_lit
  have := wpList_of_quiet (ops.take k) a0 w ⟨⟨w, hb⟩, rfl⟩ h
  rwa [List.take_append_drop] at this
/-- what the operations of part[:k] + string([]byte{c - 32}) + part[k+1:] leave -/
def csV (P : ByteArray) (k k2 : Nat) (c : Int) (u : UInt8) : Nat → World → Value → Prop
  | 0, _, v => v = .string P
  | 1, _, v => v = .int .i64 k
  | 2, _, v => v = .string (P.extract 0 k)
  | 3, _, v => v = .int .u8 c
  | 4, _, v => v = .int .u8 (c - 32)
  | 5, w, v => ∃ g, v = .slice (some ⟨g, 0, none⟩) 1 1 ∧ Blk w g 5 #[.int .u8 (c - 32)]
  | 6, _, v => v = .string ⟨#[u]⟩
  | 7, _, v => v = .string (P.extract 0 k ++ ⟨#[u]⟩)
  | 8, _, v => v = .string P
  | 9, _, v => v = .int .i64 k
  | 10, _, v => v = .int .i64 k2
  | 11, _, v => v = .string (P.extract k2 P.size)
  | 12, _, v => v = .string (P.extract 0 k ++ ⟨#[u]⟩ ++ P.extract k2 P.size)
  | _, _, _ => False
theorem csV_stays (P : ByteArray) (k k2 : Nat) (c : Int) (u : UInt8) : ∀ i w w' v, csV P k k2 c u i w v → Later w w' → csV P k k2 c u i w' v := by
  intro i w w' v h hl
  match i with
  | 0 | 1 | 2 | 3 | 4 | 6 | 7 | 8 | 9 | 10 | 11 | 12 => exact h
  | 5 =>
    obtain ⟨g, h1, h2⟩ := h
    exact ⟨g, h1, h2.later hl⟩
  | n + 13 => exact h
theorem small3 (c : UInt8) : (97 ≤ c ∧ c ≤ 122 ∧ decide ((97 : Int) ≤ c.toNat) = true ∧ decide ((c.toNat : Int) ≤ 122) = true) ∨ (upB c = c ∧ decide ((97 : Int) ≤ c.toNat) = true ∧ decide ((c.toNat : Int) ≤ 122) = false) ∨ (upB c = c ∧ decide ((97 : Int) ≤ c.toNat) = false) := by
  by_cases h1 : (97 : Int) ≤ c.toNat
  · by_cases h2 : (c.toNat : Int) ≤ 122
    · refine .inl ⟨?_, ?_, by simp [h1], by simp [h2]⟩
      · rw [UInt8.le_iff_toNat_le]; have : (97 : UInt8).toNat = 97 := rfl; omega
      · rw [UInt8.le_iff_toNat_le]; have : (122 : UInt8).toNat = 122 := rfl; omega
    · refine .inr (.inl ⟨up_not ?_, by simp [h1], by simp [h2]⟩)
      rintro ⟨_, h⟩
      rw [UInt8.le_iff_toNat_le] at h
      have : (122 : UInt8).toNat = 122 := rfl
      omega
  · refine .inr (.inr ⟨up_not ?_, by simp [h1]⟩)
    rintro ⟨h, _⟩
    rw [UInt8.le_iff_toNat_le] at h
    have : (97 : UInt8).toNat = 97 := rfl
    omega
theorem up_is {c : UInt8} (h1 : 97 ≤ c) (h2 : c ≤ 122) : ((upB c).toNat : Int) = (c.toNat : Int) - 32 := by
  rw [up_small h1 h2]
  simp [UInt8.le_iff_toNat_le] at h1 h2
  rw [UInt8.toNat_sub]
  simp
  omega
theorem Cut.word {s pre : List UInt8} {l : List Tok} {ws : List (Wd × Nat)} {ps : List (List UInt8)} (h : Cut s l pre ws ps) {i : Nat} {x : Wd × Nat} (hx : ws[i]? = some x) : l[i]? = some (tokAt s.length x) := by
  have hi := (List.getElem?_eq_some_iff.1 hx).1
  rw [h.tok, List.getElem?_append_left (by simpa using hi), List.getElem?_map, hx]
  rfl
theorem case_small {s pre : List UInt8} {l : List Tok} {ws : List (Wd × Nat)} {ps : List (List UInt8)} (h : Cut s l pre ws ps) (i : Nat) : (caseL ((ws.map (·.1)).take i) (ps.take i)).length ≤ s.length := by
  have hl := h.pcs.len
  rw [case_len _ _ (by simp [List.length_take, hl])]
  have e : ps.flatten = (ps.take i).flatten ++ (ps.drop i).flatten := by rw [← List.flatten_append, List.take_append_drop]
  have e2 := congrArg List.length e
  have e3 := congrArg List.length h.txt
  simp only [List.length_append] at e2 e3
  omega
theorem case_step {s pre : List UInt8} {l : List Tok} {ws : List (Wd × Nat)} {ps : List (List UInt8)} (h : Cut s l pre ws ps) {i : Nat} {x : Wd × Nat} {p : List UInt8} (hx : ws[i]? = some x) (hp : ps[i]? = some p) : caseL ((ws.map (·.1)).take (i + 1)) (ps.take (i + 1)) = caseL ((ws.map (·.1)).take i) (ps.take i) ++ greatL x.1 p := by
  have hl := h.pcs.len
  rw [List.take_add_one, List.take_add_one, hp, List.getElem?_map, hx]
  exact case_snoc (by simp [List.length_take, hl]) _ _
set_option maxHeartbeats 4000000 in
set_option maxRecDepth 100000 in
theorem caseA_any (s : ByteArray) (w : World) (hE : LexEnv w) : Calls Tryz.prog 7 #[.string s] w (namePost true w) := by
  by_cases hbig : 1000 < s.size
  · have HE := Lib.hid hE
    clear hE
    go_enter Tryz.func7, Tryz.ntmps7
    go_wp2_with fail
    refine (wakes_any _ HE.out).mono ?_
    rintro e w1 ⟨rfl, b1⟩
    go_wp2_with fail
    go_ret
    exact ⟨rfl, b1⟩
  · have HE := Lib.hid hE
    have HSS := Lib.hid (show s.size ≤ 4294967280 by omega)
    have HSS2 := Lib.hid (show s.size ≤ 1000 by omega)
    have HBW := Lib.hid (Below.refl w.heap.size w)
    have hssz : s.size ≤ 1000 := by omega
    clear hE
    cases hl : lexL s.data.toList with
    | error px =>
      obtain ⟨p, x⟩ := px
      go_enter Tryz.func7, Tryz.ntmps7
      have HL := Lib.hid hl
      have hx0 : ((x : Int) != 0) = true := by rcases lexL_errs hl with rfl | rfl <;> rfl
      clear hl
      go_wp2_with fail
      refine (glex_err HL.out HE.out HSS.out).mono ?_
      rintro e v1 ⟨rfl, b⟩
      have HE9 := Lib.hid (HE.out.later b)
      have HBW9 := Lib.hid (Later.then HBW.out b)
      replace HE := HE9
      clear HE9
      replace HBW := HBW9
      clear HBW9
      clear b
      go_wp2_with fail
      refine (gpar_any s _ HE.out (HSS.out)).mono ?_
      rintro e w1 ⟨y1, rfl, hat1, b1⟩
      have HAT1 := Lib.hid hat1
      clear hat1
      have HE9 := Lib.hid (HE.out.later b1)
      have HBW9 := Lib.hid (Later.then HBW.out b1)
      replace HE := HE9
      clear HE9
      replace HBW := HBW9
      clear HBW9
      clear b1
      obtain ⟨cs1, hcs1⟩ : ∃ cs, cs = (stC y1).toArray := ⟨_, rfl⟩
      have HSZ := Lib.hid (show (Tryz.prog.info? 35).map (·.size) = some cs1.size by rw [hcs1]; exact gst_info)
      have HGS := Lib.hid (show gst0.size = cs1.size by rw [hcs1, gst_siz]; exact gst_siz _)
      have HON := Lib.hid (show cs1.all (·.oneCell') = true by rw [hcs1]; exact gst_one _)
      have HCS1 := Lib.hid hcs1
      unfold stV
      rw [← hcs1]
      clear hcs1
      generalize hpp1 : parP _ = pp1
      generalize hpx1 : parX _ = px1
      have HPP1 := Lib.hid hpp1
      have HPX1 := Lib.hid hpx1
      clear hpp1 hpx1
      have bn1 := later_new w1 (.cells cs1 35)
      have HB1 := Lib.hid (Blk.new w1 35 cs1)
      go_upto_region 5 with (first
        | (refine wpList_store_row rfl 35 (.tmp 6) (.tmp 34) rfl w1.heap.size cs1 rfl rfl 35 gst0 (Blk.new w1 35 gst0) HSZ.out HGS.out HON.out ?_
           rw [alloc_row]))
      change Code.wp _ _ _ _ (w1.alloc (.cells cs1 35))
      have HE9 := Lib.hid (HE.out.later bn1)
      have HBW9 := Lib.hid (Later.then HBW.out bn1)
      have HAT19 := Lib.hid (St.at_.keep (btw_later bn1) HAT1.out)
      replace HE := HE9
      clear HE9
      replace HBW := HBW9
      clear HBW9
      replace HAT1 := HAT19
      clear HAT19
      clear bn1 HSZ HGS HON
      generalize hbl1 : w1.heap.size = q1 at *
      generalize hW : (World.alloc w1 _) = W1 at *
      clear hW hbl1
      as_aux_lemma =>
        go_wp2_with fail
        refine (wakes_any _ HE.out).mono ?_
        rintro e w9 ⟨rfl, b9⟩
        go_wp2_with fail
        go_ret
        exact ⟨rfl, Later.then HBW.out b9⟩
    | ok l =>
      go_enter Tryz.func7, Tryz.ntmps7
      obtain ⟨pre, ws, ps, hcut, hskip, hrun⟩ := cut_run hl
      obtain ⟨m, hm, hmw, hmp⟩ := case_lex hcut hskip hrun (by have h0 : s.data.toList.length = s.size := (by simp); omega)
      have HCU := Lib.hid hcut
      have HL := Lib.hid hl
      have HM := Lib.hid hm
      have HMP := Lib.hid hmp
      have HWD := Lib.hid hmw
      have HN := Lib.hid (lexL_ok hl).2.1
      have HLN := Lib.hid hcut.len
      have HTB := Lib.hid (fun i => case_small hcut i)
      have HSZ0 := Lib.hid (show s.data.toList.length = s.size by simp)
      have hx0 : ((0 : Int) != 0) = false := rfl
      clear hl hm hmw hmp hcut hskip hrun
      go_wp2_with fail
      refine (glex_ok HL.out HE.out (HSS.out)).mono ?_
      rintro e v1 ⟨A1, c1, rfl, ho, b⟩
      obtain ⟨gl1, rfl, hgb, hgl, hc⟩ := ho.cells (by have := (lexL_cons HL.out); obtain ⟨a, b, h⟩ := this; rw [h]; simp)
      have HK1 := Lib.hid (TkAt.mk hgl hc)
      clear ho hgb hgl hc
      have HE9 := Lib.hid (HE.out.later b)
      have HBW9 := Lib.hid (Later.then HBW.out b)
      replace HE := HE9
      clear HE9
      replace HBW := HBW9
      clear HBW9
      clear b
      go_wp2_with fail
      refine (gpar_any s _ HE.out (HSS.out)).mono ?_
      rintro e w1 ⟨y1, rfl, hat1, b1⟩
      have HAT1 := Lib.hid hat1
      clear hat1
      have HE9 := Lib.hid (HE.out.later b1)
      have HBW9 := Lib.hid (Later.then HBW.out b1)
      have HK19 := Lib.hid (HK1.out.later b1)
      replace HE := HE9
      clear HE9
      replace HBW := HBW9
      clear HBW9
      replace HK1 := HK19
      clear HK19
      clear b1
      obtain ⟨cs1, hcs1⟩ : ∃ cs, cs = (stC y1).toArray := ⟨_, rfl⟩
      have HSZ := Lib.hid (show (Tryz.prog.info? 35).map (·.size) = some cs1.size by rw [hcs1]; exact gst_info)
      have HGS := Lib.hid (show gst0.size = cs1.size by rw [hcs1, gst_siz]; exact gst_siz _)
      have HON := Lib.hid (show cs1.all (·.oneCell') = true by rw [hcs1]; exact gst_one _)
      have HCS1 := Lib.hid hcs1
      unfold stV
      rw [← hcs1]
      clear hcs1
      generalize hpp1 : parP _ = pp1
      generalize hpx1 : parX _ = px1
      have HPP1 := Lib.hid hpp1
      have HPX1 := Lib.hid hpx1
      clear hpp1 hpx1
      have bn1 := later_new w1 (.cells cs1 35)
      have HB1 := Lib.hid (Blk.new w1 35 cs1)
      go_upto_region 5 with (first
        | (refine wpList_store_row rfl 35 (.tmp 6) (.tmp 34) rfl w1.heap.size cs1 rfl rfl 35 gst0 (Blk.new w1 35 gst0) HSZ.out HGS.out HON.out ?_
           rw [alloc_row]))
      change Code.wp _ _ _ _ (w1.alloc (.cells cs1 35))
      have HE9 := Lib.hid (HE.out.later bn1)
      have HBW9 := Lib.hid (Later.then HBW.out bn1)
      have HK19 := Lib.hid (HK1.out.later bn1)
      have HAT19 := Lib.hid (St.at_.keep (btw_later bn1) HAT1.out)
      replace HE := HE9
      clear HE9
      replace HBW := HBW9
      clear HBW9
      replace HK1 := HK19
      clear HK19
      replace HAT1 := HAT19
      clear HAT19
      clear bn1 HSZ HGS HON
      generalize hbl1 : w1.heap.size = q1 at *
      generalize hW : (World.alloc w1 _) = W1 at *
      clear hW hbl1
      generalize hln : l.length = n at *
      have HLE := Lib.hid hln
      have HNN : Hid (n = ps.length + 1) := HLN
      have hn0 : ((n : Int) == 0) = false := by have := HNN.out; simp; omega
      have hn1 : 1 ≤ n := by have := HNN.out; omega
      have hnb5 : n ≤ 5000 := by have := HN.out; omega
      clear hln hx0
      go_wp2_with fail
      go_loopw [9, 10] (fun tv iv wr => ∃ (i : Nat) (T : ByteArray), i ≤ ps.length ∧ iv = .int .i64 i ∧ tv = .string T ∧ T.data.toList = caseL ((ws.map (·.1)).take i) (ps.take i) ∧ Below W1.heap.size W1 wr) (fun _ iv _ => ps.length - (intOf iv).toNat)
      case atStart => exact ⟨0, ⟨#[]⟩, Nat.zero_le _, rfl, rfl, rfl, Below.refl _ _⟩
      case round =>
        obtain ⟨i, T, hi, rfl, rfl, hT, hbw⟩ := hrel
        have hTs : T.size ≤ 1000 := by
          have h1 := HTB.out i
          rw [← hT, HSZ0.out] at h1
          simp at h1
          have := HSS2.out
          omega
        have HT := Lib.hid hT
        have HBI := Lib.hid hbw
        clear hT
        obtain ⟨j, hj⟩ : ∃ j, j = i + 1 := ⟨_, rfl⟩
        have e1 : (i : Int) + 1 = (j : Int) := by omega
        have hib : i ≤ 5000 := by have := HNN.out; omega
        by_cases hlt : i < ps.length
        · obtain ⟨p, hp⟩ : ∃ p, ps[i]? = some p := ⟨_, List.getElem?_eq_getElem hlt⟩
          obtain ⟨x, hx⟩ : ∃ x, ws[i]? = some x := ⟨_, List.getElem?_eq_getElem (by have := HCU.out.pcs.len; omega)⟩
          have HT1 := Lib.hid (HCU.out.word hx)
          obtain ⟨t1, h1, hp1, hs1⟩ := HCU.out.place (i := i) (by omega)
          obtain ⟨t2, h2, hp2, hs2⟩ := HCU.out.place (i := i + 1) (by omega)
          have hpc := HCU.out.piece hp
          rw [← hp1, ← hp2] at hpc
          rw [HSZ0.out] at hs1 hs2
          have hle : t1.p ≤ t2.p := by
            rw [hp1, hp2, List.take_add_one, hp]
            simp
          have HX := Lib.hid (show (s.extract t1.p t2.p).data.toList = p by rw [extract_list]; exact hpc)
          have HSN := Lib.hid (case_step HCU.out hx hp)
          have HPB := Lib.hid (show p.length ≤ 1000 by
            have h1 := congrArg List.length hpc
            simp at h1
            have := HSS2.out
            omega)
          have c1 := ((HK1.out.later hbw).cell i t1 h1).2.2.2
          have c2 := ((HK1.out.later hbw).cell (i + 1) t2 h2).2.2.2
          rw [← hj] at c2
          have hgr : gl1 < wr.heap.size := (HK1.out.later hbw).lt
          have hxs : (s.extract t1.p t2.p).size ≤ 1000 := by rw [ByteArray.size_extract]; have := HSS2.out; omega
          clear hpc hp1 hp2 h1 h2 hx hp hbw
          generalize t1.p = a1 at *
          generalize t2.p = a2 at *
          have z1 := decide_eq_false (show ¬ ((a1 : Int) < 0) by omega)
          have z2 := decide_eq_false (show ¬ ((a2 : Int) < (a1 : Int)) by omega)
          have z3 := decide_eq_false (show ¬ ((s.size : Int) < (a2 : Int)) by omega)
          have hyl : ((j : Int) < (n : Int)) := by have := HNN.out; omega
          have hil : ((i : Int) < (n : Int)) := by have := HNN.out; omega
          have z6 := decide_eq_false (show ¬ (a2 < a1) by omega)
          have z7 := decide_eq_false (show ¬ (s.size < a2) by omega)
          have z4 : (a1 : Int) ≤ (a2 : Int) := by omega
          have z5 : (a2 : Int) ≤ (s.size : Int) := by omega
          have HJ := Lib.hid hj
          have HLT := Lib.hid hlt
          have qa := fun q : Ext wr.heap.size wr => (q.h.cell (p := ⟨gl1, i * 4 + 3, none⟩) hgr).trans c1
          have qb := fun q : Ext wr.heap.size wr => (q.h.cell (p := ⟨gl1, j * 4 + 3, none⟩) hgr).trans c2
          clear hj hlt hi c1 c2
          go_upto_region 13 with fail
          refine region_cut 31 wr.heap.size wr (Below.refl _ _) (by kernel_rfl) (by kernel_rfl) (by kernel_rfl) (by kernel_rfl) ?_
          simp only [List.append, List.take_succ_cons, List.take_zero, List.drop_succ_cons, List.drop_zero]
          repeat (go_big_quiet_step (fail))
          refine wpQuiet_nil ?_
          rintro V4 ⟨x9, hx9⟩
          have hW9 := x9.h
          rw [← hx9] at hW9
          have HW9 := Lib.hid hW9
          clear hx9 x9 hW9
          go_upto_region 15 with fail
          refine region_cut 13 wr.heap.size wr HW9.out (by kernel_rfl) (by kernel_rfl) (by kernel_rfl) (by kernel_rfl) ?_
          simp only [List.append, List.take_succ_cons, List.take_zero, List.drop_succ_cons, List.drop_zero]
          repeat (go_big_quiet_step (fail))
          refine wpQuiet_nil ?_
          rintro V5 ⟨x8, hx8⟩
          have hW8 := x8.h
          rw [← hx8] at hW8
          replace HBI := Lib.hid (Later.then HBI.out hW8)
          clear hx8 x8 hW8 HW9 qa qb
          go_wp2_with fail
          go_loopw [11, 12] (fun pv kv wr => ∃ (k : Nat) (P : ByteArray), k ≤ p.length ∧ (x.1.k ≠ 1 → k = 0) ∧ kv = .int .i64 k ∧ pv = .string P ∧ P.data.toList = grK x.1.s.length k p ∧ Below W1.heap.size W1 wr) (fun _ kv _ => p.length - (intOf kv).toNat)
          case atStart => exact ⟨0, _, Nat.zero_le _, fun _ => rfl, rfl, rfl, by rw [grK_zero]; exact HX.out, HBI.out⟩
          case round =>
            obtain ⟨k, P, hk, hk1, rfl, rfl, hP, hbk⟩ := hrel
            have hPs : P.size = p.length := by
              have h0 : P.data.toList.length = P.size := by simp
              rw [← h0, hP, grK_len]
            have HP := Lib.hid hP
            have HK1X := Lib.hid hk1
            have HBK := Lib.hid hbk
            have HPS := Lib.hid hPs
            obtain ⟨dk, ds, _, _⟩ := (HK1.out.later hbk).cell i _ HT1.out
            obtain ⟨nb, hnb⟩ : ∃ nb : ByteArray, nb = ⟨x.1.s.toArray⟩ := ⟨_, rfl⟩
            have hds : World.cell? wr ⟨gl1, i * 4 + 1, none⟩ = some (.string nb) := by rw [hnb]; exact ds
            have HNB := Lib.hid (show nb.size = x.1.s.length by rw [hnb]; rfl)
            have hdk : World.cell? wr ⟨gl1, i * 4, none⟩ = some (.int .u8 x.1.k) := dk
            have hPb : P.size ≤ 1000 := by have := HPB.out; omega
            clear hP hk1 hbk dk ds hnb
            by_cases hkl : k < P.size
            · by_cases hk1 : x.1.k = 1
              · have y1 : ((x.1.k : Int) == 1) = true := by simp; omega
                have HPK := Lib.hid (show p[k]? = some P[k] by rw [← grK_at x.1.s.length k p, ← HP.out]; exact byte_at P k hkl)
                obtain ⟨k2, hk2⟩ : ∃ k2, k2 = k + 1 := ⟨_, rfl⟩
                have HK2 := Lib.hid hk2
                have e2 : (k : Int) + 1 = (k2 : Int) := by omega
                have hk2b : k2 ≤ P.size := by omega
                clear hk2 hPs hk
                have HKN := Lib.hid hk1
                clear hk1
                by_cases hkn : k < nb.size
                · have y2 : (k : Int) < (nb.size : Int) := by omega
                  rcases small3 P[k] with ⟨s1, s2, t1, t2⟩ | ⟨s1, t1, t2⟩ | ⟨s1, t1⟩
                  · have hlow := up_is s1 s2
                    have hr := run_one _ _ (upB P[k]) (Blk.new wr 5 #[.int .u8 ((upB P[k]).toNat : Int)])
                    rw [hlow] at hr
                    have hn : 97 ≤ P[k].toNat := by have := of_decide_eq_true t1; omega
                    have hn2 : P[k].toNat ≤ 122 := by have := of_decide_eq_true t2; omega
                    have HLOW := Lib.hid hlow
                    have HBN := Lib.hid (Later.then HBK.out (later_new wr (.cells #[.int .u8 ((P[k].toNat : Int) - 32)] 5)))
                    have HKL := Lib.hid hkn
                    have hcu := hlow.symm
                    clear hlow s1 s2
                    go_upto_region 21 with fail
                    have HCU1 := Lib.hid hcu
                    refine region_by 13 (csV P k k2 (P[k].toNat : Int) (upB P[k])) (csV_stays _ _ _ _ _) (by kernel_rfl) (by kernel_rfl) (by kernel_rfl) ?_ ?_
                    · simp only [List.take_succ_cons, List.take_zero]
                      refine ⟨?_, ?_, ?_, ?_, ?_, ?_, ?_, ?_, ?_, ?_, ?_, ?_, ?_, trivial⟩
                      · intro ρ w3 hc hL hr
                        have h1 : ρ (.tmp 11) = .string P := hr.1
                        exact opW_run (w' := w3) (by simp [go_sem, h1]) ⟨Later.refl _, rfl⟩
                      · intro ρ w3 hc hL hr
                        have h1 : ρ (.tmp 12) = .int .i64 k := hr.1
                        exact opW_run (w' := w3) (by simp [go_sem, h1]) ⟨Later.refl _, rfl⟩
                      · intro ρ w3 hc hL hr
                        have h1 : ρ (.tmp 127) = .string P := hr.1
                        have h2 : ρ (.tmp 128) = .int .i64 k := hr.2.1
                        have h3 : (k : Int) ≤ (P.size : Int) := by omega
                        exact opW_run (v := .string (P.extract 0 k)) (w' := w3) (by simp [go_sem, h1, h2, h3]; done) ⟨Later.refl _, rfl⟩
                      · intro ρ w3 hc hL hr
                        have h1 : ρ (.tmp 13) = .int .u8 (P[k].toNat : Int) := hr.1
                        exact opW_run (w' := w3) (by simp [go_sem, h1]) ⟨Later.refl _, rfl⟩
                      · intro ρ w3 hc hL hr
                        have h1 : ρ (.tmp 130) = .int .u8 (P[k].toNat : Int) := hr.1
                        exact opW_run (v := .int .u8 ((P[k].toNat : Int) - 32)) (w' := w3) (by simp [go_sem, h1, hc.const]; rw [IntKind.wrap_u8]; omega) ⟨Later.refl _, rfl⟩
                      · intro ρ w3 hc hL hr
                        have h1 : ρ (.tmp 131) = .int .u8 ((P[k].toNat : Int) - 32) := hr.1
                        exact opW_run (v := .slice (some ⟨w3.heap.size, 0, none⟩) 1 1) (w' := w3.alloc (.cells #[.int .u8 ((P[k].toNat : Int) - 32)] 5)) (by simp [go_sem, h1]; done) ⟨later_new _ _, ⟨_, rfl, Blk.new _ _ _⟩⟩
                      · intro ρ w3 hc hL hr
                        obtain ⟨gg, h1, h2⟩ : ∃ g, ρ (.tmp 132) = .slice (some ⟨g, 0, none⟩) 1 1 ∧ Blk w3 g 5 #[.int .u8 ((P[k].toNat : Int) - 32)] := hr.1
                        rw [HCU1.out] at h2
                        have h3 := run_one w3 gg (upB P[k]) h2
                        exact opW_run (v := .string ⟨#[upB P[k]]⟩) (w' := w3) (by simp [go_sem, h1, h3]; done) ⟨Later.refl _, rfl⟩
                      · intro ρ w3 hc hL hr
                        have h1 : ρ (.tmp 129) = .string (P.extract 0 k) := hr.1
                        have h2 : ρ (.tmp 133) = .string ⟨#[upB P[k]]⟩ := hr.2.1
                        exact opW_run (v := .string (P.extract 0 k ++ (⟨#[upB P[k]]⟩ : ByteArray))) (w' := w3) (by simp [go_sem, h1, h2]; omega) ⟨Later.refl _, rfl⟩
                      · intro ρ w3 hc hL hr
                        have h1 : ρ (.tmp 11) = .string P := hr.1
                        exact opW_run (w' := w3) (by simp [go_sem, h1]) ⟨Later.refl _, rfl⟩
                      · intro ρ w3 hc hL hr
                        have h1 : ρ (.tmp 12) = .int .i64 k := hr.1
                        exact opW_run (w' := w3) (by simp [go_sem, h1]) ⟨Later.refl _, rfl⟩
                      · intro ρ w3 hc hL hr
                        have h1 : ρ (.tmp 136) = .int .i64 k := hr.1
                        exact opW_run (v := .int .i64 k2) (w' := w3) (by simp [go_sem, h1, hc.const]; rw [IntKind.wrap_i64]; omega) ⟨Later.refl _, rfl⟩
                      · intro ρ w3 hc hL hr
                        have h1 : ρ (.tmp 135) = .string P := hr.1
                        have h2 : ρ (.tmp 137) = .int .i64 k2 := hr.2.1
                        have h3 : (k2 : Int) ≤ (P.size : Int) := by omega
                        exact opW_run (v := .string (P.extract k2 P.size)) (w' := w3) (by simp [go_sem, h1, h2, h3]; done) ⟨Later.refl _, rfl⟩
                      · intro ρ w3 hc hL hr
                        have h1 : ρ (.tmp 134) = .string (P.extract 0 k ++ ⟨#[upB P[k]]⟩) := hr.1
                        have h2 : ρ (.tmp 138) = .string (P.extract k2 P.size) := hr.2.1
                        exact opW_run (v := .string (P.extract 0 k ++ (⟨#[upB P[k]]⟩ : ByteArray) ++ P.extract k2 P.size)) (w' := w3) (by simp [go_sem, h1, h2]; omega) ⟨Later.refl _, rfl⟩
                    · intro w3 hL
                      simp only [List.take_succ_cons, List.take_zero, List.drop_succ_cons, List.drop_zero]
                      intro _ _ _ _ _ _ _ _ _ _ _ _ _ _ _ _ _ _ _ _ _ _ _ _ v12 h12
                      have h12 : v12 = .string (P.extract 0 k ++ ⟨#[upB P[k]]⟩ ++ P.extract k2 P.size) := h12
                      subst h12
                      have HBN := Lib.hid (Later.then HBK.out hL)
                      simp only [FinOf, Act.put, List.setIfInBounds_toArray, List.set_cons_succ, List.set_cons_zero]
                      go_wp2_with fail
                      go_roundw
                      case rel =>
                        refine ⟨k2, _, by have := HPS.out; omega, fun h => absurd HKN.out h, by go_num, rfl, ?_, HBN.out⟩
                        rw [HK2.out, grK_next (by have := HNB.out; have := HKL.out; omega) HPK.out, ← HP.out]
                        simp [bytes_app, extract_list]
                        exact List.take_of_length_le (by simp)
                      case measure => have := HK2.out; have := HPS.out; simp [intOf]; omega
                  · have HUP := Lib.hid s1
                    clear s1
                    go_wp2_with fail
                    go_roundw
                    case rel => exact ⟨k2, P, by have := HPS.out; omega, fun h => absurd HKN.out h, by go_num, rfl, by rw [HK2.out, grK_same HPK.out HUP.out]; exact HP.out, HBK.out⟩
                    case measure => have := HK2.out; have := HPS.out; simp [intOf]; omega
                  · have HUP := Lib.hid s1
                    clear s1
                    go_wp2_with fail
                    go_roundw
                    case rel => exact ⟨k2, P, by have := HPS.out; omega, fun h => absurd HKN.out h, by go_num, rfl, by rw [HK2.out, grK_same HPK.out HUP.out]; exact HP.out, HBK.out⟩
                    case measure => have := HK2.out; have := HPS.out; simp [intOf]; omega
                · have y2 : ¬ (k : Int) < (nb.size : Int) := by omega
                  have HKL := Lib.hid hkn
                  go_wp2_with fail
                  go_roundw
                  case rel => exact ⟨k2, P, by have := HPS.out; omega, fun h => absurd HKN.out h, by go_num, rfl, by rw [HK2.out, grK_past (by have := HNB.out; have := HKL.out; omega)]; exact HP.out, HBK.out⟩
                  case measure => have := HK2.out; have := HPS.out; simp [intOf]; omega
              · have y1 : ((x.1.k : Int) == 1) = false := by simp; omega
                have HKN := Lib.hid hk1
                have HPE := Lib.hid (show P.data.toList = greatL x.1 p by rw [HP.out, HK1X.out hk1, grK_zero, great_other hk1])
                clear hk1
                go_wp2_with fail
                go_roundw
                case rel =>
                  refine ⟨j, _, by have := HLT.out; have := HJ.out; omega, by go_num, rfl, ?_, HBK.out⟩
                  rw [HJ.out, HSN.out, bytes_app, HT.out, HPE.out]
                case measure => have := HJ.out; have := HLT.out; simp [intOf]; omega
            · have HPE := Lib.hid (show P.data.toList = greatL x.1 p by
                have hke : k = p.length := by omega
                rw [HP.out]
                by_cases hk1 : x.1.k = 1
                · rw [hke, grK_end hk1]
                · have := HK1X.out hk1
                  rw [this, grK_zero, great_other hk1])
              go_wp2_with fail
              go_roundw
              case rel =>
                refine ⟨j, _, by have := HLT.out; have := HJ.out; omega, by go_num, rfl, ?_, HBK.out⟩
                rw [HJ.out, HSN.out, bytes_app, HT.out, HPE.out]
              case measure => have := HJ.out; have := HLT.out; simp [intOf]; omega
        · obtain rfl : i = ps.length := by omega
          have hnl : ¬ ((j : Int) < (n : Int)) := by have := HNN.out; omega
          have HTT := Lib.hid (show T.data.toList = caseL (ws.map (·.1)) ps by
            have := HT.out
            rw [List.take_length, show ps.length = (ws.map (·.1)).length by rw [List.length_map]; exact HCU.out.pcs.len, List.take_length] at this
            exact this)
          have HMT := Lib.hid (show lexL T.data.toList = .ok m by rw [HTT.out]; exact HM.out)
          have HTS := Lib.hid (show T.size ≤ 4294967280 by omega)
          clear hj HT HBI
          have HE9 := Lib.hid (HE.out.later hbw)
          have HBW9 := Lib.hid (Later.then HBW.out hbw)
          have HK19 := Lib.hid (HK1.out.later hbw)
          have HAT19 := Lib.hid (St.at_.keep (btw_later hbw) HAT1.out)
          have HB19 := Lib.hid (HB1.out.later hbw)
          replace HE := HE9
          clear HE9
          replace HBW := HBW9
          clear HBW9
          replace HK1 := HK19
          clear HK19
          replace HAT1 := HAT19
          clear HAT19
          replace HB1 := HB19
          clear HB19
          clear hbw
          by_cases hps : ps.length = 0
          · have HAH := Lib.hid (show s.data.toList.length - ps.flatten.length = s.size by
              have : ps = [] := List.length_eq_zero_iff.1 hps
              rw [this]
              simp)
            have z1 : ¬ ((n : Int) > 1) := by have := HNN.out; omega
            clear hps
            go_upto_region 27 with fail
            go_wp2_with fail
            refine (gpar_any T _ HE.out (HTS.out)).mono ?_
            rintro e w2 ⟨y2, rfl, hat2, b2⟩
            have HAT2 := Lib.hid hat2
            clear hat2
            have HE9 := Lib.hid (HE.out.later b2)
            have HBW9 := Lib.hid (Later.then HBW.out b2)
            have HK19 := Lib.hid (HK1.out.later b2)
            have HAT19 := Lib.hid (St.at_.keep (btw_later b2) HAT1.out)
            have HB19 := Lib.hid (HB1.out.later b2)
            replace HE := HE9
            clear HE9
            replace HBW := HBW9
            clear HBW9
            replace HK1 := HK19
            clear HK19
            replace HAT1 := HAT19
            clear HAT19
            replace HB1 := HB19
            clear HB19
            clear b2
            obtain ⟨cs2, hcs2⟩ : ∃ cs, cs = (stC y2).toArray := ⟨_, rfl⟩
            have HSZ := Lib.hid (show (Tryz.prog.info? 35).map (·.size) = some cs2.size by rw [hcs2]; exact gst_info)
            have HGS := Lib.hid (show gst0.size = cs2.size by rw [hcs2, gst_siz]; exact gst_siz _)
            have HON := Lib.hid (show cs2.all (·.oneCell') = true by rw [hcs2]; exact gst_one _)
            have HCS2 := Lib.hid hcs2
            unfold stV
            rw [← hcs2]
            clear hcs2
            generalize hpp2 : parP _ = pp2
            generalize hpx2 : parX _ = px2
            have HPP2 := Lib.hid hpp2
            have HPX2 := Lib.hid hpx2
            clear hpp2 hpx2
            have bn2 := later_new w2 (.cells cs2 35)
            have HB2 := Lib.hid (Blk.new w2 35 cs2)
            go_upto_region 28 with (first
              | (refine wpList_store_row rfl 35 (.tmp 15) (.tmp 155) rfl w2.heap.size cs2 rfl rfl 35 gst0 (Blk.new w2 35 gst0) HSZ.out HGS.out HON.out ?_
                 rw [alloc_row]))
            change Code.wp _ _ _ _ (w2.alloc (.cells cs2 35))
            have HE9 := Lib.hid (HE.out.later bn2)
            have HBW9 := Lib.hid (Later.then HBW.out bn2)
            have HK19 := Lib.hid (HK1.out.later bn2)
            have HAT19 := Lib.hid (St.at_.keep (btw_later bn2) HAT1.out)
            have HB19 := Lib.hid (HB1.out.later bn2)
            have HAT29 := Lib.hid (St.at_.keep (btw_later bn2) HAT2.out)
            replace HE := HE9
            clear HE9
            replace HBW := HBW9
            clear HBW9
            replace HK1 := HK19
            clear HK19
            replace HAT1 := HAT19
            clear HAT19
            replace HB1 := HB19
            clear HB19
            replace HAT2 := HAT29
            clear HAT29
            clear bn2 HSZ HGS HON
            generalize hbl2 : w2.heap.size = q2 at *
            generalize hW : (World.alloc w2 _) = W2 at *
            clear hW hbl2
            obtain ⟨k1, k2, k3, k4⟩ := par_words HL.out HMT.out HWD.out
            rw [HPX1.out, HPX2.out] at k1
            rw [HPP1.out, HPP2.out, HPX1.out] at k4
            subst k1
            have hat2 := HAT2.out
            rw [k2] at hat2
            have HST := Lib.hid (stmts_true HCS1.out HCS2.out HAT1.out hat2 (par_slim s.data.toList))
            have K4 := Lib.hid k4
            have t1 : ((px2 : Int) != (px2 : Int)) = false := by simp
            clear k2 k3 k4 hat2
            go_wp2_with (first
              | (refine wpList_load_rowG rfl 35 (.tmp 6) rfl q1 rfl 35 cs1 (0, 0) _ HB1.out Tryz.underlying35 rfl (st_csz HCS1.out) ?_)
              | (refine wpList_load_rowG rfl 35 (.tmp 15) rfl q2 rfl 35 cs2 (0, 0) _ HB2.out Tryz.underlying35 rfl (st_csz HCS2.out) ?_))
            refine HST.out.mono ?_
            clear HST t1
            rintro e v4 ⟨rfl, b⟩
            have HE9 := Lib.hid (HE.out.later b)
            have HBW9 := Lib.hid (Later.then HBW.out b)
            have HK19 := Lib.hid (HK1.out.later b)
            have HAT19 := Lib.hid (St.at_.keep (btw_later b) HAT1.out)
            have HB19 := Lib.hid (HB1.out.later b)
            have HAT29 := Lib.hid (St.at_.keep (btw_later b) HAT2.out)
            have HB29 := Lib.hid (HB2.out.later b)
            replace HE := HE9
            clear HE9
            replace HBW := HBW9
            clear HBW9
            replace HK1 := HK19
            clear HK19
            replace HAT1 := HAT19
            clear HAT19
            replace HB1 := HB19
            clear HB19
            replace HAT2 := HAT29
            clear HAT29
            replace HB2 := HB29
            clear HB29
            clear b
            by_cases h31 : px2 = 31
            · obtain ⟨i0, ta, tb, a1, a2, a3, a4⟩ := K4.out h31
              have a5 := HMP.out i0 ta tb a1 a2
              have a6 : ta.p ≤ s.data.toList.length := by
                have hi := (List.getElem?_eq_some_iff.1 a1).1
                obtain ⟨t', g1, _, g3⟩ := HCU.out.place (i := i0) (by have := HLE.out; have := HNN.out; omega)
                rw [a1] at g1
                injection g1 with g1
                rw [g1]
                exact g3
              have a7 : pp1 ≤ 1000 := by have := HSZ0.out; have := HSS2.out; omega
              have a8 : s.size ≤ 1000 := by have := HAH.out; have := HSZ0.out; have := HSS2.out; omega
              have t3 : ((px2 : Int) == 31) = true := by simp; omega
              have t4 : ((pp2 : Int) != (pp1 : Int) - (s.size : Int)) = false := by
                have := HAH.out
                simp; omega
              have t5 : ((px2 : Int) != 0) = true := by simp; omega
              clear h31 a1 a2 a3 a4 a5 K4
              as_aux_lemma =>
                go_wp2_with fail
                refine (wakes_any _ HE.out).mono ?_
                rintro e w9 ⟨rfl, b9⟩
                go_wp2_with fail
                go_ret
                exact ⟨rfl, Later.then HBW.out b9⟩
            · have t3 : ((px2 : Int) == 31) = false := by simp; omega
              by_cases h0 : px2 = 0
              · subst h0
                have HX2 := Lib.hid (ok_words2 HL.out (HPX1.out))
                exfalso
                have := HX2.out
                have := HLE.out
                omega
              · have t5 : ((px2 : Int) != 0) = true := by simp; omega
                clear h0 h31
                as_aux_lemma =>
                  go_wp2_with fail
                  refine (wakes_any _ HE.out).mono ?_
                  rintro e w9 ⟨rfl, b9⟩
                  go_wp2_with fail
                  go_ret
                  exact ⟨rfl, Later.then HBW.out b9⟩
          · obtain ⟨t0, h0, hp0, hs0⟩ := HCU.out.place (i := 0) (by omega)
            obtain ⟨ah, hah⟩ : ∃ ah, ah = t0.p := ⟨_, rfl⟩
            have HAH := Lib.hid (show s.data.toList.length - ps.flatten.length = ah by
              have e3 := congrArg List.length HCU.out.txt
              simp only [List.length_append] at e3
              rw [hah, hp0]
              simp only [List.take_zero, List.flatten_nil, List.length_nil]
              omega)
            have c0 : World.cell? _ ⟨gl1, 3, none⟩ = some (.int .i64 t0.p) := (HK1.out.cell 0 t0 h0).2.2.2
            rw [← hah] at c0
            have z1 : ((n : Int) > 1) := by have := HNN.out; omega
            have z2 : ((0 : Int) < (n : Int)) := by have := HNN.out; omega
            clear hps h0 hp0 hs0 hah
            go_upto_region 27 with fail
            go_wp2_with fail
            refine (gpar_any T _ HE.out (HTS.out)).mono ?_
            rintro e w2 ⟨y2, rfl, hat2, b2⟩
            have HAT2 := Lib.hid hat2
            clear hat2
            have HE9 := Lib.hid (HE.out.later b2)
            have HBW9 := Lib.hid (Later.then HBW.out b2)
            have HK19 := Lib.hid (HK1.out.later b2)
            have HAT19 := Lib.hid (St.at_.keep (btw_later b2) HAT1.out)
            have HB19 := Lib.hid (HB1.out.later b2)
            replace HE := HE9
            clear HE9
            replace HBW := HBW9
            clear HBW9
            replace HK1 := HK19
            clear HK19
            replace HAT1 := HAT19
            clear HAT19
            replace HB1 := HB19
            clear HB19
            clear b2
            obtain ⟨cs2, hcs2⟩ : ∃ cs, cs = (stC y2).toArray := ⟨_, rfl⟩
            have HSZ := Lib.hid (show (Tryz.prog.info? 35).map (·.size) = some cs2.size by rw [hcs2]; exact gst_info)
            have HGS := Lib.hid (show gst0.size = cs2.size by rw [hcs2, gst_siz]; exact gst_siz _)
            have HON := Lib.hid (show cs2.all (·.oneCell') = true by rw [hcs2]; exact gst_one _)
            have HCS2 := Lib.hid hcs2
            unfold stV
            rw [← hcs2]
            clear hcs2
            generalize hpp2 : parP _ = pp2
            generalize hpx2 : parX _ = px2
            have HPP2 := Lib.hid hpp2
            have HPX2 := Lib.hid hpx2
            clear hpp2 hpx2
            have bn2 := later_new w2 (.cells cs2 35)
            have HB2 := Lib.hid (Blk.new w2 35 cs2)
            go_upto_region 28 with (first
              | (refine wpList_store_row rfl 35 (.tmp 15) (.tmp 155) rfl w2.heap.size cs2 rfl rfl 35 gst0 (Blk.new w2 35 gst0) HSZ.out HGS.out HON.out ?_
                 rw [alloc_row]))
            change Code.wp _ _ _ _ (w2.alloc (.cells cs2 35))
            have HE9 := Lib.hid (HE.out.later bn2)
            have HBW9 := Lib.hid (Later.then HBW.out bn2)
            have HK19 := Lib.hid (HK1.out.later bn2)
            have HAT19 := Lib.hid (St.at_.keep (btw_later bn2) HAT1.out)
            have HB19 := Lib.hid (HB1.out.later bn2)
            have HAT29 := Lib.hid (St.at_.keep (btw_later bn2) HAT2.out)
            replace HE := HE9
            clear HE9
            replace HBW := HBW9
            clear HBW9
            replace HK1 := HK19
            clear HK19
            replace HAT1 := HAT19
            clear HAT19
            replace HB1 := HB19
            clear HB19
            replace HAT2 := HAT29
            clear HAT29
            clear bn2 HSZ HGS HON
            generalize hbl2 : w2.heap.size = q2 at *
            generalize hW : (World.alloc w2 _) = W2 at *
            clear hW hbl2
            obtain ⟨k1, k2, k3, k4⟩ := par_words HL.out HMT.out HWD.out
            rw [HPX1.out, HPX2.out] at k1
            rw [HPP1.out, HPP2.out, HPX1.out] at k4
            subst k1
            have hat2 := HAT2.out
            rw [k2] at hat2
            have HST := Lib.hid (stmts_true HCS1.out HCS2.out HAT1.out hat2 (par_slim s.data.toList))
            have K4 := Lib.hid k4
            have t1 : ((px2 : Int) != (px2 : Int)) = false := by simp
            clear k2 k3 k4 hat2
            go_wp2_with (first
              | (refine wpList_load_rowG rfl 35 (.tmp 6) rfl q1 rfl 35 cs1 (0, 0) _ HB1.out Tryz.underlying35 rfl (st_csz HCS1.out) ?_)
              | (refine wpList_load_rowG rfl 35 (.tmp 15) rfl q2 rfl 35 cs2 (0, 0) _ HB2.out Tryz.underlying35 rfl (st_csz HCS2.out) ?_))
            refine HST.out.mono ?_
            clear HST t1
            rintro e v4 ⟨rfl, b⟩
            have HE9 := Lib.hid (HE.out.later b)
            have HBW9 := Lib.hid (Later.then HBW.out b)
            have HK19 := Lib.hid (HK1.out.later b)
            have HAT19 := Lib.hid (St.at_.keep (btw_later b) HAT1.out)
            have HB19 := Lib.hid (HB1.out.later b)
            have HAT29 := Lib.hid (St.at_.keep (btw_later b) HAT2.out)
            have HB29 := Lib.hid (HB2.out.later b)
            replace HE := HE9
            clear HE9
            replace HBW := HBW9
            clear HBW9
            replace HK1 := HK19
            clear HK19
            replace HAT1 := HAT19
            clear HAT19
            replace HB1 := HB19
            clear HB19
            replace HAT2 := HAT29
            clear HAT29
            replace HB2 := HB29
            clear HB29
            clear b
            by_cases h31 : px2 = 31
            · obtain ⟨i0, ta, tb, a1, a2, a3, a4⟩ := K4.out h31
              have a5 := HMP.out i0 ta tb a1 a2
              have a6 : ta.p ≤ s.data.toList.length := by
                have hi := (List.getElem?_eq_some_iff.1 a1).1
                obtain ⟨t', g1, _, g3⟩ := HCU.out.place (i := i0) (by have := HLE.out; have := HNN.out; omega)
                rw [a1] at g1
                injection g1 with g1
                rw [g1]
                exact g3
              have a7 : pp1 ≤ 1000 := by have := HSZ0.out; have := HSS2.out; omega
              have a8 : ah ≤ 1000 := by have := HAH.out; have := HSZ0.out; have := HSS2.out; omega
              have t3 : ((px2 : Int) == 31) = true := by simp; omega
              have t4 : ((pp2 : Int) != (pp1 : Int) - (ah : Int)) = false := by
                have := HAH.out
                simp; omega
              have t5 : ((px2 : Int) != 0) = true := by simp; omega
              clear h31 a1 a2 a3 a4 a5 K4
              as_aux_lemma =>
                go_wp2_with fail
                refine (wakes_any _ HE.out).mono ?_
                rintro e w9 ⟨rfl, b9⟩
                go_wp2_with fail
                go_ret
                exact ⟨rfl, Later.then HBW.out b9⟩
            · have t3 : ((px2 : Int) == 31) = false := by simp; omega
              by_cases h0 : px2 = 0
              · subst h0
                have HX2 := Lib.hid (ok_words2 HL.out (HPX1.out))
                obtain ⟨j2, hj2⟩ : ∃ j2, n = j2 + 2 := ⟨n - 2, by have := HX2.out; have := HLE.out; omega⟩
                have HJ2 := Lib.hid hj2
                have f1 : (n : Int) - 2 = (j2 : Int) := by omega
                have f2 : (j2 : Int) < (n : Int) := by omega
                have f4 : max (0 : Int) (j2 : Int) = (j2 : Int) := by omega
                have f5 : max (0 : Int) ((n : Int) - 2) = (j2 : Int) := by omega
                have f3 : j2 ≤ 5000 := by omega
                obtain ⟨t, ht⟩ : ∃ t, l[j2]? = some t := ⟨_, List.getElem?_eq_getElem (by have := HLE.out; omega)⟩
                have HTJ := Lib.hid ht
                obtain ⟨d0, d1, _, _⟩ := HK1.out.cell j2 t ht
                obtain ⟨nb, hnb⟩ : ∃ nb : ByteArray, nb = ⟨t.w.s.toArray⟩ := ⟨_, rfl⟩
                rw [← hnb] at d1
                have HNB := Lib.hid hnb
                have hgr : gl1 < v4.heap.size := HK1.out.lt
                have qa := fun q : Ext v4.heap.size v4 => (q.h.cell (p := ⟨gl1, j2 * 4, none⟩) hgr).trans d0
                have qb := fun q : Ext v4.heap.size v4 => (q.h.cell (p := ⟨gl1, j2 * 4 + 1, none⟩) hgr).trans d1
                clear hj2 ht hnb d0 d1
                by_cases hs1 : nb = ⟨#[59]⟩
                · have g1 : (nb.toList == [59]) = true := by rw [hs1]; kernel_rfl
                  by_cases hs2 : t.w.k = 4
                  · have g2 : ((t.w.k : Int) == 4) = true := by simp; omega
                    clear hs1 hs2
                    go_upto_region 32 with fail
                    refine region_lex 20 v4.heap.size v4 (Below.refl _ _) ?_
                    simp only [List.append, List.take_succ_cons, List.take_zero, List.drop_succ_cons, List.drop_zero]
                    repeat (go_big_quiet_step (fail))
                    refine wpQuiet_nil ?_
                    rintro V4 ⟨x9, hx9⟩
                    have hW9 := x9.h
                    rw [← hx9] at hW9
                    clear hx9 x9 qa qb
                    have HE9 := Lib.hid (HE.out.later hW9)
                    have HBW9 := Lib.hid (Later.then HBW.out hW9)
                    have HK19 := Lib.hid (HK1.out.later hW9)
                    have HAT19 := Lib.hid (St.at_.keep (btw_later hW9) HAT1.out)
                    have HB19 := Lib.hid (HB1.out.later hW9)
                    have HAT29 := Lib.hid (St.at_.keep (btw_later hW9) HAT2.out)
                    have HB29 := Lib.hid (HB2.out.later hW9)
                    replace HE := HE9
                    clear HE9
                    replace HBW := HBW9
                    clear HBW9
                    replace HK1 := HK19
                    clear HK19
                    replace HAT1 := HAT19
                    clear HAT19
                    replace HB1 := HB19
                    clear HB19
                    replace HAT2 := HAT29
                    clear HAT29
                    replace HB2 := HB29
                    clear HB29
                    clear hW9
                    as_aux_lemma =>
                      go_wp2_with fail
                      refine (wakes_any _ HE.out).mono ?_
                      rintro e w9 ⟨rfl, b9⟩
                      go_wp2_with fail
                      go_ret
                      exact ⟨rfl, Later.then HBW.out b9⟩
                  · have g2 : ((t.w.k : Int) == 4) = false := by simp; omega
                    have HLA := Lib.hid (show ∀ t, l[l.length - 2]? = some t → ¬ (t.w.s = [59] ∧ t.w.k = 4) by
                      intro t9 h9 h8
                      rw [HLE.out, HJ2.out, show j2 + 2 - 2 = j2 by omega, HTJ.out] at h9
                      injection h9 with h9
                      rw [← h9] at h8
                      exact hs2 h8.2)
                    clear hs1 hs2
                    go_upto_region 32 with fail
                    refine region_lex 20 v4.heap.size v4 (Below.refl _ _) ?_
                    simp only [List.append, List.take_succ_cons, List.take_zero, List.drop_succ_cons, List.drop_zero]
                    repeat (go_big_quiet_step (fail))
                    refine wpQuiet_nil ?_
                    rintro V4 ⟨x9, hx9⟩
                    have hW9 := x9.h
                    rw [← hx9] at hW9
                    clear hx9 x9 qa qb
                    have HE9 := Lib.hid (HE.out.later hW9)
                    have HBW9 := Lib.hid (Later.then HBW.out hW9)
                    have HK19 := Lib.hid (HK1.out.later hW9)
                    have HAT19 := Lib.hid (St.at_.keep (btw_later hW9) HAT1.out)
                    have HB19 := Lib.hid (HB1.out.later hW9)
                    have HAT29 := Lib.hid (St.at_.keep (btw_later hW9) HAT2.out)
                    have HB29 := Lib.hid (HB2.out.later hW9)
                    replace HE := HE9
                    clear HE9
                    replace HBW := HBW9
                    clear HBW9
                    replace HK1 := HK19
                    clear HK19
                    replace HAT1 := HAT19
                    clear HAT19
                    replace HB1 := HB19
                    clear HB19
                    replace HAT2 := HAT29
                    clear HAT29
                    replace HB2 := HB29
                    clear HB29
                    clear hW9
                    go_wp2_with fail
                    obtain ⟨T3, hT3⟩ : ∃ T3, T3 = s ++ (⟨#[10, 59]⟩ : ByteArray) := ⟨_, rfl⟩
                    rw [← hT3]
                    have HTL := Lib.hid (show T3.data.toList = s.data.toList ++ [10, 59] by rw [hT3, bytes_app])
                    have HT3 := Lib.hid (show T3.size ≤ 4294967280 by rw [hT3, ByteArray.size_append]; have h7 : (⟨#[10, 59]⟩ : ByteArray).size = 2 := rfl; have := HSS2.out; omega)
                    have HSE := Lib.hid (semi_law HL.out (by have := HSS2.out; have := HSZ0.out; omega) HPX1.out HLA.out)
                    clear hT3
                    refine (gpar_any T3 _ HE.out (HT3.out)).mono ?_
                    rintro e w3 ⟨y3, rfl, hat3, b3⟩
                    have HAT3 := Lib.hid hat3
                    clear hat3
                    have HE9 := Lib.hid (HE.out.later b3)
                    have HBW9 := Lib.hid (Later.then HBW.out b3)
                    have HK19 := Lib.hid (HK1.out.later b3)
                    have HAT19 := Lib.hid (St.at_.keep (btw_later b3) HAT1.out)
                    have HB19 := Lib.hid (HB1.out.later b3)
                    have HAT29 := Lib.hid (St.at_.keep (btw_later b3) HAT2.out)
                    have HB29 := Lib.hid (HB2.out.later b3)
                    replace HE := HE9
                    clear HE9
                    replace HBW := HBW9
                    clear HBW9
                    replace HK1 := HK19
                    clear HK19
                    replace HAT1 := HAT19
                    clear HAT19
                    replace HB1 := HB19
                    clear HB19
                    replace HAT2 := HAT29
                    clear HAT29
                    replace HB2 := HB29
                    clear HB29
                    clear b3
                    obtain ⟨cs3, hcs3⟩ : ∃ cs, cs = (stC y3).toArray := ⟨_, rfl⟩
                    have HSZ := Lib.hid (show (Tryz.prog.info? 35).map (·.size) = some cs3.size by rw [hcs3]; exact gst_info)
                    have HGS := Lib.hid (show gst0.size = cs3.size by rw [hcs3, gst_siz]; exact gst_siz _)
                    have HON := Lib.hid (show cs3.all (·.oneCell') = true by rw [hcs3]; exact gst_one _)
                    have HCS3 := Lib.hid hcs3
                    unfold stV
                    rw [← hcs3]
                    clear hcs3
                    generalize hpp3 : parP _ = pp3
                    generalize hpx3 : parX _ = px3
                    have HPP3 := Lib.hid hpp3
                    have HPX3 := Lib.hid hpx3
                    clear hpp3 hpx3
                    have bn3 := later_new w3 (.cells cs3 35)
                    have HB3 := Lib.hid (Blk.new w3 35 cs3)
                    go_upto_region 35 with (first
                      | (refine wpList_store_row rfl 35 (.tmp 18) (.tmp 206) rfl w3.heap.size cs3 rfl rfl 35 gst0 (Blk.new w3 35 gst0) HSZ.out HGS.out HON.out ?_
                         rw [alloc_row]))
                    change Code.wp _ _ _ _ (w3.alloc (.cells cs3 35))
                    have HE9 := Lib.hid (HE.out.later bn3)
                    have HBW9 := Lib.hid (Later.then HBW.out bn3)
                    have HK19 := Lib.hid (HK1.out.later bn3)
                    have HAT19 := Lib.hid (St.at_.keep (btw_later bn3) HAT1.out)
                    have HB19 := Lib.hid (HB1.out.later bn3)
                    have HAT29 := Lib.hid (St.at_.keep (btw_later bn3) HAT2.out)
                    have HB29 := Lib.hid (HB2.out.later bn3)
                    have HAT39 := Lib.hid (St.at_.keep (btw_later bn3) HAT3.out)
                    replace HE := HE9
                    clear HE9
                    replace HBW := HBW9
                    clear HBW9
                    replace HK1 := HK19
                    clear HK19
                    replace HAT1 := HAT19
                    clear HAT19
                    replace HB1 := HB19
                    clear HB19
                    replace HAT2 := HAT29
                    clear HAT29
                    replace HB2 := HB29
                    clear HB29
                    replace HAT3 := HAT39
                    clear HAT39
                    clear bn3 HSZ HGS HON
                    generalize hbl3 : w3.heap.size = q3 at *
                    generalize hW : (World.alloc w3 _) = W3 at *
                    clear hW hbl3
                    obtain ⟨q1x, q2x⟩ := HSE.out
                    rw [← HTL.out] at q1x q2x
                    have q3x : px3 = 0 := HPX3.out.symm.trans q1x
                    have hat3 := HAT3.out
                    rw [q2x] at hat3
                    have HST := Lib.hid (stmts_true HCS1.out HCS3.out HAT1.out hat3 (par_slim s.data.toList))
                    subst q3x
                    clear q1x q2x hat3
                    go_wp2_with (first
                      | (refine wpList_load_rowG rfl 35 (.tmp 6) rfl q1 rfl 35 cs1 (0, 0) _ HB1.out Tryz.underlying35 rfl (st_csz HCS1.out) ?_)
                      | (refine wpList_load_rowG rfl 35 (.tmp 18) rfl q3 rfl 35 cs3 (0, 0) _ HB3.out Tryz.underlying35 rfl (st_csz HCS3.out) ?_))
                    refine HST.out.mono ?_
                    clear HST
                    rintro e v6 ⟨rfl, b⟩
                    have HE9 := Lib.hid (HE.out.later b)
                    have HBW9 := Lib.hid (Later.then HBW.out b)
                    have HK19 := Lib.hid (HK1.out.later b)
                    have HAT19 := Lib.hid (St.at_.keep (btw_later b) HAT1.out)
                    have HB19 := Lib.hid (HB1.out.later b)
                    have HAT29 := Lib.hid (St.at_.keep (btw_later b) HAT2.out)
                    have HB29 := Lib.hid (HB2.out.later b)
                    have HAT39 := Lib.hid (St.at_.keep (btw_later b) HAT3.out)
                    have HB39 := Lib.hid (HB3.out.later b)
                    replace HE := HE9
                    clear HE9
                    replace HBW := HBW9
                    clear HBW9
                    replace HK1 := HK19
                    clear HK19
                    replace HAT1 := HAT19
                    clear HAT19
                    replace HB1 := HB19
                    clear HB19
                    replace HAT2 := HAT29
                    clear HAT29
                    replace HB2 := HB29
                    clear HB29
                    replace HAT3 := HAT39
                    clear HAT39
                    replace HB3 := HB39
                    clear HB39
                    clear b
                    as_aux_lemma =>
                      go_wp2_with fail
                      refine (wakes_any _ HE.out).mono ?_
                      rintro e w9 ⟨rfl, b9⟩
                      go_wp2_with fail
                      go_ret
                      exact ⟨rfl, Later.then HBW.out b9⟩
                · have g1 : (nb.toList == [59]) = false := bytes_tl hs1
                  have HLA := Lib.hid (show ∀ t, l[l.length - 2]? = some t → ¬ (t.w.s = [59] ∧ t.w.k = 4) by
                    intro t9 h9 h8
                    rw [HLE.out, HJ2.out, show j2 + 2 - 2 = j2 by omega, HTJ.out] at h9
                    injection h9 with h9
                    rw [← h9] at h8
                    exact hs1 (by rw [HNB.out, h8.1]))
                  clear hs1
                  go_upto_region 32 with fail
                  refine region_lex 20 v4.heap.size v4 (Below.refl _ _) ?_
                  simp only [List.append, List.take_succ_cons, List.take_zero, List.drop_succ_cons, List.drop_zero]
                  repeat (go_big_quiet_step (fail))
                  refine wpQuiet_nil ?_
                  rintro V4 ⟨x9, hx9⟩
                  have hW9 := x9.h
                  rw [← hx9] at hW9
                  clear hx9 x9 qa qb
                  have HE9 := Lib.hid (HE.out.later hW9)
                  have HBW9 := Lib.hid (Later.then HBW.out hW9)
                  have HK19 := Lib.hid (HK1.out.later hW9)
                  have HAT19 := Lib.hid (St.at_.keep (btw_later hW9) HAT1.out)
                  have HB19 := Lib.hid (HB1.out.later hW9)
                  have HAT29 := Lib.hid (St.at_.keep (btw_later hW9) HAT2.out)
                  have HB29 := Lib.hid (HB2.out.later hW9)
                  replace HE := HE9
                  clear HE9
                  replace HBW := HBW9
                  clear HBW9
                  replace HK1 := HK19
                  clear HK19
                  replace HAT1 := HAT19
                  clear HAT19
                  replace HB1 := HB19
                  clear HB19
                  replace HAT2 := HAT29
                  clear HAT29
                  replace HB2 := HB29
                  clear HB29
                  clear hW9
                  go_wp2_with fail
                  obtain ⟨T3, hT3⟩ : ∃ T3, T3 = s ++ (⟨#[10, 59]⟩ : ByteArray) := ⟨_, rfl⟩
                  rw [← hT3]
                  have HTL := Lib.hid (show T3.data.toList = s.data.toList ++ [10, 59] by rw [hT3, bytes_app])
                  have HT3 := Lib.hid (show T3.size ≤ 4294967280 by rw [hT3, ByteArray.size_append]; have h7 : (⟨#[10, 59]⟩ : ByteArray).size = 2 := rfl; have := HSS2.out; omega)
                  have HSE := Lib.hid (semi_law HL.out (by have := HSS2.out; have := HSZ0.out; omega) HPX1.out HLA.out)
                  clear hT3
                  refine (gpar_any T3 _ HE.out (HT3.out)).mono ?_
                  rintro e w3 ⟨y3, rfl, hat3, b3⟩
                  have HAT3 := Lib.hid hat3
                  clear hat3
                  have HE9 := Lib.hid (HE.out.later b3)
                  have HBW9 := Lib.hid (Later.then HBW.out b3)
                  have HK19 := Lib.hid (HK1.out.later b3)
                  have HAT19 := Lib.hid (St.at_.keep (btw_later b3) HAT1.out)
                  have HB19 := Lib.hid (HB1.out.later b3)
                  have HAT29 := Lib.hid (St.at_.keep (btw_later b3) HAT2.out)
                  have HB29 := Lib.hid (HB2.out.later b3)
                  replace HE := HE9
                  clear HE9
                  replace HBW := HBW9
                  clear HBW9
                  replace HK1 := HK19
                  clear HK19
                  replace HAT1 := HAT19
                  clear HAT19
                  replace HB1 := HB19
                  clear HB19
                  replace HAT2 := HAT29
                  clear HAT29
                  replace HB2 := HB29
                  clear HB29
                  clear b3
                  obtain ⟨cs3, hcs3⟩ : ∃ cs, cs = (stC y3).toArray := ⟨_, rfl⟩
                  have HSZ := Lib.hid (show (Tryz.prog.info? 35).map (·.size) = some cs3.size by rw [hcs3]; exact gst_info)
                  have HGS := Lib.hid (show gst0.size = cs3.size by rw [hcs3, gst_siz]; exact gst_siz _)
                  have HON := Lib.hid (show cs3.all (·.oneCell') = true by rw [hcs3]; exact gst_one _)
                  have HCS3 := Lib.hid hcs3
                  unfold stV
                  rw [← hcs3]
                  clear hcs3
                  generalize hpp3 : parP _ = pp3
                  generalize hpx3 : parX _ = px3
                  have HPP3 := Lib.hid hpp3
                  have HPX3 := Lib.hid hpx3
                  clear hpp3 hpx3
                  have bn3 := later_new w3 (.cells cs3 35)
                  have HB3 := Lib.hid (Blk.new w3 35 cs3)
                  go_upto_region 35 with (first
                    | (refine wpList_store_row rfl 35 (.tmp 18) (.tmp 206) rfl w3.heap.size cs3 rfl rfl 35 gst0 (Blk.new w3 35 gst0) HSZ.out HGS.out HON.out ?_
                       rw [alloc_row]))
                  change Code.wp _ _ _ _ (w3.alloc (.cells cs3 35))
                  have HE9 := Lib.hid (HE.out.later bn3)
                  have HBW9 := Lib.hid (Later.then HBW.out bn3)
                  have HK19 := Lib.hid (HK1.out.later bn3)
                  have HAT19 := Lib.hid (St.at_.keep (btw_later bn3) HAT1.out)
                  have HB19 := Lib.hid (HB1.out.later bn3)
                  have HAT29 := Lib.hid (St.at_.keep (btw_later bn3) HAT2.out)
                  have HB29 := Lib.hid (HB2.out.later bn3)
                  have HAT39 := Lib.hid (St.at_.keep (btw_later bn3) HAT3.out)
                  replace HE := HE9
                  clear HE9
                  replace HBW := HBW9
                  clear HBW9
                  replace HK1 := HK19
                  clear HK19
                  replace HAT1 := HAT19
                  clear HAT19
                  replace HB1 := HB19
                  clear HB19
                  replace HAT2 := HAT29
                  clear HAT29
                  replace HB2 := HB29
                  clear HB29
                  replace HAT3 := HAT39
                  clear HAT39
                  clear bn3 HSZ HGS HON
                  generalize hbl3 : w3.heap.size = q3 at *
                  generalize hW : (World.alloc w3 _) = W3 at *
                  clear hW hbl3
                  obtain ⟨q1x, q2x⟩ := HSE.out
                  rw [← HTL.out] at q1x q2x
                  have q3x : px3 = 0 := HPX3.out.symm.trans q1x
                  have hat3 := HAT3.out
                  rw [q2x] at hat3
                  have HST := Lib.hid (stmts_true HCS1.out HCS3.out HAT1.out hat3 (par_slim s.data.toList))
                  subst q3x
                  clear q1x q2x hat3
                  go_wp2_with (first
                    | (refine wpList_load_rowG rfl 35 (.tmp 6) rfl q1 rfl 35 cs1 (0, 0) _ HB1.out Tryz.underlying35 rfl (st_csz HCS1.out) ?_)
                    | (refine wpList_load_rowG rfl 35 (.tmp 18) rfl q3 rfl 35 cs3 (0, 0) _ HB3.out Tryz.underlying35 rfl (st_csz HCS3.out) ?_))
                  refine HST.out.mono ?_
                  clear HST
                  rintro e v6 ⟨rfl, b⟩
                  have HE9 := Lib.hid (HE.out.later b)
                  have HBW9 := Lib.hid (Later.then HBW.out b)
                  have HK19 := Lib.hid (HK1.out.later b)
                  have HAT19 := Lib.hid (St.at_.keep (btw_later b) HAT1.out)
                  have HB19 := Lib.hid (HB1.out.later b)
                  have HAT29 := Lib.hid (St.at_.keep (btw_later b) HAT2.out)
                  have HB29 := Lib.hid (HB2.out.later b)
                  have HAT39 := Lib.hid (St.at_.keep (btw_later b) HAT3.out)
                  have HB39 := Lib.hid (HB3.out.later b)
                  replace HE := HE9
                  clear HE9
                  replace HBW := HBW9
                  clear HBW9
                  replace HK1 := HK19
                  clear HK19
                  replace HAT1 := HAT19
                  clear HAT19
                  replace HB1 := HB19
                  clear HB19
                  replace HAT2 := HAT29
                  clear HAT29
                  replace HB2 := HB29
                  clear HB29
                  replace HAT3 := HAT39
                  clear HAT39
                  replace HB3 := HB39
                  clear HB39
                  clear b
                  as_aux_lemma =>
                    go_wp2_with fail
                    refine (wakes_any _ HE.out).mono ?_
                    rintro e w9 ⟨rfl, b9⟩
                    go_wp2_with fail
                    go_ret
                    exact ⟨rfl, Later.then HBW.out b9⟩
              · have t5 : ((px2 : Int) != 0) = true := by simp; omega
                clear h0 h31
                as_aux_lemma =>
                  go_wp2_with fail
                  refine (wakes_any _ HE.out).mono ?_
                  rintro e w9 ⟨rfl, b9⟩
                  go_wp2_with fail
                  go_ret
                  exact ⟨rfl, Later.then HBW.out b9⟩
end Go.Proofs.YtcneefmaghoejaaGreatDoor
