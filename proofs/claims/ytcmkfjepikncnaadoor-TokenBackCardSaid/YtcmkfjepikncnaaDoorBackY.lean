/- token: TokenBack's walk. -/
import Derived.Test.YtcmkfjepikncnaaDoorBackX
import Derived.Test.YtcmkfjepikncnaaDoorJoins12
namespace Go.Proofs.YtcmkfjepikncnaaDoor
open Go.ChangeShapes Go.WideShapes Go.ChangeAt Go.RowKit Go.Shelf
set_option linter.unusedVariables false
set_option linter.unusedSimpArgs false

def noTok : Tok := ⟨⟨0, [], 0⟩, 0⟩
/-- the gaps and words of a statement written anew -/
def pairsF (bl : List UInt8) (a : List Tok) (n : Nat) : List (List UInt8 × Wd) := (List.range n).map fun i => (gapAt bl i, (a.getD i noTok).w)
theorem pairs_len (bl : List UInt8) (a : List Tok) (n : Nat) : (pairsF bl a n).length = n := by simp [pairsF]
theorem pairs_at {bl : List UInt8} {a : List Tok} {n i : Nat} {t : Tok} (hi : i < n) (ht : a[i]? = some t) : (pairsF bl a n)[i]? = some (gapAt bl i, t.w) := by
  unfold pairsF
  rw [List.getElem?_map, List.getElem?_range hi]
  simp [List.getD_eq_getElem?_getD, ht]
theorem pairs_take {bl : List UInt8} {a : List Tok} {n i : Nat} {t : Tok} (hi : i < n) (ht : a[i]? = some t) : (pairsF bl a n).take (i + 1) = (pairsF bl a n).take i ++ [(gapAt bl i, t.w)] := by
  rw [List.take_add_one, pairs_at hi ht]
  rfl
theorem pairs_good {bl : List UInt8} {a : List Tok} {n : Nat} (ha : ∀ i t, i < n → a[i]? = some t → IsWd t.w) (hl : n ≤ a.length) : Good (pairsF bl a n) := by
  intro x hx
  obtain ⟨i, hi⟩ := List.mem_iff_getElem?.1 hx
  have hin : i < n := by
    rcases Nat.lt_or_ge i n with h | h
    · exact h
    · rw [List.getElem?_eq_none (by rw [pairs_len]; exact h)] at hi; cases hi
  have ht : a[i]? = some (a[i]'(by omega)) := List.getElem?_eq_getElem _
  rw [pairs_at hin ht] at hi
  injection hi with hi
  rw [← hi]
  exact ⟨gapAt_is _ _, ha i _ hin ht⟩
theorem laid_next {bl : List UInt8} {a : List Tok} {n i : Nat} {t : Tok} (caps : Bool) (hi : i < n) (ht : a[i]? = some t) : laid caps ((pairsF bl a n).take (i + 1)) = laid caps ((pairsF bl a n).take i) ++ gapAt bl i ++ writL t.w caps := by
  rw [pairs_take hi ht, laid_append]
  simp [laid]
theorem laid_short {bl : List UInt8} {a : List Tok} {n : Nat} (caps : Bool) (ha : ∀ i t, i < n → a[i]? = some t → IsWd t.w ∧ t.w.s.length ≤ 2000) (hl : n ≤ a.length) : ∀ i, i ≤ n → (laid caps ((pairsF bl a n).take i)).length ≤ i * 5000
  | 0, _ => by simp [laid]
  | i + 1, hi => by
    have ht : a[i]? = some (a[i]'(by omega)) := List.getElem?_eq_getElem _
    have ih := laid_short (bl := bl) caps ha hl i (by omega)
    obtain ⟨h1, h2⟩ := ha i _ (by omega) ht
    have h3 := writ_len h1 caps
    have h4 := (gapAt_is bl i).2.2.2
    rw [laid_next caps (by omega) ht]
    simp only [List.length_append]
    omega
def intC (n : Nat) : List Value := [.int .i64 n]
theorem intC_len (n : Nat) : (intC n).length = 1 := rfl
theorem int_info : (Tryd.prog.info? 3).map (fun i => (i.zero, i.size, i.bytes)) = some (some (.int .i64 0), 1, 8) := by kernel_rfl
/-- where the words stand -/
def posF (caps : Bool) (bl : List UInt8) (a : List Tok) (n i : Nat) : Nat := (laid caps ((pairsF bl a n).take i)).length + (gapAt bl i).length
structure BackAt (bl : List UInt8) (a : List Tok) (n : Nat) (caps : Bool) (w : World) (i : Nat) (v : Value) (wr : World) : Prop where
  own : OwnF intC 3 1 wr w.heap.size v ((List.range i).map (posF caps bl a n))
  bel : Below w.heap.size w wr
theorem bytes_app (l : List UInt8) (g : Array UInt8) : (⟨l.toArray⟩ : ByteArray) ++ ⟨g⟩ = ⟨(l ++ g.toList).toArray⟩ := by
  apply ByteArray.ext
  simp
set_option maxHeartbeats 8000000 in
set_option maxRecDepth 100000 in
theorem back_any (s : ByteArray) (A : Option Addr) (bl : List UInt8) (cb : Nat) (caps : Bool) (w : World) (lb : Nat) (hlb : bl.length = lb) (hE : LexEnv w) (hbl : Reads w w.heap.size 1 A lb (Lib.byteCells bl)) : Calls Tryd.prog 4 #[.string s, .slice A lb cb, .bool caps] w (namePost true w) := by
  have HLB := Lib.hid hlb
  clear hlb
  have HE := Lib.hid hE
  clear hE
  by_cases hb1 : 1000 < s.size
  · go_enter Tryd.func4, Tryd.ntmps4
    go_wp2_with fail
    refine (wakes_any _ HE.out).mono ?_
    rintro e w1 ⟨rfl, b1⟩
    go_wp2_with fail
    go_ret
    exact ⟨rfl, b1⟩
  by_cases hb2 : 100 < lb
  · have n1 := decide_eq_true (show (100 : Int) < (lb : Int) by omega)
    go_enter Tryd.func4, Tryd.ntmps4
    go_wp2_with fail
    refine (wakes_any _ HE.out).mono ?_
    rintro e w1 ⟨rfl, b1⟩
    go_wp2_with fail
    go_ret
    exact ⟨rfl, b1⟩
  have hs : s.size ≤ 1000 := by omega
  have hbs : lb ≤ 100 := by omega
  have HSL := Lib.hid (show s.data.toList.length = s.size by simp)
  have HBL := Lib.hid hbl
  clear hb1 hb2 hbl
  rcases hlex : lexL s.data.toList with ⟨p, x⟩ | a
  · have HLX := Lib.hid hlex
    have hx := err_ne (by rw [HSL.out]; omega) hlex
    clear hlex
    go_enter Tryd.func4, Tryd.ntmps4
    go_wp2_with fail
    refine (lex_err HLX.out HE.out (by omega)).mono ?_
    rintro e w1 ⟨rfl, b1⟩
    have n1 : ((x : Int) == 0) = false := by rcases hx with rfl | rfl <;> rfl
    have n2 : ((x : Int) != 0) = true := by rcases hx with rfl | rfl <;> rfl
    have n3 : ¬ (x : Int) = 0 := by omega
    clear hx
    go_wp2_with fail
    refine (wakes_any _ (HE.out.later b1)).mono ?_
    rintro e w2 ⟨rfl, b2⟩
    go_wp2_with fail
    go_ret
    exact ⟨rfl, Later.then b1 b2⟩
  · obtain ⟨n, hn, hns, hend, hwd⟩ := ok_words hlex
    rw [HSL.out] at hns hend hwd
    have HLX := Lib.hid hlex
    have HN := Lib.hid hn
    have HEND := Lib.hid hend
    have HWD := Lib.hid hwd
    have HGOOD := Lib.hid (pairs_good (bl := bl) (a := a) (n := n) (fun i t hi ht => (hwd i t hi ht).1) (by omega))
    have HSHORT := Lib.hid (laid_short (bl := bl) (a := a) (n := n) caps (fun i t hi ht => ⟨(hwd i t hi ht).1, by have := (hwd i t hi ht).2.1; omega⟩) (by omega))
    clear hlex hn hend hwd
    go_enter Tryd.func4, Tryd.ntmps4
    go_wp2_with fail
    refine (lex_ok HLX.out HE.out (by omega)).mono ?_
    rintro e w1 ⟨A1, c1, rfl, o1, b1⟩
    rw [HN.out] at o1 ⊢
    have HE1 := Lib.hid (HE.out.later b1)
    obtain ⟨g, hA, _, hg1, hcells⟩ := TokS.cells o1 (by intro e; have := HN.out; rw [e] at this; simp at this)
    subst hA
    obtain ⟨p0, p1, p2, p3⟩ := hcells n _ HEND.out
    simp only [endTok] at p0 p1 p2 p3
    have HC := Lib.hid hcells
    have O1 := Lib.hid o1
    have d1 : (((n + 1 : Nat) : Int) - 1) = (n : Int) := by omega
    clear hcells o1
    go_wp2_with fail
    clear p0 p1 p2 p3
    have hz1 := b1.size
    go_loopw [11, 12, 13] (fun x y u wr => ∃ (i : Nat) (v : Value), i ≤ n ∧ u = .int .i64 i ∧ x = .string ⟨(laid caps ((pairsF bl a n).take i)).toArray⟩ ∧ y = v ∧ BackAt bl a n caps w1 i v wr) (fun _ _ u _ => n - (intOf u).toNat)
    case atStart => exact ⟨0, _, Nat.zero_le _, rfl, rfl, rfl, OwnF.nil, Below.refl _ _⟩
    case round =>
      obtain ⟨i, v, hi, rfl, rfl, hv, hB⟩ := hrel
      have hv2 := hv.symm
      clear hv
      subst hv2
      have HB := Lib.hid hB
      have hwz := hB.bel.size
      clear hB
      by_cases hlt : i < n
      · have hat : a[i]? = some (a[i]'(by rw [HN.out]; omega)) := List.getElem?_eq_getElem _
        generalize a[i]'(by rw [HN.out]; omega) = t at *
        obtain ⟨q0, q1, q2, q3⟩ := HC.out i t hat
        obtain ⟨wd1, wd2, wd3, wd4⟩ := HWD.out i t hlt hat
        have HNX := Lib.hid (laid_next (bl := bl) caps hlt hat)
        have hsh := HSHORT.out i (by omega)
        have HPOS := Lib.hid (show posF caps bl a n i = (laid caps ((pairsF bl a n).take i)).length + (gapAt bl i).length from rfl)
        have hL : (laid caps ((pairsF bl a n).take i)).length ≤ 5000000 := by
          have : i * 5000 ≤ 1000 * 5000 := Nat.mul_le_mul_right _ (by omega)
          omega
        have HAT := Lib.hid hat
        generalize hX : laid caps ((pairsF bl a n).take i) = X at *
        have HX := Lib.hid hX
        clear hX hsh hat
        have WD1 := Lib.hid wd1
        have hwl := writ_len wd1 caps
        clear wd1 wd3 wd4
        by_cases hbl0 : lb = 0
        · have HGAP := Lib.hid (show gapAt bl i = [32] by unfold gapAt; rw [if_pos (List.eq_nil_of_length_eq_zero (HLB.out.trans hbl0))])
          have n1 := decide_eq_false (show ¬ (0 : Int) < (lb : Int) by omega)
          have n2 := decide_eq_false (show ¬ 0 < lb by omega)
          clear hbl0
          have hcast : ((X.length + 1 : Nat) : Int) = (X.length : Int) + 1 := by omega
          have HO := Lib.hid (HB.out.own.later (later_new wr (.cells #[.int .i64 ((X.length : Int) + 1)] 3)))
          have hG : Blk (wr.alloc (.cells #[.int .i64 ((X.length : Int) + 1)] 3)) wr.heap.size 3 (intC (X.length + 1)).toArray := by
            unfold intC
            rw [hcast]
            exact Blk.new _ _ _
          have HG := Lib.hid hG
          have HBEL := Lib.hid (HB.out.bel.trans ((later_new wr (.cells #[.int .i64 ((X.length : Int) + 1)] 3)).mono hwz))
          clear hcast hG
          go_wp2_with (first
            | (at_builtin
               refine wpList_append_one rfl (.tmp 82) (.tmp 85) 32 rfl _ 8 Tryd.underlying32 int_info rfl (by omega) (X.length + 1) rfl (by simp [intC, Value.oneCell']) rfl HO.out wr.heap.size rfl HG.out (by rw [List.length_map, List.length_range]; omega) (by rw [List.length_map, List.length_range]; omega) HBEL.out.size ?_
               intro v2 w3 o2 g2
               have b2 := below_own HO.out g2 HBEL.out.size
               have O2 := Lib.hid o2
               have b3 := HBEL.out.trans b2
               have B3 := Lib.hid b3
               have r0 := (b3.cell (p := ⟨g, i * 4, none⟩) hg1).trans q0
               have r1 := (b3.cell (p := ⟨g, i * 4 + 1, none⟩) hg1).trans q1
               have r2 := (b3.cell (p := ⟨g, i * 4 + 2, none⟩) hg1).trans q2
               have r3 := (b3.cell (p := ⟨g, i * 4 + 3, none⟩) hg1).trans q3
               clear o2 g2 HO HG b2 HBEL b3))
          refine (written_any t.w WD1.out (by omega) (t.p : Int) caps _).mono ?_
          rintro e w4 ⟨rfl, b4⟩
          generalize hY : writL t.w caps = Y at *
          have HY := Lib.hid hY
          clear hY
          go_wp2_with fail
          go_roundw
          case rel =>
            refine ⟨i + 1, v2, by omega, by go_num, ?_, rfl, ?_, B3.out.trans (b4.mono B3.out.size)⟩
            · rw [HNX.out, HGAP.out, bytes_app, bytes_app]
            · rw [List.range_succ, List.map_append, List.map_singleton, HPOS.out, HGAP.out]
              exact O2.out.later b4
          case measure => simp [intOf]; omega
        · have n1 := decide_eq_true (show (0 : Int) < (lb : Int) by omega)
          have n2 := decide_eq_true (show 0 < lb by omega)
          obtain ⟨j, hj⟩ : ∃ j, j = i % lb := ⟨_, rfl⟩
          have hilb : j < lb := by rw [hj]; exact Nat.mod_lt _ (by omega)
          have hib : j < bl.length := by rw [HLB.out]; exact hilb
          have hbb : bl[j]? = some (bl[j]'hib) := List.getElem?_eq_getElem hib
          have hgp : gapAt bl i = gapK ((bl[j]'hib).toNat % 4) := by
            unfold gapAt
            rw [if_neg (by intro e; have := HLB.out; rw [e] at this; exact hbl0 this.symm), HLB.out, ← hj, List.getD_eq_getElem?_getD, hbb]
            rfl
          generalize bl[j]'hib = b at *
          obtain ⟨ad, hA, had, hcell⟩ := HBL.out.2 (by omega)
          subst hA
          have hcb := hcell j (.int .u8 b.toNat) (by simp [Lib.byteCells, hbb])
          have hcb2 := ((b1.trans (HB.out.bel.mono hz1)).cell (p := ad.add j) (by rw [block_of_add]; exact had)).trans hcb
          have hmod : (i : Int) % (lb : Int) = (j : Int) := by rw [hj]; exact (Int.natCast_emod i lb).symm
          have hb256 := b.toNat_lt
          clear hcell hcb hbb hj hib
          have hk : b.toNat % 4 = 0 ∨ b.toNat % 4 = 1 ∨ b.toNat % 4 = 2 ∨ b.toNat % 4 = 3 := by omega
          rcases hk with hk | hk | hk | hk
          · have HGAP := Lib.hid (show gapAt bl i = [32] by rw [hgp, hk]; rfl)
            have hk4 : (b.toNat : Int) % 4 = 0 := by omega
            clear hgp hk
            have hcast : ((X.length + 1 : Nat) : Int) = (X.length : Int) + 1 := by omega
            have HO := Lib.hid (HB.out.own.later (later_new wr (.cells #[.int .i64 ((X.length : Int) + 1)] 3)))
            have hG : Blk (wr.alloc (.cells #[.int .i64 ((X.length : Int) + 1)] 3)) wr.heap.size 3 (intC (X.length + 1)).toArray := by
              unfold intC
              rw [hcast]
              exact Blk.new _ _ _
            have HG := Lib.hid hG
            have HBEL := Lib.hid (HB.out.bel.trans ((later_new wr (.cells #[.int .i64 ((X.length : Int) + 1)] 3)).mono hwz))
            clear hcast hG
            go_wp2_with (first
              | (at_builtin
                 refine wpList_append_one rfl (.tmp 82) (.tmp 85) 32 rfl _ 8 Tryd.underlying32 int_info rfl (by omega) (X.length + 1) rfl (by simp [intC, Value.oneCell']) rfl HO.out wr.heap.size rfl HG.out (by rw [List.length_map, List.length_range]; omega) (by rw [List.length_map, List.length_range]; omega) HBEL.out.size ?_
                 intro v2 w3 o2 g2
                 have b2 := below_own HO.out g2 HBEL.out.size
                 have O2 := Lib.hid o2
                 have b3 := HBEL.out.trans b2
                 have B3 := Lib.hid b3
                 have r0 := (b3.cell (p := ⟨g, i * 4, none⟩) hg1).trans q0
                 have r1 := (b3.cell (p := ⟨g, i * 4 + 1, none⟩) hg1).trans q1
                 have r2 := (b3.cell (p := ⟨g, i * 4 + 2, none⟩) hg1).trans q2
                 have r3 := (b3.cell (p := ⟨g, i * 4 + 3, none⟩) hg1).trans q3
                 clear o2 g2 HO HG b2 HBEL b3))
            refine (written_any t.w WD1.out (by omega) (t.p : Int) caps _).mono ?_
            rintro e w4 ⟨rfl, b4⟩
            generalize hY : writL t.w caps = Y at *
            have HY := Lib.hid hY
            clear hY
            go_wp2_with fail
            go_roundw
            case rel =>
              refine ⟨i + 1, v2, by omega, by go_num, ?_, rfl, ?_, B3.out.trans (b4.mono B3.out.size)⟩
              · rw [HNX.out, HGAP.out, bytes_app, bytes_app]
              · rw [List.range_succ, List.map_append, List.map_singleton, HPOS.out, HGAP.out]
                exact O2.out.later b4
            case measure => simp [intOf]; omega
          · have HGAP := Lib.hid (show gapAt bl i = [9, 10] by rw [hgp, hk]; rfl)
            have hk4 : (b.toNat : Int) % 4 = 1 := by omega
            clear hgp hk
            have hcast : ((X.length + 2 : Nat) : Int) = (X.length : Int) + 2 := by omega
            have HO := Lib.hid (HB.out.own.later (later_new wr (.cells #[.int .i64 ((X.length : Int) + 2)] 3)))
            have hG : Blk (wr.alloc (.cells #[.int .i64 ((X.length : Int) + 2)] 3)) wr.heap.size 3 (intC (X.length + 2)).toArray := by
              unfold intC
              rw [hcast]
              exact Blk.new _ _ _
            have HG := Lib.hid hG
            have HBEL := Lib.hid (HB.out.bel.trans ((later_new wr (.cells #[.int .i64 ((X.length : Int) + 2)] 3)).mono hwz))
            clear hcast hG
            go_wp2_with (first
              | (at_builtin
                 refine wpList_append_one rfl (.tmp 82) (.tmp 85) 32 rfl _ 8 Tryd.underlying32 int_info rfl (by omega) (X.length + 2) rfl (by simp [intC, Value.oneCell']) rfl HO.out wr.heap.size rfl HG.out (by rw [List.length_map, List.length_range]; omega) (by rw [List.length_map, List.length_range]; omega) HBEL.out.size ?_
                 intro v2 w3 o2 g2
                 have b2 := below_own HO.out g2 HBEL.out.size
                 have O2 := Lib.hid o2
                 have b3 := HBEL.out.trans b2
                 have B3 := Lib.hid b3
                 have r0 := (b3.cell (p := ⟨g, i * 4, none⟩) hg1).trans q0
                 have r1 := (b3.cell (p := ⟨g, i * 4 + 1, none⟩) hg1).trans q1
                 have r2 := (b3.cell (p := ⟨g, i * 4 + 2, none⟩) hg1).trans q2
                 have r3 := (b3.cell (p := ⟨g, i * 4 + 3, none⟩) hg1).trans q3
                 clear o2 g2 HO HG b2 HBEL b3))
            refine (written_any t.w WD1.out (by omega) (t.p : Int) caps _).mono ?_
            rintro e w4 ⟨rfl, b4⟩
            generalize hY : writL t.w caps = Y at *
            have HY := Lib.hid hY
            clear hY
            go_wp2_with fail
            go_roundw
            case rel =>
              refine ⟨i + 1, v2, by omega, by go_num, ?_, rfl, ?_, B3.out.trans (b4.mono B3.out.size)⟩
              · rw [HNX.out, HGAP.out, bytes_app, bytes_app]
              · rw [List.range_succ, List.map_append, List.map_singleton, HPOS.out, HGAP.out]
                exact O2.out.later b4
            case measure => simp [intOf]; omega
          · have HGAP := Lib.hid (show gapAt bl i = [32, 45, 45, 32, 105, 116, 39, 115, 32, 40, 10] by rw [hgp, hk]; rfl)
            have hk4 : (b.toNat : Int) % 4 = 2 := by omega
            clear hgp hk
            have hcast : ((X.length + 11 : Nat) : Int) = (X.length : Int) + 11 := by omega
            have HO := Lib.hid (HB.out.own.later (later_new wr (.cells #[.int .i64 ((X.length : Int) + 11)] 3)))
            have hG : Blk (wr.alloc (.cells #[.int .i64 ((X.length : Int) + 11)] 3)) wr.heap.size 3 (intC (X.length + 11)).toArray := by
              unfold intC
              rw [hcast]
              exact Blk.new _ _ _
            have HG := Lib.hid hG
            have HBEL := Lib.hid (HB.out.bel.trans ((later_new wr (.cells #[.int .i64 ((X.length : Int) + 11)] 3)).mono hwz))
            clear hcast hG
            go_wp2_with (first
              | (at_builtin
                 refine wpList_append_one rfl (.tmp 82) (.tmp 85) 32 rfl _ 8 Tryd.underlying32 int_info rfl (by omega) (X.length + 11) rfl (by simp [intC, Value.oneCell']) rfl HO.out wr.heap.size rfl HG.out (by rw [List.length_map, List.length_range]; omega) (by rw [List.length_map, List.length_range]; omega) HBEL.out.size ?_
                 intro v2 w3 o2 g2
                 have b2 := below_own HO.out g2 HBEL.out.size
                 have O2 := Lib.hid o2
                 have b3 := HBEL.out.trans b2
                 have B3 := Lib.hid b3
                 have r0 := (b3.cell (p := ⟨g, i * 4, none⟩) hg1).trans q0
                 have r1 := (b3.cell (p := ⟨g, i * 4 + 1, none⟩) hg1).trans q1
                 have r2 := (b3.cell (p := ⟨g, i * 4 + 2, none⟩) hg1).trans q2
                 have r3 := (b3.cell (p := ⟨g, i * 4 + 3, none⟩) hg1).trans q3
                 clear o2 g2 HO HG b2 HBEL b3))
            refine (written_any t.w WD1.out (by omega) (t.p : Int) caps _).mono ?_
            rintro e w4 ⟨rfl, b4⟩
            generalize hY : writL t.w caps = Y at *
            have HY := Lib.hid hY
            clear hY
            go_wp2_with fail
            go_roundw
            case rel =>
              refine ⟨i + 1, v2, by omega, by go_num, ?_, rfl, ?_, B3.out.trans (b4.mono B3.out.size)⟩
              · rw [HNX.out, HGAP.out, bytes_app, bytes_app]
              · rw [List.range_succ, List.map_append, List.map_singleton, HPOS.out, HGAP.out]
                exact O2.out.later b4
            case measure => simp [intOf]; omega
          · have HGAP := Lib.hid (show gapAt bl i = [13, 32] by rw [hgp, hk]; rfl)
            have hk4 : (b.toNat : Int) % 4 = 3 := by omega
            clear hgp hk
            have hcast : ((X.length + 2 : Nat) : Int) = (X.length : Int) + 2 := by omega
            have HO := Lib.hid (HB.out.own.later (later_new wr (.cells #[.int .i64 ((X.length : Int) + 2)] 3)))
            have hG : Blk (wr.alloc (.cells #[.int .i64 ((X.length : Int) + 2)] 3)) wr.heap.size 3 (intC (X.length + 2)).toArray := by
              unfold intC
              rw [hcast]
              exact Blk.new _ _ _
            have HG := Lib.hid hG
            have HBEL := Lib.hid (HB.out.bel.trans ((later_new wr (.cells #[.int .i64 ((X.length : Int) + 2)] 3)).mono hwz))
            clear hcast hG
            go_wp2_with (first
              | (at_builtin
                 refine wpList_append_one rfl (.tmp 82) (.tmp 85) 32 rfl _ 8 Tryd.underlying32 int_info rfl (by omega) (X.length + 2) rfl (by simp [intC, Value.oneCell']) rfl HO.out wr.heap.size rfl HG.out (by rw [List.length_map, List.length_range]; omega) (by rw [List.length_map, List.length_range]; omega) HBEL.out.size ?_
                 intro v2 w3 o2 g2
                 have b2 := below_own HO.out g2 HBEL.out.size
                 have O2 := Lib.hid o2
                 have b3 := HBEL.out.trans b2
                 have B3 := Lib.hid b3
                 have r0 := (b3.cell (p := ⟨g, i * 4, none⟩) hg1).trans q0
                 have r1 := (b3.cell (p := ⟨g, i * 4 + 1, none⟩) hg1).trans q1
                 have r2 := (b3.cell (p := ⟨g, i * 4 + 2, none⟩) hg1).trans q2
                 have r3 := (b3.cell (p := ⟨g, i * 4 + 3, none⟩) hg1).trans q3
                 clear o2 g2 HO HG b2 HBEL b3))
            refine (written_any t.w WD1.out (by omega) (t.p : Int) caps _).mono ?_
            rintro e w4 ⟨rfl, b4⟩
            generalize hY : writL t.w caps = Y at *
            have HY := Lib.hid hY
            clear hY
            go_wp2_with fail
            go_roundw
            case rel =>
              refine ⟨i + 1, v2, by omega, by go_num, ?_, rfl, ?_, B3.out.trans (b4.mono B3.out.size)⟩
              · rw [HNX.out, HGAP.out, bytes_app, bytes_app]
              · rw [List.range_succ, List.map_append, List.map_singleton, HPOS.out, HGAP.out]
                exact O2.out.later b4
            case measure => simp [intOf]; omega
      · obtain rfl : i = n := by omega
        have hfull : (pairsF bl a i).take i = pairsF bl a i := List.take_of_length_le (by rw [pairs_len]; exact Nat.le_refl _)
        rw [hfull]
        have hlen := HSHORT.out i (Nat.le_refl _)
        rw [hfull] at hlen
        clear hfull
        have hlen2 : (laid caps (pairsF bl a i)).length ≤ 5000000 := by
          have : i * 5000 ≤ 1000 * 5000 := Nat.mul_le_mul_right _ (by omega)
          omega
        have HE2 := Lib.hid (HE1.out.later HB.out.bel)
        by_cases hbig : 4096 < (laid caps (pairsF bl a i)).length
        · have HLONG := Lib.hid (back_long hbig)
          generalize laid caps (pairsF bl a i) = T at *
          have hts : (⟨T.toArray⟩ : ByteArray).size ≤ 4294967280 := by show T.length ≤ _; omega
          go_wp2_with fail
          refine (lex_err (s := ⟨T.toArray⟩) HLONG.out HE2.out hts).mono ?_
          rintro e w5 ⟨rfl, b5⟩
          go_wp2_with fail
          refine (wakes_any _ (HE2.out.later b5)).mono ?_
          rintro e w6 ⟨rfl, b6⟩
          go_wp2_with fail
          go_ret
          exact ⟨rfl, Later.then (Later.then (Later.then b1 HB.out.bel) b5) b6⟩
        · obtain ⟨m, hm1, hm2, hm3, hm4⟩ := back_ok HGOOD.out (caps := caps) (by omega)
          rw [pairs_len] at hm2 hm4
          have HM1 := Lib.hid hm1
          have HM2 := Lib.hid hm2
          have HM3 := Lib.hid hm3
          have HM4 := Lib.hid hm4
          clear hm1 hm2 hm3 hm4
          have HP := Lib.hid HB.out.own
          generalize hT : laid caps (pairsF bl a i) = T at *
          have HT := Lib.hid hT
          have hts : (⟨T.toArray⟩ : ByteArray).size ≤ 4294967280 := by show T.length ≤ _; omega
          clear hT
          go_wp2_with fail
          refine (lex_ok (s := ⟨T.toArray⟩) HM1.out HE2.out hts).mono ?_
          rintro e w5 ⟨A5, c5, rfl, o5, b5⟩
          rw [HM2.out] at o5 ⊢
          obtain ⟨g5, hA5, _, hg5, hc5⟩ := TokS.cells o5 (by intro e; have := HM2.out; rw [e] at this; simp at this)
          subst hA5
          obtain ⟨p0, p1, p2, p3⟩ := hc5 i _ HM4.out
          simp only [endTok] at p3
          have HC5 := Lib.hid hc5
          clear p0 p1 p2 hc5 o5
          go_wp2_with fail
          clear p3
          have hz5 := b5.size
          have b15 := HB.out.bel.trans (b5.mono HB.out.bel.size)
          have B15 := Lib.hid b15
          have HP5 := Lib.hid (HP.out.later b5)
          clear b15
          go_loopw [18] (fun u wr => ∃ j : Nat, j ≤ i ∧ u = .int .i64 j ∧ Below w5.heap.size w5 wr) (fun u _ => i - (intOf u).toNat)
          case atStart => exact ⟨0, Nat.zero_le _, rfl, Below.refl _ _⟩
          case round =>
            obtain ⟨j, hj, rfl, hbw⟩ := hrel
            by_cases hlt : j < i
            · have hat : a[j]? = some (a[j]'(by rw [HN.out]; omega)) := List.getElem?_eq_getElem _
              generalize a[j]'(by rw [HN.out]; omega) = t at *
              obtain ⟨_, _, wd3, _⟩ := HWD.out j t hlt hat
              have hmj : m[j]? = some (Tok.mk t.w (posF caps bl a i j)) := HM3.out j _ (pairs_at hlt hat)
              obtain ⟨m0, m1, m2, m3⟩ := HC5.out j _ hmj
              obtain ⟨l0, l1, l2, l3⟩ := HC.out j t hat
              have hpj : ((List.range i).map (posF caps bl a i))[j]? = some (posF caps bl a i j) := by
                rw [List.getElem?_map, List.getElem?_range hlt]; rfl
              obtain ⟨gq, cq, hvq, _, hgq, hcq⟩ := OwnF.cell intC_len HP5.out hpj
              have q0 := hcq 0 _ rfl
              subst hvq
              clear hcq hpj hmj
              simp only at m0 m1 m2 m3
              rw [Nat.mul_one, Nat.add_zero] at q0
              generalize posF caps bl a i j = P at *
              have bw1 := B15.out.trans (hbw.mono (by have := B15.out.size; omega))
              have hgr := hbw.size
              have hg1r := bw1.size
              have f0 := fun x : Ext wr.heap.size wr => (x.h.cell (p := ⟨g5, j * 4, none⟩) (Nat.lt_of_lt_of_le hg5 hgr)).trans ((hbw.cell (p := ⟨g5, j * 4, none⟩) hg5).trans m0)
              have f1 := fun x : Ext wr.heap.size wr => (x.h.cell (p := ⟨g5, j * 4 + 1, none⟩) (Nat.lt_of_lt_of_le hg5 hgr)).trans ((hbw.cell (p := ⟨g5, j * 4 + 1, none⟩) hg5).trans m1)
              have f2 := fun x : Ext wr.heap.size wr => (x.h.cell (p := ⟨g5, j * 4 + 2, none⟩) (Nat.lt_of_lt_of_le hg5 hgr)).trans ((hbw.cell (p := ⟨g5, j * 4 + 2, none⟩) hg5).trans m2)
              have f3 := fun x : Ext wr.heap.size wr => (x.h.cell (p := ⟨g5, j * 4 + 3, none⟩) (Nat.lt_of_lt_of_le hg5 hgr)).trans ((hbw.cell (p := ⟨g5, j * 4 + 3, none⟩) hg5).trans m3)
              have e0 := fun x : Ext wr.heap.size wr => (x.h.cell (p := ⟨g, j * 4, none⟩) (Nat.lt_of_lt_of_le hg1 hg1r)).trans ((bw1.cell (p := ⟨g, j * 4, none⟩) hg1).trans l0)
              have e1 := fun x : Ext wr.heap.size wr => (x.h.cell (p := ⟨g, j * 4 + 1, none⟩) (Nat.lt_of_lt_of_le hg1 hg1r)).trans ((bw1.cell (p := ⟨g, j * 4 + 1, none⟩) hg1).trans l1)
              have e2 := fun x : Ext wr.heap.size wr => (x.h.cell (p := ⟨g, j * 4 + 2, none⟩) (Nat.lt_of_lt_of_le hg1 hg1r)).trans ((bw1.cell (p := ⟨g, j * 4 + 2, none⟩) hg1).trans l2)
              have e3 := fun x : Ext wr.heap.size wr => (x.h.cell (p := ⟨g, j * 4 + 3, none⟩) (Nat.lt_of_lt_of_le hg1 hg1r)).trans ((bw1.cell (p := ⟨g, j * 4 + 3, none⟩) hg1).trans l3)
              have k0 := fun x : Ext wr.heap.size wr => (x.h.cell (p := ⟨gq, j, none⟩) (Nat.lt_of_lt_of_le hgq hgr)).trans ((hbw.cell (p := ⟨gq, j, none⟩) hgq).trans q0)
              have d2 := decide_eq_false (show ¬ (s.size : Int) ≤ (t.p : Int) by omega)
              have d3 := decide_eq_false (show ¬ s.size ≤ t.p by omega)
              by_cases hj0 : j = 0
              · subst hj0
                clear m0 m1 m2 m3 l0 l1 l2 l3 q0 bw1 hat
                simp only [Nat.zero_mul, Nat.zero_add] at f0 f1 f2 f3 e0 e1 e2 e3 k0
                go_wp2_with fail
                refine region_cut 77 wr.heap.size wr (Below.refl _ _) (by kernel_rfl) (by kernel_rfl) (by kernel_rfl) (by kernel_rfl) ?_
                simp only [List.append, List.take_succ_cons, List.take_zero, List.drop_succ_cons, List.drop_zero]
                repeat (go_big_quiet_step (fail))
                refine wpQuiet_nil ?_
                rintro V4 ⟨x2, hx2⟩
                have hW := x2.h
                rw [← hx2] at hW
                clear hx2 x2
                go_wp2_with fail
                go_roundw
                case rel => exact ⟨1, hlt, rfl, hbw.trans (hW.mono hbw.size)⟩
                case measure => simp [intOf]; omega
              · have hjp : ∃ j', j = j' + 1 := ⟨j - 1, by omega⟩
                obtain ⟨j', hj'⟩ := hjp
                have hau : a[j']? = some (a[j']'(by rw [HN.out]; omega)) := List.getElem?_eq_getElem _
                generalize a[j']'(by rw [HN.out]; omega) = u at *
                obtain ⟨_, _, _, wd4⟩ := HWD.out j' u (by omega) hau
                have hup := wd4 t (by rw [← hj']; exact hat) (by omega)
                obtain ⟨u0, u1, u2, u3⟩ := HC.out j' u hau
                have v3 := fun x : Ext wr.heap.size wr => (x.h.cell (p := ⟨g, j' * 4 + 3, none⟩) (Nat.lt_of_lt_of_le hg1 hg1r)).trans ((bw1.cell (p := ⟨g, j' * 4 + 3, none⟩) hg1).trans u3)
                have d4 : (j : Int) - 1 = (j' : Int) := by omega
                have d5 := decide_eq_true (show (0 : Int) < (j : Int) by omega)
                have d6 := decide_eq_true (show 0 < j by omega)
                have d7 := decide_eq_false (show ¬ (t.p : Int) ≤ (u.p : Int) by omega)
                have d8 := decide_eq_false (show ¬ t.p ≤ u.p by omega)
                have hji : j' < i := by omega
                have hj1 : 1 ≤ j := by omega
                clear m0 m1 m2 m3 l0 l1 l2 l3 q0 bw1 hat hau wd4 u0 u1 u2 u3 hj' hj0
                go_wp2_with fail
                refine region_cut 77 wr.heap.size wr (Below.refl _ _) (by kernel_rfl) (by kernel_rfl) (by kernel_rfl) (by kernel_rfl) ?_
                simp only [List.append, List.take_succ_cons, List.take_zero, List.drop_succ_cons, List.drop_zero]
                repeat (go_big_quiet_step (fail))
                refine wpQuiet_nil ?_
                rintro V4 ⟨x2, hx2⟩
                have hW := x2.h
                rw [← hx2] at hW
                clear hx2 x2
                go_wp2_with fail
                go_roundw
                case rel => exact ⟨j + 1, hlt, by go_num, hbw.trans (hW.mono hbw.size)⟩
                case measure => simp [intOf]; omega
            · go_wp2_with fail
              refine (wakes_any _ (HE2.out.later (Later.then b5 hbw))).mono ?_
              rintro e w6 ⟨rfl, b6⟩
              go_wp2_with fail
              go_ret
              exact ⟨rfl, Later.then (Later.then (Later.then b1 B15.out) hbw) b6⟩
end Go.Proofs.YtcmkfjepikncnaaDoor
