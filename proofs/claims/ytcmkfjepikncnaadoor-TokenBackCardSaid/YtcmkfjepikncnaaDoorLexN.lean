/- token: a number. -/
import Derived.Test.YtcmkfjepikncnaaDoorLexE
namespace Go.Proofs.YtcmkfjepikncnaaDoor
open Go.ChangeShapes Go.WideShapes Go.ChangeAt Go.RowKit Go.Shelf
set_option linter.unusedVariables false
set_option linter.unusedSimpArgs false

/-- the digits, and what stands behind them -/
theorem number_front (s : ByteArray) {at_ : Nat} {c : UInt8} {r : List UInt8} (hd : s.data.toList.drop at_ = c :: r) (hc : digitB c = true) :
    (s.extract at_ (farN digitB s.data.toList at_)).data.toList = (c :: r).takeWhile digitB ∧ (c :: r).takeWhile digitB ≠ [] := by
  rw [extract_far, hd]
  exact ⟨rfl, by rw [List.takeWhile_cons, if_pos hc]; simp⟩
theorem far_letter (s : ByteArray) {k : Nat} (hk : k ≤ s.size) : ((s.data.toList.drop k).head?.any letterB = true ↔ k < farN letterB s.data.toList k) := by
  cases h : s.data.toList[k]? with
  | none =>
    rw [List.drop_eq_nil_of_le (by simpa using h), farN_end (by simpa using h)]
    simp
  | some d =>
    rw [drop_at h]
    cases hp : letterB d
    · rw [farN_no h hp]; simp [hp]
    · rw [farN_yes h hp]
      have := farN_ge letterB s.data.toList (k + 1)
      simp [hp]; omega
theorem zero_first {l : List UInt8} (hne : l ≠ []) : (decide (l.length ≤ 1) || !(l.head? == some 48)) = !(l.head? == some 48 && !(l == [48])) := by
  match l with
  | [] => exact absurd rfl hne
  | [c] => by_cases h : c = 48 <;> simp [h]
  | c :: d :: r => by_cases h : c = 48 <;> simp [h]
set_option maxHeartbeats 4000000 in
set_option maxRecDepth 100000 in
theorem number_any (B : Nat) (s : ByteArray) (g at_ : Nat) (w : World) (hE : Env B w) (hB : B ≤ g) (hL : Blk w g 38 (lexV s at_)) (c : UInt8) (r : List UInt8) (hd : s.data.toList.drop at_ = c :: r) (hc : digitB c = true) (hl : letterB c = false) (hs : s.size ≤ 4294967280) :
    Calls Tryd.prog 34 #[.pointer (some ⟨g, 0, none⟩)] w (readP s g at_ w (oneL (c :: r))) := by
  have ha : at_ ≤ s.size := by
    rcases Nat.lt_or_ge s.size at_ with h | h
    · rw [List.drop_eq_nil_of_le (by simp; omega)] at hd; cases hd
    · exact h
  have hone : oneL (c :: r) = if numB ((c :: r).takeWhile digitB) && !(((c :: r).dropWhile digitB).head?.any letterB) then .ok (⟨2, [], valL ((c :: r).takeWhile digitB)⟩, (c :: r).dropWhile digitB) else .error 30 := by
    simp only [oneL, hl, if_pos hc]
    rfl
  obtain ⟨hX, hne⟩ := number_front s hd hc
  have hfl := far_letter s (farN_le digitB s.data.toList at_ (by simpa using ha) |> (by simpa using ·))
  rw [drop_far, hd] at hfl
  have hall : ∀ x ∈ (c :: r).takeWhile digitB, digitB x = true := tw_word _
  have hrest := far_rest digitB s ha
  rw [hd] at hrest
  obtain ⟨c0, c1⟩ := lex_cells hL
  have hlt := hL.lt
  have hle := farN_le digitB s.data.toList at_ (by simpa using ha)
  have hge := farN_ge digitB s.data.toList at_
  simp at hle
  generalize hk : farN digitB s.data.toList at_ = k at *
  generalize hq : (c :: r).takeWhile digitB = q at *
  generalize hrr : (c :: r).dropWhile digitB = rr at *
  generalize hx : oneL (c :: r) = R at *
  have HK := Lib.hid hk
  have HX := Lib.hid hX
  have HALL := Lib.hid hall
  have HFL := Lib.hid hfl
  have HR := Lib.hid hrest
  have HN := Lib.hid hne
  have HZF := Lib.hid (zero_first hne)
  clear hk hq hrr hx hd hX hall hfl hrest hne
  have HONE := Lib.hid hone
  clear hone
  have hsz : q.length = (s.extract at_ k).size := by rw [← HX.out]; simp only [ByteArray.size_data, Array.length_toList]
  have hsz2 : (s.extract at_ k).size ≤ 4294967280 := by rw [ByteArray.size_extract]; omega
  have hpos : 0 < (s.extract at_ k).size := by rw [← hsz]; exact List.length_pos_iff.2 HN.out
  go_enter Tryd.func34, Tryd.ntmps34
  go_wp2_with fail
  refine (far_any digit_asks s at_ at_ g _ (hL.alloc _) ha hs).mono ?_
  rintro e w' ⟨rfl, rfl⟩
  rw [HK.out]
  go_wp2_with fail
  have HA := Lib.hid (hL.alloc (.cells #[.int .u8 0, .string ⟨#[]⟩, .int .i64 0, .int .i64 0] 31))
  have bb := later_new w (.cells #[.int .u8 0, .string ⟨#[]⟩, .int .i64 0, .int .i64 0] 31)
  have HZ := Lib.hid (Blk.new w 31 #[.int .u8 0, .string ⟨#[]⟩, .int .i64 0, .int .i64 0])
  have hne : w.heap.size ≠ g := by omega
  go_quiet (fail)
  generalize s.extract at_ k = x at *
  have bb2 := bb.trans ((drewN_below _ nq).mono bb.size)
  have hcl : At s g w at_ _ := (At.refl hL).later bb2
  have HZ2 := Lib.hid (HZ.out.drewN nq)
  generalize (w.alloc (.cells #[.int .u8 0, .string ⟨#[]⟩, .int .i64 0, .int .i64 0] 31)).drewN nq = W at *
  have HE2 := Lib.hid (hE.later bb2)
  have hx0 : q.head? = some x[0] := by
    rw [← HX.out, List.head?_eq_getElem?]
    exact byte_at x 0 hpos
  have hxl : x.toList = q := by rw [ByteArray.toList_eq]; exact HX.out
  have HX0 := Lib.hid hx0
  have HXL := Lib.hid hxl
  clear hx0 hxl
  go_wp2_with fail
  by_cases hv : valL q ≤ 9223372036854775807
  · refine (parse_ok hsz2 (by rw [HX.out]; exact HN.out) (by rw [HX.out]; exact HALL.out) (by rw [HX.out]; exact hv) _).mono ?_
    rintro e w1 ⟨rfl, b1⟩
    rw [HX.out]
    have hcl1 := hcl.later b1
    have HZ3 := Lib.hid (HZ2.out.later b1)
    obtain ⟨d0, d1⟩ := lex_cells hcl1.1
    have HC1 := Lib.hid hcl1
    clear hcl1
    obtain ⟨z0, z1, z2, z3, y0, y1, y2, y3⟩ := four_facts HZ3.out
    by_cases hb : q.head? = some 48 ∧ q ≠ [48]
    · have HRB : R = .error 30 := by
        rw [HONE.out, if_neg]
        rw [numB, HZF.out]
        simp [hb.1, hb.2]
      have HRB2 := Lib.hid HRB
      clear HRB
      have t1 : (((x[0].toNat : Nat) : Int) == 48) = true := by
        have := HX0.out.symm.trans hb.1
        injection this with this
        rw [this]; rfl
      have t2 : ¬ x.toList = [48] := by rw [HXL.out]; exact hb.2
      have t3 : (x.toList == [48]) = false := by simpa using t2
      clear hb
      go_wp2_with fail
      have HRB := HRB2.out
      refine bodyPost_ret (v := .tuple #[.agg #[.int .u8 0, .string ⟨#[]⟩, .int .i64 0, .int .i64 0], .int .i64 30]) ?_ rfl ?_
      · simp [results, Tryd.results34, go_sem, z0, z1, z2, z3]
      · rw [HRB]
        exact ⟨rfl, (((HC1.out.far (Nat.le_refl _) hne 0 _).far (Nat.le_refl _) hne 1 _ |>.far (Nat.le_refl _) hne 2 _ |>.far (Nat.le_refl _) hne 3 _))⟩
    · by_cases hlt2 : k < farN letterB s.data.toList k
      · have HRB : R = .error 30 := by
          rw [HONE.out, if_neg]
          rw [HFL.out.2 hlt2]
          simp
        have HRB2 := Lib.hid HRB
        clear HRB
        have g2 := decide_eq_true (show (k : Int) < (farN letterB s.data.toList k : Nat) by omega)
        have g3 := decide_eq_true hlt2
        by_cases h48 : x[0] = 48
        · have t1 : (((x[0].toNat : Nat) : Int) == 48) = true := by rw [h48]; rfl
          have t2 : x.toList = [48] := by
            rw [HXL.out]
            by_cases hq : q = [48]
            · exact hq
            · exact absurd ⟨by rw [HX0.out, h48], hq⟩ hb
          have t3 : (x.toList == [48]) = true := by simpa using t2
          clear h48
          go_wp2_with fail
          refine (far_any letter_asks s at_ k g _ HC1.out.1 hle hs).mono ?_
          rintro e w' ⟨rfl, rfl⟩
          go_wp2_with fail
          have HRB := HRB2.out
          refine bodyPost_ret (v := .tuple #[.agg #[.int .u8 0, .string ⟨#[]⟩, .int .i64 0, .int .i64 0], .int .i64 30]) ?_ rfl ?_
          · simp [results, Tryd.results34, go_sem, z0, z1, z2, z3]
          · rw [HRB]
            exact ⟨rfl, (((HC1.out.far (Nat.le_refl _) hne 0 _).far (Nat.le_refl _) hne 1 _ |>.far (Nat.le_refl _) hne 2 _ |>.far (Nat.le_refl _) hne 3 _))⟩
        · have t1 : (((x[0].toNat : Nat) : Int) == 48) = false := by
            rw [beq_eq_false_iff_ne]
            intro h
            exact h48 (UInt8.toNat_inj.1 (by simpa using (by omega : x[0].toNat = 48)))
          clear h48
          go_wp2_with fail
          refine (far_any letter_asks s at_ k g _ HC1.out.1 hle hs).mono ?_
          rintro e w' ⟨rfl, rfl⟩
          go_wp2_with fail
          have HRB := HRB2.out
          refine bodyPost_ret (v := .tuple #[.agg #[.int .u8 0, .string ⟨#[]⟩, .int .i64 0, .int .i64 0], .int .i64 30]) ?_ rfl ?_
          · simp [results, Tryd.results34, go_sem, z0, z1, z2, z3]
          · rw [HRB]
            exact ⟨rfl, (((HC1.out.far (Nat.le_refl _) hne 0 _).far (Nat.le_refl _) hne 1 _ |>.far (Nat.le_refl _) hne 2 _ |>.far (Nat.le_refl _) hne 3 _))⟩
      · have HRB : R = .ok (⟨2, [], valL q⟩, rr) := by
          rw [HONE.out, if_pos]
          have h1 : (rr.head?.any letterB) = false := by
            cases hh : rr.head?.any letterB
            · rfl
            · exact absurd (HFL.out.1 hh) hlt2
          rw [h1, numB, HZF.out]
          simp [hv]
          by_cases hq : q = [48]
          · exact .inr hq
          · exact .inl fun h => hb ⟨h, hq⟩
        have HRB2 := Lib.hid HRB
        clear HRB
        have hfe : farN letterB s.data.toList k = k := by
          have := farN_ge letterB s.data.toList k
          omega
        have HFE := Lib.hid hfe
        clear hfe hlt2
        by_cases h48 : x[0] = 48
        · have t1 : (((x[0].toNat : Nat) : Int) == 48) = true := by rw [h48]; rfl
          have t2 : x.toList = [48] := by
            rw [HXL.out]
            by_cases hq : q = [48]
            · exact hq
            · exact absurd ⟨by rw [HX0.out, h48], hq⟩ hb
          have t3 : (x.toList == [48]) = true := by simpa using t2
          clear h48
          go_wp2_with fail
          refine (far_any letter_asks s at_ k g _ HC1.out.1 hle hs).mono ?_
          rintro e w' ⟨rfl, rfl⟩
          rw [HFE.out]
          go_wp2_with fail
          refine (found_any s g at_ k 2 ⟨#[]⟩ (valL q) 0 _ HC1.out.1).mono ?_
          rintro e w2 ⟨rfl, hat⟩
          clear z0 z1 z2 z3 y0 y1 y2 y3
          obtain ⟨z0, z1, z2, z3, y0, y1, y2, y3⟩ := four_facts (hat.other HZ3.out hne)
          go_wp2_with fail
          refine bodyPost_ret (v := .tuple #[.agg #[.int .u8 2, .string ⟨#[]⟩, .int .i64 (valL q), .int .i64 at_], .int .i64 0]) ?_ rfl ?_
          · simp [results, Tryd.results34, go_sem, z0, z1, z2, z3]
          · rw [HRB2.out]
            refine ⟨rfl, ?_⟩
            show At s g w (s.size - _) _
            rw [HR.out]
            exact (((HC1.out.trans hat).far (Nat.le_refl _) hne 0 _).far (Nat.le_refl _) hne 1 _ |>.far (Nat.le_refl _) hne 2 _ |>.far (Nat.le_refl _) hne 3 _)
        · have t1 : (((x[0].toNat : Nat) : Int) == 48) = false := by
            rw [beq_eq_false_iff_ne]
            intro h
            exact h48 (UInt8.toNat_inj.1 (by simpa using (by omega : x[0].toNat = 48)))
          clear h48
          go_wp2_with fail
          refine (far_any letter_asks s at_ k g _ HC1.out.1 hle hs).mono ?_
          rintro e w' ⟨rfl, rfl⟩
          rw [HFE.out]
          go_wp2_with fail
          refine (found_any s g at_ k 2 ⟨#[]⟩ (valL q) 0 _ HC1.out.1).mono ?_
          rintro e w2 ⟨rfl, hat⟩
          clear z0 z1 z2 z3 y0 y1 y2 y3
          obtain ⟨z0, z1, z2, z3, y0, y1, y2, y3⟩ := four_facts (hat.other HZ3.out hne)
          go_wp2_with fail
          refine bodyPost_ret (v := .tuple #[.agg #[.int .u8 2, .string ⟨#[]⟩, .int .i64 (valL q), .int .i64 at_], .int .i64 0]) ?_ rfl ?_
          · simp [results, Tryd.results34, go_sem, z0, z1, z2, z3]
          · rw [HRB2.out]
            refine ⟨rfl, ?_⟩
            show At s g w (s.size - _) _
            rw [HR.out]
            exact (((HC1.out.trans hat).far (Nat.le_refl _) hne 0 _).far (Nat.le_refl _) hne 1 _ |>.far (Nat.le_refl _) hne 2 _ |>.far (Nat.le_refl _) hne 3 _)
  · have HRB : R = .error 30 := by
      rw [HONE.out, if_neg]
      rw [numB]
      simp [hv]
    have HRB2 := Lib.hid HRB
    clear HRB
    refine (parse_range hsz2 (by rw [HX.out]; exact HN.out) (by rw [HX.out]; exact HALL.out) (by rw [HX.out]; exact hv) HE2.out).mono ?_
    rintro e w1 ⟨⟨N, rfl⟩, b1⟩
    have hcl1 := hcl.later b1
    have HZ3 := Lib.hid (HZ2.out.later b1)
    obtain ⟨d0, d1⟩ := lex_cells hcl1.1
    have HC1 := Lib.hid hcl1
    clear hcl1
    obtain ⟨z0, z1, z2, z3, y0, y1, y2, y3⟩ := four_facts HZ3.out
    go_wp2_with fail
    have HRB := HRB2.out
    refine bodyPost_ret (v := .tuple #[.agg #[.int .u8 0, .string ⟨#[]⟩, .int .i64 0, .int .i64 0], .int .i64 30]) ?_ rfl ?_
    · simp [results, Tryd.results34, go_sem, z0, z1, z2, z3]
    · rw [HRB]
      exact ⟨rfl, (((HC1.out.far (Nat.le_refl _) hne 0 _).far (Nat.le_refl _) hne 1 _ |>.far (Nat.le_refl _) hne 2 _ |>.far (Nat.le_refl _) hne 3 _))⟩
end Go.Proofs.YtcmkfjepikncnaaDoor
