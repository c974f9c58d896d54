/- token: TokenJoins. -/
import Derived.Test.YtcmkfjepikncnaaDoorTells12
import Derived.Test.YtcmkfjepikncnaaDoorLexJ
namespace Go.Proofs.YtcmkfjepikncnaaDoor
open Go.ChangeShapes Go.WideShapes Go.ChangeAt Go.RowKit Go.Shelf
set_option linter.unusedVariables false
set_option linter.unusedSimpArgs false

theorem lex_some (s : ByteArray) {w : World} (hE : LexEnv w) (hs : s.size ≤ 4294967280) :
    Calls Tryd.prog 9 #[.string s] w fun e w' => ∃ (v : Value) (p x : Nat), e = .returned (.tuple #[v, .int .i64 p, .int .i64 x]) ∧ Below w.heap.size w w' := by
  refine (lex_any s w hE hs).mono ?_
  intro e w' hp
  unfold lexPost at hp
  rcases hl : lexL s.data.toList with ⟨p, x⟩ | l
  · rw [hl] at hp
    exact ⟨_, p, x, hp.1, hp.2⟩
  · rw [hl] at hp
    obtain ⟨v, he, _, hb⟩ := hp
    exact ⟨v, 0, 0, he, hb⟩
theorem lexL_ne {s : List UInt8} {l : List Tok} (h : lexL s = .ok l) : ∃ n, l.length = n + 1 := by
  obtain ⟨_, ws, _, rfl⟩ := run_of_ok h
  exact ⟨ws.length, by simp⟩
theorem lexL_pos {s : List UInt8} {l : List Tok} (h : lexL s = .ok l) {i : Nat} {u : Tok} (hu : l[i]? = some u) : u.p ≤ s.length := by
  obtain ⟨_, ws, _, rfl⟩ := run_of_ok h
  rcases List.mem_append.1 (List.mem_of_getElem? hu) with hm | hm
  · obtain ⟨x, _, rfl⟩ := List.mem_map.1 hm
    exact Nat.sub_le _ _
  · simp at hm
    rw [hm]
    exact Nat.le_refl _
theorem join_list (s t : ByteArray) : (s ++ ⟨#[10]⟩ ++ t).data.toList = s.data.toList ++ 10 :: t.data.toList := by simp
theorem err_ne {s : List UInt8} {p x : Nat} (hl : s.length ≤ 4000) (h : lexL s = .error (p, x)) : x = 2 ∨ x = 30 := (cut_ok hl h).2.1
/-- a joined word -/
theorem join_at {a b c : List Tok} {n na : Nat} (hc : c = a.dropLast ++ b.map (shiftT n)) (ha : a.length = na + 1) :
    c.length = na + b.length ∧ (∀ i t, i < na → c[i]? = some t → a[i]? = some t) ∧ (∀ i t, na ≤ i → c[i]? = some t → ∃ u, b[i - na]? = some u ∧ t = shiftT n u) := by
  subst hc
  have hd : a.dropLast.length = na := by simp [ha]
  refine ⟨by simp [ha], fun i t hi h => ?_, fun i t hi h => ?_⟩
  · rw [List.getElem?_append_left (by omega)] at h
    rw [List.getElem?_dropLast] at h
    split at h
    · exact h
    · cases h
  · rw [List.getElem?_append_right (by omega), hd, List.getElem?_map] at h
    cases hb : b[i - na]? with
    | none => rw [hb] at h; cases h
    | some u => rw [hb] at h; exact ⟨u, rfl, by injection h with h; exact h.symm⟩
set_option maxHeartbeats 4000000 in
set_option maxRecDepth 100000 in
theorem joins_any (s t : ByteArray) (w : World) (hE : LexEnv w) : Calls Tryd.prog 7 #[.string s, .string t] w (namePost true w) := by
  have HE := Lib.hid hE
  clear hE
  by_cases hb1 : 1000 < s.size
  · go_enter Tryd.func7, Tryd.ntmps7
    go_wp2_with fail
    refine (wakes_any _ HE.out).mono ?_
    rintro e w1 ⟨rfl, b1⟩
    go_wp2_with fail
    go_ret
    exact ⟨rfl, b1⟩
  by_cases hb2 : 1000 < t.size
  · go_enter Tryd.func7, Tryd.ntmps7
    go_wp2_with fail
    refine (wakes_any _ HE.out).mono ?_
    rintro e w1 ⟨rfl, b1⟩
    go_wp2_with fail
    go_ret
    exact ⟨rfl, b1⟩
  have hs : s.size ≤ 1000 := by omega
  have ht : t.size ≤ 1000 := by omega
  have HSL := Lib.hid (show s.data.toList.length = s.size by simp)
  have HTL := Lib.hid (show t.data.toList.length = t.size by simp)
  have hjz : (s ++ ⟨#[10]⟩ ++ t).size ≤ 4294967280 := by
    rw [ByteArray.size_append, ByteArray.size_append]
    have : (⟨#[10]⟩ : ByteArray).size = 1 := rfl
    omega
  clear hb1 hb2
  rcases hlex : lexL s.data.toList with ⟨p, x⟩ | a
  · have HLX := Lib.hid hlex
    have hx := err_ne (by rw [HSL.out]; omega) hlex
    clear hlex
    go_enter Tryd.func7, Tryd.ntmps7
    go_wp2_with fail
    refine (lex_err HLX.out HE.out (by omega)).mono ?_
    rintro e w1 ⟨rfl, b1⟩
    have n1 : ((x : Int) == 0) = false := by rcases hx with rfl | rfl <;> rfl
    have n2 : ((x : Int) != 0) = true := by rcases hx with rfl | rfl <;> rfl
    have n3 : ¬ (x : Int) = 0 := by omega
    clear hx
    have HE1 := Lib.hid (HE.out.later b1)
    go_wp2_with fail
    refine (lex_some t HE1.out (by omega)).mono ?_
    rintro e w2 ⟨v2, p2, x2, rfl, b2⟩
    have HE2 := Lib.hid (HE1.out.later b2)
    go_wp2_with fail
    refine (lex_some _ HE2.out hjz).mono ?_
    rintro e w3 ⟨v3, p3, x3, rfl, b3⟩
    have HE3 := Lib.hid (HE2.out.later b3)
    go_wp2_with fail
    refine (wakes_any _ HE3.out).mono ?_
    rintro e w4 ⟨rfl, b4⟩
    go_wp2_with fail
    go_ret
    exact ⟨rfl, Later.then (Later.then (Later.then b1 b2) b3) b4⟩
  · have HLX := Lib.hid hlex
    have ha1 := (lexL_short hlex).2
    clear hlex
    rcases hlext : lexL t.data.toList with ⟨p, x⟩ | b
    · have HLT := Lib.hid hlext
      have hx := err_ne (by rw [HTL.out]; omega) hlext
      have hj := join_err HLX.out hlext (by rw [HSL.out, HTL.out]; omega)
      rw [← join_list, HSL.out] at hj
      have HJ := Lib.hid hj
      have hpt : p ≤ t.size := by have := (cut_ok (by rw [HTL.out]; omega) hlext).1; rw [HTL.out] at this; omega
      clear hlext hj
      go_enter Tryd.func7, Tryd.ntmps7
      go_wp2_with fail
      refine (lex_ok HLX.out HE.out (by omega)).mono ?_
      rintro e w1 ⟨A1, c1, rfl, o1, b1⟩
      have HE1 := Lib.hid (HE.out.later b1)
      clear o1
      go_wp2_with fail
      refine (lex_err HLT.out HE1.out (by omega)).mono ?_
      rintro e w2 ⟨rfl, b2⟩
      have n1 : ((x : Int) == 0) = false := by rcases hx with rfl | rfl <;> rfl
      have n2 : ((x : Int) != 0) = true := by rcases hx with rfl | rfl <;> rfl
      have n3 : ¬ (x : Int) = 0 := by omega
      have HX := Lib.hid hx
      clear hx
      have HE2 := Lib.hid (HE1.out.later b2)
      go_wp2_with fail
      refine (lex_err HJ.out HE2.out hjz).mono ?_
      rintro e w3 ⟨rfl, b3⟩
      have HE3 := Lib.hid (HE2.out.later b3)
      have hcast : ((s.size + 1 + p : Nat) : Int) = (s.size : Int) + 1 + p := by omega
      rw [hcast]
      clear hcast
      go_wp2_with fail
      refine (wakes_any _ HE3.out).mono ?_
      rintro e w4 ⟨rfl, b4⟩
      go_wp2_with fail
      go_ret
      exact ⟨rfl, Later.then (Later.then (Later.then b1 b2) b3) b4⟩
    · have HLT := Lib.hid hlext
      have hb1 := (lexL_short hlext).2
      have hj := join_ok HLX.out hlext (by rw [HSL.out, HTL.out]; omega)
      obtain ⟨na, hna⟩ := lexL_ne HLX.out
      generalize hcc : a.dropLast ++ b.map (shiftT (s.data.toList.length + 1)) = c at *
      obtain ⟨j1, j2, j3⟩ := join_at hcc.symm hna
      rw [← join_list] at hj
      have HJ := Lib.hid hj
      have HJ2 := Lib.hid j2
      have HJ3 := Lib.hid j3
      generalize hnb : b.length = nb at *
      generalize hnc : c.length = nc at *
      clear hlext hj hcc j2 j3
      have HNB := Lib.hid hnb
      have HNC := Lib.hid hnc
      have HNA := Lib.hid hna
      rw [hna] at ha1
      clear hnb hnc hna
      go_enter Tryd.func7, Tryd.ntmps7
      go_wp2_with fail
      refine (lex_ok HLX.out HE.out (by omega)).mono ?_
      rintro e w1 ⟨A1, c1, rfl, o1, b1⟩
      rw [HNA.out] at o1 ⊢
      have HE1 := Lib.hid (HE.out.later b1)
      have O1 := Lib.hid o1
      clear o1
      go_wp2_with fail
      refine (lex_ok HLT.out HE1.out (by omega)).mono ?_
      rintro e w2 ⟨A2, c2, rfl, o2, b2⟩
      rw [HNB.out] at o2 ⊢
      have HE2 := Lib.hid (HE1.out.later b2)
      have O2 := Lib.hid o2
      clear o2
      go_wp2_with fail
      refine (lex_ok HJ.out HE2.out hjz).mono ?_
      rintro e w3 ⟨A3, c3, rfl, o3, b3⟩
      rw [HNC.out] at o3 ⊢
      have HE3 := Lib.hid (HE2.out.later b3)
      have O13 := Lib.hid ((O1.out.later b2).later b3)
      have O23 := Lib.hid (O2.out.later b3)
      have O33 := Lib.hid o3
      have B3 := Lib.hid (Later.then (Later.then b1 b2) b3)
      clear o3 O1 O2
      have q1 : (((na + 1 : Nat) : Int) + nb - 1) = (nc : Int) := by omega
      have q2 : ((nc : Int) != (nc : Int)) = false := by simp
      have q3 : (((na + 1 : Nat) : Int) - 1) = (na : Int) := by omega
      go_wp2_with fail
      have HJ1 := Lib.hid j1
      clear j1 q1 q2 q3
      have hnbp : nb ≤ t.size + 1 := hb1
      go_loopw [14] (fun u wr => ∃ i : Nat, i ≤ na + nb ∧ u = .int .i64 i ∧ Below w3.heap.size w3 wr) (fun u _ => (na + nb) - (intOf u).toNat)
      case atStart => exact ⟨0, by omega, rfl, Below.refl _ _⟩
      case round =>
        obtain ⟨i, hi, rfl, hbw⟩ := hrel
        by_cases hlt : i < na + nb
        · have hci : ∃ tc, c[i]? = some tc := ⟨_, List.getElem?_eq_getElem (by rw [HNC.out, HJ1.out]; exact hlt)⟩
          obtain ⟨tc, hci⟩ := hci
          obtain ⟨g3, e3, _, hg3, h3⟩ := TokS.cells (O33.out.later hbw) (by intro e; rw [e] at hci; simp at hci)
          subst e3
          obtain ⟨r0, r1, r2, r3⟩ := h3 i tc hci
          clear h3
          have hgz := hbw.size
          by_cases hina : i < na
          · have hai := HJ2.out i tc hina hci
            obtain ⟨g1, e1, _, hg1, h1⟩ := TokS.cells (O13.out.later hbw) (by intro e; rw [e] at hai; simp at hai)
            subst e1
            obtain ⟨p0, p1, p2, p3⟩ := h1 i tc hai
            clear h1 hai hci
            have d1 := decide_eq_true (show (i : Int) < (na : Int) + 1 - 1 by omega)
            go_wp2_with fail
            go_quiet (fail)
            go_wp2_with fail
            go_roundw
            case rel => exact ⟨i + 1, hlt, by go_num, hbw.trans (((later_new wr _).trans ((drewN_below _ nq).mono (by simp))).mono hgz)⟩
            case measure => simp [intOf]; omega
          · obtain ⟨u, hbi, htc⟩ := HJ3.out i tc (by omega) hci
            obtain ⟨g2, e2, _, hg2, h2⟩ := TokS.cells (O23.out.later hbw) (by intro e; rw [e] at hbi; simp at hbi)
            subst e2
            obtain ⟨p0, p1, p2, p3⟩ := h2 (i - na) u hbi
            have hjb : i - na < nb := by omega
            generalize hjj : i - na = j at *
            have hij : i = na + j := by omega
            subst htc
            have hup : u.p ≤ 1000 := by
              have := lexL_pos HLT.out hbi
              rw [HTL.out] at this
              omega
            have hpp : (((shiftT (s.data.toList.length + 1) u).p : Nat) : Int) = (u.p : Int) + s.size + 1 := by
              have := HSL.out
              simp only [shiftT]
              omega
            rw [hpp] at r3
            simp only [shiftT] at r0 r1 r2
            clear h2 hbi hci hpp hjj
            have d1 := decide_eq_false (show ¬ (i : Int) < (na : Int) + 1 - 1 by omega)
            have d2 : (i : Int) - ((na : Int) + 1) + 1 = (j : Int) := by omega
            clear hij
            go_wp2_with fail
            go_quiet (fail)
            go_wp2_with fail
            go_roundw
            case rel => exact ⟨i + 1, hlt, by go_num, hbw.trans (((later_new wr _).trans ((drewN_below _ nq).mono (by simp))).mono hgz)⟩
            case measure => simp [intOf]; omega
        · go_wp2_with fail
          refine (wakes_any _ (HE3.out.later hbw)).mono ?_
          rintro e w4 ⟨rfl, b4⟩
          go_wp2_with fail
          go_ret
          exact ⟨rfl, Later.then (Later.then B3.out hbw) b4⟩
end Go.Proofs.YtcmkfjepikncnaaDoor
