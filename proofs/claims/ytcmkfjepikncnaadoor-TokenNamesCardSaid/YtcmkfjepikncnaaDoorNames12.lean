/- token: TokenNames. -/
import Derived.Test.YtcmkfjepikncnaaDoorTells12
import Derived.Test.YtcmkfjepikncnaaDoorLexJ
namespace Go.Proofs.YtcmkfjepikncnaaDoor
open Go.ChangeShapes Go.WideShapes Go.ChangeAt Go.RowKit Go.Shelf
set_option linter.unusedVariables false
set_option linter.unusedSimpArgs false

/-- of a statement's words: are they the one word s? -/
def oneWord (s : List UInt8) (l : List Tok) : Bool := decide (l.length = 2) && (l.head? == some ⟨⟨1, s, 0⟩, 0⟩)
theorem wordOf_ok {s : List UInt8} {l : List Tok} (h : lexL s = .ok l) : wordOf s = oneWord s l := by
  unfold wordOf oneWord
  rw [h]
  match l with
  | [] => rfl
  | [a] => simp
  | [a, b] => simp
  | a :: b :: c :: r => simp
theorem wordOf_err {s : List UInt8} {x : Nat × Nat} (h : lexL s = .error x) : wordOf s = false := by
  unfold wordOf
  rw [h]
theorem tok_eqs (t : Tok) (s : List UInt8) : (t == ⟨⟨1, s, 0⟩, 0⟩) = ((((t.w.k : Int) == 1) && (t.w.s == s)) && (t.w.n == 0) && ((t.p : Int) == 0)) := by
  rcases t with ⟨⟨k, x, n⟩, p⟩
  rw [Bool.eq_iff_iff]
  simp only [beq_iff_eq, Bool.and_eq_true, Tok.mk.injEq, Wd.mk.injEq]
  constructor
  · rintro ⟨⟨rfl, rfl, rfl⟩, rfl⟩; simp
  · rintro ⟨⟨⟨h1, h2⟩, h3⟩, h4⟩
    exact ⟨⟨by omega, h2, h3⟩, by omega⟩
set_option maxHeartbeats 4000000 in
set_option maxRecDepth 100000 in
theorem names_any (s : ByteArray) (w : World) (hE : LexEnv w) : Calls Tryd.prog 6 #[.string s] w (namePost true w) := by
  have HE := Lib.hid hE
  clear hE
  by_cases hbig : 100 < s.size
  · go_enter Tryd.func6, Tryd.ntmps6
    go_wp2_with fail
    refine (wakes_any _ HE.out).mono ?_
    rintro e w1 ⟨rfl, b1⟩
    go_wp2_with fail
    go_ret
    exact ⟨rfl, b1⟩
  · have hs : s.size ≤ 4294967280 := by omega
    have HRN := Lib.hid (fun w4 (h : LexEnv w4) => @Reserved_any w4.heap.size s w4 (Env.mk0 h))
    have HNN := Lib.hid (fun w4 (h : LexEnv w4) => @Name_any w4.heap.size s w4 (Env.mk0 h) hs)
    obtain ⟨law1, law2⟩ := names_law s.data.toList
    generalize hr : resB s.data.toList = R at *
    generalize hn : nameB s.data.toList = N at *
    generalize hw : wordOf s.data.toList = D at *
    have hz : decide (0 < s.data.toList.length) = decide ((0 : Int) < (s.size : Int)) := by
      have : s.data.toList.length = s.size := by simp
      rw [this]
      by_cases h : 0 < s.size <;> simp [h]
    rw [hz] at law1
    have LAW1 := Lib.hid law1
    have LAW2 := Lib.hid law2
    have HW := Lib.hid hw
    clear law1 law2 hr hn hz hw
    rcases hlex : lexL s.data.toList with ⟨p, x⟩ | l
    · have hD : D = false := by rw [← HW.out]; exact wordOf_err hlex
      have hR : R = false := by
        cases hr : R
        · rfl
        · have := LAW2.out hr
          rw [hD] at this; cases this
      have hN : N = false := by rw [LAW1.out, hD]; rfl
      rw [hR] at HRN
      rw [hN] at HNN
      have HLX := Lib.hid hlex
      clear hD hR hN hlex
      go_enter Tryd.func6, Tryd.ntmps6
      go_wp2_with fail
      refine (lex_err HLX.out HE.out hs).mono ?_
      rintro e w1 ⟨rfl, b1⟩
      have hx : x = 2 ∨ x = 30 := (cut_ok (by simp; omega) HLX.out).2.1
      have n1 : ((x : Int) == 0) = false := by rcases hx with rfl | rfl <;> rfl
      clear hx
      have HE1 := Lib.hid (HE.out.later b1)
      go_wp2_with fail
      refine (HNN.out _ HE1.out).mono ?_
      rintro e w2 ⟨rfl, b2⟩
      have HE2 := Lib.hid (HE1.out.later b2)
      go_wp2_with fail
      refine (HRN.out _ HE2.out).mono ?_
      rintro e w3 ⟨rfl, b3⟩
      have HE3 := Lib.hid (HE2.out.later b3)
      go_wp2_with fail
      refine (wakes_any _ HE3.out).mono ?_
      rintro e w4 ⟨rfl, b4⟩
      go_wp2_with fail
      go_ret
      exact ⟨rfl, Later.then (Later.then (Later.then b1 b2) b3) b4⟩
    · have HLX := Lib.hid hlex
      have HDW := Lib.hid (HW.out.symm.trans (wordOf_ok hlex))
      clear hlex
      by_cases hl2 : l.length = 2
      · obtain ⟨a, u, rfl⟩ : ∃ a u, l = [a, u] := by
          match l, hl2 with
          | [a, u], _ => exact ⟨a, u, rfl⟩
        have hda : D = (a == ⟨⟨1, s.data.toList, 0⟩, 0⟩) := by rw [HDW.out]; simp [oneWord]
        clear hl2
        by_cases ha : a = ⟨⟨1, s.data.toList, 0⟩, 0⟩
        · have hD : D = true := by rw [hda, ha]; simp
          have hpos : 0 < s.size := by
            rcases Nat.eq_zero_or_pos s.size with h0 | h0
            · exfalso
              have hn : s.data.toList = [] := List.eq_nil_of_length_eq_zero (by simpa using h0)
              have h1 := HLX.out
              rw [hn, show lexL [] = .ok [endTok 0] from rfl] at h1
              injection h1 with h1
              simp at h1
            · exact h0
          have hN : N = !R := by rw [LAW1.out, hD]; simp; omega
          have n1 := decide_eq_true (show (0 : Int) < s.size by omega)
          subst hN
          clear hD hda
          subst ha
          cases R
          all_goals
            go_enter Tryd.func6, Tryd.ntmps6
            go_wp2_with fail
            refine (lex_ok HLX.out HE.out hs).mono ?_
            rintro e w1 ⟨A1, c1, rfl, o1, b1⟩
            have HE1 := Lib.hid (HE.out.later b1)
            have hc := o1.cells (by simp)
            obtain ⟨g, rfl, _, _, hc⟩ := hc
            obtain ⟨p0, p1, p2, p3⟩ := hc 0 _ rfl
            simp only [Nat.zero_mul, Nat.zero_add] at p0 p1 p2 p3
            have hss : (⟨s.data.toList.toArray⟩ : ByteArray) = s := by apply Go.WideShapes.bytes_inj; rfl
            rw [hss] at p1
            clear hc hss o1
            go_wp2_with fail
            refine (HNN.out _ HE1.out).mono ?_
            rintro e w2 ⟨rfl, b2⟩
            have HE2 := Lib.hid (HE1.out.later b2)
            go_wp2_with fail
            refine (HRN.out _ HE2.out).mono ?_
            rintro e w3 ⟨rfl, b3⟩
            have HE3 := Lib.hid (HE2.out.later b3)
            go_wp2_with fail
            refine (HRN.out _ HE3.out).mono ?_
            rintro e w4 ⟨rfl, b4⟩
            have HE4 := Lib.hid (HE3.out.later b4)
            go_wp2_with fail
            refine (wakes_any _ HE4.out).mono ?_
            rintro e w5 ⟨rfl, b5⟩
            go_wp2_with fail
            go_ret
            exact ⟨rfl, Later.then (Later.then (Later.then (Later.then b1 b2) b3) b4) b5⟩
        · have hD : D = false := by
            rw [hda]; simpa using ha
          clear hda
          have hR : R = false := by
            cases hr : R
            · rfl
            · have := LAW2.out hr
              rw [hD] at this; cases this
          have hN : N = false := by rw [LAW1.out, hD]; rfl
          rw [hR] at HRN
          rw [hN] at HNN
          clear hD hR hN
          go_enter Tryd.func6, Tryd.ntmps6
          go_wp2_with fail
          refine (lex_ok HLX.out HE.out hs).mono ?_
          rintro e w1 ⟨A1, c1, rfl, o1, b1⟩
          have HE1 := Lib.hid (HE.out.later b1)
          have hc := o1.cells (by simp)
          obtain ⟨g, rfl, _, _, hc⟩ := hc
          obtain ⟨p0, p1, p2, p3⟩ := hc 0 _ rfl
          simp only [Nat.zero_mul, Nat.zero_add] at p0 p1 p2 p3
          clear hc o1
          rcases a with ⟨⟨k, x, n⟩, p⟩
          simp only at p0 p1 p2 p3
          have HA := Lib.hid ha
          clear ha
          go_wp2_with fail
          all_goals first
            | (exfalso
               have h2 := ‹x = s.toList›
               have h3 := ‹n = 0›
               have h4 := ‹p = 0›
               refine HA.out ?_
               have e1 : k = 1 := by omega
               rw [ByteArray.toList_eq] at h2
               rw [e1, h2, h3, h4]
               done)
            | skip
          all_goals
            refine (HNN.out _ HE1.out).mono ?_
            rintro e w2 ⟨rfl, b2⟩
            have HE2 := Lib.hid (HE1.out.later b2)
            go_wp2_with fail
            refine (HRN.out _ HE2.out).mono ?_
            rintro e w3 ⟨rfl, b3⟩
            have HE3 := Lib.hid (HE2.out.later b3)
            go_wp2_with fail
            refine (wakes_any _ HE3.out).mono ?_
            rintro e w4 ⟨rfl, b4⟩
            go_wp2_with fail
            go_ret
            exact ⟨rfl, Later.then (Later.then (Later.then b1 b2) b3) b4⟩
      · have hD : D = false := by rw [HDW.out]; simp [oneWord, hl2]
        have n2 : ((l.length : Int) == 2) = false := by rw [beq_eq_false_iff_ne]; omega
        clear hl2
        have hR : R = false := by
          cases hr : R
          · rfl
          · have := LAW2.out hr
            rw [hD] at this; cases this
        have hN : N = false := by rw [LAW1.out, hD]; rfl
        rw [hR] at HRN
        rw [hN] at HNN
        clear hD hR hN
        go_enter Tryd.func6, Tryd.ntmps6
        go_wp2_with fail
        refine (lex_ok HLX.out HE.out hs).mono ?_
        rintro e w1 ⟨A1, c1, rfl, o1, b1⟩
        have HE1 := Lib.hid (HE.out.later b1)
        clear o1
        go_wp2_with fail
        refine (HNN.out _ HE1.out).mono ?_
        rintro e w2 ⟨rfl, b2⟩
        have HE2 := Lib.hid (HE1.out.later b2)
        go_wp2_with fail
        refine (HRN.out _ HE2.out).mono ?_
        rintro e w3 ⟨rfl, b3⟩
        have HE3 := Lib.hid (HE2.out.later b3)
        go_wp2_with fail
        refine (wakes_any _ HE3.out).mono ?_
        rintro e w4 ⟨rfl, b4⟩
        go_wp2_with fail
        go_ret
        exact ⟨rfl, Later.then (Later.then (Later.then b1 b2) b3) b4⟩
end Go.Proofs.YtcmkfjepikncnaaDoor
