/- token: TokenTells' walk. -/
import Derived.Test.YtcmkfjepikncnaaDoorWakes12
namespace Go.Proofs.YtcmkfjepikncnaaDoor
open Go.ChangeShapes Go.WideShapes Go.ChangeAt Go.RowKit Go.Shelf
set_option linter.unusedVariables false
set_option linter.unusedSimpArgs false

theorem lexL_len {n : Nat} : ∀ {f : Nat} {r : List UInt8} {l : List Tok}, lexF n f r = .ok l → l.length ≤ r.length + 1
  | 0, r, l, h => by simp [lexF] at h
  | f + 1, r, l, h => by
    have h2 := skipL_le false r
    simp only [lexF] at h
    split at h
    · injection h with h; subst h; simp
    · rename_i c r1 hs
      rw [hs] at h2
      split at h
      · cases h
      · rename_i w rest ho
        have := oneL_lt ho
        split at h
        · cases h
        · rename_i l' hl
          injection h with h; subst h
          have := lexL_len hl
          simp only [List.length_cons] at *
          omega
theorem lexL_short {s : ByteArray} {l : List Tok} (h : lexL s.data.toList = .ok l) : s.size ≤ 4096 ∧ l.length ≤ s.size + 1 := by
  unfold lexL at h
  split at h
  · cases h
  · rename_i hl
    have := lexL_len h
    simp at hl this
    omega
set_option maxHeartbeats 4000000 in
set_option maxRecDepth 100000 in
theorem tells_any (s : ByteArray) (w : World) (hE : LexEnv w) : Calls Tryd.prog 3 #[.string s] w (namePost true w) := by
  have HE := Lib.hid hE
  clear hE
  by_cases hbig : 8192 < s.size
  · go_enter Tryd.func3, Tryd.ntmps3
    go_wp2_with fail
    refine (wakes_any _ HE.out).mono ?_
    rintro e w1 ⟨rfl, b1⟩
    go_wp2_with fail
    go_ret
    exact ⟨rfl, b1⟩
  · have hs : s.size ≤ 4294967280 := by omega
    have HRN := Lib.hid (fun w4 (h : LexEnv w4) => @Reserved_any w4.heap.size s w4 (Env.mk0 h))
    have HNN := Lib.hid (fun w4 (h : LexEnv w4) => @Name_any w4.heap.size s w4 (Env.mk0 h) hs)
    have HRR := Lib.hid (rReserved_any s)
    have HRM := Lib.hid (fun w4 => rName_any s w4 hs)
    generalize hr : resB s.data.toList = R at *
    generalize hn : nameB s.data.toList = N at *
    have HR0 := Lib.hid hr
    have HN0 := Lib.hid hn
    clear hr hn
    rcases hlex : lexL s.data.toList with ⟨p, x⟩ | l
    · go_enter Tryd.func3, Tryd.ntmps3
      go_wp2_with fail
      refine (lex_err hlex HE.out hs).mono ?_
      rintro e w1 ⟨rfl, b1⟩
      go_wp2_with fail
      refine (rlex_err hlex hs).mono ?_
      rintro e w2 ⟨rfl, b2⟩
      have b12 := Later.then b1 b2
      have HE2 := Lib.hid (HE.out.later b12)
      have HLX := Lib.hid hlex
      clear hlex
      go_wp2_with fail
      refine (same_any 0 0 (.slice none 0 0) (.slice none 0 0) [] w2 (by simp) OwnF.nil OwnF.nil).mono ?_
      rintro e w3 ⟨rfl, b3⟩
      have HE3 := Lib.hid (HE2.out.later b3)
      go_wp2_with fail
      refine (HRN.out _ HE3.out).mono ?_
      rintro e w4 ⟨rfl, b4⟩
      go_wp2_with fail
      refine (HRR.out _).mono ?_
      rintro e w5 ⟨rfl, b5⟩
      have HE5 := Lib.hid ((HE3.out.later b4).later b5)
      go_wp2_with fail
      refine (HNN.out _ HE5.out).mono ?_
      rintro e w6 ⟨rfl, b6⟩
      go_wp2_with fail
      refine (HRM.out _).mono ?_
      rintro e w7 ⟨rfl, b7⟩
      have HE7 := Lib.hid ((HE5.out.later b6).later b7)
      go_wp2_with fail
      refine (wakes_any _ HE7.out).mono ?_
      rintro e w8 ⟨rfl, b8⟩
      go_wp2_with fail
      go_ret
      exact ⟨rfl, Later.then (Later.then (Later.then (Later.then (Later.then (Later.then b12 b3) b4) b5) b6) b7) b8⟩
    · have hl := (lexL_short hlex).2
      go_enter Tryd.func3, Tryd.ntmps3
      go_wp2_with fail
      refine (lex_ok hlex HE.out hs).mono ?_
      rintro e w1 ⟨A1, c1, rfl, o1, b1⟩
      have O1 := Lib.hid o1
      clear o1
      go_wp2_with fail
      refine (rlex_ok hlex hs).mono ?_
      rintro e w2 ⟨A2, c2, rfl, o2, b2⟩
      have b12 := Later.then b1 b2
      have HE2 := Lib.hid (HE.out.later b12)
      have HLX := Lib.hid hlex
      have O2 := Lib.hid o2
      clear hlex o2
      go_wp2_with fail
      refine (same_any _ _ _ _ l w2 (by omega) (O1.out.later b2) O2.out).mono ?_
      rintro e w3 ⟨rfl, b3⟩
      have HE3 := Lib.hid (HE2.out.later b3)
      go_wp2_with fail
      refine (HRN.out _ HE3.out).mono ?_
      rintro e w4 ⟨rfl, b4⟩
      go_wp2_with fail
      refine (HRR.out _).mono ?_
      rintro e w5 ⟨rfl, b5⟩
      have HE5 := Lib.hid ((HE3.out.later b4).later b5)
      go_wp2_with fail
      refine (HNN.out _ HE5.out).mono ?_
      rintro e w6 ⟨rfl, b6⟩
      go_wp2_with fail
      refine (HRM.out _).mono ?_
      rintro e w7 ⟨rfl, b7⟩
      have HE7 := Lib.hid ((HE5.out.later b6).later b7)
      go_wp2_with fail
      refine (wakes_any _ HE7.out).mono ?_
      rintro e w8 ⟨rfl, b8⟩
      go_wp2_with fail
      go_ret
      exact ⟨rfl, Later.then (Later.then (Later.then (Later.then (Later.then (Later.then b12 b3) b4) b5) b6) b7) b8⟩
end Go.Proofs.YtcmkfjepikncnaaDoor
