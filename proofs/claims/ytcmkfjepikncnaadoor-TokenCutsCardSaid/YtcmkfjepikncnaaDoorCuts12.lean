/- token: TokenCuts. -/
import Derived.Test.YtcmkfjepikncnaaDoorJoins12
namespace Go.Proofs.YtcmkfjepikncnaaDoor
open Go.ChangeShapes Go.WideShapes Go.ChangeAt Go.RowKit Go.Shelf
set_option linter.unusedVariables false
set_option linter.unusedSimpArgs false

theorem semi_list (s : ByteArray) : (s ++ ⟨#[10, 59]⟩).data.toList = s.data.toList ++ [10, 59] := by simp
theorem cut_list (s : ByteArray) (p : Nat) : (s.extract 0 p).data.toList = s.data.toList.take p := by
  rw [extract_list]; simp
theorem cut3_list (s : ByteArray) (p : Nat) : (s.extract 0 p ++ ⟨#[32, 59, 32]⟩ ++ s.extract p s.size).data.toList = s.data.toList.take p ++ (32 :: 59 :: 32 :: s.data.toList.drop p) := by
  rw [ByteArray.data_append, ByteArray.data_append, Array.toList_append, Array.toList_append, cut_list, extract_end]
  simp
set_option maxHeartbeats 4000000 in
set_option maxRecDepth 100000 in
theorem cuts_any (s : ByteArray) (w : World) (hE : LexEnv w) : Calls Tryd.prog 5 #[.string s] w (namePost true w) := by
  have HE := Lib.hid hE
  clear hE
  by_cases hb1 : 1000 < s.size
  · go_enter Tryd.func5, Tryd.ntmps5
    go_wp2_with fail
    refine (wakes_any _ HE.out).mono ?_
    rintro e w1 ⟨rfl, b1⟩
    go_wp2_with fail
    go_ret
    exact ⟨rfl, b1⟩
  have hs : s.size ≤ 1000 := by omega
  have HSL := Lib.hid (show s.data.toList.length = s.size by simp)
  clear hb1
  rcases hlex : lexL s.data.toList with ⟨p, x⟩ | a
  · obtain ⟨hp, hx, ⟨l0, hl0⟩, hcut⟩ := cut_ok (by rw [HSL.out]; omega) hlex
    rw [HSL.out] at hp
    rw [← cut_list] at hl0
    rw [← cut3_list] at hcut
    have HLX := Lib.hid hlex
    have HL0 := Lib.hid hl0
    have HCUT := Lib.hid hcut
    have hl0s : l0.length ≤ 5000 := by
      have := (lexL_short hl0).2
      have h2 := (lexL_short hl0).1
      simp at this
      omega
    have hz1 : (s.extract 0 p).size ≤ 4294967280 := by rw [ByteArray.size_extract]; omega
    have hz2 : (s.extract 0 p ++ ⟨#[32, 59, 32]⟩ ++ s.extract p s.size).size ≤ 4294967280 := by
      rw [ByteArray.size_append, ByteArray.size_append, ByteArray.size_extract, ByteArray.size_extract]
      have : (⟨#[32, 59, 32]⟩ : ByteArray).size = 3 := rfl
      omega
    have hlen : (l0 ++ [endTok p]).length = l0.length + 1 := by simp
    have hlast : (l0 ++ [endTok p])[l0.length]? = some (endTok p) := by simp
    have HLEN := Lib.hid hlen
    have HLAST := Lib.hid hlast
    generalize hnl : l0.length = nl at *
    generalize l0 ++ [endTok p] = l at *
    clear hlex hl0 hcut hlen hlast hnl
    go_enter Tryd.func5, Tryd.ntmps5
    go_wp2_with fail
    refine (lex_err HLX.out HE.out (by omega)).mono ?_
    rintro e w1 ⟨rfl, b1⟩
    have HE1 := Lib.hid (HE.out.later b1)
    rcases hx with rfl | rfl
    all_goals
      go_wp2_with fail
      refine (lex_ok HL0.out HE1.out hz1).mono ?_
      rintro e w2 ⟨A2, c2, rfl, o2, b2⟩
      rw [HLEN.out] at o2 ⊢
      have HE2 := Lib.hid (HE1.out.later b2)
      obtain ⟨g, hA, _, _, hcells⟩ := TokS.cells o2 (by intro e; have := HLEN.out; rw [e] at this; simp at this)
      subst hA
      obtain ⟨p0, p1, p2, p3⟩ := hcells nl _ HLAST.out
      simp only [endTok] at p3
      clear hcells o2 p0 p1 p2
      have B12 := Lib.hid (Later.then b1 b2)
      go_wp2_with fail
      refine region_cut 16 w2.heap.size _ (Below.refl _ _) (by kernel_rfl) (by kernel_rfl) (by kernel_rfl) (by kernel_rfl) ?_
      simp only [List.take_succ_cons, List.take_zero, List.drop_succ_cons, List.drop_zero]
      repeat (go_big_quiet_step ((go_at_call 9; exact calls_later (Nat.le_refl _) (lex_err HCUT.out (HE2.out.later (Ext.h _)) hz2))))
      refine wpQuiet_nil ?_
      rintro W ⟨y, hy⟩
      have hW := y.h
      rw [← hy] at hW
      clear hy y
      have HW := Lib.hid hW
      have p3' : W.cell? ⟨g, nl * 4 + 3, none⟩ = some (.int .i64 p) := (hW.cell (p := ⟨g, nl * 4 + 3, none⟩) (cell_lt p3)).trans p3
      have hcast : ((p + 3 : Nat) : Int) = (p : Int) + 3 := by omega
      rw [hcast]
      have d2 : (((nl + 1 : Nat) : Int) - 1) = (nl : Int) := by omega
      clear hcast p3 hW
      go_wp2_with fail
      refine (wakes_any _ (HE2.out.later HW.out)).mono ?_
      rintro e w4 ⟨rfl, b4⟩
      go_wp2_with fail
      go_ret
      exact ⟨rfl, Later.then (Later.then B12.out HW.out) b4⟩
  · have HLX := Lib.hid hlex
    have hsm := semi_ok hlex (by rw [HSL.out]; omega)
    rw [← semi_list] at hsm
    have ha1 := (lexL_short hlex).2
    obtain ⟨na, hna⟩ := lexL_ne hlex
    have hlen : (a.dropLast ++ [⟨⟨4, [59], 0⟩, s.data.toList.length + 1⟩, endTok (s.data.toList.length + 2)]).length = na + 2 := by simp [hna]
    have hat : (a.dropLast ++ [⟨⟨4, [59], 0⟩, s.data.toList.length + 1⟩, endTok (s.data.toList.length + 2)])[na]? = some ⟨⟨4, [59], 0⟩, s.data.toList.length + 1⟩ := by
      have hd : a.dropLast.length = na := by simp [hna]
      rw [List.getElem?_append_right (by omega), hd]
      simp
    have HSM := Lib.hid hsm
    have HLEN := Lib.hid hlen
    have HAT := Lib.hid hat
    rw [hna] at ha1
    generalize a.dropLast ++ [⟨⟨4, [59], 0⟩, s.data.toList.length + 1⟩, endTok (s.data.toList.length + 2)] = c at *
    clear hlex hsm hlen hat hna
    have hz : (s ++ ⟨#[10, 59]⟩).size ≤ 4294967280 := by
      rw [ByteArray.size_append]
      have : (⟨#[10, 59]⟩ : ByteArray).size = 2 := rfl
      omega
    go_enter Tryd.func5, Tryd.ntmps5
    go_wp2_with fail
    refine (lex_ok HLX.out HE.out (by omega)).mono ?_
    rintro e w1 ⟨A1, c1, rfl, o1, b1⟩
    have HE1 := Lib.hid (HE.out.later b1)
    clear o1
    go_wp2_with fail
    refine (lex_ok HSM.out HE1.out hz).mono ?_
    rintro e w2 ⟨A2, c2, rfl, o2, b2⟩
    rw [HLEN.out] at o2 ⊢
    have HE2 := Lib.hid (HE1.out.later b2)
    obtain ⟨g, hA, _, _, hcells⟩ := TokS.cells o2 (by intro e; have := HLEN.out; rw [e] at this; simp at this)
    subst hA
    obtain ⟨p0, p1, p2, p3⟩ := hcells na _ HAT.out
    clear hcells o2 p0 p2 p3
    simp only at p1
    have d2 : (((na + 2 : Nat) : Int) - 2) = (na : Int) := by omega
    go_wp2_with fail
    refine (wakes_any _ HE2.out).mono ?_
    rintro e w3 ⟨rfl, b3⟩
    go_wp2_with fail
    go_ret
    exact ⟨rfl, Later.then (Later.then b1 b2) b3⟩
end Go.Proofs.YtcmkfjepikncnaaDoor
