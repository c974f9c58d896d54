/- token: the document's Lex; Same. -/
import Derived.Test.YtcmkfjepikncnaaDoorRefG
import Derived.Test.YtcmkfjepikncnaaDoorLexR
import Derived.Test.YtcmkfjepikncnaaDoorOwnC
namespace Go.Proofs.YtcmkfjepikncnaaDoor
open Go.ChangeShapes Go.WideShapes Go.ChangeAt Go.RowKit Go.Shelf
set_option linter.unusedVariables false
set_option linter.unusedSimpArgs false

structure RLexAt (s : ByteArray) (w : World) (a : Nat) (v : Value) (acc : List Tok) (wr : World) : Prop where
  bel : Below w.heap.size w wr
  own : TokS wr w.heap.size v acc
  le : a ≤ s.size
  len : acc.length ≤ a
  skip : skipL false (s.data.toList.drop a) = s.data.toList.drop a
  more : LX s.size s.data.toList = pre acc (LX s.size (s.data.toList.drop a))
set_option maxHeartbeats 4000000 in
set_option maxRecDepth 100000 in
theorem rlex_any (s : ByteArray) (w : World) (hs : s.size ≤ 4294967280) : Calls Tryd.prog 10 #[.string s] w (lexPost s w) := by
  by_cases hbig : 4096 < s.size
  · unfold lexPost
    rw [lexL_big hbig]
    go_enter Tryd.func10, Tryd.ntmps10
    go_wp2_with fail
    go_ret3
    exact ⟨rfl, Below.refl _ _⟩
  · have HPO := Lib.hid (lexL_LX hbig)
    have HLEN := Lib.hid (show s.data.toList.length = s.size by simp)
    go_enter Tryd.func10, Tryd.ntmps10
    go_wp2_with fail
    refine (blank_any s 0 _ (Nat.zero_le _) hs).mono ?_
    rintro e w1 ⟨rfl, rfl⟩
    have hA : RLexAt s w (skipAt s 0) (.slice none 0 0) [] w := by
      refine ⟨Below.refl _ _, OwnF.nil, skipAt_le _ _, Nat.zero_le _, ?_, ?_⟩
      · rw [skipAt_drop]
        exact skip_idem _ _
      · rw [skipAt_drop, LX_skip, pre_nil]; rfl
    generalize skipAt s 0 = a0 at *
    have HA := Lib.hid hA
    clear hA
    go_wp2_with fail
    go_loopw [5, 6] (fun x y wr => ∃ (a : Nat) (acc : List Tok) (u : Value), x = u ∧ y = .int .i64 a ∧ RLexAt s w a u acc wr) (fun _ y _ => s.size - (intOf y).toNat)
    case atStart => exact ⟨a0, [], _, rfl, rfl, HA.out⟩
    case round =>
      obtain ⟨a, acc, u, hu, rfl, hA⟩ := hrel
      have hu2 := hu.symm
      clear hu
      subst hu2
      have hltg := hA.bel.size
      have hacc := hA.len
      have hae := hA.le
      have HA2 := Lib.hid hA
      clear hA
      by_cases ha : a < s.size
      · go_wp2_with fail
        refine (one_any s a _ ha hs).mono ?_
        intro e w2 hp
        have HB := Lib.hid (byte_at s a ha)
        rcases hres : oneL (s.data.toList.drop a) with x | ⟨d, rest⟩
        · rw [hres] at hp
          obtain ⟨rfl, hb⟩ := hp
          have hx := oneL_err hres
          have HRES := Lib.hid hres
          have n1 : ((x : Int) == 0) = false := by rcases hx with rfl | rfl <;> rfl
          have n2 : ((x : Int) != 0) = true := by rcases hx with rfl | rfl <;> rfl
          have n3 : ¬ ((x : Int) = 0) := by omega
          clear hres
          go_wp2_with fail
          go_ret3
          unfold lexPost
          rw [HPO.out, HA2.out.more, LX_err (by rw [HA2.out.skip]; exact drop_at HB.out) (by rw [← drop_at HB.out]; exact HRES.out)]
          have e1 : s.size - (s[a] :: s.data.toList.drop (a + 1)).length = a := by
            rw [← drop_at HB.out, List.length_drop, HLEN.out]; omega
          rw [e1]
          exact ⟨rfl, HA2.out.bel.trans ((hb.mono hltg).trans ((later_new w2 _).mono (by have := hb.size; omega)))⟩
        · rw [hres] at hp
          obtain ⟨rfl, hb⟩ := hp
          have HRES := Lib.hid hres
          clear hres
          have bW := ((Below.refl w2.heap.size w2).alloc (Nat.le_refl _) (.cells (tokC ⟨d, a⟩).toArray 31)).alloc (by simp) (.cells (tokC ⟨d, a⟩).toArray 31)
          have hown : TokS w2 w.heap.size u acc := HA2.out.own.later hb
          have HO := Lib.hid (hown.later bW)
          have hG : Blk ((w2.alloc (.cells (tokC ⟨d, a⟩).toArray 31)).alloc (.cells (tokC ⟨d, a⟩).toArray 31)) (w2.heap.size + 1) 31 (tokC ⟨d, a⟩).toArray := by
            have := Blk.new (w2.alloc (.cells (tokC ⟨d, a⟩).toArray 31)) 31 (tokC ⟨d, a⟩).toArray
            simpa using this
          have HG := Lib.hid hG
          have bel2 : Below w.heap.size w ((w2.alloc (.cells (tokC ⟨d, a⟩).toArray 31)).alloc (.cells (tokC ⟨d, a⟩).toArray 31)) := HA2.out.bel.trans ((hb.mono hltg).trans (bW.mono (by have := hb.size; omega)))
          have HBEL := Lib.hid bel2
          clear hown hG bel2 bW hb
          have hrs : rest <:+ s.data.toList := (oneL_suffix HRES.out).trans (List.drop_suffix _ _)
          have hq : s.data.toList.drop (s.size - rest.length) = rest := by
            have := drop_suffix hrs
            rwa [HLEN.out] at this
          have hlt5 : rest.length < s.size - a := by
            have := oneL_lt HRES.out
            rwa [List.length_drop, HLEN.out] at this
          have HQ := Lib.hid hq
          have hge4 : s.size - rest.length ≤ skipAt s (s.size - rest.length) := by
            unfold skipAt
            rw [HQ.out]
            have := skipL_le false rest
            omega
          clear hq hrs
          unfold tokC at HG HO HBEL
          go_wp2_with (first
            | (at_builtin
               refine wpList_append_one rfl (.tmp 30) (.tmp 32) 23 rfl _ 40 Tryd.underlying23 tok_info rfl (by omega) ⟨d, a⟩ rfl (by simp [tokC, Value.oneCell']) rfl HO.out (w2.heap.size + 1) rfl HG.out (by omega) (by omega) HBEL.out.size ?_
               intro v2 w3 o2 g2
               have b2 := below_own HO.out g2 HBEL.out.size
               have O2 := Lib.hid o2
               have B2 := Lib.hid (HBEL.out.trans b2)
               clear o2 g2 HO HG b2 HBEL))
          refine (blank_any s (s.size - rest.length) _ (Nat.sub_le _ _) hs).mono ?_
          rintro e w4 ⟨rfl, rfl⟩
          go_wp2_with fail
          go_roundw
          case rel =>
            refine ⟨skipAt s (s.size - rest.length), acc ++ [Tok.mk d a], v2, rfl, rfl, B2.out, O2.out, skipAt_le _ _, ?_, ?_, ?_⟩
            · rw [List.length_append, List.length_singleton]; omega
            · rw [skipAt_drop]; exact skip_idem _ _
            · have e1 : s.size - (s[a] :: s.data.toList.drop (a + 1)).length = a := by
                rw [← drop_at HB.out, List.length_drop, HLEN.out]; omega
              rw [HA2.out.more, LX_ok (by rw [List.length_drop, HLEN.out]; omega) (by rw [HA2.out.skip]; exact drop_at HB.out) (by rw [← drop_at HB.out]; exact HRES.out), e1, pre_pre, skipAt_drop, LX_skip, HQ.out]
          case measure =>
            have := skipAt_le s (s.size - rest.length)
            simp [intOf]; omega
      · have hnil : s.data.toList.drop a = [] := List.drop_eq_nil_of_le (by rw [HLEN.out]; omega)
        have HNIL := Lib.hid hnil
        clear hnil
        have bW := (Below.refl wr.heap.size wr).alloc (Nat.le_refl _) (.cells (tokC (endT s.size)).toArray 31)
        have HO := Lib.hid (HA2.out.own.later bW)
        have HG := Lib.hid (Blk.new wr 31 (tokC (endT s.size)).toArray)
        have HBEL := Lib.hid (HA2.out.bel.trans (bW.mono hltg))
        clear bW
        unfold tokC endT at HG HO HBEL
        go_wp2_with (first
          | (at_builtin
             refine wpList_append_one rfl (.tmp 37) (.tmp 41) 23 rfl _ 40 Tryd.underlying23 tok_info rfl (by omega) (endT s.size) rfl (by simp [tokC, Value.oneCell']) rfl HO.out wr.heap.size rfl HG.out (by omega) (by omega) HBEL.out.size ?_
             intro v2 w3 o2 g2
             have b2 := below_own HO.out g2 HBEL.out.size
             have O2 := Lib.hid o2
             have B2 := Lib.hid (HBEL.out.trans b2)
             clear o2 g2 HO HG b2 HBEL))
        go_ret3
        unfold lexPost
        rw [HPO.out, HA2.out.more, HNIL.out, LX_nil rfl]
        exact ⟨v2, rfl, O2.out, B2.out⟩
end Go.Proofs.YtcmkfjepikncnaaDoor
