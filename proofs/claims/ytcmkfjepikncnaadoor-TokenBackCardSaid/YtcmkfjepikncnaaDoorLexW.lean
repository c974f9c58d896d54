/- token: a word. -/
import Derived.Test.YtcmkfjepikncnaaDoorLexS
namespace Go.Proofs.YtcmkfjepikncnaaDoor
open Go.ChangeShapes Go.WideShapes Go.ChangeAt Go.RowKit Go.Shelf
set_option linter.unusedVariables false
set_option linter.unusedSimpArgs false
set_option maxHeartbeats 4000000 in
set_option maxRecDepth 100000 in
theorem word_any (s : ByteArray) (g at_ : Nat) (w : World) (hL : Blk w g 38 (lexV s at_)) (c : UInt8) (r : List UInt8) (hd : s.data.toList.drop at_ = c :: r) (hc : letterB c = true) (hs : s.size ≤ 4294967280) :
    Calls Tryd.prog 33 #[.pointer (some ⟨g, 0, none⟩)] w (readP s g at_ w (oneL (c :: r))) := by
  have ha : at_ ≤ s.size := by
    rcases Nat.lt_or_ge s.size at_ with h | h
    · rw [List.drop_eq_nil_of_le (by simp; omega)] at hd; cases hd
    · exact h
  have hone : oneL (c :: r) = if ((c :: r).takeWhile wordB).length ≤ 32 then .ok (⟨1, ((c :: r).takeWhile wordB).map lowB, 0⟩, (c :: r).dropWhile wordB) else .error 2 := by
    simp only [oneL, if_pos hc]
  rw [hone, ← hd, ← far_len]
  have HDR := Lib.hid hd
  clear hd hone
  obtain ⟨c0, c1⟩ := lex_cells hL
  have hlt := hL.lt
  have hle := farN_le wordB s.data.toList at_ (by simpa using ha)
  have hge := farN_ge wordB s.data.toList at_
  have HE := Lib.hid (extract_far wordB s at_)
  have HR := Lib.hid (far_rest wordB s ha)
  simp at hle
  by_cases hl : farN wordB s.data.toList at_ - at_ ≤ 32
  · rw [if_pos hl]
    go_enter Tryd.func33, Tryd.ntmps33
    go_wp2_with fail
    refine (far_any word_asks s at_ at_ g _ (hL.alloc _) ha hs).mono ?_
    rintro e w' ⟨rfl, rfl⟩
    generalize hk : farN wordB s.data.toList at_ = k at *
    have HK := Lib.hid hk
    clear hk
    have g1 := decide_eq_false (show ¬ (32 : Int) < (k : Int) - at_ by omega)
    go_wp2_with fail
    have HX1 := Lib.hid (show (s.extract at_ k).size ≤ 4294967280 by rw [ByteArray.size_extract]; omega)
    have HX2 := Lib.hid (show ∀ c ∈ (s.extract at_ k).data.toList, wordB c = true by rw [HE.out]; exact tw_word _)
    have HA := Lib.hid (hL.alloc (.cells #[.int .u8 0, .string ⟨#[]⟩, .int .i64 0, .int .i64 0] 31))
    have bb := later_new w (.cells #[.int .u8 0, .string ⟨#[]⟩, .int .i64 0, .int .i64 0] 31)
    have HZ := Lib.hid (Blk.new w 31 #[.int .u8 0, .string ⟨#[]⟩, .int .i64 0, .int .i64 0])
    have hne : w.heap.size ≠ g := by omega
    go_region_with (first
      | (go_at_call 44; refine (toLower_word HX1.out HX2.out _).mono ?_; rintro e w1 ⟨rfl, b1⟩)
      | (go_at_call 43; refine (found_any s g at_ k _ _ _ _ _ (HA.out.drew.later b1)).mono ?_; rintro e w2 ⟨rfl, hat⟩; obtain ⟨z0, z1, z2, z3, y0, y1, y2, y3⟩ := four_facts (hat.other (HZ.out.drew.later b1) hne)))
    all_goals
      go_wp2_with fail
      refine bodyPost_ret (v := .tuple #[.agg #[.int .u8 1, .string ⟨((s.extract at_ k).data.toList.map lowB).toArray⟩, .int .i64 0, .int .i64 at_], .int .i64 0]) ?_ rfl ?_
      · simp [results, Tryd.results33, go_sem, z0, z1, z2, z3]
      · rw [HE.out]
        refine ⟨rfl, ?_⟩
        show At s g w (s.size - _) _
        rw [HR.out]
        exact (((((((At.refl hL).later bb).later (Below.refl _ _).drew).later b1).trans hat).far (Nat.le_refl _) hne 0 _).far (Nat.le_refl _) hne 1 _ |>.far (Nat.le_refl _) hne 2 _ |>.far (Nat.le_refl _) hne 3 _)
  · rw [if_neg hl]
    go_enter Tryd.func33, Tryd.ntmps33
    go_wp2_with fail
    refine (far_any word_asks s at_ at_ g _ (hL.alloc _) ha hs).mono ?_
    rintro e w' ⟨rfl, rfl⟩
    generalize hk : farN wordB s.data.toList at_ = k at *
    have HK := Lib.hid hk
    clear hk
    have g1 := decide_eq_true (show (32 : Int) < (k : Int) - at_ by omega)
    go_wp2_with fail
    refine bodyPost_ret (v := .tuple #[.agg #[.int .u8 0, .string ⟨#[]⟩, .int .i64 0, .int .i64 0], .int .i64 2]) ?_ rfl ⟨rfl, ?_⟩
    · simp [results, Tryd.results33, go_sem]
    · exact (At.refl hL).later ((Below.refl _ _).alloc (Nat.le_refl _) _)
end Go.Proofs.YtcmkfjepikncnaaDoor
