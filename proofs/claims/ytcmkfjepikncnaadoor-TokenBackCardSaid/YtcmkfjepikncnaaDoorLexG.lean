/- token: a sign; the next word. -/
import Derived.Test.YtcmkfjepikncnaaDoorLexN
import Derived.Test.YtcmkfjepikncnaaDoorLexT
import Derived.Test.YtcmkfjepikncnaaDoorLexW
namespace Go.Proofs.YtcmkfjepikncnaaDoor
open Go.ChangeShapes Go.WideShapes Go.ChangeAt Go.RowKit Go.Shelf
set_option linter.unusedVariables false
set_option linter.unusedSimpArgs false

theorem fields_any (s : ByteArray) (l : List (List UInt8)) (hl : Lib.fields s.data.toList = l) (hs : s.size < 4294967281) (hascii : s.data.toList.all (fun b => b.toNat < 128) = true) {B : Nat} {w : World} (hE : Env B w) :
    Calls Tryd.prog 40 #[.string s] w fun e w' => e = .returned (.slice (some ⟨w.heap.size, 0, none⟩) l.length l.length) ∧ w' = w.alloc (.cells (l.map fun l => Value.string ⟨l.toArray⟩).toArray 9) := by
  refine (Tryd.strings_Fields s w hs (fun j b hb => of_decide_eq_true (List.all_eq_true.1 hascii b (List.mem_of_getElem? hb))) hE.lib.space).mono ?_
  rintro e w' ⟨rfl, rfl⟩
  rw [hl]
  exact ⟨rfl, rfl⟩
theorem drewN_more (w : World) (a b : Nat) : (w.drewN a).drewN b = w.drewN (a + b) := by simp [World.drewN, Nat.add_assoc]
def signsS : ByteArray := ⟨#[60, 62, 32, 60, 61, 32, 62, 61, 32, 40, 32, 41, 32, 44, 32, 42, 32, 43, 32, 45, 32, 47, 32, 37, 32, 61, 32, 60, 32, 62, 32, 59]⟩
theorem signs_fields : Lib.fields signsS.data.toList = signs := by decide +kernel
theorem sign_at {i : Nat} (hi : i < 15) : ∃ x, signs[i]? = some x ∧ signs.drop i = x :: signs.drop (i + 1) ∧ 1 ≤ x.length ∧ x.length ≤ 2 := by
  have key : ∀ i, i < 15 → ∃ x, signs[i]? = some x ∧ 1 ≤ x.length ∧ x.length ≤ 2 := by
    intro i hi
    match i, hi with
    | 0, _ | 1, _ | 2, _ | 3, _ | 4, _ | 5, _ | 6, _ | 7, _ | 8, _ | 9, _ | 10, _ | 11, _ | 12, _ | 13, _ | 14, _ => exact ⟨_, rfl, by decide, by decide⟩
    | n + 15, h => omega
  obtain ⟨x, h1, h2, h3⟩ := key i hi
  refine ⟨x, h1, ?_, h2, h3⟩
  have hlt : i < signs.length := hi
  rw [List.drop_eq_getElem_cons hlt]
  rw [List.getElem?_eq_getElem hlt] at h1
  injection h1 with h1
  rw [h1]
set_option maxHeartbeats 4000000 in
set_option maxRecDepth 100000 in
theorem sign_any (B : Nat) (s : ByteArray) (g at_ : Nat) (w : World) (hE : Env B w) (hB : B ≤ g) (hL : Blk w g 38 (lexV s at_)) (c : UInt8) (r : List UInt8) (hd : s.data.toList.drop at_ = c :: r) (h1 : letterB c = false) (h2 : digitB c = false) (h3 : c ≠ 39) (hs : s.size ≤ 4294967280) :
    Calls Tryd.prog 37 #[.pointer (some ⟨g, 0, none⟩)] w (readP s g at_ w (oneL (c :: r))) := by
  have ha : at_ < s.size := by
    rcases Nat.lt_or_ge at_ s.size with h | h
    · exact h
    · rw [List.drop_eq_nil_of_le (by simpa using h)] at hd; cases hd
  have hone : oneL (c :: r) = match signIn signs (s.data.toList.drop at_) with
      | some x => .ok (⟨4, x, 0⟩, (s.data.toList.drop at_).drop x.length)
      | none => .error 30 := by
    rw [hd]
    simp only [oneL, h1, h2, if_neg h3]
    rfl
  obtain ⟨c0, c1⟩ := lex_cells hL
  have hlt := hL.lt
  have hne : w.heap.size ≠ g := by omega
  generalize oneL (c :: r) = R at *
  have HONE := Lib.hid hone
  clear hone hd
  go_enter Tryd.func37, Tryd.ntmps37
  go_wp2_with fail
  have bb := later_new w (.cells #[.int .u8 0, .string ⟨#[]⟩, .int .i64 0, .int .i64 0] 31)
  refine (fields_any signsS signs signs_fields (by decide +kernel) (by decide +kernel) (hE.later bb)).mono ?_
  rintro e w1 ⟨rfl, rfl⟩
  have HZ := Lib.hid ((Blk.new w 31 #[.int .u8 0, .string ⟨#[]⟩, .int .i64 0, .int .i64 0]).alloc (.cells (signs.map fun l => Value.string ⟨l.toArray⟩).toArray 9))
  have HS := Lib.hid (Blk.new (w.alloc (.cells #[.int .u8 0, .string ⟨#[]⟩, .int .i64 0, .int .i64 0] 31)) 9 (signs.map fun l => Value.string ⟨l.toArray⟩).toArray)
  have hat : At s g w at_ ((w.alloc (.cells #[.int .u8 0, .string ⟨#[]⟩, .int .i64 0, .int .i64 0] 31)).alloc (.cells (signs.map fun l => Value.string ⟨l.toArray⟩).toArray 9)) := (At.refl hL).later (((Below.refl _ _).alloc (Nat.le_refl _) _).alloc (by simp) _)
  generalize hb : (w.alloc (.cells #[.int .u8 0, .string ⟨#[]⟩, .int .i64 0, .int .i64 0] 31)).heap.size = b at *
  obtain rfl : b = w.heap.size + 1 := by rw [← hb]; simp
  generalize (w.alloc (.cells #[.int .u8 0, .string ⟨#[]⟩, .int .i64 0, .int .i64 0] 31)).alloc (.cells (signs.map fun l => Value.string ⟨l.toArray⟩).toArray 9) = W at *
  clear c0 c1 hb
  have HAT := Lib.hid hat
  have hlen : signs.length = 15 := rfl
  rw [hlen]
  clear hlen hat
  go_wp2_with fail
  go_loopw [8] (fun u wr => ∃ i n : Nat, i ≤ 15 ∧ u = .int .i64 i ∧ wr = W.drewN n ∧ signIn signs (s.data.toList.drop at_) = signIn (signs.drop i) (s.data.toList.drop at_)) (fun u _ => 15 - (intOf u).toNat)
  case atStart => exact ⟨0, 0, by omega, rfl, rfl, rfl⟩
  case round =>
    obtain ⟨i, n, hi, rfl, rfl, hsg⟩ := hrel
    have HSG := Lib.hid hsg
    clear hsg
    by_cases hlt15 : i < 15
    · obtain ⟨x, hx, hdx, hx1, hx2⟩ := sign_at hlt15
      have hcell : (W.drewN n).cell? ⟨w.heap.size + 1, i, none⟩ = some (.string ⟨x.toArray⟩) := by
        rw [(HS.out.drewN n).cell i]
        simp [hx]
      have HATn := Lib.hid (HAT.out.later (drewN_below W n))
      have HZn := Lib.hid (HZ.out.drewN n)
      obtain ⟨c0, c1⟩ := lex_cells HATn.out.1
      generalize hWn : W.drewN n = Wn at *
      have HWN := Lib.hid hWn
      have HX := Lib.hid hx
      have HDX := Lib.hid hdx
      clear hWn hx hdx
      cases hp : Lib.hasPrefix (s.data.toList.drop at_) x
      · have HP := Lib.hid hp
        clear hp
        go_wp2_with fail
        go_quiet ((go_at_call 31; exact Calls.quiet_of_same (prefix_is HP.out _)))
        go_wp2_with fail
        go_roundw
        case rel =>
          refine ⟨i + 1, n + nq, by omega, by go_num, ?_, ?_⟩
          · rw [← HWN.out]
            exact drewN_more W n nq
          · rw [HSG.out, HDX.out, signIn, if_neg]
            have := HP.out
            simp only [Lib.hasPrefix] at this
            rw [this]; decide
        case measure => simp [intOf]; omega
      · have HP := Lib.hid hp
        clear hp
        go_wp2_with fail
        go_quiet ((go_at_call 31; exact Calls.quiet_of_same (prefix_is HP.out _)))
        have HATq := Lib.hid (HATn.out.later (drewN_below Wn nq))
        have HZq := Lib.hid (HZn.out.drewN nq)
        generalize Wn.drewN nq = Wq at *
        clear c0 c1 hcell
        obtain ⟨c0, c1⟩ := lex_cells HATq.out.1
        go_wp2_with fail
        have hcast : ((at_ : Int) + (x.length : Int)) = ((at_ + x.length : Nat) : Int) := by omega
        rw [hcast]
        refine (found_any s g at_ (at_ + x.length) 4 ⟨x.toArray⟩ 0 0 _ HATq.out.1).mono ?_
        rintro e w2 ⟨rfl, hat2⟩
        obtain ⟨z0, z1, z2, z3, y0, y1, y2, y3⟩ := four_facts (hat2.other HZq.out hne)
        clear hcast
        go_wp2_with fail
        refine bodyPost_ret (v := .tuple #[.agg #[.int .u8 4, .string ⟨x.toArray⟩, .int .i64 0, .int .i64 at_], .int .i64 0]) ?_ rfl ?_
        · simp [results, Tryd.results37, go_sem, z0, z1, z2, z3]
        · have e1 : signIn signs (s.data.toList.drop at_) = some x := by
            rw [HSG.out, HDX.out, signIn, if_pos]
            exact HP.out
          rw [HONE.out, e1]
          refine ⟨rfl, ?_⟩
          show At s g w (s.size - _) _
          have e2 : s.size - ((s.data.toList.drop at_).drop x.length).length = at_ + x.length := by
            have h4 : x.length ≤ (s.data.toList.drop at_).length := by
              have := HP.out
              simp only [Lib.hasPrefix, List.isPrefixOf_iff_prefix] at this
              exact this.length_le
            rw [List.length_drop] at h4 ⊢
            simp at h4 ⊢
            omega
          rw [e2]
          exact (((HATq.out.trans hat2).far (Nat.le_refl _) hne 0 _).far (Nat.le_refl _) hne 1 _ |>.far (Nat.le_refl _) hne 2 _ |>.far (Nat.le_refl _) hne 3 _)
    · obtain rfl : i = 15 := by omega
      have HATn := Lib.hid (HAT.out.later (drewN_below W n))
      have HZn := Lib.hid (HZ.out.drewN n)
      generalize W.drewN n = Wn at *
      obtain ⟨z0, z1, z2, z3, y0, y1, y2, y3⟩ := four_facts HZn.out
      go_wp2_with fail
      refine bodyPost_ret (v := .tuple #[.agg #[.int .u8 0, .string ⟨#[]⟩, .int .i64 0, .int .i64 0], .int .i64 30]) ?_ rfl ?_
      · simp [results, Tryd.results37, go_sem, z0, z1, z2, z3]
      · rw [HONE.out, HSG.out]
        exact ⟨rfl, (((HATn.out.far (Nat.le_refl _) hne 0 _).far (Nat.le_refl _) hne 1 _ |>.far (Nat.le_refl _) hne 2 _ |>.far (Nat.le_refl _) hne 3 _))⟩
end Go.Proofs.YtcmkfjepikncnaaDoor
