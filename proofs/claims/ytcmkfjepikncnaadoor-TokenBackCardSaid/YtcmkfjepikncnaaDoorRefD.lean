/- token: the document's next word. -/
import Derived.Test.YtcmkfjepikncnaaDoorRefC
namespace Go.Proofs.YtcmkfjepikncnaaDoor
open Go.ChangeShapes Go.WideShapes Go.ChangeAt Go.RowKit Go.Shelf
set_option linter.unusedVariables false
set_option linter.unusedSimpArgs false

/-- what the document's one answers -/
def oneP (s : ByteArray) (at_ : Nat) (w : World) (r : Except Nat (Wd × List UInt8)) (e : Ending) (w' : World) : Prop :=
  match r with
  | .ok (d, rest) => e = .returned (.tuple #[.agg #[.int .u8 d.k, .string ⟨d.s.toArray⟩, .int .i64 d.n, .int .i64 at_], .int .i64 (s.size - rest.length : Nat), .int .i64 0]) ∧ Below w.heap.size w w'
  | .error x => e = .returned (.tuple #[.agg #[.int .u8 0, .string ⟨#[]⟩, .int .i64 0, .int .i64 0], .int .i64 0, .int .i64 x]) ∧ Below w.heap.size w w'
theorem far4 {B : Nat} {w w' : World} (h : Below B w w') {q : Nat} (hq : B ≤ q) (a b c d : Value) : Below B w ((((w'.setCell ⟨q, 0, none⟩ a).setCell ⟨q, 1, none⟩ b).setCell ⟨q, 2, none⟩ c).setCell ⟨q, 3, none⟩ d) :=
  (((h.setCell (p := ⟨q, 0, none⟩) hq a).setCell (p := ⟨q, 1, none⟩) hq b).setCell (p := ⟨q, 2, none⟩) hq c).setCell (p := ⟨q, 3, none⟩) hq d
theorem bel4 {w w' : World} {t : TypeId} (o : Array Value) (hb : Below (w.heap.size + 1) (w.alloc (.cells o t)) w') (a b c d : Value) : Below w.heap.size w ((((w'.setCell ⟨w.heap.size, 0, none⟩ a).setCell ⟨w.heap.size, 1, none⟩ b).setCell ⟨w.heap.size, 2, none⟩ c).setCell ⟨w.heap.size, 3, none⟩ d) :=
  far4 ((later_new w _).trans (hb.mono (by omega))) (Nat.le_refl _) a b c d
set_option maxHeartbeats 4000000 in
set_option maxRecDepth 100000 in
theorem one_word (s : ByteArray) (at_ : Nat) (w : World) (ha : at_ < s.size) (hc : letterB s[at_] = true) (hs : s.size ≤ 4294967280) :
    Calls Tryd.prog 20 #[.string s, .int .i64 at_] w (oneP s at_ w (oneL (s.data.toList.drop at_))) := by
  have hd := drop_at (byte_at s at_ ha)
  have hone : oneL (s.data.toList.drop at_) = if farN wordB s.data.toList at_ - at_ ≤ 32 then .ok (⟨1, ((s.data.toList.drop at_).takeWhile wordB).map lowB, 0⟩, (s.data.toList.drop at_).dropWhile wordB) else .error 2 := by
    rw [far_len, hd]
    simp only [oneL, if_pos hc]
  generalize oneL (s.data.toList.drop at_) = R at *
  have HONE := Lib.hid hone
  have HC := Lib.hid hc
  have HLEN := Lib.hid (show s.data.toList.length = s.size by simp)
  clear hone hd hc
  go_enter Tryd.func20, Tryd.ntmps20
  go_wp2_with (go_at_call 25; refine (rletter_any s[at_] _).mono ?_; rintro e w' ⟨rfl, rfl⟩; rw [HC.out])
  have HZ := Lib.hid (Blk.new w 31 #[.int .u8 0, .string ⟨#[]⟩, .int .i64 0, .int .i64 0])
  have bb := later_new w (.cells #[.int .u8 0, .string ⟨#[]⟩, .int .i64 0, .int .i64 0] 31)
  have hsz : (w.alloc (.cells #[.int .u8 0, .string ⟨#[]⟩, .int .i64 0, .int .i64 0] 31)).heap.size = w.heap.size + 1 := by simp
  generalize w.alloc (.cells #[.int .u8 0, .string ⟨#[]⟩, .int .i64 0, .int .i64 0] 31) = W at *
  have HSZ := Lib.hid hsz
  clear hsz
  go_loop [8] (fun u => ∃ k : Nat, at_ ≤ k ∧ k ≤ s.size ∧ u = .int .i64 k ∧ farN wordB s.data.toList at_ = farN wordB s.data.toList k) (fun u => s.size - (intOf u).toNat)
  case atStart => exact ⟨at_, Nat.le_refl _, by omega, rfl, rfl⟩
  case round =>
    obtain ⟨k, hk1, hk2, rfl, hf⟩ := hrel
    have HF := Lib.hid hf
    clear hf
    by_cases hlt : k < s.size
    · have HB := Lib.hid (byte_at s k hlt)
      cases hl : letterB s[k]
      · have HL := Lib.hid hl
        cases hd : digitB s[k]
        · have HD := Lib.hid hd
          have HFE := Lib.hid (show farN wordB s.data.toList at_ = k by rw [HF.out]; exact farN_no HB.out (by simp [wordB, hl, hd]))
          clear hl hd
          by_cases h32 : k - at_ ≤ 32
          · have n1 := decide_eq_false (show ¬ (32 : Int) < (k : Int) - at_ by omega)
            go_wp2_with (first
                     | (go_at_call 25; refine (rletter_any s[k] _).mono ?_; rintro e w' ⟨rfl, rfl⟩; rw [HL.out])
                     | (go_at_call 26; refine (rdigit_any s[k] _).mono ?_; rintro e w' ⟨rfl, rfl⟩; rw [HD.out]))
            refine (small_any (s.extract at_ k) _ (by rw [ByteArray.size_extract]; omega)).mono ?_
            rintro e w1 ⟨rfl, b1⟩
            have HE := Lib.hid (show (s.extract at_ k).data.toList = (s.data.toList.drop at_).takeWhile wordB by rw [← HFE.out]; exact extract_far wordB s at_)
            obtain ⟨z0, z1, z2, z3, y0, y1, y2, y3⟩ := four_facts (HZ.out.later b1)
            rw [HE.out]
            go_wp2_with fail
            refine bodyPost_ret (v := .tuple #[.agg #[.int .u8 1, .string ⟨(((s.data.toList.drop at_).takeWhile wordB).map lowB).toArray⟩, .int .i64 0, .int .i64 at_], .int .i64 k, .int .i64 0]) ?_ rfl ?_
            · simp [results, Tryd.results20, go_sem, z0, z1, z2, z3]
            · rw [HONE.out, HFE.out, if_pos h32]
              unfold oneP
              simp only
              rw [far_rest wordB s (by omega), HFE.out]
              exact ⟨rfl, far4 (bb.trans (b1.mono bb.size)) (Nat.le_refl _) _ _ _ _⟩
          · have n1 := decide_eq_true (show (32 : Int) < (k : Int) - at_ by omega)
            obtain ⟨z0, z1, z2, z3, y0, y1, y2, y3⟩ := four_facts HZ.out
            go_wp2_with (first
                     | (go_at_call 25; refine (rletter_any s[k] _).mono ?_; rintro e w' ⟨rfl, rfl⟩; rw [HL.out])
                     | (go_at_call 26; refine (rdigit_any s[k] _).mono ?_; rintro e w' ⟨rfl, rfl⟩; rw [HD.out]))
            refine bodyPost_ret (v := .tuple #[.agg #[.int .u8 0, .string ⟨#[]⟩, .int .i64 0, .int .i64 0], .int .i64 0, .int .i64 2]) ?_ rfl ?_
            · simp [results, Tryd.results20, go_sem, z0, z1, z2, z3]
            · rw [HONE.out, HFE.out, if_neg h32]
              exact ⟨rfl, far4 bb (Nat.le_refl _) _ _ _ _⟩
        · have HD := Lib.hid hd
          have HFE := Lib.hid (show farN wordB s.data.toList at_ = farN wordB s.data.toList (k + 1) by rw [HF.out]; exact farN_yes HB.out (by simp [wordB, hl, hd]))
          clear hl hd
          go_wp2_with (first
            | (go_at_call 25; refine (rletter_any s[k] _).mono ?_; rintro e w' ⟨rfl, rfl⟩; rw [HL.out])
            | (go_at_call 26; refine (rdigit_any s[k] _).mono ?_; rintro e w' ⟨rfl, rfl⟩; rw [HD.out]))
          go_round
          case rel => exact ⟨k + 1, by omega, hlt, by go_num, HFE.out⟩
          case measure => simp [intOf]; omega
      · have HL := Lib.hid hl
        have HFE := Lib.hid (show farN wordB s.data.toList at_ = farN wordB s.data.toList (k + 1) by rw [HF.out]; exact farN_yes HB.out (by simp [wordB, hl]))
        clear hl
        go_wp2_with (go_at_call 25; refine (rletter_any s[k] _).mono ?_; rintro e w' ⟨rfl, rfl⟩; rw [HL.out])
        go_round
        case rel => exact ⟨k + 1, by omega, hlt, by go_num, HFE.out⟩
        case measure => simp [intOf]; omega
    · have HFE := Lib.hid (show farN wordB s.data.toList at_ = k by rw [HF.out]; exact farN_end (by rw [HLEN.out]; omega))
      by_cases h32 : k - at_ ≤ 32
      · have n1 := decide_eq_false (show ¬ (32 : Int) < (k : Int) - at_ by omega)
        go_wp2_with fail
        refine (small_any (s.extract at_ k) _ (by rw [ByteArray.size_extract]; omega)).mono ?_
        rintro e w1 ⟨rfl, b1⟩
        have HE := Lib.hid (show (s.extract at_ k).data.toList = (s.data.toList.drop at_).takeWhile wordB by rw [← HFE.out]; exact extract_far wordB s at_)
        obtain ⟨z0, z1, z2, z3, y0, y1, y2, y3⟩ := four_facts (HZ.out.later b1)
        rw [HE.out]
        go_wp2_with fail
        refine bodyPost_ret (v := .tuple #[.agg #[.int .u8 1, .string ⟨(((s.data.toList.drop at_).takeWhile wordB).map lowB).toArray⟩, .int .i64 0, .int .i64 at_], .int .i64 k, .int .i64 0]) ?_ rfl ?_
        · simp [results, Tryd.results20, go_sem, z0, z1, z2, z3]
        · rw [HONE.out, HFE.out, if_pos h32]
          unfold oneP
          simp only
          rw [far_rest wordB s (by omega), HFE.out]
          exact ⟨rfl, far4 (bb.trans (b1.mono bb.size)) (Nat.le_refl _) _ _ _ _⟩
      · have n1 := decide_eq_true (show (32 : Int) < (k : Int) - at_ by omega)
        obtain ⟨z0, z1, z2, z3, y0, y1, y2, y3⟩ := four_facts HZ.out
        go_wp2_with fail
        refine bodyPost_ret (v := .tuple #[.agg #[.int .u8 0, .string ⟨#[]⟩, .int .i64 0, .int .i64 0], .int .i64 0, .int .i64 2]) ?_ rfl ?_
        · simp [results, Tryd.results20, go_sem, z0, z1, z2, z3]
        · rw [HONE.out, HFE.out, if_neg h32]
          exact ⟨rfl, far4 bb (Nat.le_refl _) _ _ _ _⟩
end Go.Proofs.YtcmkfjepikncnaaDoor
