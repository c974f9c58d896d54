/- token: a text. -/
import Derived.Test.YtcmkfjepikncnaaDoorLexE
import Derived.Test.YtcmkfjepikncnaaDoorBuf
namespace Go.Proofs.YtcmkfjepikncnaaDoor
open Go.ChangeShapes Go.WideShapes Go.ChangeAt Go.RowKit Go.Shelf
set_option linter.unusedVariables false
set_option linter.unusedSimpArgs false

/-- the text goes on behind acc -/
def more (acc : List UInt8) (x : Option (List UInt8 × List UInt8)) : Option (List UInt8 × List UInt8) := x.map fun y => (acc ++ y.1, y.2)
theorem more_nil (x : Option (List UInt8 × List UInt8)) : more [] x = x := by cases x <;> rfl
theorem text_other {c : UInt8} (h : c ≠ 39) (r acc : List UInt8) : more acc (textL (c :: r)) = more (acc ++ [c]) (textL r) := by
  cases r with
  | nil => simp [textL, h, more]
  | cons d r =>
    simp only [textL, if_neg h, more]
    cases textL (d :: r) <;> simp
theorem text_two (r acc : List UInt8) : more acc (textL (39 :: 39 :: r)) = more (acc ++ [39]) (textL r) := by
  simp only [textL, more, if_true]
  cases textL r <;> simp
theorem text_end {r : List UInt8} (h : r.head? ≠ some 39) (acc : List UInt8) : more acc (textL (39 :: r)) = some (acc, r) := by
  cases r with
  | nil => simp [textL, more]
  | cons d r =>
    have : d ≠ 39 := fun e => h (by rw [e]; rfl)
    simp [textL, this, more]

theorem builder_string (B b : Nat) (l : List UInt8) (w : World) (h : IsBuf B b l w) (hB : B ≤ w.heap.size) : Calls Tryd.prog 46 #[.pointer (some ⟨b, 0, none⟩)] w fun e w' => e = .returned (.string ⟨l.toArray⟩) ∧ Below B w w' := Tryd.Builder_String_any B b l w h hB
structure TextAt (s : ByteArray) (g at_ : Nat) (w : World) (acc : List UInt8) (w' : World) : Prop where
  at_ : At s g w at_ w'
  buf : IsBuf (w.heap.size + 1) (w.heap.size + 1) acc w'
  res : Blk w' w.heap.size 31 #[.int .u8 0, .string ⟨#[]⟩, .int .i64 0, .int .i64 0]
theorem At.under {s : ByteArray} {g a B : Nat} {w w1 w2 : World} (h : At s g w a w1) (hb : Below B w1 w2) (hg : g < B) (hB : w.heap.size ≤ B) : At s g w a w2 :=
  ⟨h.1.below hb hg, hb.os.trans h.2.os, hb.tape.trans h.2.tape, hb.output.trans h.2.output, Nat.le_trans h.2.size hb.size, fun k hk hkg => (hb.block k (by omega)).trans (h.2.block k hk hkg)⟩
theorem TextAt.size {s : ByteArray} {g at_ : Nat} {w w' : World} {acc : List UInt8} (h : TextAt s g at_ w acc w') : w.heap.size + 1 ≤ w'.heap.size := h.res.lt
theorem TextAt.next {s : ByteArray} {g at_ : Nat} {w w' w'' : World} {acc acc' : List UInt8} (h : TextAt s g at_ w acc w') (hg : g < w.heap.size) (hb : Below (w.heap.size + 1) w' w'') (hbuf : IsBuf (w.heap.size + 1) (w.heap.size + 1) acc' w'') : TextAt s g at_ w acc' w'' :=
  ⟨h.at_.under hb (by omega) (by omega), hbuf, h.res.below hb (by omega)⟩
set_option maxHeartbeats 4000000 in
set_option maxRecDepth 100000 in
theorem text_any (s : ByteArray) (g at_ : Nat) (w : World) (hL : Blk w g 38 (lexV s at_)) (r : List UInt8) (hd : s.data.toList.drop at_ = 39 :: r) (hs : s.size ≤ 4294967280) :
    Calls Tryd.prog 36 #[.pointer (some ⟨g, 0, none⟩)] w (readP s g at_ w (oneL (39 :: r))) := by
  have ha : at_ < s.size := by
    rcases Nat.lt_or_ge at_ s.size with h | h
    · exact h
    · rw [List.drop_eq_nil_of_le (by simpa using h)] at hd; cases hd
  have hr : r = s.data.toList.drop (at_ + 1) := by
    rw [← List.drop_drop, hd]; rfl
  subst hr
  have hone : oneL (39 :: s.data.toList.drop (at_ + 1)) = match more [] (textL (s.data.toList.drop (at_ + 1))) with
      | some (t, rest) => .ok (⟨3, t, 0⟩, rest)
      | none => .error 30 := by
    rw [more_nil]
    have h1 : letterB 39 = false := by decide
    have h2 : digitB 39 = false := by decide
    simp only [oneL, h1, h2]
    rfl
  obtain ⟨c0, c1⟩ := lex_cells hL
  have hlt := hL.lt
  have hne : w.heap.size ≠ g := by omega
  generalize oneL (39 :: s.data.toList.drop (at_ + 1)) = R at *
  have HONE := Lib.hid hone
  have HDR := Lib.hid hd
  clear hone hd
  go_enter Tryd.func36, Tryd.ntmps36
  go_wp2_with fail
  have hT : TextAt s g at_ w [] ((w.alloc (.cells #[.int .u8 0, .string ⟨#[]⟩, .int .i64 0, .int .i64 0] 31)).alloc (.cells #[.pointer none, .slice none 0 0] 66)) := by
    refine ⟨(At.refl hL).later (((Below.refl _ _).alloc (Nat.le_refl _) _).alloc (by simp) _), .inl ⟨Nat.le_refl _, .slice none 0 0, ?_, ⟨rfl, .inl ⟨rfl, rfl⟩⟩, by simp [Value.ownBlock]⟩, (Blk.new w _ _).alloc _⟩
    have := heap_alloc_new (w.alloc (.cells #[.int .u8 0, .string ⟨#[]⟩, .int .i64 0, .int .i64 0] 31)) (.cells #[.pointer none, .slice none 0 0] 66)
    simpa using this
  generalize (w.alloc (.cells #[.int .u8 0, .string ⟨#[]⟩, .int .i64 0, .int .i64 0] 31)).alloc (.cells #[.pointer none, .slice none 0 0] 66) = W at *
  clear c0 c1
  obtain ⟨c0, c1⟩ := lex_cells hT.at_.1
  have HT := Lib.hid hT
  clear hT
  go_wp2_with fail
  go_loopw [5] (fun u wr => ∃ (k : Nat) (acc : List UInt8), k ≤ s.size ∧ acc.length ≤ k ∧ u = .int .i64 k ∧ TextAt s g at_ w acc wr ∧ more [] (textL (s.data.toList.drop (at_ + 1))) = more acc (textL (s.data.toList.drop k))) (fun u _ => s.size - (intOf u).toNat)
  case atStart => exact ⟨at_ + 1, [], ha, by simp, by go_num, HT.out, rfl⟩
  case round =>
    obtain ⟨k, acc, hk, hacc, rfl, hT, hm⟩ := hrel
    have HM := Lib.hid hm
    clear hm c0 c1
    obtain ⟨c0, c1⟩ := lex_cells hT.at_.1
    have hsz := hT.size
    have HT2 := Lib.hid hT
    clear hT
    have HLEN := Lib.hid (show s.data.toList.length = s.size by simp)
    by_cases hks : k < s.size
    · have HB := Lib.hid (byte_at s k hks)
      by_cases hq : s[k] = 39
      · have HQ := Lib.hid hq
        have t1 : (((s[k].toNat : Nat) : Int) == 39) = true := by rw [hq]; rfl
        clear hq
        by_cases hk1 : k + 1 < s.size
        · have HB1 := Lib.hid (byte_at s (k + 1) hk1)
          have n1 : ¬ ((k : Int) + 1 = s.size) := by omega
          have n2 : (((k : Int) + 1) == (s.size : Int)) = false := by simpa using n1
          by_cases hq1 : s[k + 1] = 39
          · have HQ1 := Lib.hid hq1
            have t2 : (((s[k + 1].toNat : Nat) : Int) == 39) = true := by rw [hq1]; rfl
            have t3 : (((s[k + 1].toNat : Nat) : Int) != 39) = false := by rw [hq1]; rfl
            clear hq1
            go_wp2_with fail
            rw [HQ1.out]
            refine (write_byte _ _ acc 39 _ HT2.out.buf (by omega) hsz).mono ?_
            rintro e w1 ⟨rfl, hb, b1⟩
            go_wp2_with fail
            go_roundw
            case rel =>
              refine ⟨k + 2, acc ++ [39], by omega, by simp; omega, by go_num, HT2.out.next hlt b1 hb, ?_⟩
              rw [HM.out, drop_at HB.out, drop_at HB1.out, HQ.out, HQ1.out, text_two]
            case measure => simp [intOf]; omega
          · have t2 : (((s[k + 1].toNat : Nat) : Int) == 39) = false := by
              rw [beq_eq_false_iff_ne]
              intro h
              exact hq1 (UInt8.toNat_inj.1 (by simpa using (by omega : s[k + 1].toNat = 39)))
            have t3 : (((s[k + 1].toNat : Nat) : Int) != 39) = true := by simpa [bne] using t2
            have HEND := Lib.hid (show (s.data.toList.drop (k + 1)).head? ≠ some 39 by rw [drop_at HB1.out]; simpa using hq1)
            clear hq1
            go_wp2_with fail
            refine (builder_string _ _ acc _ HT2.out.buf hsz).mono ?_
            rintro e w1 ⟨rfl, b1⟩
            have hat := HT2.out.at_.under b1 (by omega) (by omega)
            have HZ3 := Lib.hid (HT2.out.res.below b1 (by omega))
            have HAT := Lib.hid hat
            go_wp2_with fail
            refine (found_any s g at_ (k + 1) 3 ⟨acc.toArray⟩ 0 0 _ HAT.out.1).mono ?_
            rintro e w2 ⟨rfl, hat2⟩
            obtain ⟨z0, z1, z2, z3, y0, y1, y2, y3⟩ := four_facts (hat2.other HZ3.out hne)
            go_wp2_with fail
            refine bodyPost_ret (v := .tuple #[.agg #[.int .u8 3, .string ⟨acc.toArray⟩, .int .i64 0, .int .i64 at_], .int .i64 0]) ?_ rfl ?_
            · simp [results, Tryd.results36, go_sem, z0, z1, z2, z3]
            · rw [HONE.out, HM.out, drop_at HB.out, HQ.out, text_end HEND.out]
              refine ⟨rfl, ?_⟩
              show At s g w (s.size - _) _
              have e : s.size - (s.data.toList.drop (k + 1)).length = k + 1 := by rw [List.length_drop, HLEN.out]; omega
              rw [e]
              exact (((HAT.out.trans hat2).far (Nat.le_refl _) hne 0 _).far (Nat.le_refl _) hne 1 _ |>.far (Nat.le_refl _) hne 2 _ |>.far (Nat.le_refl _) hne 3 _)
        · have n1 : ((k : Int) + 1 = s.size) := by omega
          have n2 : (((k : Int) + 1) == (s.size : Int)) = true := by simpa using n1
          have n3 : s.size = k + 1 := by omega
          have HEND := Lib.hid (show (s.data.toList.drop (k + 1)).head? ≠ some 39 by rw [List.drop_eq_nil_of_le (by rw [HLEN.out]; omega)]; simp)
          have HN3 := Lib.hid n3
          clear n3 n1
          go_wp2_with fail
          refine (builder_string _ _ acc _ HT2.out.buf hsz).mono ?_
          rintro e w1 ⟨rfl, b1⟩
          have hat := HT2.out.at_.under b1 (by omega) (by omega)
          have HZ3 := Lib.hid (HT2.out.res.below b1 (by omega))
          have HAT := Lib.hid hat
          go_wp2_with fail
          refine (found_any s g at_ (k + 1) 3 ⟨acc.toArray⟩ 0 0 _ HAT.out.1).mono ?_
          rintro e w2 ⟨rfl, hat2⟩
          obtain ⟨z0, z1, z2, z3, y0, y1, y2, y3⟩ := four_facts (hat2.other HZ3.out hne)
          go_wp2_with fail
          refine bodyPost_ret (v := .tuple #[.agg #[.int .u8 3, .string ⟨acc.toArray⟩, .int .i64 0, .int .i64 at_], .int .i64 0]) ?_ rfl ?_
          · simp [results, Tryd.results36, go_sem, z0, z1, z2, z3]
          · rw [HONE.out, HM.out, drop_at HB.out, HQ.out, text_end HEND.out]
            refine ⟨rfl, ?_⟩
            show At s g w (s.size - _) _
            have e : s.size - (s.data.toList.drop (k + 1)).length = k + 1 := by rw [List.length_drop, HLEN.out]; omega
            rw [e]
            exact (((HAT.out.trans hat2).far (Nat.le_refl _) hne 0 _).far (Nat.le_refl _) hne 1 _ |>.far (Nat.le_refl _) hne 2 _ |>.far (Nat.le_refl _) hne 3 _)
      · have HQ := Lib.hid hq
        have t1 : (((s[k].toNat : Nat) : Int) == 39) = false := by
          rw [beq_eq_false_iff_ne]
          intro h
          exact hq (UInt8.toNat_inj.1 (by simpa using (by omega : s[k].toNat = 39)))
        clear hq
        go_wp2_with fail
        refine (write_byte _ _ acc s[k] _ HT2.out.buf (by omega) hsz).mono ?_
        rintro e w1 ⟨rfl, hb, b1⟩
        go_wp2_with fail
        go_roundw
        case rel =>
          refine ⟨k + 1, acc ++ [s[k]], by omega, by simp; omega, by go_num, HT2.out.next hlt b1 hb, ?_⟩
          rw [HM.out, drop_at HB.out, text_other HQ.out]
        case measure => simp [intOf]; omega
    · have HNIL := Lib.hid (show s.data.toList.drop k = [] by rw [List.drop_eq_nil_of_le (by rw [HLEN.out]; omega)])
      obtain ⟨z0, z1, z2, z3, y0, y1, y2, y3⟩ := four_facts HT2.out.res
      go_wp2_with fail
      refine bodyPost_ret (v := .tuple #[.agg #[.int .u8 0, .string ⟨#[]⟩, .int .i64 0, .int .i64 0], .int .i64 30]) ?_ rfl ?_
      · simp [results, Tryd.results36, go_sem, z0, z1, z2, z3]
      · rw [HONE.out, HM.out, HNIL.out]
        exact ⟨rfl, (((HT2.out.at_.far (Nat.le_refl _) hne 0 _).far (Nat.le_refl _) hne 1 _ |>.far (Nat.le_refl _) hne 2 _ |>.far (Nat.le_refl _) hne 3 _))⟩
end Go.Proofs.YtcmkfjepikncnaaDoor
