/- token: the document's next word: a sign; all together. -/
import Derived.Test.YtcmkfjepikncnaaDoorRefE
import Derived.Test.YtcmkfjepikncnaaDoorRefF
namespace Go.Proofs.YtcmkfjepikncnaaDoor
open Go.ChangeShapes Go.WideShapes Go.ChangeAt Go.RowKit Go.Shelf
set_option linter.unusedVariables false
set_option linter.unusedSimpArgs false
/-- as the text's test says it -/
theorem sign_test {s : ByteArray} {a : Nat} {x : List UInt8} (hb : a + x.length ≤ s.size) : ((s.extract a (a + x.length)).toList == x) = x.isPrefixOf (s.data.toList.drop a) := by
  rw [ByteArray.toList_eq, extract_list, List.drop_take, Nat.add_sub_cancel_left]
  rw [Bool.eq_iff_iff, beq_iff_eq, List.isPrefixOf_iff_prefix]
  constructor
  · intro h
    refine ⟨(s.data.toList.drop a).drop x.length, ?_⟩
    have := List.take_append_drop x.length (s.data.toList.drop a)
    rwa [h] at this
  · rintro ⟨r, h⟩
    rw [← h]
    simp
theorem sign_long {s : ByteArray} {a : Nat} {x : List UInt8} (hb : ¬ a + x.length ≤ s.size) (ha : a ≤ s.size) : x.isPrefixOf (s.data.toList.drop a) = false := by
  rw [Bool.eq_false_iff]
  intro h
  rw [List.isPrefixOf_iff_prefix] at h
  have := h.length_le
  rw [List.length_drop] at this
  simp at this
  omega
set_option maxHeartbeats 4000000 in
set_option maxRecDepth 100000 in
theorem one_sign (s : ByteArray) (at_ : Nat) (w : World) (ha : at_ < s.size) (hl : letterB s[at_] = false) (hdg : digitB s[at_] = false) (hq : s[at_] ≠ 39) (hs : s.size ≤ 4294967280) :
    Calls Tryd.prog 20 #[.string s, .int .i64 at_] w (oneP s at_ w (oneL (s.data.toList.drop at_))) := by
  have hd := drop_at (byte_at s at_ ha)
  have hone : oneL (s.data.toList.drop at_) = match signIn signs (s.data.toList.drop at_) with
      | some x => .ok (⟨4, x, 0⟩, (s.data.toList.drop at_).drop x.length)
      | none => .error 30 := by
    rw [hd]
    simp only [oneL, hl, hdg, if_neg hq]
    rfl
  generalize oneL (s.data.toList.drop at_) = R at *
  have t0 : (((s[at_].toNat : Nat) : Int) == 39) = false := by
    rw [beq_eq_false_iff_ne]
    intro h
    exact hq (UInt8.toNat_inj.1 (by simpa using (by omega : s[at_].toNat = 39)))
  have HONE := Lib.hid hone
  have HL0 := Lib.hid hl
  have HD0 := Lib.hid hdg
  have HLEN := Lib.hid (show s.data.toList.length = s.size by simp)
  clear hone hd hl hdg hq
  go_enter Tryd.func20, Tryd.ntmps20
  go_wp2_with (first
    | (go_at_call 25; refine (rletter_any s[at_] _).mono ?_; rintro e w' ⟨rfl, rfl⟩; rw [HL0.out])
    | (go_at_call 26; refine (rdigit_any s[at_] _).mono ?_; rintro e w' ⟨rfl, rfl⟩; rw [HD0.out]))
  have HZ := Lib.hid ((Blk.new w 31 #[.int .u8 0, .string ⟨#[]⟩, .int .i64 0, .int .i64 0]).alloc (.cells (signs.map fun l => Value.string ⟨l.toArray⟩).toArray 9))
  have hG : Blk ((w.alloc (.cells #[.int .u8 0, .string ⟨#[]⟩, .int .i64 0, .int .i64 0] 31)).alloc (.cells (signs.map fun l => Value.string ⟨l.toArray⟩).toArray 9)) (w.heap.size + 1) 9 (signs.map fun l => Value.string ⟨l.toArray⟩).toArray := by
    have := Blk.new (w.alloc (.cells #[.int .u8 0, .string ⟨#[]⟩, .int .i64 0, .int .i64 0] 31)) 9 (signs.map fun l => Value.string ⟨l.toArray⟩).toArray
    simpa using this
  have bb : Below w.heap.size w ((w.alloc (.cells #[.int .u8 0, .string ⟨#[]⟩, .int .i64 0, .int .i64 0] 31)).alloc (.cells (signs.map fun l => Value.string ⟨l.toArray⟩).toArray 9)) := ((Below.refl _ _).alloc (Nat.le_refl _) _).alloc (by simp) _
  have HG := Lib.hid hG
  clear hG t0
  simp only [signs, List.map_cons, List.map_nil] at HZ HG bb
  generalize (w.alloc (.cells #[.int .u8 0, .string ⟨#[]⟩, .int .i64 0, .int .i64 0] 31)).alloc _ = W at *
  go_loopw [13] (fun u wr => ∃ i n : Nat, i ≤ 15 ∧ u = .int .i64 i ∧ wr = W.drewN n ∧ signIn signs (s.data.toList.drop at_) = signIn (signs.drop i) (s.data.toList.drop at_)) (fun u _ => 15 - (intOf u).toNat)
  case atStart => exact ⟨0, 0, by omega, rfl, rfl, rfl⟩
  case round =>
    obtain ⟨i, n, hi, rfl, rfl, hsg⟩ := hrel
    have HSG := Lib.hid hsg
    clear hsg
    have HZn := Lib.hid (HZ.out.drewN n)
    have bbn := bb.trans ((drewN_below W n).mono bb.size)
    by_cases hlt15 : i < 15
    · obtain ⟨x, hx, hdx, hx1, hx2⟩ := sign_at hlt15
      have hcell : (W.drewN n).cell? ⟨w.heap.size + 1, i, none⟩ = some (.string ⟨x.toArray⟩) := by
        rw [(HG.out.drewN n).cell i]
        have : (signs.map fun l => Value.string ⟨l.toArray⟩).toArray[i]? = some (.string ⟨x.toArray⟩) := by simp [hx]
        exact this
      generalize hWn : W.drewN n = Wn at *
      have HWN := Lib.hid hWn
      have HDX := Lib.hid hdx
      clear hWn hx hdx
      by_cases hto : at_ + x.length ≤ s.size
      · have n1 := decide_eq_true (show ((at_ : Int) + (x.length : Int)) ≤ (s.size : Int) by omega)
        have HT := Lib.hid (sign_test hto)
        cases hp : x.isPrefixOf (s.data.toList.drop at_)
        · have HP := Lib.hid hp
          have t1 : ((s.extract at_ (at_ + x.length)).toList == x) = false := HT.out.trans hp
          have hsl := fun W' : World => run_slice_at s at_ (at_ + x.length) (at_ : Int) ((at_ : Int) + (x.length : Int)) rfl (by omega) (by omega) hto W'
          clear hp
          go_wp2_with fail
          go_quiet (fail)
          go_wp2_with fail
          go_roundw
          case rel =>
            refine ⟨i + 1, n + nq, by omega, by go_num, ?_, ?_⟩
            · rw [← HWN.out]
              exact drewN_more W n nq
            · rw [HSG.out, HDX.out, signIn, HP.out]; rfl
          case measure => simp [intOf]; omega
        · have HP := Lib.hid hp
          have t1 : ((s.extract at_ (at_ + x.length)).toList == x) = true := HT.out.trans hp
          have hsl := fun W' : World => run_slice_at s at_ (at_ + x.length) (at_ : Int) ((at_ : Int) + (x.length : Int)) rfl (by omega) (by omega) hto W'
          clear hp
          go_wp2_with fail
          go_quiet (fail)
          obtain ⟨z0, z1, z2, z3, y0, y1, y2, y3⟩ := four_facts (HZn.out.drewN nq)
          have bq := bbn.trans ((drewN_below Wn nq).mono bbn.size)
          have hcell2 : (Wn.drewN nq).cell? ⟨w.heap.size + 1, i, none⟩ = some (.string ⟨x.toArray⟩) := hcell
          generalize Wn.drewN nq = Wq at *
          clear hcell
          go_wp2_with fail
          refine bodyPost_ret (v := .tuple #[.agg #[.int .u8 4, .string ⟨x.toArray⟩, .int .i64 0, .int .i64 at_], .int .i64 ((at_ : Int) + (x.length : Int)), .int .i64 0]) ?_ rfl ?_
          · simp [results, Tryd.results20, go_sem, z0, z1, z2, z3]
          · have e1 : signIn signs (s.data.toList.drop at_) = some x := by
              rw [HSG.out, HDX.out, signIn, if_pos HP.out]
            rw [HONE.out, e1]
            unfold oneP
            simp only
            have e2 : s.size - ((s.data.toList.drop at_).drop x.length).length = at_ + x.length := by
              rw [List.drop_drop, List.length_drop, HLEN.out]; omega
            rw [e2]
            exact ⟨rfl, far4 bq (Nat.le_refl _) _ _ _ _⟩
      · have n1 := decide_eq_false (show ¬ ((at_ : Int) + (x.length : Int)) ≤ (s.size : Int) by omega)
        have HP := Lib.hid (sign_long hto (by omega))
        go_wp2_with fail
        go_quiet (fail)
        go_wp2_with fail
        go_roundw
        case rel =>
          refine ⟨i + 1, n + nq, by omega, by go_num, ?_, ?_⟩
          · rw [← HWN.out]
            exact drewN_more W n nq
          · rw [HSG.out, HDX.out, signIn, HP.out]; rfl
        case measure => simp [intOf]; omega
    · obtain rfl : i = 15 := by omega
      obtain ⟨z0, z1, z2, z3, y0, y1, y2, y3⟩ := four_facts HZn.out
      generalize W.drewN n = Wn at *
      go_wp2_with fail
      refine bodyPost_ret (v := .tuple #[.agg #[.int .u8 0, .string ⟨#[]⟩, .int .i64 0, .int .i64 0], .int .i64 0, .int .i64 30]) ?_ rfl ?_
      · simp [results, Tryd.results20, go_sem, z0, z1, z2, z3]
      · rw [HONE.out, HSG.out]
        exact ⟨rfl, far4 bbn (Nat.le_refl _) _ _ _ _⟩
theorem one_any (s : ByteArray) (at_ : Nat) (w : World) (ha : at_ < s.size) (hs : s.size ≤ 4294967280) :
    Calls Tryd.prog 20 #[.string s, .int .i64 at_] w (oneP s at_ w (oneL (s.data.toList.drop at_))) := by
  cases hl : letterB s[at_]
  · cases hd : digitB s[at_]
    · by_cases hq : s[at_] = 39
      · exact one_text s at_ w ha hl hd hq hs
      · exact one_sign s at_ w ha hl hd hq hs
    · exact one_num s at_ w ha hl hd hs
  · exact one_word s at_ w ha hl hs
end Go.Proofs.YtcmkfjepikncnaaDoor
