/- token: blanks and comments; what is found. -/
import Derived.Test.YtcmkfjepikncnaaDoorLexA
import Derived.Test.YtcmkfjepikncnaaDoorShelf
namespace Go.Proofs.YtcmkfjepikncnaaDoor
open Go.ChangeShapes Go.WideShapes Go.ChangeAt Go.RowKit Go.Shelf
set_option linter.unusedVariables false
set_option linter.unusedSimpArgs false

/-- how far the lexer in block g is -/
def atOf (g : Nat) (w : World) : Nat := match w.cell? ⟨g, 1, none⟩ with | some (.int .i64 n) => n.toNat | _ => 0
theorem atOf_lex {w : World} {g : Nat} {t : TypeId} {s : ByteArray} {a : Nat} (h : Blk w g t (lexV s a)) : atOf g w = a := by
  unfold atOf
  rw [(lex_cells h).2]
  simp
/-- the lexer over s in block g stands at a; no other block turned since w -/
def At (s : ByteArray) (g : Nat) (w : World) (a : Nat) (w' : World) : Prop := Blk w' g 38 (lexV s a) ∧ w.grownBy w' (some g)
theorem At.refl {s : ByteArray} {g a : Nat} {w : World} (h : Blk w g 38 (lexV s a)) : At s g w a w := ⟨h, grown_below (Below.refl _ _)⟩
theorem At.set {s : ByteArray} {g a b : Nat} {w w' : World} (h : At s g w a w') : At s g w b (w'.setCell ⟨g, 1, none⟩ (.int .i64 b)) := ⟨h.1.set_ 1 _, grown_set h.2 1 _⟩
theorem At.later {s : ByteArray} {g a : Nat} {w w1 w2 : World} (h : At s g w a w1) (k : Below w1.heap.size w1 w2) : At s g w a w2 := ⟨h.1.later k, grown_trans h.2 (grown_below k)⟩
theorem At.trans {s : ByteArray} {g a b : Nat} {w w1 w2 : World} (h : At s g w a w1) (k : At s g w1 b w2) : At s g w b w2 := ⟨k.1, grown_trans h.2 k.2⟩
theorem At.other {s : ByteArray} {g a q : Nat} {t : TypeId} {cs : Array Value} {w w' : World} (h : At s g w a w') (hq : Blk w q t cs) (hne : q ≠ g) : Blk w' q t cs := hq.grown h.2 fun e => hne (by injection e)
theorem At.far {s : ByteArray} {g a q : Nat} {w w' : World} (h : At s g w a w') (hq : w.heap.size ≤ q) (hne : q ≠ g) (i : Nat) (v : Value) : At s g w a (w'.setCell ⟨q, i, none⟩ v) := by
  refine ⟨h.1.far (p := ⟨q, i, none⟩) (fun e => hne e.symm) v, h.2.os, h.2.tape, h.2.output, ?_, fun k hk hkg => ?_⟩
  · have : (w'.setCell ⟨q, i, none⟩ v).heap.size = w'.heap.size := by simp [World.setCell]
    rw [this]; exact h.2.size
  · rw [Below.heap_setCell w' ⟨q, i, none⟩ v k (by simp; omega)]
    exact h.2.block k hk hkg
theorem four_facts {w : World} {q : Nat} {t : TypeId} {a b c d : Value} (h : Blk w q t #[a, b, c, d]) :
    w.cell? ⟨q, 0, none⟩ = some a ∧ w.cell? ⟨q, 1, none⟩ = some b ∧ w.cell? ⟨q, 2, none⟩ = some c ∧ w.cell? ⟨q, 3, none⟩ = some d ∧ w.frozen? ⟨q, 0, none⟩ = false ∧ w.frozen? ⟨q, 1, none⟩ = false ∧ w.frozen? ⟨q, 2, none⟩ = false ∧ w.frozen? ⟨q, 3, none⟩ = false :=
  ⟨h.cell 0, h.cell 1, h.cell 2, h.cell 3, h.frozen 0, h.frozen 1, h.frozen 2, h.frozen 3⟩
theorem frozen_lex {w : World} {g : Nat} {t : TypeId} {s : ByteArray} {a : Nat} (h : Blk w g t (lexV s a)) (i : Nat) : w.frozen? ⟨g, i, none⟩ = false := h.frozen i

theorem hasPrefix_pure (s p : ByteArray) (w : World) : Calls Tryd.prog 31 #[.string s, .string p] w fun e w' => e = .returned (.bool (Lib.hasPrefix s.data.toList p.data.toList)) ∧ w' = w := Tryd.strings_HasPrefix s p w
theorem extract_list (s : ByteArray) (a b : Nat) : (s.extract a b).data.toList = (s.data.toList.take b).drop a := by
  rw [ByteArray.data_extract, Array.toList_extract, List.extract_eq_take_drop, List.drop_take]
theorem extract_end (s : ByteArray) (a : Nat) : (s.extract a s.size).data.toList = s.data.toList.drop a := by
  rw [extract_list]
  congr 1
  rw [List.take_of_length_le (by simp)]

theorem prefix_is {s p : ByteArray} {k : Nat} {b : Bool} (h : Lib.hasPrefix (s.data.toList.drop k) p.data.toList = b) (w : World) : Calls Tryd.prog 31 #[.string (s.extract k s.size), .string p] w fun e w' => e = .returned (.bool b) ∧ w' = w :=
  (hasPrefix_pure _ _ w).mono fun e w' ⟨he, hw⟩ => ⟨by rw [he, extract_end, h], hw⟩

/-- where the next word begins -/
def skipAt (s : ByteArray) (a : Nat) : Nat := s.size - (skipL false (s.data.toList.drop a)).length
theorem skipAt_drop (s : ByteArray) (a : Nat) : s.data.toList.drop (skipAt s a) = skipL false (s.data.toList.drop a) := by
  have h : skipL false (s.data.toList.drop a) <:+ s.data.toList := (skip_suffix _ _).trans (List.drop_suffix _ _)
  have := drop_suffix h
  simpa [skipAt] using this
theorem skipAt_le (s : ByteArray) (a : Nat) : skipAt s a ≤ s.size := Nat.sub_le _ _
theorem skipAt_eq (s : ByteArray) {a b : Nat} (h : skipL false (s.data.toList.drop a) = skipL false (s.data.toList.drop b)) : skipAt s a = skipAt s b := by unfold skipAt; rw [h]
theorem skipAt_done (s : ByteArray) {a : Nat} (ha : a ≤ s.size) (h : Lib.hasPrefix (s.data.toList.drop (farN blankB s.data.toList a)) [45, 45] = false) : skipAt s a = farN blankB s.data.toList a := by
  rw [drop_far] at h
  have h2 := skip_done h
  unfold skipAt
  rw [h2, ← drop_far, List.length_drop]
  have := farN_le blankB s.data.toList a (by simpa using ha)
  simp at this ⊢
  omega
theorem skipAt_more (s : ByteArray) {a : Nat} (ha : a ≤ s.size) (h : Lib.hasPrefix (s.data.toList.drop (farN blankB s.data.toList a)) [45, 45] = true) :
    skipAt s a = skipAt s (farN (fun c => !(c == 10)) s.data.toList (farN blankB s.data.toList a)) ∧ a < farN (fun c => !(c == 10)) s.data.toList (farN blankB s.data.toList a) := by
  refine ⟨skipAt_eq s ?_, ?_⟩
  · rw [drop_far _ _ (farN _ _ _), ← skip_two h, drop_far, ← skip_blank]
  · have h1 := farN_ge blankB s.data.toList a
    generalize farN blankB s.data.toList a = k at *
    match hk : s.data.toList[k]? with
    | none =>
      rw [List.drop_eq_nil_of_le (by simpa using hk)] at h
      simp [Lib.hasPrefix] at h
    | some c =>
      rw [drop_at hk] at h
      have hc : c = 45 := by
        simp [Lib.hasPrefix, List.isPrefixOf] at h
        exact h.1.symm
      subst hc
      rw [farN_yes hk (by decide)]
      have := farN_ge (fun c => !(c == 10)) s.data.toList (k + 1)
      omega

def skipPost (s : ByteArray) (g a : Nat) (w : World) (e : Ending) (w' : World) : Prop := e = .returned (.tuple #[]) ∧ At s g w (skipAt s a) w'
set_option maxHeartbeats 2000000 in
set_option maxRecDepth 100000 in
theorem skip_any (s : ByteArray) (g at_ : Nat) (w : World) (hL : Blk w g 38 (lexV s at_)) (ha : at_ ≤ s.size) (hs : s.size ≤ 4294967280) :
    Calls Tryd.prog 17 #[.pointer (some ⟨g, 0, none⟩)] w (skipPost s g at_ w) := by
  go_enter Tryd.func17, Tryd.ntmps17
  go_wp2_with fail
  go_loopw [] (fun wr => ∃ a : Nat, a ≤ s.size ∧ At s g w a wr ∧ skipAt s at_ = skipAt s a) (fun wr => s.size - atOf g wr)
  case atStart => exact ⟨at_, ha, At.refl hL, rfl⟩
  case round =>
    obtain ⟨a, ha1, hat, hsk⟩ := hrel
    have HS := Lib.hid hsk
    clear hsk
    obtain ⟨c0, c1⟩ := lex_cells hat.1
    have HL := Lib.hid hat.1
    have f1 := frozen_lex hat.1 1
    have hle := farN_le blankB s.data.toList a (by simpa using ha1)
    have hge := farN_ge blankB s.data.toList a
    have HM := Lib.hid (skipAt_more s ha1)
    have HD := Lib.hid (skipAt_done s ha1)
    go_wp2_with fail
    refine (far_any blank_asks s a a g _ HL.out ha1 hs).mono ?_
    rintro e w' ⟨rfl, rfl⟩
    generalize hk : farN blankB s.data.toList a = k at *
    have HK := Lib.hid hk
    clear hk
    simp at hle
    go_wp2_with fail
    have hat2 : At s g w k (wr.setCell ⟨g, 1, none⟩ (.int .i64 k)) := hat.set
    generalize wr.setCell ⟨g, 1, none⟩ (.int .i64 k) = W at *
    clear c0 c1 f1
    obtain ⟨c0, c1⟩ := lex_cells hat2.1
    have HL2 := Lib.hid hat2
    clear hat2
    cases hp : Lib.hasPrefix (s.data.toList.drop k) [45, 45]
    · have HP := Lib.hid hp
      clear hp
      go_quiet ((go_at_call 31; exact Calls.quiet_of_same (prefix_is HP.out _)))
      go_wp2_with fail
      go_end0
      refine ⟨rfl, ?_⟩
      rw [HS.out, HD.out HP.out]
      exact HL2.out.later (drewN_below _ _)
    · have HP := Lib.hid hp
      clear hp
      go_quiet ((go_at_call 31; exact Calls.quiet_of_same (prefix_is HP.out _)))
      have HL3 := Lib.hid (HL2.out.later (drewN_below _ nq))
      have d0 : (W.drewN nq).cell? ⟨g, 0, none⟩ = some (.string s) := c0
      have d1 : (W.drewN nq).cell? ⟨g, 1, none⟩ = some (.int .i64 k) := c1
      generalize W.drewN nq = W2 at *
      clear c0 c1 HL2
      have f1 := frozen_lex HL3.out.1 1
      go_wp2_with fail
      refine (far_any line_asks s k k g _ HL3.out.1 hle hs).mono ?_
      rintro e w' ⟨rfl, rfl⟩
      go_wp2_with fail
      have HM2 := Lib.hid (HM.out HP.out)
      go_roundw
      case rel => exact ⟨_, by simpa using farN_le (fun c => !(c == 10)) s.data.toList k (by simpa using hle), HL3.out.set, by rw [HS.out, HM2.out.1]⟩
      case measure =>
        rw [atOf_lex hat.1, atOf_lex (HL3.out.set (b := farN (fun c => !(c == 10)) s.data.toList k)).1]
        have := HM2.out.2
        have := farN_le (fun c => !(c == 10)) s.data.toList k (by simpa using hle)
        simp at this
        omega

/-- a word in memory -/
def tokV (k : Int) (t : ByteArray) (n at_ : Int) : Array Value := #[.int .u8 k, .string t, .int .i64 n, .int .i64 at_]
set_option maxHeartbeats 2000000 in
set_option maxRecDepth 100000 in
theorem found_any (s : ByteArray) (g at_ q : Nat) (k : Int) (t : ByteArray) (n a : Int) (w : World) (hL : Blk w g 38 (lexV s at_)) :
    Calls Tryd.prog 43 #[.pointer (some ⟨g, 0, none⟩), .agg #[.int .u8 k, .string t, .int .i64 n, .int .i64 a], .int .i64 q] w fun e w' => e = .returned (.tuple #[.agg #[.int .u8 k, .string t, .int .i64 n, .int .i64 at_], .int .i64 0]) ∧ At s g w q w' := by
  have HL := Lib.hid hL
  obtain ⟨c0, c1⟩ := lex_cells hL
  have f1 := frozen_lex hL 1
  have hlt := hL.lt
  go_enter Tryd.func43, Tryd.ntmps43
  go_wp2_with fail
  refine bodyPost_ret (v := .tuple #[.agg #[.int .u8 k, .string t, .int .i64 n, .int .i64 at_], .int .i64 0]) ?_ rfl ⟨rfl, ?_⟩
  · simp [results, Tryd.results43, go_sem]
  · exact ((At.refl hL).set (b := q)).later (((Below.refl _ _).alloc (Nat.le_refl _) _).alloc (by simp) _)

/-- what reading a word leaves: r is what stands at at_ -/
def readP (s : ByteArray) (g at_ : Nat) (w : World) (r : Except Nat (Wd × List UInt8)) (e : Ending) (w' : World) : Prop :=
  match r with
  | .ok (d, rest) => e = .returned (.tuple #[.agg #[.int .u8 d.k, .string ⟨d.s.toArray⟩, .int .i64 d.n, .int .i64 at_], .int .i64 0]) ∧ At s g w (s.size - rest.length) w'
  | .error x => e = .returned (.tuple #[.agg #[.int .u8 0, .string ⟨#[]⟩, .int .i64 0, .int .i64 0], .int .i64 x]) ∧ At s g w at_ w'
theorem toLower_word {s : ByteArray} (hs : s.size ≤ 4294967280) (h : ∀ c ∈ s.data.toList, wordB c = true) (w : World) : Calls Tryd.prog 44 #[.string s] w fun e w' => e = .returned (.string ⟨(s.data.toList.map lowB).toArray⟩) ∧ Below w.heap.size w w' :=
  Tryd.strings_ToLower_ascii s w (by omega) fun j b hb => word_ascii (h b (List.mem_of_getElem? hb))
/-- the bytes between at_ and how far they go -/
theorem extract_far (p : UInt8 → Bool) (s : ByteArray) (k : Nat) : (s.extract k (farN p s.data.toList k)).data.toList = (s.data.toList.drop k).takeWhile p := by
  rw [extract_list, ← between_far, List.drop_take]
theorem far_len (p : UInt8 → Bool) (l : List UInt8) (k : Nat) : farN p l k - k = ((l.drop k).takeWhile p).length := by unfold farN; omega
theorem far_rest (p : UInt8 → Bool) (s : ByteArray) {k : Nat} (hk : k ≤ s.size) : s.size - ((s.data.toList.drop k).dropWhile p).length = farN p s.data.toList k := by
  rw [← drop_far, List.length_drop]
  have := farN_le p s.data.toList k (by simpa using hk)
  simp at this ⊢
  omega
end Go.Proofs.YtcmkfjepikncnaaDoor
