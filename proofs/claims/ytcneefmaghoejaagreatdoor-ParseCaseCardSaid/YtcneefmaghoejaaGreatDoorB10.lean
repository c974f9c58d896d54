/- Parts of the proof: LexS, LexE, LexN. Put together by slim.py. -/
import Derived.Shelf.Strings.Fields
import Derived.Test.YtcneefmaghoejaaGreatDoorB9
namespace Go.Proofs.YtcneefmaghoejaaGreatDoor
open Go.ChangeShapes Go.WideShapes Go.ChangeAt Go.RowKit Go.Shelf
set_option linter.unusedVariables false
set_option linter.unusedSimpArgs false
def atOf (g : Nat) (w : World) : Nat := match w.cell? ⟨g, 1, none⟩ with | some (.int .i64 n) => n.toNat | _ => 0
theorem atOf_lex {w : World} {g : Nat} {t : TypeId} {s : ByteArray} {a : Nat} (h : Blk w g t (lexV s a)) : atOf g w = a := by
  unfold atOf
  rw [(lex_cells h).2]
  simp
def At (s : ByteArray) (g : Nat) (w : World) (a : Nat) (w' : World) : Prop := Blk w' g 77 (lexV s a) ∧ w.grownBy w' (some g)
theorem At.refl {s : ByteArray} {g a : Nat} {w : World} (h : Blk w g 77 (lexV s a)) : At s g w a w := ⟨h, grown_below (Below.refl _ _)⟩
theorem At.set {s : ByteArray} {g a b : Nat} {w w' : World} (h : At s g w a w') : At s g w b (w'.setCell ⟨g, 1, none⟩ (.int .i64 b)) := ⟨h.1.set_ 1 _, grown_set h.2 1 _⟩
theorem At.later {s : ByteArray} {g a : Nat} {w w1 w2 : World} (h : At s g w a w1) (k : Below w1.heap.size w1 w2) : At s g w a w2 := ⟨h.1.later k, grown_trans h.2 (grown_below k)⟩
theorem At.trans {s : ByteArray} {g a b : Nat} {w w1 w2 : World} (h : At s g w a w1) (k : At s g w1 b w2) : At s g w b w2 := ⟨k.1, grown_trans h.2 k.2⟩
theorem At.other {s : ByteArray} {g a q : Nat} {t : TypeId} {cs : Array Value} {w w' : World} (h : At s g w a w') (hq : Blk w q t cs) (hne : q ≠ g) : Blk w' q t cs := hq.grown h.2 fun e => hne (by injection e)
theorem At.far {s : ByteArray} {g a q : Nat} {w w' : World} (h : At s g w a w') (hq : w.heap.size ≤ q) (hne : q ≠ g) (i : Nat) (v : Value) : At s g w a (w'.setCell ⟨q, i, none⟩ v) := by
  refine ⟨h.1.far (p := ⟨q, i, none⟩) (fun e => hne e.symm) v, h.2.os, h.2.tape, h.2.output, ?_, fun k hk hkg => ?_⟩
  · have : (w'.setCell ⟨q, i, none⟩ v).heap.size = w'.heap.size := by simp [World.setCell]
    rw [this]; exact h.2.size
  · rw [Below.heap_setCell w' ⟨q, i, none⟩ v k (by simp; omega)]
    exact h.2.block k hk hkg
theorem four_facts {w : World} {q : Nat} {t : TypeId} {a b c d : Value} (h : Blk w q t #[a, b, c, d]) :
    w.cell? ⟨q, 0, none⟩ = some a ∧ w.cell? ⟨q, 1, none⟩ = some b ∧ w.cell? ⟨q, 2, none⟩ = some c ∧ w.cell? ⟨q, 3, none⟩ = some d ∧ w.frozen? ⟨q, 0, none⟩ = false ∧ w.frozen? ⟨q, 1, none⟩ = false ∧ w.frozen? ⟨q, 2, none⟩ = false ∧ w.frozen? ⟨q, 3, none⟩ = false :=
  ⟨h.cell 0, h.cell 1, h.cell 2, h.cell 3, h.frozen 0, h.frozen 1, h.frozen 2, h.frozen 3⟩
theorem frozen_lex {w : World} {g : Nat} {t : TypeId} {s : ByteArray} {a : Nat} (h : Blk w g t (lexV s a)) (i : Nat) : w.frozen? ⟨g, i, none⟩ = false := h.frozen i
theorem hasPrefix_pure (s p : ByteArray) (w : World) : Calls Tryz.prog 59 #[.string s, .string p] w fun e w' => e = .returned (.bool (Lib.hasPrefix s.data.toList p.data.toList)) ∧ w' = w := Tryz.strings_HasPrefix s p w
theorem extract_list (s : ByteArray) (a b : Nat) : (s.extract a b).data.toList = (s.data.toList.take b).drop a := by
  rw [ByteArray.data_extract, Array.toList_extract, List.extract_eq_take_drop, List.drop_take]
theorem extract_end (s : ByteArray) (a : Nat) : (s.extract a s.size).data.toList = s.data.toList.drop a := by
  rw [extract_list]
  congr 1
  rw [List.take_of_length_le (by simp)]
theorem prefix_is {s p : ByteArray} {k : Nat} {b : Bool} (h : Lib.hasPrefix (s.data.toList.drop k) p.data.toList = b) (w : World) : Calls Tryz.prog 59 #[.string (s.extract k s.size), .string p] w fun e w' => e = .returned (.bool b) ∧ w' = w :=
  (hasPrefix_pure _ _ w).mono fun e w' ⟨he, hw⟩ => ⟨by rw [he, extract_end, h], hw⟩
def skipAt (s : ByteArray) (a : Nat) : Nat := s.size - (skipL false (s.data.toList.drop a)).length
theorem skipAt_drop (s : ByteArray) (a : Nat) : s.data.toList.drop (skipAt s a) = skipL false (s.data.toList.drop a) := by
  have h : skipL false (s.data.toList.drop a) <:+ s.data.toList := (skip_suffix _ _).trans (List.drop_suffix _ _)
  have := drop_suffix h
  simpa [skipAt] using this
theorem skipAt_le (s : ByteArray) (a : Nat) : skipAt s a ≤ s.size := Nat.sub_le _ _
theorem skipAt_eq (s : ByteArray) {a b : Nat} (h : skipL false (s.data.toList.drop a) = skipL false (s.data.toList.drop b)) : skipAt s a = skipAt s b := by unfold skipAt; rw [h]
theorem skipAt_done (s : ByteArray) {a : Nat} (ha : a ≤ s.size) (h : Lib.hasPrefix (s.data.toList.drop (farN blankB s.data.toList a)) [45, 45] = false) : skipAt s a = farN blankB s.data.toList a := by
  rw [drop_far] at h
  have h2 := skip_done h
  unfold skipAt
  rw [h2, ← drop_far, List.length_drop]
  have := farN_le blankB s.data.toList a (by simpa using ha)
  simp at this ⊢
  omega
theorem skipAt_more (s : ByteArray) {a : Nat} (ha : a ≤ s.size) (h : Lib.hasPrefix (s.data.toList.drop (farN blankB s.data.toList a)) [45, 45] = true) :
    skipAt s a = skipAt s (farN (fun c => !(c == 10)) s.data.toList (farN blankB s.data.toList a)) ∧ a < farN (fun c => !(c == 10)) s.data.toList (farN blankB s.data.toList a) := by
  refine ⟨skipAt_eq s ?_, ?_⟩
  · rw [drop_far _ _ (farN _ _ _), ← skip_two h, drop_far, ← skip_blank]
  · have h1 := farN_ge blankB s.data.toList a
    generalize farN blankB s.data.toList a = k at *
    match hk : s.data.toList[k]? with
    | none =>
      rw [List.drop_eq_nil_of_le (by simpa using hk)] at h
      simp [Lib.hasPrefix] at h
    | some c =>
      rw [drop_at hk] at h
      have hc : c = 45 := by
        simp [Lib.hasPrefix, List.isPrefixOf] at h
        exact h.1.symm
      subst hc
      rw [farN_yes hk (by decide)]
      have := farN_ge (fun c => !(c == 10)) s.data.toList (k + 1)
      omega
def skipPost (s : ByteArray) (g a : Nat) (w : World) (e : Ending) (w' : World) : Prop := e = .returned (.tuple #[]) ∧ At s g w (skipAt s a) w'
set_option maxHeartbeats 2000000 in
set_option maxRecDepth 100000 in
theorem skip_any (s : ByteArray) (g at_ : Nat) (w : World) (hL : Blk w g 77 (lexV s at_)) (ha : at_ ≤ s.size) (hs : s.size ≤ 4294967280) :
    Calls Tryz.prog 30 #[.pointer (some ⟨g, 0, none⟩)] w (skipPost s g at_ w) := by
  go_enter Tryz.func30, Tryz.ntmps30
  go_wp2_with fail
  go_loopw [] (fun wr => ∃ a : Nat, a ≤ s.size ∧ At s g w a wr ∧ skipAt s at_ = skipAt s a) (fun wr => s.size - atOf g wr)
  case atStart => exact ⟨at_, ha, At.refl hL, rfl⟩
  case round =>
    obtain ⟨a, ha1, hat, hsk⟩ := hrel
    have HS := Lib.hid hsk
    clear hsk
    obtain ⟨c0, c1⟩ := lex_cells hat.1
    have HL := Lib.hid hat.1
    have f1 := frozen_lex hat.1 1
    have hle := farN_le blankB s.data.toList a (by simpa using ha1)
    have hge := farN_ge blankB s.data.toList a
    have HM := Lib.hid (skipAt_more s ha1)
    have HD := Lib.hid (skipAt_done s ha1)
    go_wp2_with fail
    refine (far_any blank_asks s a a g _ HL.out ha1 hs).mono ?_
    rintro e w' ⟨rfl, rfl⟩
    generalize hk : farN blankB s.data.toList a = k at *
    have HK := Lib.hid hk
    clear hk
    simp at hle
    go_wp2_with fail
    have hat2 : At s g w k (wr.setCell ⟨g, 1, none⟩ (.int .i64 k)) := hat.set
    generalize wr.setCell ⟨g, 1, none⟩ (.int .i64 k) = W at *
    clear c0 c1 f1
    obtain ⟨c0, c1⟩ := lex_cells hat2.1
    have HL2 := Lib.hid hat2
    clear hat2
    cases hp : Lib.hasPrefix (s.data.toList.drop k) [45, 45]
    · have HP := Lib.hid hp
      clear hp
      go_quiet ((go_at_call 59; exact Calls.quiet_of_same (prefix_is HP.out _)))
      go_wp2_with fail
      go_end0
      refine ⟨rfl, ?_⟩
      rw [HS.out, HD.out HP.out]
      exact HL2.out.later (drewN_below _ _)
    · have HP := Lib.hid hp
      clear hp
      go_quiet ((go_at_call 59; exact Calls.quiet_of_same (prefix_is HP.out _)))
      have HL3 := Lib.hid (HL2.out.later (drewN_below _ nq))
      have d0 : (W.drewN nq).cell? ⟨g, 0, none⟩ = some (.string s) := c0
      have d1 : (W.drewN nq).cell? ⟨g, 1, none⟩ = some (.int .i64 k) := c1
      generalize W.drewN nq = W2 at *
      clear c0 c1 HL2
      have f1 := frozen_lex HL3.out.1 1
      go_wp2_with fail
      refine (far_any line_asks s k k g _ HL3.out.1 hle hs).mono ?_
      rintro e w' ⟨rfl, rfl⟩
      go_wp2_with fail
      have HM2 := Lib.hid (HM.out HP.out)
      go_roundw
      case rel => exact ⟨_, by simpa using farN_le (fun c => !(c == 10)) s.data.toList k (by simpa using hle), HL3.out.set, by rw [HS.out, HM2.out.1]⟩
      case measure =>
        rw [atOf_lex hat.1, atOf_lex (HL3.out.set (b := farN (fun c => !(c == 10)) s.data.toList k)).1]
        have := HM2.out.2
        have := farN_le (fun c => !(c == 10)) s.data.toList k (by simpa using hle)
        simp at this
        omega
set_option maxHeartbeats 2000000 in
set_option maxRecDepth 100000 in
theorem found_any (s : ByteArray) (g at_ q : Nat) (k : Int) (t : ByteArray) (n a : Int) (w : World) (hL : Blk w g 77 (lexV s at_)) :
    Calls Tryz.prog 94 #[.pointer (some ⟨g, 0, none⟩), .agg #[.int .u8 k, .string t, .int .i64 n, .int .i64 a], .int .i64 q] w fun e w' => e = .returned (.tuple #[.agg #[.int .u8 k, .string t, .int .i64 n, .int .i64 at_], .int .i64 0]) ∧ At s g w q w' := by
  have HL := Lib.hid hL
  obtain ⟨c0, c1⟩ := lex_cells hL
  have f1 := frozen_lex hL 1
  have hlt := hL.lt
  go_enter Tryz.func94, Tryz.ntmps94
  go_wp2_with fail
  refine bodyPost_ret (v := .tuple #[.agg #[.int .u8 k, .string t, .int .i64 n, .int .i64 at_], .int .i64 0]) ?_ rfl ⟨rfl, ?_⟩
  · simp [results, Tryz.results94, go_sem]
  · exact ((At.refl hL).set (b := q)).later (((Below.refl _ _).alloc (Nat.le_refl _) _).alloc (by simp) _)
def readP (s : ByteArray) (g at_ : Nat) (w : World) (r : Except Nat (Wd × List UInt8)) (e : Ending) (w' : World) : Prop :=
  match r with
  | .ok (d, rest) => e = .returned (.tuple #[.agg #[.int .u8 d.k, .string ⟨d.s.toArray⟩, .int .i64 d.n, .int .i64 at_], .int .i64 0]) ∧ At s g w (s.size - rest.length) w'
  | .error x => e = .returned (.tuple #[.agg #[.int .u8 0, .string ⟨#[]⟩, .int .i64 0, .int .i64 0], .int .i64 x]) ∧ At s g w at_ w'
theorem toLower_word {s : ByteArray} (hs : s.size ≤ 4294967280) (h : ∀ c ∈ s.data.toList, wordB c = true) (w : World) : Calls Tryz.prog 95 #[.string s] w fun e w' => e = .returned (.string ⟨(s.data.toList.map lowB).toArray⟩) ∧ Below w.heap.size w w' :=
  Tryz.strings_ToLower_ascii s w (by omega) fun j b hb => word_ascii (h b (List.mem_of_getElem? hb))
theorem extract_far (p : UInt8 → Bool) (s : ByteArray) (k : Nat) : (s.extract k (farN p s.data.toList k)).data.toList = (s.data.toList.drop k).takeWhile p := by
  rw [extract_list, ← between_far, List.drop_take]
theorem far_len (p : UInt8 → Bool) (l : List UInt8) (k : Nat) : farN p l k - k = ((l.drop k).takeWhile p).length := by unfold farN; omega
theorem far_rest (p : UInt8 → Bool) (s : ByteArray) {k : Nat} (hk : k ≤ s.size) : s.size - ((s.data.toList.drop k).dropWhile p).length = farN p s.data.toList k := by
  rw [← drop_far, List.length_drop]
  have := farN_le p s.data.toList k (by simpa using hk)
  simp at this ⊢
  omega
end Go.Proofs.YtcneefmaghoejaaGreatDoor
namespace Go.Proofs.YtcneefmaghoejaaGreatDoor
open Go.ChangeShapes Go.WideShapes Go.ChangeAt Go.RowKit Go.Shelf
set_option linter.unusedVariables false
set_option linter.unusedSimpArgs false
theorem var_later {P : Program} {w w' : World} {n : String} {x : Array Value} (h : w.var? P n = some x) (hb : Below w.heap.size w w') : w'.var? P n = some x := by
  unfold World.var? at *
  cases hg : P.globalNamed n with
  | none => rw [hg] at h; simp at h
  | some g =>
    rw [hg] at h
    simp only [Option.bind_some] at h ⊢
    have : g < w.heap.size := by
      rcases Nat.lt_or_ge g w.heap.size with hlt | hge
      · exact hlt
      · rw [Array.getElem?_eq_none hge] at h; simp at h
    rw [hb.block g this]; exact h
theorem tab_later {P : Program} {w w' : World} {n : String} {k : IntKind} {zs : List Int} (h : Lib.TabIs P w n k zs) (hb : Below w.heap.size w w') : Lib.TabIs P w' n k zs := by
  unfold Lib.TabIs at *
  exact var_later h hb
structure LexEnv (w : World) : Prop where
  space : Lib.TabIs Tryz.prog w "strings.asciiSpace" .u8 Lib.asciiSpaceTab
  range : ∃ tp p, w.var? Tryz.prog "strconv.ErrRange" = some #[.iface tp p]
theorem LexEnv.later {w w' : World} (h : LexEnv w) (hb : Below w.heap.size w w') : LexEnv w' := by
  obtain ⟨tp, p, h2⟩ := h.range
  exact ⟨tab_later h.space hb, tp, p, var_later h2 hb⟩
def Env (B : Nat) (w : World) : Prop := ∃ w0, LexEnv w0 ∧ w0.heap.size = B ∧ Below B w0 w
theorem Env.mk0 {w : World} (h : LexEnv w) : Env w.heap.size w := ⟨w, h, rfl, Below.refl _ _⟩
theorem Env.lib {B : Nat} {w : World} (h : Env B w) : LexEnv w := by
  obtain ⟨w0, h1, rfl, h2⟩ := h
  exact h1.later h2
theorem Env.size {B : Nat} {w : World} (h : Env B w) : B ≤ w.heap.size := by
  obtain ⟨w0, h1, rfl, h2⟩ := h
  exact h2.size
theorem Env.below {B : Nat} {w w' : World} (h : Env B w) (hb : Below B w w') : Env B w' := by
  obtain ⟨w0, h1, h2, h3⟩ := h
  exact ⟨w0, h1, h2, h3.trans hb⟩
theorem Env.later {B : Nat} {w w' : World} (h : Env B w) (hb : Below w.heap.size w w') : Env B w' := h.below (hb.mono h.size)
theorem Env.grown {B g : Nat} {w w' : World} (h : Env B w) (hg : w.grownBy w' (some g)) (hB : B ≤ g) : Env B w' := h.below (below_grown hg h.size hB)
theorem Env.at_ {B g a : Nat} {s : ByteArray} {w w' : World} (h : Env B w) (hg : At s g w a w') (hB : B ≤ g) : Env B w' := h.grown hg.2 hB
theorem parse_ok {s : ByteArray} (hs : s.size ≤ 4294967280) (hne : s.data.toList ≠ []) (hd : ∀ c ∈ s.data.toList, digitB c = true) (h : valL s.data.toList ≤ 9223372036854775807) (w : World) :
    Calls Tryz.prog 96 #[.string s, .int .i64 10, .int .i64 64] w fun e w' => e = .returned (.tuple #[.int .i64 (valL s.data.toList : Int), .nilIface]) ∧ Below w.heap.size w w' := by
  refine (Tryz.strconv_ParseInt_10_at64_ok s (by omega) _ (by rw [int_digits hne hd, if_pos h]) w).mono ?_
  rintro e w' ⟨he, hw⟩
  refine ⟨he, ?_⟩
  rcases hw with rfl | ⟨t, rfl⟩
  · exact Below.refl _ _
  · exact ⟨rfl, rfl, rfl, by rw [Lib.bytesWorld_size]; omega, fun j hj => Lib.bytesWorld_at_old w _ _ j hj⟩
theorem parse_range {B : Nat} {s : ByteArray} (hs : s.size ≤ 4294967280) (hne : s.data.toList ≠ []) (hd : ∀ c ∈ s.data.toList, digitB c = true) (h : ¬ valL s.data.toList ≤ 9223372036854775807) {w : World} (hE : Env B w) :
    Calls Tryz.prog 96 #[.string s, .int .i64 10, .int .i64 64] w fun e w' => (∃ N, e = .returned (.tuple #[.int .i64 9223372036854775807, .iface 155 (.pointer (some ⟨N, 0, none⟩))])) ∧ Below w.heap.size w w' := by
  obtain ⟨tp, p, hv⟩ := hE.lib.range
  refine (Tryz.strconv_ParseInt_10_at64_range_var s (by omega) (by rw [int_digits hne hd, if_neg h]) tp p w hv).mono ?_
  rintro e w' ⟨N, he, _, _, hb⟩
  refine ⟨⟨N, ?_⟩, hb⟩
  have : Lib.intSat 64 s.data.toList = 9223372036854775807 := by
    match hl : s.data.toList with
    | [] => exact absurd hl hne
    | c :: r =>
      have := hd c (by rw [hl]; exact List.mem_cons_self)
      simp [digitB, UInt8.le_iff_toNat_le] at this
      have e2 : ¬ c.toNat = 45 := by omega
      simp [Lib.intSat, e2]
  rw [he, this]
end Go.Proofs.YtcneefmaghoejaaGreatDoor
namespace Go.Proofs.YtcneefmaghoejaaGreatDoor
open Go.ChangeShapes Go.WideShapes Go.ChangeAt Go.RowKit Go.Shelf
set_option linter.unusedVariables false
set_option linter.unusedSimpArgs false
theorem number_front (s : ByteArray) {at_ : Nat} {c : UInt8} {r : List UInt8} (hd : s.data.toList.drop at_ = c :: r) (hc : digitB c = true) :
    (s.extract at_ (farN digitB s.data.toList at_)).data.toList = (c :: r).takeWhile digitB ∧ (c :: r).takeWhile digitB ≠ [] := by
  rw [extract_far, hd]
  exact ⟨rfl, by rw [List.takeWhile_cons, if_pos hc]; simp⟩
theorem far_letter (s : ByteArray) {k : Nat} (hk : k ≤ s.size) : ((s.data.toList.drop k).head?.any letterB = true ↔ k < farN letterB s.data.toList k) := by
  cases h : s.data.toList[k]? with
  | none =>
    rw [List.drop_eq_nil_of_le (by simpa using h), farN_end (by simpa using h)]
    simp
  | some d =>
    rw [drop_at h]
    cases hp : letterB d
    · rw [farN_no h hp]; simp [hp]
    · rw [farN_yes h hp]
      have := farN_ge letterB s.data.toList (k + 1)
      simp [hp]; omega
theorem zero_first {l : List UInt8} (hne : l ≠ []) : (decide (l.length ≤ 1) || !(l.head? == some 48)) = !(l.head? == some 48 && !(l == [48])) := by
  match l with
  | [] => exact absurd rfl hne
  | [c] => by_cases h : c = 48 <;> simp [h]
  | c :: d :: r => by_cases h : c = 48 <;> simp [h]
set_option maxHeartbeats 4000000 in
set_option maxRecDepth 100000 in
theorem number_any (B : Nat) (s : ByteArray) (g at_ : Nat) (w : World) (hE : Env B w) (hB : B ≤ g) (hL : Blk w g 77 (lexV s at_)) (c : UInt8) (r : List UInt8) (hd : s.data.toList.drop at_ = c :: r) (hc : digitB c = true) (hl : letterB c = false) (hs : s.size ≤ 4294967280) :
    Calls Tryz.prog 62 #[.pointer (some ⟨g, 0, none⟩)] w (readP s g at_ w (oneL (c :: r))) := by
  have ha : at_ ≤ s.size := by
    rcases Nat.lt_or_ge s.size at_ with h | h
    · rw [List.drop_eq_nil_of_le (by simp; omega)] at hd; cases hd
    · exact h
  have hone : oneL (c :: r) = if numB ((c :: r).takeWhile digitB) && !(((c :: r).dropWhile digitB).head?.any letterB) then .ok (⟨2, [], valL ((c :: r).takeWhile digitB)⟩, (c :: r).dropWhile digitB) else .error 30 := by
    simp only [oneL, hl, if_pos hc]
    rfl
  obtain ⟨hX, hne⟩ := number_front s hd hc
  have hfl := far_letter s (farN_le digitB s.data.toList at_ (by simpa using ha) |> (by simpa using ·))
  rw [drop_far, hd] at hfl
  have hall : ∀ x ∈ (c :: r).takeWhile digitB, digitB x = true := tw_word _
  have hrest := far_rest digitB s ha
  rw [hd] at hrest
  obtain ⟨c0, c1⟩ := lex_cells hL
  have hlt := hL.lt
  have hle := farN_le digitB s.data.toList at_ (by simpa using ha)
  have hge := farN_ge digitB s.data.toList at_
  simp at hle
  generalize hk : farN digitB s.data.toList at_ = k at *
  generalize hq : (c :: r).takeWhile digitB = q at *
  generalize hrr : (c :: r).dropWhile digitB = rr at *
  generalize hx : oneL (c :: r) = R at *
  have HK := Lib.hid hk
  have HX := Lib.hid hX
  have HALL := Lib.hid hall
  have HFL := Lib.hid hfl
  have HR := Lib.hid hrest
  have HN := Lib.hid hne
  have HZF := Lib.hid (zero_first hne)
  clear hk hq hrr hx hd hX hall hfl hrest hne
  have HONE := Lib.hid hone
  clear hone
  have hsz : q.length = (s.extract at_ k).size := by rw [← HX.out]; simp only [ByteArray.size_data, Array.length_toList]
  have hsz2 : (s.extract at_ k).size ≤ 4294967280 := by rw [ByteArray.size_extract]; omega
  have hpos : 0 < (s.extract at_ k).size := by rw [← hsz]; exact List.length_pos_iff.2 HN.out
  go_enter Tryz.func62, Tryz.ntmps62
  go_wp2_with fail
  refine (far_any digit_asks s at_ at_ g _ (hL.alloc _) ha hs).mono ?_
  rintro e w' ⟨rfl, rfl⟩
  rw [HK.out]
  go_wp2_with fail
  have HA := Lib.hid (hL.alloc (.cells #[.int .u8 0, .string ⟨#[]⟩, .int .i64 0, .int .i64 0] 46))
  have bb := later_new w (.cells #[.int .u8 0, .string ⟨#[]⟩, .int .i64 0, .int .i64 0] 46)
  have HZ := Lib.hid (Blk.new w 46 #[.int .u8 0, .string ⟨#[]⟩, .int .i64 0, .int .i64 0])
  have hne : w.heap.size ≠ g := by omega
  go_quiet (fail)
  generalize s.extract at_ k = x at *
  have bb2 := bb.trans ((drewN_below _ nq).mono bb.size)
  have hcl : At s g w at_ _ := (At.refl hL).later bb2
  have HZ2 := Lib.hid (HZ.out.drewN nq)
  generalize (w.alloc (.cells #[.int .u8 0, .string ⟨#[]⟩, .int .i64 0, .int .i64 0] 46)).drewN nq = W at *
  have HE2 := Lib.hid (hE.later bb2)
  have hx0 : q.head? = some x[0] := by
    rw [← HX.out, List.head?_eq_getElem?]
    exact byte_at x 0 hpos
  have hxl : x.toList = q := by rw [ByteArray.toList_eq]; exact HX.out
  have HX0 := Lib.hid hx0
  have HXL := Lib.hid hxl
  clear hx0 hxl
  go_wp2_with fail
  by_cases hv : valL q ≤ 9223372036854775807
  · refine (parse_ok hsz2 (by rw [HX.out]; exact HN.out) (by rw [HX.out]; exact HALL.out) (by rw [HX.out]; exact hv) _).mono ?_
    rintro e w1 ⟨rfl, b1⟩
    rw [HX.out]
    have hcl1 := hcl.later b1
    have HZ3 := Lib.hid (HZ2.out.later b1)
    obtain ⟨d0, d1⟩ := lex_cells hcl1.1
    have HC1 := Lib.hid hcl1
    clear hcl1
    obtain ⟨z0, z1, z2, z3, y0, y1, y2, y3⟩ := four_facts HZ3.out
    by_cases hb : q.head? = some 48 ∧ q ≠ [48]
    · have HRB : R = .error 30 := by
        rw [HONE.out, if_neg]
        rw [numB, HZF.out]
        simp [hb.1, hb.2]
      have HRB2 := Lib.hid HRB
      clear HRB
      have t1 : (((x[0].toNat : Nat) : Int) == 48) = true := by
        have := HX0.out.symm.trans hb.1
        injection this with this
        rw [this]; rfl
      have t2 : ¬ x.toList = [48] := by rw [HXL.out]; exact hb.2
      have t3 : (x.toList == [48]) = false := by simpa using t2
      clear hb
      go_wp2_with fail
      have HRB := HRB2.out
      refine bodyPost_ret (v := .tuple #[.agg #[.int .u8 0, .string ⟨#[]⟩, .int .i64 0, .int .i64 0], .int .i64 30]) ?_ rfl ?_
      · simp [results, Tryz.results62, go_sem, z0, z1, z2, z3]
      · rw [HRB]
        exact ⟨rfl, (((HC1.out.far (Nat.le_refl _) hne 0 _).far (Nat.le_refl _) hne 1 _ |>.far (Nat.le_refl _) hne 2 _ |>.far (Nat.le_refl _) hne 3 _))⟩
    · by_cases hlt2 : k < farN letterB s.data.toList k
      · have HRB : R = .error 30 := by
          rw [HONE.out, if_neg]
          rw [HFL.out.2 hlt2]
          simp
        have HRB2 := Lib.hid HRB
        clear HRB
        have g2 := decide_eq_true (show (k : Int) < (farN letterB s.data.toList k : Nat) by omega)
        have g3 := decide_eq_true hlt2
        by_cases h48 : x[0] = 48
        · have t1 : (((x[0].toNat : Nat) : Int) == 48) = true := by rw [h48]; rfl
          have t2 : x.toList = [48] := by
            rw [HXL.out]
            by_cases hq : q = [48]
            · exact hq
            · exact absurd ⟨by rw [HX0.out, h48], hq⟩ hb
          have t3 : (x.toList == [48]) = true := by simpa using t2
          clear h48
          go_wp2_with fail
          refine (far_any letter_asks s at_ k g _ HC1.out.1 hle hs).mono ?_
          rintro e w' ⟨rfl, rfl⟩
          go_wp2_with fail
          have HRB := HRB2.out
          refine bodyPost_ret (v := .tuple #[.agg #[.int .u8 0, .string ⟨#[]⟩, .int .i64 0, .int .i64 0], .int .i64 30]) ?_ rfl ?_
          · simp [results, Tryz.results62, go_sem, z0, z1, z2, z3]
          · rw [HRB]
            exact ⟨rfl, (((HC1.out.far (Nat.le_refl _) hne 0 _).far (Nat.le_refl _) hne 1 _ |>.far (Nat.le_refl _) hne 2 _ |>.far (Nat.le_refl _) hne 3 _))⟩
        · have t1 : (((x[0].toNat : Nat) : Int) == 48) = false := by
            rw [beq_eq_false_iff_ne]
            intro h
            exact h48 (UInt8.toNat_inj.1 (by simpa using (by omega : x[0].toNat = 48)))
          clear h48
          go_wp2_with fail
          refine (far_any letter_asks s at_ k g _ HC1.out.1 hle hs).mono ?_
          rintro e w' ⟨rfl, rfl⟩
          go_wp2_with fail
          have HRB := HRB2.out
          refine bodyPost_ret (v := .tuple #[.agg #[.int .u8 0, .string ⟨#[]⟩, .int .i64 0, .int .i64 0], .int .i64 30]) ?_ rfl ?_
          · simp [results, Tryz.results62, go_sem, z0, z1, z2, z3]
          · rw [HRB]
            exact ⟨rfl, (((HC1.out.far (Nat.le_refl _) hne 0 _).far (Nat.le_refl _) hne 1 _ |>.far (Nat.le_refl _) hne 2 _ |>.far (Nat.le_refl _) hne 3 _))⟩
      · have HRB : R = .ok (⟨2, [], valL q⟩, rr) := by
          rw [HONE.out, if_pos]
          have h1 : (rr.head?.any letterB) = false := by
            cases hh : rr.head?.any letterB
            · rfl
            · exact absurd (HFL.out.1 hh) hlt2
          rw [h1, numB, HZF.out]
          simp [hv]
          by_cases hq : q = [48]
          · exact .inr hq
          · exact .inl fun h => hb ⟨h, hq⟩
        have HRB2 := Lib.hid HRB
        clear HRB
        have hfe : farN letterB s.data.toList k = k := by
          have := farN_ge letterB s.data.toList k
          omega
        have HFE := Lib.hid hfe
        clear hfe hlt2
        by_cases h48 : x[0] = 48
        · have t1 : (((x[0].toNat : Nat) : Int) == 48) = true := by rw [h48]; rfl
          have t2 : x.toList = [48] := by
            rw [HXL.out]
            by_cases hq : q = [48]
            · exact hq
            · exact absurd ⟨by rw [HX0.out, h48], hq⟩ hb
          have t3 : (x.toList == [48]) = true := by simpa using t2
          clear h48
          go_wp2_with fail
          refine (far_any letter_asks s at_ k g _ HC1.out.1 hle hs).mono ?_
          rintro e w' ⟨rfl, rfl⟩
          rw [HFE.out]
          go_wp2_with fail
          refine (found_any s g at_ k 2 ⟨#[]⟩ (valL q) 0 _ HC1.out.1).mono ?_
          rintro e w2 ⟨rfl, hat⟩
          clear z0 z1 z2 z3 y0 y1 y2 y3
          obtain ⟨z0, z1, z2, z3, y0, y1, y2, y3⟩ := four_facts (hat.other HZ3.out hne)
          go_wp2_with fail
          refine bodyPost_ret (v := .tuple #[.agg #[.int .u8 2, .string ⟨#[]⟩, .int .i64 (valL q), .int .i64 at_], .int .i64 0]) ?_ rfl ?_
          · simp [results, Tryz.results62, go_sem, z0, z1, z2, z3]
          · rw [HRB2.out]
            refine ⟨rfl, ?_⟩
            show At s g w (s.size - _) _
            rw [HR.out]
            exact (((HC1.out.trans hat).far (Nat.le_refl _) hne 0 _).far (Nat.le_refl _) hne 1 _ |>.far (Nat.le_refl _) hne 2 _ |>.far (Nat.le_refl _) hne 3 _)
        · have t1 : (((x[0].toNat : Nat) : Int) == 48) = false := by
            rw [beq_eq_false_iff_ne]
            intro h
            exact h48 (UInt8.toNat_inj.1 (by simpa using (by omega : x[0].toNat = 48)))
          clear h48
          go_wp2_with fail
          refine (far_any letter_asks s at_ k g _ HC1.out.1 hle hs).mono ?_
          rintro e w' ⟨rfl, rfl⟩
          rw [HFE.out]
          go_wp2_with fail
          refine (found_any s g at_ k 2 ⟨#[]⟩ (valL q) 0 _ HC1.out.1).mono ?_
          rintro e w2 ⟨rfl, hat⟩
          clear z0 z1 z2 z3 y0 y1 y2 y3
          obtain ⟨z0, z1, z2, z3, y0, y1, y2, y3⟩ := four_facts (hat.other HZ3.out hne)
          go_wp2_with fail
          refine bodyPost_ret (v := .tuple #[.agg #[.int .u8 2, .string ⟨#[]⟩, .int .i64 (valL q), .int .i64 at_], .int .i64 0]) ?_ rfl ?_
          · simp [results, Tryz.results62, go_sem, z0, z1, z2, z3]
          · rw [HRB2.out]
            refine ⟨rfl, ?_⟩
            show At s g w (s.size - _) _
            rw [HR.out]
            exact (((HC1.out.trans hat).far (Nat.le_refl _) hne 0 _).far (Nat.le_refl _) hne 1 _ |>.far (Nat.le_refl _) hne 2 _ |>.far (Nat.le_refl _) hne 3 _)
  · have HRB : R = .error 30 := by
      rw [HONE.out, if_neg]
      rw [numB]
      simp [hv]
    have HRB2 := Lib.hid HRB
    clear HRB
    refine (parse_range hsz2 (by rw [HX.out]; exact HN.out) (by rw [HX.out]; exact HALL.out) (by rw [HX.out]; exact hv) HE2.out).mono ?_
    rintro e w1 ⟨⟨N, rfl⟩, b1⟩
    have hcl1 := hcl.later b1
    have HZ3 := Lib.hid (HZ2.out.later b1)
    obtain ⟨d0, d1⟩ := lex_cells hcl1.1
    have HC1 := Lib.hid hcl1
    clear hcl1
    obtain ⟨z0, z1, z2, z3, y0, y1, y2, y3⟩ := four_facts HZ3.out
    go_wp2_with fail
    have HRB := HRB2.out
    refine bodyPost_ret (v := .tuple #[.agg #[.int .u8 0, .string ⟨#[]⟩, .int .i64 0, .int .i64 0], .int .i64 30]) ?_ rfl ?_
    · simp [results, Tryz.results62, go_sem, z0, z1, z2, z3]
    · rw [HRB]
      exact ⟨rfl, (((HC1.out.far (Nat.le_refl _) hne 0 _).far (Nat.le_refl _) hne 1 _ |>.far (Nat.le_refl _) hne 2 _ |>.far (Nat.le_refl _) hne 3 _))⟩
end Go.Proofs.YtcneefmaghoejaaGreatDoor
