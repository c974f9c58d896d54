/- value.words, value.Word. -/
import Derived.Test.YtekedkbjnedhgaaDoorEsc
import Derived.MapKept
import Derived.Laws.EntriesVeiled
namespace Go.Proofs.YtekedkbjnedhgaaDoor
open Go.ChangeShapes Go.WideShapes Go.ChangeAt Go.RowKit
set_option linter.unusedVariables false
set_option linter.unusedSimpArgs false

/-- the table of powers of ten, and the machine's MaxLen -/
def Env (w : World) : Prop := Lib.TabIs Tryd.prog w "internal/strconv.uint64pow10" .u64 Lib.pow10Tab ∧ ∃ m, w.cell? ⟨1, 0, none⟩ = some (.int .i64 m)
theorem tab_later {P : Program} {w w' : World} {n : String} {k : IntKind} {zs : List Int} (h : Lib.TabIs P w n k zs) (hb : Below w.heap.size w w') : Lib.TabIs P w' n k zs := by
  unfold Lib.TabIs World.var? at *
  cases hg : P.globalNamed n with
  | none => rw [hg] at h; simp at h
  | some g =>
    rw [hg] at h
    simp only [Option.bind_some] at h ⊢
    have : g < w.heap.size := by
      rcases Nat.lt_or_ge g w.heap.size with hlt | hge
      · exact hlt
      · rw [Array.getElem?_eq_none hge] at h; simp at h
    rw [hb.block g this]; exact h
theorem cell_lt {w : World} {p : Addr} {v : Value} (h : w.cell? p = some v) : p.block < w.heap.size := by
  rcases Nat.lt_or_ge p.block w.heap.size with hlt | hge
  · exact hlt
  · unfold World.cell? at h; rw [Array.getElem?_eq_none hge] at h; simp at h
theorem Env.later {w w' : World} (h : Env w) (hb : Below w.heap.size w w') : Env w' := by
  obtain ⟨h1, m, h2⟩ := h
  exact ⟨tab_later h1 hb, m, (hb.cell (cell_lt h2)).trans h2⟩

/-- the world with another map at g -/
def setMap (w : World) (g : Nat) (es : Array MapEntry) (c : Nat) : World := { w with heap := w.heap.setIfInBounds g (.map es c) }
theorem setMap_below {B : Nat} {w0 w : World} (h : Below B w0 w) (g : Nat) (hg : B ≤ g) (es : Array MapEntry) (c : Nat) : Below B w0 (setMap w g es c) := by
  refine ⟨h.os, h.tape, h.output, ?_, fun k hk => ?_⟩
  · have := h.size; simp [setMap]; exact this
  · rw [← h.block k hk]
    simp only [setMap, Array.getElem?_setIfInBounds]
    rw [if_neg (by omega)]
theorem setMap_at {w : World} {g : Nat} {es es' : Array MapEntry} {c c' : Nat} (hg : w.heap[g]? = some (.map es c)) : (setMap w g es' c').heap[g]? = some (.map es' c') := by
  rcases Nat.lt_or_ge g w.heap.size with hlt | hge
  · simp [setMap, hlt]
  · rw [Array.getElem?_eq_none hge] at hg; cases hg
theorem key_u8 (e : Bool) (k : Int) (w : World) : (Instr.checkKey e 10000 5 (.int .u8 k)).run Tryd.prog w = .ok () w :=
  MapKept.run_checkKey Tryd.underlying5 (by simp [MapKept.IsKey]) e 9999
/-- a new entry goes in at the end -/
theorem ins_at (w : World) (g : Nat) (es : Array MapEntry) (c : Nat) (hg : w.heap[g]? = some (.map es c)) (k : Int) (v : Value) (hf : Instr.findNow (.int .u8) (.int .u8 k) es.toList 0 = some none) :
    (Instr.mapUpdate 45 (.map (some g)) (.int .u8 k) v).run Tryd.prog w = .ok () (setMap w g (es.push ⟨.int .u8 k, v, c⟩) (c + 1)) := by
  unfold Instr.mapUpdate
  simp only [Sem.run_bind, run_underlying Tryd.underlying45, Result.andThen_ok, MapKept.run_getObj_map hg, key_u8, Instr.findKey, run_underlying Tryd.underlying5, hf, Sem.run_pure, MapKept.run_setObj_map _ hg]
  rfl
theorem look_yes (w : World) (g : Nat) (es : Array MapEntry) (c : Nat) (hg : w.heap[g]? = some (.map es c)) (k : Int) (i : Nat) (v : Value) (hf : Instr.findNow (.int .u8) (.int .u8 k) es.toList 0 = some (some (i, v))) :
    (Instr.lookup 45 (.map (some g)) (.int .u8 k) false).run Tryd.prog w = .ok v w := by
  unfold Instr.lookup
  simp only [Sem.run_bind, run_underlying Tryd.underlying45, Result.andThen_ok, MapKept.run_getObj_map hg, key_u8, Instr.findKey, run_underlying Tryd.underlying5, hf, Sem.run_pure]
  rfl

def wordF : Nat → FuncId
  | 0 => 39
  | 1 => 40
  | 2 => 41
  | _ => 43
def wordFn (k : Nat) : Value := .func (.func (wordF k)) #[] #[]
def wordEs : Array MapEntry := #[⟨.int .u8 0, wordFn 0, 0⟩, ⟨.int .u8 1, wordFn 1, 1⟩, ⟨.int .u8 2, wordFn 2, 2⟩, ⟨.int .u8 3, wordFn 3, 3⟩]
def WordsAt (w : World) (v : Value) : Prop := ∃ g, v = .map (some g) ∧ w.heap[g]? = some (.map wordEs 4)
theorem WordsAt.later {w w' : World} {v : Value} (h : WordsAt w v) (hb : Below w.heap.size w w') : WordsAt w' v := by
  obtain ⟨g, rfl, h⟩ := h
  refine ⟨g, rfl, ?_⟩
  rcases Nat.lt_or_ge g w.heap.size with hlt | hge
  · exact (hb.block g hlt).trans h
  · rw [Array.getElem?_eq_none hge] at h; cases h
set_option maxHeartbeats 1000000 in
theorem words_any (w : World) : Calls Tryd.prog 29 #[] w fun e w' => ∃ v, e = .returned v ∧ WordsAt w' v ∧ Below w.heap.size w w' := by
  have hmm := @run_makeMap Tryd.prog
  have h0 : (w.alloc (.map #[] 0)).heap[w.heap.size]? = some (.map #[] 0) := heap_alloc_new w _
  have i0 := ins_at (w.alloc (.map #[] 0)) w.heap.size #[] 0 h0 0 (wordFn 0) rfl
  have h1 := setMap_at (es' := #[⟨.int .u8 0, wordFn 0, 0⟩]) (c' := 1) h0
  have i1 := ins_at _ w.heap.size _ _ h1 1 (wordFn 1) rfl
  have h2 := setMap_at (es' := #[⟨.int .u8 0, wordFn 0, 0⟩, ⟨.int .u8 1, wordFn 1, 1⟩]) (c' := 2) h1
  have i2 := ins_at _ w.heap.size _ _ h2 2 (wordFn 2) rfl
  have h3 := setMap_at (es' := #[⟨.int .u8 0, wordFn 0, 0⟩, ⟨.int .u8 1, wordFn 1, 1⟩, ⟨.int .u8 2, wordFn 2, 2⟩]) (c' := 3) h2
  have i3 := ins_at _ w.heap.size _ _ h3 3 (wordFn 3) rfl
  have h4 := setMap_at (es' := wordEs) (c' := 4) h3
  have H4 := Lib.hid h4
  clear h4
  simp only [List.push_toArray, List.nil_append, List.cons_append, Nat.reduceAdd, Nat.zero_add] at i0 i1 i2 i3
  simp only [wordFn, wordF] at i0 i1 i2 i3 H4
  clear h0 h1 h2 h3
  have hB := setMap_below (setMap_below (setMap_below (setMap_below (later_new w (.map #[] 0)) w.heap.size (Nat.le_refl _) #[⟨.int .u8 0, wordFn 0, 0⟩] 1) w.heap.size (Nat.le_refl _) #[⟨.int .u8 0, wordFn 0, 0⟩, ⟨.int .u8 1, wordFn 1, 1⟩] 2) w.heap.size (Nat.le_refl _) #[⟨.int .u8 0, wordFn 0, 0⟩, ⟨.int .u8 1, wordFn 1, 1⟩, ⟨.int .u8 2, wordFn 2, 2⟩] 3) w.heap.size (Nat.le_refl _) wordEs 4
  have HB := Lib.hid hB
  clear hB
  go_enter Tryd.func29, Tryd.ntmps29
  go_wp2_with fail
  refine bodyPost_ret (v := .map (some w.heap.size)) ?_ rfl ?_
  · simp [results, Tryd.results29, go_sem]
  · exact ⟨_, rfl, ⟨_, rfl, H4.out⟩, HB.out⟩

/-- a value's word -/
def wordL (v : Val) : List UInt8 :=
  if good v then (if v.k = 0 then [78, 85, 76, 76] else if v.k = 1 then (if v.n = 1 then [84, 82, 85, 69] else [70, 65, 76, 83, 69]) else if v.k = 2 then Lib.itoa v.n else 39 :: (esc v.s.data.toList ++ [39])) else [63]
def strOf (l : List UInt8) : Value := .string ⟨l.toArray⟩

theorem word1_any (v : Val) (w : World) : Calls Tryd.prog 39 #[.agg #[.int .u8 v.k, .int .i64 v.n, .string v.s]] w fun e w' => e = .returned (strOf [78, 85, 76, 76]) ∧ Below w.heap.size w w' := by
  go_enter Tryd.func39, Tryd.ntmps39
  go_wp2_with fail
  go_ret
  exact ⟨rfl, by go_grown⟩
set_option maxRecDepth 100000 in
theorem word2_no (v : Val) (w : World) (h : v.n = 0) : Calls Tryd.prog 40 #[.agg #[.int .u8 v.k, .int .i64 v.n, .string v.s]] w fun e w' => e = .returned (strOf [70, 65, 76, 83, 69]) ∧ Below w.heap.size w w' := by
  rw [h]
  have ix0 : ∀ u : World, (Instr.index 57 (.agg #[.string ⟨#[70, 65, 76, 83, 69]⟩, .string ⟨#[84, 82, 85, 69]⟩]) (.int .i64 0)).run Tryd.prog u = .ok (.string ⟨#[70, 65, 76, 83, 69]⟩) u := fun u => by kernel_rfl
  have ix1 : ∀ u : World, (Instr.index 57 (.agg #[.string ⟨#[70, 65, 76, 83, 69]⟩, .string ⟨#[84, 82, 85, 69]⟩]) (.int .i64 1)).run Tryd.prog u = .ok (.string ⟨#[84, 82, 85, 69]⟩) u := fun u => by kernel_rfl
  go_enter Tryd.func40, Tryd.ntmps40
  go_wp2_with fail
  go_ret
  exact ⟨rfl, by go_grown⟩
set_option maxRecDepth 100000 in
theorem word2_yes (v : Val) (w : World) (h : v.n = 1) : Calls Tryd.prog 40 #[.agg #[.int .u8 v.k, .int .i64 v.n, .string v.s]] w fun e w' => e = .returned (strOf [84, 82, 85, 69]) ∧ Below w.heap.size w w' := by
  rw [h]
  have ix0 : ∀ u : World, (Instr.index 57 (.agg #[.string ⟨#[70, 65, 76, 83, 69]⟩, .string ⟨#[84, 82, 85, 69]⟩]) (.int .i64 0)).run Tryd.prog u = .ok (.string ⟨#[70, 65, 76, 83, 69]⟩) u := fun u => by kernel_rfl
  have ix1 : ∀ u : World, (Instr.index 57 (.agg #[.string ⟨#[70, 65, 76, 83, 69]⟩, .string ⟨#[84, 82, 85, 69]⟩]) (.int .i64 1)).run Tryd.prog u = .ok (.string ⟨#[84, 82, 85, 69]⟩) u := fun u => by kernel_rfl
  go_enter Tryd.func40, Tryd.ntmps40
  go_wp2_with fail
  go_ret
  exact ⟨rfl, by go_grown⟩
theorem drewN_below (w : World) : ∀ k, Below w.heap.size w (w.drewN k)
  | 0 => Below.refl _ _
  | k + 1 => (drewN_below w k).drew
theorem grow_later (w : World) (k : Nat) (os : Array Obj) : Below w.heap.size w («Sort».grow (w.drewN k) os) := by
  have h := drewN_below w k
  refine ⟨h.os, h.tape, h.output, ?_, fun i hi => ?_⟩
  · have := h.size
    simp [«Sort».grow]
  · rw [← h.block i hi]
    have := h.size
    simp only [«Sort».grow]
    rw [Array.getElem?_append_left (by omega)]
theorem word3_any (v : Val) (hv : v.Ok) (w : World) (hE : Env w) : Calls Tryd.prog 41 #[.agg #[.int .u8 v.k, .int .i64 v.n, .string v.s]] w fun e w' => e = .returned (strOf (Lib.itoa v.n)) ∧ Below w.heap.size w w' := by
  go_enter Tryd.func41, Tryd.ntmps41
  go_wp2_with fail
  have bb := later_new w (.cells #[.int .u8 v.k, .int .i64 v.n, .string v.s] 23)
  generalize w.alloc (.cells #[.int .u8 v.k, .int .i64 v.n, .string v.s] 23) = W at *
  refine (Tryd.strconv_FormatInt_10 v.n hv.1 hv.2 W (hE.later bb).1).mono ?_
  rintro e w1 ⟨rfl, k, os, rfl⟩
  have b1 := grow_later W k os
  generalize «Sort».grow (W.drewN k) os = W1 at *
  go_wp2_with fail
  go_ret
  exact ⟨rfl, Later.then bb b1⟩
theorem quoted (E : List UInt8) : (⟨#[39]⟩ : ByteArray) ++ ⟨E.toArray⟩ ++ ⟨#[39]⟩ = ⟨(39 :: (E ++ [39])).toArray⟩ := by
  apply ByteArray.ext
  simp
theorem word4_any (v : Val) (hs : v.s.size < 4294967281) (w : World) (hE : Env w) : Calls Tryd.prog 43 #[.agg #[.int .u8 v.k, .int .i64 v.n, .string v.s]] w fun e w' => e = .returned (strOf (39 :: (esc v.s.data.toList ++ [39]))) ∧ Below w.heap.size w w' := by
  go_enter Tryd.func43, Tryd.ntmps43
  go_wp2_with fail
  have bb := later_new w (.cells #[.int .u8 v.k, .int .i64 v.n, .string v.s] 23)
  generalize w.alloc (.cells #[.int .u8 v.k, .int .i64 v.n, .string v.s] 23) = W at *
  obtain ⟨m, hm⟩ := (hE.later bb).2
  refine (Tryd.strings_ReplaceAll v.s ⟨#[39]⟩ ⟨#[39, 39]⟩ m W hs hm (by decide) ?_).mono ?_
  · have := Lib.count_le v.s.data.toList [39]
    have h2 : Lib.countB v.s ⟨#[39]⟩ ≤ v.s.size + 1 := by simpa using this
    have h3 : (⟨#[39, 39]⟩ : ByteArray).size = 2 := rfl
    rw [h3]
    omega
  rintro e w1 ⟨rfl, b1⟩
  simp only [replaceAll_esc]
  have hl := esc_len v.s.data.toList
  have hl2 : v.s.data.toList.length = v.s.size := by simp
  have t1 : (esc v.s.data.toList).length ≤ 8589934562 := by omega
  clear hl hl2
  have HQ := Lib.hid (quoted (esc v.s.data.toList))
  generalize hEq : esc v.s.data.toList = E at *
  have HE := Lib.hid hEq
  clear hEq
  have n1 := decide_eq_false (show ¬ 9223372036854775807 < 1 + E.length by omega)
  go_wp2_with fail
  go_ret
  exact ⟨by rw [HE.out]; exact congrArg (fun x => Ending.returned (.string x)) HQ.out, Later.then bb b1⟩

def wdV (g : Nat) (v : Val) (K : Nat) : Nat → World → Value → Prop
  | 0, w, u => WordsAt w u
  | 1, _, u => u = .pointer (some ⟨g, 0, none⟩)
  | 2, _, u => u = .int .u8 K
  | 3, _, u => u = wordFn K
  | 4, _, u => u = valV v
  | _, _, _ => False
theorem wdV_stays (g : Nat) (v : Val) (K : Nat) : ∀ i w w' u, wdV g v K i w u → Later w w' → wdV g v K i w' u := by
  intro i w w' u h hl
  match i with
  | 0 => exact WordsAt.later h hl
  | 1 => exact h
  | 2 => exact h
  | 3 => exact h
  | 4 => exact h
  | _ + 5 => exact h
def wordPost (l : List UInt8) (w : World) (e : Ending) (w' : World) : Prop := e = .returned (strOf l) ∧ Below w.heap.size w w'
theorem word_fn (v : Val) (K : Nat) (hK : K ≤ 3) (hk : v.k = K) (hg : good v = true) (hv : v.Ok) (hs : v.s.size < 4294967281) (w : World) (hE : Env w) : Calls Tryd.prog (wordF K) #[valV v] w (wordPost (wordL v) w) := by
  unfold wordL wordPost
  rw [if_pos hg]
  match K with
  | 0 =>
    rw [if_pos (by simpa using hk)]
    exact word1_any v w
  | 1 =>
    rw [if_neg (by rw [hk]; decide), if_pos (by simpa using hk)]
    by_cases hn : v.n = 1
    · rw [if_pos hn]; exact word2_yes v w hn
    · rw [if_neg hn]
      refine word2_no v w ?_
      unfold good at hg
      rw [if_neg (by rw [hk]; decide), if_pos (by simpa using hk)] at hg
      simp only [Bool.and_eq_true, Bool.or_eq_true, beq_iff_eq] at hg
      exact hg.2.resolve_right hn
  | 2 =>
    rw [if_neg (by rw [hk]; decide), if_neg (by rw [hk]; decide), if_pos (by simpa using hk)]
    exact word3_any v hv w hE
  | 3 =>
    rw [if_neg (by rw [hk]; decide), if_neg (by rw [hk]; decide), if_neg (by rw [hk]; decide)]
    exact word4_any v hs w hE
  | _ + 4 => omega
theorem word_find (K : Nat) (hK : K ≤ 3) : Instr.findNow (.int .u8) (.int .u8 K) wordEs.toList 0 = some (some (K, wordFn K)) := by
  match K with
  | 0 => rfl
  | 1 => rfl
  | 2 => rfl
  | 3 => rfl
  | _ + 4 => omega
theorem good_kind {v : Val} (h : good v = true) : ∃ K : Nat, K ≤ 3 ∧ v.k = K := by
  unfold good at h
  by_cases h0 : v.k = 0
  · exact ⟨0, by omega, by simpa using h0⟩
  · by_cases h1 : v.k = 1
    · exact ⟨1, by omega, by simpa using h1⟩
    · by_cases h2 : v.k = 2
      · exact ⟨2, by omega, by simpa using h2⟩
      · by_cases h3 : v.k = 3
        · exact ⟨3, by omega, by simpa using h3⟩
        · simp [h0, h1, h2, h3] at h

set_option maxHeartbeats 1000000 in
set_option maxRecDepth 100000 in
theorem word_any (v : Val) (hv : v.Ok) (hs : v.s.size < 4294967281) (w : World) (hE : Env w) : Calls Tryd.prog 13 #[.agg #[.int .u8 v.k, .int .i64 v.n, .string v.s]] w (wordPost (wordL v) w) := by
  have hbk := Blk.new w 23 #[.int .u8 v.k, .int .i64 v.n, .string v.s]
  have bb := later_new w (.cells #[.int .u8 v.k, .int .i64 v.n, .string v.s] 23)
  cases hg : good v
  · have HW := Lib.hid (show wordL v = [63] by unfold wordL; rw [hg]; rfl)
    go_enter Tryd.func13, Tryd.ntmps13
    go_wp2_with fail
    generalize w.alloc (.cells #[.int .u8 v.k, .int .i64 v.n, .string v.s] 23) = W at *
    refine (good_any v W).mono ?_
    rintro e w1 ⟨rfl, b1⟩
    rw [hg]
    go_wp2_with fail
    go_ret
    exact ⟨by rw [HW.out]; rfl, Later.then bb b1⟩
  · obtain ⟨K, hK, hk⟩ := good_kind hg
    have HK := Lib.hid hk
    clear hk
    go_enter Tryd.func13, Tryd.ntmps13
    go_wp2_with fail
    generalize w.alloc (.cells #[.int .u8 v.k, .int .i64 v.n, .string v.s] 23) = W at *
    refine (good_any v W).mono ?_
    rintro e w1 ⟨rfl, b1⟩
    rw [hg]
    go_wp2_with fail
    have hB1 := Later.then bb b1
    have hbk1 := hbk.later b1
    refine region_by 5 (wdV w.heap.size v K) (wdV_stays _ _ _) (by kernel_rfl) (by kernel_rfl) (by kernel_rfl) ?_ ?_
    · simp only [List.take_succ_cons, List.take_zero]
      refine ⟨?_, ?_, ?_, ?_, ?_, trivial⟩
      · intro ρ w3 hc hL hr
        have e1 := hc.func 29
        refine opW_call (f := 29) (args := #[]) (w' := w3) (by simp [go_sem, e1]) ?_
        refine (words_any w3).mono ?_
        rintro e w4 ⟨u, rfl, hu, b4⟩
        exact ⟨_, rfl, b4, hu⟩
      · intro ρ w3 hc hL hr
        have h1 : ρ (.tmp 1) = .pointer (some ⟨w.heap.size, 0, none⟩) := hr.1
        exact opW_run (w' := w3) (by simp [go_sem, h1]) ⟨Later.refl _, rfl⟩
      · intro ρ w3 hc hL hr
        have h1 : ρ (.tmp 7) = .pointer (some ⟨w.heap.size, 0, none⟩) := hr.1
        have c0 := (hbk1.later hL).cell 0
        simp only [List.getElem?_toArray, List.getElem?_cons_zero, List.getElem?_cons_succ] at c0
        exact opW_run (v := .int .u8 v.k) (w' := w3) (by simp [go_sem, h1, c0]) ⟨Later.refl _, by rw [HK.out]; rfl⟩
      · intro ρ w3 hc hL hr
        obtain ⟨g, h1, hg1⟩ : ∃ g, ρ (.tmp 6) = .map (some g) ∧ w3.heap[g]? = some (.map wordEs 4) := hr.1
        have h2 : ρ (.tmp 8) = .int .u8 K := hr.2.1
        have lk := look_yes w3 g wordEs 4 hg1 K K (wordFn K) (word_find K hK)
        exact opW_run (v := wordFn K) (w' := w3) (by simp [go_sem, h1, h2, lk]) ⟨Later.refl _, rfl⟩
      · intro ρ w3 hc hL hr
        have h1 : ρ (.tmp 1) = .pointer (some ⟨w.heap.size, 0, none⟩) := hr.1
        have c0 := val_cells (hbk1.later hL)
        exact opW_run (v := valV v) (w' := w3) (by simp [go_sem, h1, c0, valV]) ⟨Later.refl _, rfl⟩
    · intro w3 hL
      simp only [List.take_succ_cons, List.take_zero, List.drop_succ_cons, List.drop_zero]
      intro a0 h0 a1 h1 a2 h2 a3 h3 a4 h4
      have h3 : wordFn K = a3 := Eq.symm h3
      have h4 : valV v = a4 := Eq.symm h4
      subst h3 h4
      clear h0 h1 h2
      have hE3 := (hE.later hB1).later hL
      have hB3 := Later.then hB1 hL
      have hf := word_fn v K hK HK.out hg hv hs w3 hE3
      clear hE hE3
      have hcase : K = 0 ∨ K = 1 ∨ K = 2 ∨ K = 3 := by omega
      rcases hcase with rfl | rfl | rfl | rfl
      all_goals
        simp only [wordF, valV] at hf
        simp only [FinOf, Act.put, List.setIfInBounds_toArray, List.set_cons_succ, List.set_cons_zero, wordFn, wordF, valV]
        go_wp2_with fail
        refine hf.mono ?_
        rintro e w4 ⟨rfl, b4⟩
        go_wp2_with fail
        go_ret
        exact ⟨rfl, Later.then hB3 b4⟩

end Go.Proofs.YtekedkbjnedhgaaDoor
