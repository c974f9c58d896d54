/- Parts of the proof: LexM, Nam, LexX. Put together by slim.py. -/
import Derived.Test.YtcneefmaghoejaaGreatDoorB11
namespace Go.Proofs.YtcneefmaghoejaaGreatDoor
open Go.ChangeShapes Go.WideShapes Go.ChangeAt Go.RowKit Go.Shelf
set_option linter.unusedVariables false
set_option linter.unusedSimpArgs false
def setMap (w : World) (g : Nat) (es : Array MapEntry) (c : Nat) : World := { w with heap := w.heap.setIfInBounds g (.map es c) }
theorem setMap_below {B : Nat} {w0 w : World} (h : Below B w0 w) (g : Nat) (hg : B ≤ g) (es : Array MapEntry) (c : Nat) : Below B w0 (setMap w g es c) := by
  refine ⟨h.os, h.tape, h.output, ?_, fun k hk => ?_⟩
  · have := h.size; simp [setMap]; exact this
  · rw [← h.block k hk]
    simp only [setMap, Array.getElem?_setIfInBounds]
    rw [if_neg (by omega)]
theorem setMap_at {w : World} {g : Nat} {es es' : Array MapEntry} {c c' : Nat} (hg : w.heap[g]? = some (.map es c)) : (setMap w g es' c').heap[g]? = some (.map es' c') := by
  rcases Nat.lt_or_ge g w.heap.size with hlt | hge
  · simp [setMap, hlt]
  · rw [Array.getElem?_eq_none hge] at hg; cases hg
theorem setMap_far {w : World} {g q : Nat} (es : Array MapEntry) (c : Nat) (h : g ≠ q) : (setMap w g es c).heap[q]? = w.heap[q]? := by
  simp only [setMap, Array.getElem?_setIfInBounds]
  rw [if_neg h]
def entry (x : List UInt8) (i : Nat) : MapEntry := ⟨.string ⟨x.toArray⟩, .bool true, i⟩
def entriesFrom : List (List UInt8) → Nat → List MapEntry
  | [], _ => []
  | x :: l, i => entry x i :: entriesFrom l (i + 1)
theorem entries_snoc (x : List UInt8) : ∀ (l : List (List UInt8)) (i : Nat), entriesFrom (l ++ [x]) i = entriesFrom l i ++ [entry x (i + l.length)]
  | [], i => rfl
  | y :: l, i => by
    simp only [List.cons_append, entriesFrom, entries_snoc x l (i + 1), List.length_cons]
    rw [show i + 1 + l.length = i + (l.length + 1) by omega]
theorem bytes_beq (a b : ByteArray) : (a == b) = (a.data.toList == b.data.toList) := by
  rcases a with ⟨⟨a⟩⟩
  rcases b with ⟨⟨b⟩⟩
  show ((⟨a⟩ : Array UInt8) == ⟨b⟩) = (a == b)
  simp
theorem find_words (k : ByteArray) : ∀ (l : List (List UInt8)) (i j : Nat), if l.contains k.data.toList = true then ∃ n, Instr.findNow .string (.string k) (entriesFrom l i) j = some (some (n, .bool true)) else Instr.findNow .string (.string k) (entriesFrom l i) j = some none
  | [], i, j => by simp [entriesFrom, Instr.findNow]
  | x :: l, i, j => by
    have ih := find_words k l (i + 1) (j + 1)
    have e : Instr.sameNow .string (.string k) (entry x i).key = some (k.data.toList == x) := by
      show some (k == (⟨x.toArray⟩ : ByteArray)) = _
      rw [bytes_beq]
    rw [List.contains_cons]
    cases hx : (k.data.toList == x)
    · rw [Bool.false_or]
      have e2 : Instr.findNow .string (.string k) (entriesFrom (x :: l) i) j = Instr.findNow .string (.string k) (entriesFrom l (i + 1)) (j + 1) := by
        simp only [entriesFrom, Instr.findNow, e, hx]
      rw [e2]
      exact ih
    · rw [Bool.true_or, if_pos rfl]
      exact ⟨j, by simp only [entriesFrom, Instr.findNow, e, hx]; rfl⟩
def MapOf (w : World) (g : Nat) (l : List (List UInt8)) : Prop := w.heap[g]? = some (.map (entriesFrom l 0).toArray l.length)
theorem key_string (e : Bool) (k : ByteArray) (w : World) : (Instr.checkKey e 10000 9 (.string k)).run Tryz.prog w = .ok () w :=
  MapKept.run_checkKey Tryz.underlying9 (by simp [MapKept.IsKey]) e 9999
theorem run_put_word {w : World} {g : Nat} {l : List (List UInt8)} (hg : MapOf w g l) {x : List UInt8} (hx : l.contains x = false) :
    (Instr.mapUpdate 103 (.map (some g)) (.string ⟨x.toArray⟩) (.bool true)).run Tryz.prog w = .ok () (setMap w g (entriesFrom (l ++ [x]) 0).toArray (l.length + 1)) := by
  have hf := find_words ⟨x.toArray⟩ l 0 0
  rw [if_neg (by simpa using hx)] at hf
  unfold Instr.mapUpdate
  simp only [Sem.run_bind, run_underlying Tryz.underlying103, Result.andThen_ok, MapKept.run_getObj_map hg, key_string, Instr.findKey, run_underlying Tryz.underlying9, hf, Sem.run_pure, MapKept.run_setObj_map _ hg]
  rw [entries_snoc]
  simp [setMap, entry]
theorem run_look_word {w : World} {g : Nat} {l : List (List UInt8)} (hg : MapOf w g l) (k : ByteArray) :
    (Instr.lookup 103 (.map (some g)) (.string k) false).run Tryz.prog w = .ok (.bool (l.contains k.data.toList)) w := by
  have hf := find_words k l 0 0
  unfold Instr.lookup
  cases hc : l.contains k.data.toList
  · rw [if_neg (by rw [hc]; decide)] at hf
    simp only [Sem.run_bind, run_underlying Tryz.underlying103, Result.andThen_ok, MapKept.run_getObj_map hg, key_string, Instr.findKey, run_underlying Tryz.underlying9, hf, Sem.run_pure, Tryz.zeroValue4]
    rfl
  · rw [if_pos hc] at hf
    obtain ⟨n, hf⟩ := hf
    simp only [Sem.run_bind, run_underlying Tryz.underlying103, Result.andThen_ok, MapKept.run_getObj_map hg, key_string, Instr.findKey, run_underlying Tryz.underlying9, hf, Sem.run_pure]
    rfl
def resS : ByteArray := ⟨(([97, 110, 100, 32, 97, 115, 32, 98, 121, 32, 99, 97, 108, 108, 32, 99, 114, 101, 97, 116, 101, 32, 100, 101, 108, 101, 116, 101, 32, 100, 101, 115, 99, 32, 100].append [114, 111, 112, 32, 102, 97, 108, 115, 101, 32, 102, 114, 111, 109, 32, 103, 114, 111, 117, 112, 32, 104, 97, 118, 105, 110, 103, 32, 105, 110, 115, 101, 114, 116, 32, 105]).append ([110, 116, 111, 32, 105, 115, 32, 108, 105, 109, 105, 116, 32, 110, 111, 116, 32, 110, 117, 108, 108, 32, 111, 110, 108, 121, 32, 111, 114, 32, 111, 114, 100, 101, 114].append [32, 115, 101, 108, 101, 99, 116, 32, 115, 101, 116, 32, 116, 114, 117, 101, 32, 117, 112, 100, 97, 116, 101, 32, 118, 97, 108, 117, 101, 115, 32, 119, 104, 101, 114, 101])).toArray⟩
theorem res_fields : Lib.fields resS.data.toList = resL := by decide +kernel
theorem res_len : resL.length = 27 := by decide +kernel
theorem res_at {i : Nat} (hi : i < 27) : ∃ x, resL[i]? = some x ∧ resL.take (i + 1) = resL.take i ++ [x] ∧ (resL.take i).contains x = false := by
  have hlt : i < resL.length := by rw [res_len]; exact hi
  refine ⟨resL[i], List.getElem?_eq_getElem hlt, by rw [List.take_succ_eq_append_getElem hlt], ?_⟩
  have key : (List.range 27).all (fun i => !(resL.take i).contains (resL.getD i [])) = true := by decide +kernel
  have := List.all_eq_true.1 key i (List.mem_range.2 hi)
  rw [List.getD_eq_getElem?_getD, List.getElem?_eq_getElem hlt] at this
  simpa using this
structure ResAt (w : World) (i : Nat) (wr : World) : Prop where
  map : MapOf wr w.heap.size (resL.take i)
  rds : Blk wr (w.heap.size + 1) 9 (resL.map fun l => Value.string ⟨l.toArray⟩).toArray
  bel : Below w.heap.size w wr
set_option maxHeartbeats 4000000 in
set_option maxRecDepth 100000 in
theorem reserved_any {B : Nat} (w : World) (hE : Env B w) : Calls Tryz.prog 66 #[] w fun e w' => e = .returned (.map (some w.heap.size)) ∧ MapOf w' w.heap.size resL ∧ Below w.heap.size w w' := by
  have hmm := @run_makeMap Tryz.prog
  go_enter Tryz.func66, Tryz.ntmps66
  go_wp2_with fail
  have b0 := later_new w (.map #[] 0)
  refine (fields_any resS resL res_fields (by decide +kernel) (by decide +kernel) (hE.later b0)).mono ?_
  rintro e w1 ⟨rfl, rfl⟩
  rw [res_len]
  have hR : ResAt w 0 ((w.alloc (.map #[] 0)).alloc (.cells (resL.map fun l => Value.string ⟨l.toArray⟩).toArray 9)) := by
    refine ⟨?_, ?_, b0.trans (((Below.refl _ _).alloc (Nat.le_refl _) _).mono b0.size)⟩
    · exact (Below.heap_alloc _ _ _ (by simp)).trans (heap_alloc_new w _)
    · have := Blk.new (w.alloc (.map #[] 0)) 9 (resL.map fun l => Value.string ⟨l.toArray⟩).toArray
      simpa using this
  have hs1 : (w.alloc (.map #[] 0)).heap.size = w.heap.size + 1 := by simp
  rw [hs1]
  generalize (w.alloc (.map #[] 0)).alloc (.cells (resL.map fun l => Value.string ⟨l.toArray⟩).toArray 9) = W at *
  have HR := Lib.hid hR
  clear hR hs1 b0
  go_wp2_with fail
  go_loopw [7] (fun u wr => ∃ i : Nat, i ≤ 27 ∧ u = .int .i64 i ∧ ResAt w i wr) (fun u _ => 27 - (intOf u).toNat)
  case atStart => exact ⟨0, by omega, rfl, HR.out⟩
  case round =>
    obtain ⟨i, hi, rfl, hr⟩ := hrel
    have HR2 := Lib.hid hr
    clear hr
    by_cases hlt : i < 27
    · obtain ⟨x, hx, htk, hc⟩ := res_at hlt
      have hcell := HR2.out.rds.cell i
      have hx2 : (resL.map fun l => Value.string ⟨l.toArray⟩).toArray[i]? = some (.string ⟨x.toArray⟩) := by simp [hx]
      rw [hx2] at hcell
      have hput := run_put_word HR2.out.map hc
      have HTK := Lib.hid htk
      clear hx htk hc hx2
      go_wp2_with fail
      go_roundw
      case rel =>
        refine ⟨i + 1, by omega, by go_num, ?_, ?_, ?_⟩
        · rw [HTK.out]
          have := setMap_at (es' := (entriesFrom (resL.take i ++ [x]) 0).toArray) (c' := (resL.take i).length + 1) HR2.out.map
          unfold MapOf
          rw [List.length_append, List.length_singleton]
          rw [← List.length_take]
          exact this
        · exact (setMap_far _ _ (by omega)).trans HR2.out.rds
        · exact setMap_below HR2.out.bel _ (Nat.le_refl _) _ _
      case measure => simp [intOf]; omega
    · obtain rfl : i = 27 := by omega
      go_wp2_with fail
      refine bodyPost_ret (v := .map (some w.heap.size)) ?_ rfl ⟨rfl, ?_, HR2.out.bel⟩
      · simp [results, Tryz.results66, go_sem]
      · have := HR2.out.map
        rwa [List.take_of_length_le (Nat.le_of_eq res_len)] at this
theorem resB_contains (l : List UInt8) : resL.contains l = resB l := rfl
set_option maxHeartbeats 4000000 in
set_option maxRecDepth 100000 in
theorem Reserved_any {B : Nat} (s : ByteArray) (w : World) (hE : Env B w) : Calls Tryz.prog 33 #[.string s] w fun e w' => e = .returned (.bool (resB s.data.toList)) ∧ Below w.heap.size w w' := by
  go_enter Tryz.func33, Tryz.ntmps33
  go_wp2_with fail
  refine (reserved_any w hE).mono ?_
  rintro e w1 ⟨rfl, hm, b1⟩
  have hl := run_look_word hm s
  rw [resB_contains] at hl
  clear hm
  go_wp2_with fail
  go_ret
  exact ⟨rfl, b1⟩
end Go.Proofs.YtcneefmaghoejaaGreatDoor
namespace Go.Proofs.YtcneefmaghoejaaGreatDoor
open Go.ChangeShapes Go.WideShapes Go.ChangeAt Go.RowKit Go.Shelf
set_option linter.unusedVariables false
set_option linter.unusedSimpArgs false
theorem cap_cases (c : UInt8) : (capB c = true ∧ decide ((65 : Int) ≤ c.toNat) = true ∧ decide ((c.toNat : Int) ≤ 90) = true) ∨ (capB c = false ∧ decide ((65 : Int) ≤ c.toNat) = true ∧ decide ((c.toNat : Int) ≤ 90) = false) ∨ (capB c = false ∧ decide ((65 : Int) ≤ c.toNat) = false) := by
  have e : capB c = (decide ((65 : Int) ≤ c.toNat) && decide ((c.toNat : Int) ≤ 90)) := by
    rw [Bool.eq_iff_iff]
    simp only [capB, UInt8.le_iff_toNat_le, Bool.and_eq_true, decide_eq_true_eq]
    simp
    omega
  rw [e]
  by_cases h1 : (65 : Int) ≤ c.toNat <;> by_cases h2 : (c.toNat : Int) ≤ 90 <;> simp [h1, h2]
def okC (c : UInt8) : Bool := !capB c && wordB c
theorem nameB_eq {s : ByteArray} (h0 : 0 < s.size) : nameB s.data.toList = (decide (s.size ≤ 32) && !resB s.data.toList && !digitB s[0] && s.data.toList.all okC) := by
  have h1 := byte_at s 0 h0
  have hlen : s.data.toList.length = s.size := by simp
  match hl : s.data.toList with
  | [] => rw [hl] at hlen; simp at hlen; omega
  | c :: r =>
    rw [hl] at h1 hlen
    simp only [List.getElem?_cons_zero, Option.some.injEq] at h1
    rw [← h1, ← hlen]
    rfl
theorem nameB_nil {s : ByteArray} (h0 : ¬ 0 < s.size) : nameB s.data.toList = false := by
  have hlen : s.data.toList.length = s.size := by simp
  match hl : s.data.toList with
  | [] => rfl
  | c :: r => rw [hl] at hlen; simp at hlen; omega
theorem all_at {s : ByteArray} {p : UInt8 → Bool} {i : Nat} (hi : i < s.size) : (s.data.toList.drop i).all p = (p s[i] && (s.data.toList.drop (i + 1)).all p) := by
  rw [drop_at (byte_at s i hi), List.all_cons]
theorem all_end {s : ByteArray} {p : UInt8 → Bool} {i : Nat} (hi : ¬ i < s.size) : (s.data.toList.drop i).all p = true := by
  rw [List.drop_eq_nil_of_le (by simp; omega)]; rfl
theorem empty_size {s : ByteArray} (h : 0 < s.size) : ¬ s.toList = [] := by
  intro e
  rw [ByteArray.toList_eq] at e
  have : s.data.toList.length = s.size := by simp
  rw [e] at this
  simp at this
  omega
theorem empty_of {s : ByteArray} (h : ¬ 0 < s.size) : s = ⟨#[]⟩ := by
  rcases s with ⟨⟨l⟩⟩
  cases l with
  | nil => rfl
  | cons c r => exact absurd (by simp [ByteArray.size]) h
def namePost (b : Bool) (w : World) (e : Ending) (w' : World) : Prop := e = .returned (.bool b) ∧ Below w.heap.size w w'
set_option maxHeartbeats 4000000 in
set_option maxRecDepth 100000 in
theorem Name_any {B : Nat} (s : ByteArray) (w : World) (hE : Env B w) (hs : s.size ≤ 4294967280) : Calls Tryz.prog 15 #[.string s] w (namePost (nameB s.data.toList) w) := by
  by_cases h0 : 0 < s.size
  · have hne := empty_size h0
    have hne2 : (s.toList == []) = false := by simpa using hne
    have hne3 : (!s.toList.isEmpty) = true := by simpa using hne
    have HEQ := Lib.hid (nameB_eq h0)
    generalize nameB s.data.toList = R at *
    by_cases h32 : s.size ≤ 32
    · have hr := @Reserved_any B s w hE
      cases hres : resB s.data.toList
      · rw [hres] at hr
        have HRES := Lib.hid hres
        have HR := Lib.hid hr
        clear hres hr
        cases hd0 : digitB s[0]
        · have HD0 := Lib.hid hd0
          clear hd0
          go_enter Tryz.func15, Tryz.ntmps15
          go_wp2_with fail
          refine HR.out.mono ?_
          rintro e w1 ⟨rfl, b1⟩
          go_wp2_with (go_at_call 34; refine (digit_any s[0] _).mono ?_; rintro e w' ⟨rfl, rfl⟩; rw [HD0.out])
          go_loop [23] (fun u => ∃ i : Nat, i ≤ s.size ∧ u = .int .i64 i ∧ R = (s.data.toList.drop i).all okC) (fun u => s.size - (intOf u).toNat)
          case atStart => exact ⟨0, by omega, rfl, by rw [HEQ.out, HRES.out, HD0.out]; simp [h32]⟩
          case round =>
            obtain ⟨i, hi, rfl, hrr⟩ := hrel
            have HRR := Lib.hid hrr
            clear hrr
            by_cases hlt : i < s.size
            · have HA := Lib.hid (all_at (p := okC) hlt)
              cases hl : letterB s[i] <;> cases hd : digitB s[i] <;> rcases cap_cases s[i] with ⟨hc, t1, t2⟩ | ⟨hc, t1, t2⟩ | ⟨hc, t1⟩
              all_goals
                have HL := Lib.hid hl
                have HD := Lib.hid hd
                have HC := Lib.hid hc
                clear hl hd hc
                go_wp2_with (first
                  | (go_at_call 35; refine (letter_any s[i] _).mono ?_; rintro e w' ⟨rfl, rfl⟩; rw [HL.out])
                  | (go_at_call 34; refine (digit_any s[i] _).mono ?_; rintro e w' ⟨rfl, rfl⟩; rw [HD.out]))
                first
                  | (go_ret
                     refine ⟨ret_bool ?_, b1⟩
                     rw [HRR.out, HA.out]
                     simp [okC, wordB, HL.out, HD.out, HC.out]; done)
                  | (go_round
                     case rel => exact ⟨i + 1, hlt, by go_num, by rw [HRR.out, HA.out]; simp [okC, wordB, HL.out, HD.out, HC.out]⟩
                     case measure => simp [intOf]; omega)
            · go_wp2_with fail
              go_ret
              exact ⟨ret_bool (by rw [HRR.out, all_end hlt]), b1⟩
        · have HD0 := Lib.hid hd0
          clear hd0
          go_enter Tryz.func15, Tryz.ntmps15
          go_wp2_with fail
          refine HR.out.mono ?_
          rintro e w1 ⟨rfl, b1⟩
          go_wp2_with (go_at_call 34; refine (digit_any s[0] _).mono ?_; rintro e w' ⟨rfl, rfl⟩; rw [HD0.out])
          go_ret
          exact ⟨ret_bool (by rw [HEQ.out, HD0.out]; simp), b1⟩
      · rw [hres] at hr
        have HRES := Lib.hid hres
        have HR := Lib.hid hr
        clear hres hr
        go_enter Tryz.func15, Tryz.ntmps15
        go_wp2_with fail
        refine HR.out.mono ?_
        rintro e w1 ⟨rfl, b1⟩
        go_wp2_with fail
        go_ret
        exact ⟨ret_bool (by rw [HEQ.out, HRES.out]; simp), b1⟩
    · have t1 := decide_eq_true (show (32 : Int) < s.size by omega)
      go_enter Tryz.func15, Tryz.ntmps15
      go_wp2_with fail
      go_ret
      exact ⟨ret_bool (by rw [HEQ.out]; simp [h32]), Below.refl _ _⟩
  · rw [nameB_nil h0]
    obtain rfl := empty_of h0
    go_enter Tryz.func15, Tryz.ntmps15
    go_wp2_with fail
    go_ret
    exact ⟨rfl, Below.refl _ _⟩
end Go.Proofs.YtcneefmaghoejaaGreatDoor
namespace Go.Proofs.YtcneefmaghoejaaGreatDoor
open Go.ChangeShapes Go.WideShapes Go.ChangeAt Go.RowKit Go.Shelf
set_option linter.unusedVariables false
set_option linter.unusedSimpArgs false
theorem asks_is {f : FuncId} {p : UInt8 → Bool} (hf : Asks f p) {c : UInt8} {b : Bool} (h : p c = b) (W : World) : Calls Tryz.prog f #[.int .u8 (c.toNat : Int)] W fun e w' => e = .returned (.bool b) ∧ w' = W :=
  (hf.says c W).mono fun e w' ⟨he, hw⟩ => ⟨by rw [he, h], hw.symm⟩
def readsV : Array Value := #[.func (.func 35) #[] #[], .func (.func 61) #[] #[], .func (.func 34) #[] #[], .func (.func 62) #[] #[], .func (.func 63) #[] #[], .func (.func 64) #[] #[]]
structure NextW (s : ByteArray) (g at_ : Nat) (w wr : World) : Prop where
  at_ : At s g w at_ wr
  res : Blk wr w.heap.size 46 #[.int .u8 0, .string ⟨#[]⟩, .int .i64 0, .int .i64 0]
  rds : Blk wr (w.heap.size + 1) 101 readsV
theorem NextW.later {s : ByteArray} {g at_ : Nat} {w wr w' : World} (h : NextW s g at_ w wr) (hb : Below wr.heap.size wr w') : NextW s g at_ w w' := ⟨h.at_.later hb, h.res.later hb, h.rds.later hb⟩
def testOf : Nat → UInt8 → Bool
  | 0 => letterB
  | 1 => digitB
  | _ => fun c => c == 39
set_option maxHeartbeats 4000000 in
set_option maxRecDepth 100000 in
theorem next_any (B : Nat) (s : ByteArray) (g at_ : Nat) (w : World) (hE : Env B w) (hB : B ≤ g) (hL : Blk w g 77 (lexV s at_)) (ha : at_ < s.size) (hs : s.size ≤ 4294967280) :
    Calls Tryz.prog 31 #[.pointer (some ⟨g, 0, none⟩)] w (readP s g at_ w (oneL (s.data.toList.drop at_))) := by
  have hd := drop_at (byte_at s at_ ha)
  obtain ⟨c0, c1⟩ := lex_cells hL
  have hlt := hL.lt
  have hne : w.heap.size ≠ g := by omega
  rw [hd]
  have HD := Lib.hid hd
  clear hd
  generalize s.data.toList.drop (at_ + 1) = r at *
  generalize hR : oneL (s[at_] :: r) = R at *
  have HR := Lib.hid hR
  clear hR
  go_enter Tryz.func31, Tryz.ntmps31
  go_wp2_with fail
  have hN : NextW s g at_ w ((w.alloc (.cells #[.int .u8 0, .string ⟨#[]⟩, .int .i64 0, .int .i64 0] 46)).alloc (.cells readsV 101)) := by
    refine ⟨(At.refl hL).later (((Below.refl _ _).alloc (Nat.le_refl _) _).alloc (by simp) _), (Blk.new w _ _).alloc _, ?_⟩
    have := Blk.new (w.alloc (.cells #[.int .u8 0, .string ⟨#[]⟩, .int .i64 0, .int .i64 0] 46)) 101 readsV
    simpa using this
  unfold readsV at hN
  generalize (w.alloc (.cells #[.int .u8 0, .string ⟨#[]⟩, .int .i64 0, .int .i64 0] 46)).alloc (.cells _ 101) = W at *
  have HE := Lib.hid hE
  have HN0 := Lib.hid hN
  clear hN hE c0 c1
  go_loopw [11] (fun u wr => ∃ i : Nat, i ≤ 3 ∧ u = .int .i64 i ∧ NextW s g at_ w wr ∧ ∀ j, j < i → testOf j s[at_] = false) (fun u _ => 3 - (intOf u).toNat)
  case atStart => exact ⟨0, by omega, rfl, HN0.out, fun j h => by omega⟩
  case round =>
    obtain ⟨i, hi, rfl, hn, hbefore⟩ := hrel
    have HB := Lib.hid hbefore
    obtain ⟨c0, c1⟩ := lex_cells hn.at_.1
    have hlt2 := hn.at_.1.lt
    have HN := Lib.hid hn
    clear hbefore hn
    by_cases h3 : i < 3
    · rcases (show i = 0 ∨ i = 1 ∨ i = 2 by omega) with rfl | rfl | rfl
      · -- reading 0
        have d0 := HN.out.rds.cell 0
        have d1 := HN.out.rds.cell 1
        simp [readsV] at d0 d1
        cases hc : testOf 0 s[at_]
        · have HC := Lib.hid hc
          clear hc
          go_wp2_with fail
          go_quiet ((go_at_call 35; exact Calls.quiet_of_same (asks_is letter_asks HC.out _)))
          go_wp2_with fail
          go_roundw
          case rel =>
            refine ⟨1, by omega, by go_num, HN.out.later (((Below.refl _ _).alloc (Nat.le_refl _) _).trans ((drewN_below _ nq).mono (by simp))), ?_⟩
            intro j hj
            by_cases hjk : j = 0
            · rw [hjk]; exact HC.out
            · exact HB.out j (by omega)
          case measure => simp [intOf]
        · have HC := Lib.hid hc
          clear hc
          go_wp2_with fail
          go_quiet ((go_at_call 35; exact Calls.quiet_of_same (asks_is letter_asks HC.out _)))
          have HN2 := Lib.hid (HN.out.later (((Below.refl _ _).alloc (Nat.le_refl _) (.cells #[.func (.func 35) #[] #[], .func (.func 61) #[] #[]] 101)).trans ((drewN_below _ nq).mono (by simp))))
          go_wp2_with fail
          refine (word_any s g at_ _ HN2.out.at_.1 s[at_] r HD.out HC.out hs).mono ?_
          intro e w1 hp
          rw [HR.out] at hp
          rcases hres : R with x | ⟨d, rest⟩
          · rw [hres] at hp
            obtain ⟨rfl, hat⟩ := hp
            obtain ⟨z0, z1, z2, z3, y0, y1, y2, y3⟩ := four_facts (hat.other HN2.out.res hne)
            have HAT := Lib.hid hat
            have HRES := Lib.hid hres
            clear hres hat
            go_wp2_with fail
            refine bodyPost_ret (v := .tuple #[.agg #[.int .u8 0, .string ⟨#[]⟩, .int .i64 0, .int .i64 0], .int .i64 x]) ?_ rfl ?_
            · simp [results, Tryz.results31, go_sem, z0, z1, z2, z3]
            · rw [HRES.out]
              exact ⟨rfl, (((HN2.out.at_.trans HAT.out).far (Nat.le_refl _) hne 0 _).far (Nat.le_refl _) hne 1 _ |>.far (Nat.le_refl _) hne 2 _ |>.far (Nat.le_refl _) hne 3 _)⟩
          · rw [hres] at hp
            obtain ⟨rfl, hat⟩ := hp
            obtain ⟨z0, z1, z2, z3, y0, y1, y2, y3⟩ := four_facts (hat.other HN2.out.res hne)
            have HAT := Lib.hid hat
            have HRES := Lib.hid hres
            clear hres hat
            go_wp2_with fail
            refine bodyPost_ret (v := .tuple #[.agg #[.int .u8 d.k, .string ⟨d.s.toArray⟩, .int .i64 d.n, .int .i64 at_], .int .i64 0]) ?_ rfl ?_
            · simp [results, Tryz.results31, go_sem, z0, z1, z2, z3]
            · rw [HRES.out]
              exact ⟨rfl, (((HN2.out.at_.trans HAT.out).far (Nat.le_refl _) hne 0 _).far (Nat.le_refl _) hne 1 _ |>.far (Nat.le_refl _) hne 2 _ |>.far (Nat.le_refl _) hne 3 _)⟩
      · -- reading 1
        have d0 := HN.out.rds.cell 2
        have d1 := HN.out.rds.cell 3
        simp [readsV] at d0 d1
        cases hc : testOf 1 s[at_]
        · have HC := Lib.hid hc
          clear hc
          go_wp2_with fail
          go_quiet ((go_at_call 34; exact Calls.quiet_of_same (asks_is digit_asks HC.out _)))
          go_wp2_with fail
          go_roundw
          case rel =>
            refine ⟨2, by omega, by go_num, HN.out.later (((Below.refl _ _).alloc (Nat.le_refl _) _).trans ((drewN_below _ nq).mono (by simp))), ?_⟩
            intro j hj
            by_cases hjk : j = 1
            · rw [hjk]; exact HC.out
            · exact HB.out j (by omega)
          case measure => simp [intOf]
        · have HC := Lib.hid hc
          clear hc
          go_wp2_with fail
          go_quiet ((go_at_call 34; exact Calls.quiet_of_same (asks_is digit_asks HC.out _)))
          have HN2 := Lib.hid (HN.out.later (((Below.refl _ _).alloc (Nat.le_refl _) (.cells #[.func (.func 34) #[] #[], .func (.func 62) #[] #[]] 101)).trans ((drewN_below _ nq).mono (by simp))))
          go_wp2_with fail
          refine (number_any B s g at_ _ (HE.out.at_ HN2.out.at_ hB) hB HN2.out.at_.1 s[at_] r HD.out HC.out (HB.out 0 (by omega)) hs).mono ?_
          intro e w1 hp
          rw [HR.out] at hp
          rcases hres : R with x | ⟨d, rest⟩
          · rw [hres] at hp
            obtain ⟨rfl, hat⟩ := hp
            obtain ⟨z0, z1, z2, z3, y0, y1, y2, y3⟩ := four_facts (hat.other HN2.out.res hne)
            have HAT := Lib.hid hat
            have HRES := Lib.hid hres
            clear hres hat
            go_wp2_with fail
            refine bodyPost_ret (v := .tuple #[.agg #[.int .u8 0, .string ⟨#[]⟩, .int .i64 0, .int .i64 0], .int .i64 x]) ?_ rfl ?_
            · simp [results, Tryz.results31, go_sem, z0, z1, z2, z3]
            · rw [HRES.out]
              exact ⟨rfl, (((HN2.out.at_.trans HAT.out).far (Nat.le_refl _) hne 0 _).far (Nat.le_refl _) hne 1 _ |>.far (Nat.le_refl _) hne 2 _ |>.far (Nat.le_refl _) hne 3 _)⟩
          · rw [hres] at hp
            obtain ⟨rfl, hat⟩ := hp
            obtain ⟨z0, z1, z2, z3, y0, y1, y2, y3⟩ := four_facts (hat.other HN2.out.res hne)
            have HAT := Lib.hid hat
            have HRES := Lib.hid hres
            clear hres hat
            go_wp2_with fail
            refine bodyPost_ret (v := .tuple #[.agg #[.int .u8 d.k, .string ⟨d.s.toArray⟩, .int .i64 d.n, .int .i64 at_], .int .i64 0]) ?_ rfl ?_
            · simp [results, Tryz.results31, go_sem, z0, z1, z2, z3]
            · rw [HRES.out]
              exact ⟨rfl, (((HN2.out.at_.trans HAT.out).far (Nat.le_refl _) hne 0 _).far (Nat.le_refl _) hne 1 _ |>.far (Nat.le_refl _) hne 2 _ |>.far (Nat.le_refl _) hne 3 _)⟩
      · -- reading 2
        have d0 := HN.out.rds.cell 4
        have d1 := HN.out.rds.cell 5
        simp [readsV] at d0 d1
        cases hc : testOf 2 s[at_]
        · have HC := Lib.hid hc
          clear hc
          go_wp2_with fail
          go_quiet ((go_at_call 63; exact Calls.quiet_of_same (asks_is quote_asks HC.out _)))
          go_wp2_with fail
          go_roundw
          case rel =>
            refine ⟨3, by omega, by go_num, HN.out.later (((Below.refl _ _).alloc (Nat.le_refl _) _).trans ((drewN_below _ nq).mono (by simp))), ?_⟩
            intro j hj
            by_cases hjk : j = 2
            · rw [hjk]; exact HC.out
            · exact HB.out j (by omega)
          case measure => simp [intOf]
        · have HC := Lib.hid hc
          clear hc
          go_wp2_with fail
          go_quiet ((go_at_call 63; exact Calls.quiet_of_same (asks_is quote_asks HC.out _)))
          have HN2 := Lib.hid (HN.out.later (((Below.refl _ _).alloc (Nat.le_refl _) (.cells #[.func (.func 63) #[] #[], .func (.func 64) #[] #[]] 101)).trans ((drewN_below _ nq).mono (by simp))))
          go_wp2_with fail
          refine (text_any s g at_ _ HN2.out.at_.1 r (by rw [HD.out]; exact congrArg (· :: r) (by simpa [testOf] using HC.out)) hs).mono ?_
          intro e w1 hp
          rw [← (show s[at_] = 39 by simpa [testOf] using HC.out), HR.out] at hp
          rcases hres : R with x | ⟨d, rest⟩
          · rw [hres] at hp
            obtain ⟨rfl, hat⟩ := hp
            obtain ⟨z0, z1, z2, z3, y0, y1, y2, y3⟩ := four_facts (hat.other HN2.out.res hne)
            have HAT := Lib.hid hat
            have HRES := Lib.hid hres
            clear hres hat
            go_wp2_with fail
            refine bodyPost_ret (v := .tuple #[.agg #[.int .u8 0, .string ⟨#[]⟩, .int .i64 0, .int .i64 0], .int .i64 x]) ?_ rfl ?_
            · simp [results, Tryz.results31, go_sem, z0, z1, z2, z3]
            · rw [HRES.out]
              exact ⟨rfl, (((HN2.out.at_.trans HAT.out).far (Nat.le_refl _) hne 0 _).far (Nat.le_refl _) hne 1 _ |>.far (Nat.le_refl _) hne 2 _ |>.far (Nat.le_refl _) hne 3 _)⟩
          · rw [hres] at hp
            obtain ⟨rfl, hat⟩ := hp
            obtain ⟨z0, z1, z2, z3, y0, y1, y2, y3⟩ := four_facts (hat.other HN2.out.res hne)
            have HAT := Lib.hid hat
            have HRES := Lib.hid hres
            clear hres hat
            go_wp2_with fail
            refine bodyPost_ret (v := .tuple #[.agg #[.int .u8 d.k, .string ⟨d.s.toArray⟩, .int .i64 d.n, .int .i64 at_], .int .i64 0]) ?_ rfl ?_
            · simp [results, Tryz.results31, go_sem, z0, z1, z2, z3]
            · rw [HRES.out]
              exact ⟨rfl, (((HN2.out.at_.trans HAT.out).far (Nat.le_refl _) hne 0 _).far (Nat.le_refl _) hne 1 _ |>.far (Nat.le_refl _) hne 2 _ |>.far (Nat.le_refl _) hne 3 _)⟩
    · obtain rfl : i = 3 := by omega
      go_wp2_with fail
      refine (sign_any B s g at_ _ (HE.out.at_ HN.out.at_ hB) hB HN.out.at_.1 s[at_] r HD.out (HB.out 0 (by omega)) (HB.out 1 (by omega)) (by simpa [testOf] using HB.out 2 (by omega)) hs).mono ?_
      intro e w1 hp
      rw [HR.out] at hp
      have HN2 := HN
      rcases hres : R with x | ⟨d, rest⟩
      · rw [hres] at hp
        obtain ⟨rfl, hat⟩ := hp
        obtain ⟨z0, z1, z2, z3, y0, y1, y2, y3⟩ := four_facts (hat.other HN2.out.res hne)
        have HAT := Lib.hid hat
        have HRES := Lib.hid hres
        clear hres hat
        go_wp2_with fail
        refine bodyPost_ret (v := .tuple #[.agg #[.int .u8 0, .string ⟨#[]⟩, .int .i64 0, .int .i64 0], .int .i64 x]) ?_ rfl ?_
        · simp [results, Tryz.results31, go_sem, z0, z1, z2, z3]
        · rw [HRES.out]
          exact ⟨rfl, (((HN2.out.at_.trans HAT.out).far (Nat.le_refl _) hne 0 _).far (Nat.le_refl _) hne 1 _ |>.far (Nat.le_refl _) hne 2 _ |>.far (Nat.le_refl _) hne 3 _)⟩
      · rw [hres] at hp
        obtain ⟨rfl, hat⟩ := hp
        obtain ⟨z0, z1, z2, z3, y0, y1, y2, y3⟩ := four_facts (hat.other HN2.out.res hne)
        have HAT := Lib.hid hat
        have HRES := Lib.hid hres
        clear hres hat
        go_wp2_with fail
        refine bodyPost_ret (v := .tuple #[.agg #[.int .u8 d.k, .string ⟨d.s.toArray⟩, .int .i64 d.n, .int .i64 at_], .int .i64 0]) ?_ rfl ?_
        · simp [results, Tryz.results31, go_sem, z0, z1, z2, z3]
        · rw [HRES.out]
          exact ⟨rfl, (((HN2.out.at_.trans HAT.out).far (Nat.le_refl _) hne 0 _).far (Nat.le_refl _) hne 1 _ |>.far (Nat.le_refl _) hne 2 _ |>.far (Nat.le_refl _) hne 3 _)⟩
end Go.Proofs.YtcneefmaghoejaaGreatDoor
