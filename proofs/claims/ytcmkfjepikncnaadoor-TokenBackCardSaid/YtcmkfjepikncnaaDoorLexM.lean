/- token: reserved words, names. -/
import Derived.Test.YtcmkfjepikncnaaDoorLexG
namespace Go.Proofs.YtcmkfjepikncnaaDoor
open Go.ChangeShapes Go.WideShapes Go.ChangeAt Go.RowKit Go.Shelf
set_option linter.unusedVariables false
set_option linter.unusedSimpArgs false

/-- the world with another map at g -/
def setMap (w : World) (g : Nat) (es : Array MapEntry) (c : Nat) : World := { w with heap := w.heap.setIfInBounds g (.map es c) }
theorem setMap_below {B : Nat} {w0 w : World} (h : Below B w0 w) (g : Nat) (hg : B ≤ g) (es : Array MapEntry) (c : Nat) : Below B w0 (setMap w g es c) := by
  refine ⟨h.os, h.tape, h.output, ?_, fun k hk => ?_⟩
  · have := h.size; simp [setMap]; exact this
  · rw [← h.block k hk]
    simp only [setMap, Array.getElem?_setIfInBounds]
    rw [if_neg (by omega)]
theorem setMap_at {w : World} {g : Nat} {es es' : Array MapEntry} {c c' : Nat} (hg : w.heap[g]? = some (.map es c)) : (setMap w g es' c').heap[g]? = some (.map es' c') := by
  rcases Nat.lt_or_ge g w.heap.size with hlt | hge
  · simp [setMap, hlt]
  · rw [Array.getElem?_eq_none hge] at hg; cases hg
theorem setMap_far {w : World} {g q : Nat} (es : Array MapEntry) (c : Nat) (h : g ≠ q) : (setMap w g es c).heap[q]? = w.heap[q]? := by
  simp only [setMap, Array.getElem?_setIfInBounds]
  rw [if_neg h]
/-- the entries: the words l, each true -/
def entry (x : List UInt8) (i : Nat) : MapEntry := ⟨.string ⟨x.toArray⟩, .bool true, i⟩
def entriesFrom : List (List UInt8) → Nat → List MapEntry
  | [], _ => []
  | x :: l, i => entry x i :: entriesFrom l (i + 1)
theorem entries_snoc (x : List UInt8) : ∀ (l : List (List UInt8)) (i : Nat), entriesFrom (l ++ [x]) i = entriesFrom l i ++ [entry x (i + l.length)]
  | [], i => rfl
  | y :: l, i => by
    simp only [List.cons_append, entriesFrom, entries_snoc x l (i + 1), List.length_cons]
    rw [show i + 1 + l.length = i + (l.length + 1) by omega]
theorem bytes_beq (a b : ByteArray) : (a == b) = (a.data.toList == b.data.toList) := by
  rcases a with ⟨⟨a⟩⟩
  rcases b with ⟨⟨b⟩⟩
  show ((⟨a⟩ : Array UInt8) == ⟨b⟩) = (a == b)
  simp
theorem find_words (k : ByteArray) : ∀ (l : List (List UInt8)) (i j : Nat), if l.contains k.data.toList = true then ∃ n, Instr.findNow .string (.string k) (entriesFrom l i) j = some (some (n, .bool true)) else Instr.findNow .string (.string k) (entriesFrom l i) j = some none
  | [], i, j => by simp [entriesFrom, Instr.findNow]
  | x :: l, i, j => by
    have ih := find_words k l (i + 1) (j + 1)
    have e : Instr.sameNow .string (.string k) (entry x i).key = some (k.data.toList == x) := by
      show some (k == (⟨x.toArray⟩ : ByteArray)) = _
      rw [bytes_beq]
    rw [List.contains_cons]
    cases hx : (k.data.toList == x)
    · rw [Bool.false_or]
      have e2 : Instr.findNow .string (.string k) (entriesFrom (x :: l) i) j = Instr.findNow .string (.string k) (entriesFrom l (i + 1)) (j + 1) := by
        simp only [entriesFrom, Instr.findNow, e, hx]
      rw [e2]
      exact ih
    · rw [Bool.true_or, if_pos rfl]
      exact ⟨j, by simp only [entriesFrom, Instr.findNow, e, hx]; rfl⟩
def MapOf (w : World) (g : Nat) (l : List (List UInt8)) : Prop := w.heap[g]? = some (.map (entriesFrom l 0).toArray l.length)
theorem key_string (e : Bool) (k : ByteArray) (w : World) : (Instr.checkKey e 10000 9 (.string k)).run Tryd.prog w = .ok () w :=
  MapKept.run_checkKey Tryd.underlying9 (by simp [MapKept.IsKey]) e 9999
theorem run_put_word {w : World} {g : Nat} {l : List (List UInt8)} (hg : MapOf w g l) {x : List UInt8} (hx : l.contains x = false) :
    (Instr.mapUpdate 44 (.map (some g)) (.string ⟨x.toArray⟩) (.bool true)).run Tryd.prog w = .ok () (setMap w g (entriesFrom (l ++ [x]) 0).toArray (l.length + 1)) := by
  have hf := find_words ⟨x.toArray⟩ l 0 0
  rw [if_neg (by simpa using hx)] at hf
  unfold Instr.mapUpdate
  simp only [Sem.run_bind, run_underlying Tryd.underlying44, Result.andThen_ok, MapKept.run_getObj_map hg, key_string, Instr.findKey, run_underlying Tryd.underlying9, hf, Sem.run_pure, MapKept.run_setObj_map _ hg]
  rw [entries_snoc]
  simp [setMap, entry]
theorem run_look_word {w : World} {g : Nat} {l : List (List UInt8)} (hg : MapOf w g l) (k : ByteArray) :
    (Instr.lookup 44 (.map (some g)) (.string k) false).run Tryd.prog w = .ok (.bool (l.contains k.data.toList)) w := by
  have hf := find_words k l 0 0
  unfold Instr.lookup
  cases hc : l.contains k.data.toList
  · rw [if_neg (by rw [hc]; decide)] at hf
    simp only [Sem.run_bind, run_underlying Tryd.underlying44, Result.andThen_ok, MapKept.run_getObj_map hg, key_string, Instr.findKey, run_underlying Tryd.underlying9, hf, Sem.run_pure, Tryd.zeroValue4]
    rfl
  · rw [if_pos hc] at hf
    obtain ⟨n, hf⟩ := hf
    simp only [Sem.run_bind, run_underlying Tryd.underlying44, Result.andThen_ok, MapKept.run_getObj_map hg, key_string, Instr.findKey, run_underlying Tryd.underlying9, hf, Sem.run_pure]
    rfl
def resS : ByteArray := ⟨(([97, 110, 100, 32, 97, 115, 32, 98, 121, 32, 99, 97, 108, 108, 32, 99, 114, 101, 97, 116, 101, 32, 100, 101, 108, 101, 116, 101, 32, 100, 101, 115, 99, 32, 100].append [114, 111, 112, 32, 102, 97, 108, 115, 101, 32, 102, 114, 111, 109, 32, 103, 114, 111, 117, 112, 32, 104, 97, 118, 105, 110, 103, 32, 105, 110, 115, 101, 114, 116, 32, 105]).append ([110, 116, 111, 32, 105, 115, 32, 108, 105, 109, 105, 116, 32, 110, 111, 116, 32, 110, 117, 108, 108, 32, 111, 110, 108, 121, 32, 111, 114, 32, 111, 114, 100, 101, 114].append [32, 115, 101, 108, 101, 99, 116, 32, 115, 101, 116, 32, 116, 114, 117, 101, 32, 117, 112, 100, 97, 116, 101, 32, 118, 97, 108, 117, 101, 115, 32, 119, 104, 101, 114, 101])).toArray⟩
theorem res_fields : Lib.fields resS.data.toList = resL := by decide +kernel
theorem res_len : resL.length = 27 := by decide +kernel
theorem res_at {i : Nat} (hi : i < 27) : ∃ x, resL[i]? = some x ∧ resL.take (i + 1) = resL.take i ++ [x] ∧ (resL.take i).contains x = false := by
  have hlt : i < resL.length := by rw [res_len]; exact hi
  refine ⟨resL[i], List.getElem?_eq_getElem hlt, by rw [List.take_succ_eq_append_getElem hlt], ?_⟩
  have key : (List.range 27).all (fun i => !(resL.take i).contains (resL.getD i [])) = true := by decide +kernel
  have := List.all_eq_true.1 key i (List.mem_range.2 hi)
  rw [List.getD_eq_getElem?_getD, List.getElem?_eq_getElem hlt] at this
  simpa using this
theorem resS_word : resB resS.data.toList = false := by decide +kernel
structure ResAt (w : World) (i : Nat) (wr : World) : Prop where
  map : MapOf wr w.heap.size (resL.take i)
  rds : Blk wr (w.heap.size + 1) 9 (resL.map fun l => Value.string ⟨l.toArray⟩).toArray
  bel : Below w.heap.size w wr
set_option maxHeartbeats 4000000 in
set_option maxRecDepth 100000 in
theorem reserved_any {B : Nat} (w : World) (hE : Env B w) : Calls Tryd.prog 21 #[] w fun e w' => e = .returned (.map (some w.heap.size)) ∧ MapOf w' w.heap.size resL ∧ Below w.heap.size w w' := by
  have hmm := @run_makeMap Tryd.prog
  go_enter Tryd.func21, Tryd.ntmps21
  go_wp2_with fail
  have b0 := later_new w (.map #[] 0)
  refine (fields_any resS resL res_fields (by decide +kernel) (by decide +kernel) (hE.later b0)).mono ?_
  rintro e w1 ⟨rfl, rfl⟩
  rw [res_len]
  have hR : ResAt w 0 ((w.alloc (.map #[] 0)).alloc (.cells (resL.map fun l => Value.string ⟨l.toArray⟩).toArray 9)) := by
    refine ⟨?_, ?_, b0.trans (((Below.refl _ _).alloc (Nat.le_refl _) _).mono b0.size)⟩
    · exact (Below.heap_alloc _ _ _ (by simp)).trans (heap_alloc_new w _)
    · have := Blk.new (w.alloc (.map #[] 0)) 9 (resL.map fun l => Value.string ⟨l.toArray⟩).toArray
      simpa using this
  have hs1 : (w.alloc (.map #[] 0)).heap.size = w.heap.size + 1 := by simp
  rw [hs1]
  generalize (w.alloc (.map #[] 0)).alloc (.cells (resL.map fun l => Value.string ⟨l.toArray⟩).toArray 9) = W at *
  have HR := Lib.hid hR
  clear hR hs1 b0
  go_wp2_with fail
  go_loopw [7] (fun u wr => ∃ i : Nat, i ≤ 27 ∧ u = .int .i64 i ∧ ResAt w i wr) (fun u _ => 27 - (intOf u).toNat)
  case atStart => exact ⟨0, by omega, rfl, HR.out⟩
  case round =>
    obtain ⟨i, hi, rfl, hr⟩ := hrel
    have HR2 := Lib.hid hr
    clear hr
    by_cases hlt : i < 27
    · obtain ⟨x, hx, htk, hc⟩ := res_at hlt
      have hcell := HR2.out.rds.cell i
      have hx2 : (resL.map fun l => Value.string ⟨l.toArray⟩).toArray[i]? = some (.string ⟨x.toArray⟩) := by simp [hx]
      rw [hx2] at hcell
      have hput := run_put_word HR2.out.map hc
      have HTK := Lib.hid htk
      clear hx htk hc hx2
      go_wp2_with fail
      go_roundw
      case rel =>
        refine ⟨i + 1, by omega, by go_num, ?_, ?_, ?_⟩
        · rw [HTK.out]
          have := setMap_at (es' := (entriesFrom (resL.take i ++ [x]) 0).toArray) (c' := (resL.take i).length + 1) HR2.out.map
          unfold MapOf
          rw [List.length_append, List.length_singleton]
          rw [← List.length_take]
          exact this
        · exact (setMap_far _ _ (by omega)).trans HR2.out.rds
        · exact setMap_below HR2.out.bel _ (Nat.le_refl _) _ _
      case measure => simp [intOf]; omega
    · obtain rfl : i = 27 := by omega
      go_wp2_with fail
      refine bodyPost_ret (v := .map (some w.heap.size)) ?_ rfl ⟨rfl, ?_, HR2.out.bel⟩
      · simp [results, Tryd.results21, go_sem]
      · have := HR2.out.map
        rwa [List.take_of_length_le (Nat.le_of_eq res_len)] at this
theorem resB_contains (l : List UInt8) : resL.contains l = resB l := rfl
set_option maxHeartbeats 4000000 in
set_option maxRecDepth 100000 in
theorem Reserved_any {B : Nat} (s : ByteArray) (w : World) (hE : Env B w) : Calls Tryd.prog 12 #[.string s] w fun e w' => e = .returned (.bool (resB s.data.toList)) ∧ Below w.heap.size w w' := by
  go_enter Tryd.func12, Tryd.ntmps12
  go_wp2_with fail
  refine (reserved_any w hE).mono ?_
  rintro e w1 ⟨rfl, hm, b1⟩
  have hl := run_look_word hm s
  rw [resB_contains] at hl
  clear hm
  go_wp2_with fail
  go_ret
  exact ⟨rfl, b1⟩
end Go.Proofs.YtcmkfjepikncnaaDoor
