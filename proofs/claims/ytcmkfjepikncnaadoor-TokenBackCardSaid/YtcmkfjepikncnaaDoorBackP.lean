/- Plain laws of a statement's words: words written anew. -/
import Derived.Test.YtcmkfjepikncnaaDoorLexJ
import Derived.Test.YtcmkfjepikncnaaDoorLexT
import Derived.Test.YtcmkfjepikncnaaDoorRefC
set_option linter.unusedSimpArgs false
set_option linter.unusedVariables false
namespace Go.Proofs.YtcmkfjepikncnaaDoor

theorem u8_all {P : UInt8 → Bool} (h : (List.range 256).all (fun n => P (UInt8.ofNat n)) = true) (c : UInt8) : P c = true := by
  have := List.all_eq_true.1 h c.toNat (List.mem_range.2 c.toNat_lt)
  simpa using this
def smallB (c : UInt8) : Bool := decide (97 ≤ c) && decide (c ≤ 122)
def greatB (c : UInt8) : UInt8 := if smallB c then c - 32 else c
theorem case_word (c : UInt8) (h : wordB c = true) : wordB (lowB c) = true ∧ lowB (lowB c) = lowB c ∧ wordB (greatB (lowB c)) = true ∧ lowB (greatB (lowB c)) = lowB c := by
  have := u8_all (P := fun c => !wordB c || (wordB (lowB c) && lowB (lowB c) == lowB c && wordB (greatB (lowB c)) && lowB (greatB (lowB c)) == lowB c)) (by decide +kernel) c
  simp [h] at this
  simp [this]
theorem case_letter (c : UInt8) (h : letterB c = true) : letterB (lowB c) = true ∧ letterB (greatB (lowB c)) = true := by
  have := u8_all (P := fun c => !letterB c || (letterB (lowB c) && letterB (greatB (lowB c)))) (by decide +kernel) c
  simp [h] at this
  exact this

/-! ### digits -/
def dig (n : Nat) : List UInt8 := if h : n < 10 then [UInt8.ofNat (48 + n)] else dig (n / 10) ++ [UInt8.ofNat (48 + n % 10)]
termination_by n
decreasing_by omega
theorem dig_small {n : Nat} (h : n < 10) : dig n = [UInt8.ofNat (48 + n)] := by rw [dig, dif_pos h]
theorem dig_more {n : Nat} (h : ¬ n < 10) : dig n = dig (n / 10) ++ [UInt8.ofNat (48 + n % 10)] := by rw [dig, dif_neg h]
theorem dig_byte {k : Nat} (h : k < 10) : (UInt8.ofNat (48 + k)).toNat = 48 + k := by simp; omega
theorem dig_spec : ∀ n : Nat, valL (dig n) = n ∧ (∀ c ∈ dig n, digitB c = true) ∧ dig n ≠ [] ∧ (0 < n → (dig n).head? ≠ some 48) ∧ ∀ k, n < 10 ^ (k + 1) → (dig n).length ≤ k + 1 := by
  intro n
  induction n using Nat.strongRecOn with
  | ind n ih =>
    by_cases h : n < 10
    · rw [dig_small h]
      have hb := dig_byte h
      refine ⟨by simp only [valL, List.foldl_cons, List.foldl_nil]; rw [hb]; omega, ?_, by simp, ?_, fun k _ => by simp⟩
      · intro c hc
        rw [List.mem_singleton] at hc
        subst hc
        simp only [digitB, UInt8.le_iff_toNat_le, Bool.and_eq_true, decide_eq_true_eq, hb]
        simp; omega
      · intro h0 e
        simp only [List.head?_cons, Option.some.injEq] at e
        have := congrArg UInt8.toNat e
        rw [hb] at this
        simp at this
        omega
    · have hlt : n / 10 < n := by omega
      obtain ⟨h1, h2, h3, h4, h5⟩ := ih (n / 10) hlt
      have hk : n % 10 < 10 := by omega
      have hb := dig_byte hk
      rw [dig_more h]
      refine ⟨by rw [val_snoc, h1, hb]; omega, ?_, by simp, ?_, ?_⟩
      · intro c hc
        rcases List.mem_append.1 hc with hc | hc
        · exact h2 c hc
        · rw [List.mem_singleton] at hc
          subst hc
          simp only [digitB, UInt8.le_iff_toNat_le, Bool.and_eq_true, decide_eq_true_eq, hb]
          simp; omega
      · intro _
        have := h4 (by omega)
        cases hd : dig (n / 10) with
        | nil => exact absurd hd h3
        | cons d r => rw [hd] at this; simpa using this
      · intro k hk2
        cases k with
        | zero => omega
        | succ k =>
          have : n / 10 < 10 ^ (k + 1) := by
            rw [Nat.pow_succ] at hk2
            omega
          have := h5 k this
          simp only [List.length_append, List.length_singleton]
          omega
theorem dig_num {n : Nat} (hn : n ≤ 9223372036854775807) : numB (dig n) = true := by
  obtain ⟨h1, h2, h3, h4, h5⟩ := dig_spec n
  simp only [numB, h1, decide_eq_true hn, Bool.and_true, Bool.or_eq_true, decide_eq_true_eq, Bool.not_eq_true']
  by_cases h : n < 10
  · left; rw [dig_small h]; simp
  · right
    have := h4 (by omega)
    simpa using this

/-! ### texts -/
def escT : List UInt8 → List UInt8
  | [] => []
  | c :: l => if c = 39 then 39 :: 39 :: escT l else c :: escT l
theorem text_esc {y : List UInt8} (hy : y.head? ≠ some 39) : ∀ (s acc : List UInt8), more acc (textL (escT s ++ 39 :: y)) = some (acc ++ s, y)
  | [], acc => by rw [List.append_nil]; exact text_end hy acc
  | c :: s, acc => by
    by_cases h : c = 39
    · subst h
      simp only [escT, if_true, List.cons_append]
      rw [text_two, text_esc hy s]
      simp
    · simp only [escT, if_neg h, List.cons_append]
      rw [text_other h, text_esc hy s]
      simp
theorem escT_len : ∀ s : List UInt8, (escT s).length ≤ 2 * s.length
  | [] => by simp [escT]
  | c :: s => by
    have := escT_len s
    unfold escT
    split <;> simp <;> omega

/-! ### a word, written -/
def writL (w : Wd) (caps : Bool) : List UInt8 :=
  if w.k = 1 then (if caps then w.s.map greatB else w.s) else if w.k = 2 then dig w.n.toNat else if w.k = 3 then 39 :: (escT w.s ++ [39]) else if w.k = 4 then w.s else []
def IsWd (w : Wd) : Prop := ∃ r rest, oneL r = .ok (w, rest)
theorem IsWd.cases {w : Wd} (h : IsWd w) : (∃ c r, w = ⟨1, (c :: r).map lowB, 0⟩ ∧ letterB c = true ∧ (∀ x ∈ c :: r, wordB x = true) ∧ (c :: r).length ≤ 32) ∨ (∃ n : Nat, w = ⟨2, [], n⟩ ∧ n ≤ 9223372036854775807) ∨ (∃ s, w = ⟨3, s, 0⟩) ∨ (∃ s, w = ⟨4, s, 0⟩ ∧ s ∈ signs) := by
  obtain ⟨r, rest, h⟩ := h
  match r with
  | [] => simp [oneL] at h
  | c :: r =>
    simp only [oneL] at h
    split at h
    · rename_i hc
      have hw : wordB c = true := by simp [wordB, hc]
      split at h
      · rename_i hl
        injection h with h; injection h with h1 h2
        left
        have e : (c :: r).takeWhile wordB = c :: r.takeWhile wordB := by simp [List.takeWhile_cons, hw]
        rw [e] at h1 hl
        exact ⟨c, _, h1.symm, hc, by rw [← e]; exact tw_all wordB _, hl⟩
      · cases h
    · split at h
      · split at h
        · rename_i hn
          injection h with h; injection h with h1 h2
          right; left
          simp only [Bool.and_eq_true, numB, decide_eq_true_eq] at hn
          exact ⟨_, h1.symm, hn.1.2⟩
        · cases h
      · split at h
        · split at h
          · rename_i t rest' ht
            injection h with h; injection h with h1 h2
            right; right; left
            exact ⟨t, h1.symm⟩
          · cases h
        · split at h
          · rename_i s hs
            injection h with h; injection h with h1 h2
            right; right; right
            exact ⟨s, h1.symm, (signIn_spec hs).1⟩
          · cases h
theorem skip_plain {c : UInt8} {r : List UInt8} (h1 : blankB c = false) (h2 : c ≠ 45) : skipL false (c :: r) = c :: r := by
  rw [skipL, h1, if_neg (by decide), if_neg (fun h => h2 h.1)]
theorem word_back {d : UInt8} {l : List UInt8} {s : List UInt8} (hd : letterB d = true) (hw : ∀ x ∈ d :: l, wordB x = true) (hlow : (d :: l).map lowB = s) (hlen : (d :: l).length ≤ 32) {y : List UInt8} (hy : Sep y) :
    oneL (d :: l ++ y) = .ok (⟨1, s, 0⟩, y) ∧ skipL false (d :: l ++ y) = d :: l ++ y := by
  obtain ⟨t1, t2⟩ := tw_append (p := wordB) (b := d :: l) (x := y) hw (sep_not hy wordB (by decide) (by decide) (by decide) (by decide))
  refine ⟨?_, letter_start hd⟩
  rw [List.cons_append] at t1 t2 ⊢
  simp only [oneL, if_pos hd]
  rw [t1, t2, if_pos hlen, hlow]
theorem sign_heads : signs.all (fun s => match s with | [] => false | c :: _ => !letterB c && !digitB c && !(c == 39) && !blankB c) = true := by decide +kernel
theorem written_back {w : Wd} (h : IsWd w) (caps : Bool) {y : List UInt8} (hy : Sep y) : oneL (writL w caps ++ y) = .ok (w, y) ∧ skipL false (writL w caps ++ y) = writL w caps ++ y ∧ writL w caps ≠ [] := by
  rcases h.cases with ⟨c, r, rfl, hc, hall, hlen⟩ | ⟨n, rfl, hn⟩ | ⟨s, rfl⟩ | ⟨s, rfl, hs⟩
  · cases caps
    · have e : writL ⟨1, (c :: r).map lowB, 0⟩ false = lowB c :: r.map lowB := rfl
      rw [e]
      obtain ⟨h1, h2⟩ := word_back (d := lowB c) (l := r.map lowB) (s := (c :: r).map lowB) (case_letter c hc).1 (by
        intro x hx
        rw [← List.map_cons] at hx
        obtain ⟨u, hu, rfl⟩ := List.mem_map.1 hx
        exact (case_word u (hall u hu)).1) (by
        rw [← List.map_cons, List.map_map]
        apply List.map_congr_left
        intro u hu
        exact (case_word u (hall u hu)).2.1) (by simpa using hlen) hy
      exact ⟨h1, h2, by simp⟩
    · have e : writL ⟨1, (c :: r).map lowB, 0⟩ true = greatB (lowB c) :: (r.map lowB).map greatB := rfl
      rw [e]
      obtain ⟨h1, h2⟩ := word_back (d := greatB (lowB c)) (l := (r.map lowB).map greatB) (s := (c :: r).map lowB) (case_letter c hc).2 (by
        intro x hx
        rw [← List.map_cons, ← List.map_cons, List.map_map] at hx
        obtain ⟨u, hu, rfl⟩ := List.mem_map.1 hx
        exact (case_word u (hall u hu)).2.2.1) (by
        rw [← List.map_cons, ← List.map_cons, List.map_map, List.map_map]
        apply List.map_congr_left
        intro u hu
        exact (case_word u (hall u hu)).2.2.2) (by simpa using hlen) hy
      exact ⟨h1, h2, by simp⟩
  · have e : writL ⟨2, [], n⟩ caps = dig n := by simp [writL]
    rw [e]
    obtain ⟨h1, h2, h3, h4, _⟩ := dig_spec n
    have hnum := dig_num hn
    obtain ⟨t1, t2⟩ := tw_append (p := digitB) (b := dig n) (x := y) h2 (sep_not hy digitB (by decide) (by decide) (by decide) (by decide))
    have t3 := sep_not hy letterB (by decide) (by decide) (by decide) (by decide)
    refine ⟨?_, ?_, h3⟩
    · cases hd : dig n with
      | nil => exact absurd hd h3
      | cons d l =>
        have hdd : digitB d = true := h2 d (by rw [hd]; exact List.mem_cons_self)
        have hdl : letterB d = false := by
          cases hl : letterB d
          · rfl
          · rw [letter_digit hl] at hdd; cases hdd
        rw [hd, List.cons_append] at t1 t2
        rw [hd] at h1 hnum
        rw [List.cons_append]
        simp only [oneL, hdl, if_pos hdd]
        rw [t1, t2, t3, hnum, h1]
        rfl
    · cases hd : dig n with
      | nil => exact absurd hd h3
      | cons d l =>
        have hdd := digit_bd (h2 d (by rw [hd]; exact List.mem_cons_self))
        refine skip_plain ?_ ?_
        · cases hb : blankB d
          · rfl
          · rcases blank_cases hb with rfl | rfl | rfl | rfl <;> simp at hdd
        · rintro rfl; simp at hdd
  · have e : writL ⟨3, s, 0⟩ caps = 39 :: (escT s ++ [39]) := by simp [writL]
    rw [e]
    have hy39 : y.head? ≠ some 39 := by
      rcases hy with rfl | ⟨c, r, rfl, hc⟩
      · simp
      · intro e
        simp at e
        subst e
        exact absurd hc (by decide)
    have ht := text_esc hy39 s []
    rw [more_nil, List.nil_append] at ht
    refine ⟨?_, ?_, by simp⟩
    · have a1 : letterB 39 = false := by decide
      have a2 : digitB 39 = false := by decide
      have e2 : 39 :: (escT s ++ [39]) ++ y = 39 :: (escT s ++ 39 :: y) := by simp
      rw [e2]
      simp only [oneL, a1, a2, ht]
      rfl
    · exact skip_plain (by decide) (by decide)
  · have e : writL ⟨4, s, 0⟩ caps = s := by simp [writL]
    rw [e]
    have hh := List.all_eq_true.1 sign_heads s hs
    match s, hs with
    | [], hs => simp at hh
    | c :: r, hs =>
      simp only [Bool.and_eq_true, Bool.not_eq_true', beq_eq_false_iff_ne] at hh
      obtain ⟨⟨⟨b1, b2⟩, b3⟩, b4⟩ := hh
      have hsn := sign_sep hs hy
      refine ⟨?_, ?_, by simp⟩
      · rw [List.cons_append] at hsn ⊢
        simp only [oneL, b1, b2, if_neg b3, hsn]
        simp
      · rw [List.cons_append, skipL, b4, if_neg (by decide), if_neg]
        rintro ⟨rfl, hh⟩
        have hr : r = [] := by
          simp only [signs, List.mem_cons, List.cons.injEq, List.not_mem_nil, or_false] at hs
          rcases hs with ⟨h, _⟩ | ⟨h, _⟩ | ⟨h, _⟩ | ⟨h, _⟩ | ⟨h, _⟩ | ⟨h, _⟩ | ⟨h, _⟩ | ⟨h, _⟩ | ⟨_, h⟩ | ⟨h, _⟩ | ⟨h, _⟩ | ⟨h, _⟩ | ⟨h, _⟩ | ⟨h, _⟩ | ⟨h, _⟩ <;> first | exact h | (exact absurd h (by decide))
        subst hr
        rw [List.nil_append] at hh
        rcases hy with rfl | ⟨d, q, rfl, hd⟩
        · simp at hh
        · simp at hh
          subst hh
          exact absurd hd (by decide)
theorem writ_len {w : Wd} (h : IsWd w) (caps : Bool) : (writL w caps).length ≤ 2 * w.s.length + 40 := by
  rcases h.cases with ⟨c, r, rfl, hc, hall, hlen⟩ | ⟨n, rfl, hn⟩ | ⟨s, rfl⟩ | ⟨s, rfl, hs⟩
  · cases caps <;> simp [writL] <;> omega
  · have e : writL ⟨2, [], n⟩ caps = dig n := by simp [writL]
    rw [e]
    have := (dig_spec n).2.2.2.2 18 (by omega)
    omega
  · have e : writL ⟨3, s, 0⟩ caps = 39 :: (escT s ++ [39]) := by simp [writL]
    rw [e]
    have := escT_len s
    simp
    omega
  · have e : writL ⟨4, s, 0⟩ caps = s := by simp [writL]
    rw [e]
    show s.length ≤ 2 * s.length + 40
    omega
end Go.Proofs.YtcmkfjepikncnaaDoor
