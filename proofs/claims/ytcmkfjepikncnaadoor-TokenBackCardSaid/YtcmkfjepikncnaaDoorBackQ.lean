/- Plain laws of a statement's words: a whole statement written anew. -/
import Derived.Test.YtcmkfjepikncnaaDoorBackP
import Derived.Test.YtcmkfjepikncnaaDoorTells12
set_option linter.unusedSimpArgs false
set_option linter.unusedVariables false
namespace Go.Proofs.YtcmkfjepikncnaaDoor

def gapK : Nat → List UInt8
  | 1 => [9, 10]
  | 2 => [32, 45, 45, 32, 105, 116, 39, 115, 32, 40, 10]
  | 3 => [13, 32]
  | _ => [32]
def gapAt (bl : List UInt8) (i : Nat) : List UInt8 := if bl = [] then [32] else gapK ((bl.getD (i % bl.length) 0).toNat % 4)
def IsGap (g : List UInt8) : Prop := (∀ x, skipL false (g ++ x) = skipL false x) ∧ Sep g ∧ g ≠ [] ∧ g.length ≤ 11
theorem gapK_is (k : Nat) : IsGap (gapK k) := by
  have h0 : IsGap [32] := ⟨fun x => by simp [skipL, blankB], .inr ⟨32, [], rfl, by decide⟩, by simp, by simp⟩
  have h1 : IsGap [9, 10] := ⟨fun x => by simp [skipL, blankB], .inr ⟨9, _, rfl, by decide⟩, by simp, by simp⟩
  have h2 : IsGap [32, 45, 45, 32, 105, 116, 39, 115, 32, 40, 10] := ⟨fun x => by simp [skipL, blankB], .inr ⟨32, _, rfl, by decide⟩, by simp, by simp⟩
  have h3 : IsGap [13, 32] := ⟨fun x => by simp [skipL, blankB], .inr ⟨13, _, rfl, by decide⟩, by simp, by simp⟩
  match k with
  | 0 => exact h0
  | 1 => exact h1
  | 2 => exact h2
  | 3 => exact h3
  | k + 4 => exact h0
theorem gapAt_is (bl : List UInt8) (i : Nat) : IsGap (gapAt bl i) := by
  unfold gapAt
  split
  · exact gapK_is 0
  · exact gapK_is _

def laid (caps : Bool) : List (List UInt8 × Wd) → List UInt8
  | [] => []
  | x :: l => x.1 ++ (writL x.2 caps ++ laid caps l)
theorem laid_append (caps : Bool) : ∀ (a b : List (List UInt8 × Wd)), laid caps (a ++ b) = laid caps a ++ laid caps b
  | [], b => rfl
  | x :: a, b => by simp [laid, laid_append caps a b]
def Good (l : List (List UInt8 × Wd)) : Prop := ∀ x ∈ l, IsGap x.1 ∧ IsWd x.2
theorem laid_sep {caps : Bool} : ∀ {l : List (List UInt8 × Wd)}, Good l → Sep (laid caps l)
  | [], _ => .inl rfl
  | x :: l, h => by
    obtain ⟨_, hs, hne, _⟩ := (h x List.mem_cons_self).1
    rcases hs with e | ⟨c, r, e, hc⟩
    · exact absurd e hne
    · exact .inr ⟨c, r ++ (writL x.2 caps ++ laid caps l), by simp [laid, e], hc⟩
def posOf (caps : Bool) : List (List UInt8 × Wd) → List (Wd × Nat)
  | [] => []
  | x :: l => (x.2, (writL x.2 caps ++ laid caps l).length) :: posOf caps l
theorem laid_run {caps : Bool} : ∀ {l : List (List UInt8 × Wd)}, Good l → Run (laid caps l) (posOf caps l) []
  | [], _ => .stop []
  | x :: l, h => by
    have ih := laid_run (caps := caps) (l := l) fun y hy => h y (List.mem_cons_of_mem _ hy)
    have hg := (h x List.mem_cons_self).1
    obtain ⟨h1, h2, h3⟩ := written_back (h x List.mem_cons_self).2 caps (laid_sep (caps := caps) (l := l) fun y hy => h y (List.mem_cons_of_mem _ hy))
    have hs : skipL false (laid caps (x :: l)) = writL x.2 caps ++ laid caps l := by
      simp only [laid]
      rw [hg.1, h2]
    simp only [posOf]
    cases hw : writL x.2 caps with
    | nil => exact absurd hw h3
    | cons c r =>
      rw [hw] at h1 hs
      rw [List.cons_append] at h1 hs ⊢
      exact .step hs h1 ih
theorem posOf_at {caps : Bool} : ∀ {l : List (List UInt8 × Wd)} {i : Nat} {x : List UInt8 × Wd}, l[i]? = some x → (posOf caps l)[i]? = some (x.2, (laid caps l).length - ((laid caps (l.take i)).length + x.1.length)) ∧ (laid caps (l.take i)).length + x.1.length ≤ (laid caps l).length
  | [], i, x, h => by simp at h
  | y :: l, 0, x, h => by
    simp at h; subst h
    simp [posOf, laid]
  | y :: l, i + 1, x, h => by
    obtain ⟨h1, h2⟩ := posOf_at (caps := caps) (l := l) (i := i) (x := x) (by simpa using h)
    have e : (laid caps (y :: l)).length = y.1.length + (writL y.2 caps).length + (laid caps l).length := by simp [laid]; omega
    have e2 : (laid caps ((y :: l).take (i + 1))).length = y.1.length + (writL y.2 caps).length + (laid caps (l.take i)).length := by simp [laid]; omega
    rw [e, e2]
    refine ⟨?_, by omega⟩
    simp only [posOf, List.getElem?_cons_succ]
    rw [h1]
    congr 2
    omega
theorem posOf_length {caps : Bool} : ∀ (l : List (List UInt8 × Wd)), (posOf caps l).length = l.length
  | [] => rfl
  | x :: l => by simp [posOf, posOf_length l]
/-- words written anew are told again, each where it stands -/
theorem back_ok {caps : Bool} {l : List (List UInt8 × Wd)} (h : Good l) (hl : (laid caps l).length ≤ 4096) : ∃ m : List Tok, lexL (laid caps l) = .ok m ∧ m.length = l.length + 1 ∧ (∀ (i : Nat) (x : List UInt8 × Wd), l[i]? = some x → m[i]? = some (Tok.mk x.2 ((laid caps (l.take i)).length + x.1.length))) ∧ m[l.length]? = some (endTok (laid caps l).length) := by
  have hr := lex_run hl (laid_run h) rfl
  refine ⟨_, hr, by simp [posOf_length], fun i x hx => ?_, ?_⟩
  · obtain ⟨h1, h2⟩ := posOf_at (caps := caps) hx
    have hi : i < l.length := by
      rcases Nat.lt_or_ge i l.length with h' | h'
      · exact h'
      · rw [List.getElem?_eq_none h'] at hx; cases hx
    rw [List.getElem?_append_left (by simp [posOf_length]; exact hi), List.getElem?_map, h1]
    simp only [Option.map_some, tokAt]
    congr 2
    omega
  · rw [List.getElem?_append_right (by simp [posOf_length])]
    simp [posOf_length]
theorem back_long {s : List UInt8} (h : 4096 < s.length) : lexL s = .error (0, 2) := by
  unfold lexL
  rw [if_pos h]

/-! ### the words of a statement -/
theorem Run.words {r q : List UInt8} {ws : List (Wd × Nat)} (h : Run r ws q) : ∀ x ∈ ws, IsWd x.1 ∧ 1 ≤ x.2 := by
  induction h with
  | stop r => intro x hx; cases hx
  | @step r r1 rest q c w ws hs ho h ih =>
    intro x hx
    rcases List.mem_cons.1 hx with rfl | hx
    · exact ⟨⟨_, _, ho⟩, by simp⟩
    · exact ih x hx
theorem Run.decr {r q : List UInt8} {ws : List (Wd × Nat)} (h : Run r ws q) : ∀ i x y, ws[i]? = some x → ws[i + 1]? = some y → y.2 < x.2 := by
  induction h with
  | stop r => intro i x y hx; simp at hx
  | @step r r1 rest q c w ws hs ho h ih =>
    intro i x y hx hy
    cases i with
    | zero =>
      simp at hx
      subst hx
      have h1 := h.le y (List.mem_of_getElem? (by simpa using hy))
      have h2 := oneL_lt ho
      show y.2 < (c :: r1).length
      omega
    | succ i => exact ih i x y (by simpa using hx) (by simpa using hy)
theorem text_len : ∀ (r t rest : List UInt8), textL r = some (t, rest) → t.length ≤ r.length
  | [], t, rest, h => by simp [textL] at h
  | [c], t, rest, h => by
    simp only [textL] at h
    split at h
    · injection h with h; injection h with h1 h2; subst h1; simp
    · cases h
  | c :: d :: r, t, rest, h => by
    simp only [textL] at h
    split at h
    · split at h
      · cases hr : textL r with
        | none => rw [hr] at h; cases h
        | some x =>
          rw [hr] at h
          simp only [Option.map_some, Option.some.injEq, Prod.mk.injEq] at h
          have := text_len r x.1 x.2 hr
          rw [← h.1]
          simp only [List.length_cons]
          omega
      · injection h with h; injection h with h1 h2; subst h1; simp
    · cases hr : textL (d :: r) with
      | none => rw [hr] at h; cases h
      | some x =>
        rw [hr] at h
        simp only [Option.map_some, Option.some.injEq, Prod.mk.injEq] at h
        have := text_len (d :: r) x.1 x.2 hr
        rw [← h.1]
        simp only [List.length_cons] at this ⊢
        omega
theorem word_len {r rest : List UInt8} {w : Wd} (h : oneL r = .ok (w, rest)) : w.s.length ≤ r.length + 32 := by
  match r with
  | [] => simp [oneL] at h
  | c :: r =>
    simp only [oneL] at h
    split at h
    · split at h
      · rename_i hl
        injection h with h; injection h with h1 h2; subst h1
        simp only [List.length_map]
        omega
      · cases h
    · split at h
      · split at h
        · injection h with h; injection h with h1 h2; subst h1; simp
        · cases h
      · split at h
        · split at h
          · rename_i t rest' ht
            injection h with h; injection h with h1 h2; subst h1
            have := text_len _ _ _ ht
            simp only [List.length_cons]
            omega
          · cases h
        · split at h
          · rename_i s hs
            injection h with h; injection h with h1 h2; subst h1
            have := sign_len (signIn_spec hs).1
            rcases this with ⟨c, rfl⟩ | ⟨c, d, rfl⟩ <;> simp <;> omega
          · cases h
theorem Run.wlen {r q : List UInt8} {ws : List (Wd × Nat)} (h : Run r ws q) : ∀ x ∈ ws, x.1.s.length ≤ r.length + 32 := by
  induction h with
  | stop r => intro x hx; cases hx
  | @step r r1 rest q c w ws hs ho h ih =>
    have h1 := skipL_le false r
    rw [hs] at h1
    have h2 := oneL_lt ho
    intro x hx
    rcases List.mem_cons.1 hx with rfl | hx
    · have := word_len ho
      show w.s.length ≤ _
      omega
    · have := ih x hx; omega
/-- what a statement's words are like -/
theorem ok_words {s : List UInt8} {a : List Tok} (h : lexL s = .ok a) : ∃ n, a.length = n + 1 ∧ n ≤ s.length ∧ a[n]? = some (endTok s.length) ∧ ∀ i t, i < n → a[i]? = some t → IsWd t.w ∧ t.w.s.length ≤ s.length + 32 ∧ t.p < s.length ∧ ∀ u, a[i + 1]? = some u → i + 1 < n → t.p < u.p := by
  obtain ⟨hl, ws, hr, rfl⟩ := run_of_ok h
  refine ⟨ws.length, by simp, ?_, ?_, fun i t hi ht => ?_⟩
  · have := lexL_len (r := s) (f := s.length + 1) (n := s.length) (by rw [← lexL_small hl]; exact h)
    simp at this
    omega
  · rw [List.getElem?_append_right (by simp)]
    simp
  · rw [List.getElem?_append_left (by simpa using hi), List.getElem?_map] at ht
    cases hx : ws[i]? with
    | none => rw [hx] at ht; cases ht
    | some x =>
      rw [hx] at ht
      simp only [Option.map_some, Option.some.injEq] at ht
      subst ht
      have hm := List.mem_of_getElem? hx
      obtain ⟨w1, w2⟩ := hr.words x hm
      have w3 := hr.le x hm
      refine ⟨w1, hr.wlen x hm, by simp only [tokAt]; omega, fun u hu hin => ?_⟩
      rw [List.getElem?_append_left (by simpa using hin), List.getElem?_map] at hu
      cases hy : ws[i + 1]? with
      | none => rw [hy] at hu; cases hu
      | some y =>
        rw [hy] at hu
        simp only [Option.map_some, Option.some.injEq] at hu
        subst hu
        have := hr.decr i x y hx hy
        simp only [tokAt]
        omega
end Go.Proofs.YtcmkfjepikncnaaDoor
