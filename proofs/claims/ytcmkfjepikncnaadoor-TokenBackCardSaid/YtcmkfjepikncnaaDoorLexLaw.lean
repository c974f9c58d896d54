/- Plain laws of a statement's words: what stands behind a word plays no part but for its first byte. -/
import Derived.Test.YtcmkfjepikncnaaDoorLexP
set_option linter.unusedSimpArgs false
set_option linter.unusedVariables false
namespace Go.Proofs.YtcmkfjepikncnaaDoor

/-! ### blanks -/
theorem skip_split : ∀ (b : Bool) (r : List UInt8) (c : UInt8) (r1 : List UInt8), skipL b r = c :: r1 → ∃ p, r = p ++ c :: r1 ∧ ∀ x, skipL b (p ++ x) = skipL false x
  | _, [], c, r1, h => by simp [skipL] at h
  | true, c0 :: r0, c, r1, h => by
    simp only [skipL] at h
    split at h
    · rename_i hc
      obtain ⟨p, hp, hx⟩ := skip_split false r0 c r1 h
      exact ⟨c0 :: p, by rw [hp]; rfl, fun x => by simp only [List.cons_append, skipL, if_pos hc, hx]⟩
    · rename_i hc
      obtain ⟨p, hp, hx⟩ := skip_split true r0 c r1 h
      exact ⟨c0 :: p, by rw [hp]; rfl, fun x => by simp only [List.cons_append, skipL, if_neg hc, hx]⟩
  | false, c0 :: r0, c, r1, h => by
    simp only [skipL] at h
    split at h
    · rename_i hc
      obtain ⟨p, hp, hx⟩ := skip_split false r0 c r1 h
      exact ⟨c0 :: p, by rw [hp]; rfl, fun x => by simp only [List.cons_append, skipL, if_pos hc, hx]⟩
    · rename_i hc
      split at h
      · rename_i hm
        obtain ⟨p, hp, hx⟩ := skip_split true r0 c r1 h
        match p with
        | [] =>
          exfalso
          rw [List.nil_append] at hp
          subst hp
          have hc : c = 45 := by simpa using hm.2
          subst hc
          rw [show skipL true (45 :: r1) = skipL true r1 by simp [skipL]] at h
          have := skipL_le true r1
          rw [h] at this
          simp at this
          omega
        | d :: p =>
          have hd : d = 45 := by
            have := hm.2
            rw [hp] at this
            simpa using this
          refine ⟨c0 :: d :: p, by rw [hp]; rfl, fun x => ?_⟩
          have h1 : c0 = 45 ∧ (d :: p ++ x).head? = some 45 := ⟨hm.1, by simp [hd]⟩
          rw [List.cons_append, skipL, if_neg hc, if_pos h1, hx]
      · exact ⟨[], by simpa using h, fun x => rfl⟩
theorem skip_end : ∀ (b : Bool) (r : List UInt8), skipL b r = [] → ∀ t, skipL b (r ++ 10 :: t) = skipL false t
  | true, [], _, t => by simp [skipL]
  | false, [], _, t => by simp [skipL, blankB]
  | true, c0 :: r0, h, t => by
    simp only [skipL] at h
    split at h
    · rename_i hc
      simp only [List.cons_append, skipL, if_pos hc]
      exact skip_end false r0 h t
    · rename_i hc
      simp only [List.cons_append, skipL, if_neg hc]
      exact skip_end true r0 h t
  | false, c0 :: r0, h, t => by
    simp only [skipL] at h
    split at h
    · rename_i hc
      simp only [List.cons_append, skipL, if_pos hc]
      exact skip_end false r0 h t
    · rename_i hc
      split at h
      · rename_i hm
        have h1 : c0 = 45 ∧ (r0 ++ 10 :: t).head? = some 45 := by
          refine ⟨hm.1, ?_⟩
          cases r0 with
          | nil => simp at hm
          | cons d r0 => simpa using hm.2
        rw [List.cons_append, skipL, if_neg hc, if_pos h1]
        exact skip_end true r0 h t
      · cases h
theorem skip_stop {b : Bool} {r r1 : List UInt8} {c : UInt8} (h : skipL b r = c :: r1) : skipL false (c :: r1) = c :: r1 := by
  obtain ⟨p, hp, hx⟩ := skip_split b r c r1 h
  rw [← hx, ← hp, h]

/-! ### a word, and the byte behind it -/
def Sep (x : List UInt8) : Prop := x = [] ∨ ∃ c r, x = c :: r ∧ blankB c = true
theorem blank_cases {c : UInt8} (h : blankB c = true) : c = 32 ∨ c = 9 ∨ c = 10 ∨ c = 13 := by
  simp only [blankB, Bool.or_eq_true, beq_iff_eq] at h
  rcases h with ((h | h) | h) | h <;> simp [h]
theorem tw_append {p : UInt8 → Bool} {b x : List UInt8} (hb : ∀ c ∈ b, p c = true) (hx : x.head?.any p = false) : (b ++ x).takeWhile p = b ∧ (b ++ x).dropWhile p = x := by
  rw [List.takeWhile_append_of_pos hb, List.dropWhile_append_of_pos hb]
  cases x with
  | nil => simp
  | cons d x =>
    have : p d = false := by simpa using hx
    simp [List.takeWhile_cons, List.dropWhile_cons, this]
theorem tw_head (p : UInt8 → Bool) (l : List UInt8) : (l.dropWhile p).head?.any p = false := by
  induction l with
  | nil => rfl
  | cons c l ih =>
    rw [List.dropWhile_cons]
    split
    · exact ih
    · rename_i h; simpa using h
theorem tw_all (p : UInt8 → Bool) (l : List UInt8) : ∀ c ∈ l.takeWhile p, p c = true := fun c hc => by
  have := List.all_takeWhile (p := p) (l := l)
  exact List.all_eq_true.1 this c hc
theorem sep_not {x : List UInt8} (h : Sep x) (p : UInt8 → Bool) (h1 : p 32 = false) (h2 : p 9 = false) (h3 : p 10 = false) (h4 : p 13 = false) : x.head?.any p = false := by
  rcases h with rfl | ⟨c, r, rfl, hc⟩
  · rfl
  · rcases blank_cases hc with rfl | rfl | rfl | rfl <;> simpa
/-- what may stand behind in the place of rest -/
def Fits (rest y : List UInt8) : Prop := y.head? = rest.head? ∨ Sep y
theorem Fits.not {rest y : List UInt8} (h : Fits rest y) (p : UInt8 → Bool) (hr : rest.head?.any p = false) (h1 : p 32 = false) (h2 : p 9 = false) (h3 : p 10 = false) (h4 : p 13 = false) : y.head?.any p = false := by
  rcases h with h | h
  · rw [h]; exact hr
  · exact sep_not h p h1 h2 h3 h4

theorem textL_fits : ∀ (r : List UInt8) (t rest : List UInt8), textL r = some (t, rest) → rest.head?.any (· == 39) = false ∧ ∃ b, r = b ++ rest ∧ ∀ y, y.head?.any (· == 39) = false → textL (b ++ y) = some (t, y)
  | [], t, rest, h => by simp [textL] at h
  | [c], t, rest, h => by
    simp only [textL] at h
    split at h
    · rename_i hc
      injection h with h; injection h with h1 h2; subst h1 h2 hc
      refine ⟨rfl, [39], rfl, fun y hy => ?_⟩
      cases y with
      | nil => rfl
      | cons d y => have : ¬ d = 39 := by simpa using hy
                    simp [textL, this]
    · cases h
  | c :: d :: r, t, rest, h => by
    simp only [textL] at h
    split at h
    · rename_i hc
      subst hc
      split at h
      · rename_i hd
        subst hd
        cases hr : textL r with
        | none => rw [hr] at h; cases h
        | some x =>
          obtain ⟨t', rest'⟩ := x
          rw [hr] at h
          simp only [Option.map_some, Option.some.injEq, Prod.mk.injEq] at h
          obtain ⟨rfl, rfl⟩ := h
          obtain ⟨h0, b, hb, hy⟩ := textL_fits r t' _ hr
          exact ⟨h0, 39 :: 39 :: b, by rw [hb]; rfl, fun y h => by simp [textL, hy y h]⟩
      · rename_i hd
        injection h with h; injection h with h1 h2; subst h1 h2
        refine ⟨by simpa using hd, [39], rfl, fun y hy => ?_⟩
        cases y with
        | nil => rfl
        | cons d y => have : ¬ d = 39 := by simpa using hy
                      simp [textL, this]
    · rename_i hc
      cases hr : textL (d :: r) with
      | none => rw [hr] at h; cases h
      | some x =>
        obtain ⟨t', rest'⟩ := x
        rw [hr] at h
        simp only [Option.map_some, Option.some.injEq, Prod.mk.injEq] at h
        obtain ⟨rfl, rfl⟩ := h
        obtain ⟨h0, b, hb, hy⟩ := textL_fits (d :: r) t' _ hr
        refine ⟨h0, c :: b, by rw [hb]; rfl, fun y h => ?_⟩
        cases hby : b ++ y with
        | nil =>
          have h2 := hy y h
          rw [hby] at h2
          simp [textL] at h2
        | cons e z =>
          have h2 := hy y h
          rw [hby] at h2
          rw [List.cons_append, hby]
          simp [textL, hc, h2]

theorem sign_two (c d : UInt8) (r r' : List UInt8) : signIn signs (c :: d :: r) = signIn signs (c :: d :: r') := by
  simp [signIn, signs, List.isPrefixOf]
theorem sign_sep {s : List UInt8} (hs : s ∈ signs) {x : List UInt8} (hx : Sep x) : signIn signs (s ++ x) = some s := by
  simp only [signs, List.mem_cons, List.not_mem_nil, or_false] at hs
  rcases hx with rfl | ⟨c, r, rfl, hc⟩
  · rcases hs with rfl | rfl | rfl | rfl | rfl | rfl | rfl | rfl | rfl | rfl | rfl | rfl | rfl | rfl | rfl <;> rfl
  · rcases hs with rfl | rfl | rfl | rfl | rfl | rfl | rfl | rfl | rfl | rfl | rfl | rfl | rfl | rfl | rfl <;> rcases blank_cases hc with rfl | rfl | rfl | rfl <;> rfl
theorem sign_len {s : List UInt8} (hs : s ∈ signs) : (∃ c, s = [c]) ∨ ∃ c d, s = [c, d] := by
  simp only [signs, List.mem_cons, List.not_mem_nil, or_false] at hs
  rcases hs with rfl | rfl | rfl | rfl | rfl | rfl | rfl | rfl | rfl | rfl | rfl | rfl | rfl | rfl | rfl <;> first | exact .inl ⟨_, rfl⟩ | exact .inr ⟨_, _, rfl⟩
theorem sign_fits {s rest y : List UInt8} (h : signIn signs (s ++ rest) = some s) (hf : Fits rest y) : signIn signs (s ++ y) = some s := by
  have hs := (signIn_spec h).1
  rcases hf with hf | hf
  · rcases sign_len hs with ⟨c, rfl⟩ | ⟨c, d, rfl⟩
    · cases rest with
      | nil =>
        cases y with
        | nil => exact h
        | cons d y => simp at hf
      | cons d rest =>
        cases y with
        | nil => simp at hf
        | cons e y =>
          have : e = d := by simpa using hf
          subst this
          exact (sign_two c e y rest).trans h
    · exact (sign_two c d y rest).trans h
  · exact sign_sep hs hf

theorem one_fits {r rest : List UInt8} {w : Wd} (h : oneL r = .ok (w, rest)) : ∃ b, r = b ++ rest ∧ b ≠ [] ∧ ∀ y, Fits rest y → oneL (b ++ y) = .ok (w, y) := by
  match r with
  | [] => simp [oneL] at h
  | c :: r =>
    simp only [oneL] at h
    split at h
    · rename_i hc
      have hw : wordB c = true := by simp [wordB, hc]
      split at h
      · rename_i hl
        injection h with h; injection h with h1 h2; subst h1 h2
        have e : (c :: r).takeWhile wordB = c :: r.takeWhile wordB := by simp [List.takeWhile_cons, hw]
        refine ⟨_, (List.takeWhile_append_dropWhile (p := wordB)).symm, by rw [e]; simp, fun y hy => ?_⟩
        obtain ⟨t1, t2⟩ := tw_append (tw_all wordB (c :: r)) (hy.not wordB (tw_head wordB _) (by decide) (by decide) (by decide) (by decide))
        rw [e] at t1 t2 hl ⊢
        rw [List.cons_append] at t1 t2 ⊢
        simp only [oneL, if_pos hc]
        rw [t1, t2, if_pos hl]
      · cases h
    · rename_i hc
      split at h
      · rename_i hd
        split at h
        · rename_i hl
          injection h with h; injection h with h1 h2; subst h1 h2
          have e : (c :: r).takeWhile digitB = c :: r.takeWhile digitB := by simp [List.takeWhile_cons, hd]
          refine ⟨_, (List.takeWhile_append_dropWhile (p := digitB)).symm, by rw [e]; simp, fun y hy => ?_⟩
          obtain ⟨t1, t2⟩ := tw_append (tw_all digitB (c :: r)) (hy.not digitB (tw_head digitB _) (by decide) (by decide) (by decide) (by decide))
          have hl2 := hl
          simp only [Bool.and_eq_true, Bool.not_eq_true'] at hl2
          have t3 := hy.not letterB hl2.2 (by decide) (by decide) (by decide) (by decide)
          have t4 := hl2.1
          rw [e] at t1 t2 t4 ⊢
          rw [List.cons_append] at t1 t2 ⊢
          simp only [oneL, if_neg hc, if_pos hd]
          rw [t1, t2, t3, t4]
          rfl
        · cases h
      · rename_i hd
        split at h
        · rename_i hq
          split at h
          · rename_i t rest' ht
            injection h with h; injection h with h1 h2; subst h1 h2
            obtain ⟨h0, b, hb, hy⟩ := textL_fits _ _ _ ht
            refine ⟨c :: b, by rw [hb]; rfl, by simp, fun y hf => ?_⟩
            have := hy y (hf.not _ h0 (by decide) (by decide) (by decide) (by decide))
            simp only [List.cons_append, oneL, if_neg hc, if_neg hd, if_pos hq, this]
          · cases h
        · rename_i hq
          split at h
          · rename_i s hs
            injection h with h; injection h with h1 h2; subst h1 h2
            obtain ⟨h1, t, h2⟩ := signIn_spec hs
            have hne : s ≠ [] := by intro e; subst e; revert h1; decide
            refine ⟨s, by rw [← h2]; simp, hne, fun y hf => ?_⟩
            have hst : (c :: r).drop s.length = t := by rw [← h2]; simp
            rw [hst] at hf
            rw [← h2] at hs
            have := sign_fits hs hf
            cases s with
            | nil => exact absurd rfl hne
            | cons d s =>
              have hdc : d = c := by simpa using congrArg List.head? h2
              subst hdc
              rw [List.cons_append] at this ⊢
              simp only [oneL, if_neg hc, if_neg hd, if_neg hq, this]
              simp
          · cases h

/-! ### the words up to a place -/
/-- from r on the words ws, each with how many bytes are left where it begins; q is left -/
inductive Run : List UInt8 → List (Wd × Nat) → List UInt8 → Prop
  | stop (r : List UInt8) : Run r [] (skipL false r)
  | step {r r1 rest q : List UInt8} {c : UInt8} {w : Wd} {ws : List (Wd × Nat)} (hs : skipL false r = c :: r1) (ho : oneL (c :: r1) = .ok (w, rest)) (h : Run rest ws q) : Run r ((w, (c :: r1).length) :: ws) q

def tokAt (n : Nat) (x : Wd × Nat) : Tok := ⟨x.1, n - x.2⟩
def endTok (n : Nat) : Tok := ⟨⟨0, [], 0⟩, n⟩
theorem lexF_ok {n : Nat} : ∀ {f : Nat} {r : List UInt8} {l : List Tok}, lexF n f r = .ok l → ∃ ws, Run r ws [] ∧ l = ws.map (tokAt n) ++ [endTok n]
  | 0, r, l, h => by simp [lexF] at h
  | f + 1, r, l, h => by
    simp only [lexF] at h
    split at h
    · rename_i hs
      injection h with h; subst h
      exact ⟨[], by rw [← hs]; exact .stop r, rfl⟩
    · rename_i c r1 hs
      split at h
      · cases h
      · rename_i w rest ho
        split at h
        · cases h
        · rename_i l' hl
          injection h with h; subst h
          obtain ⟨ws, hr, e⟩ := lexF_ok hl
          exact ⟨_, .step hs ho hr, by rw [e]; rfl⟩
theorem lexF_err {n : Nat} : ∀ {f : Nat} {r : List UInt8} {p e : Nat}, r.length < f → lexF n f r = .error (p, e) → ∃ ws c q, Run r ws (c :: q) ∧ oneL (c :: q) = .error e ∧ p = n - (c :: q).length
  | 0, r, p, e, hf, h => by omega
  | f + 1, r, p, e, hf, h => by
    simp only [lexF] at h
    split at h
    · cases h
    · rename_i c r1 hs
      have hle := skipL_le false r
      rw [hs] at hle
      split at h
      · rename_i e' ho
        injection h with h; injection h with h1 h2; subst h1 h2
        exact ⟨[], c, r1, by rw [← hs]; exact .stop r, ho, rfl⟩
      · rename_i w rest ho
        have := oneL_lt ho
        split at h
        · rename_i e' hl
          injection h with h; subst h
          obtain ⟨ws, c', q, hr, ho', e⟩ := lexF_err (by omega) hl
          exact ⟨_, c', q, .step hs ho hr, ho', e⟩
        · cases h
theorem lexF_run {n : Nat} {r q : List UInt8} {ws : List (Wd × Nat)} (h : Run r ws q) : ∀ {f : Nat}, r.length < f → q = [] → lexF n f r = .ok (ws.map (tokAt n) ++ [endTok n]) := by
  induction h with
  | stop r =>
    intro f hf hq
    cases f with
    | zero => omega
    | succ f => simp only [lexF, hq]; rfl
  | @step r r1 rest q c w ws hs ho h ih =>
    intro f hf hq
    cases f with
    | zero => omega
    | succ f =>
      have hle := skipL_le false r
      rw [hs] at hle
      have := oneL_lt ho
      simp only [lexF, hs, ho, ih (f := f) (by omega) hq]
      rfl
theorem lexF_run_err {n : Nat} {r q : List UInt8} {ws : List (Wd × Nat)} (h : Run r ws q) : ∀ {f c q' e}, r.length < f → q = c :: q' → oneL (c :: q') = .error e → lexF n f r = .error (n - (c :: q').length, e) := by
  induction h with
  | stop r =>
    intro f c q' e hf hq he
    cases f with
    | zero => omega
    | succ f => simp only [lexF, hq, he]
  | @step r r1 rest q c w ws hs ho h ih =>
    intro f c' q' e hf hq he
    cases f with
    | zero => omega
    | succ f =>
      have hle := skipL_le false r
      rw [hs] at hle
      have := oneL_lt ho
      simp only [lexF, hs, ho, ih (f := f) (by omega) hq he]

/-- what is left is the end of the whole -/
theorem Run.split {r q : List UInt8} {ws : List (Wd × Nat)} (h : Run r ws q) (hq : q ≠ []) : ∃ p, r = p ++ q ∧ ∀ y, Fits q y → Run (p ++ y) (ws.map fun x => (x.1, x.2 - q.length + y.length)) (skipL false y) := by
  induction h with
  | stop r =>
    match hs : skipL false r with
    | [] => exact absurd hs hq
    | c :: r1 =>
      obtain ⟨p, hp, hx⟩ := skip_split false r c r1 hs
      exact ⟨p, hp, fun y _ => by rw [← hx]; exact .stop _⟩
  | @step r r1 rest q c w ws hs ho h ih =>
    obtain ⟨p2, hp2, hy2⟩ := ih hq
    obtain ⟨p0, hp0, hx0⟩ := skip_split false r c r1 hs
    obtain ⟨b, hb, hbne, hfit⟩ := one_fits ho
    refine ⟨p0 ++ (b ++ p2), by rw [hp0, hb, hp2]; simp, fun y hy => ?_⟩
    have hf2 : Fits rest (p2 ++ y) := by
      rw [hp2]
      cases p2 with
      | nil => exact hy
      | cons d p2 => exact .inl rfl
    have ho2 := hfit _ hf2
    have hlen : (c :: r1).length - q.length + y.length = (b ++ (p2 ++ y)).length := by
      rw [hb, hp2]; simp; omega
    cases b with
    | nil => exact absurd rfl hbne
    | cons d b =>
      have hdc : d = c := by have := congrArg List.head? hb; simpa using this.symm
      subst hdc
      have hs2 : skipL false (p0 ++ ((d :: b) ++ p2) ++ y) = d :: (b ++ (p2 ++ y)) := by
        rw [show p0 ++ ((d :: b) ++ p2) ++ y = p0 ++ (d :: (b ++ (p2 ++ y))) by simp, hx0]
        have hst := skip_stop hs
        rw [hb] at hst
        -- the head decides, and the byte behind it
        have key : skipL false (d :: (b ++ rest)) = d :: (b ++ rest) := hst
        simp only [skipL] at key ⊢
        split at key
        · exfalso
          have := skipL_le false (b ++ rest)
          rw [key] at this
          simp at this
          omega
        · rename_i hbl
          rw [if_neg hbl]
          split at key
          · exfalso
            have := skipL_le true (b ++ rest)
            rw [key] at this
            simp at this
            omega
          · rename_i hm
            rw [if_neg]
            rintro ⟨rfl, hh⟩
            apply hm
            refine ⟨rfl, ?_⟩
            cases b with
            | cons e b => simpa using hh
            | nil =>
              rw [List.nil_append] at hh ⊢
              rcases hf2 with hf2 | hf2
              · rw [← hf2]; exact hh
              · rcases hf2 with h0 | ⟨e, x, h0, hbk⟩
                · rw [h0] at hh; simp at hh
                · rw [h0] at hh
                  simp at hh
                  subst hh
                  exact absurd hbk (by decide)
      have := Run.step (ws := ws.map fun x => (x.1, x.2 - q.length + y.length)) (q := skipL false y) hs2 ho2 (hy2 y hy)
      rw [List.map_cons, hlen]
      exact this
end Go.Proofs.YtcmkfjepikncnaaDoor
