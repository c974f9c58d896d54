/- A statement's words, as a plain function of its bytes. -/
set_option linter.unusedSimpArgs false
set_option linter.unusedVariables false
namespace Go.Proofs.YtcmkfjepikncnaaDoor

def letterB (c : UInt8) : Bool := (decide (97 ≤ c) && decide (c ≤ 122)) || (decide (65 ≤ c) && decide (c ≤ 90)) || c == 95
def digitB (c : UInt8) : Bool := decide (48 ≤ c) && decide (c ≤ 57)
def wordB (c : UInt8) : Bool := letterB c || digitB c
def blankB (c : UInt8) : Bool := c == 32 || c == 9 || c == 10 || c == 13
def capB (c : UInt8) : Bool := decide (65 ≤ c) && decide (c ≤ 90)
def lowB (c : UInt8) : UInt8 := if capB c then c + 32 else c

/-- what is left behind blanks and comments (true: inside a comment) -/
def skipL : Bool → List UInt8 → List UInt8
  | _, [] => []
  | true, c :: r => if c = 10 then skipL false r else skipL true r
  | false, c :: r => if blankB c then skipL false r else if c = 45 ∧ r.head? = some 45 then skipL true r else c :: r

def valL (l : List UInt8) : Nat := l.foldl (fun v c => v * 10 + (c.toNat - 48)) 0
/-- may the digits be a number? -/
def numB (l : List UInt8) : Bool := (decide (l.length ≤ 1) || !(l.head? == some 48)) && decide (valL l ≤ 9223372036854775807)

/-- behind the quote: the text, and what is left behind it -/
def textL : List UInt8 → Option (List UInt8 × List UInt8)
  | [] => none
  | [c] => if c = 39 then some ([], []) else none
  | c :: d :: r => if c = 39 then (if d = 39 then (textL r).map fun x => (39 :: x.1, x.2) else some ([], d :: r)) else (textL (d :: r)).map fun x => (c :: x.1, x.2)

def signs : List (List UInt8) := [[60, 62], [60, 61], [62, 61], [40], [41], [44], [42], [43], [45], [47], [37], [61], [60], [62], [59]]
def signIn : List (List UInt8) → List UInt8 → Option (List UInt8)
  | [], _ => none
  | s :: l, r => if s.isPrefixOf r then some s else signIn l r

/-- a word: kind, text, number -/
structure Wd where
  k : Nat
  s : List UInt8
  n : Int
deriving DecidableEq
structure Tok where
  w : Wd
  p : Nat
deriving DecidableEq

/-- the word that stands first, and what is left -/
def oneL : List UInt8 → Except Nat (Wd × List UInt8)
  | [] => .error 30
  | c :: r =>
    if letterB c then (if ((c :: r).takeWhile wordB).length ≤ 32 then .ok (⟨1, ((c :: r).takeWhile wordB).map lowB, 0⟩, (c :: r).dropWhile wordB) else .error 2)
    else if digitB c then (if numB ((c :: r).takeWhile digitB) && !(((c :: r).dropWhile digitB).head?.any letterB) then .ok (⟨2, [], valL ((c :: r).takeWhile digitB)⟩, (c :: r).dropWhile digitB) else .error 30)
    else if c = 39 then (match textL r with
      | some (t, rest) => .ok (⟨3, t, 0⟩, rest)
      | none => .error 30)
    else match signIn signs (c :: r) with
      | some s => .ok (⟨4, s, 0⟩, (c :: r).drop s.length)
      | none => .error 30

/-- the words of what is left; n: how long the whole is -/
def lexF (n : Nat) : Nat → List UInt8 → Except (Nat × Nat) (List Tok)
  | 0, _ => .error (0, 30)
  | f + 1, r => match skipL false r with
    | [] => .ok [⟨⟨0, [], 0⟩, n⟩]
    | c :: r' => match oneL (c :: r') with
      | .error e => .error (n - (c :: r').length, e)
      | .ok (w, rest) => match lexF n f rest with
        | .error e => .error e
        | .ok l => .ok (⟨w, n - (c :: r').length⟩ :: l)
def lexL (s : List UInt8) : Except (Nat × Nat) (List Tok) := if 4096 < s.length then .error (0, 2) else lexF s.length (s.length + 1) s

def resL : List (List UInt8) := [[97,110,100],[97,115],[98,121],[99,97,108,108],[99,114,101,97,116,101],[100,101,108,101,116,101],[100,101,115,99],[100,114,111,112],[102,97,108,115,101],[102,114,111,109],[103,114,111,117,112],[104,97,118,105,110,103],[105,110,115,101,114,116],[105,110,116,111],[105,115],[108,105,109,105,116],[110,111,116],[110,117,108,108],[111,110,108,121],[111,114],[111,114,100,101,114],[115,101,108,101,99,116],[115,101,116],[116,114,117,101],[117,112,100,97,116,101],[118,97,108,117,101,115],[119,104,101,114,101]]
def resB (s : List UInt8) : Bool := resL.contains s
def nameB (s : List UInt8) : Bool :=
  match s with
  | [] => false
  | c :: r => decide ((c :: r).length ≤ 32) && !resB (c :: r) && !digitB c && (c :: r).all (fun c => !capB c && wordB c)

/-! ### sizes -/
theorem skipL_le : ∀ (b : Bool) (r : List UInt8), (skipL b r).length ≤ r.length
  | _, [] => by simp [skipL]
  | true, c :: r => by
    have h1 := skipL_le false r
    have h2 := skipL_le true r
    simp only [skipL]
    split <;> simp only [List.length_cons] <;> omega
  | false, c :: r => by
    have h1 := skipL_le false r
    have h2 := skipL_le true r
    simp only [skipL]
    split
    · simp only [List.length_cons]; omega
    · split <;> simp only [List.length_cons] <;> omega

theorem textL_split : ∀ (r : List UInt8) (t rest : List UInt8), textL r = some (t, rest) → ∃ b, r = b ++ rest ∧ b ≠ []
  | [], t, rest, h => by simp [textL] at h
  | [c], t, rest, h => by
    simp only [textL] at h
    split at h
    · rename_i hc
      injection h with h; injection h with h1 h2; subst h1 h2 hc
      exact ⟨[39], rfl, by simp⟩
    · cases h
  | c :: d :: r, t, rest, h => by
    simp only [textL] at h
    split at h
    · rename_i hc
      subst hc
      split at h
      · rename_i hd
        subst hd
        cases hr : textL r with
        | none => rw [hr] at h; cases h
        | some x =>
          obtain ⟨t', rest'⟩ := x
          rw [hr] at h
          simp only [Option.map_some, Option.some.injEq, Prod.mk.injEq] at h
          obtain ⟨rfl, rfl⟩ := h
          obtain ⟨b, hb, _⟩ := textL_split r t' _ hr
          exact ⟨39 :: 39 :: b, by rw [hb]; rfl, by simp⟩
      · injection h with h; injection h with h1 h2; subst h1 h2
        exact ⟨[39], rfl, by simp⟩
    · cases hr : textL (d :: r) with
      | none => rw [hr] at h; cases h
      | some x =>
        obtain ⟨t', rest'⟩ := x
        rw [hr] at h
        simp only [Option.map_some, Option.some.injEq, Prod.mk.injEq] at h
        obtain ⟨rfl, rfl⟩ := h
        obtain ⟨b, hb, _⟩ := textL_split (d :: r) t' _ hr
        exact ⟨c :: b, by rw [hb]; rfl, by simp⟩

theorem signIn_spec : ∀ {l : List (List UInt8)} {r s : List UInt8}, signIn l r = some s → s ∈ l ∧ s <+: r
  | [], r, s, h => by simp [signIn] at h
  | x :: l, r, s, h => by
    simp only [signIn] at h
    split at h
    · rename_i hp
      injection h with h; subst h
      exact ⟨List.mem_cons_self, by simpa using hp⟩
    · obtain ⟨h1, h2⟩ := signIn_spec h
      exact ⟨List.mem_cons_of_mem _ h1, h2⟩

/-- a word takes at least a byte -/
theorem oneL_split {r rest : List UInt8} {w : Wd} (h : oneL r = .ok (w, rest)) : ∃ b, r = b ++ rest ∧ b ≠ [] := by
  match r with
  | [] => simp [oneL] at h
  | c :: r =>
    simp only [oneL] at h
    split at h
    · rename_i hc
      split at h
      · injection h with h; injection h with h1 h2; subst h1 h2
        refine ⟨_, (List.takeWhile_append_dropWhile (p := wordB)).symm, ?_⟩
        have : wordB c = true := by simp [wordB, hc]
        simp [List.takeWhile_cons, this]
      · cases h
    · split at h
      · rename_i hc
        split at h
        · injection h with h; injection h with h1 h2; subst h1 h2
          refine ⟨_, (List.takeWhile_append_dropWhile (p := digitB)).symm, ?_⟩
          simp [List.takeWhile_cons, hc]
        · cases h
      · split at h
        · split at h
          · rename_i t rest' ht
            injection h with h; injection h with h1 h2; subst h1 h2
            obtain ⟨b, hb, _⟩ := textL_split _ _ _ ht
            exact ⟨c :: b, by rw [hb]; rfl, by simp⟩
          · cases h
        · split at h
          · rename_i s hs
            injection h with h; injection h with h1 h2; subst h1 h2
            obtain ⟨h1, t, h2⟩ := signIn_spec hs
            refine ⟨s, ?_, ?_⟩
            · rw [← h2]; simp
            · intro e
              subst e
              revert h1; decide
          · cases h
theorem oneL_lt {r rest : List UInt8} {w : Wd} (h : oneL r = .ok (w, rest)) : rest.length < r.length := by
  obtain ⟨b, rfl, hb⟩ := oneL_split h
  have : 0 < b.length := List.length_pos_iff.2 hb
  simp; omega

/-- more fuel changes nothing -/
theorem lexF_fuel (n : Nat) : ∀ (f g : Nat) (r : List UInt8), r.length < f → r.length < g → lexF n f r = lexF n g r
  | 0, _, _, h, _ => by omega
  | _, 0, _, _, h => by omega
  | f + 1, g + 1, r, hf, hg => by
    have hs := skipL_le false r
    simp only [lexF]
    cases hk : skipL false r with
    | nil => rfl
    | cons c r' =>
      rw [hk] at hs
      simp only
      cases ho : oneL (c :: r') with
      | error e => rfl
      | ok x =>
        obtain ⟨w, rest⟩ := x
        have := oneL_lt ho
        simp only
        rw [lexF_fuel n f g rest (by omega) (by omega)]
end Go.Proofs.YtcmkfjepikncnaaDoor
