/- Parts of the proof: LexP, LexLaw. Put together by slim.py. -/
set_option linter.unusedSimpArgs false
set_option linter.unusedVariables false
namespace Go.Proofs.YtcneefmaghoejaaGreatDoor
def letterB (c : UInt8) : Bool := (decide (97 ≤ c) && decide (c ≤ 122)) || (decide (65 ≤ c) && decide (c ≤ 90)) || c == 95
def digitB (c : UInt8) : Bool := decide (48 ≤ c) && decide (c ≤ 57)
def wordB (c : UInt8) : Bool := letterB c || digitB c
def blankB (c : UInt8) : Bool := c == 32 || c == 9 || c == 10 || c == 13
def capB (c : UInt8) : Bool := decide (65 ≤ c) && decide (c ≤ 90)
def lowB (c : UInt8) : UInt8 := if capB c then c + 32 else c
def skipL : Bool → List UInt8 → List UInt8
  | _, [] => []
  | true, c :: r => if c = 10 then skipL false r else skipL true r
  | false, c :: r => if blankB c then skipL false r else if c = 45 ∧ r.head? = some 45 then skipL true r else c :: r
def valL (l : List UInt8) : Nat := l.foldl (fun v c => v * 10 + (c.toNat - 48)) 0
def numB (l : List UInt8) : Bool := (decide (l.length ≤ 1) || !(l.head? == some 48)) && decide (valL l ≤ 9223372036854775807)
def textL : List UInt8 → Option (List UInt8 × List UInt8)
  | [] => none
  | [c] => if c = 39 then some ([], []) else none
  | c :: d :: r => if c = 39 then (if d = 39 then (textL r).map fun x => (39 :: x.1, x.2) else some ([], d :: r)) else (textL (d :: r)).map fun x => (c :: x.1, x.2)
def signs : List (List UInt8) := [[60, 62], [60, 61], [62, 61], [40], [41], [44], [42], [43], [45], [47], [37], [61], [60], [62], [59]]
def signIn : List (List UInt8) → List UInt8 → Option (List UInt8)
  | [], _ => none
  | s :: l, r => if s.isPrefixOf r then some s else signIn l r
structure Wd where
  k : Nat
  s : List UInt8
  n : Int
deriving DecidableEq
structure Tok where
  w : Wd
  p : Nat
deriving DecidableEq
def oneL : List UInt8 → Except Nat (Wd × List UInt8)
  | [] => .error 30
  | c :: r =>
    if letterB c then (if ((c :: r).takeWhile wordB).length ≤ 32 then .ok (⟨1, ((c :: r).takeWhile wordB).map lowB, 0⟩, (c :: r).dropWhile wordB) else .error 2)
    else if digitB c then (if numB ((c :: r).takeWhile digitB) && !(((c :: r).dropWhile digitB).head?.any letterB) then .ok (⟨2, [], valL ((c :: r).takeWhile digitB)⟩, (c :: r).dropWhile digitB) else .error 30)
    else if c = 39 then (match textL r with
      | some (t, rest) => .ok (⟨3, t, 0⟩, rest)
      | none => .error 30)
    else match signIn signs (c :: r) with
      | some s => .ok (⟨4, s, 0⟩, (c :: r).drop s.length)
      | none => .error 30
def lexF (n : Nat) : Nat → List UInt8 → Except (Nat × Nat) (List Tok)
  | 0, _ => .error (0, 30)
  | f + 1, r => match skipL false r with
    | [] => .ok [⟨⟨0, [], 0⟩, n⟩]
    | c :: r' => match oneL (c :: r') with
      | .error e => .error (n - (c :: r').length, e)
      | .ok (w, rest) => match lexF n f rest with
        | .error e => .error e
        | .ok l => .ok (⟨w, n - (c :: r').length⟩ :: l)
def lexL (s : List UInt8) : Except (Nat × Nat) (List Tok) := if 4096 < s.length then .error (0, 2) else lexF s.length (s.length + 1) s
def resL : List (List UInt8) := [[97,110,100],[97,115],[98,121],[99,97,108,108],[99,114,101,97,116,101],[100,101,108,101,116,101],[100,101,115,99],[100,114,111,112],[102,97,108,115,101],[102,114,111,109],[103,114,111,117,112],[104,97,118,105,110,103],[105,110,115,101,114,116],[105,110,116,111],[105,115],[108,105,109,105,116],[110,111,116],[110,117,108,108],[111,110,108,121],[111,114],[111,114,100,101,114],[115,101,108,101,99,116],[115,101,116],[116,114,117,101],[117,112,100,97,116,101],[118,97,108,117,101,115],[119,104,101,114,101]]
def resB (s : List UInt8) : Bool := resL.contains s
def nameB (s : List UInt8) : Bool :=
  match s with
  | [] => false
  | c :: r => decide ((c :: r).length ≤ 32) && !resB (c :: r) && !digitB c && (c :: r).all (fun c => !capB c && wordB c)
theorem skipL_le : ∀ (b : Bool) (r : List UInt8), (skipL b r).length ≤ r.length
  | _, [] => by simp [skipL]
  | true, c :: r => by
    have h1 := skipL_le false r
    have h2 := skipL_le true r
    simp only [skipL]
    split <;> simp only [List.length_cons] <;> omega
  | false, c :: r => by
    have h1 := skipL_le false r
    have h2 := skipL_le true r
    simp only [skipL]
    split
    · simp only [List.length_cons]; omega
    · split <;> simp only [List.length_cons] <;> omega
theorem textL_split : ∀ (r : List UInt8) (t rest : List UInt8), textL r = some (t, rest) → ∃ b, r = b ++ rest ∧ b ≠ []
  | [], t, rest, h => by simp [textL] at h
  | [c], t, rest, h => by
    simp only [textL] at h
    split at h
    · rename_i hc
      injection h with h; injection h with h1 h2; subst h1 h2 hc
      exact ⟨[39], rfl, by simp⟩
    · cases h
  | c :: d :: r, t, rest, h => by
    simp only [textL] at h
    split at h
    · rename_i hc
      subst hc
      split at h
      · rename_i hd
        subst hd
        cases hr : textL r with
        | none => rw [hr] at h; cases h
        | some x =>
          obtain ⟨t', rest'⟩ := x
          rw [hr] at h
          simp only [Option.map_some, Option.some.injEq, Prod.mk.injEq] at h
          obtain ⟨rfl, rfl⟩ := h
          obtain ⟨b, hb, _⟩ := textL_split r t' _ hr
          exact ⟨39 :: 39 :: b, by rw [hb]; rfl, by simp⟩
      · injection h with h; injection h with h1 h2; subst h1 h2
        exact ⟨[39], rfl, by simp⟩
    · cases hr : textL (d :: r) with
      | none => rw [hr] at h; cases h
      | some x =>
        obtain ⟨t', rest'⟩ := x
        rw [hr] at h
        simp only [Option.map_some, Option.some.injEq, Prod.mk.injEq] at h
        obtain ⟨rfl, rfl⟩ := h
        obtain ⟨b, hb, _⟩ := textL_split (d :: r) t' _ hr
        exact ⟨c :: b, by rw [hb]; rfl, by simp⟩
theorem signIn_spec : ∀ {l : List (List UInt8)} {r s : List UInt8}, signIn l r = some s → s ∈ l ∧ s <+: r
  | [], r, s, h => by simp [signIn] at h
  | x :: l, r, s, h => by
    simp only [signIn] at h
    split at h
    · rename_i hp
      injection h with h; subst h
      exact ⟨List.mem_cons_self, by simpa using hp⟩
    · obtain ⟨h1, h2⟩ := signIn_spec h
      exact ⟨List.mem_cons_of_mem _ h1, h2⟩
theorem oneL_split {r rest : List UInt8} {w : Wd} (h : oneL r = .ok (w, rest)) : ∃ b, r = b ++ rest ∧ b ≠ [] := by
  match r with
  | [] => simp [oneL] at h
  | c :: r =>
    simp only [oneL] at h
    split at h
    · rename_i hc
      split at h
      · injection h with h; injection h with h1 h2; subst h1 h2
        refine ⟨_, (List.takeWhile_append_dropWhile (p := wordB)).symm, ?_⟩
        have : wordB c = true := by simp [wordB, hc]
        simp [List.takeWhile_cons, this]
      · cases h
    · split at h
      · rename_i hc
        split at h
        · injection h with h; injection h with h1 h2; subst h1 h2
          refine ⟨_, (List.takeWhile_append_dropWhile (p := digitB)).symm, ?_⟩
          simp [List.takeWhile_cons, hc]
        · cases h
      · split at h
        · split at h
          · rename_i t rest' ht
            injection h with h; injection h with h1 h2; subst h1 h2
            obtain ⟨b, hb, _⟩ := textL_split _ _ _ ht
            exact ⟨c :: b, by rw [hb]; rfl, by simp⟩
          · cases h
        · split at h
          · rename_i s hs
            injection h with h; injection h with h1 h2; subst h1 h2
            obtain ⟨h1, t, h2⟩ := signIn_spec hs
            refine ⟨s, ?_, ?_⟩
            · rw [← h2]; simp
            · intro e
              subst e
              revert h1; decide
          · cases h
theorem oneL_lt {r rest : List UInt8} {w : Wd} (h : oneL r = .ok (w, rest)) : rest.length < r.length := by
  obtain ⟨b, rfl, hb⟩ := oneL_split h
  have : 0 < b.length := List.length_pos_iff.2 hb
  simp; omega
theorem lexF_fuel (n : Nat) : ∀ (f g : Nat) (r : List UInt8), r.length < f → r.length < g → lexF n f r = lexF n g r
  | 0, _, _, h, _ => by omega
  | _, 0, _, _, h => by omega
  | f + 1, g + 1, r, hf, hg => by
    have hs := skipL_le false r
    simp only [lexF]
    cases hk : skipL false r with
    | nil => rfl
    | cons c r' =>
      rw [hk] at hs
      simp only
      cases ho : oneL (c :: r') with
      | error e => rfl
      | ok x =>
        obtain ⟨w, rest⟩ := x
        have := oneL_lt ho
        simp only
        rw [lexF_fuel n f g rest (by omega) (by omega)]
end Go.Proofs.YtcneefmaghoejaaGreatDoor
set_option linter.unusedSimpArgs false
set_option linter.unusedVariables false
namespace Go.Proofs.YtcneefmaghoejaaGreatDoor
theorem skip_split : ∀ (b : Bool) (r : List UInt8) (c : UInt8) (r1 : List UInt8), skipL b r = c :: r1 → ∃ p, r = p ++ c :: r1 ∧ ∀ x, skipL b (p ++ x) = skipL false x
  | _, [], c, r1, h => by simp [skipL] at h
  | true, c0 :: r0, c, r1, h => by
    simp only [skipL] at h
    split at h
    · rename_i hc
      obtain ⟨p, hp, hx⟩ := skip_split false r0 c r1 h
      exact ⟨c0 :: p, by rw [hp]; rfl, fun x => by simp only [List.cons_append, skipL, if_pos hc, hx]⟩
    · rename_i hc
      obtain ⟨p, hp, hx⟩ := skip_split true r0 c r1 h
      exact ⟨c0 :: p, by rw [hp]; rfl, fun x => by simp only [List.cons_append, skipL, if_neg hc, hx]⟩
  | false, c0 :: r0, c, r1, h => by
    simp only [skipL] at h
    split at h
    · rename_i hc
      obtain ⟨p, hp, hx⟩ := skip_split false r0 c r1 h
      exact ⟨c0 :: p, by rw [hp]; rfl, fun x => by simp only [List.cons_append, skipL, if_pos hc, hx]⟩
    · rename_i hc
      split at h
      · rename_i hm
        obtain ⟨p, hp, hx⟩ := skip_split true r0 c r1 h
        match p with
        | [] =>
          exfalso
          rw [List.nil_append] at hp
          subst hp
          have hc : c = 45 := by simpa using hm.2
          subst hc
          rw [show skipL true (45 :: r1) = skipL true r1 by simp [skipL]] at h
          have := skipL_le true r1
          rw [h] at this
          simp at this
          omega
        | d :: p =>
          have hd : d = 45 := by
            have := hm.2
            rw [hp] at this
            simpa using this
          refine ⟨c0 :: d :: p, by rw [hp]; rfl, fun x => ?_⟩
          have h1 : c0 = 45 ∧ (d :: p ++ x).head? = some 45 := ⟨hm.1, by simp [hd]⟩
          rw [List.cons_append, skipL, if_neg hc, if_pos h1, hx]
      · exact ⟨[], by simpa using h, fun x => rfl⟩
theorem skip_end : ∀ (b : Bool) (r : List UInt8), skipL b r = [] → ∀ t, skipL b (r ++ 10 :: t) = skipL false t
  | true, [], _, t => by simp [skipL]
  | false, [], _, t => by simp [skipL, blankB]
  | true, c0 :: r0, h, t => by
    simp only [skipL] at h
    split at h
    · rename_i hc
      simp only [List.cons_append, skipL, if_pos hc]
      exact skip_end false r0 h t
    · rename_i hc
      simp only [List.cons_append, skipL, if_neg hc]
      exact skip_end true r0 h t
  | false, c0 :: r0, h, t => by
    simp only [skipL] at h
    split at h
    · rename_i hc
      simp only [List.cons_append, skipL, if_pos hc]
      exact skip_end false r0 h t
    · rename_i hc
      split at h
      · rename_i hm
        have h1 : c0 = 45 ∧ (r0 ++ 10 :: t).head? = some 45 := by
          refine ⟨hm.1, ?_⟩
          cases r0 with
          | nil => simp at hm
          | cons d r0 => simpa using hm.2
        rw [List.cons_append, skipL, if_neg hc, if_pos h1]
        exact skip_end true r0 h t
      · cases h
theorem skip_stop {b : Bool} {r r1 : List UInt8} {c : UInt8} (h : skipL b r = c :: r1) : skipL false (c :: r1) = c :: r1 := by
  obtain ⟨p, hp, hx⟩ := skip_split b r c r1 h
  rw [← hx, ← hp, h]
def Sep (x : List UInt8) : Prop := x = [] ∨ ∃ c r, x = c :: r ∧ blankB c = true
theorem blank_cases {c : UInt8} (h : blankB c = true) : c = 32 ∨ c = 9 ∨ c = 10 ∨ c = 13 := by
  simp only [blankB, Bool.or_eq_true, beq_iff_eq] at h
  rcases h with ((h | h) | h) | h <;> simp [h]
theorem tw_append {p : UInt8 → Bool} {b x : List UInt8} (hb : ∀ c ∈ b, p c = true) (hx : x.head?.any p = false) : (b ++ x).takeWhile p = b ∧ (b ++ x).dropWhile p = x := by
  rw [List.takeWhile_append_of_pos hb, List.dropWhile_append_of_pos hb]
  cases x with
  | nil => simp
  | cons d x =>
    have : p d = false := by simpa using hx
    simp [List.takeWhile_cons, List.dropWhile_cons, this]
theorem tw_head (p : UInt8 → Bool) (l : List UInt8) : (l.dropWhile p).head?.any p = false := by
  induction l with
  | nil => rfl
  | cons c l ih =>
    rw [List.dropWhile_cons]
    split
    · exact ih
    · rename_i h; simpa using h
theorem tw_all (p : UInt8 → Bool) (l : List UInt8) : ∀ c ∈ l.takeWhile p, p c = true := fun c hc => by
  have := List.all_takeWhile (p := p) (l := l)
  exact List.all_eq_true.1 this c hc
theorem sep_not {x : List UInt8} (h : Sep x) (p : UInt8 → Bool) (h1 : p 32 = false) (h2 : p 9 = false) (h3 : p 10 = false) (h4 : p 13 = false) : x.head?.any p = false := by
  rcases h with rfl | ⟨c, r, rfl, hc⟩
  · rfl
  · rcases blank_cases hc with rfl | rfl | rfl | rfl <;> simpa
def Fits (rest y : List UInt8) : Prop := y.head? = rest.head? ∨ Sep y
theorem Fits.not {rest y : List UInt8} (h : Fits rest y) (p : UInt8 → Bool) (hr : rest.head?.any p = false) (h1 : p 32 = false) (h2 : p 9 = false) (h3 : p 10 = false) (h4 : p 13 = false) : y.head?.any p = false := by
  rcases h with h | h
  · rw [h]; exact hr
  · exact sep_not h p h1 h2 h3 h4
theorem textL_fits : ∀ (r : List UInt8) (t rest : List UInt8), textL r = some (t, rest) → rest.head?.any (· == 39) = false ∧ ∃ b, r = b ++ rest ∧ ∀ y, y.head?.any (· == 39) = false → textL (b ++ y) = some (t, y)
  | [], t, rest, h => by simp [textL] at h
  | [c], t, rest, h => by
    simp only [textL] at h
    split at h
    · rename_i hc
      injection h with h; injection h with h1 h2; subst h1 h2 hc
      refine ⟨rfl, [39], rfl, fun y hy => ?_⟩
      cases y with
      | nil => rfl
      | cons d y => have : ¬ d = 39 := by simpa using hy
                    simp [textL, this]
    · cases h
  | c :: d :: r, t, rest, h => by
    simp only [textL] at h
    split at h
    · rename_i hc
      subst hc
      split at h
      · rename_i hd
        subst hd
        cases hr : textL r with
        | none => rw [hr] at h; cases h
        | some x =>
          obtain ⟨t', rest'⟩ := x
          rw [hr] at h
          simp only [Option.map_some, Option.some.injEq, Prod.mk.injEq] at h
          obtain ⟨rfl, rfl⟩ := h
          obtain ⟨h0, b, hb, hy⟩ := textL_fits r t' _ hr
          exact ⟨h0, 39 :: 39 :: b, by rw [hb]; rfl, fun y h => by simp [textL, hy y h]⟩
      · rename_i hd
        injection h with h; injection h with h1 h2; subst h1 h2
        refine ⟨by simpa using hd, [39], rfl, fun y hy => ?_⟩
        cases y with
        | nil => rfl
        | cons d y => have : ¬ d = 39 := by simpa using hy
                      simp [textL, this]
    · rename_i hc
      cases hr : textL (d :: r) with
      | none => rw [hr] at h; cases h
      | some x =>
        obtain ⟨t', rest'⟩ := x
        rw [hr] at h
        simp only [Option.map_some, Option.some.injEq, Prod.mk.injEq] at h
        obtain ⟨rfl, rfl⟩ := h
        obtain ⟨h0, b, hb, hy⟩ := textL_fits (d :: r) t' _ hr
        refine ⟨h0, c :: b, by rw [hb]; rfl, fun y h => ?_⟩
        cases hby : b ++ y with
        | nil =>
          have h2 := hy y h
          rw [hby] at h2
          simp [textL] at h2
        | cons e z =>
          have h2 := hy y h
          rw [hby] at h2
          rw [List.cons_append, hby]
          simp [textL, hc, h2]
theorem sign_two (c d : UInt8) (r r' : List UInt8) : signIn signs (c :: d :: r) = signIn signs (c :: d :: r') := by
  simp [signIn, signs, List.isPrefixOf]
theorem sign_sep {s : List UInt8} (hs : s ∈ signs) {x : List UInt8} (hx : Sep x) : signIn signs (s ++ x) = some s := by
  simp only [signs, List.mem_cons, List.not_mem_nil, or_false] at hs
  rcases hx with rfl | ⟨c, r, rfl, hc⟩
  · rcases hs with rfl | rfl | rfl | rfl | rfl | rfl | rfl | rfl | rfl | rfl | rfl | rfl | rfl | rfl | rfl <;> rfl
  · rcases hs with rfl | rfl | rfl | rfl | rfl | rfl | rfl | rfl | rfl | rfl | rfl | rfl | rfl | rfl | rfl <;> rcases blank_cases hc with rfl | rfl | rfl | rfl <;> rfl
theorem sign_len {s : List UInt8} (hs : s ∈ signs) : (∃ c, s = [c]) ∨ ∃ c d, s = [c, d] := by
  simp only [signs, List.mem_cons, List.not_mem_nil, or_false] at hs
  rcases hs with rfl | rfl | rfl | rfl | rfl | rfl | rfl | rfl | rfl | rfl | rfl | rfl | rfl | rfl | rfl <;> first | exact .inl ⟨_, rfl⟩ | exact .inr ⟨_, _, rfl⟩
theorem sign_fits {s rest y : List UInt8} (h : signIn signs (s ++ rest) = some s) (hf : Fits rest y) : signIn signs (s ++ y) = some s := by
  have hs := (signIn_spec h).1
  rcases hf with hf | hf
  · rcases sign_len hs with ⟨c, rfl⟩ | ⟨c, d, rfl⟩
    · cases rest with
      | nil =>
        cases y with
        | nil => exact h
        | cons d y => simp at hf
      | cons d rest =>
        cases y with
        | nil => simp at hf
        | cons e y =>
          have : e = d := by simpa using hf
          subst this
          exact (sign_two c e y rest).trans h
    · exact (sign_two c d y rest).trans h
  · exact sign_sep hs hf
theorem one_fits {r rest : List UInt8} {w : Wd} (h : oneL r = .ok (w, rest)) : ∃ b, r = b ++ rest ∧ b ≠ [] ∧ ∀ y, Fits rest y → oneL (b ++ y) = .ok (w, y) := by
  match r with
  | [] => simp [oneL] at h
  | c :: r =>
    simp only [oneL] at h
    split at h
    · rename_i hc
      have hw : wordB c = true := by simp [wordB, hc]
      split at h
      · rename_i hl
        injection h with h; injection h with h1 h2; subst h1 h2
        have e : (c :: r).takeWhile wordB = c :: r.takeWhile wordB := by simp [List.takeWhile_cons, hw]
        refine ⟨_, (List.takeWhile_append_dropWhile (p := wordB)).symm, by rw [e]; simp, fun y hy => ?_⟩
        obtain ⟨t1, t2⟩ := tw_append (tw_all wordB (c :: r)) (hy.not wordB (tw_head wordB _) (by decide) (by decide) (by decide) (by decide))
        rw [e] at t1 t2 hl ⊢
        rw [List.cons_append] at t1 t2 ⊢
        simp only [oneL, if_pos hc]
        rw [t1, t2, if_pos hl]
      · cases h
    · rename_i hc
      split at h
      · rename_i hd
        split at h
        · rename_i hl
          injection h with h; injection h with h1 h2; subst h1 h2
          have e : (c :: r).takeWhile digitB = c :: r.takeWhile digitB := by simp [List.takeWhile_cons, hd]
          refine ⟨_, (List.takeWhile_append_dropWhile (p := digitB)).symm, by rw [e]; simp, fun y hy => ?_⟩
          obtain ⟨t1, t2⟩ := tw_append (tw_all digitB (c :: r)) (hy.not digitB (tw_head digitB _) (by decide) (by decide) (by decide) (by decide))
          have hl2 := hl
          simp only [Bool.and_eq_true, Bool.not_eq_true'] at hl2
          have t3 := hy.not letterB hl2.2 (by decide) (by decide) (by decide) (by decide)
          have t4 := hl2.1
          rw [e] at t1 t2 t4 ⊢
          rw [List.cons_append] at t1 t2 ⊢
          simp only [oneL, if_neg hc, if_pos hd]
          rw [t1, t2, t3, t4]
          rfl
        · cases h
      · rename_i hd
        split at h
        · rename_i hq
          split at h
          · rename_i t rest' ht
            injection h with h; injection h with h1 h2; subst h1 h2
            obtain ⟨h0, b, hb, hy⟩ := textL_fits _ _ _ ht
            refine ⟨c :: b, by rw [hb]; rfl, by simp, fun y hf => ?_⟩
            have := hy y (hf.not _ h0 (by decide) (by decide) (by decide) (by decide))
            simp only [List.cons_append, oneL, if_neg hc, if_neg hd, if_pos hq, this]
          · cases h
        · rename_i hq
          split at h
          · rename_i s hs
            injection h with h; injection h with h1 h2; subst h1 h2
            obtain ⟨h1, t, h2⟩ := signIn_spec hs
            have hne : s ≠ [] := by intro e; subst e; revert h1; decide
            refine ⟨s, by rw [← h2]; simp, hne, fun y hf => ?_⟩
            have hst : (c :: r).drop s.length = t := by rw [← h2]; simp
            rw [hst] at hf
            rw [← h2] at hs
            have := sign_fits hs hf
            cases s with
            | nil => exact absurd rfl hne
            | cons d s =>
              have hdc : d = c := by simpa using congrArg List.head? h2
              subst hdc
              rw [List.cons_append] at this ⊢
              simp only [oneL, if_neg hc, if_neg hd, if_neg hq, this]
              simp
          · cases h
inductive Run : List UInt8 → List (Wd × Nat) → List UInt8 → Prop
  | stop (r : List UInt8) : Run r [] (skipL false r)
  | step {r r1 rest q : List UInt8} {c : UInt8} {w : Wd} {ws : List (Wd × Nat)} (hs : skipL false r = c :: r1) (ho : oneL (c :: r1) = .ok (w, rest)) (h : Run rest ws q) : Run r ((w, (c :: r1).length) :: ws) q
def tokAt (n : Nat) (x : Wd × Nat) : Tok := ⟨x.1, n - x.2⟩
def endTok (n : Nat) : Tok := ⟨⟨0, [], 0⟩, n⟩
theorem lexF_ok {n : Nat} : ∀ {f : Nat} {r : List UInt8} {l : List Tok}, lexF n f r = .ok l → ∃ ws, Run r ws [] ∧ l = ws.map (tokAt n) ++ [endTok n]
  | 0, r, l, h => by simp [lexF] at h
  | f + 1, r, l, h => by
    simp only [lexF] at h
    split at h
    · rename_i hs
      injection h with h; subst h
      exact ⟨[], by rw [← hs]; exact .stop r, rfl⟩
    · rename_i c r1 hs
      split at h
      · cases h
      · rename_i w rest ho
        split at h
        · cases h
        · rename_i l' hl
          injection h with h; subst h
          obtain ⟨ws, hr, e⟩ := lexF_ok hl
          exact ⟨_, .step hs ho hr, by rw [e]; rfl⟩
theorem lexF_err {n : Nat} : ∀ {f : Nat} {r : List UInt8} {p e : Nat}, r.length < f → lexF n f r = .error (p, e) → ∃ ws c q, Run r ws (c :: q) ∧ oneL (c :: q) = .error e ∧ p = n - (c :: q).length
  | 0, r, p, e, hf, h => by omega
  | f + 1, r, p, e, hf, h => by
    simp only [lexF] at h
    split at h
    · cases h
    · rename_i c r1 hs
      have hle := skipL_le false r
      rw [hs] at hle
      split at h
      · rename_i e' ho
        injection h with h; injection h with h1 h2; subst h1 h2
        exact ⟨[], c, r1, by rw [← hs]; exact .stop r, ho, rfl⟩
      · rename_i w rest ho
        have := oneL_lt ho
        split at h
        · rename_i e' hl
          injection h with h; subst h
          obtain ⟨ws, c', q, hr, ho', e⟩ := lexF_err (by omega) hl
          exact ⟨_, c', q, .step hs ho hr, ho', e⟩
        · cases h
theorem lexF_run {n : Nat} {r q : List UInt8} {ws : List (Wd × Nat)} (h : Run r ws q) : ∀ {f : Nat}, r.length < f → q = [] → lexF n f r = .ok (ws.map (tokAt n) ++ [endTok n]) := by
  induction h with
  | stop r =>
    intro f hf hq
    cases f with
    | zero => omega
    | succ f => simp only [lexF, hq]; rfl
  | @step r r1 rest q c w ws hs ho h ih =>
    intro f hf hq
    cases f with
    | zero => omega
    | succ f =>
      have hle := skipL_le false r
      rw [hs] at hle
      have := oneL_lt ho
      simp only [lexF, hs, ho, ih (f := f) (by omega) hq]
      rfl
theorem lexF_run_err {n : Nat} {r q : List UInt8} {ws : List (Wd × Nat)} (h : Run r ws q) : ∀ {f c q' e}, r.length < f → q = c :: q' → oneL (c :: q') = .error e → lexF n f r = .error (n - (c :: q').length, e) := by
  induction h with
  | stop r =>
    intro f c q' e hf hq he
    cases f with
    | zero => omega
    | succ f => simp only [lexF, hq, he]
  | @step r r1 rest q c w ws hs ho h ih =>
    intro f c' q' e hf hq he
    cases f with
    | zero => omega
    | succ f =>
      have hle := skipL_le false r
      rw [hs] at hle
      have := oneL_lt ho
      simp only [lexF, hs, ho, ih (f := f) (by omega) hq he]
theorem Run.split {r q : List UInt8} {ws : List (Wd × Nat)} (h : Run r ws q) (hq : q ≠ []) : ∃ p, r = p ++ q ∧ ∀ y, Fits q y → Run (p ++ y) (ws.map fun x => (x.1, x.2 - q.length + y.length)) (skipL false y) := by
  induction h with
  | stop r =>
    match hs : skipL false r with
    | [] => exact absurd hs hq
    | c :: r1 =>
      obtain ⟨p, hp, hx⟩ := skip_split false r c r1 hs
      exact ⟨p, hp, fun y _ => by rw [← hx]; exact .stop _⟩
  | @step r r1 rest q c w ws hs ho h ih =>
    obtain ⟨p2, hp2, hy2⟩ := ih hq
    obtain ⟨p0, hp0, hx0⟩ := skip_split false r c r1 hs
    obtain ⟨b, hb, hbne, hfit⟩ := one_fits ho
    refine ⟨p0 ++ (b ++ p2), by rw [hp0, hb, hp2]; simp, fun y hy => ?_⟩
    have hf2 : Fits rest (p2 ++ y) := by
      rw [hp2]
      cases p2 with
      | nil => exact hy
      | cons d p2 => exact .inl rfl
    have ho2 := hfit _ hf2
    have hlen : (c :: r1).length - q.length + y.length = (b ++ (p2 ++ y)).length := by
      rw [hb, hp2]; simp; omega
    cases b with
    | nil => exact absurd rfl hbne
    | cons d b =>
      have hdc : d = c := by have := congrArg List.head? hb; simpa using this.symm
      subst hdc
      have hs2 : skipL false (p0 ++ ((d :: b) ++ p2) ++ y) = d :: (b ++ (p2 ++ y)) := by
        rw [show p0 ++ ((d :: b) ++ p2) ++ y = p0 ++ (d :: (b ++ (p2 ++ y))) by simp, hx0]
        have hst := skip_stop hs
        rw [hb] at hst
        -- the head decides, and the byte behind it
        have key : skipL false (d :: (b ++ rest)) = d :: (b ++ rest) := hst
        simp only [skipL] at key ⊢
        split at key
        · exfalso
          have := skipL_le false (b ++ rest)
          rw [key] at this
          simp at this
          omega
        · rename_i hbl
          rw [if_neg hbl]
          split at key
          · exfalso
            have := skipL_le true (b ++ rest)
            rw [key] at this
            simp at this
            omega
          · rename_i hm
            rw [if_neg]
            rintro ⟨rfl, hh⟩
            apply hm
            refine ⟨rfl, ?_⟩
            cases b with
            | cons e b => simpa using hh
            | nil =>
              rw [List.nil_append] at hh ⊢
              rcases hf2 with hf2 | hf2
              · rw [← hf2]; exact hh
              · rcases hf2 with h0 | ⟨e, x, h0, hbk⟩
                · rw [h0] at hh; simp at hh
                · rw [h0] at hh
                  simp at hh
                  subst hh
                  exact absurd hbk (by decide)
      have := Run.step (ws := ws.map fun x => (x.1, x.2 - q.length + y.length)) (q := skipL false y) hs2 ho2 (hy2 y hy)
      rw [List.map_cons, hlen]
      exact this
end Go.Proofs.YtcneefmaghoejaaGreatDoor
