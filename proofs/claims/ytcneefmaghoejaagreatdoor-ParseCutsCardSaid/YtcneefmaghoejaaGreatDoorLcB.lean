/- A wrong word: what stands behind it plays no part; what stands ahead is the beginning of a statement. The law on texts. -/
import Derived.Test.YtcneefmaghoejaaGreatDoorB48
import Derived.Test.YtcneefmaghoejaaGreatDoorB49
namespace Go.Proofs.YtcneefmaghoejaaGreatDoor
open Go.ChangeShapes Go.WideShapes Go.ChangeAt Go.RowKit Go.Shelf
set_option linter.unusedVariables false
set_option linter.unusedSimpArgs false
/-- the first k words, up to the next one -/
theorem run_prefix {r q : List UInt8} {ws : List (Wd × Nat)} (h : Run r ws q) : ∀ {k : Nat} {x : Wd × Nat}, ws[k]? = some x → ∃ c q', (c :: q').length = x.2 ∧ Run r (ws.take k) (c :: q') := by
  induction h with
  | stop r => intro k x h; simp at h
  | @step r r1 rest q c w ws hs ho h ih =>
    intro k x hx
    cases k with
    | zero =>
      simp at hx
      subst hx
      refine ⟨c, r1, rfl, ?_⟩
      have := Run.stop r
      rw [hs] at this
      exact this
    | succ k =>
      obtain ⟨c2, q2, h1, h2⟩ := ih (by simpa using hx)
      exact ⟨c2, q2, h1, .step hs ho h2⟩
theorem run_ge {r q : List UInt8} {ws : List (Wd × Nat)} (h : Run r ws q) : ∀ x ∈ ws, q.length ≤ x.2 := by
  induction h with
  | stop r => intro x hx; simp at hx
  | @step r r1 rest q c w ws hs ho h ih =>
    intro x hx
    have h1 : q.length ≤ rest.length := by
      clear ih hs ho hx
      induction h with
      | stop r => exact skipL_le false r
      | @step r r1 rest q c w ws hs ho h ih =>
        have h1 := skipL_le false r
        have h2 := oneL_lt ho
        rw [hs] at h1
        omega
    have h2 := oneL_lt ho
    rcases List.mem_cons.1 hx with rfl | hx
    · show q.length ≤ (c :: r1).length
      omega
    · exact ih x hx
/-- cut ahead of the word k, a line's end, and more -/
theorem cut_at {s : List UInt8} {ws : List (Wd × Nat)} (h : Run s ws []) {k P : Nat} (hk : k ≤ ws.length) (hP : P = match ws[k]? with | some x => s.length - x.2 | none => s.length) (more : List UInt8) :
    ∃ a b : Nat, Run (s.take P ++ 10 :: more) ((ws.take k).map fun x => (x.1, x.2 - a + b)) (skipL false more) ∧ (∀ x ∈ ws.take k, a ≤ x.2) ∧ a ≤ s.length ∧ (s.take P ++ 10 :: more).length = s.length - a + b := by
  by_cases hlt : k < ws.length
  · obtain ⟨x, hx⟩ : ∃ x, ws[k]? = some x := ⟨_, List.getElem?_eq_getElem hlt⟩
    rw [hx] at hP
    simp only at hP
    obtain ⟨c, q, h1, h2⟩ := run_prefix h hx
    obtain ⟨p, hp, hy⟩ := h2.split (by simp)
    have hl := congrArg List.length hp
    rw [List.length_append, h1] at hl
    have hpt : s.take P = p := by
      rw [hP, hp]
      have : (p ++ c :: q).length - x.2 = p.length := by rw [List.length_append, h1]; omega
      rw [this, List.take_left]
    refine ⟨(c :: q).length, (10 :: more).length, ?_, run_ge h2, by omega, ?_⟩
    · rw [hpt]
      have := hy (10 :: more) (.inr (.inr ⟨10, more, rfl, by decide⟩))
      exact this
    · rw [hpt, List.length_append, h1]; omega
  · have hke : k = ws.length := by omega
    subst hke
    rw [List.getElem?_eq_none (Nat.le_refl _)] at hP
    simp only at hP
    refine ⟨0, more.length + 1, ?_, fun x _ => Nat.zero_le _, Nat.zero_le _, ?_⟩
    · rw [hP, List.take_length, List.take_length]
      exact h.line rfl more
    · rw [hP, List.take_length, List.length_append]; simp
/-- the same, as words with their places -/
structure Ahead (s t : List UInt8) (l : List Tok) (k : Nat) (more : List UInt8) (ws2 : List (Wd × Nat)) : Prop where
  run : Run t ws2 (skipL false more)
  len : ws2.length = k
  at_ : ∀ (i : Nat) (x : Wd × Nat), ws2[i]? = some x → ∃ a : Tok, l[i]? = some a ∧ x.1 = a.w ∧ t.length - x.2 = a.p
  words : ws2.map (·.1) = (l.map (·.w)).take k
theorem ahead_of {s : List UInt8} {l : List Tok} (h : lexL s = .ok l) {k : Nat} {a : Tok} (ha : l[k]? = some a) (more : List UInt8) : ∃ ws2, Ahead s (s.take a.p ++ 10 :: more) l k more ws2 := by
  obtain ⟨_, ws, hr, hl⟩ := run_of_ok h
  have hlen : l.length = ws.length + 1 := by rw [hl]; simp
  have hk : k ≤ ws.length := by have := (List.getElem?_eq_some_iff.1 ha).1; omega
  have hP : a.p = match ws[k]? with | some x => s.length - x.2 | none => s.length := by
    by_cases hlt : k < ws.length
    · obtain ⟨x, hx⟩ : ∃ x, ws[k]? = some x := ⟨_, List.getElem?_eq_getElem hlt⟩
      rw [hl, List.getElem?_append_left (by simpa using hlt), List.getElem?_map, hx] at ha
      injection ha with ha
      rw [hx, ← ha]
      rfl
    · rw [List.getElem?_eq_none (by omega)]
      rw [hl, List.getElem?_append_right (by simp; omega)] at ha
      have : k - (ws.map (tokAt s.length)).length = 0 := by simp; omega
      rw [this] at ha
      injection ha with ha
      rw [← ha]
      rfl
  obtain ⟨x, b, h1, h2, h3, h4⟩ := cut_at hr hk hP more
  refine ⟨_, h1, by simp; omega, ?_, ?_⟩
  · intro i y hy
    rw [List.getElem?_map] at hy
    cases hz : (ws.take k)[i]? with
    | none => rw [hz] at hy; cases hy
    | some z =>
      rw [hz] at hy
      injection hy with hy
      have hzx := h2 z (List.mem_of_getElem? hz)
      have hi : i < k := by
        have := (List.getElem?_eq_some_iff.1 hz).1
        simp at this
        omega
      have hw : ws[i]? = some z := by rw [List.getElem?_take_of_lt hi] at hz; exact hz
      have hle := hr.le z (List.mem_of_getElem? hw)
      refine ⟨tokAt s.length z, ?_, by rw [← hy]; rfl, ?_⟩
      · rw [hl, List.getElem?_append_left (by have := (List.getElem?_eq_some_iff.1 hw).1; simpa using this), List.getElem?_map, hw]
        rfl
      · rw [h4, ← hy]
        show s.length - x + b - (z.2 - x + b) = s.length - z.2
        omega
  · rw [List.map_map, hl, List.map_append, List.map_map, List.take_append_of_le_length (by simp; omega), ← List.map_take]
    rfl
theorem wrong_at {s : List UInt8} {l : List Tok} (h : lexL s = .ok l) (hx : parX s = 31) : ∃ (k : Nat) (a : Tok), l[k]? = some a ∧ parP s = a.p ∧ wholeP (l.map (·.w)) = .error (l.length - k) := by
  unfold parX at hx
  unfold parP
  cases hp : wholeP (l.map (·.w)) with
  | error n =>
    rw [parse_bad h hp] at hx ⊢
    have hsane : Sane wholeP := by rw [whole_K]; exact sane_bind sane_statement sane_wK
    obtain ⟨h1, h2⟩ := hsane.err hp
    have h3 := h2 (lexL_ends h)
    simp only [List.length_map] at h1
    obtain ⟨a, ha⟩ : ∃ a, l[l.length - n]? = some a := ⟨_, List.getElem?_eq_getElem (by omega)⟩
    rw [ha]
    exact ⟨l.length - n, a, ha, rfl, by congr 1; omega⟩
  | ok y =>
    obtain ⟨d, r⟩ := y
    exfalso
    rw [parse_good h hp] at hx
    cases h1 : d.long with
    | true => rw [h1, if_pos rfl] at hx; exact absurd (show (2 : Nat) = 31 from hx) (by decide)
    | false =>
      rw [h1, if_neg (by simp)] at hx
      cases h2 : deepB d.exprs with
      | true => rw [h2, if_pos rfl] at hx; exact absurd (show (32 : Nat) = 31 from hx) (by decide)
      | false => rw [h2, if_neg (by simp)] at hx; exact absurd (show (0 : Nat) = 31 from hx) (by decide)
theorem words_at {l : List Tok} {k : Nat} {a : Tok} (ha : l[k]? = some a) : l.map (·.w) = (l.map (·.w)).take k ++ a.w :: (l.map (·.w)).drop (k + 1) ∧ ((l.map (·.w)).drop (k + 1)).length + 1 = l.length - k := by
  have hm : (l.map (·.w))[k]? = some a.w := by simp [ha]
  obtain ⟨hlt, he⟩ := List.getElem?_eq_some_iff.1 hm
  refine ⟨?_, by simp at hlt ⊢; omega⟩
  conv => lhs; rw [← List.take_append_drop k (l.map (·.w)), List.drop_eq_getElem_cons hlt, he]
/-- what stands ahead of a wrong word -/
theorem ahead_law {s : List UInt8} {l : List Tok} (h : lexL s = .ok l) (hs : s.length ≤ 2000) {k : Nat} {a : Tok} (ha : l[k]? = some a) (hw : wholeP (l.map (·.w)) = .error (l.length - k)) :
    parX (s.take a.p ++ [10]) ≠ 30 ∧ (parX (s.take a.p ++ [10]) = 31 → parP (s.take a.p ++ [10]) = (s.take a.p ++ [10]).length) := by
  obtain ⟨ws2, h1, h2, h3, h4⟩ := ahead_of h ha []
  generalize ht : s.take a.p ++ [10] = t at *
  have htl : t.length ≤ 4096 := by rw [← ht, List.length_append, List.length_take]; simp; omega
  have hm := lex_run htl h1 rfl
  have hmw : (ws2.map (tokAt t.length) ++ [endTok t.length]).map (·.w) = (l.map (·.w)).take k ++ [⟨0, [], 0⟩] := by
    rw [List.map_append, List.map_map, ← h4]; rfl
  obtain ⟨e1, e2⟩ := words_at ha
  rw [e1, ← e2] at hw
  cases hp : wholeP ((ws2.map (tokAt t.length) ++ [endTok t.length]).map (·.w)) with
  | error n =>
    have hle : n ≤ 1 := by
      rw [hmw] at hp
      exact whole_ahead hw hp
    have hsane : Sane wholeP := by rw [whole_K]; exact sane_bind sane_statement sane_wK
    have hpos := (hsane.err hp).2 (lexL_ends hm)
    have hn : n = 1 := by omega
    subst hn
    have hbad := parse_bad hm hp
    have hi : (ws2.map (tokAt t.length) ++ [endTok t.length])[(ws2.map (tokAt t.length) ++ [endTok t.length]).length - 1]? = some (endTok t.length) := by simp
    rw [hi] at hbad
    unfold parX parP
    rw [hbad]
    exact ⟨fun hx => absurd (show (31 : Nat) = 30 from hx) (by decide), fun _ => rfl⟩
  | ok y =>
    obtain ⟨d, r⟩ := y
    have hg := parse_good hm hp
    unfold parX
    rw [hg]
    cases h1 : d.long with
    | true => rw [if_pos rfl]; exact ⟨fun hx => absurd (show (2 : Nat) = 30 from hx) (by decide), fun hx => absurd (show (2 : Nat) = 31 from hx) (by decide)⟩
    | false =>
      rw [if_neg (by simp)]
      cases h2 : deepB d.exprs with
      | true => rw [if_pos rfl]; exact ⟨fun hx => absurd (show (32 : Nat) = 30 from hx) (by decide), fun hx => absurd (show (32 : Nat) = 31 from hx) (by decide)⟩
      | false => rw [if_neg (by simp)]; exact ⟨fun hx => absurd (show (0 : Nat) = 30 from hx) (by decide), fun hx => absurd (show (0 : Nat) = 31 from hx) (by decide)⟩
/-- what stands behind a wrong word -/
theorem behind_law {s more : List UInt8} {l : List Tok} (h : lexL s = .ok l) (hs : s.length ≤ 2000) (hmo : more.length ≤ 1000) {k : Nat} {a b : Tok} (ha : l[k]? = some a) (hb : l[k + 1]? = some b) (hw : wholeP (l.map (·.w)) = .error (l.length - k)) :
    (∃ x, lexL (s.take b.p ++ 10 :: more) = .error x) ∨ ∃ m, lexL (s.take b.p ++ 10 :: more) = .ok m ∧ parX (s.take b.p ++ 10 :: more) = 31 ∧ parP (s.take b.p ++ 10 :: more) = a.p := by
  obtain ⟨ws2, h1, h2, h3, h4⟩ := ahead_of h hb more
  have htl : (s.take b.p ++ 10 :: more).length ≤ 4096 := by rw [List.length_append, List.length_take]; simp; omega
  generalize s.take b.p ++ 10 :: more = t at *
  cases hm0 : lexL more with
  | error px =>
    obtain ⟨p, e⟩ := px
    obtain ⟨wsb, c, q, r1, r2, _⟩ := run_of_err (by omega) hm0
    exact .inl ⟨_, lex_run_err htl (h1.append rfl r1) r2⟩
  | ok mb =>
    obtain ⟨_, wsb, r1, _⟩ := run_of_ok hm0
    have hm := lex_run htl (h1.append rfl r1) rfl
    refine .inr ⟨_, hm, ?_⟩
    obtain ⟨e1, e2⟩ := words_at ha
    have htk : (l.map (·.w)).take (k + 1) = (l.map (·.w)).take k ++ [a.w] := by
      rw [List.take_add_one]
      simp [ha]
    have hmw : ((ws2 ++ wsb).map (tokAt t.length) ++ [endTok t.length]).map (·.w) = (l.map (·.w)).take k ++ a.w :: (wsb.map (·.1) ++ [⟨0, [], 0⟩]) := by
      have e : ((ws2 ++ wsb).map (tokAt t.length) ++ [endTok t.length]).map (·.w) = ws2.map (·.1) ++ (wsb.map (·.1) ++ [⟨0, [], 0⟩]) := by
        rw [List.map_append, List.map_map, List.map_append, List.append_assoc]; rfl
      rw [e, h4, htk]
      simp
    rw [e1, ← e2] at hw
    have hcut := whole_cut hw (wsb.map (·.1) ++ [⟨0, [], 0⟩])
    rw [← hmw] at hcut
    have hbad := parse_bad hm hcut
    have hk2 : k < ws2.length := by omega
    obtain ⟨x, hx⟩ : ∃ x, ws2[k]? = some x := ⟨_, List.getElem?_eq_getElem hk2⟩
    obtain ⟨a', ha', _, hpl⟩ := h3 k x hx
    rw [ha] at ha'
    injection ha' with ha'
    have hi : ((ws2 ++ wsb).map (tokAt t.length) ++ [endTok t.length]).length - ((wsb.map (·.1) ++ [(⟨0, [], 0⟩ : Wd)]).length + 1) = k := by simp; omega
    have hg : ((ws2 ++ wsb).map (tokAt t.length) ++ [endTok t.length])[k]? = some (tokAt t.length x) := by
      rw [List.getElem?_append_left (by simp; omega), List.getElem?_map, List.getElem?_append_left hk2, hx]
      rfl
    rw [hi, hg] at hbad
    unfold parX parP
    rw [hbad]
    refine ⟨rfl, ?_⟩
    show t.length - x.2 = a.p
    rw [hpl, ha']
/-- places go up -/
theorem place_up {s : List UInt8} {l : List Tok} (h : lexL s = .ok l) {i j : Nat} {a b : Tok} (hi : l[i]? = some a) (hj : l[j]? = some b) (he : a.p = b.p) : i = j := by
  obtain ⟨pre, ws, ps, hc⟩ := cut_of h
  have key : ∀ {i j : Nat} {a b : Tok}, l[i]? = some a → l[j]? = some b → i < j → a.p < b.p := by
    intro i j a b hi hj hij
    have hl := hc.len
    have hjl := (List.getElem?_eq_some_iff.1 hj).1
    obtain ⟨t1, q1, q2, _⟩ := hc.place (i := i) (by omega)
    obtain ⟨t2, q3, q4, _⟩ := hc.place (i := j) (by omega)
    rw [hi] at q1
    rw [hj] at q3
    injection q1 with q1
    injection q3 with q3
    subst q1 q3
    rw [q2, q4]
    obtain ⟨p, hp⟩ : ∃ p, ps[i]? = some p := ⟨_, List.getElem?_eq_getElem (by omega)⟩
    have hpn := hc.pcs.ne p (List.mem_of_getElem? hp)
    have e : ps.take j = ps.take (i + 1) ++ (ps.drop (i + 1)).take (j - (i + 1)) := by
      conv => lhs; rw [show j = i + 1 + (j - (i + 1)) by omega, List.take_add]
    rw [e, List.flatten_append, List.length_append, List.take_add_one, hp]
    have : 0 < p.length := List.length_pos_iff.2 hpn
    simp
    omega
  rcases Nat.lt_trichotomy i j with hlt | rfl | hlt
  · have := key hi hj hlt; omega
  · rfl
  · have := key hj hi hlt; omega
end Go.Proofs.YtcneefmaghoejaaGreatDoor
