/- Plain laws of a statement's words: statements one behind the other, cut statements, names. -/
import Derived.Test.YtcmkfjepikncnaaDoorLexLaw
import Derived.Test.YtcmkfjepikncnaaDoorLexB
set_option linter.unusedSimpArgs false
set_option linter.unusedVariables false
namespace Go.Proofs.YtcmkfjepikncnaaDoor

/-! ### runs, one behind the other -/
theorem Run.start {r t q : List UInt8} {ws : List (Wd × Nat)} (h : Run t ws q) (e : skipL false r = skipL false t) : Run r ws q := by
  cases h with
  | stop r' => rw [← e]; exact .stop r
  | step hs ho h => exact .step (e.trans hs) ho h
theorem Run.append {r q : List UInt8} {ws : List (Wd × Nat)} (h : Run r ws q) : ∀ {t q2 : List UInt8} {ws2 : List (Wd × Nat)}, q = skipL false t → Run t ws2 q2 → Run r (ws ++ ws2) q2 := by
  induction h with
  | stop r => intro t q2 ws2 e h2; exact h2.start e
  | step hs ho h ih => intro t q2 ws2 e h2; exact .step hs ho (ih e h2)
theorem Run.le {r q : List UInt8} {ws : List (Wd × Nat)} (h : Run r ws q) : ∀ x ∈ ws, x.2 ≤ r.length := by
  induction h with
  | stop r => intro x hx; cases hx
  | @step r r1 rest q c w ws hs ho h ih =>
    intro x hx
    have h1 := skipL_le false r
    rw [hs] at h1
    have h2 := oneL_lt ho
    rcases List.mem_cons.1 hx with rfl | hx
    · exact h1
    · have := ih x hx; omega
/-- a line's end, and whatever stands on the next line -/
theorem Run.line {r q : List UInt8} {ws : List (Wd × Nat)} (h : Run r ws q) : q = [] → ∀ t, Run (r ++ 10 :: t) (ws.map fun x => (x.1, x.2 + (t.length + 1))) (skipL false t) := by
  induction h with
  | stop r =>
    intro hq t
    have := skip_end false r hq t
    rw [← this]
    exact .stop _
  | @step r r1 rest q c w ws hs ho h ih =>
    intro hq t
    obtain ⟨p, hp, hx⟩ := skip_split false r c r1 hs
    obtain ⟨b, hb, hbne, hfit⟩ := one_fits ho
    have hf : Fits rest (rest ++ 10 :: t) := by
      cases rest with
      | nil => exact .inr (.inr ⟨10, t, rfl, by decide⟩)
      | cons d rest => exact .inl rfl
    have ho2 := hfit _ hf
    cases b with
    | nil => exact absurd rfl hbne
    | cons d b =>
      have hdc : d = c := by have := congrArg List.head? hb; simpa using this.symm
      subst hdc
      have hr1 : r1 = b ++ rest := by simpa using hb
      have hs2 : skipL false (r ++ 10 :: t) = d :: (b ++ (rest ++ 10 :: t)) := by
        rw [hp, List.append_assoc, hx]
        have hst := skip_stop hs
        rw [List.cons_append, hr1]
        rw [hr1] at hst
        simp only [skipL] at hst ⊢
        split at hst
        · exfalso
          have := skipL_le false (b ++ rest)
          rw [hst] at this
          simp at this
          omega
        · rename_i hbl
          rw [if_neg hbl]
          split at hst
          · exfalso
            have := skipL_le true (b ++ rest)
            rw [hst] at this
            simp at this
            omega
          · rename_i hm
            rw [if_neg]
            · simp
            · rintro ⟨rfl, hh⟩
              apply hm
              refine ⟨rfl, ?_⟩
              cases hbr : b ++ rest with
              | nil => rw [hbr] at hh; simp at hh
              | cons e z => rw [hbr] at hh; simpa using hh
      have := Run.step hs2 (by rw [List.cons_append] at ho2; exact ho2) (ih hq t)
      have e : (d :: (b ++ (rest ++ 10 :: t))).length = (d :: r1).length + (t.length + 1) := by rw [hr1]; simp; omega
      rw [e] at this
      exact this

theorem lexL_small {s : List UInt8} (h : s.length ≤ 4096) : lexL s = lexF s.length (s.length + 1) s := by
  unfold lexL
  rw [if_neg (by omega)]
theorem lex_run {s q : List UInt8} {ws : List (Wd × Nat)} (hl : s.length ≤ 4096) (h : Run s ws q) (hq : q = []) : lexL s = .ok (ws.map (tokAt s.length) ++ [endTok s.length]) := by
  rw [lexL_small hl]
  exact lexF_run h (by omega) hq
theorem lex_run_err {s q' : List UInt8} {c : UInt8} {e : Nat} {ws : List (Wd × Nat)} (hl : s.length ≤ 4096) (h : Run s ws (c :: q')) (he : oneL (c :: q') = .error e) : lexL s = .error (s.length - (c :: q').length, e) := by
  rw [lexL_small hl]
  exact lexF_run_err h (by omega) rfl he
theorem run_of_ok {s : List UInt8} {l : List Tok} (h : lexL s = .ok l) : s.length ≤ 4096 ∧ ∃ ws, Run s ws [] ∧ l = ws.map (tokAt s.length) ++ [endTok s.length] := by
  have hl : s.length ≤ 4096 := by
    unfold lexL at h
    split at h
    · cases h
    · omega
  rw [lexL_small hl] at h
  exact ⟨hl, lexF_ok h⟩
theorem run_of_err {s : List UInt8} {p e : Nat} (hl : s.length ≤ 4096) (h : lexL s = .error (p, e)) : ∃ ws c q, Run s ws (c :: q) ∧ oneL (c :: q) = .error e ∧ p = s.length - (c :: q).length := by
  rw [lexL_small hl] at h
  exact lexF_err (by omega) h

/-! ### two statements on lines of their own -/
def shiftT (n : Nat) (t : Tok) : Tok := ⟨t.w, t.p + n⟩
theorem join_ok {s t : List UInt8} {a b : List Tok} (hs : lexL s = .ok a) (ht : lexL t = .ok b) (hl : s.length + t.length + 1 ≤ 4096) : lexL (s ++ 10 :: t) = .ok (a.dropLast ++ b.map (shiftT (s.length + 1))) := by
  obtain ⟨_, ws, hr, rfl⟩ := run_of_ok hs
  obtain ⟨_, ws2, hr2, rfl⟩ := run_of_ok ht
  have h := (hr.line rfl t).append rfl hr2
  have hlen : (s ++ 10 :: t).length = s.length + t.length + 1 := by simp; omega
  have := lex_run (by rw [hlen]; exact hl) h rfl
  rw [this, hlen]
  congr 1
  rw [List.dropLast_concat, List.map_append, List.map_append, List.map_map, List.map_map, List.append_assoc]
  congr 1
  · apply List.map_congr_left
    intro x _
    simp only [Function.comp_apply, tokAt]
    congr 1
    omega
  · congr 1
    · apply List.map_congr_left
      intro x hx
      have := hr2.le x hx
      simp only [Function.comp_apply, tokAt, shiftT]
      congr 1
      omega
    · simp [endTok, shiftT]
      omega
theorem join_err {s t : List UInt8} {a : List Tok} {p e : Nat} (hs : lexL s = .ok a) (ht : lexL t = .error (p, e)) (hl : s.length + t.length + 1 ≤ 4096) : lexL (s ++ 10 :: t) = .error (s.length + 1 + p, e) := by
  obtain ⟨_, ws, hr, rfl⟩ := run_of_ok hs
  obtain ⟨ws2, c, q, hr2, ho, rfl⟩ := run_of_err (by omega) ht
  have h := (hr.line rfl t).append rfl hr2
  have hlen : (s ++ 10 :: t).length = s.length + t.length + 1 := by simp; omega
  have hq : (c :: q).length ≤ t.length := by
    have key : ∀ {r q : List UInt8} {ws : List (Wd × Nat)}, Run r ws q → q.length ≤ r.length := by
      intro r q ws h
      induction h with
      | stop r => exact skipL_le false r
      | @step r r1 rest q c w ws hs ho h ih =>
        have h1 := skipL_le false r
        rw [hs] at h1
        have := oneL_lt ho
        omega
    exact key hr2
  have := lex_run_err (by rw [hlen]; exact hl) h ho
  rw [this, hlen]
  congr 2
  omega

/-! ### where an error stands -/
theorem cut_ok {s : List UInt8} {p e : Nat} (hl : s.length ≤ 4000) (h : lexL s = .error (p, e)) : p < s.length ∧ (e = 2 ∨ e = 30) ∧ (∃ l, lexL (s.take p) = .ok (l ++ [endTok p])) ∧ lexL (s.take p ++ (32 :: 59 :: 32 :: s.drop p)) = .error (p + 3, e) := by
  obtain ⟨ws, c, q, hr, ho, hp⟩ := run_of_err (by omega) h
  obtain ⟨pf, hs, hy⟩ := hr.split (by simp)
  have hlen : s.length = pf.length + (c :: q).length := by rw [hs]; simp
  have hpp : p = pf.length := by omega
  have ht : s.take p = pf := by rw [hs, hpp]; simp
  have hdr : s.drop p = c :: q := by rw [hs, hpp]; simp
  rw [ht, hdr]
  have he : e = 2 ∨ e = 30 := by
    simp only [oneL] at ho
    split at ho
    · split at ho
      · cases ho
      · injection ho with ho; exact .inl ho.symm
    · split at ho
      · split at ho
        · cases ho
        · injection ho with ho; exact .inr ho.symm
      · split at ho
        · split at ho
          · cases ho
          · injection ho with ho; exact .inr ho.symm
        · split at ho
          · cases ho
          · injection ho with ho; exact .inr ho.symm
  refine ⟨by rw [hlen, hpp]; simp, he, ?_, ?_⟩
  · have h1 := hy [] (.inr (.inl rfl))
    rw [List.append_nil] at h1
    have := lex_run (by omega) h1 (by rfl)
    exact ⟨_, by rw [this, hpp]⟩
  · have h1 := hy (32 :: 59 :: 32 :: c :: q) (.inr (.inr ⟨32, _, rfl, by decide⟩))
    have hst : skipL false (c :: q) = c :: q := by
      have key : ∀ {r q : List UInt8} {ws : List (Wd × Nat)}, Run r ws q → skipL false q = q := by
        intro r q ws h
        induction h with
        | stop r =>
          cases hk : skipL false r with
          | nil => rfl
          | cons c q => exact skip_stop hk
        | step hs ho h ih => exact ih
      exact key hr
    have hone : oneL (59 :: 32 :: c :: q) = .ok (⟨4, [59], 0⟩, 32 :: c :: q) := by
      have a1 : letterB 59 = false := by decide
      have a2 : digitB 59 = false := by decide
      have a3 : signIn signs (59 :: 32 :: c :: q) = some [59] := by simp [signIn, signs, List.isPrefixOf]
      simp only [oneL, a1, a2, a3]
      rfl
    have h3 : Run (32 :: c :: q) [] (skipL false (32 :: c :: q)) := .stop _
    have e3 : skipL false (32 :: c :: q) = c :: q := by
      rw [skipL, if_pos (by decide)]; exact hst
    rw [e3] at h3
    have e4 : skipL false (32 :: 59 :: 32 :: c :: q) = 59 :: 32 :: c :: q := by
      rw [skipL, if_pos (by decide), skipL, if_neg (by decide), if_neg (by simp)]
    have h4 := h1.append rfl (Run.step e4 hone h3)
    have hlen2 : (pf ++ (32 :: 59 :: 32 :: c :: q)).length = pf.length + 3 + (c :: q).length := by simp; omega
    have := lex_run_err (by rw [hlen2]; omega) h4 ho
    rw [this, hlen2, hpp]
    congr 2
    omega
theorem semi_ok {s : List UInt8} {a : List Tok} (hs : lexL s = .ok a) (hl : s.length ≤ 4000) : lexL (s ++ [10, 59]) = .ok (a.dropLast ++ [⟨⟨4, [59], 0⟩, s.length + 1⟩, endTok (s.length + 2)]) := by
  have h : lexL [59] = .ok [⟨⟨4, [59], 0⟩, 0⟩, endTok 1] := rfl
  have := join_ok hs h (by simp; omega)
  rw [this]
  simp [shiftT, endTok]
  omega

/-! ### names -/
/-- the statement is the one word s -/
def wordOf (s : List UInt8) : Bool := match lexL s with
  | .ok [t, _] => t == ⟨⟨1, s, 0⟩, 0⟩
  | _ => false
theorem res_words : resL.all wordOf = true := by decide +kernel
theorem low_self {c : UInt8} (h : lowB c = c) : capB c = false := by
  cases hc : capB c
  · rfl
  · unfold lowB at h
    rw [if_pos hc] at h
    simp [capB, UInt8.le_iff_toNat_le] at hc
    have := congrArg UInt8.toNat h
    rw [UInt8.toNat_add] at this
    simp at this
    omega
theorem letter_digit {c : UInt8} (h : letterB c = true) : digitB c = false := by
  cases hd : digitB c
  · rfl
  · simp [letterB, digitB, UInt8.le_iff_toNat_le, ← UInt8.toNat_inj] at h hd
    omega
theorem letter_start {c : UInt8} {r : List UInt8} (h : letterB c = true) : skipL false (c :: r) = c :: r := by
  have h1 : ¬ blankB c = true := by
    intro hb
    rcases blank_cases hb with rfl | rfl | rfl | rfl <;> revert h <;> decide
  have h2 : ¬ (c = 45 ∧ r.head? = some 45) := by rintro ⟨rfl, _⟩; revert h; decide
  rw [skipL, if_neg h1, if_neg h2]
theorem name_word {s : List UInt8} (h : nameB s = true) : wordOf s = true ∧ 0 < s.length ∧ resB s = false := by
  cases s with
  | nil => simp [nameB] at h
  | cons c r =>
    simp only [nameB, Bool.and_eq_true, decide_eq_true_eq, Bool.not_eq_true'] at h
    obtain ⟨⟨⟨h1, h2⟩, h3⟩, h4⟩ := h
    refine ⟨?_, by simp, h2⟩
    have hall : ∀ x ∈ c :: r, capB x = false ∧ wordB x = true := fun x hx => by
      have := List.all_eq_true.1 h4 x hx
      simpa using this
    have hc : letterB c = true := by
      have := (hall c List.mem_cons_self).2
      simpa [wordB, h3] using this
    have htw : (c :: r).takeWhile wordB = c :: r := by
      have := (tw_append (p := wordB) (b := c :: r) (x := []) (fun x hx => (hall x hx).2) rfl).1
      simpa using this
    have hdw : (c :: r).dropWhile wordB = [] := by
      have := (tw_append (p := wordB) (b := c :: r) (x := []) (fun x hx => (hall x hx).2) rfl).2
      simpa using this
    have hlow : (c :: r).map lowB = c :: r := by
      have : (c :: r).map lowB = (c :: r).map id := List.map_congr_left fun x hx => by unfold lowB; rw [(hall x hx).1]; rfl
      rw [this, List.map_id]
    have hone : oneL (c :: r) = .ok (⟨1, c :: r, 0⟩, []) := by
      rw [oneL, if_pos hc, htw, hdw, hlow, if_pos h1]
    have hrun : Run (c :: r) [(⟨1, c :: r, 0⟩, (c :: r).length)] (skipL false []) := .step (letter_start hc) hone (.stop [])
    have := lex_run (by omega) hrun rfl
    unfold wordOf
    rw [this]
    simp [tokAt]
theorem word_name {s : List UInt8} (h : wordOf s = true) (h0 : 0 < s.length) (hr : resB s = false) : nameB s = true := by
  unfold wordOf at h
  split at h
  · rename_i t u hl
    have ht : t = ⟨⟨1, s, 0⟩, 0⟩ := by simpa using h
    subst ht
    obtain ⟨hle, ws, hrun, he⟩ := run_of_ok hl
    generalize hq0 : ([] : List UInt8) = q0 at hrun
    cases hrun with
    | stop => simp at he
    | @step _ r1 rest q c w ws hs ho hrun =>
      have hw : (tokAt s.length (w, (c :: r1).length)) = ⟨⟨1, s, 0⟩, 0⟩ := by
        simp only [List.map_cons, List.cons_append, List.cons.injEq] at he
        exact he.1.symm
      unfold tokAt at hw
      injection hw with hw hp
      simp only at hw hp
      have hsuf := skip_suffix false s
      rw [hs] at hsuf
      have hlen := hsuf.length_le
      have hall : c :: r1 = s := hsuf.eq_of_length (by omega)
      rw [hall] at ho
      cases s with
      | nil => simp at h0
      | cons c0 r0 =>
        have hk : w.k = 1 := by rw [hw]
        have hss : w.s = c0 :: r0 := by rw [hw]
        simp only [oneL] at ho
        split at ho
        · rename_i hc
          split at ho
          · rename_i hl32
            injection ho with ho
            injection ho with ho1 ho2
            have e1 : ((c0 :: r0).takeWhile wordB).map lowB = c0 :: r0 := by rw [← ho1] at hss; exact hss
            have e2 : (c0 :: r0).takeWhile wordB = c0 :: r0 := by
              have hpre : (c0 :: r0).takeWhile wordB <+: c0 :: r0 := List.takeWhile_prefix _
              exact hpre.eq_of_length (by have := congrArg List.length e1; simpa using this)
            rw [e2] at e1 hl32
            have hw2 : ∀ x ∈ c0 :: r0, wordB x = true := by rw [← e2]; exact tw_all wordB _
            have hlow : ∀ x ∈ c0 :: r0, lowB x = x := by
              have : (c0 :: r0).map lowB = (c0 :: r0).map id := by rw [e1, List.map_id]
              exact List.map_inj_left.1 this
            simp only [nameB, Bool.and_eq_true, decide_eq_true_eq, Bool.not_eq_true']
            refine ⟨⟨⟨hl32, hr⟩, letter_digit hc⟩, ?_⟩
            rw [List.all_eq_true]
            intro x hx
            rw [low_self (hlow x hx), hw2 x hx]
            rfl
          · cases ho
        · exfalso
          split at ho
          · split at ho
            · injection ho with ho; injection ho with ho1 ho2
              rw [← ho1] at hk; simp at hk
            · cases ho
          · split at ho
            · split at ho
              · injection ho with ho; injection ho with ho1 ho2
                rw [← ho1] at hk; simp at hk
              · cases ho
            · split at ho
              · injection ho with ho; injection ho with ho1 ho2
                rw [← ho1] at hk; simp at hk
              · cases ho
  · cases h
theorem names_law (s : List UInt8) : nameB s = (wordOf s && decide (0 < s.length) && !resB s) ∧ (resB s = true → wordOf s = true) := by
  refine ⟨?_, fun h => ?_⟩
  · cases hn : nameB s
    · cases hw : wordOf s
      · rfl
      · cases hr : resB s
        · by_cases h0 : 0 < s.length
          · rw [word_name hw h0 hr] at hn; cases hn
          · simp [h0]
        · simp
    · obtain ⟨h1, h2, h3⟩ := name_word hn
      rw [h1, h3, decide_eq_true h2]; rfl
  · have : s ∈ resL := by simpa [resB] using h
    exact List.all_eq_true.1 res_words s this
end Go.Proofs.YtcmkfjepikncnaaDoor
