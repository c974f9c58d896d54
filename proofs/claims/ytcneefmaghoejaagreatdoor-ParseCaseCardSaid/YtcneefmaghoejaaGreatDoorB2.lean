/- Parts of the proof: LexB, LexJ, Lay. Put together by slim.py. -/
import Derived.Lib.ParseIntB
import Derived.Lib.Case
import Derived.Test.YtcneefmaghoejaaGreatDoorB1
set_option linter.unusedSimpArgs false
set_option linter.unusedVariables false
namespace Go.Proofs.YtcneefmaghoejaaGreatDoor
def farN (p : UInt8 → Bool) (l : List UInt8) (k : Nat) : Nat := k + ((l.drop k).takeWhile p).length
theorem farN_le (p : UInt8 → Bool) (l : List UInt8) (k : Nat) (hk : k ≤ l.length) : farN p l k ≤ l.length := by
  have := (List.takeWhile_sublist (p := p) (l := l.drop k)).length_le
  simp only [List.length_drop] at this
  unfold farN; omega
theorem farN_ge (p : UInt8 → Bool) (l : List UInt8) (k : Nat) : k ≤ farN p l k := by unfold farN; omega
theorem byte_at (s : ByteArray) (k : Nat) (hk : k < s.size) : s.data.toList[k]? = some s[k] := by
  rw [List.getElem?_eq_getElem (by simpa using hk)]
  simp [ByteArray.getElem_eq_getElem_data]
theorem drop_at {l : List UInt8} {k : Nat} {c : UInt8} (h : l[k]? = some c) : l.drop k = c :: l.drop (k + 1) := by
  have hk : k < l.length := by
    rcases Nat.lt_or_ge k l.length with h' | h'
    · exact h'
    · rw [List.getElem?_eq_none h'] at h; cases h
  rw [List.drop_eq_getElem_cons hk]
  rw [List.getElem?_eq_getElem hk] at h
  injection h with h
  rw [h]
theorem farN_yes {p : UInt8 → Bool} {l : List UInt8} {k : Nat} {c : UInt8} (h : l[k]? = some c) (hp : p c = true) : farN p l k = farN p l (k + 1) := by
  unfold farN
  rw [drop_at h, List.takeWhile_cons, if_pos hp, List.length_cons]
  omega
theorem farN_no {p : UInt8 → Bool} {l : List UInt8} {k : Nat} {c : UInt8} (h : l[k]? = some c) (hp : p c = false) : farN p l k = k := by
  unfold farN
  rw [drop_at h, List.takeWhile_cons, if_neg (by rw [hp]; decide)]
  rfl
theorem farN_end {p : UInt8 → Bool} {l : List UInt8} {k : Nat} (h : l.length ≤ k) : farN p l k = k := by
  unfold farN
  rw [List.drop_eq_nil_of_le h]
  rfl
theorem drop_tw (p : UInt8 → Bool) : ∀ r : List UInt8, r.drop (r.takeWhile p).length = r.dropWhile p
  | [] => rfl
  | c :: r => by
    rw [List.takeWhile_cons, List.dropWhile_cons]
    split
    · simpa using drop_tw p r
    · rfl
theorem take_tw (p : UInt8 → Bool) (r : List UInt8) : r.take (r.takeWhile p).length = r.takeWhile p := by
  induction r with
  | nil => rfl
  | cons c r ih =>
    rw [List.takeWhile_cons]
    split
    · simpa using ih
    · rfl
theorem drop_far (p : UInt8 → Bool) (l : List UInt8) (k : Nat) : l.drop (farN p l k) = (l.drop k).dropWhile p := by
  unfold farN
  rw [← List.drop_drop, drop_tw]
theorem between_far (p : UInt8 → Bool) (l : List UInt8) (k : Nat) : (l.drop k).take (farN p l k - k) = (l.drop k).takeWhile p := by
  unfold farN
  rw [Nat.add_sub_cancel_left, take_tw]
theorem skip_blank : ∀ r : List UInt8, skipL false r = skipL false (r.dropWhile blankB)
  | [] => rfl
  | c :: r => by
    rw [List.dropWhile_cons]
    split
    · rename_i h
      rw [skipL, if_pos h]
      exact skip_blank r
    · rfl
theorem skip_comment : ∀ r : List UInt8, skipL true r = skipL false (r.dropWhile fun c => !(c == 10))
  | [] => rfl
  | c :: r => by
    rw [List.dropWhile_cons]
    by_cases h : c = 10
    · subst h
      simp only [skipL, beq_self_eq_true, Bool.not_true, Bool.false_eq_true, if_false]
      simp [blankB]
    · have h2 : (!(c == 10)) = true := by simp [h]
      rw [if_pos h2, skipL, if_neg h]
      exact skip_comment r
theorem skip_two {r : List UInt8} (h : Lib.hasPrefix r [45, 45] = true) : skipL false r = skipL false (r.dropWhile fun c => !(c == 10)) := by
  rw [← skip_comment]
  match r with
  | [] => simp [Lib.hasPrefix] at h
  | [c] => simp [Lib.hasPrefix, List.isPrefixOf] at h
  | c :: d :: r =>
    simp [Lib.hasPrefix, List.isPrefixOf] at h
    obtain ⟨rfl, rfl⟩ := h
    simp [skipL, blankB]
theorem skip_done {r : List UInt8} (h : Lib.hasPrefix (r.dropWhile blankB) [45, 45] = false) : skipL false r = r.dropWhile blankB := by
  rw [skip_blank]
  generalize hr : r.dropWhile blankB = q at *
  match q with
  | [] => rfl
  | c :: q =>
    have hb : blankB c = false := by
      have := List.head?_dropWhile_not blankB r
      rw [hr] at this
      simpa using this
    rw [skipL, hb, if_neg (by decide)]
    rw [if_neg]
    rintro ⟨rfl, h2⟩
    cases q with
    | nil => simp at h2
    | cons d q =>
      simp at h2
      subst h2
      simp [Lib.hasPrefix, List.isPrefixOf] at h
theorem skip_suffix : ∀ (b : Bool) (r : List UInt8), skipL b r <:+ r
  | _, [] => by simp [skipL]
  | true, c :: r => by
    simp only [skipL]
    split
    · exact (skip_suffix false r).trans (List.suffix_cons _ _)
    · exact (skip_suffix true r).trans (List.suffix_cons _ _)
  | false, c :: r => by
    simp only [skipL]
    split
    · exact (skip_suffix false r).trans (List.suffix_cons _ _)
    · split
      · exact (skip_suffix true r).trans (List.suffix_cons _ _)
      · exact List.suffix_refl _
theorem drop_suffix {r l : List UInt8} (h : r <:+ l) : l.drop (l.length - r.length) = r := by
  obtain ⟨p, rfl⟩ := h
  simp
theorem val_mono (l : List UInt8) : ∀ v, v ≤ l.foldl (fun v c => v * 10 + (c.toNat - 48)) v := by
  induction l with
  | nil => intro v; exact Nat.le_refl _
  | cons c l ih =>
    intro v
    have := ih (v * 10 + (c.toNat - 48))
    simp only [List.foldl_cons]
    omega
theorem uint_digits : ∀ (l : List UInt8) (v : Nat), (∀ c ∈ l, digitB c = true) → v ≤ 18446744073709551615 →
    Lib.parseUintM 18446744073709551615 v l = if l.foldl (fun v c => v * 10 + (c.toNat - 48)) v ≤ 18446744073709551615 then .ok (l.foldl (fun v c => v * 10 + (c.toNat - 48)) v) else .range
  | [], v, _, hv => by simp [Lib.parseUintM, hv]
  | c :: l, v, hd, hv => by
    have hc : 48 ≤ c.toNat ∧ c.toNat ≤ 57 := by
      have := hd c List.mem_cons_self
      simpa [digitB, UInt8.le_iff_toNat_le] using this
    have hm := val_mono l (v * 10 + (c.toNat - 48))
    rw [Lib.parseUintM, if_pos hc, List.foldl_cons]
    by_cases h1 : 1844674407370955162 ≤ v
    · rw [if_pos h1, if_neg (by omega)]
    · rw [if_neg h1]
      by_cases h2 : 18446744073709551615 < v * 10 + (c.toNat - 48)
      · rw [if_pos h2, if_neg (by omega)]
      · rw [if_neg h2]
        exact uint_digits l _ (fun c h => hd c (List.mem_cons_of_mem _ h)) (by omega)
theorem int_digits {l : List UInt8} (hne : l ≠ []) (hd : ∀ c ∈ l, digitB c = true) : Lib.parseIntB 64 l = if valL l ≤ 9223372036854775807 then .ok (valL l : Int) else .range := by
  match l with
  | [] => exact absurd rfl hne
  | c :: r =>
    have hc : 48 ≤ c.toNat ∧ c.toNat ≤ 57 := by
      have := hd c List.mem_cons_self
      simpa [digitB, UInt8.le_iff_toNat_le] using this
    have hu := uint_digits (c :: r) 0 hd (by omega)
    change _ = if valL (c :: r) ≤ _ then Lib.NumEnd.ok (valL (c :: r)) else _ at hu
    have e1 : ¬ (c.toNat = 43 ∨ c.toNat = 45) := by omega
    have e2 : ¬ c.toNat = 45 := by omega
    have e3 : ¬ c.toNat = 43 := by omega
    simp only [Lib.parseIntB, e2, e3, or_false, if_false, Lib.parseUintB, if_neg hne]
    rw [show 2 ^ 64 - 1 = 18446744073709551615 from rfl, hu]
    by_cases h1 : valL (c :: r) ≤ 18446744073709551615
    · rw [if_pos h1]
      simp only [show 2 ^ (64 - 1) = 9223372036854775808 from rfl]
      by_cases h2 : valL (c :: r) ≤ 9223372036854775807
      · rw [if_pos h2, if_neg (by omega), if_neg (by simp)]
      · rw [if_neg h2, if_pos (by simp; omega)]
    · rw [if_neg h1, if_neg (by omega)]
theorem word_ascii {c : UInt8} (h : wordB c = true) : c.toNat < 128 := by
  simp [wordB, letterB, digitB, UInt8.le_iff_toNat_le, ← UInt8.toNat_inj] at h
  omega
theorem tw_word {p : UInt8 → Bool} (l : List UInt8) : ∀ c ∈ l.takeWhile p, p c = true := fun c hc => List.all_eq_true.1 (List.all_takeWhile (p := p) (l := l)) c hc
end Go.Proofs.YtcneefmaghoejaaGreatDoor
set_option linter.unusedSimpArgs false
set_option linter.unusedVariables false
namespace Go.Proofs.YtcneefmaghoejaaGreatDoor
theorem Run.start {r t q : List UInt8} {ws : List (Wd × Nat)} (h : Run t ws q) (e : skipL false r = skipL false t) : Run r ws q := by
  cases h with
  | stop r' => rw [← e]; exact .stop r
  | step hs ho h => exact .step (e.trans hs) ho h
theorem Run.append {r q : List UInt8} {ws : List (Wd × Nat)} (h : Run r ws q) : ∀ {t q2 : List UInt8} {ws2 : List (Wd × Nat)}, q = skipL false t → Run t ws2 q2 → Run r (ws ++ ws2) q2 := by
  induction h with
  | stop r => intro t q2 ws2 e h2; exact h2.start e
  | step hs ho h ih => intro t q2 ws2 e h2; exact .step hs ho (ih e h2)
theorem Run.le {r q : List UInt8} {ws : List (Wd × Nat)} (h : Run r ws q) : ∀ x ∈ ws, x.2 ≤ r.length := by
  induction h with
  | stop r => intro x hx; cases hx
  | @step r r1 rest q c w ws hs ho h ih =>
    intro x hx
    have h1 := skipL_le false r
    rw [hs] at h1
    have h2 := oneL_lt ho
    rcases List.mem_cons.1 hx with rfl | hx
    · exact h1
    · have := ih x hx; omega
theorem Run.line {r q : List UInt8} {ws : List (Wd × Nat)} (h : Run r ws q) : q = [] → ∀ t, Run (r ++ 10 :: t) (ws.map fun x => (x.1, x.2 + (t.length + 1))) (skipL false t) := by
  induction h with
  | stop r =>
    intro hq t
    have := skip_end false r hq t
    rw [← this]
    exact .stop _
  | @step r r1 rest q c w ws hs ho h ih =>
    intro hq t
    obtain ⟨p, hp, hx⟩ := skip_split false r c r1 hs
    obtain ⟨b, hb, hbne, hfit⟩ := one_fits ho
    have hf : Fits rest (rest ++ 10 :: t) := by
      cases rest with
      | nil => exact .inr (.inr ⟨10, t, rfl, by decide⟩)
      | cons d rest => exact .inl rfl
    have ho2 := hfit _ hf
    cases b with
    | nil => exact absurd rfl hbne
    | cons d b =>
      have hdc : d = c := by have := congrArg List.head? hb; simpa using this.symm
      subst hdc
      have hr1 : r1 = b ++ rest := by simpa using hb
      have hs2 : skipL false (r ++ 10 :: t) = d :: (b ++ (rest ++ 10 :: t)) := by
        rw [hp, List.append_assoc, hx]
        have hst := skip_stop hs
        rw [List.cons_append, hr1]
        rw [hr1] at hst
        simp only [skipL] at hst ⊢
        split at hst
        · exfalso
          have := skipL_le false (b ++ rest)
          rw [hst] at this
          simp at this
          omega
        · rename_i hbl
          rw [if_neg hbl]
          split at hst
          · exfalso
            have := skipL_le true (b ++ rest)
            rw [hst] at this
            simp at this
            omega
          · rename_i hm
            rw [if_neg]
            · simp
            · rintro ⟨rfl, hh⟩
              apply hm
              refine ⟨rfl, ?_⟩
              cases hbr : b ++ rest with
              | nil => rw [hbr] at hh; simp at hh
              | cons e z => rw [hbr] at hh; simpa using hh
      have := Run.step hs2 (by rw [List.cons_append] at ho2; exact ho2) (ih hq t)
      have e : (d :: (b ++ (rest ++ 10 :: t))).length = (d :: r1).length + (t.length + 1) := by rw [hr1]; simp; omega
      rw [e] at this
      exact this
theorem lexL_small {s : List UInt8} (h : s.length ≤ 4096) : lexL s = lexF s.length (s.length + 1) s := by
  unfold lexL
  rw [if_neg (by omega)]
theorem lex_run {s q : List UInt8} {ws : List (Wd × Nat)} (hl : s.length ≤ 4096) (h : Run s ws q) (hq : q = []) : lexL s = .ok (ws.map (tokAt s.length) ++ [endTok s.length]) := by
  rw [lexL_small hl]
  exact lexF_run h (by omega) hq
theorem lex_run_err {s q' : List UInt8} {c : UInt8} {e : Nat} {ws : List (Wd × Nat)} (hl : s.length ≤ 4096) (h : Run s ws (c :: q')) (he : oneL (c :: q') = .error e) : lexL s = .error (s.length - (c :: q').length, e) := by
  rw [lexL_small hl]
  exact lexF_run_err h (by omega) rfl he
theorem run_of_ok {s : List UInt8} {l : List Tok} (h : lexL s = .ok l) : s.length ≤ 4096 ∧ ∃ ws, Run s ws [] ∧ l = ws.map (tokAt s.length) ++ [endTok s.length] := by
  have hl : s.length ≤ 4096 := by
    unfold lexL at h
    split at h
    · cases h
    · omega
  rw [lexL_small hl] at h
  exact ⟨hl, lexF_ok h⟩
theorem run_of_err {s : List UInt8} {p e : Nat} (hl : s.length ≤ 4096) (h : lexL s = .error (p, e)) : ∃ ws c q, Run s ws (c :: q) ∧ oneL (c :: q) = .error e ∧ p = s.length - (c :: q).length := by
  rw [lexL_small hl] at h
  exact lexF_err (by omega) h
def shiftT (n : Nat) (t : Tok) : Tok := ⟨t.w, t.p + n⟩
theorem join_ok {s t : List UInt8} {a b : List Tok} (hs : lexL s = .ok a) (ht : lexL t = .ok b) (hl : s.length + t.length + 1 ≤ 4096) : lexL (s ++ 10 :: t) = .ok (a.dropLast ++ b.map (shiftT (s.length + 1))) := by
  obtain ⟨_, ws, hr, rfl⟩ := run_of_ok hs
  obtain ⟨_, ws2, hr2, rfl⟩ := run_of_ok ht
  have h := (hr.line rfl t).append rfl hr2
  have hlen : (s ++ 10 :: t).length = s.length + t.length + 1 := by simp; omega
  have := lex_run (by rw [hlen]; exact hl) h rfl
  rw [this, hlen]
  congr 1
  rw [List.dropLast_concat, List.map_append, List.map_append, List.map_map, List.map_map, List.append_assoc]
  congr 1
  · apply List.map_congr_left
    intro x _
    simp only [Function.comp_apply, tokAt]
    congr 1
    omega
  · congr 1
    · apply List.map_congr_left
      intro x hx
      have := hr2.le x hx
      simp only [Function.comp_apply, tokAt, shiftT]
      congr 1
      omega
    · simp [endTok, shiftT]
      omega
theorem join_err {s t : List UInt8} {a : List Tok} {p e : Nat} (hs : lexL s = .ok a) (ht : lexL t = .error (p, e)) (hl : s.length + t.length + 1 ≤ 4096) : lexL (s ++ 10 :: t) = .error (s.length + 1 + p, e) := by
  obtain ⟨_, ws, hr, rfl⟩ := run_of_ok hs
  obtain ⟨ws2, c, q, hr2, ho, rfl⟩ := run_of_err (by omega) ht
  have h := (hr.line rfl t).append rfl hr2
  have hlen : (s ++ 10 :: t).length = s.length + t.length + 1 := by simp; omega
  have hq : (c :: q).length ≤ t.length := by
    have key : ∀ {r q : List UInt8} {ws : List (Wd × Nat)}, Run r ws q → q.length ≤ r.length := by
      intro r q ws h
      induction h with
      | stop r => exact skipL_le false r
      | @step r r1 rest q c w ws hs ho h ih =>
        have h1 := skipL_le false r
        rw [hs] at h1
        have := oneL_lt ho
        omega
    exact key hr2
  have := lex_run_err (by rw [hlen]; exact hl) h ho
  rw [this, hlen]
  congr 2
  omega
theorem cut_ok {s : List UInt8} {p e : Nat} (hl : s.length ≤ 4000) (h : lexL s = .error (p, e)) : p < s.length ∧ (e = 2 ∨ e = 30) ∧ (∃ l, lexL (s.take p) = .ok (l ++ [endTok p])) ∧ lexL (s.take p ++ (32 :: 59 :: 32 :: s.drop p)) = .error (p + 3, e) := by
  obtain ⟨ws, c, q, hr, ho, hp⟩ := run_of_err (by omega) h
  obtain ⟨pf, hs, hy⟩ := hr.split (by simp)
  have hlen : s.length = pf.length + (c :: q).length := by rw [hs]; simp
  have hpp : p = pf.length := by omega
  have ht : s.take p = pf := by rw [hs, hpp]; simp
  have hdr : s.drop p = c :: q := by rw [hs, hpp]; simp
  rw [ht, hdr]
  have he : e = 2 ∨ e = 30 := by
    simp only [oneL] at ho
    split at ho
    · split at ho
      · cases ho
      · injection ho with ho; exact .inl ho.symm
    · split at ho
      · split at ho
        · cases ho
        · injection ho with ho; exact .inr ho.symm
      · split at ho
        · split at ho
          · cases ho
          · injection ho with ho; exact .inr ho.symm
        · split at ho
          · cases ho
          · injection ho with ho; exact .inr ho.symm
  refine ⟨by rw [hlen, hpp]; simp, he, ?_, ?_⟩
  · have h1 := hy [] (.inr (.inl rfl))
    rw [List.append_nil] at h1
    have := lex_run (by omega) h1 (by rfl)
    exact ⟨_, by rw [this, hpp]⟩
  · have h1 := hy (32 :: 59 :: 32 :: c :: q) (.inr (.inr ⟨32, _, rfl, by decide⟩))
    have hst : skipL false (c :: q) = c :: q := by
      have key : ∀ {r q : List UInt8} {ws : List (Wd × Nat)}, Run r ws q → skipL false q = q := by
        intro r q ws h
        induction h with
        | stop r =>
          cases hk : skipL false r with
          | nil => rfl
          | cons c q => exact skip_stop hk
        | step hs ho h ih => exact ih
      exact key hr
    have hone : oneL (59 :: 32 :: c :: q) = .ok (⟨4, [59], 0⟩, 32 :: c :: q) := by
      have a1 : letterB 59 = false := by decide
      have a2 : digitB 59 = false := by decide
      have a3 : signIn signs (59 :: 32 :: c :: q) = some [59] := by simp [signIn, signs, List.isPrefixOf]
      simp only [oneL, a1, a2, a3]
      rfl
    have h3 : Run (32 :: c :: q) [] (skipL false (32 :: c :: q)) := .stop _
    have e3 : skipL false (32 :: c :: q) = c :: q := by
      rw [skipL, if_pos (by decide)]; exact hst
    rw [e3] at h3
    have e4 : skipL false (32 :: 59 :: 32 :: c :: q) = 59 :: 32 :: c :: q := by
      rw [skipL, if_pos (by decide), skipL, if_neg (by decide), if_neg (by simp)]
    have h4 := h1.append rfl (Run.step e4 hone h3)
    have hlen2 : (pf ++ (32 :: 59 :: 32 :: c :: q)).length = pf.length + 3 + (c :: q).length := by simp; omega
    have := lex_run_err (by rw [hlen2]; omega) h4 ho
    rw [this, hlen2, hpp]
    congr 2
    omega
theorem semi_ok {s : List UInt8} {a : List Tok} (hs : lexL s = .ok a) (hl : s.length ≤ 4000) : lexL (s ++ [10, 59]) = .ok (a.dropLast ++ [⟨⟨4, [59], 0⟩, s.length + 1⟩, endTok (s.length + 2)]) := by
  have h : lexL [59] = .ok [⟨⟨4, [59], 0⟩, 0⟩, endTok 1] := rfl
  have := join_ok hs h (by simp; omega)
  rw [this]
  simp [shiftT, endTok]
  omega
def wordOf (s : List UInt8) : Bool := match lexL s with
  | .ok [t, _] => t == ⟨⟨1, s, 0⟩, 0⟩
  | _ => false
theorem res_words : resL.all wordOf = true := by decide +kernel
theorem low_self {c : UInt8} (h : lowB c = c) : capB c = false := by
  cases hc : capB c
  · rfl
  · unfold lowB at h
    rw [if_pos hc] at h
    simp [capB, UInt8.le_iff_toNat_le] at hc
    have := congrArg UInt8.toNat h
    rw [UInt8.toNat_add] at this
    simp at this
    omega
theorem letter_digit {c : UInt8} (h : letterB c = true) : digitB c = false := by
  cases hd : digitB c
  · rfl
  · simp [letterB, digitB, UInt8.le_iff_toNat_le, ← UInt8.toNat_inj] at h hd
    omega
theorem letter_start {c : UInt8} {r : List UInt8} (h : letterB c = true) : skipL false (c :: r) = c :: r := by
  have h1 : ¬ blankB c = true := by
    intro hb
    rcases blank_cases hb with rfl | rfl | rfl | rfl <;> revert h <;> decide
  have h2 : ¬ (c = 45 ∧ r.head? = some 45) := by rintro ⟨rfl, _⟩; revert h; decide
  rw [skipL, if_neg h1, if_neg h2]
theorem name_word {s : List UInt8} (h : nameB s = true) : wordOf s = true ∧ 0 < s.length ∧ resB s = false := by
  cases s with
  | nil => simp [nameB] at h
  | cons c r =>
    simp only [nameB, Bool.and_eq_true, decide_eq_true_eq, Bool.not_eq_true'] at h
    obtain ⟨⟨⟨h1, h2⟩, h3⟩, h4⟩ := h
    refine ⟨?_, by simp, h2⟩
    have hall : ∀ x ∈ c :: r, capB x = false ∧ wordB x = true := fun x hx => by
      have := List.all_eq_true.1 h4 x hx
      simpa using this
    have hc : letterB c = true := by
      have := (hall c List.mem_cons_self).2
      simpa [wordB, h3] using this
    have htw : (c :: r).takeWhile wordB = c :: r := by
      have := (tw_append (p := wordB) (b := c :: r) (x := []) (fun x hx => (hall x hx).2) rfl).1
      simpa using this
    have hdw : (c :: r).dropWhile wordB = [] := by
      have := (tw_append (p := wordB) (b := c :: r) (x := []) (fun x hx => (hall x hx).2) rfl).2
      simpa using this
    have hlow : (c :: r).map lowB = c :: r := by
      have : (c :: r).map lowB = (c :: r).map id := List.map_congr_left fun x hx => by unfold lowB; rw [(hall x hx).1]; rfl
      rw [this, List.map_id]
    have hone : oneL (c :: r) = .ok (⟨1, c :: r, 0⟩, []) := by
      rw [oneL, if_pos hc, htw, hdw, hlow, if_pos h1]
    have hrun : Run (c :: r) [(⟨1, c :: r, 0⟩, (c :: r).length)] (skipL false []) := .step (letter_start hc) hone (.stop [])
    have := lex_run (by omega) hrun rfl
    unfold wordOf
    rw [this]
    simp [tokAt]
theorem word_name {s : List UInt8} (h : wordOf s = true) (h0 : 0 < s.length) (hr : resB s = false) : nameB s = true := by
  unfold wordOf at h
  split at h
  · rename_i t u hl
    have ht : t = ⟨⟨1, s, 0⟩, 0⟩ := by simpa using h
    subst ht
    obtain ⟨hle, ws, hrun, he⟩ := run_of_ok hl
    generalize hq0 : ([] : List UInt8) = q0 at hrun
    cases hrun with
    | stop => simp at he
    | @step _ r1 rest q c w ws hs ho hrun =>
      have hw : (tokAt s.length (w, (c :: r1).length)) = ⟨⟨1, s, 0⟩, 0⟩ := by
        simp only [List.map_cons, List.cons_append, List.cons.injEq] at he
        exact he.1.symm
      unfold tokAt at hw
      injection hw with hw hp
      simp only at hw hp
      have hsuf := skip_suffix false s
      rw [hs] at hsuf
      have hlen := hsuf.length_le
      have hall : c :: r1 = s := hsuf.eq_of_length (by omega)
      rw [hall] at ho
      cases s with
      | nil => simp at h0
      | cons c0 r0 =>
        have hk : w.k = 1 := by rw [hw]
        have hss : w.s = c0 :: r0 := by rw [hw]
        simp only [oneL] at ho
        split at ho
        · rename_i hc
          split at ho
          · rename_i hl32
            injection ho with ho
            injection ho with ho1 ho2
            have e1 : ((c0 :: r0).takeWhile wordB).map lowB = c0 :: r0 := by rw [← ho1] at hss; exact hss
            have e2 : (c0 :: r0).takeWhile wordB = c0 :: r0 := by
              have hpre : (c0 :: r0).takeWhile wordB <+: c0 :: r0 := List.takeWhile_prefix _
              exact hpre.eq_of_length (by have := congrArg List.length e1; simpa using this)
            rw [e2] at e1 hl32
            have hw2 : ∀ x ∈ c0 :: r0, wordB x = true := by rw [← e2]; exact tw_all wordB _
            have hlow : ∀ x ∈ c0 :: r0, lowB x = x := by
              have : (c0 :: r0).map lowB = (c0 :: r0).map id := by rw [e1, List.map_id]
              exact List.map_inj_left.1 this
            simp only [nameB, Bool.and_eq_true, decide_eq_true_eq, Bool.not_eq_true']
            refine ⟨⟨⟨hl32, hr⟩, letter_digit hc⟩, ?_⟩
            rw [List.all_eq_true]
            intro x hx
            rw [low_self (hlow x hx), hw2 x hx]
            rfl
          · cases ho
        · exfalso
          split at ho
          · split at ho
            · injection ho with ho; injection ho with ho1 ho2
              rw [← ho1] at hk; simp at hk
            · cases ho
          · split at ho
            · split at ho
              · injection ho with ho; injection ho with ho1 ho2
                rw [← ho1] at hk; simp at hk
              · cases ho
            · split at ho
              · injection ho with ho; injection ho with ho1 ho2
                rw [← ho1] at hk; simp at hk
              · cases ho
  · cases h
theorem names_law (s : List UInt8) : nameB s = (wordOf s && decide (0 < s.length) && !resB s) ∧ (resB s = true → wordOf s = true) := by
  refine ⟨?_, fun h => ?_⟩
  · cases hn : nameB s
    · cases hw : wordOf s
      · rfl
      · cases hr : resB s
        · by_cases h0 : 0 < s.length
          · rw [word_name hw h0 hr] at hn; cases hn
          · simp [h0]
        · simp
    · obtain ⟨h1, h2, h3⟩ := name_word hn
      rw [h1, h3, decide_eq_true h2]; rfl
  · have : s ∈ resL := by simpa [resB] using h
    exact List.all_eq_true.1 res_words s this
end Go.Proofs.YtcneefmaghoejaaGreatDoor
namespace Go.Proofs.YtcneefmaghoejaaGreatDoor
set_option linter.unusedVariables false
set_option linter.unusedSimpArgs false
inductive Pcs : List (Wd × Nat) → List (List UInt8) → Prop
  | nil : Pcs [] []
  | cons {w : Wd} {p : List UInt8} {ws : List (Wd × Nat)} {ps : List (List UInt8)} (h : Run p [(w, p.length)] []) (hp : p ≠ []) (k : Pcs ws ps) : Pcs ((w, (p ++ ps.flatten).length) :: ws) (p :: ps)
theorem Pcs.len {ws : List (Wd × Nat)} {ps : List (List UInt8)} (h : Pcs ws ps) : ps.length = ws.length := by
  induction h with
  | nil => rfl
  | cons _ _ _ ih => simp [ih]
theorem skip_word {c : UInt8} {r y : List UInt8} (h : skipL false (c :: r) = c :: r) (hy : y.head? = r.head? ∨ y = []) : skipL false (c :: y) = c :: y := by
  simp only [skipL] at h ⊢
  split at h
  · exfalso
    have := skipL_le false r
    rw [h] at this
    simp at this
    omega
  · rename_i hb
    rw [if_neg hb]
    split at h
    · exfalso
      have := skipL_le true r
      rw [h] at this
      simp at this
      omega
    · rename_i hc
      rw [if_neg]
      rcases hy with hy | rfl
      · rw [hy]; exact hc
      · simp
theorem run_end {r q : List UInt8} {ws : List (Wd × Nat)} (h : Run r ws q) (e : q = []) : Run r ws [] := e ▸ h
theorem stop_end {r : List UInt8} (h : skipL false r = []) : Run r [] [] := run_end (.stop r) h
theorem pcs_of {r q : List UInt8} {ws : List (Wd × Nat)} (h : Run r ws q) : q = [] → ∃ ps, skipL false r = ps.flatten ∧ Pcs ws ps := by
  induction h with
  | stop r => exact fun e => ⟨[], e, .nil⟩
  | @step r r1 rest q c w ws hs ho h ih =>
    intro e
    obtain ⟨ps, h1, h2⟩ := ih e
    obtain ⟨b, hb, hbne, hfit⟩ := one_fits ho
    have hst := skip_stop hs
    cases ps with
    | nil =>
      have he : skipL false rest = [] := h1
      cases h2
      refine ⟨[c :: r1], by rw [hs]; simp, ?_⟩
      have : (c :: r1).length = ((c :: r1) ++ ([] : List (List UInt8)).flatten).length := by simp
      rw [this]
      exact .cons (.step hst ho (stop_end he)) (by simp) .nil
    | cons p2 ps =>
      obtain ⟨c2, r2, h3⟩ : ∃ c2 r2, (p2 :: ps).flatten = c2 :: r2 := by
        cases h2 with
        | cons _ hp _ =>
          cases p2 with
          | nil => exact absurd rfl hp
          | cons d p2 => exact ⟨d, _, rfl⟩
      rw [h3] at h1
      obtain ⟨g, hg, hgx⟩ := skip_split false rest c2 r2 h1
      have hsg : skipL false g = [] := by
        have := hgx []
        rw [List.append_nil] at this
        rw [this]
        rfl
      cases b with
      | nil => exact absurd rfl hbne
      | cons d b =>
        have hdc : d = c := by have := congrArg List.head? hb; simpa using this.symm
        subst hdc
        have hr1 : r1 = b ++ rest := by simpa using hb
        have hfg : Fits rest g := by
          cases g with
          | nil => exact .inr (.inl rfl)
          | cons x g => rw [hg]; exact .inl rfl
        have hone := hfit g hfg
        have hskip : skipL false (d :: (b ++ g)) = d :: (b ++ g) := by
          refine skip_word hst ?_
          rw [hr1]
          cases b with
          | cons x b => exact .inl rfl
          | nil =>
            cases g with
            | nil => exact .inr rfl
            | cons x g => rw [hg]; exact .inl rfl
        refine ⟨(d :: (b ++ g)) :: p2 :: ps, ?_, ?_⟩
        · rw [hs, List.flatten_cons, h3, hr1, hg]
          simp
        · have hl : (d :: r1).length = ((d :: (b ++ g)) ++ (p2 :: ps).flatten).length := by
            rw [h3, hr1, hg]; simp
          rw [hl]
          exact .cons (.step hskip hone (stop_end hsg)) (by simp) h2
theorem run_piece {p t : List UInt8} {w : Wd} {ws : List (Wd × Nat)} (h : Run p [(w, p.length)] []) (k : Run t ws []) : ∃ x, Run (p ++ 10 :: t) ((w, x) :: ws) [] :=
  ⟨_, (h.line rfl t).append rfl k⟩
theorem run_sign {c : UInt8} {t : List UInt8} {ws : List (Wd × Nat)} (hc : c = 40 ∨ c = 41) (k : Run t ws []) : ∃ x, Run (c :: 32 :: t) ((⟨4, [c], 0⟩, x) :: ws) [] := by
  have hsg : signIn signs ([c] ++ 32 :: t) = some [c] := sign_sep (by rcases hc with rfl | rfl <;> decide) (.inr ⟨32, t, rfl, by decide⟩)
  have h1 : skipL false (c :: 32 :: t) = c :: 32 :: t := by rcases hc with rfl | rfl <;> simp [skipL, blankB]
  have h2 : oneL (c :: 32 :: t) = .ok (⟨4, [c], 0⟩, 32 :: t) := by
    rw [List.singleton_append] at hsg
    rcases hc with rfl | rfl
    · simp only [oneL, hsg]
      rfl
    · simp only [oneL, hsg]
      rfl
  refine ⟨_, .step h1 h2 (k.start ?_)⟩
  simp [skipL, blankB]
def layL (k : Option Nat) : Nat → List (List UInt8) → List UInt8
  | _, [] => []
  | i, p :: ps => (if k = some i then [40, 32] else []) ++ (p ++ 10 :: ((if k = some i then [41, 32] else []) ++ layL k (i + 1) ps))
def layW (k : Option Nat) : Nat → List Wd → List Wd
  | _, [] => []
  | i, w :: ws => if k = some i then ⟨4, [40], 0⟩ :: w :: ⟨4, [41], 0⟩ :: layW k (i + 1) ws else w :: layW k (i + 1) ws
theorem lay_run {ws : List (Wd × Nat)} {ps : List (List UInt8)} (h : Pcs ws ps) (k : Option Nat) : ∀ i, ∃ ws', Run (layL k i ps) ws' [] ∧ ws'.map (·.1) = layW k i (ws.map (·.1)) := by
  induction h with
  | nil => exact fun i => ⟨[], stop_end rfl, rfl⟩
  | @cons w p ws ps h hp _ ih =>
    intro i
    obtain ⟨ws', h1, h2⟩ := ih (i + 1)
    by_cases hk : k = some i
    · obtain ⟨x, h3⟩ := run_sign (.inr rfl) h1
      obtain ⟨y, h4⟩ := run_piece h h3
      obtain ⟨z, h5⟩ := run_sign (.inl rfl) h4
      refine ⟨_, by simp only [layL, if_pos hk]; exact h5, ?_⟩
      simp only [List.map_cons, layW, if_pos hk, h2]
    · obtain ⟨x, h3⟩ := run_piece h h1
      refine ⟨_, by simp only [layL, if_neg hk]; exact h3, ?_⟩
      simp only [List.map_cons, layW, if_neg hk, h2]
theorem layW_none : ∀ (i : Nat) (ws : List Wd), layW none i ws = ws
  | _, [] => rfl
  | i, w :: ws => by simp only [layW, layW_none (i + 1) ws]; rfl
theorem layW_past (k : Nat) : ∀ (i : Nat) (ws : List Wd), k < i → layW (some k) i ws = ws
  | _, [], _ => rfl
  | i, w :: ws, h => by
    simp only [layW]
    rw [if_neg (by intro e; injection e; omega), layW_past k (i + 1) ws (by omega)]
theorem layW_at (k : Nat) : ∀ (i : Nat) (a : List Wd) (w : Wd) (b : List Wd), a.length + i = k → layW (some k) i (a ++ w :: b) = a ++ ⟨4, [40], 0⟩ :: w :: ⟨4, [41], 0⟩ :: b
  | i, [], w, b, h => by
    have : k = i := by simpa using h.symm
    subst this
    simp only [List.nil_append, layW, if_true]
    rw [layW_past k (k + 1) b (by omega)]
  | i, x :: a, w, b, h => by
    simp only [List.length_cons] at h
    simp only [List.cons_append, layW]
    rw [if_neg (by intro e; injection e; omega), layW_at k (i + 1) a w b (by omega)]
theorem layL_len (k : Option Nat) : ∀ (i : Nat) (ps : List (List UInt8)), (∀ p ∈ ps, p ≠ []) → (layL k i ps).length ≤ 6 * ps.flatten.length
  | _, [], _ => by simp [layL]
  | i, p :: ps, h => by
    have h1 := layL_len k (i + 1) ps fun q hq => h q (List.mem_cons_of_mem _ hq)
    have h2 : 0 < p.length := List.length_pos_iff.2 (h p List.mem_cons_self)
    simp only [layL]
    split <;> simp [List.length_append] <;> simp at h1 <;> omega
end Go.Proofs.YtcneefmaghoejaaGreatDoor
