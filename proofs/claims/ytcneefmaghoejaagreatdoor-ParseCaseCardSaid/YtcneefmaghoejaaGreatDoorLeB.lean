/- Great letters for small ones, in words: the same words. -/
import Derived.Test.YtcneefmaghoejaaGreatDoorB46
namespace Go.Proofs.YtcneefmaghoejaaGreatDoor
set_option linter.unusedVariables false
set_option linter.unusedSimpArgs false
/-- a small letter turned great -/
def upB (c : UInt8) : UInt8 := if 97 ≤ c ∧ c ≤ 122 then c - 32 else c
theorem up_facts : ∀ c : UInt8, letterB (upB c) = letterB c ∧ wordB (upB c) = wordB c ∧ lowB (upB c) = lowB c ∧ (letterB c = false → upB c = c) := by
  intro c
  have h : ∀ n : Fin 256, letterB (upB (UInt8.ofNat n)) = letterB (UInt8.ofNat n) ∧ wordB (upB (UInt8.ofNat n)) = wordB (UInt8.ofNat n) ∧ lowB (upB (UInt8.ofNat n)) = lowB (UInt8.ofNat n) ∧ (letterB (UInt8.ofNat n) = false → upB (UInt8.ofNat n) = UInt8.ofNat n) := by decide +kernel
  have := h ⟨c.toNat, c.toNat_lt⟩
  simpa using this
/-- the same but for letters that stand first -/
def HdG (a b : List UInt8) : Prop := b.head? = a.head? ∨ (a.head?.any letterB = true ∧ b.head?.any letterB = true)
theorem HdG.any {a b : List UInt8} (h : HdG a b) (p : UInt8 → Bool) (hp : ∀ c, letterB c = true → p c = false) : b.head?.any p = a.head?.any p := by
  rcases h with h | ⟨h1, h2⟩
  · rw [h]
  · cases a with
    | nil => simp at h1
    | cons c a =>
      cases b with
      | nil => simp at h2
      | cons d b => simp at h1 h2 ⊢; rw [hp c h1, hp d h2]
theorem HdG.all {a b : List UInt8} (h : HdG a b) (p : UInt8 → Bool) (hp : ∀ c, letterB c = true → p c = true) : b.head?.any p = a.head?.any p := by
  rcases h with h | ⟨h1, h2⟩
  · rw [h]
  · cases a with
    | nil => simp at h1
    | cons c a =>
      cases b with
      | nil => simp at h2
      | cons d b => simp at h1 h2 ⊢; rw [hp c h1, hp d h2]
theorem let_not (p : UInt8 → Bool) (h : ∀ n : Fin 256, letterB (UInt8.ofNat n) = true → p (UInt8.ofNat n) = false) : ∀ c, letterB c = true → p c = false := by
  intro c hc
  have := h ⟨c.toNat, c.toNat_lt⟩
  simp at this
  exact this hc
theorem sign_let {s : List UInt8} (hs : s ∈ signs) {c : UInt8} (hc : letterB c = true) (x : List UInt8) : signIn signs (s ++ c :: x) = some s := by
  have e1 := let_not (· == 60) (by decide +kernel) c hc
  have e2 := let_not (· == 61) (by decide +kernel) c hc
  have e3 := let_not (· == 62) (by decide +kernel) c hc
  have f1 : ¬ c = 60 := by simpa using e1
  have f2 : ¬ c = 61 := by simpa using e2
  have f3 : ¬ c = 62 := by simpa using e3
  have g1 : ¬ 60 = c := fun h => f1 h.symm
  have g2 : ¬ 61 = c := fun h => f2 h.symm
  have g3 : ¬ 62 = c := fun h => f3 h.symm
  simp only [signs, List.mem_cons, List.not_mem_nil, or_false] at hs
  rcases hs with rfl | rfl | rfl | rfl | rfl | rfl | rfl | rfl | rfl | rfl | rfl | rfl | rfl | rfl | rfl <;> simp [signIn, signs, List.isPrefixOf, g1, g2, g3]
/-- a word, great or not, and what stands behind it -/
theorem one_great {r rest : List UInt8} {w : Wd} (h : oneL r = .ok (w, rest)) : ∃ b, r = b ++ rest ∧ b ≠ [] ∧ (w.k = 1 → w.s.length = b.length ∧ b.head?.any letterB = true) ∧ ∀ y, HdG rest y → oneL ((if w.k = 1 then b.map upB else b) ++ y) = .ok (w, y) := by
  match r with
  | [] => simp [oneL] at h
  | c :: r =>
    simp only [oneL] at h
    split at h
    · rename_i hc
      have hw : wordB c = true := by simp [wordB, hc]
      split at h
      · rename_i hl
        injection h with h; injection h with h1 h2; subst h1 h2
        have e : (c :: r).takeWhile wordB = c :: r.takeWhile wordB := by simp [List.takeWhile_cons, hw]
        refine ⟨_, (List.takeWhile_append_dropWhile (p := wordB)).symm, by rw [e]; simp, fun _ => ⟨by simp, by rw [e]; simpa using hc⟩, fun y hy => ?_⟩
        have hall : ∀ x ∈ ((c :: r).takeWhile wordB).map upB, wordB x = true := by
          intro x hx
          obtain ⟨z, hz, rfl⟩ := List.mem_map.1 hx
          rw [(up_facts z).2.1]
          exact tw_all wordB _ z hz
        have hyw : y.head?.any wordB = false := by
          rw [hy.all wordB (by intro c hc; simp [wordB, hc])]
          exact tw_head wordB _
        obtain ⟨t1, t2⟩ := tw_append hall hyw
        have hlow : (((c :: r).takeWhile wordB).map upB).map lowB = ((c :: r).takeWhile wordB).map lowB := by
          rw [List.map_map]
          exact List.map_congr_left fun x _ => (up_facts x).2.2.1
        have hll : (((c :: r).takeWhile wordB).map upB).length ≤ 32 := by simpa using hl
        rw [if_pos rfl]
        rw [← hlow]
        generalize hB : ((c :: r).takeWhile wordB).map upB = B at *
        rw [e] at hB
        cases B with
        | nil => simp at hB
        | cons d B =>
          have hd : d = upB c := by simp at hB; exact hB.1.symm
          have hdl : letterB d = true := by rw [hd, (up_facts c).1, hc]
          rw [List.cons_append] at t1 t2 ⊢
          simp only [oneL, if_pos hdl]
          rw [t1, t2, if_pos hll]
      · cases h
    · rename_i hc
      split at h
      · rename_i hd
        split at h
        · rename_i hl
          injection h with h; injection h with h1 h2; subst h1 h2
          have e : (c :: r).takeWhile digitB = c :: r.takeWhile digitB := by simp [List.takeWhile_cons, hd]
          refine ⟨_, (List.takeWhile_append_dropWhile (p := digitB)).symm, by rw [e]; simp, fun h => absurd (show (2 : Nat) = 1 from h) (by decide), fun y hy => ?_⟩
          rw [if_neg (fun h => nomatch h)]
          have hdn := let_not digitB (by decide +kernel)
          obtain ⟨t1, t2⟩ := tw_append (tw_all digitB (c :: r)) ((hy.any digitB hdn).trans (tw_head digitB _))
          have hl2 := hl
          simp only [Bool.and_eq_true, Bool.not_eq_true'] at hl2
          have t3 := (hy.all letterB (fun _ h => h)).trans hl2.2
          have t4 := hl2.1
          rw [e] at t1 t2 t4 ⊢
          rw [List.cons_append] at t1 t2 ⊢
          simp only [oneL, if_neg hc, if_pos hd]
          rw [t1, t2, t3, t4]
          rfl
        · cases h
      · rename_i hd
        split at h
        · rename_i hq
          split at h
          · rename_i t rest' ht
            injection h with h; injection h with h1 h2; subst h1 h2
            obtain ⟨h0, b, hb, hy⟩ := textL_fits _ _ _ ht
            refine ⟨c :: b, by rw [hb]; rfl, by simp, fun h => absurd (show (3 : Nat) = 1 from h) (by decide), fun y hf => ?_⟩
            rw [if_neg (fun h => nomatch h)]
            have := hy y ((hf.any (· == 39) (let_not _ (by decide +kernel))).trans h0)
            simp only [List.cons_append, oneL, if_neg hc, if_neg hd, if_pos hq, this]
          · cases h
        · rename_i hq
          split at h
          · rename_i s hs
            injection h with h; injection h with h1 h2; subst h1 h2
            obtain ⟨h1, t, h2⟩ := signIn_spec hs
            have hne : s ≠ [] := by intro e; subst e; revert h1; decide
            refine ⟨s, by rw [← h2]; simp, hne, fun h => absurd (show (4 : Nat) = 1 from h) (by decide), fun y hf => ?_⟩
            rw [if_neg (fun h => nomatch h)]
            have hst : (c :: r).drop s.length = t := by rw [← h2]; simp
            rw [hst] at hf
            rw [← h2] at hs
            have : signIn signs (s ++ y) = some s := by
              rcases hf with hf | ⟨_, hf⟩
              · exact sign_fits hs (.inl hf)
              · cases y with
                | nil => simp at hf
                | cons d y => exact sign_let h1 (by simpa using hf) y
            cases s with
            | nil => exact absurd rfl hne
            | cons d s =>
              have hdc : d = c := by simpa using congrArg List.head? h2
              subst hdc
              rw [List.cons_append] at this ⊢
              simp only [oneL, if_neg hc, if_neg hd, if_neg hq, this]
              simp
          · cases h
/-- a piece, its word great -/
def greatL (w : Wd) (p : List UInt8) : List UInt8 := if w.k = 1 then (p.take w.s.length).map upB ++ p.drop w.s.length else p
def caseL : List Wd → List (List UInt8) → List UInt8
  | w :: ws, p :: ps => greatL w p ++ caseL ws ps
  | _, _ => []
theorem great_len (w : Wd) (p : List UInt8) : (greatL w p).length = p.length := by
  unfold greatL
  split
  · simp; omega
  · rfl
theorem case_len : ∀ (ws : List Wd) (ps : List (List UInt8)), ws.length = ps.length → (caseL ws ps).length = ps.flatten.length
  | [], [], _ => rfl
  | w :: ws, p :: ps, h => by
    simp only [caseL, List.length_append, great_len, List.flatten_cons, case_len ws ps (by simpa using h)]
theorem skip_head {c : UInt8} {r y : List UInt8} (h : skipL false (c :: r) = c :: r) (hy : y.head? = some 45 → r.head? = some 45) : skipL false (c :: y) = c :: y := by
  simp only [skipL] at h ⊢
  split at h
  · exfalso
    have := skipL_le false r
    rw [h] at this
    simp at this
    omega
  · rename_i hb
    rw [if_neg hb]
    split at h
    · exfalso
      have := skipL_le true r
      rw [h] at this
      simp at this
      omega
    · rename_i hc
      rw [if_neg]
      rintro ⟨h1, h2⟩
      exact hc ⟨h1, hy h2⟩
theorem HdG.minus {a b : List UInt8} (h : HdG a b) (e : b.head? = some 45) : a.head? = some 45 := by
  rcases h with h | ⟨_, h⟩
  · rw [← h]; exact e
  · rw [e] at h
    exact absurd h (by decide)
theorem Pcs.inv {x : Wd × Nat} {ws : List (Wd × Nat)} {pss : List (List UInt8)} (h : Pcs (x :: ws) pss) : ∃ p ps, pss = p :: ps ∧ p ≠ [] ∧ x.2 = (p ++ ps.flatten).length ∧ Pcs ws ps := by
  cases h with
  | cons h hp k => exact ⟨_, _, rfl, hp, rfl, k⟩
theorem Run.first {r q : List UInt8} {x : Wd × Nat} {ws : List (Wd × Nat)} (h : Run r (x :: ws) q) : x.2 = (skipL false r).length := by
  cases h with
  | step hs _ _ => rw [hs]
theorem run_case {r q : List UInt8} {ws : List (Wd × Nat)} (h : Run r ws q) : q = [] → ∀ {ps : List (List UInt8)}, Pcs ws ps → skipL false r = ps.flatten → Run (caseL (ws.map (·.1)) ps) ws [] ∧ HdG ps.flatten (caseL (ws.map (·.1)) ps) := by
  induction h with
  | stop r =>
    intro e ps hp hs
    cases hp
    exact ⟨stop_end rfl, .inl rfl⟩
  | @step r r1 rest q c w ws hs ho h ih =>
    intro e pss hp hsk
    obtain ⟨p, ps, rfl, hpne, hpl, hpk⟩ := hp.inv
    rw [hs, List.flatten_cons] at hsk
    obtain ⟨b0, hb0, _⟩ := oneL_split ho
    have hrest : skipL false rest = ps.flatten := by
      cases ws with
      | nil =>
        cases hpk
        cases h
        exact e
      | cons x ws =>
        have h1 := h.first
        obtain ⟨p2, ps2, rfl, _, h2, _⟩ := hpk.inv
        have s1 : skipL false rest <:+ c :: r1 := (skip_suffix false rest).trans ⟨b0, hb0.symm⟩
        have s2 : (p2 :: ps2).flatten <:+ c :: r1 := ⟨p, hsk.symm⟩
        have hl : (skipL false rest).length = ((p2 :: ps2).flatten).length := by rw [← h1, h2, List.flatten_cons]
        exact (List.suffix_of_suffix_length_le s1 s2 (Nat.le_of_eq hl)).eq_of_length hl
    obtain ⟨ih1, ih2⟩ := ih e hpk hrest
    obtain ⟨b, hb, hbne, hbk, hone⟩ := one_great ho
    generalize hY : caseL (ws.map (·.1)) ps = Y at *
    have hYl : Y.length = ps.flatten.length := by rw [← hY]; exact case_len _ _ (by simpa using hpk.len.symm)
    obtain ⟨g, hg, hrun⟩ : ∃ g, rest = g ++ ps.flatten ∧ Run (g ++ Y) ws [] := by
      cases ps with
      | nil =>
        cases hpk
        refine ⟨rest, by simp, ?_⟩
        have : Y = [] := by rw [← hY]; rfl
        rw [this, List.append_nil]
        exact stop_end hrest
      | cons p2 ps2 =>
        have hp2 : p2 ≠ [] := hpk.ne p2 (by simp)
        cases p2 with
        | nil => exact absurd rfl hp2
        | cons c2 r2 =>
          rw [List.flatten_cons, List.cons_append] at hrest ⊢
          obtain ⟨g, hg, hx⟩ := skip_split false rest _ _ hrest
          exact ⟨g, hg, ih1.start (hx Y)⟩
    have hpg : p = b ++ g := by
      have : p ++ ps.flatten = (b ++ g) ++ ps.flatten := by rw [← hsk, hb, hg, List.append_assoc]
      exact List.append_cancel_right this
    have hhd : HdG rest (g ++ Y) := by
      cases g with
      | nil => rw [hg]; exact ih2
      | cons d g => rw [hg]; exact .inl rfl
    have hgr : greatL w p = (if w.k = 1 then b.map upB else b) ++ g := by
      unfold greatL
      by_cases hk : w.k = 1
      · rw [if_pos hk, if_pos hk, (hbk hk).1, hpg, List.take_left, List.drop_left]
      · rw [if_neg hk, if_neg hk, hpg]
    have hce : caseL (((w, (c :: r1).length) :: ws).map (·.1)) (p :: ps) = (if w.k = 1 then b.map upB else b) ++ (g ++ Y) := by
      show greatL w p ++ caseL (ws.map (·.1)) ps = _
      rw [hgr, hY, List.append_assoc]
    rw [hce]
    have ho2 := hone _ hhd
    have hst := skip_stop hs
    cases b with
    | nil => exact absurd rfl hbne
    | cons d b =>
      have hdc : d = c := by have := congrArg List.head? hb; simpa using this.symm
      subst hdc
      have hr1 : r1 = b ++ rest := by simpa using hb
      have hlen : ((if w.k = 1 then (d :: b).map upB else d :: b) ++ (g ++ Y)).length = (d :: r1).length := by
        rw [hr1, hg]
        split <;> simp [hYl]
      rw [List.flatten_cons, ← hsk]
      by_cases hk : w.k = 1
      · rw [if_pos hk] at ho2 hlen ⊢
        have hld : letterB d = true := by simpa using (hbk hk).2
        have hlu : letterB (upB d) = true := by rw [(up_facts d).1, hld]
        refine ⟨?_, .inr ⟨by simpa using hld, by simpa using hlu⟩⟩
        rw [List.map_cons, List.cons_append] at ho2 hlen ⊢
        have := Run.step (letter_start hlu) ho2 hrun
        rw [hlen] at this
        exact this
      · rw [if_neg hk] at ho2 hlen ⊢
        refine ⟨?_, .inl rfl⟩
        rw [List.cons_append] at ho2 hlen ⊢
        have hsk2 : skipL false (d :: (b ++ (g ++ Y))) = d :: (b ++ (g ++ Y)) := by
          refine skip_head hst ?_
          rw [hr1]
          cases b with
          | nil => exact hhd.minus
          | cons x b => exact fun h => h
        have := Run.step hsk2 ho2 hrun
        rw [hlen] at this
        exact this
/-- in a text its words great: the same words, the text's beginning left out -/
theorem case_lex {s : List UInt8} {l : List Tok} {pre : List UInt8} {ws : List (Wd × Nat)} {ps : List (List UInt8)} (h : Cut s l pre ws ps) (hk : skipL false s = ps.flatten) (hr : Run s ws []) (hs : s.length ≤ 4096) :
    ∃ m, lexL (caseL (ws.map (·.1)) ps) = .ok m ∧ m.map (·.w) = l.map (·.w) ∧ ∀ (i : Nat) (a b : Tok), l[i]? = some a → m[i]? = some b → a.p = b.p + (s.length - ps.flatten.length) := by
  have h1 := (run_case hr rfl h.pcs hk).1
  have hcl := case_len (ws.map (·.1)) ps (by simpa using h.pcs.len.symm)
  have e3 := congrArg List.length h.txt
  simp only [List.length_append] at e3
  refine ⟨_, lex_run (by omega) h1 rfl, ?_, fun i a b ha hb => ?_⟩
  · rw [h.tok]
    simp [List.map_map, tokAt, endTok, Function.comp_def]
  · rw [h.tok] at ha
    rw [hcl] at hb
    have hle := h1.le
    rw [hcl] at hle
    by_cases hi : i < ws.length
    · rw [List.getElem?_append_left (by simpa using hi), List.getElem?_map, List.getElem?_eq_getElem hi] at ha hb
      simp only [Option.map_some, Option.some.injEq] at ha hb
      subst ha hb
      have := hle _ (List.getElem_mem hi)
      show s.length - _ = ps.flatten.length - _ + _
      omega
    · rw [List.getElem?_append_right (by simpa using hi)] at ha hb
      simp only [List.length_map] at ha hb
      have hz : i - ws.length = 0 := by
        apply Classical.byContradiction
        intro hz
        rw [List.getElem?_eq_none (by simp; omega)] at ha
        cases ha
      rw [hz] at ha hb
      injection ha with ha
      injection hb with hb
      subst ha hb
      show s.length = ps.flatten.length + _
      omega
theorem cut_run {s : List UInt8} {l : List Tok} (h : lexL s = .ok l) : ∃ pre ws ps, Cut s l pre ws ps ∧ skipL false s = ps.flatten ∧ Run s ws [] := by
  obtain ⟨_, ws, hr, hl⟩ := run_of_ok h
  obtain ⟨ps, h1, h2⟩ := pcs_of hr rfl
  cases hs : skipL false s with
  | nil =>
    rw [hs] at h1
    exact ⟨s, ws, ps, ⟨by rw [← h1]; simp, hl, h2⟩, h1, hr⟩
  | cons c r =>
    obtain ⟨pre, hp, _⟩ := skip_split false s c r hs
    refine ⟨pre, ws, ps, ⟨by rw [hp, ← hs, h1], hl, h2⟩, ?_, hr⟩
    rw [← hs]; exact h1
theorem case_snoc : ∀ {ws : List Wd} {ps : List (List UInt8)}, ws.length = ps.length → ∀ (w : Wd) (p : List UInt8), caseL (ws ++ [w]) (ps ++ [p]) = caseL ws ps ++ greatL w p
  | [], [], _, w, p => by simp [caseL]
  | x :: ws, q :: ps, h, w, p => by
    simp only [List.cons_append, caseL, case_snoc (ws := ws) (ps := ps) (by simpa using h), List.append_assoc]
/-- a piece whose first k bytes, but those of its word alone, are great -/
def grK (n k : Nat) (p : List UInt8) : List UInt8 := (p.take (min k n)).map upB ++ p.drop (min k n)
theorem grK_zero (n : Nat) (p : List UInt8) : grK n 0 p = p := by simp [grK]
theorem grK_len (n k : Nat) (p : List UInt8) : (grK n k p).length = p.length := by simp [grK]; omega
theorem grK_at (n k : Nat) (p : List UInt8) : (grK n k p)[k]? = p[k]? := by
  unfold grK
  by_cases h : k < p.length
  · rw [List.getElem?_append_right (by simp; omega), List.getElem?_drop]
    congr 1
    simp
    omega
  · rw [List.getElem?_eq_none (by simp; omega), List.getElem?_eq_none (by omega)]
theorem grK_past {n k : Nat} (h : n ≤ k) (p : List UInt8) : grK n (k + 1) p = grK n k p := by
  unfold grK
  rw [show min (k + 1) n = min k n by omega]
theorem grK_next {n k : Nat} (h : k < n) {p : List UInt8} {c : UInt8} (hc : p[k]? = some c) : grK n (k + 1) p = (grK n k p).take k ++ upB c :: (grK n k p).drop (k + 1) := by
  obtain ⟨hk, he⟩ := List.getElem?_eq_some_iff.1 hc
  unfold grK
  rw [show min (k + 1) n = k + 1 by omega, show min k n = k by omega]
  have l1 : ((p.take k).map upB).length = k := by simp; omega
  rw [List.take_left' l1, List.take_add_one, hc]
  have : ((p.take k).map upB ++ p.drop k).drop (k + 1) = p.drop (k + 1) := by
    rw [List.drop_append, List.drop_eq_nil_of_le (by omega), l1, List.nil_append, List.drop_drop]
    congr 1
    omega
  rw [this]
  simp
theorem grK_same {n k : Nat} {p : List UInt8} {c : UInt8} (hc : p[k]? = some c) (hu : upB c = c) : grK n (k + 1) p = grK n k p := by
  by_cases h : k < n
  · rw [grK_next h hc, hu]
    have h2 := grK_at n k p
    rw [hc] at h2
    obtain ⟨hk, he⟩ := List.getElem?_eq_some_iff.1 h2
    conv => rhs; rw [← List.take_append_drop k (grK n k p), List.drop_eq_getElem_cons hk, he]
  · exact grK_past (by omega) p
theorem grK_end {w : Wd} (hw : w.k = 1) (p : List UInt8) : grK w.s.length p.length p = greatL w p := by
  unfold grK greatL
  rw [if_pos hw]
  by_cases h : w.s.length ≤ p.length
  · rw [show min p.length w.s.length = w.s.length by omega]
  · rw [show min p.length w.s.length = p.length by omega, List.take_of_length_le (Nat.le_refl _), List.take_of_length_le (by omega), List.drop_eq_nil_of_le (Nat.le_refl _), List.drop_eq_nil_of_le (by omega)]
theorem great_other {w : Wd} (hw : w.k ≠ 1) (p : List UInt8) : greatL w p = p := by unfold greatL; rw [if_neg hw]
theorem up_small {c : UInt8} (h1 : 97 ≤ c) (h2 : c ≤ 122) : upB c = c - 32 := by unfold upB; rw [if_pos ⟨h1, h2⟩]
theorem up_not {c : UInt8} (h : ¬ (97 ≤ c ∧ c ≤ 122)) : upB c = c := by unfold upB; rw [if_neg h]
end Go.Proofs.YtcneefmaghoejaaGreatDoor
