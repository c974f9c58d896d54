/- Plain: unlike good values have unlike words, unlike rows unlike lines. -/
import Derived.Test.YtekedkbjnedhgaaDoorOrdP
namespace Go.Proofs.YtekedkbjnedhgaaDoor
set_option linter.unusedVariables false
set_option linter.unusedSimpArgs false

def decVal (l : List UInt8) : Nat := l.foldl (fun r b => r * 10 + (b.toNat - 48)) 0
theorem decVal_snoc (l : List UInt8) (b : UInt8) : decVal (l ++ [b]) = decVal l * 10 + (b.toNat - 48) := by simp [decVal, List.foldl_append]
theorem digit_nat {d : Nat} (h : d < 10) : (UInt8.ofNat (48 + d)).toNat = 48 + d := by simp [UInt8.toNat_ofNat']; omega
theorem dec_val : ∀ u : Nat, decVal (Lib.decDigits u) = u := by
  intro u
  induction u using Nat.strongRecOn with
  | ind u ih =>
    by_cases h : u < 10
    · rw [Lib.decDigits_one h]
      simp only [decVal, List.foldl_cons, List.foldl_nil, digit_nat h]
      omega
    · rw [Lib.decDigits, dif_neg h, decVal_snoc, ih (u / 10) (by omega), digit_nat (Nat.mod_lt _ (by omega))]
      omega
theorem dec_bytes : ∀ (u : Nat) (b : UInt8), b ∈ Lib.decDigits u → 48 ≤ b.toNat ∧ b.toNat ≤ 57 := by
  intro u
  induction u using Nat.strongRecOn with
  | ind u ih =>
    intro b hb
    by_cases h : u < 10
    · rw [Lib.decDigits_one h, List.mem_singleton] at hb
      subst hb
      rw [digit_nat h]
      omega
    · rw [Lib.decDigits, dif_neg h, List.mem_append, List.mem_singleton] at hb
      rcases hb with hb | rfl
      · exact ih (u / 10) (by omega) b hb
      · rw [digit_nat (Nat.mod_lt _ (by omega))]
        have := Nat.mod_lt u (show 10 > 0 by omega)
        omega
theorem dec_ne (u : Nat) : Lib.decDigits u ≠ [] := by
  intro e
  have := Lib.decDigits_length u
  rw [e] at this
  have h2 : 1 ≤ Lib.nDigits u := by unfold Lib.nDigits; split <;> omega
  simp at this
  omega
theorem itoa_inj {m n : Int} (h : Lib.itoa m = Lib.itoa n) : m = n := by
  unfold Lib.itoa at h
  have no : ∀ a b : Nat, 45 :: Lib.decDigits a ≠ Lib.decDigits b := fun a b e => by
    have := dec_bytes b 45 (by rw [← e]; simp)
    simp at this
  split at h
  · split at h
    · injection h with _ h
      have := congrArg decVal h
      rw [dec_val, dec_val] at this
      omega
    · exact absurd h (no _ _)
  · split at h
    · exact absurd h.symm (no _ _)
    · have := congrArg decVal h
      rw [dec_val, dec_val] at this
      omega
theorem itoa_bytes {n : Int} {b : UInt8} (h : b ∈ Lib.itoa n) : b.toNat = 45 ∨ (48 ≤ b.toNat ∧ b.toNat ≤ 57) := by
  unfold Lib.itoa at h
  split at h
  · rcases List.mem_cons.1 h with rfl | h
    · exact .inl rfl
    · exact .inr (dec_bytes _ _ h)
  · exact .inr (dec_bytes _ _ h)
theorem itoa_ne (n : Int) : Lib.itoa n ≠ [] := by
  unfold Lib.itoa
  split
  · simp
  · exact dec_ne _

theorem empty_s {s : ByteArray} (h : emptyS s = true) : s = ByteArray.empty := by
  unfold emptyS at h
  rw [beq_iff_eq, ByteArray.toList_eq] at h
  exact Go.WideShapes.bytes_inj (h.trans rfl)
/-- a good value, by kinds -/
theorem good_cases {v : Val} (h : good v = true) : v = ⟨0, 0, ByteArray.empty⟩ ∨ (∃ b : Bool, v = ⟨1, if b then 1 else 0, ByteArray.empty⟩) ∨ (∃ n, v = ⟨2, n, ByteArray.empty⟩) ∨ ∃ s, v = ⟨3, 0, s⟩ := by
  obtain ⟨k, n, s⟩ := v
  unfold good at h
  dsimp only at h
  split at h
  · rename_i hk
    simp only [Bool.and_eq_true, beq_iff_eq] at h
    exact .inl (by rw [hk, h.1, empty_s h.2])
  · split at h
    · rename_i hk
      simp only [Bool.and_eq_true, Bool.or_eq_true, beq_iff_eq] at h
      refine .inr (.inl ?_)
      rcases h.2 with h2 | h2
      · exact ⟨false, by rw [hk, h2, empty_s h.1]; rfl⟩
      · exact ⟨true, by rw [hk, h2, empty_s h.1]; rfl⟩
    · split at h
      · rename_i hk
        exact .inr (.inr (.inl ⟨n, by rw [hk, empty_s h]⟩))
      · split at h
        · rename_i hk
          exact .inr (.inr (.inr ⟨s, by rw [hk, beq_iff_eq.1 h]⟩))
        · cases h
theorem good_null : good ⟨0, 0, ByteArray.empty⟩ = true := by decide +kernel
theorem good_bool' (b : Bool) : good ⟨1, if b then 1 else 0, ByteArray.empty⟩ = true := by cases b <;> decide +kernel
theorem good_num (n : Int) : good ⟨2, n, ByteArray.empty⟩ = true := by simp only [good]; rw [if_neg (by decide), if_neg (by decide), if_pos trivial]; decide +kernel
theorem good_text (s : ByteArray) : good ⟨3, 0, s⟩ = true := by simp [good]
theorem word_null : wordL ⟨0, 0, ByteArray.empty⟩ = [78, 85, 76, 76] := by decide +kernel
theorem word_bool (b : Bool) : wordL ⟨1, if b then 1 else 0, ByteArray.empty⟩ = if b then [84, 82, 85, 69] else [70, 65, 76, 83, 69] := by cases b <;> decide +kernel
theorem word_num (n : Int) : wordL ⟨2, n, ByteArray.empty⟩ = Lib.itoa n := by unfold wordL; rw [if_pos (good_num n)]; simp
theorem word_text (s : ByteArray) : wordL ⟨3, 0, s⟩ = 39 :: (esc s.data.toList ++ [39]) := by unfold wordL; rw [if_pos (good_text s)]; simp

theorem esc_cut : ∀ (s t r q : List UInt8), r.head? ≠ some 39 → q.head? ≠ some 39 → esc s ++ 39 :: r = esc t ++ 39 :: q → s = t ∧ r = q
  | [], [], r, q, _, _, h => by simp [esc] at h; exact ⟨rfl, h⟩
  | [], b :: t, r, q, hr, hq, h => by
    simp only [esc, List.nil_append] at h
    split at h
    · simp only [List.cons_append] at h
      injection h with _ h
      exact absurd (by rw [h]; rfl) hr
    · rename_i hb
      simp only [List.cons_append] at h
      injection h with h _
      exact absurd h.symm hb
  | b :: s, [], r, q, hr, hq, h => by
    simp only [esc, List.nil_append] at h
    split at h
    · simp only [List.cons_append] at h
      injection h with _ h
      exact absurd (by rw [← h]; rfl) hq
    · rename_i hb
      simp only [List.cons_append] at h
      injection h with h _
      exact absurd h hb
  | b :: s, c :: t, r, q, hr, hq, h => by
    simp only [esc] at h
    split at h
    · rename_i hb
      split at h
      · rename_i hc
        simp only [List.cons_append] at h
        injection h with _ h
        injection h with _ h
        obtain ⟨h1, h2⟩ := esc_cut s t r q hr hq h
        exact ⟨by rw [hb, hc, h1], h2⟩
      · rename_i hc
        simp only [List.cons_append] at h
        injection h with h _
        exact absurd h.symm hc
    · rename_i hb
      split at h
      · simp only [List.cons_append] at h
        injection h with h _
        exact absurd h hb
      · simp only [List.cons_append] at h
        injection h with h1 h
        obtain ⟨h2, h3⟩ := esc_cut s t r q hr hq h
        exact ⟨by rw [h1, h2], h3⟩

/-- nothing, or a comma, goes on -/
def Ends (r : List UInt8) : Prop := r = [] ∨ ∃ q, r = 44 :: q
theorem plain_cut : ∀ (w v r q : List UInt8), (∀ b ∈ w, b ≠ 44) → (∀ b ∈ v, b ≠ 44) → Ends r → Ends q → w ++ r = v ++ q → w = v ∧ r = q
  | [], [], r, q, _, _, _, _, h => ⟨rfl, h⟩
  | [], b :: v, r, q, _, hv, hr, _, h => by
    have hb := hv b (by simp)
    rcases hr with rfl | ⟨r, rfl⟩
    · simp at h
    · simp only [List.nil_append, List.cons_append] at h
      injection h with h _
      exact absurd h.symm hb
  | b :: w, [], r, q, hw, _, _, hq, h => by
    have hb := hw b (by simp)
    rcases hq with rfl | ⟨q, rfl⟩
    · simp at h
    · simp only [List.nil_append, List.cons_append] at h
      injection h with h _
      exact absurd h hb
  | b :: w, c :: v, r, q, hw, hv, hr, hq, h => by
    simp only [List.cons_append] at h
    injection h with h1 h
    obtain ⟨h2, h3⟩ := plain_cut w v r q (fun x hx => hw x (by simp [hx])) (fun x hx => hv x (by simp [hx])) hr hq h
    exact ⟨by rw [h1, h2], h3⟩
theorem Ends.no {r : List UInt8} (h : Ends r) : r.head? ≠ some 39 := by
  rcases h with rfl | ⟨q, rfl⟩ <;> simp

/-- a word that is no text's: no comma, no quote -/
def Bare (w : List UInt8) : Prop := w ≠ [] ∧ ∀ b ∈ w, b ≠ 44 ∧ b ≠ 39
theorem bare_null : Bare [78, 85, 76, 76] := ⟨by simp, by decide⟩
theorem bare_bool (b : Bool) : Bare (if b then [84, 82, 85, 69] else [70, 65, 76, 83, 69]) := by cases b <;> exact ⟨by simp, by decide⟩
theorem bare_num (n : Int) : Bare (Lib.itoa n) := ⟨itoa_ne n, fun b hb => by
  have := itoa_bytes hb
  refine ⟨fun e => ?_, fun e => ?_⟩ <;> subst e <;> simp at this⟩
theorem bare_first {w : List UInt8} (h : Bare w) (x r : List UInt8) : w ++ r ≠ 39 :: x := by
  obtain ⟨h0, h1⟩ := h
  cases w with
  | nil => exact absurd rfl h0
  | cons b w =>
    intro e
    simp only [List.cons_append] at e
    injection e with e _
    exact (h1 b (by simp)).2 e
theorem num_first (n : Int) (b : UInt8) (x : List UInt8) (h : Lib.itoa n = b :: x) : b.toNat ≤ 57 := by
  have := itoa_bytes (n := n) (b := b) (by rw [h]; simp)
  omega
theorem word_cut {a b : Val} (ha : good a = true) (hb : good b = true) {r q : List UInt8} (hr : Ends r) (hq : Ends q) (h : wordL a ++ r = wordL b ++ q) : a = b ∧ r = q := by
  have bb : ∀ {w v : List UInt8}, Bare w → Bare v → w ++ r = v ++ q → w = v ∧ r = q := fun hw hv e => plain_cut _ _ _ _ (fun x hx => (hw.2 x hx).1) (fun x hx => (hv.2 x hx).1) hr hq e
  rcases good_cases ha with rfl | ⟨c, rfl⟩ | ⟨n, rfl⟩ | ⟨s, rfl⟩ <;> rcases good_cases hb with rfl | ⟨d, rfl⟩ | ⟨m, rfl⟩ | ⟨t, rfl⟩
  · rw [word_null] at h
    exact ⟨rfl, (bb bare_null bare_null h).2⟩
  · rw [word_null, word_bool] at h
    have := (bb bare_null (bare_bool d) h).1
    cases d <;> simp at this
  · rw [word_null, word_num] at h
    have := num_first _ _ _ (bb bare_null (bare_num m) h).1.symm
    simp at this
  · rw [word_null, word_text] at h
    exact absurd h (bare_first bare_null _ _)
  · rw [word_null, word_bool] at h
    have := (bb (bare_bool c) bare_null h).1
    cases c <;> simp at this
  · rw [word_bool, word_bool] at h
    have := bb (bare_bool c) (bare_bool d) h
    refine ⟨?_, this.2⟩
    have := this.1
    cases c <;> cases d <;> simp at this <;> rfl
  · rw [word_bool, word_num] at h
    have h1 := (bb (bare_bool c) (bare_num m) h).1
    cases c
    · have := num_first _ _ _ h1.symm; simp at this
    · have := num_first _ _ _ h1.symm; simp at this
  · rw [word_bool, word_text] at h
    exact absurd h (bare_first (bare_bool c) _ _)
  · rw [word_null, word_num] at h
    have := num_first _ _ _ (bb (bare_num n) bare_null h).1
    simp at this
  · rw [word_bool, word_num] at h
    have h1 := (bb (bare_num n) (bare_bool d) h).1
    cases d
    · have := num_first _ _ _ h1; simp at this
    · have := num_first _ _ _ h1; simp at this
  · rw [word_num, word_num] at h
    have := bb (bare_num n) (bare_num m) h
    exact ⟨by rw [itoa_inj this.1], this.2⟩
  · rw [word_num, word_text] at h
    exact absurd h (bare_first (bare_num n) _ _)
  · rw [word_null, word_text] at h
    exact absurd h.symm (bare_first bare_null _ _)
  · rw [word_bool, word_text] at h
    exact absurd h.symm (bare_first (bare_bool d) _ _)
  · rw [word_num, word_text] at h
    exact absurd h.symm (bare_first (bare_num m) _ _)
  · rw [word_text, word_text] at h
    simp only [List.cons_append, List.append_assoc, List.singleton_append] at h
    injection h with _ h
    obtain ⟨h1, h2⟩ := esc_cut _ _ _ _ hr.no hq.no h
    exact ⟨by rw [Go.WideShapes.bytes_inj h1], h2⟩
theorem word_inj {a b : Val} (ha : good a = true) (hb : good b = true) : wordL a = wordL b ↔ a = b :=
  ⟨fun h => (word_cut ha hb (r := []) (q := []) (.inl rfl) (.inl rfl) (by simpa using h)).1, fun h => by rw [h]⟩
theorem word_mark (a : Val) : wordL a = [63] ↔ good a = false := by
  cases hg : good a
  · simp [wordL, hg]
  · refine ⟨fun h => ?_, fun h => by cases h⟩
    rcases good_cases hg with rfl | ⟨c, rfl⟩ | ⟨n, rfl⟩ | ⟨s, rfl⟩
    · rw [word_null] at h; simp at h
    · rw [word_bool] at h; cases c <;> simp at h
    · rw [word_num] at h
      have := num_first _ _ _ h
      simp at this
    · rw [word_text] at h; simp at h

def tailL : List Val → List UInt8
  | [] => []
  | v :: l => 44 :: 32 :: (wordL v ++ tailL l)
theorem line_cons : ∀ (v : Val) (l : List Val), lineL (v :: l) = wordL v ++ tailL l
  | v, [] => by simp [lineL, Lib.join, List.intercalate, tailL]
  | v, u :: l => by
    have ih := line_cons u l
    unfold lineL at ih ⊢
    simp only [List.map_cons] at ih ⊢
    have e : Lib.join (wordL v :: wordL u :: l.map wordL) [44, 32] = wordL v ++ ([44, 32] ++ Lib.join (wordL u :: l.map wordL) [44, 32]) := by simp [Lib.join, List.intercalate]
    rw [e, ih]
    rfl
theorem tail_ends (l : List Val) : Ends (tailL l) := by
  cases l with
  | nil => exact .inl rfl
  | cons v l => exact .inr ⟨_, rfl⟩
theorem tail_inj : ∀ x y : List Val, (∀ v ∈ x, good v = true) → (∀ v ∈ y, good v = true) → tailL x = tailL y → x = y
  | [], [], _, _, _ => rfl
  | [], v :: y, _, _, h => by simp [tailL] at h
  | v :: x, [], _, _, h => by simp [tailL] at h
  | v :: x, u :: y, hx, hy, h => by
    simp only [tailL, List.cons.injEq, true_and] at h
    obtain ⟨h1, h2⟩ := word_cut (hx v (by simp)) (hy u (by simp)) (tail_ends x) (tail_ends y) h
    rw [h1, tail_inj x y (fun z hz => hx z (by simp [hz])) (fun z hz => hy z (by simp [hz])) h2]
theorem line_inj {x y : List Val} (hx : ∀ v ∈ x, good v = true) (hy : ∀ v ∈ y, good v = true) (h0 : x ≠ []) (h1 : y ≠ []) : lineL x = lineL y ↔ x = y := by
  refine ⟨fun h => ?_, fun h => by rw [h]⟩
  cases x with
  | nil => exact absurd rfl h0
  | cons v x =>
    cases y with
    | nil => exact absurd rfl h1
    | cons u y =>
      rw [line_cons, line_cons] at h
      obtain ⟨h2, h3⟩ := word_cut (hx v (by simp)) (hy u (by simp)) (tail_ends x) (tail_ends y) h
      rw [h2, tail_inj x y (fun z hz => hx z (by simp [hz])) (fun z hz => hy z (by simp [hz])) h3]
end Go.Proofs.YtekedkbjnedhgaaDoor
