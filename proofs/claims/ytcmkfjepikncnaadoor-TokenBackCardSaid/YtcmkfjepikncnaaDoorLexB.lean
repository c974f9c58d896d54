/- A statement's words by places: plain laws that the walks use. -/
import Derived.Test.YtcmkfjepikncnaaDoorLexP
import Derived.Lib.ParseIntB
import Derived.Lib.Case
set_option linter.unusedSimpArgs false
set_option linter.unusedVariables false
namespace Go.Proofs.YtcmkfjepikncnaaDoor

/-- how far bytes go that are so -/
def farN (p : UInt8 → Bool) (l : List UInt8) (k : Nat) : Nat := k + ((l.drop k).takeWhile p).length
theorem farN_le (p : UInt8 → Bool) (l : List UInt8) (k : Nat) (hk : k ≤ l.length) : farN p l k ≤ l.length := by
  have := (List.takeWhile_sublist (p := p) (l := l.drop k)).length_le
  simp only [List.length_drop] at this
  unfold farN; omega
theorem farN_ge (p : UInt8 → Bool) (l : List UInt8) (k : Nat) : k ≤ farN p l k := by unfold farN; omega
theorem byte_at (s : ByteArray) (k : Nat) (hk : k < s.size) : s.data.toList[k]? = some s[k] := by
  rw [List.getElem?_eq_getElem (by simpa using hk)]
  simp [ByteArray.getElem_eq_getElem_data]
theorem drop_at {l : List UInt8} {k : Nat} {c : UInt8} (h : l[k]? = some c) : l.drop k = c :: l.drop (k + 1) := by
  have hk : k < l.length := by
    rcases Nat.lt_or_ge k l.length with h' | h'
    · exact h'
    · rw [List.getElem?_eq_none h'] at h; cases h
  rw [List.drop_eq_getElem_cons hk]
  rw [List.getElem?_eq_getElem hk] at h
  injection h with h
  rw [h]
theorem farN_yes {p : UInt8 → Bool} {l : List UInt8} {k : Nat} {c : UInt8} (h : l[k]? = some c) (hp : p c = true) : farN p l k = farN p l (k + 1) := by
  unfold farN
  rw [drop_at h, List.takeWhile_cons, if_pos hp, List.length_cons]
  omega
theorem farN_no {p : UInt8 → Bool} {l : List UInt8} {k : Nat} {c : UInt8} (h : l[k]? = some c) (hp : p c = false) : farN p l k = k := by
  unfold farN
  rw [drop_at h, List.takeWhile_cons, if_neg (by rw [hp]; decide)]
  rfl
theorem farN_end {p : UInt8 → Bool} {l : List UInt8} {k : Nat} (h : l.length ≤ k) : farN p l k = k := by
  unfold farN
  rw [List.drop_eq_nil_of_le h]
  rfl
theorem drop_tw (p : UInt8 → Bool) : ∀ r : List UInt8, r.drop (r.takeWhile p).length = r.dropWhile p
  | [] => rfl
  | c :: r => by
    rw [List.takeWhile_cons, List.dropWhile_cons]
    split
    · simpa using drop_tw p r
    · rfl
theorem take_tw (p : UInt8 → Bool) (r : List UInt8) : r.take (r.takeWhile p).length = r.takeWhile p := by
  induction r with
  | nil => rfl
  | cons c r ih =>
    rw [List.takeWhile_cons]
    split
    · simpa using ih
    · rfl
theorem drop_far (p : UInt8 → Bool) (l : List UInt8) (k : Nat) : l.drop (farN p l k) = (l.drop k).dropWhile p := by
  unfold farN
  rw [← List.drop_drop, drop_tw]
/-- what lies between -/
theorem between_far (p : UInt8 → Bool) (l : List UInt8) (k : Nat) : (l.drop k).take (farN p l k - k) = (l.drop k).takeWhile p := by
  unfold farN
  rw [Nat.add_sub_cancel_left, take_tw]

/-! ### blanks -/
theorem skip_blank : ∀ r : List UInt8, skipL false r = skipL false (r.dropWhile blankB)
  | [] => rfl
  | c :: r => by
    rw [List.dropWhile_cons]
    split
    · rename_i h
      rw [skipL, if_pos h]
      exact skip_blank r
    · rfl
theorem skip_comment : ∀ r : List UInt8, skipL true r = skipL false (r.dropWhile fun c => !(c == 10))
  | [] => rfl
  | c :: r => by
    rw [List.dropWhile_cons]
    by_cases h : c = 10
    · subst h
      simp only [skipL, beq_self_eq_true, Bool.not_true, Bool.false_eq_true, if_false]
      simp [blankB]
    · have h2 : (!(c == 10)) = true := by simp [h]
      rw [if_pos h2, skipL, if_neg h]
      exact skip_comment r
/-- with -- ahead, and no blank -/
theorem skip_two {r : List UInt8} (h : Lib.hasPrefix r [45, 45] = true) : skipL false r = skipL false (r.dropWhile fun c => !(c == 10)) := by
  rw [← skip_comment]
  match r with
  | [] => simp [Lib.hasPrefix] at h
  | [c] => simp [Lib.hasPrefix, List.isPrefixOf] at h
  | c :: d :: r =>
    simp [Lib.hasPrefix, List.isPrefixOf] at h
    obtain ⟨rfl, rfl⟩ := h
    simp [skipL, blankB]
/-- without -- ahead, behind the blanks -/
theorem skip_done {r : List UInt8} (h : Lib.hasPrefix (r.dropWhile blankB) [45, 45] = false) : skipL false r = r.dropWhile blankB := by
  rw [skip_blank]
  generalize hr : r.dropWhile blankB = q at *
  match q with
  | [] => rfl
  | c :: q =>
    have hb : blankB c = false := by
      have := List.head?_dropWhile_not blankB r
      rw [hr] at this
      simpa using this
    rw [skipL, hb, if_neg (by decide)]
    rw [if_neg]
    rintro ⟨rfl, h2⟩
    cases q with
    | nil => simp at h2
    | cons d q =>
      simp at h2
      subst h2
      simp [Lib.hasPrefix, List.isPrefixOf] at h
theorem skip_suffix : ∀ (b : Bool) (r : List UInt8), skipL b r <:+ r
  | _, [] => by simp [skipL]
  | true, c :: r => by
    simp only [skipL]
    split
    · exact (skip_suffix false r).trans (List.suffix_cons _ _)
    · exact (skip_suffix true r).trans (List.suffix_cons _ _)
  | false, c :: r => by
    simp only [skipL]
    split
    · exact (skip_suffix false r).trans (List.suffix_cons _ _)
    · split
      · exact (skip_suffix true r).trans (List.suffix_cons _ _)
      · exact List.suffix_refl _
/-- what is left, as a place -/
theorem drop_suffix {r l : List UInt8} (h : r <:+ l) : l.drop (l.length - r.length) = r := by
  obtain ⟨p, rfl⟩ := h
  simp

/-! ### a number -/
theorem val_snoc (l : List UInt8) (c : UInt8) : valL (l ++ [c]) = valL l * 10 + (c.toNat - 48) := by simp [valL]
theorem val_mono (l : List UInt8) : ∀ v, v ≤ l.foldl (fun v c => v * 10 + (c.toNat - 48)) v := by
  induction l with
  | nil => intro v; exact Nat.le_refl _
  | cons c l ih =>
    intro v
    have := ih (v * 10 + (c.toNat - 48))
    simp only [List.foldl_cons]
    omega
theorem uint_digits : ∀ (l : List UInt8) (v : Nat), (∀ c ∈ l, digitB c = true) → v ≤ 18446744073709551615 →
    Lib.parseUintM 18446744073709551615 v l = if l.foldl (fun v c => v * 10 + (c.toNat - 48)) v ≤ 18446744073709551615 then .ok (l.foldl (fun v c => v * 10 + (c.toNat - 48)) v) else .range
  | [], v, _, hv => by simp [Lib.parseUintM, hv]
  | c :: l, v, hd, hv => by
    have hc : 48 ≤ c.toNat ∧ c.toNat ≤ 57 := by
      have := hd c List.mem_cons_self
      simpa [digitB, UInt8.le_iff_toNat_le] using this
    have hm := val_mono l (v * 10 + (c.toNat - 48))
    rw [Lib.parseUintM, if_pos hc, List.foldl_cons]
    by_cases h1 : 1844674407370955162 ≤ v
    · rw [if_pos h1, if_neg (by omega)]
    · rw [if_neg h1]
      by_cases h2 : 18446744073709551615 < v * 10 + (c.toNat - 48)
      · rw [if_pos h2, if_neg (by omega)]
      · rw [if_neg h2]
        exact uint_digits l _ (fun c h => hd c (List.mem_cons_of_mem _ h)) (by omega)
theorem int_digits {l : List UInt8} (hne : l ≠ []) (hd : ∀ c ∈ l, digitB c = true) : Lib.parseIntB 64 l = if valL l ≤ 9223372036854775807 then .ok (valL l : Int) else .range := by
  match l with
  | [] => exact absurd rfl hne
  | c :: r =>
    have hc : 48 ≤ c.toNat ∧ c.toNat ≤ 57 := by
      have := hd c List.mem_cons_self
      simpa [digitB, UInt8.le_iff_toNat_le] using this
    have hu := uint_digits (c :: r) 0 hd (by omega)
    change _ = if valL (c :: r) ≤ _ then Lib.NumEnd.ok (valL (c :: r)) else _ at hu
    have e1 : ¬ (c.toNat = 43 ∨ c.toNat = 45) := by omega
    have e2 : ¬ c.toNat = 45 := by omega
    have e3 : ¬ c.toNat = 43 := by omega
    simp only [Lib.parseIntB, e2, e3, or_false, if_false, Lib.parseUintB, if_neg hne]
    rw [show 2 ^ 64 - 1 = 18446744073709551615 from rfl, hu]
    by_cases h1 : valL (c :: r) ≤ 18446744073709551615
    · rw [if_pos h1]
      simp only [show 2 ^ (64 - 1) = 9223372036854775808 from rfl]
      by_cases h2 : valL (c :: r) ≤ 9223372036854775807
      · rw [if_pos h2, if_neg (by omega), if_neg (by simp)]
      · rw [if_neg h2, if_pos (by simp; omega)]
    · rw [if_neg h1, if_neg (by omega)]
theorem head_digits {l : List UInt8} : (Lib.parseIntB 64 l = .range) → l ≠ [] := by
  rintro h rfl
  simp [Lib.parseIntB] at h

/-! ### small letters -/
theorem lower_low (c : UInt8) : Lib.lowerB c = lowB c := rfl
theorem lowerA_low (l : List UInt8) : Lib.toLowerA l = l.map lowB := rfl
theorem word_ascii {c : UInt8} (h : wordB c = true) : c.toNat < 128 := by
  simp [wordB, letterB, digitB, UInt8.le_iff_toNat_le, ← UInt8.toNat_inj] at h
  omega
theorem tw_word {p : UInt8 → Bool} (l : List UInt8) : ∀ c ∈ l.takeWhile p, p c = true := fun c hc => List.all_eq_true.1 (List.all_takeWhile (p := p) (l := l)) c hc
end Go.Proofs.YtcmkfjepikncnaaDoor
