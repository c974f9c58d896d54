/- AggBounds: what count, sum, average, least and greatest are of whole numbers that are not great. No program in sight. -/
import Derived.Test.YtjpgahfabmgpiaaNulls
namespace Go.Proofs.Ytjpgahfabmgpiaa
set_option linter.unusedVariables false
set_option linter.unusedSimpArgs false

def ints (l : List Int) : List (Val × Val) := l.map fun n => (num n, zeroVal)
def isum : List Int → Int
  | [] => 0
  | n :: l => n + isum l
theorem ints_len (l : List Int) : (ints l).length = l.length := by simp [ints]
theorem ints_ok (l : List Int) (h : ∀ n ∈ l, -1125899906842624 ≤ n ∧ n ≤ 1125899906842624) : ∀ x ∈ ints l, x.1.Ok := by
  intro x hx
  obtain ⟨n, hn, rfl⟩ := List.mem_map.1 hx
  have := h n hn
  unfold Val.Ok num
  dsimp only
  omega
theorem cnt_ints (op : Int) (h : op = 22 ∨ op = 23 ∨ op = 26) : ∀ l, cnt op (ints l) = l.length
  | [] => rfl
  | n :: l => by
    have := cnt_ints op h l
    have h1 : one op (num n, zeroVal) = 1 := by rcases h with rfl | rfl | rfl <;> simp [one, num]
    simp only [ints, List.map_cons, cnt] at this ⊢
    rw [h1, this]; simp; omega
theorem tot_ints (op : Int) (h : op = 23 ∨ op = 26) : ∀ l, tot op (ints l) = isum l
  | [] => rfl
  | n :: l => by
    have := tot_ints op h l
    have h1 : amt op (num n, zeroVal) = n := by rcases h with rfl | rfl <;> simp [amt, num]
    simp only [ints, List.map_cons, tot, isum] at this ⊢
    rw [h1, this]
theorem isum_low (m : Int) : ∀ l : List Int, (∀ n ∈ l, m ≤ n) → m * l.length ≤ isum l
  | [], _ => by simp [isum]
  | n :: l, h => by
    have h1 := isum_low m l fun x hx => h x (List.mem_cons_of_mem _ hx)
    have h2 := h n List.mem_cons_self
    simp only [isum, List.length_cons]
    have e : m * ((l.length + 1 : Nat) : Int) = m * l.length + m := by rw [Int.natCast_add, Int.mul_add]; simp
    omega
theorem isum_high (m : Int) : ∀ l : List Int, (∀ n ∈ l, n ≤ m) → isum l ≤ m * l.length
  | [], _ => by simp [isum]
  | n :: l, h => by
    have h1 := isum_high m l fun x hx => h x (List.mem_cons_of_mem _ hx)
    have h2 := h n List.mem_cons_self
    simp only [isum, List.length_cons]
    have e : m * ((l.length + 1 : Nat) : Int) = m * l.length + m := by rw [Int.natCast_add, Int.mul_add]; simp
    omega
theorem isum_bd (l : List Int) (hl : l.length ≤ 300) (h : ∀ n ∈ l, -1125899906842624 ≤ n ∧ n ≤ 1125899906842624) : -337769972052787200 ≤ isum l ∧ isum l ≤ 337769972052787200 := by
  have h1 := isum_low (-1125899906842624) l fun n hn => (h n hn).1
  have h2 := isum_high 1125899906842624 l fun n hn => (h n hn).2
  omega

theorem narrow_small (s : Int) (h1 : -1152921504606846976 ≤ s) (h2 : s ≤ 1152921504606846976) : sgn (lo (widen s)) = s ∧ isNarrow (widen s) = true := by
  have e : sgn (lo (widen s)) = s := by
    unfold sgn lo widen M
    rw [IntKind.wrap_i64]
    omega
  refine ⟨e, ?_⟩
  unfold isNarrow
  rw [e]
  simp

section
variable (l : List Int) (hl : l.length ≤ 300) (hb : ∀ n ∈ l, -1125899906842624 ≤ n ∧ n ≤ 1125899906842624)
theorem ans_count : AnsIs (fedSt 22 (ints l)) (num l.length) 0 := by
  have r := rep_fed (op := 22) (by omega) (by omega) (ints l)
  unfold AnsIs
  rw [r.kind, r.count, cnt_ints 22 (by omega)]
  simp
include hl hb in
theorem ans_sum (hn : l ≠ []) : AnsIs (fedSt 23 (ints l)) (num (isum l)) 0 := by
  have r := rep_fed (op := 23) (by omega) (by omega) (ints l)
  have hs := isum_bd l hl hb
  have hc : (l.length : Int) ≠ 0 := by have := List.length_pos_iff.2 hn; omega
  obtain ⟨n1, n2⟩ := narrow_small (isum l) (by omega) (by omega)
  unfold AnsIs St.total
  rw [r.kind, r.count, r.sum, cnt_ints 23 (by omega), tot_ints 23 (by omega)]
  unfold widen at n1 n2
  simp [hc, hn, n1, n2]
include hl hb in
theorem ans_avg (hn : l ≠ []) : AnsIs (fedSt 26 (ints l)) (num (isum l / l.length)) 0 := by
  have r := rep_fed (op := 26) (by omega) (by omega) (ints l)
  have hs := isum_bd l hl hb
  have hc : 0 < l.length := List.length_pos_iff.2 hn
  have ho := over_small (isum l) l.length (by omega) (by omega) (by omega) (by omega)
  unfold AnsIs MeanIs
  rw [r.kind, r.count, r.sum, cnt_ints 26 (by omega), tot_ints 26 (by omega)]
  unfold widen at ho
  simp only [show ¬ ((26 : Int) = 21) by decide, show ¬ ((26 : Int) = 22) by decide, show ¬ ((26 : Int) = 23) by decide, if_false, if_true]
  exact ⟨.inr ⟨by omega, _, ho, rfl⟩, trivial⟩
theorem keys_ints (op : Int) (h : op = 24 ∨ op = 25) (y : Val × Val) : keys op (ints l) y ↔ ∃ n ∈ l, y = (num n, zeroVal) := by
  have hk : ∀ n, key op (num n, zeroVal) = some (num n, zeroVal) := fun n => by simp [key, h, num]
  unfold keys ints
  constructor
  · rintro ⟨x, hx, e⟩
    obtain ⟨n, hn, rfl⟩ := List.mem_map.1 hx
    rw [hk] at e
    exact ⟨n, hn, by injection e with e; exact e.symm⟩
  · rintro ⟨n, hn, rfl⟩
    exact ⟨_, List.mem_map.2 ⟨n, hn, rfl⟩, hk n⟩
theorem vcmp_num (a b : Int) : vcmp (num a) (num b) = cmpI a b := by
  have h1 : cmpI 2 2 = 0 := by decide
  have h2 : cmpS ByteArray.empty ByteArray.empty = 0 := by have := cmpS_good.anti ByteArray.empty ByteArray.empty; omega
  unfold vcmp or3 num
  dsimp only
  rw [h1, h2, if_pos rfl]
  split <;> simp_all
theorem vcmp_zeroVal : vcmp zeroVal zeroVal = 0 := by have := vcmp_good.anti zeroVal zeroVal; omega
theorem cmpI_ge {a b : Int} (h : 0 ≤ cmpI a b) : b ≤ a := by unfold cmpI at h; split at h <;> omega
theorem cmpI_le {a b : Int} (h : cmpI a b ≤ 0) : a ≤ b := by unfold cmpI at h; split at h <;> (try split at h) <;> omega
theorem ans_min (hn : l ≠ []) : ∃ m ∈ l, AnsIs (fedSt 24 (ints l)) (num m) 0 ∧ ∀ n ∈ l, m ≤ n ∧ 0 ≤ vcmp (num n) (num m) := by
  have r := rep_fed (op := 24) (by omega) (by omega) (ints l)
  rcases r.best with ⟨_, _, _, h⟩ | ⟨_, h1, h2⟩
  · obtain ⟨n, l', rfl⟩ := List.exists_cons_of_ne_nil hn
    exact absurd ((keys_ints _ 24 (by omega) _).2 ⟨n, List.mem_cons_self, rfl⟩) (h _)
  · obtain ⟨m, hm, e⟩ := (keys_ints _ 24 (by omega) _).1 h1
    simp only [Prod.mk.injEq] at e
    refine ⟨m, hm, ?_, fun n hn => ?_⟩
    · unfold AnsIs
      rw [r.kind, e.1]
      simp
    · have := h2 _ ((keys_ints _ 24 (by omega) _).2 ⟨n, hn, rfl⟩)
      rw [e.1, e.2] at this
      simp only [pc, vcmp_zeroVal, or2, if_true] at this
      rw [if_neg (by omega)] at this
      refine ⟨?_, this⟩
      rw [vcmp_num] at this
      exact cmpI_ge this
theorem ans_max (hn : l ≠ []) : ∃ m ∈ l, AnsIs (fedSt 25 (ints l)) (num m) 0 ∧ ∀ n ∈ l, n ≤ m ∧ vcmp (num n) (num m) ≤ 0 := by
  have r := rep_fed (op := 25) (by omega) (by omega) (ints l)
  rcases r.best with ⟨_, _, _, h⟩ | ⟨_, h1, h2⟩
  · obtain ⟨n, l', rfl⟩ := List.exists_cons_of_ne_nil hn
    exact absurd ((keys_ints _ 25 (by omega) _).2 ⟨n, List.mem_cons_self, rfl⟩) (h _)
  · obtain ⟨m, hm, e⟩ := (keys_ints _ 25 (by omega) _).1 h1
    simp only [Prod.mk.injEq] at e
    refine ⟨m, hm, ?_, fun n hn => ?_⟩
    · unfold AnsIs
      rw [r.kind, e.1]
      simp
    · have := h2 _ ((keys_ints _ 25 (by omega) _).2 ⟨n, hn, rfl⟩)
      rw [e.1, e.2] at this
      simp only [pc, vcmp_zeroVal, or2, if_true, true_or] at this
      have h3 : vcmp (num n) (num m) ≤ 0 := by omega
      refine ⟨?_, h3⟩
      rw [vcmp_num] at h3
      exact cmpI_le h3
theorem ans_none : AnsIs (fedSt 22 (ints [])) (num 0) 0 ∧ AnsIs (fedSt 23 (ints [])) zeroVal 0 ∧ AnsIs (fedSt 26 (ints [])) zeroVal 0 ∧ AnsIs (fedSt 24 (ints [])) zeroVal 0 ∧ AnsIs (fedSt 25 (ints [])) zeroVal 0 := by
  refine ⟨?_, ?_, ?_, ?_, ?_⟩ <;> simp [AnsIs, MeanIs, St.total, fedSt, ints, St.feeds, stNew]
theorem avg_bd (hn : l ≠ []) {m m' : Int} (h1 : ∀ n ∈ l, m ≤ n) (h2 : ∀ n ∈ l, n ≤ m') : m ≤ isum l / l.length ∧ isum l / l.length ≤ m' ∧ 0 ≤ isum l - isum l / l.length * l.length ∧ isum l - isum l / l.length * l.length < l.length := by
  have hc : (0 : Int) < l.length := by have := List.length_pos_iff.2 hn; omega
  have a := isum_low m l h1
  have b := isum_high m' l h2
  refine ⟨Int.le_ediv_of_mul_le hc a, ?_, ?_, ?_⟩
  · exact Int.ediv_le_of_le_mul hc b
  · have := Int.emod_nonneg (isum l) (show (l.length : Int) ≠ 0 by omega)
    have e := Int.emod_def (isum l) l.length
    rw [Int.mul_comm] at e
    omega
  · have := Int.emod_lt_of_pos (isum l) hc
    have e := Int.emod_def (isum l) l.length
    rw [Int.mul_comm] at e
    omega
end
end Go.Proofs.Ytjpgahfabmgpiaa
