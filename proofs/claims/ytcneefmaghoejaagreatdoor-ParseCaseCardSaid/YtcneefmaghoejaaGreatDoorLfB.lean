/- A ; at the end changes nothing; great letters change nothing: the laws on texts. -/
import Derived.Test.YtcneefmaghoejaaGreatDoorLeB
import Derived.Test.YtcneefmaghoejaaGreatDoorB48
namespace Go.Proofs.YtcneefmaghoejaaGreatDoor
open Go.ChangeShapes Go.WideShapes Go.ChangeAt Go.RowKit Go.Shelf
set_option linter.unusedVariables false
set_option linter.unusedSimpArgs false
theorem low_semi {c : UInt8} (h : letterB c = true) : lowB c ≠ 59 := by
  have key : ∀ n : Fin 256, letterB (UInt8.ofNat n.val) = true → lowB (UInt8.ofNat n.val) ≠ 59 := by decide +kernel
  have := key ⟨c.toNat, c.toNat_lt⟩
  simp only [UInt8.ofNat_toNat] at this
  exact this h
theorem one_semi {r rest : List UInt8} {w : Wd} (h : oneL r = .ok (w, rest)) : w.k ≠ 0 ∧ (w.k = 1 → w.s ≠ [59]) := by
  match r with
  | [] => simp [oneL] at h
  | c :: r =>
    simp only [oneL] at h
    split at h
    · rename_i hc
      have hw : wordB c = true := by simp [wordB, hc]
      split at h
      · injection h with h; injection h with h1 h2; subst h1 h2
        refine ⟨by simp, fun _ => ?_⟩
        simp only [List.takeWhile_cons, hw, if_true, List.map_cons]
        intro e
        injection e with e _
        exact absurd e (low_semi hc)
      · cases h
    · split at h
      · split at h
        · injection h with h; injection h with h1 h2; subst h1 h2
          exact ⟨by simp, fun e => absurd (show (2 : Nat) = 1 from e) (by decide)⟩
        · cases h
      · split at h
        · split at h
          · injection h with h; injection h with h1 h2; subst h1 h2
            exact ⟨by simp, fun e => absurd (show (3 : Nat) = 1 from e) (by decide)⟩
          · cases h
        · split at h
          · injection h with h; injection h with h1 h2; subst h1 h2
            exact ⟨by simp, fun e => absurd (show (4 : Nat) = 1 from e) (by decide)⟩
          · cases h
theorem run_semi {r q : List UInt8} {ws : List (Wd × Nat)} (h : Run r ws q) : ∀ x ∈ ws, x.1.k ≠ 0 ∧ (x.1.k = 1 → x.1.s ≠ [59]) := by
  induction h with
  | stop r => intro x hx; simp at hx
  | step hs ho _ ih =>
    intro x hx
    rcases List.mem_cons.1 hx with rfl | hx
    · exact one_semi ho
    · exact ih x hx
theorem semi_law {s : List UInt8} {l : List Tok} (hl : lexL s = .ok l) (hs : s.length ≤ 1000) (hx : parX s = 0) (hlast : ∀ t, l[l.length - 2]? = some t → ¬ (t.w.s = [59] ∧ t.w.k = 4)) : parX (s ++ [10, 59]) = 0 ∧ parS (s ++ [10, 59]) = parS s := by
  obtain ⟨d, hp, hd⟩ := par_ok hx
  obtain ⟨⟨r, hw⟩, k1, k2⟩ := parse_inv hp hl
  have hm := semi_ok hl (by omega)
  obtain ⟨_, ws, hrun, hl0⟩ := run_of_ok hl
  have hwl : l.map (·.w) = ws.map (·.1) ++ [⟨0, [], 0⟩] := by rw [hl0, List.map_append, List.map_map]; rfl
  have hdl : l.dropLast = ws.map (tokAt s.length) := by rw [hl0, List.dropLast_concat]
  rw [hwl] at hw
  have hk := run_semi hrun
  obtain ⟨r2, h2⟩ := whole_semi (l := ws.map (·.1)) (e := ⟨0, [], 0⟩) (e2 := ⟨0, [], 0⟩) (s := ⟨4, [59], 0⟩) (fun t ht => by
      obtain ⟨x, hx, rfl⟩ := List.mem_map.1 ht
      exact (hk x hx).1) rfl rfl ⟨rfl, rfl⟩ (fun t ht => by
      rcases List.eq_nil_or_concat ws with rfl | ⟨a, x, rfl⟩
      · simp at ht
      · rw [List.concat_eq_append] at *
        have htx : t = x.1 := by simpa using ht.symm
        subst htx
        have h3 := hlast (tokAt s.length x) (by rw [hl0]; simp)
        have h4 := hk x (by simp)
        cases hb : isW s_semi x.1 with
        | false => rfl
        | true =>
          exfalso
          simp only [isW, Bool.and_eq_true, Bool.or_eq_true, beq_iff_eq] at hb
          obtain ⟨h5 | h5, h6⟩ := hb
          · exact h4.2 h5 h6
          · exact h3 ⟨h6, h5⟩) hw
  have hmw : (l.dropLast ++ [⟨⟨4, [59], 0⟩, s.length + 1⟩, endTok (s.length + 2)]).map (·.w) = ws.map (·.1) ++ [⟨4, [59], 0⟩, ⟨0, [], 0⟩] := by
    rw [hdl]; simp [tokAt, endTok, Function.comp_def]
  have hp2 := parse_back hm (by rw [hmw]; exact h2) k1 k2
  unfold parX parS
  rw [hp2, hp]
  exact ⟨rfl, rfl⟩
/-- what is read of a text has words -/
theorem ok_words2 {s : List UInt8} {l : List Tok} (hl : lexL s = .ok l) (hx : parX s = 0) : 1 < l.length := by
  obtain ⟨d, hp, hd⟩ := par_ok hx
  obtain ⟨⟨r, hw⟩, k1, k2⟩ := parse_inv hp hl
  obtain ⟨⟨b, n, hb⟩, _⟩ := lexL_ok hl
  cases b with
  | nil =>
    subst hb
    exact absurd hw (by intro h; cases h)
  | cons x b => subst hb; simp
end Go.Proofs.YtcneefmaghoejaaGreatDoor
