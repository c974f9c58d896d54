/- ExprLiterals, plain: a tree is worth what it is with its columns' values in their places. -/
import Derived.Test.YtlfahfoffdbpfaaPutC
import Derived.Test.YtlfahfoffdbpfaaEvalT
import Derived.Test.YtlfahfoffdbpfaaFits
namespace Go.Proofs.Ytlfahfoffdbpfaa
open Go.ChangeShapes Go.WideShapes Go.ChangeAt Go.RowKit
set_option linter.unusedVariables false
set_option linter.unusedSimpArgs false

theorem fitsL_get : ∀ {cols : List Col} {row : List Val} {k : Nat} {c : Col} {v : Val}, fitsL cols row = true → cols[k]? = some c → row[k]? = some v → fitB c v = true
  | [], _, k, c, v, _, hc, _ => by simp at hc
  | _ :: _, [], k, c, v, _, _, hv => by simp at hv
  | x :: cs, u :: vs, 0, c, v, h, hc, hv => by
    simp at hc hv
    subst hc hv
    have : (fitB x u && fitsL cs vs) = true := h
    exact (Bool.and_eq_true _ _ ▸ this).1
  | x :: cs, u :: vs, k + 1, c, v, h, hc, hv => by
    have : (fitB x u && fitsL cs vs) = true := h
    exact fitsL_get (Bool.and_eq_true _ _ ▸ this).2 (by simpa using hc) (by simpa using hv)
theorem fits_len {cols : List Col} {row : List Val} (h : fitsB cols row = true) : cols.length = row.length := by
  unfold fitsB at h
  rw [Bool.and_eq_true] at h
  simpa using h.1
theorem fits_at {cols : List Col} {row : List Val} (h : fitsB cols row = true) {k : Nat} (hk : k < row.length) : good row[k] = true ∧ (row[k].k = 0 ∨ ∃ c, cols[k]? = some c ∧ row[k].k = c.t) := by
  have hl := fits_len h
  unfold fitsB at h
  rw [Bool.and_eq_true] at h
  have hc : cols[k]? = some (cols[k]'(by omega)) := List.getElem?_eq_getElem _
  have := fitsL_get h.2 hc (List.getElem?_eq_getElem hk)
  unfold fitB at this
  rw [Bool.and_eq_true] at this
  refine ⟨this.1, ?_⟩
  by_cases h0 : row[k].k = 0
  · exact .inl h0
  · right
    refine ⟨_, hc, ?_⟩
    have h2 := this.2
    simp at h2
    rcases h2 with h2 | h2
    · exact absurd h2 h0
    · exact h2
theorem lit_eval (v : Val) (hg : good v = true) : (Tr.mk 1 v ByteArray.empty 0 []).eval [] [] = (v, 0) := by
  unfold Tr.eval
  have f : formE ⟨1, v, ByteArray.empty, 0, none, 0, 0⟩ = 0 := by unfold formE; rw [if_pos (by simp [hg])]
  unfold evalN
  show (if firstE (Tr.evals [] [] []) ≠ 0 then _ else _) = _
  rw [if_neg (by simp [Tr.evals, firstE])]
  show (if formE ⟨1, v, ByteArray.empty, 0, none, 0, 0⟩ ≠ 0 then _ else _) = _
  rw [if_neg (by rw [f]; simp), if_pos rfl]
section
variable (cols : List Col) (row : List Val)
mutual
theorem Tr.put_eval (hf : fitsB cols row = true) : ∀ t : Tr, (t.eval cols row).2 ≠ 41 → (t.eval cols row).2 ≠ 21 → (t.put cols row).eval [] [] = t.eval cols row
  | .mk op v name width args, h41, h21 => by
    by_cases hc : op = 2 ∧ args.length = 0 ∧ placeK name cols < cols.length ∧ placeK name cols < row.length
    · have e1 : (Tr.mk op v name width args).put cols row = .mk 1 (row.getD (placeK name cols) zeroVal) ByteArray.empty 0 [] := by unfold Tr.put; rw [if_pos hc]
      have e2 : row.getD (placeK name cols) zeroVal = row[placeK name cols]'hc.2.2.2 := by rw [List.getD_eq_getElem?_getD, List.getElem?_eq_getElem hc.2.2.2]; rfl
      have hg : good (row.getD (placeK name cols) zeroVal) = true := by rw [e2]; exact (fits_at hf hc.2.2.2).1
      rw [e1, lit_eval _ hg]
      obtain ⟨rfl, ha, hp, hr⟩ := hc
      have : args = [] := List.eq_nil_of_length_eq_zero ha
      subst this
      unfold Tr.eval evalN
      show _ = (if firstE (Tr.evals cols row []) ≠ 0 then _ else _)
      rw [if_neg (by simp [Tr.evals, firstE])]
      show _ = (if formE ⟨2, v, name, width, none, 0, 0⟩ ≠ 0 then _ else _)
      rw [if_neg (by simp [formE]), if_neg (by simp), if_pos rfl]
      unfold colR
      rw [if_pos ⟨hp, hr⟩, if_pos hg]
    · have e1 : (Tr.mk op v name width args).put cols row = .mk op v name width (Tr.puts cols row args) := by unfold Tr.put; rw [if_neg hc]
      rw [e1]
      unfold Tr.eval at h41 h21 ⊢
      rw [Tr.puts_length]
      have key := Tr.puts_eval hf args
      by_cases h0 : firstE (Tr.evals cols row args) = 0
      · have k2 := (key (by rw [h0]; decide) (by rw [h0]; decide)).2 h0
        rw [k2]
        unfold evalN at h41 h21 ⊢
        simp only [h0, ne_eq, not_true_eq_false, ↓reduceIte] at h41 h21 ⊢
        by_cases hfe : formE ⟨op, v, name, width, none, args.length, 0⟩ = 0
        · simp only [hfe, ne_eq, not_true_eq_false, ↓reduceIte] at h41 h21 ⊢
          by_cases h1 : op = 1
          · simp only [h1, ↓reduceIte]
          · simp only [h1, ↓reduceIte] at h41 h21 ⊢
            by_cases h2 : op = 2
            · exfalso
              simp only [h2, ↓reduceIte] at h41
              apply h41
              have ha := formE_two (l := args) hfe h2
              unfold colR
              rw [if_neg (fun h => hc ⟨h2, by rw [ha]; rfl, h⟩)]
            · simp only [h2, ↓reduceIte]
        · simp only [hfe, ne_eq, not_false_eq_true, ↓reduceIte]
      · have hE : evalN cols row ⟨op, v, name, width, none, args.length, 0⟩ (Tr.evals cols row args) = (zeroVal, firstE (Tr.evals cols row args)) := by
          unfold evalN
          rw [if_pos h0]
        rw [hE] at h41 h21 ⊢
        have k1 := (key h41 h21).1
        unfold evalN
        rw [k1, if_pos h0]
theorem Tr.puts_eval (hf : fitsB cols row = true) : ∀ ts : List Tr, firstE (Tr.evals cols row ts) ≠ 41 → firstE (Tr.evals cols row ts) ≠ 21 → firstE (Tr.evals [] [] (Tr.puts cols row ts)) = firstE (Tr.evals cols row ts) ∧ (firstE (Tr.evals cols row ts) = 0 → Tr.evals [] [] (Tr.puts cols row ts) = Tr.evals cols row ts)
  | [], _, _ => by simp [Tr.puts, Tr.evals]
  | t :: ts, h41, h21 => by
    unfold Tr.evals firstE at h41 h21
    unfold Tr.puts Tr.evals
    by_cases h0 : (t.eval cols row).2 = 0
    · rw [if_neg (by simp [h0])] at h41 h21
      have k1 := Tr.put_eval hf t (by rw [h0]; decide) (by rw [h0]; decide)
      have k2 := Tr.puts_eval hf ts h41 h21
      rw [k1]
      unfold firstE
      rw [if_neg (by simp [h0]), if_neg (by simp [h0])]
      exact ⟨k2.1, fun h => by rw [k2.2 h]⟩
    · rw [if_pos h0] at h41 h21
      have k1 := Tr.put_eval hf t h41 h21
      rw [k1]
      unfold firstE
      rw [if_pos h0, if_pos h0]
      exact ⟨rfl, fun h => absurd h h0⟩
end
end
mutual
theorem Tr.put_ok (cols : List Col) (row : List Val) (hr : ∀ v ∈ row, v.Ok ∧ 0 ≤ v.k ∧ v.k ≤ 255) : ∀ t : Tr, t.ok → (t.put cols row).ok
  | .mk op v name width args, h => by
    unfold Tr.put
    split
    · rename_i hc
      rw [List.getD_eq_getElem?_getD, List.getElem?_eq_getElem hc.2.2.2]
      have := hr _ (List.getElem_mem hc.2.2.2)
      unfold Tr.ok
      exact ⟨this.1, by simp, by omega, by omega, this.2, by unfold Tr.oks; trivial⟩
    · unfold Tr.ok at h ⊢
      exact ⟨h.1, by rw [Tr.puts_length]; exact h.2.1, h.2.2.1, h.2.2.2.1, h.2.2.2.2.1, Tr.puts_ok cols row hr args h.2.2.2.2.2⟩
theorem Tr.puts_ok (cols : List Col) (row : List Val) (hr : ∀ v ∈ row, v.Ok ∧ 0 ≤ v.k ∧ v.k ≤ 255) : ∀ ts : List Tr, Tr.oks ts → Tr.oks (Tr.puts cols row ts)
  | [], _ => by unfold Tr.puts Tr.oks; trivial
  | t :: ts, h => by
    unfold Tr.oks at h
    unfold Tr.puts Tr.oks
    exact ⟨Tr.put_ok cols row hr t h.1, Tr.puts_ok cols row hr ts h.2⟩
end
end Go.Proofs.Ytlfahfoffdbpfaa
