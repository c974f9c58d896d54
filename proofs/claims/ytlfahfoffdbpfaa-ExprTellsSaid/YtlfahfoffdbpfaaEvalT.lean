/- expr.Eval of any tree. -/
import Derived.Test.YtlfahfoffdbpfaaEval1
import Derived.Test.YtlfahfoffdbpfaaEval2
import Derived.Test.YtlfahfoffdbpfaaEvalC
namespace Go.Proofs.Ytlfahfoffdbpfaa
open Go.ChangeShapes Go.WideShapes Go.ChangeAt Go.RowKit
set_option linter.unusedVariables false
set_option linter.unusedSimpArgs false

theorem numIf_zero {n : Int} {c : Bool} (h : (numIf n c).2 ≠ 0) : (numIf n c).1 = zeroVal := by
  cases c
  · rfl
  · exact absurd rfl h
theorem do_zero (k : Nat) (wd : Int) (l : List Val) (h : (doT k wd l).2 ≠ 0) : (doT k wd l).1 = zeroVal := by
  unfold doT at *
  split at h
  case h_6 a b =>
    unfold divZ at *
    by_cases h0 : b.n = 0
    · rw [if_pos h0]
    · rw [if_neg h0] at h ⊢; exact numIf_zero h
  case h_7 a b =>
    unfold modZ at *
    by_cases h0 : b.n = 0
    · rw [if_pos h0]
    · rw [if_neg h0] at h ⊢; exact numIf_zero h
  all_goals first
    | exact absurd rfl h
    | exact numIf_zero h
theorem node_zero (op wd : Int) (l : List Val) (h : (nodeT op wd l).2 ≠ 0) : (nodeT op wd l).1 = zeroVal := by
  unfold nodeT at *
  split at h
  · rename_i h1; rw [if_pos h1]
  · rename_i h1
    rw [if_neg h1]
    split at h
    · exact absurd rfl h
    · rename_i h2; rw [if_neg h2]; exact do_zero _ _ _ h
theorem evalN_zero (cols : List Col) (row : List Val) (x : Ex) (rs : List (Val × Int)) (h : (evalN cols row x rs).2 ≠ 0) : (evalN cols row x rs).1 = zeroVal := by
  unfold evalN at *
  split at h
  · rename_i h1; rw [if_pos h1]
  · rename_i h1
    rw [if_neg h1]
    split at h
    · rename_i h2; rw [if_pos h2]
    · rename_i h2
      rw [if_neg h2]
      split at h
      · exact absurd rfl h
      · rename_i h3
        rw [if_neg h3]
        split at h
        · rename_i h4
          rw [if_pos h4]
          unfold colR at *
          split at h
          · rename_i h5
            rw [if_pos h5]
            split at h
            · exact absurd rfl h
            · rename_i h6; rw [if_neg h6]
          · rename_i h5; rw [if_neg h5]
        · rename_i h4; rw [if_neg h4]; exact node_zero _ _ _ h

mutual
theorem Tr.eval_zero (cols : List Col) (row : List Val) : ∀ t : Tr, (t.eval cols row).2 ≠ 0 → (t.eval cols row).1 = zeroVal
  | .mk op v name width args, h => by
    unfold Tr.eval at *
    exact evalN_zero _ _ _ _ h
theorem Tr.evals_zero (cols : List Col) (row : List Val) : ∀ ts : List Tr, ∀ z ∈ Tr.evals cols row ts, z.2 ≠ 0 → z.1 = zeroVal
  | [], z, hz, _ => by simp [Tr.evals] at hz
  | t :: ts, z, hz, h => by
    unfold Tr.evals at hz
    rcases List.mem_cons.1 hz with rfl | hz
    · exact Tr.eval_zero cols row t h
    · exact Tr.evals_zero cols row ts z hz h
end

section
variable (cols : List Col) (CA : Option Addr) (cc : Nat) (row : List Val) (RA : Option Addr) (rc : Nat)
theorem eval_all (op : Int) (xv : Val) (name : ByteArray) (width : Int) (A : Option Addr) (c : Nat) (args : List (Ex × (Val × Int))) (hok : ∀ a ∈ args, a.2.1.Ok) (hz : ∀ a ∈ args, a.2.2 ≠ 0 → a.2.1 = zeroVal) (w : World) (hl : args.length ≤ 1599289640356) (hA : RE w w.heap.size A (args.map (·.1)))
    (hC : RC w w.heap.size CA cols) (hcl : cols.length ≤ 140737488355328) (hV : RV w w.heap.size RA row) (hrl : row.length ≤ 140737488355328)
    (hE : ∀ a ∈ args, EvalIs w (.slice CA cols.length cc) (.slice RA row.length rc) a.1 a.2.1 a.2.2) :
    Calls Try.prog 14 #[.agg #[.int .u8 op, .int .u8 xv.k, .int .i64 xv.n, .string xv.s, .string name, .int .i64 width, .slice A args.length c], .slice CA cols.length cc, .slice RA row.length rc] w fun en w' => en = .returned (ansV (evalN cols row ⟨op, xv, name, width, none, args.length, 0⟩ (args.map (·.2))).1 (evalN cols row ⟨op, xv, name, width, none, args.length, 0⟩ (args.map (·.2))).2) ∧ Below w.heap.size w w' := by
  rcases first_split args with h0 | ⟨pre, bad, post, rfl, hpre, hbad⟩
  · have hf : firstE (args.map (·.2)) = 0 := firstE_zero fun a ha => by obtain ⟨z, hz, rfl⟩ := List.mem_map.1 ha; exact h0 z hz
    by_cases h2 : op = 2 ∧ args = []
    · obtain ⟨rfl, rfl⟩ := h2
      have k := eval_col xv name width A c cols CA cc row RA rc w hC hcl hV hrl
      have e : evalN cols row ⟨2, xv, name, width, none, 0, 0⟩ [] = colR cols row name := by
        unfold evalN
        rw [if_neg (by simp [firstE]), if_neg (by simp [formE]), if_neg (by simp), if_pos (by rfl)]
      show Calls _ _ _ _ fun en w' => en = .returned (ansV (evalN cols row ⟨2, xv, name, width, none, 0, 0⟩ []).1 (evalN cols row ⟨2, xv, name, width, none, 0, 0⟩ []).2) ∧ _
      rw [e]
      exact k
    · have k := eval_op2 op xv name width A c (.slice CA cols.length cc) (.slice RA row.length rc) (args.map fun a => (a.1, a.2.1)) (by
          by_cases ho : op = 2
          · right; intro h; exact h2 ⟨ho, by simpa using h⟩
          · exact .inl ho) (fun a ha => by obtain ⟨z, hz, rfl⟩ := List.mem_map.1 ha; exact hok z hz) w (by simpa using hl) (by simpa [Function.comp_def] using hA) (fun a ha => by
          obtain ⟨z, hz, rfl⟩ := List.mem_map.1 ha
          have := hE z hz
          rw [h0 z hz] at this
          exact this)
      rw [List.length_map] at k
      have hm : (args.map fun a => (a.1, a.2.1)).map (·.2) = (args.map (·.2)).map (·.1) := by simp [Function.comp_def]
      rw [hm] at k
      have e : evalN cols row ⟨op, xv, name, width, none, args.length, 0⟩ (args.map (·.2)) = evalR ⟨op, xv, name, width, A, args.length, c⟩ ((args.map (·.2)).map (·.1)) := by
        have hfe' : formE ⟨op, xv, name, width, A, args.length, c⟩ = formE ⟨op, xv, name, width, none, args.length, 0⟩ := rfl
        unfold evalN evalR
        rw [if_neg (by rw [hf]; simp), hfe']
        dsimp only
        by_cases hfe : formE ⟨op, xv, name, width, none, args.length, 0⟩ = 0
        · simp only [hfe, ne_eq, not_true_eq_false, ↓reduceIte]
          by_cases h1 : op = 1
          · simp only [h1, ↓reduceIte]
          · simp only [h1, ↓reduceIte]
            rw [if_neg]
            intro ho
            exact h2 ⟨ho, formE_two (l := args) hfe ho⟩
        · simp only [hfe, ne_eq, not_false_eq_true, ↓reduceIte]
      rw [e]
      exact k
  · have hbz : bad.2.1 = zeroVal := hz bad (by simp) hbad
    have hbE := hE bad (by simp)
    rw [hbz] at hbE
    have k := eval_err op xv name width A (pre ++ bad :: post).length c (.slice CA cols.length cc) (.slice RA row.length rc) (pre.map fun a => (a.1, a.2.1)) bad.1 bad.2.2 (post.map (·.1)) (by simp; omega) w (by simp at hl ⊢; omega) hl (by simpa [Function.comp_def] using hA) (fun a ha => by
      obtain ⟨z, hz', rfl⟩ := List.mem_map.1 ha
      have := hE z (by simp [hz'])
      rw [hpre z hz'] at this
      exact this) hbE hbad
    have hf : firstE ((pre ++ bad :: post).map (·.2)) = bad.2.2 := by
      rw [List.map_append, List.map_cons]
      exact firstE_at (fun a ha => by obtain ⟨z, hz', rfl⟩ := List.mem_map.1 ha; exact hpre z hz') hbad
    have e : evalN cols row ⟨op, xv, name, width, none, (pre ++ bad :: post).length, 0⟩ ((pre ++ bad :: post).map (·.2)) = (zeroVal, bad.2.2) := by
      unfold evalN
      rw [if_pos (by rw [hf]; exact hbad), hf]
    rw [e]
    exact k

mutual
theorem Tr.eval_is (hcl : cols.length ≤ 140737488355328) (hrl : row.length ≤ 140737488355328) (hro : ∀ v ∈ row, v.Ok) : ∀ (t : Tr) (y : Ex) (w : World), t.ok → t.at_ w (Old w) y → RC w w.heap.size CA cols → RV w w.heap.size RA row → EvalIs w (.slice CA cols.length cc) (.slice RA row.length rc) y (t.eval cols row).1 (t.eval cols row).2
  | .mk op v name width args, y, w, hok, hat, hC, hV => by
    intro W hb
    have hat2 := hat.later hb
    unfold Tr.at_ at hat2
    obtain ⟨h1, h2, h3, h4, h5, ys, h6, h7⟩ := hat2
    unfold Tr.ok at hok
    obtain ⟨l, hl1, hl2, hl3⟩ := Tr.evals_is hcl hrl hro args ys W hok.2.2.2.2.2 h7 (hC.later hb) (hV.later hb)
    obtain ⟨yop, yv, yname, ywidth, yA, yn, yc⟩ := y
    dsimp only at h1 h2 h3 h4 h5 h6
    subst h1 h2 h3 h4 h5
    have hlen : l.length = args.length := by
      have : (l.map (·.2)).length = (Tr.evals cols row args).length := by rw [hl2]
      rw [List.length_map, Tr.evals_length] at this
      exact this
    have hzz : ∀ a ∈ l, a.2.1.Ok ∧ (a.2.2 ≠ 0 → a.2.1 = zeroVal) := fun a ha => by
      have hm : a.2 ∈ Tr.evals cols row args := by rw [← hl2]; exact List.mem_map.2 ⟨a, ha, rfl⟩
      exact ⟨Tr.evals_ok cols row hro args hok.2.2.2.2.2 _ hm, Tr.evals_zero cols row args _ hm⟩
    have k := eval_all cols CA cc row RA rc yop yv yname ywidth yA yc l (fun a ha => (hzz a ha).1) (fun a ha => (hzz a ha).2) W (by rw [hlen]; exact hok.2.1) (by rw [hl1]; exact h6.old) (hC.later hb) hcl (hV.later hb) hrl hl3
    rw [hl2, hlen] at k
    unfold Tr.eval
    exact k
theorem Tr.evals_is (hcl : cols.length ≤ 140737488355328) (hrl : row.length ≤ 140737488355328) (hro : ∀ v ∈ row, v.Ok) : ∀ (ts : List Tr) (ys : List Ex) (w : World), Tr.oks ts → Tr.all_ w (Old w) ts ys → RC w w.heap.size CA cols → RV w w.heap.size RA row → ∃ l : List (Ex × (Val × Int)), l.map (·.1) = ys ∧ l.map (·.2) = Tr.evals cols row ts ∧ ∀ a ∈ l, EvalIs w (.slice CA cols.length cc) (.slice RA row.length rc) a.1 a.2.1 a.2.2
  | [], ys, w, _, hat, _, _ => by
    unfold Tr.all_ at hat
    subst hat
    exact ⟨[], rfl, by simp [Tr.evals], by simp⟩
  | t :: ts, ys, w, hok, hat, hC, hV => by
    unfold Tr.all_ at hat
    unfold Tr.oks at hok
    obtain ⟨y, ys', rfl, h2, h3⟩ := hat
    obtain ⟨l, hl1, hl2, hl3⟩ := Tr.evals_is hcl hrl hro ts ys' w hok.2 h3 hC hV
    refine ⟨(y, t.eval cols row) :: l, by simp [hl1], by simp [hl2, Tr.evals], fun a ha => ?_⟩
    rcases List.mem_cons.1 ha with rfl | ha
    · exact Tr.eval_is hcl hrl hro t y w hok.1 h2 hC hV
    · exact hl3 a ha
end
end
end Go.Proofs.Ytlfahfoffdbpfaa
