/- token: Same of two rows that hold the same words. -/
import Derived.Test.YtcmkfjepikncnaaDoorRefH
namespace Go.Proofs.YtcmkfjepikncnaaDoor
open Go.ChangeShapes Go.WideShapes Go.ChangeAt Go.RowKit Go.Shelf
set_option linter.unusedVariables false
set_option linter.unusedSimpArgs false

theorem tok_len (t : Tok) : (tokC t).length = 4 := rfl
/-- the cells of a word -/
theorem TokS.at_ {w : World} {base : Nat} {v : Value} {l : List Tok} (h : TokS w base v l) {k : Nat} {t : Tok} (hk : l[k]? = some t) :
    ∃ g c, v = .slice (some ⟨g, 0, none⟩) l.length c ∧ g < w.heap.size ∧ w.cell? ⟨g, k * 4, none⟩ = some (.int .u8 t.w.k) ∧ w.cell? ⟨g, k * 4 + 1, none⟩ = some (.string ⟨t.w.s.toArray⟩) ∧ w.cell? ⟨g, k * 4 + 2, none⟩ = some (.int .i64 t.w.n) ∧ w.cell? ⟨g, k * 4 + 3, none⟩ = some (.int .i64 t.p) := by
  obtain ⟨g, c, hv, _, hlt, hc⟩ := OwnF.cell tok_len h hk
  exact ⟨g, c, hv, hlt, hc 0 _ rfl, hc 1 _ rfl, hc 2 _ rfl, hc 3 _ rfl⟩
/-- .. all words' at once -/
theorem TokS.cells {w : World} {base : Nat} {A : Option Addr} {n c : Nat} {l : List Tok} (h : TokS w base (.slice A n c) l) (hne : l ≠ []) :
    ∃ g, A = some ⟨g, 0, none⟩ ∧ base ≤ g ∧ g < w.heap.size ∧ ∀ k t, l[k]? = some t → w.cell? ⟨g, k * 4, none⟩ = some (.int .u8 t.w.k) ∧ w.cell? ⟨g, k * 4 + 1, none⟩ = some (.string ⟨t.w.s.toArray⟩) ∧ w.cell? ⟨g, k * 4 + 2, none⟩ = some (.int .i64 t.w.n) ∧ w.cell? ⟨g, k * 4 + 3, none⟩ = some (.int .i64 t.p) := by
  match l, hne with
  | t0 :: l, _ =>
    obtain ⟨g, c0, hv, hb, hlt, _⟩ := OwnF.cell tok_len h (k := 0) (x := t0) rfl
    injection hv with hA _ _
    refine ⟨g, hA, hb, hlt, fun k t hk => ?_⟩
    obtain ⟨g', c', hv', _, a⟩ := h.at_ hk
    injection hv' with hA' _ _
    rw [hA] at hA'
    injection hA' with hA'
    injection hA' with hg _ _
    subst hg
    exact a
set_option maxHeartbeats 4000000 in
set_option maxRecDepth 100000 in
theorem same_any (base base' : Nat) (u v : Value) (l : List Tok) (w : World) (hl : l.length ≤ 100000) (hu : TokS w base u l) (hv : TokS w base' v l) :
    Calls Tryd.prog 11 #[u, v] w (namePost true w) := by
  obtain ⟨A, c, rfl⟩ := hu.form
  obtain ⟨A', c', rfl⟩ := hv.form
  have HU := Lib.hid hu
  have HV := Lib.hid hv
  clear hu hv
  generalize hn : l.length = n at *
  have HN := Lib.hid hn
  clear hn
  go_enter Tryd.func11, Tryd.ntmps11
  go_wp2_with fail
  go_loopw [5] (fun x wr => ∃ i k : Nat, i ≤ n ∧ x = .int .i64 i ∧ wr = w.drewN k) (fun x _ => n - (intOf x).toNat)
  case atStart => exact ⟨0, 0, Nat.zero_le _, rfl, rfl⟩
  case round =>
    obtain ⟨i, k, hi, rfl, rfl⟩ := hrel
    by_cases hlt : i < n
    · have hli : l[i]? = some (l[i]'(by rw [HN.out]; exact hlt)) := List.getElem?_eq_getElem _
      generalize l[i]'(by rw [HN.out]; exact hlt) = t at *
      obtain ⟨g, c1, e1, hg, a0, a1, a2, a3⟩ := HU.out.at_ hli
      obtain ⟨g', c2, e2, hg', b0, b1, b2, b3⟩ := HV.out.at_ hli
      injection e1 with e1 e1n e1c
      injection e2 with e2 e2n e2c
      clear e1n e2n e1c e2c
      subst e1 e2
      clear hli
      go_wp2_with fail
      go_quiet (fail)
      go_wp2_with fail
      go_roundw
      case rel => exact ⟨i + 1, k + nq, hlt, by go_num, rfl⟩
      case measure => simp [intOf]; omega
    · go_wp2_with fail
      go_ret
      exact ⟨rfl, drewN_below _ _⟩
end Go.Proofs.YtcmkfjepikncnaaDoor
