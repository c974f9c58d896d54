/- Slices of values of the call's own. -/
import Derived.Test.YtekedkbjnedhgaaDoorOrdP
import Derived.Test.YtekedkbjnedhgaaDoorApp2
namespace Go.Proofs.YtekedkbjnedhgaaDoor
open Go.ChangeShapes Go.WideShapes Go.ChangeAt Go.RowKit
set_option linter.unusedVariables false
set_option linter.unusedSimpArgs false
set_option maxRecDepth 100000

def valCells (v : Val) : List Value := [.int .u8 v.k, .int .i64 v.n, .string v.s]
theorem val_info : (Tryd.prog.info? 23).map (fun i => (i.zero, i.size, i.bytes)) = some (some (.agg #[.int .u8 0, .int .i64 0, .string ⟨#[]⟩]), 3, 32) := by kernel_rfl
theorem flat_len (l : List Val) : (l.flatMap valCells).length = l.length * 3 := by
  induction l with
  | nil => rfl
  | cons v l ih => simp only [List.flatMap_cons, List.length_append, ih, List.length_cons]; simp [valCells]; omega
theorem flat_get : ∀ (l : List Val) (j : Nat), (l.flatMap valCells)[j]? = (l[j / 3]?).bind fun v => (valCells v)[j % 3]?
  | [], j => by simp
  | v :: l, j => by
    rw [List.flatMap_cons]
    by_cases h : j < 3
    · rw [List.getElem?_append_left (by simpa [valCells] using h), Nat.div_eq_of_lt h, Nat.mod_eq_of_lt h]
      simp
    · have h3 : (valCells v).length = 3 := rfl
      rw [List.getElem?_append_right (by omega), h3, flat_get l (j - 3)]
      have e1 : j / 3 = (j - 3) / 3 + 1 := by omega
      have e2 : j % 3 = (j - 3) % 3 := by omega
      rw [e1, e2, List.getElem?_cons_succ]
theorem flat_at (l : List Val) (i : Nat) (v : Val) (h : l[i]? = some v) (r : Nat) (hr : r < 3) : (l.flatMap valCells)[i * 3 + r]? = (valCells v)[r]? := by
  rw [flat_get, show (i * 3 + r) / 3 = i by omega, show (i * 3 + r) % 3 = r by omega, h]
  rfl
theorem RV.reads {w : World} {B : Nat} {A : Option Addr} {l : List Val} (h : RV w B A l) : Reads w B 3 A l.length (l.flatMap valCells) := by
  refine ⟨flat_len l, fun hn => ?_⟩
  rcases h with h | ⟨b, off, rfl, h2, h3⟩
  · subst h; simp at hn
  · refine ⟨⟨b, off, none⟩, rfl, h2, fun j u hu => ?_⟩
    rw [flat_get] at hu
    cases hv : l[j / 3]? with
    | none => rw [hv] at hu; cases hu
    | some v =>
      rw [hv] at hu
      have hu : (valCells v)[j % 3]? = some u := hu
      obtain ⟨c0, c1, c2⟩ := h3 (j / 3) v hv
      rw [add_none]
      have hj : j = j / 3 * 3 + j % 3 := by omega
      have hlt : j % 3 < 3 := Nat.mod_lt _ (by omega)
      generalize j % 3 = r at *
      rw [hj]
      match r, hlt with
      | 0, _ => simp [valCells] at hu; subst hu; simpa using c0
      | 1, _ => simp [valCells] at hu; subst hu; rw [← Nat.add_assoc]; exact c1
      | 2, _ => simp [valCells] at hu; subst hu; rw [← Nat.add_assoc]; exact c2
theorem rv_own {w : World} {base : Nat} {v : Value} {l : List Val} (h : OwnF valCells 23 3 w base v l) : ∃ A c, v = .slice A l.length c ∧ RV w w.heap.size A l ∧ l.length ≤ c := by
  obtain ⟨A, c, rfl, hr, hc, _⟩ := h.reads
  refine ⟨A, c, rfl, ?_, hc⟩
  rcases Nat.eq_zero_or_pos l.length with h0 | h0
  · exact .inl (List.eq_nil_of_length_eq_zero h0)
  · obtain ⟨ad, rfl, hb, hcell⟩ := hr.2 h0
    rcases h.2 with ⟨h, _⟩ | ⟨g, cap, cur, h, _⟩
    · cases h
    · injection h with h
      injection h with h
      subst h
      refine .inr ⟨g, 0, rfl, hb, fun i x hx => ?_⟩
      have k : ∀ r, r < 3 → ∀ u, (valCells x)[r]? = some u → w.cell? ⟨g, 0 + i * 3 + r, none⟩ = some u := fun r hr u hu => by
        have := hcell (i * 3 + r) u ((flat_at l i x hx r hr).trans hu)
        rwa [add_none, ← Nat.add_assoc] at this
      exact ⟨k 0 (by omega) _ rfl, k 1 (by omega) _ rfl, k 2 (by omega) _ rfl⟩
/-- append([]api.Value(nil), x...) -/
theorem run_clone {w : World} (base : Nat) (ty : TypeId) {A : Option Addr} {l : List Val} (c : Nat) {B : Nat} (h : RV w B A l) (hl : l.length ≤ 1000) (hbase : base ≤ w.heap.size) :
    ∃ v' w', (Builtin.append_ #[29, 29] ty #[.slice none 0 0, .slice A l.length c]).run Tryd.prog w = .ok v' w' ∧ OwnF valCells 23 3 w' base v' l ∧ Below w.heap.size w w' := by
  obtain ⟨i0, hi0, hz0, hz1, hz2⟩ := info_parts val_info
  obtain ⟨v', w', hrun, ho, hg, _⟩ := run_append_any (P := Tryd.prog) w base 29 ty 23 i0 _ 3 32 Tryd.underlying29 hi0 hz0 hz1 hz2 rfl (by omega) (.slice none 0 0) 0 [] ⟨by simp, .inl ⟨rfl, rfl⟩⟩ B A l.length c (l.flatMap valCells) h.reads
    (by intro u hu; obtain ⟨v, _, hv⟩ := List.mem_flatMap.1 hu; simp [valCells] at hv; rcases hv with rfl | rfl | rfl <;> rfl) (by unfold maxLen; omega) (by omega) hbase
  refine ⟨v', w', hrun, ?_, later_grown hg⟩
  unfold OwnF
  simpa using ho
end Go.Proofs.YtekedkbjnedhgaaDoor
