/- expr.Safe of a literal. -/
import Derived.Test.YtlfahfoffdbpfaaForm2
import Derived.Lib.SliceRun
namespace Go.Proofs.Ytlfahfoffdbpfaa
open Go.ChangeShapes Go.WideShapes Go.ChangeAt Go.RowKit
set_option linter.unusedVariables false
set_option linter.unusedSimpArgs false

theorem look_yes0 (w : World) (g : Nat) (es : Array MapEntry) (c : Nat) (hg : w.heap[g]? = some (.map es c)) (k : Int) (i : Nat) (v : Value) (hf : Instr.findNow (.int .u8) (.int .u8 k) es.toList 0 = some (some (i, v))) :
    (Instr.lookup 72 (.map (some g)) (.int .u8 k) false).run Try.prog w = .ok v w := by
  unfold Instr.lookup
  simp only [Sem.run_bind, run_underlying Try.underlying72, Result.andThen_ok, MapKept.run_getObj_map hg, key_u8, Instr.findKey, run_underlying Try.underlying5, hf, Sem.run_pure]
  rfl
theorem look_no0 (w : World) (g : Nat) (es : Array MapEntry) (c : Nat) (hg : w.heap[g]? = some (.map es c)) (k : Int) (hf : Instr.findNow (.int .u8) (.int .u8 k) es.toList 0 = some none) :
    (Instr.lookup 72 (.map (some g)) (.int .u8 k) false).run Try.prog w = .ok (.agg zeroOp) w := by
  unfold Instr.lookup
  simp only [Sem.run_bind, run_underlying Try.underlying72, Result.andThen_ok, MapKept.run_getObj_map hg, key_u8, Instr.findKey, run_underlying Try.underlying5, hf, Sem.run_pure, zero_op]
  rfl
/-- what the operations of Safe's look-up leave -/
def safeV (B gx : Nat) (op : Int) : Nat → World → Value → Prop
  | 0 => fun w v => Found w op v
  | 1 => fun _ v => v = .pointer (some ⟨gx, 0, none⟩)
  | 2 => fun _ v => v = .int .u8 op
  | 3 => fun w v => ∃ o, v = .agg o ∧ OIs w op o
  | 4 => fun w v => ∃ g, v = .pointer (some ⟨g, 0, none⟩) ∧ B ≤ g ∧ ∃ cs, Blk w g 60 cs ∧ cs.size = 6
  | _ => fun _ _ => True
theorem safeV_stays (B gx : Nat) (op : Int) (i : Nat) (w w' : World) (v : Value) (h : safeV B gx op i w v) (hr : FR op B w w') : safeV B gx op i w' v := by
  unfold safeV at *
  split at h
  · exact h.fr hr
  · exact h
  · exact h
  · obtain ⟨o, h1, h2⟩ := h; exact ⟨o, h1, h2.fr hr⟩
  · obtain ⟨g, h1, h2, cs, h3, h4⟩ := h
    refine ⟨g, h1, h2, ?_⟩
    rcases hr.blk _ _ _ h3 with h5 | ⟨_, _, o, h5, h6⟩
    · exact ⟨cs, h5, h4⟩
    · obtain ⟨a, wa, gi, al, nu, d, rfl, _⟩ := h5.shape
      exact ⟨_, h6, rfl⟩
  · trivial
def safeU (B : Nat) (op : Int) (i : Nat) (w : World) (ρ : Operand → Value) : Prop :=
  i = 5 → ∃ g o, ρ (.tmp 3) = .pointer (some ⟨g, 0, none⟩) ∧ B ≤ g ∧ OIs w op o ∧ Blk w g 60 o
theorem safeU_stays (B : Nat) (op : Int) {w w' : World} {ρ ρ' : Operand → Value} (i : Nat) (h : safeU B op i w ρ) (hr : FR op B w w') (he : i = 5 → ρ' (.tmp 3) = ρ (.tmp 3)) : safeU B op i w' ρ' := by
  intro hi
  obtain ⟨g, o, h1, h2, h3, h4⟩ := h hi
  rcases hr.blk _ _ _ h4 with h5 | ⟨_, _, o', h6, h7⟩
  · exact ⟨g, o, (he hi).trans h1, h2, h3.fr hr, h5⟩
  · exact ⟨g, o', (he hi).trans h1, h2, h6, h7⟩

set_option maxHeartbeats 1000000 in
set_option maxRecDepth 100000 in
theorem safeIndex_nil (A : Option Addr) (c : Nat) (d : Value) (w : World) : Calls Try.prog 86 #[.slice A 0 c, d] w fun e w' => e = .returned (.int .i64 (-1)) ∧ w = w' := by
  go_enter Try.func86, Try.ntmps86
  go_wp2_with fail
  refine wp_loop_rounds 1 ?_
  rw [rounds_succ]
  go_wp2_with fail
  go_ret
  exact ⟨rfl, rfl⟩
set_option maxHeartbeats 1000000 in
theorem safeContains_nil (A : Option Addr) (c : Nat) (d : Value) (w : World) : Calls Try.prog 43 #[.slice A 0 c, d] w fun e w' => e = .returned (.bool false) ∧ w = w' := by
  go_enter Try.func43, Try.ntmps43
  go_wp2_with fail
  refine (safeIndex_nil A c d _).mono ?_
  rintro e w1 ⟨rfl, rfl⟩
  go_wp2_with fail
  go_ret
  exact ⟨rfl, rfl⟩

set_option maxHeartbeats 2000000 in
set_option maxRecDepth 100000 in
theorem safe_lit (v : Val) (name : ByteArray) (width : Int) (A : Option Addr) (c : Nat) (w : World) : Calls Try.prog 22 #[.agg #[.int .u8 1, .int .u8 v.k, .int .i64 v.n, .string v.s, .string name, .int .i64 width, .slice A 0 c]] w fun e w' => e = .returned (.bool true) ∧ Below w.heap.size w w' := by
  go_enter Try.func22, Try.ntmps22
  go_wp2_with fail
  have hX := Blk.new w 36 #[.int .u8 1, .int .u8 v.k, .int .i64 v.n, .string v.s, .string name, .int .i64 width, .slice A 0 c]
  have hB := later_new w (.cells #[.int .u8 1, .int .u8 v.k, .int .i64 v.n, .string v.s, .string name, .int .i64 width, .slice A 0 c] 36)
  have hgx := hX.lt
  generalize w.alloc (.cells #[.int .u8 1, .int .u8 v.k, .int .i64 v.n, .string v.s, .string name, .int .i64 width, .slice A 0 c] 36) = W at *
  refine region_by2 6 (FR 1 W.heap.size) (FR.refl _ _) (fun _ _ _ => FR.trans) (fun u => ?_) (safeV W.heap.size w.heap.size 1) (safeU W.heap.size 1) ?_ (fun i u u' v h hr => safeV_stays _ _ _ _ _ _ _ h hr) (by kernel_rfl) (by kernel_rfl) (by kernel_rfl) ?_ ?_
  · exact ⟨(Below.refl _ _).drew, fun g t cs h => .inl h, fun g es c h => h⟩
  · intro i o u u' ρ ρ' hi hu hr hk
    refine safeU_stays _ _ i hu hr fun e => ?_
    subst e
    simp only [List.take_succ_cons, List.take_zero] at hi hk
    refine hk 4 ?_ _ 3 rfl rfl
    injection hi with hi
    subst hi
    decide
  · simp only [List.take_succ_cons, List.take_zero]
    refine ⟨?_, ?_, ?_, ?_, ?_, ?_, trivial⟩
    · intro ρ w1 hc hL hr
      have e1 := hc.func 41
      refine opW_call (f := 41) (args := #[]) (w' := w1) (by simp [go_sem, e1]) ?_
      refine (found_any 1 w1).mono ?_
      rintro e w2 ⟨v, he, hf, hb⟩
      exact ⟨v, he, FR.later hb hL.below.size, hf, fun h => by cases h⟩
    · intro ρ w1 hc hL hr
      have h1 : ρ (.tmp 1) = .pointer (some ⟨w.heap.size, 0, none⟩) := hr.1
      exact opW_run (w' := w1) (by simp [go_sem, h1]) ⟨FR.refl _ _ _, rfl, fun h => by cases h⟩
    · intro ρ w1 hc hL hr
      have h1 : ρ (.tmp 5) = .pointer (some ⟨w.heap.size, 0, none⟩) := hr.1
      have c0 := (hX.below hL.below hgx).cell 0
      simp only [List.getElem?_toArray, List.getElem?_cons_zero] at c0
      exact opW_run (w' := w1) (by simp [go_sem, h1, c0]) ⟨FR.refl _ _ _, rfl, fun h => by cases h⟩
    · intro ρ w1 hc hL hr
      obtain ⟨g, es, h1, hg, hfd⟩ : Found w1 1 (ρ (.tmp 4)) := hr.1
      have h2 : ρ (.tmp 6) = .int .u8 1 := hr.2.1
      rcases hfd with ⟨ho, i, o, hfi, hoi⟩ | ⟨ho, hfi⟩
      · have hl := look_yes0 _ _ _ _ hg 1 i _ hfi
        exact opW_run (v := .agg o) (w' := w1) (by simp [execOp, h1, h2, hl]) ⟨FR.refl _ _ _, ⟨o, rfl, .inl ⟨ho, hoi⟩⟩, fun h => by cases h⟩
      · have hl := look_no0 _ _ _ _ hg 1 hfi
        exact opW_run (v := .agg zeroOp) (w' := w1) (by simp [execOp, h1, h2, hl]) ⟨FR.refl _ _ _, ⟨zeroOp, rfl, .inr ⟨ho, rfl⟩⟩, fun h => by cases h⟩
    · intro ρ w1 hc hL hr
      refine opW_run (w' := w1.alloc (.cells #[.int .i64 0, .int .u8 0, .int .u8 0, .bool false, .bool false, .nilFunc] 60)) (by simp [go_sem]) ⟨FR.later (later_new w1 _) hL.below.size, ⟨w1.heap.size, rfl, hL.below.size, _, Blk.new w1 _ _, rfl⟩, fun h => by cases h⟩
    · intro ρ w1 hc hL hr
      obtain ⟨g, h1, hgB, cs, hcs, hsz⟩ : ∃ g, ρ (.tmp 3) = .pointer (some ⟨g, 0, none⟩) ∧ W.heap.size ≤ g ∧ ∃ cs, Blk w1 g 60 cs ∧ cs.size = 6 := hr.1
      obtain ⟨o, h2, ho⟩ : ∃ o, ρ (.tmp 7) = .agg o ∧ OIs w1 1 o := hr.2.1
      obtain ⟨a, wa, gi, al, nu, d, rfl, _, hd⟩ := ho.shape
      obtain ⟨f1, f2⟩ := setOp_fr hcs hsz hgB ho
      have hself := setOp_self hcs hsz a wa gi al nu d
      have c' : ∀ i, (hi : i < 6) → w1.cell? ⟨g, i, none⟩ = some (cs[i]'(by omega)) := fun i hi => (hcs.cell i).trans (Array.getElem?_eq_getElem (by omega))
      have fz := hcs.frozen
      have c0 := c' 0 (by omega)
      have c1 := c' 1 (by omega)
      have c2 := c' 2 (by omega)
      have c3 := c' 3 (by omega)
      have c4 := c' 4 (by omega)
      have c5 := c' 5 (by omega)
      refine opW_skip (w' := setOp w1 g a wa gi al nu d) ?_ ⟨f1, trivial, fun _ => ⟨g, _, h1, hgB, f2, hself⟩⟩
      unfold setOp
      rcases hd with rfl | ⟨F, C, rfl⟩
      · simp [go_sem, h1, h2, opArr, c0, c1, c2, c3, c4, c5, fz]
      · simp [go_sem, h1, h2, opArr, c0, c1, c2, c3, c4, c5, fz]
  · intro w1 hL
    simp only [List.take_succ_cons, List.take_zero, List.drop_succ_cons, List.drop_zero]
    rintro _ ⟨gm, es, rfl, hgm, hfd⟩ _ rfl _ rfl _ ⟨o3, rfl, h3⟩ _ ⟨g4, rfl, hg4, cs, hcs, hsz⟩ hu
    obtain ⟨g, o, hg, hgB, ho, hob⟩ := hu 5 _ rfl rfl
    have hgg : g4 = g := by simpa [Act.put, Act.eval] using hg
    subst hgg
    clear hu hg hcs hsz cs hfd hgm es h3 hg4
    replace hX := hX.below hL.below hgx
    replace hB := hB.trans (hL.below.mono hB.size)
    clear hL hgx
    have hoz : o = zeroOp := by
      rcases ho with ⟨h, _⟩ | ⟨_, h⟩
      · cases h
      · exact h
    subst hoz
    have x0 := hX.cell 0
    have x6 := hX.cell 6
    have o2 := hob.cell 2
    unfold zeroOp at o2
    simp only [List.getElem?_toArray, List.getElem?_cons_zero, List.getElem?_cons_succ] at x0 x6 o2
    clear ho
    simp only [FinOf, Act.put, List.setIfInBounds_toArray, List.set_cons_succ, List.set_cons_zero]
    go_wp2_with fail
    refine (aggregate_any 1 _).mono ?_
    rintro e w2 ⟨rfl, rfl⟩
    have ha : aggN 1 = -1 := by decide
    rw [ha]
    go_wp2_with fail
    refine (safeContains_nil A c _ _).mono ?_
    rintro e w2 ⟨rfl, rfl⟩
    go_wp2_with fail
    go_ret
    exact ⟨rfl, hB⟩
end Go.Proofs.Ytlfahfoffdbpfaa
