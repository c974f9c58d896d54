/- expr.form: an operation, and what is wrong with an expression's form. -/
import Derived.Test.YtlfahfoffdbpfaaTable
import Derived.Test.YtlfahfoffdbpfaaRule2
namespace Go.Proofs.Ytlfahfoffdbpfaa
open Go.ChangeShapes Go.WideShapes Go.ChangeAt Go.RowKit
set_option linter.unusedVariables false
set_option linter.unusedSimpArgs false

def isOp (op : Int) : Bool := decide (3 ≤ op ∧ op ≤ 20)
def opArr (a wa gi : Int) (al nu : Bool) (d : Value) : Array Value := #[.int .i64 a, .int .u8 wa, .int .u8 gi, .bool al, .bool nu, d]
def zeroOp : Array Value := #[.int .i64 0, .int .u8 0, .int .u8 0, .bool false, .bool false, .nilFunc]
/-- what is found in the table under op -/
def OIs (w : World) (op : Int) (o : Array Value) : Prop := (isOp op = true ∧ OpIs w op.toNat (.agg o)) ∨ (isOp op = false ∧ o = zeroOp)
theorem OpIs.shape {w : World} {k : Nat} {v : Value} (h : OpIs w k v) : ∃ a wa gi al nu F C, (a = 1 ∨ a = 2) ∧ v = .agg (opArr a wa gi al nu (.func F #[] C)) := by
  unfold OpIs at h
  split at h
  all_goals first
    | exact ⟨_, _, _, _, _, _, _, .inl rfl, h⟩
    | (obtain ⟨q, h1, _⟩ := h; exact ⟨_, _, _, _, _, _, _, .inl rfl, h1⟩)
    | (obtain ⟨q, h1, _⟩ := h; exact ⟨_, _, _, _, _, _, _, .inr rfl, h1⟩)
    | (obtain ⟨q, q2, h1, _⟩ := h; exact ⟨_, _, _, _, _, _, _, .inr rfl, h1⟩)
    | exact h.elim
theorem OIs.shape {w : World} {op : Int} {o : Array Value} (h : OIs w op o) : ∃ a wa gi al nu d, o = opArr a wa gi al nu d ∧ (isOp op = true → a ≠ 0) ∧ (d = .nilFunc ∨ ∃ F C, d = .func F #[] C) := by
  rcases h with ⟨h1, h2⟩ | ⟨h1, rfl⟩
  · obtain ⟨a, wa, gi, al, nu, F, C, ha, e⟩ := h2.shape
    injection e with e
    exact ⟨a, wa, gi, al, nu, _, e, fun _ => by omega, .inr ⟨F, C, rfl⟩⟩
  · exact ⟨0, 0, 0, false, false, .nilFunc, rfl, (fun h => by rw [h1] at h; cases h), .inl rfl⟩

theorem OpIs.keep6 {w w' : World} (hk : ∀ (q : Nat) (t : TypeId) (cs : Array Value), t ≠ 60 → Blk w q t cs → Blk w' q t cs) : ∀ (k : Nat) (v : Value), OpIs w k v → OpIs w' k v := by
  intro k v h
  unfold OpIs at *
  split at h
  all_goals first
    | exact h
    | (obtain ⟨q, q2, h1, h2, h3⟩ := h; exact ⟨q, q2, h1, hk _ _ _ (by decide) h2, hk _ _ _ (by decide) h3⟩)
    | (obtain ⟨q, h1, h2⟩ := h; exact ⟨q, h1, hk _ _ _ (by decide) h2⟩)
theorem OIs.keep6 {w w' : World} {op : Int} {o : Array Value} (hk : ∀ (q : Nat) (t : TypeId) (cs : Array Value), t ≠ 60 → Blk w q t cs → Blk w' q t cs) (h : OIs w op o) : OIs w' op o := by
  rcases h with ⟨h1, h2⟩ | h1
  · exact .inl ⟨h1, h2.keep6 hk⟩
  · exact .inr h1
/-- how worlds follow each other while the table is looked at: a new block of type operation may get what is found -/
structure FR (op : Int) (B : Nat) (a b : World) : Prop where
  below : Below B a b
  blk : ∀ (g : Nat) (t : TypeId) (cs : Array Value), Blk a g t cs → Blk b g t cs ∨ (t = 60 ∧ B ≤ g ∧ ∃ o : Array Value, OIs b op o ∧ Blk b g t o)
  map : ∀ (g : Nat) (es : Array MapEntry) (c : Nat), a.heap[g]? = some (Obj.map es c) → b.heap[g]? = some (Obj.map es c)
theorem FR.refl (op : Int) (B : Nat) (w : World) : FR op B w w := ⟨Below.refl _ _, fun _ _ _ h => .inl h, fun _ _ _ h => h⟩
theorem FR.other {op : Int} {B : Nat} {a b : World} (h : FR op B a b) {g : Nat} {t : TypeId} {cs : Array Value} (hb : Blk a g t cs) (ht : t ≠ 60) : Blk b g t cs := by
  rcases h.blk g t cs hb with h1 | ⟨h1, _⟩
  · exact h1
  · exact absurd h1 ht
theorem OpIs.fr {op : Int} {B : Nat} {a b : World} (h : FR op B a b) (k : Nat) (v : Value) (hk : OpIs a k v) : OpIs b k v := hk.keep6 (fun q t cs ht hq => h.other hq ht) _ _
theorem OIs.fr {op : Int} {B : Nat} {a b : World} {op' : Int} {o : Array Value} (h : FR op B a b) (ho : OIs a op' o) : OIs b op' o := ho.keep6 fun q t cs ht hq => h.other hq ht
theorem FR.trans {op : Int} {B : Nat} {a b c : World} (h : FR op B a b) (k : FR op B b c) : FR op B a c := by
  refine ⟨h.below.trans k.below, fun g t cs hb => ?_, fun g es c hb => k.map _ _ _ (h.map _ _ _ hb)⟩
  rcases h.blk g t cs hb with h1 | ⟨h1, h2, o, h3, h4⟩
  · exact k.blk g t cs h1
  · rcases k.blk g t o h4 with h6 | h6
    · exact .inr ⟨h1, h2, o, h3.fr k, h6⟩
    · exact .inr h6
theorem FR.later {op : Int} {B : Nat} {a b : World} (h : Below a.heap.size a b) (hB : B ≤ a.heap.size) : FR op B a b :=
  ⟨h.mono hB, fun g t cs hb => .inl (hb.later h), fun g es c hb => by
    rw [h.block g ?_]
    · exact hb
    · rcases Nat.lt_or_ge g a.heap.size with h' | h'
      · exact h'
      · rw [Array.getElem?_eq_none h'] at hb; cases hb⟩
theorem OIs.later {a b : World} {op : Int} {o : Array Value} (ho : OIs a op o) (h : Below a.heap.size a b) : OIs b op o := ho.fr (op := 0) (FR.later h (Nat.le_refl _))

/-- how many arguments an operation has -/
def argsN (op : Int) : Int := if op = 3 ∨ op = 4 ∨ 18 ≤ op then 1 else 2
theorem OpIs.args {w : World} {k : Nat} {a wa gi : Int} {al nu : Bool} {d : Value} (h : OpIs w k (.agg (opArr a wa gi al nu d))) : a = argsN k := by
  unfold OpIs at h
  split at h
  all_goals first
    | exact h.elim
    | (simp [mkOp, opArr] at h; simp [argsN]; omega)
    | (obtain ⟨q, q2, h1, _⟩ := h; simp [mkOp, opArr] at h1; simp [argsN]; omega)
    | (obtain ⟨q, h1, _⟩ := h; simp [mkOp, opArr] at h1; simp [argsN]; omega)
theorem OIs.args {w : World} {op a wa gi : Int} {al nu : Bool} {d : Value} (h : OIs w op (opArr a wa gi al nu d)) (ho : isOp op = true) : a = argsN op := by
  rcases h with ⟨_, h2⟩ | ⟨h1, _⟩
  · have h3 : 3 ≤ op ∧ op ≤ 20 := by simpa [isOp] using ho
    have := h2.args
    rwa [show ((op.toNat : Nat) : Int) = op by omega] at this
  · rw [ho] at h1; cases h1
/-- an operation laid into a block -/
def setOp (w : World) (g : Nat) (a wa gi : Int) (al nu : Bool) (d : Value) : World := (((((w.setCell ⟨g, 0, none⟩ (.int .i64 a)).setCell ⟨g, 1, none⟩ (.int .u8 wa)).setCell ⟨g, 2, none⟩ (.int .u8 gi)).setCell ⟨g, 3, none⟩ (.bool al)).setCell ⟨g, 4, none⟩ (.bool nu)).setCell ⟨g, 5, none⟩ d
theorem setOp_far {w : World} {g q : Nat} {t : TypeId} {cs : Array Value} (h : Blk w q t cs) (hg : q ≠ g) (a wa gi : Int) (al nu : Bool) (d : Value) : Blk (setOp w g a wa gi al nu d) q t cs :=
  (((((h.far (p := ⟨g, 0, none⟩) hg _).far (p := ⟨g, 1, none⟩) hg _).far (p := ⟨g, 2, none⟩) hg _).far (p := ⟨g, 3, none⟩) hg _).far (p := ⟨g, 4, none⟩) hg _).far (p := ⟨g, 5, none⟩) hg _
theorem setOp_self {w : World} {g : Nat} {t : TypeId} {cs : Array Value} (h : Blk w g t cs) (hs : cs.size = 6) (a wa gi : Int) (al nu : Bool) (d : Value) : Blk (setOp w g a wa gi al nu d) g t (opArr a wa gi al nu d) := by
  have h1 := (((((h.set_ 0 (.int .i64 a)).set_ 1 (.int .u8 wa)).set_ 2 (.int .u8 gi)).set_ 3 (.bool al)).set_ 4 (.bool nu)).set_ 5 d
  have e : (((((cs.setIfInBounds 0 (.int .i64 a)).setIfInBounds 1 (.int .u8 wa)).setIfInBounds 2 (.int .u8 gi)).setIfInBounds 3 (.bool al)).setIfInBounds 4 (.bool nu)).setIfInBounds 5 d = opArr a wa gi al nu d := by
    clear h1 h
    obtain ⟨l⟩ := cs
    match l, hs with
    | [c0, c1, c2, c3, c4, c5], _ => simp [opArr]
  rw [e] at h1
  exact h1
theorem setOp_below {B : Nat} {w0 w : World} (h : Below B w0 w) {g : Nat} (hg : B ≤ g) (a wa gi : Int) (al nu : Bool) (d : Value) : Below B w0 (setOp w g a wa gi al nu d) :=
  (((((h.setCell (p := ⟨g, 0, none⟩) hg _).setCell (p := ⟨g, 1, none⟩) hg _).setCell (p := ⟨g, 2, none⟩) hg _).setCell (p := ⟨g, 3, none⟩) hg _).setCell (p := ⟨g, 4, none⟩) hg _).setCell (p := ⟨g, 5, none⟩) hg _
theorem setOp_fr {op : Int} {B : Nat} {w : World} {g : Nat} {cs : Array Value} (h : Blk w g 60 cs) (hs : cs.size = 6) (hg : B ≤ g) {a wa gi : Int} {al nu : Bool} {d : Value} (ho : OIs w op (opArr a wa gi al nu d)) :
    FR op B w (setOp w g a wa gi al nu d) ∧ OIs (setOp w g a wa gi al nu d) op (opArr a wa gi al nu d) := by
  have hne : ∀ (q : Nat) (t : TypeId) (cs' : Array Value), t ≠ 60 → Blk w q t cs' → q ≠ g := by
    intro q t cs' ht hq e
    subst e
    unfold Blk at h hq
    rw [h] at hq
    injection hq with hq
    injection hq with _ hq _
    exact ht hq.symm
  have ho2 : OIs (setOp w g a wa gi al nu d) op (opArr a wa gi al nu d) := ho.keep6 fun q t cs' ht hq => setOp_far hq (hne q t cs' ht hq) _ _ _ _ _ _
  refine ⟨⟨setOp_below (Below.refl _ _) hg _ _ _ _ _ _, fun q t cs' hq => ?_, fun q es c hq => ?_⟩, ho2⟩
  · by_cases e : q = g
    · subst e
      have ht : t = 60 := by
        unfold Blk at h hq
        rw [h] at hq
        injection hq with hq
        injection hq with _ hq _
        exact hq.symm
      subst ht
      exact .inr ⟨rfl, hg, _, ho2, setOp_self h hs _ _ _ _ _ _⟩
    · exact .inl (setOp_far hq e _ _ _ _ _ _)
  · have e : q ≠ g := fun e => by subst e; unfold Blk at h; rw [h] at hq; cases hq
    have k := fun (u : World) (i : Nat) (v : Value) => Below.heap_setCell u ⟨g, i, none⟩ v q e
    unfold setOp
    rw [k, k, k, k, k, k]
    exact hq

theorem look_yes (w : World) (g : Nat) (es : Array MapEntry) (c : Nat) (hg : w.heap[g]? = some (.map es c)) (k : Int) (i : Nat) (v : Value) (hf : Instr.findNow (.int .u8) (.int .u8 k) es.toList 0 = some (some (i, v))) :
    (Instr.lookup 72 (.map (some g)) (.int .u8 k) true).run Try.prog w = .ok (.tuple #[v, .bool true]) w := by
  unfold Instr.lookup
  simp only [Sem.run_bind, run_underlying Try.underlying72, Result.andThen_ok, MapKept.run_getObj_map hg, key_u8, Instr.findKey, run_underlying Try.underlying5, hf, Sem.run_pure]
  rfl
theorem zero_op (w : World) : (zeroValue 60).run Try.prog w = .ok (.agg zeroOp) w := by kernel_rfl
theorem look_no (w : World) (g : Nat) (es : Array MapEntry) (c : Nat) (hg : w.heap[g]? = some (.map es c)) (k : Int) (hf : Instr.findNow (.int .u8) (.int .u8 k) es.toList 0 = some none) :
    (Instr.lookup 72 (.map (some g)) (.int .u8 k) true).run Try.prog w = .ok (.tuple #[.agg zeroOp, .bool false]) w := by
  unfold Instr.lookup
  simp only [Sem.run_bind, run_underlying Try.underlying72, Result.andThen_ok, MapKept.run_getObj_map hg, key_u8, Instr.findKey, run_underlying Try.underlying5, hf, Sem.run_pure, zero_op]
  rfl

/-- the table, found -/
def Found (w : World) (op : Int) (v : Value) : Prop := ∃ (g : Nat) (es : Array MapEntry), v = .map (some g) ∧ w.heap[g]? = some (.map es 18) ∧
  ((isOp op = true ∧ ∃ i o, Instr.findNow (.int .u8) (.int .u8 op) es.toList 0 = some (some (i, .agg o)) ∧ OpIs w op.toNat (.agg o)) ∨ (isOp op = false ∧ Instr.findNow (.int .u8) (.int .u8 op) es.toList 0 = some none))
theorem Found.fr {op' : Int} {B : Nat} {a b : World} {op : Int} {v : Value} (h : FR op' B a b) (ho : Found a op v) : Found b op v := by
  obtain ⟨g, es, h1, h2, h3⟩ := ho
  refine ⟨g, es, h1, h.map _ _ _ h2, ?_⟩
  rcases h3 with ⟨h4, i, o, h5, h6⟩ | h3
  · exact .inl ⟨h4, i, o, h5, OpIs.fr h _ _ h6⟩
  · exact .inr h3
theorem found_any (op : Int) (w : World) : Calls Try.prog 41 #[] w fun e w' => ∃ v, e = .returned v ∧ Found w' op v ∧ Below w.heap.size w w' := by
  refine (operations_any w).mono ?_
  rintro e w' ⟨g, es, he, ht, hin, hout, hb⟩
  refine ⟨_, he, ⟨g, es, rfl, ht.1, ?_⟩, hb⟩
  cases ho : isOp op
  · refine .inr ⟨rfl, hout op ?_⟩
    simp [isOp] at ho
    omega
  · have h2 : 3 ≤ op ∧ op ≤ 20 := by simpa [isOp] using ho
    obtain ⟨i, v, h3, h4⟩ := hin op.toNat (by omega) (by omega)
    have e1 : ((op.toNat : Nat) : Int) = op := by omega
    rw [e1] at h3
    obtain ⟨a, wa, gi, al, nu, F, C, _, rfl⟩ := h4.shape
    exact .inl ⟨rfl, i, _, h3, h4⟩
end Go.Proofs.Ytlfahfoffdbpfaa
