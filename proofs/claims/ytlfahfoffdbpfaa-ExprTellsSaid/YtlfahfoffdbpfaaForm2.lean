/- expr.form: the walk. -/
import Derived.Test.YtlfahfoffdbpfaaForm
namespace Go.Proofs.Ytlfahfoffdbpfaa
open Go.ChangeShapes Go.WideShapes Go.ChangeAt Go.RowKit
set_option linter.unusedVariables false
set_option linter.unusedSimpArgs false

theorem region_by2 {P : Program} {Q : Exit → Act → World → Prop} {a0 : Act} {w0 : World} {id : Nat} {ops : List Oper} (k : Nat) (R : World → World → Prop) (hrefl : ∀ w, R w w) (htrans : ∀ a b c, R a b → R b c → R a c) (hdrew : ∀ w, R w w.drew)
    (V : Nat → World → Value → Prop) (U : Nat → World → (Operand → Value) → Prop) (hU : Keeps (ops.take k) R U) (hV : ∀ i w w' v, V i w v → R w w' → V i w' v) (hm : P.follows .mixedOrders = true)
    (hok : okFrom (ops.take k) a0.tmps.size (ops.take k) 0 = true) (hz : tailOk ops (ops.drop k) (ops.take k).length = true)
    (hs : Steps2 P (ops.take k) R V U a0 w0 (ops.take k) 0) (hf : ∀ w, R w0 w → FinOf V (fun a w => (∀ i o, (ops.take k)[i]? = some o → U i w a.eval) → wpList P ops.toArray Q (ops.drop k) a w) (ops.take k) 0 a0 w) : (Code.region id ops.toArray true).wp P Q a0 w0 :=
  region_rule2 (ops.drop k) (ops.take k) (List.take_append_drop k ops).symm R hrefl htrans hdrew V U hU hV hm hok (by rw [List.take_append_drop]; exact hz) hs hf

/-- what the operations of the look-up leave -/
def formV (B gx : Nat) (op : Int) : Nat → World → Value → Prop
  | 0 => fun w v => Found w op v
  | 1 => fun _ v => v = .pointer (some ⟨gx, 0, none⟩)
  | 2 => fun _ v => v = .int .u8 op
  | 3 => fun w v => ∃ o, v = .tuple #[.agg o, .bool (isOp op)] ∧ OIs w op o
  | 4 => fun w v => ∃ o, v = .tuple #[.agg o, .bool (isOp op)] ∧ OIs w op o
  | 5 => fun w v => ∃ o, v = .agg o ∧ OIs w op o
  | 6 => fun _ v => v = .bool (isOp op)
  | 7 => fun w v => ∃ g, v = .pointer (some ⟨g, 0, none⟩) ∧ B ≤ g ∧ ∃ cs, Blk w g 60 cs ∧ cs.size = 6
  | _ => fun _ _ => True
theorem formV_stays (B gx : Nat) (op : Int) (i : Nat) (w w' : World) (v : Value) (h : formV B gx op i w v) (hr : FR op B w w') : formV B gx op i w' v := by
  unfold formV at *
  split at h
  · exact h.fr hr
  · exact h
  · exact h
  · obtain ⟨o, h1, h2⟩ := h; exact ⟨o, h1, h2.fr hr⟩
  · obtain ⟨o, h1, h2⟩ := h; exact ⟨o, h1, h2.fr hr⟩
  · obtain ⟨o, h1, h2⟩ := h; exact ⟨o, h1, h2.fr hr⟩
  · exact h
  · obtain ⟨g, h1, h2, cs, h3, h4⟩ := h
    refine ⟨g, h1, h2, ?_⟩
    rcases hr.blk _ _ _ h3 with h5 | ⟨_, _, o, h5, h6⟩
    · exact ⟨cs, h5, h4⟩
    · obtain ⟨a, wa, gi, al, nu, d, rfl, _⟩ := h5.shape
      exact ⟨_, h6, rfl⟩
  · trivial
/-- what the store leaves -/
def formU (B : Nat) (op : Int) (i : Nat) (w : World) (ρ : Operand → Value) : Prop :=
  i = 8 → ∃ g o, ρ (.tmp 4) = .pointer (some ⟨g, 0, none⟩) ∧ B ≤ g ∧ OIs w op o ∧ Blk w g 60 o
theorem formU_stays (B : Nat) (op : Int) {w w' : World} {ρ ρ' : Operand → Value} (i : Nat) (h : formU B op i w ρ) (hr : FR op B w w') (he : i = 8 → ρ' (.tmp 4) = ρ (.tmp 4)) : formU B op i w' ρ' := by
  intro hi
  obtain ⟨g, o, h1, h2, h3, h4⟩ := h hi
  rcases hr.blk _ _ _ h4 with h5 | ⟨_, _, o', h6, h7⟩
  · exact ⟨g, o, (he hi).trans h1, h2, h3.fr hr, h5⟩
  · exact ⟨g, o', (he hi).trans h1, h2, h6, h7⟩

/-- an error's number: what is wrong with the form -/
def formE (x : Ex) : Int :=
  if x.op = 1 ∧ x.n = 0 ∧ good x.v = true ∨ x.op = 2 ∧ x.n = 0 then 0
  else if isOp x.op = true ∧ (x.n : Int) = argsN x.op ∧ (x.op ≠ 20 ∨ (1 ≤ x.width ∧ x.width ≤ 1099511627776)) then 0
  else if (x.n : Int) = aggN x.op then 42 else 21
def FormPost (x : Ex) (w : World) (e : Ending) (w' : World) : Prop := ∃ o, e = .returned (.tuple #[.agg o, .int .i64 (formE x)]) ∧ OIs w' x.op o ∧ Below w.heap.size w w'

set_option maxHeartbeats 3000000 in
set_option maxRecDepth 100000 in
theorem form_any (x : Ex) (w : World) : Calls Try.prog 32 #[.agg #[.int .u8 x.op, .int .u8 x.v.k, .int .i64 x.v.n, .string x.v.s, .string x.name, .int .i64 x.width, .slice x.A x.n x.c]] w (FormPost x w) := by
  go_enter Try.func32, Try.ntmps32
  go_wp2_with fail
  have hX := (Blk.new w 36 #[.int .u8 x.op, .int .u8 x.v.k, .int .i64 x.v.n, .string x.v.s, .string x.name, .int .i64 x.width, .slice x.A x.n x.c]).alloc (.cells #[.int .i64 0, .int .u8 0, .int .u8 0, .bool false, .bool false, .nilFunc] 60)
  have hR := Blk.new (w.alloc (.cells #[.int .u8 x.op, .int .u8 x.v.k, .int .i64 x.v.n, .string x.v.s, .string x.name, .int .i64 x.width, .slice x.A x.n x.c] 36)) 60 #[.int .i64 0, .int .u8 0, .int .u8 0, .bool false, .bool false, .nilFunc]
  rw [World.size_alloc] at hR
  have hB := Later.then (later_new w (.cells #[.int .u8 x.op, .int .u8 x.v.k, .int .i64 x.v.n, .string x.v.s, .string x.name, .int .i64 x.width, .slice x.A x.n x.c] 36)) (later_new _ (.cells #[.int .i64 0, .int .u8 0, .int .u8 0, .bool false, .bool false, .nilFunc] 60))
  have hgx : w.heap.size < ((w.alloc (.cells #[.int .u8 x.op, .int .u8 x.v.k, .int .i64 x.v.n, .string x.v.s, .string x.name, .int .i64 x.width, .slice x.A x.n x.c] 36)).alloc (.cells #[.int .i64 0, .int .u8 0, .int .u8 0, .bool false, .bool false, .nilFunc] 60)).heap.size := by simp; omega
  generalize (w.alloc (.cells #[.int .u8 x.op, .int .u8 x.v.k, .int .i64 x.v.n, .string x.v.s, .string x.name, .int .i64 x.width, .slice x.A x.n x.c] 36)).alloc (.cells #[.int .i64 0, .int .u8 0, .int .u8 0, .bool false, .bool false, .nilFunc] 60) = W at *
  have hgw : w.heap.size ≤ w.heap.size + 1 := by omega
  generalize w.heap.size + 1 = g2 at *
  refine region_by2 9 (FR x.op W.heap.size) (FR.refl _ _) (fun _ _ _ => FR.trans) (fun u => ?_) (formV W.heap.size w.heap.size x.op) (formU W.heap.size x.op) ?_ (fun i u u' v h hr => formV_stays _ _ _ _ _ _ _ h hr) (by kernel_rfl) (by kernel_rfl) (by kernel_rfl) ?_ ?_
  · exact ⟨(Below.refl _ _).drew, fun g t cs h => .inl h, fun g es c h => h⟩
  · intro i o u u' ρ ρ' hi hu hr hk
    refine formU_stays _ _ i hu hr fun e => ?_
    subst e
    simp only [List.take_succ_cons, List.take_zero] at hi hk
    refine hk 7 ?_ _ 4 rfl rfl
    injection hi with hi
    subst hi
    decide
  · simp only [List.take_succ_cons, List.take_zero]
    refine ⟨?_, ?_, ?_, ?_, ?_, ?_, ?_, ?_, ?_, trivial⟩
    · intro ρ w1 hc hL hr
      have e1 := hc.func 41
      refine opW_call (f := 41) (args := #[]) (w' := w1) (by simp [go_sem, e1]) ?_
      refine (found_any x.op w1).mono ?_
      rintro e w2 ⟨v, he, hf, hb⟩
      exact ⟨v, he, FR.later hb hL.below.size, hf, fun h => by cases h⟩
    · intro ρ w1 hc hL hr
      have h1 : ρ (.tmp 1) = .pointer (some ⟨w.heap.size, 0, none⟩) := hr.1
      exact opW_run (w' := w1) (by simp [go_sem, h1]) ⟨FR.refl _ _ _, rfl, fun h => by cases h⟩
    · intro ρ w1 hc hL hr
      have h1 : ρ (.tmp 9) = .pointer (some ⟨w.heap.size, 0, none⟩) := hr.1
      have c0 := (hX.below hL.below hgx).cell 0
      simp only [List.getElem?_toArray, List.getElem?_cons_zero] at c0
      exact opW_run (w' := w1) (by simp [go_sem, h1, c0]) ⟨FR.refl _ _ _, rfl, fun h => by cases h⟩
    · intro ρ w1 hc hL hr
      obtain ⟨g, es, h1, hg, hfd⟩ : Found w1 x.op (ρ (.tmp 8)) := hr.1
      have h2 : ρ (.tmp 10) = .int .u8 x.op := hr.2.1
      rcases hfd with ⟨ho, i, o, hfi, hoi⟩ | ⟨ho, hfi⟩
      · have hl := look_yes _ _ _ _ hg x.op i _ hfi
        exact opW_run (v := .tuple #[.agg o, .bool true]) (w' := w1) (by simp [execOp, h1, h2, hl]) ⟨FR.refl _ _ _, ⟨o, by rw [ho], .inl ⟨ho, hoi⟩⟩, fun h => by cases h⟩
      · have hl := look_no _ _ _ _ hg x.op hfi
        exact opW_run (v := .tuple #[.agg zeroOp, .bool false]) (w' := w1) (by simp [execOp, h1, h2, hl]) ⟨FR.refl _ _ _, ⟨zeroOp, by rw [ho], .inr ⟨ho, rfl⟩⟩, fun h => by cases h⟩
    · intro ρ w1 hc hL hr
      exact opW_move (.inl rfl) rfl ⟨FR.refl _ _ _, hr.1, fun h => by cases h⟩
    · intro ρ w1 hc hL hr
      obtain ⟨o, h1, h2⟩ : ∃ o, ρ (.tmp 7) = .tuple #[.agg o, .bool (isOp x.op)] ∧ OIs w1 x.op o := hr.1
      exact opW_run (w' := w1) (by simp [go_sem, h1]) ⟨FR.refl _ _ _, ⟨o, rfl, h2⟩, fun h => by cases h⟩
    · intro ρ w1 hc hL hr
      obtain ⟨o, h1, h2⟩ : ∃ o, ρ (.tmp 7) = .tuple #[.agg o, .bool (isOp x.op)] ∧ OIs w1 x.op o := hr.1
      exact opW_run (w' := w1) (by simp [go_sem, h1]) ⟨FR.refl _ _ _, rfl, fun h => by cases h⟩
    · intro ρ w1 hc hL hr
      refine opW_run (w' := w1.alloc (.cells #[.int .i64 0, .int .u8 0, .int .u8 0, .bool false, .bool false, .nilFunc] 60)) (by simp [go_sem]) ⟨FR.later (later_new w1 _) hL.below.size, ⟨w1.heap.size, rfl, hL.below.size, _, Blk.new w1 _ _, rfl⟩, fun h => by cases h⟩
    · intro ρ w1 hc hL hr
      obtain ⟨g, h1, hgB, cs, hcs, hsz⟩ : ∃ g, ρ (.tmp 4) = .pointer (some ⟨g, 0, none⟩) ∧ W.heap.size ≤ g ∧ ∃ cs, Blk w1 g 60 cs ∧ cs.size = 6 := hr.1
      obtain ⟨o, h2, ho⟩ : ∃ o, ρ (.tmp 12) = .agg o ∧ OIs w1 x.op o := hr.2.1
      obtain ⟨a, wa, gi, al, nu, d, rfl, _, hd⟩ := ho.shape
      obtain ⟨f1, f2⟩ := setOp_fr hcs hsz hgB ho
      have hself := setOp_self hcs hsz a wa gi al nu d
      have c : ∀ i, (hi : i < 6) → w1.cell? ⟨g, i, none⟩ = some (cs[i]'(by omega)) := fun i hi => (hcs.cell i).trans (Array.getElem?_eq_getElem (by omega))
      have fz := hcs.frozen
      have c0 := c 0 (by omega)
      have c1 := c 1 (by omega)
      have c2 := c 2 (by omega)
      have c3 := c 3 (by omega)
      have c4 := c 4 (by omega)
      have c5 := c 5 (by omega)
      refine opW_skip (w' := setOp w1 g a wa gi al nu d) ?_ ⟨f1, trivial, fun _ => ⟨g, _, h1, hgB, f2, hself⟩⟩
      unfold setOp
      rcases hd with rfl | ⟨F, C, rfl⟩
      · simp [go_sem, h1, h2, opArr, c0, c1, c2, c3, c4, c5, fz]
      · simp [go_sem, h1, h2, opArr, c0, c1, c2, c3, c4, c5, fz]
  · intro w1 hL
    simp only [List.take_succ_cons, List.take_zero, List.drop_succ_cons, List.drop_zero]
    rintro _ ⟨gm, es, rfl, hgm, hfd⟩ _ rfl _ rfl _ ⟨o3, rfl, h3⟩ _ ⟨o4, rfl, h4⟩ _ ⟨o5, rfl, h5⟩ _ rfl _ ⟨g4, rfl, hg4, cs, hcs, hsz⟩ hu
    obtain ⟨g, o, hg, hgB, ho, hob⟩ := hu 8 _ rfl rfl
    have hgg : g4 = g := by simpa [Act.put, Act.eval] using hg
    subst hgg
    clear hu hg hcs hsz cs hfd hgm es h3 h4 h5 hg4
    replace hX := hX.below hL.below hgx
    have hR2 := hR.below hL.below (Blk.lt hR)
    replace hB := hB.trans (hL.below.mono hB.size)
    clear hR hL hgx
    obtain ⟨a, wa, gi, al, nu, d, rfl, _, hd⟩ := ho.shape
    have hargs := fun h => OIs.args ho h
    have hd1 : d.oneCell' = true := by rcases hd with rfl | ⟨F, C, rfl⟩ <;> rfl
    have hst := fun (u : Addr) (m : Mode) (w : World) => run_store Try.prog w u d m hd1
    clear hd hd1
    have HO := Lib.hid ho
    clear ho
    simp only [FinOf, Act.put, List.setIfInBounds_toArray, List.set_cons_succ, List.set_cons_zero]
    have x0 := hX.cell 0
    have x1 := hX.cell 1
    have x2 := hX.cell 2
    have x3 := hX.cell 3
    have x5 := hX.cell 5
    have x6 := hX.cell 6
    have o0 := hob.cell 0
    have o1 := hob.cell 1
    have o2 := hob.cell 2
    have o3' := hob.cell 3
    have o4' := hob.cell 4
    have o5' := hob.cell 5
    have r0 := hR2.cell 0
    have r1 := hR2.cell 1
    have r2 := hR2.cell 2
    have r3 := hR2.cell 3
    have r4 := hR2.cell 4
    have r5 := hR2.cell 5
    have rf := hR2.frozen
    unfold opArr at o0 o1 o2 o3' o4' o5'
    simp only [List.getElem?_toArray, List.getElem?_cons_zero, List.getElem?_cons_succ] at x0 x1 x2 x3 x5 x6 o0 o1 o2 o3' o4' o5' r0 r1 r2 r3 r4 r5
    cases b1 : (x.op == 1)
    · cases b3 : (x.op == 2)
      · have n1 : ¬ x.op = 1 := by simpa using b1
        have n2 : ¬ x.op = 2 := by simpa using b3
        cases q1 : isOp x.op
        · clear hargs
          go_wp2_with fail
          refine (aggregate_any x.op _).mono ?_
          rintro e w9 ⟨rfl, rfl⟩
          by_cases hn : (x.n : Int) = aggN x.op
          · have t1 : ((x.n : Int) == aggN x.op) = true := by simpa using hn
            have HEE := Lib.hid (show formE x = 42 by  simp only [formE]; rw [if_neg (by simp_all), if_neg (by simp_all), if_pos hn])
            go_wp2_with fail
            refine bodyPost_ret (v := .tuple #[.agg #[.int .i64 a, .int .u8 wa, .int .u8 gi, .bool al, .bool nu, d], .int .i64 42]) ?_ rfl ?_
            · simp [results, Try.results32, go_sem, r0, r1, r2, r3, r4, r5]
            · have k := setOp_fr (B := w.heap.size) hR2 rfl hgw HO.out
              exact ⟨_, by rw [HEE.out]; rfl, k.2, hB.trans k.1.below⟩
          · have t1 : ((x.n : Int) == aggN x.op) = false := by simpa using hn
            have HEE := Lib.hid (show formE x = 21 by  simp only [formE]; rw [if_neg (by simp_all), if_neg (by simp_all), if_neg hn])
            go_wp2_with fail
            refine bodyPost_ret (v := .tuple #[.agg #[.int .i64 a, .int .u8 wa, .int .u8 gi, .bool al, .bool nu, d], .int .i64 21]) ?_ rfl ?_
            · simp [results, Try.results32, go_sem, r0, r1, r2, r3, r4, r5]
            · have k := setOp_fr (B := w.heap.size) hR2 rfl hgw HO.out
              exact ⟨_, by rw [HEE.out]; rfl, k.2, hB.trans k.1.below⟩
        · have ha := hargs q1
          clear hargs
          cases b4 : ((x.n : Int) == a)
          · have n4 : ¬ (x.n : Int) = argsN x.op := by rw [← ha]; simpa using b4
            clear ha
            go_wp2_with fail
            refine (aggregate_any x.op _).mono ?_
            rintro e w9 ⟨rfl, rfl⟩
            by_cases hn : (x.n : Int) = aggN x.op
            · have t1 : ((x.n : Int) == aggN x.op) = true := by simpa using hn
              have HEE := Lib.hid (show formE x = 42 by  simp only [formE]; rw [if_neg (by simp_all), if_neg (by simp_all), if_pos hn])
              go_wp2_with fail
              refine bodyPost_ret (v := .tuple #[.agg #[.int .i64 a, .int .u8 wa, .int .u8 gi, .bool al, .bool nu, d], .int .i64 42]) ?_ rfl ?_
              · simp [results, Try.results32, go_sem, r0, r1, r2, r3, r4, r5]
              · have k := setOp_fr (B := w.heap.size) hR2 rfl hgw HO.out
                exact ⟨_, by rw [HEE.out]; rfl, k.2, hB.trans k.1.below⟩
            · have t1 : ((x.n : Int) == aggN x.op) = false := by simpa using hn
              have HEE := Lib.hid (show formE x = 21 by  simp only [formE]; rw [if_neg (by simp_all), if_neg (by simp_all), if_neg hn])
              go_wp2_with fail
              refine bodyPost_ret (v := .tuple #[.agg #[.int .i64 a, .int .u8 wa, .int .u8 gi, .bool al, .bool nu, d], .int .i64 21]) ?_ rfl ?_
              · simp [results, Try.results32, go_sem, r0, r1, r2, r3, r4, r5]
              · have k := setOp_fr (B := w.heap.size) hR2 rfl hgw HO.out
                exact ⟨_, by rw [HEE.out]; rfl, k.2, hB.trans k.1.below⟩
          · have n4 : (x.n : Int) = argsN x.op := by rw [← ha]; simpa using b4
            have N4 := Lib.hid n4
            clear ha n4
            cases b5 : (x.op != 20)
            · have n5 : x.op = 20 := by simpa using b5
              have N5 := Lib.hid n5
              clear n5
              have kw := width_any x.width
              cases b6 : (decide (1 ≤ x.width) && decide (x.width ≤ 1099511627776))
              · rw [b6] at kw
                have KW := Lib.hid kw
                clear kw
                go_wp2_with fail
                refine (KW.out _).mono ?_
                rintro e w8 ⟨rfl, rfl⟩
                have n6 : ¬ (1 ≤ x.width ∧ x.width ≤ 1099511627776) := by simpa using b6
                clear b6
                go_wp2_with fail
                refine (aggregate_any x.op _).mono ?_
                rintro e w9 ⟨rfl, rfl⟩
                by_cases hn : (x.n : Int) = aggN x.op
                · have t1 : ((x.n : Int) == aggN x.op) = true := by simpa using hn
                  have HEE := Lib.hid (show formE x = 42 by have z0 := N4.out; have z1 := N5.out; simp only [formE]; rw [if_neg (by simp_all), if_neg (by simp_all), if_pos hn])
                  go_wp2_with fail
                  refine bodyPost_ret (v := .tuple #[.agg #[.int .i64 a, .int .u8 wa, .int .u8 gi, .bool al, .bool nu, d], .int .i64 42]) ?_ rfl ?_
                  · simp [results, Try.results32, go_sem, r0, r1, r2, r3, r4, r5]
                  · have k := setOp_fr (B := w.heap.size) hR2 rfl hgw HO.out
                    exact ⟨_, by rw [HEE.out]; rfl, k.2, hB.trans k.1.below⟩
                · have t1 : ((x.n : Int) == aggN x.op) = false := by simpa using hn
                  have HEE := Lib.hid (show formE x = 21 by have z0 := N4.out; have z1 := N5.out; simp only [formE]; rw [if_neg (by simp_all), if_neg (by simp_all), if_neg hn])
                  go_wp2_with fail
                  refine bodyPost_ret (v := .tuple #[.agg #[.int .i64 a, .int .u8 wa, .int .u8 gi, .bool al, .bool nu, d], .int .i64 21]) ?_ rfl ?_
                  · simp [results, Try.results32, go_sem, r0, r1, r2, r3, r4, r5]
                  · have k := setOp_fr (B := w.heap.size) hR2 rfl hgw HO.out
                    exact ⟨_, by rw [HEE.out]; rfl, k.2, hB.trans k.1.below⟩
              · rw [b6] at kw
                have KW := Lib.hid kw
                clear kw
                have n6 : 1 ≤ x.width ∧ x.width ≤ 1099511627776 := by simpa using b6
                clear b6
                go_wp2_with fail
                refine (KW.out _).mono ?_
                rintro e w8 ⟨rfl, rfl⟩
                have HEE := Lib.hid (show formE x = 0 by have z0 := N4.out; have z1 := N5.out; simp only [formE]; rw [if_neg (by simp_all), if_pos (by simp_all)])
                go_wp2_with fail
                refine bodyPost_ret (v := .tuple #[.agg #[.int .i64 a, .int .u8 wa, .int .u8 gi, .bool al, .bool nu, d], .int .i64 0]) ?_ rfl ?_
                · simp [results, Try.results32, go_sem, r0, r1, r2, r3, r4, r5]
                · have k := setOp_fr (B := w.heap.size) hR2 rfl hgw HO.out
                  exact ⟨_, by rw [HEE.out]; rfl, k.2, hB.trans k.1.below⟩
            · have n5 : ¬ x.op = 20 := by simpa using b5
              have HEE := Lib.hid (show formE x = 0 by have z0 := N4.out; simp only [formE]; rw [if_neg (by simp_all), if_pos (by simp_all)])
              go_wp2_with fail
              refine bodyPost_ret (v := .tuple #[.agg #[.int .i64 a, .int .u8 wa, .int .u8 gi, .bool al, .bool nu, d], .int .i64 0]) ?_ rfl ?_
              · simp [results, Try.results32, go_sem, r0, r1, r2, r3, r4, r5]
              · have k := setOp_fr (B := w.heap.size) hR2 rfl hgw HO.out
                exact ⟨_, by rw [HEE.out]; rfl, k.2, hB.trans k.1.below⟩
      · have p2 : x.op = 2 := by simpa using b3
        have q1 : isOp x.op = false := by rw [p2]; rfl
        rw [q1]
        have P2 := Lib.hid p2
        clear hargs p2
        cases b2 : ((x.n : Int) == 0)
        · have n2 : ¬ x.n = 0 := by simpa using b2
          go_wp2_with fail
          refine (aggregate_any x.op _).mono ?_
          rintro e w9 ⟨rfl, rfl⟩
          by_cases hn : (x.n : Int) = aggN x.op
          · have t1 : ((x.n : Int) == aggN x.op) = true := by simpa using hn
            have HEE := Lib.hid (show formE x = 42 by have z0 := P2.out; simp only [formE]; rw [if_neg (by simp_all), if_neg (by simp_all), if_pos hn])
            go_wp2_with fail
            refine bodyPost_ret (v := .tuple #[.agg #[.int .i64 a, .int .u8 wa, .int .u8 gi, .bool al, .bool nu, d], .int .i64 42]) ?_ rfl ?_
            · simp [results, Try.results32, go_sem, r0, r1, r2, r3, r4, r5]
            · have k := setOp_fr (B := w.heap.size) hR2 rfl hgw HO.out
              exact ⟨_, by rw [HEE.out]; rfl, k.2, hB.trans k.1.below⟩
          · have t1 : ((x.n : Int) == aggN x.op) = false := by simpa using hn
            have HEE := Lib.hid (show formE x = 21 by have z0 := P2.out; simp only [formE]; rw [if_neg (by simp_all), if_neg (by simp_all), if_neg hn])
            go_wp2_with fail
            refine bodyPost_ret (v := .tuple #[.agg #[.int .i64 a, .int .u8 wa, .int .u8 gi, .bool al, .bool nu, d], .int .i64 21]) ?_ rfl ?_
            · simp [results, Try.results32, go_sem, r0, r1, r2, r3, r4, r5]
            · have k := setOp_fr (B := w.heap.size) hR2 rfl hgw HO.out
              exact ⟨_, by rw [HEE.out]; rfl, k.2, hB.trans k.1.below⟩
        · have n2 : x.n = 0 := by simpa using b2
          have N2 := Lib.hid n2
          clear n2
          have HEE := Lib.hid (show formE x = 0 by have z0 := P2.out; have z1 := N2.out; simp only [formE]; rw [if_pos (by simp_all)])
          go_wp2_with fail
          refine bodyPost_ret (v := .tuple #[.agg #[.int .i64 a, .int .u8 wa, .int .u8 gi, .bool al, .bool nu, d], .int .i64 0]) ?_ rfl ?_
          · simp [results, Try.results32, go_sem, r0, r1, r2, r3, r4, r5]
          · have k := setOp_fr (B := w.heap.size) hR2 rfl hgw HO.out
            exact ⟨_, by rw [HEE.out]; rfl, k.2, hB.trans k.1.below⟩
    · have p1 : x.op = 1 := by simpa using b1
      have q1 : isOp x.op = false := by rw [p1]; rfl
      have b3 : (x.op == 2) = false := by rw [p1]; rfl
      rw [q1]
      have P1 := Lib.hid p1
      clear hargs p1
      cases b2 : ((x.n : Int) == 0)
      · have n2 : ¬ x.n = 0 := by simpa using b2
        go_wp2_with fail
        refine (aggregate_any x.op _).mono ?_
        rintro e w9 ⟨rfl, rfl⟩
        by_cases hn : (x.n : Int) = aggN x.op
        · have t1 : ((x.n : Int) == aggN x.op) = true := by simpa using hn
          have HEE := Lib.hid (show formE x = 42 by have z0 := P1.out; simp only [formE]; rw [if_neg (by simp_all), if_neg (by simp_all), if_pos hn])
          go_wp2_with fail
          refine bodyPost_ret (v := .tuple #[.agg #[.int .i64 a, .int .u8 wa, .int .u8 gi, .bool al, .bool nu, d], .int .i64 42]) ?_ rfl ?_
          · simp [results, Try.results32, go_sem, r0, r1, r2, r3, r4, r5]
          · have k := setOp_fr (B := w.heap.size) hR2 rfl hgw HO.out
            exact ⟨_, by rw [HEE.out]; rfl, k.2, hB.trans k.1.below⟩
        · have t1 : ((x.n : Int) == aggN x.op) = false := by simpa using hn
          have HEE := Lib.hid (show formE x = 21 by have z0 := P1.out; simp only [formE]; rw [if_neg (by simp_all), if_neg (by simp_all), if_neg hn])
          go_wp2_with fail
          refine bodyPost_ret (v := .tuple #[.agg #[.int .i64 a, .int .u8 wa, .int .u8 gi, .bool al, .bool nu, d], .int .i64 21]) ?_ rfl ?_
          · simp [results, Try.results32, go_sem, r0, r1, r2, r3, r4, r5]
          · have k := setOp_fr (B := w.heap.size) hR2 rfl hgw HO.out
            exact ⟨_, by rw [HEE.out]; rfl, k.2, hB.trans k.1.below⟩
      · have n2 : x.n = 0 := by simpa using b2
        have N2 := Lib.hid n2
        clear n2
        have kg := good_any x.v
        cases bg : good x.v
        · rw [bg] at kg
          have KG := Lib.hid kg
          clear kg
          go_wp2_with fail
          refine (KG.out _).mono ?_
          rintro e w2 ⟨rfl, b9⟩
          clear x0 x1 x2 x3 x5 x6 o0 o1 o2 o3' o4' o5' r0 r1 r2 r3 r4 r5 rf
          replace hX := hX.later b9
          replace hob := hob.later b9
          replace hR2 := hR2.later b9
          replace hB := Later.then hB b9
          replace HO := Lib.hid (HO.out.later b9)
          clear b9
          have x0 := hX.cell 0
          have x1 := hX.cell 1
          have x2 := hX.cell 2
          have x3 := hX.cell 3
          have x5 := hX.cell 5
          have x6 := hX.cell 6
          have o0 := hob.cell 0
          have o1 := hob.cell 1
          have o2 := hob.cell 2
          have o3' := hob.cell 3
          have o4' := hob.cell 4
          have o5' := hob.cell 5
          have r0 := hR2.cell 0
          have r1 := hR2.cell 1
          have r2 := hR2.cell 2
          have r3 := hR2.cell 3
          have r4 := hR2.cell 4
          have r5 := hR2.cell 5
          have rf := hR2.frozen
          unfold opArr at o0 o1 o2 o3' o4' o5'
          simp only [List.getElem?_toArray, List.getElem?_cons_zero, List.getElem?_cons_succ] at x0 x1 x2 x3 x5 x6 o0 o1 o2 o3' o4' o5' r0 r1 r2 r3 r4 r5
          go_wp2_with fail
          refine (aggregate_any x.op _).mono ?_
          rintro e w9 ⟨rfl, rfl⟩
          by_cases hn : (x.n : Int) = aggN x.op
          · have t1 : ((x.n : Int) == aggN x.op) = true := by simpa using hn
            have HEE := Lib.hid (show formE x = 42 by have z0 := P1.out; have z1 := N2.out; simp only [formE]; rw [if_neg (by simp_all), if_neg (by simp_all), if_pos hn])
            go_wp2_with fail
            refine bodyPost_ret (v := .tuple #[.agg #[.int .i64 a, .int .u8 wa, .int .u8 gi, .bool al, .bool nu, d], .int .i64 42]) ?_ rfl ?_
            · simp [results, Try.results32, go_sem, r0, r1, r2, r3, r4, r5]
            · have k := setOp_fr (B := w.heap.size) hR2 rfl hgw HO.out
              exact ⟨_, by rw [HEE.out]; rfl, k.2, hB.trans k.1.below⟩
          · have t1 : ((x.n : Int) == aggN x.op) = false := by simpa using hn
            have HEE := Lib.hid (show formE x = 21 by have z0 := P1.out; have z1 := N2.out; simp only [formE]; rw [if_neg (by simp_all), if_neg (by simp_all), if_neg hn])
            go_wp2_with fail
            refine bodyPost_ret (v := .tuple #[.agg #[.int .i64 a, .int .u8 wa, .int .u8 gi, .bool al, .bool nu, d], .int .i64 21]) ?_ rfl ?_
            · simp [results, Try.results32, go_sem, r0, r1, r2, r3, r4, r5]
            · have k := setOp_fr (B := w.heap.size) hR2 rfl hgw HO.out
              exact ⟨_, by rw [HEE.out]; rfl, k.2, hB.trans k.1.below⟩
        · rw [bg] at kg
          have KG := Lib.hid kg
          clear kg
          go_wp2_with fail
          refine (KG.out _).mono ?_
          rintro e w2 ⟨rfl, b9⟩
          clear x0 x1 x2 x3 x5 x6 o0 o1 o2 o3' o4' o5' r0 r1 r2 r3 r4 r5 rf
          replace hX := hX.later b9
          replace hob := hob.later b9
          replace hR2 := hR2.later b9
          replace hB := Later.then hB b9
          replace HO := Lib.hid (HO.out.later b9)
          clear b9
          have x0 := hX.cell 0
          have x1 := hX.cell 1
          have x2 := hX.cell 2
          have x3 := hX.cell 3
          have x5 := hX.cell 5
          have x6 := hX.cell 6
          have o0 := hob.cell 0
          have o1 := hob.cell 1
          have o2 := hob.cell 2
          have o3' := hob.cell 3
          have o4' := hob.cell 4
          have o5' := hob.cell 5
          have r0 := hR2.cell 0
          have r1 := hR2.cell 1
          have r2 := hR2.cell 2
          have r3 := hR2.cell 3
          have r4 := hR2.cell 4
          have r5 := hR2.cell 5
          have rf := hR2.frozen
          unfold opArr at o0 o1 o2 o3' o4' o5'
          simp only [List.getElem?_toArray, List.getElem?_cons_zero, List.getElem?_cons_succ] at x0 x1 x2 x3 x5 x6 o0 o1 o2 o3' o4' o5' r0 r1 r2 r3 r4 r5
          have HEE := Lib.hid (show formE x = 0 by have z0 := P1.out; have z1 := N2.out; simp only [formE]; rw [if_pos (by simp_all)])
          go_wp2_with fail
          refine bodyPost_ret (v := .tuple #[.agg #[.int .i64 a, .int .u8 wa, .int .u8 gi, .bool al, .bool nu, d], .int .i64 0]) ?_ rfl ?_
          · simp [results, Try.results32, go_sem, r0, r1, r2, r3, r4, r5]
          · have k := setOp_fr (B := w.heap.size) hR2 rfl hgw HO.out
            exact ⟨_, by rw [HEE.out]; rfl, k.2, hB.trans k.1.below⟩
end Go.Proofs.Ytlfahfoffdbpfaa
