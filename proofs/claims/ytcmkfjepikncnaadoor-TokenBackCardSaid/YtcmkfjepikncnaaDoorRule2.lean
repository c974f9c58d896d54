/- As the rule of a region that draws its order; an operation may also leave a fact on the results of the operations that it hangs on (U). -/
import Derived.Test.YtcmkfjepikncnaaDoorTail
namespace Go.Proofs.YtcmkfjepikncnaaDoor
open Go.RowKit

def StepOf2 (P : Program) (l : List Oper) (R : World → World → Prop) (V : Nat → World → Value → Prop) (U : Nat → World → (Operand → Value) → Prop) (a0 : Act) (w0 : World) (i : Nat) (o : Oper) : Prop :=
  ∀ ρ w, Consts ρ → R w0 w → readsAll l V a0.eval ρ w o (tmpsOf o) →
    match o.guard with
    | none => opW P o ρ w fun v w' => R w w' ∧ V i w' v ∧ U i w' ρ
    | some _ => False
def Steps2 (P : Program) (l : List Oper) (R : World → World → Prop) (V : Nat → World → Value → Prop) (U : Nat → World → (Operand → Value) → Prop) (a0 : Act) (w0 : World) : List Oper → Nat → Prop
  | [], _ => True
  | o :: rest, i => StepOf2 P l R V U a0 w0 i o ∧ Steps2 P l R V U a0 w0 rest (i + 1)
theorem Steps2_at {P : Program} {L : List Oper} {R : World → World → Prop} {V : Nat → World → Value → Prop} {U : Nat → World → (Operand → Value) → Prop} {a0 : Act} {w0 : World} : ∀ {l : List Oper} {k : Nat}, Steps2 P L R V U a0 w0 l k → ∀ i o, l[i]? = some o → StepOf2 P L R V U a0 w0 (k + i) o
  | [], _, _, i, o, h => by simp at h
  | o' :: rest, k, hs, 0, o, h => by simp at h; subst h; exact hs.1
  | o' :: rest, k, hs, i + 1, o, h => by
    have := Steps2_at hs.2 i o (by simpa using h)
    rwa [show k + (i + 1) = k + 1 + i by omega]
/-- U hangs on the results of the operations that its operation hangs on, alone -/
def Keeps (l : List Oper) (R : World → World → Prop) (U : Nat → World → (Operand → Value) → Prop) : Prop :=
  ∀ i o w w' ρ ρ', l[i]? = some o → U i w ρ → R w w' → (∀ j ∈ edges o, ∀ oj d, l[j]? = some oj → oj.dst = some d → ρ' (.tmp d) = ρ (.tmp d)) → U i w' ρ'

structure Inv2 (l : List Oper) (V : Nat → World → Value → Prop) (U : Nat → World → (Operand → Value) → Prop) (R : World → World → Prop) (a0 : Act) (w0 : World) (m : Nat) (listed : Array Bool) (a : Act) (w : World) : Prop where
  base : Inv l V R a0 w0 m listed a w
  post : ∀ i o, l[i]? = some o → listed.getD i false = true → U i w a.eval

section
variable {P : Program} {l zs : List Oper} {Q : Exit → Act → World → Prop} {R : World → World → Prop} {V : Nat → World → Value → Prop} {U : Nat → World → (Operand → Value) → Prop} {a0 : Act} {w0 : World}

theorem Inv2.step (hok : okFrom l a0.tmps.size l 0 = true) (hV : ∀ i w w' v, V i w v → R w w' → V i w' v) (hU : Keeps l R U) (hrefl : ∀ w, R w w) (hT : ∀ a b c, R a b → R b c → R a c) {m : Nat} {listed : Array Bool} {a : Act} {w w' : World} {v : Value} (I : Inv2 l V U R a0 w0 m listed a w) {i : Nat} {o : Oper} (ho : l[i]? = some o) (him : i < m)
    (hun : listed.getD i false = false) (hall : ∀ j ∈ edges o, listed.getD j false = true) (hr : R w w') (hv : V i w' v) (hu : U i w' a.eval) : Inv2 l V U R a0 w0 m (listed.setIfInBounds i true) (a.put o.dst v) w' := by
  refine ⟨I.base.step hok hV hT ho him hun hall hr hv, ?_⟩
  have hil : i < listed.size := by rw [I.base.len]; exact him
  have hoko := okFrom_at hok i o ho
  rw [Nat.zero_add] at hoko
  have keep : ∀ j d oj, l[j]? = some oj → oj.dst = some d → j ≠ i → (a.put o.dst v).eval (.tmp d) = a.eval (.tmp d) := by
    intro j d oj hj hd hji
    refine Act.eval_put fun d' hd' e => ?_
    injection e with e
    subst e
    have hokj := okFrom_at hok j oj hj
    simp only [okAt, hd, Bool.and_eq_true, Nat.zero_add, beq_iff_eq] at hokj
    simp only [okAt, hd', Bool.and_eq_true, beq_iff_eq] at hoko
    rw [hokj.1.1.2.2] at hoko
    have := hoko.1.1.2.2
    injection this with this
    exact hji this
  intro j oj hj hl
  by_cases hji : j = i
  · subst hji
    rw [hj] at ho; injection ho with ho; subst ho
    refine hU j oj w' w' a.eval _ hj hu (hrefl _) fun k hk ok d hok' hd => keep k d ok hok' hd ?_
    intro e
    subst e
    have := hall k hk
    rw [hun] at this
    cases this
  · have hl' : listed.getD j false = true := by rw [getD_set _ _ _ hil, if_neg hji] at hl; exact hl
    refine hU j oj w w' a.eval _ hj (I.post j oj hj hl') hr fun k hk ok d hok' hd => keep k d ok hok' hd ?_
    intro e
    subst e
    have := I.base.closed j oj hj hl' k hk
    rw [hun] at this
    cases this

theorem fin_rest2 {N : Nat} (hok : okFrom l N l 0 = true) (hz : tailOk (l ++ zs) zs l.length = true) (hf : ∀ w, R w0 w → FinOf V (fun a w => (∀ i o, l[i]? = some o → U i w a.eval) → wpList P (l ++ zs).toArray Q zs a w) l 0 a0 w) {listed : Array Bool} {a : Act} {w : World} (I2 : Inv2 l V U R a0 w0 (l ++ zs).length listed a w)
    (h0 : unlisted l.length listed = 0) : wpAny P .any (l ++ zs).toArray Q zs.length listed a w := by
  have I := I2.base
  have hall := unlisted_zero h0
  have ha : a = fill (fun d => a.eval (.tmp d)) l a0 := by
    have h1 : a.tmps = (fill (fun d => a.eval (.tmp d)) l a0).tmps := by
      apply Array.ext_getElem?
      intro t
      by_cases ht : t < a0.tmps.size
      · rw [fill_get _ _ _ _ ht]
        split
        · simp [Act.eval, I.size, ht]
        · rename_i hno
          refine I.old t ?_
          intro i o hi hd _
          exact hno ⟨o, List.mem_of_getElem? hi, hd⟩
      · rw [Array.getElem?_eq_none (by rw [I.size]; omega), Array.getElem?_eq_none (by rw [fill_size]; omega)]
    have h2 : a.defers = (fill (fun d => a.eval (.tmp d)) l a0).defers := by rw [fill_defers, I.defers]
    exact act_ext h1 h2
  have hK := fin_of (V := V) (fun d => a.eval (.tmp d)) l 0 a0 (fun i o d hi hd => by
    rw [Nat.zero_add]
    have hil : i < l.length := by
      rcases Nat.lt_or_ge i l.length with h' | h'
      · exact h'
      · rw [List.getElem?_eq_none h'] at hi; cases hi
    exact I.new i o d hi (hall i hil) hd) (hf w I.r)
  rw [← ha] at hK
  replace hK := hK fun i o hi => I2.post i o hi (hall i (by
    rcases Nat.lt_or_ge i l.length with h' | h'
    · exact h'
    · rw [List.getElem?_eq_none h'] at hi; cases hi))
  refine tail_any hok hz 0 zs rfl listed a w I.len ?_ hK
  intro i hi
  constructor
  · intro hl
    rcases Nat.lt_or_ge i l.length with h' | h'
    · omega
    · rw [I.tail i h'] at hl; cases hl
  · intro hl
    exact hall i (by omega)

/-- THE RULE -/
theorem region_rule2 {id : Nat} {ops : List Oper} (zs : List Oper) (l : List Oper) (hops : ops = l ++ zs) (R : World → World → Prop) (hrefl : ∀ w, R w w) (htrans : ∀ a b c, R a b → R b c → R a c) (hdrew : ∀ w, R w w.drew)
    (V : Nat → World → Value → Prop) (U : Nat → World → (Operand → Value) → Prop) (hU : Keeps l R U) (hV : ∀ i w w' v, V i w v → R w w' → V i w' v) (hm : P.follows .mixedOrders = true) (hok : okFrom l a0.tmps.size l 0 = true) (hz : tailOk (l ++ zs) zs l.length = true)
    (hs : Steps2 P l R V U a0 w0 l 0) (hf : ∀ w, R w0 w → FinOf V (fun a w => (∀ i o, l[i]? = some o → U i w a.eval) → wpList P ops.toArray Q zs a w) l 0 a0 w) : (Code.region id ops.toArray true).wp P Q a0 w0 := by
  subst hops
  have main : ∀ (fuel : Nat) (listed : Array Bool) (a : Act) (w : World), Inv2 l V U R a0 w0 (l ++ zs).length listed a w → fuel = unlisted l.length listed + zs.length → wpAny P .any (l ++ zs).toArray Q fuel listed a w := by
    intro fuel
    induction fuel with
    | zero =>
      intro listed a w I2 hfu
      have I := I2.base
      have h0 : unlisted l.length listed = 0 := by omega
      have hz0 : zs.length = 0 := by omega
      have := fin_rest2 hok hz hf I2 h0
      rwa [hz0] at this
    | succ fuel ih =>
      intro listed a w I2 hfu
      have I := I2.base
      by_cases h0 : unlisted l.length listed = 0
      · have := fin_rest2 hok hz hf I2 h0
        rwa [show zs.length = fuel + 1 by omega] at this
      · obtain ⟨i0, hi0, hu0⟩ := unlisted_pos h0
        obtain ⟨i, ⟨hi, hu⟩, hmin⟩ := least (p := fun i => i < l.length ∧ listed.getD i false = false) i0 ⟨hi0, hu0⟩
        have hone : ∀ j, j < i → listed.getD j false = true := fun j hj => by
          cases hc : listed.getD j false with
          | true => rfl
          | false => exact absurd ⟨by omega, hc⟩ (hmin j hj)
        have hli : l[i]? = some l[i] := List.getElem?_eq_getElem hi
        have hoki := okFrom_at hok i _ hli
        simp only [okAt, Bool.and_eq_true, Nat.zero_add] at hoki
        have hready : i ∈ Region.ready .any (l ++ zs).toArray listed := by
          refine ready_of (get_left hli) ?_ fun j hj => hone j (of_decide_eq_true (List.all_eq_true.1 hoki.1.1.1 j hj))
          rw [getD_alike (by rw [I.len]; simp; omega)]; exact hu
        refine ⟨(fun hnil => by rw [hnil] at hready; cases hready), fun j hj => ?_⟩
        obtain ⟨huj, oj, hoj, hall⟩ := mem_ready.1 hj
        have hjn : j < (l ++ zs).length := by
          rcases Nat.lt_or_ge j (l ++ zs).length with h' | h'
          · exact h'
          · rw [Array.getElem?_eq_none (by simpa using h')] at hoj; cases hoj
        rw [getD_alike (by rw [I.len]; exact hjn)] at huj
        have hedges : ∀ k ∈ edges oj, listed.getD k false = true := fun k hk => by
          obtain ⟨e, he, hb, rfl⟩ := mem_edges.1 hk
          exact hall e he hb
        have hjl : j < l.length := by
          rcases Nat.lt_or_ge j l.length with h' | h'
          · exact h'
          · exfalso
            have hzj : zs[j - l.length]? = some oj := by
              have : (l ++ zs)[j]? = some oj := by simpa using hoj
              rw [List.getElem?_append_right (by omega)] at this; exact this
            have hti := tailOk_at hz (j - l.length) oj hzj
            rw [show l.length + (j - l.length) = j by omega] at hti
            have hc := covers_spec (L := l ++ zs) (fun k => listed.getD k false = true) (by
              intro k ok hk hd e he
              rcases Nat.lt_or_ge k l.length with h'' | h''
              · rw [List.getElem?_append_left h''] at hk
                exact I.closed k ok hk hd e he
              · rw [I.tail k h''] at hd; cases hd) j (edges oj) hti.2 hedges i (by omega)
            rw [hu] at hc; cases hc
        have hlj : l[j]? = some oj := by
          have : (l ++ zs)[j]? = some oj := by simpa using hoj
          rw [List.getElem?_append_left hjl] at this; exact this
        have hst := Steps2_at hs j oj hlj
        rw [Nat.zero_add] at hst
        have hrd := Inv.reads hok I hlj huj hedges (tmpsOf oj) (fun _ h => h)
        have hstep := hst a.eval w (consts_eval a) I.r hrd
        have hfuel : ∀ v w', R w w' → V j w' v → U j w' a.eval → wpAny P .any (l ++ zs).toArray Q fuel (listed.setIfInBounds j true) (a.put oj.dst v) w' := by
          intro v w' hr hv hu
          refine ih _ _ _ (I2.step hok hV hU hrefl htrans hlj hjn huj hedges hr hv hu) ?_
          have := unlisted_set l.length listed j (by rw [I.len]; exact hjn) hjl huj
          omega
        unfold wpOp
        rw [hoj]
        show if Region.wanted oj (yielded (l ++ zs).toArray a.tmps) = true then _ else _
        cases hg : oj.guard with
        | none =>
          rw [if_pos (by simp [Region.wanted, hg])]
          simp only [hg] at hstep
          exact .inl (wp_of_opW hstep fun v w' h => hfuel v w' h.1 h.2.1 h.2.2)
        | some g =>
          simp only [hg] at hstep
  refine wp_region_any hm ?_
  have h0 : R w0 w0.drew := hdrew w0
  have := main (l ++ zs).toArray.size (Array.replicate (l ++ zs).toArray.size false) a0 w0.drew ⟨⟨h0, rfl, rfl, fun _ _ => rfl, (fun i o d _ h => by rw [getD_replicate] at h; cases h), (fun i o _ h => by rw [getD_replicate] at h; cases h), by simp, fun i _ => getD_replicate _ _⟩, fun i o _ h => by rw [getD_replicate] at h; cases h⟩ (by
    have : unlisted l.length (Array.replicate (l ++ zs).toArray.size false) = l.length := by
      unfold unlisted
      rw [List.filter_eq_self.2 (fun i _ => by rw [getD_replicate]; rfl), List.length_range]
    rw [this]; simp)
  exact this
end
end Go.Proofs.YtcmkfjepikncnaaDoor
