/- Parts of the proof: RuleP. Put together by slim.py. -/
import Derived.Test.YtcneefmaghoejaaGreatDoorB4
namespace Go.Proofs.YtcneefmaghoejaaGreatDoor
open Go.RowKit
set_option linter.unusedVariables false
def opP (P : Program) (o : Oper) (ρ : Operand → Value) (w : World) (E : List PanicEntry → World → Prop) : Prop :=
  match (execOp ρ o).run P w with
  | .ok (.enter f args) w' => Calls P f args w' fun e w'' => ∃ C, e = .panicked C ∧ E C w''
  | _ => False
theorem wp_of_opP {P : Program} {o : Oper} {a : Act} {w : World} {E : List PanicEntry → World → Prop} {K : Act → World → Prop} {Q : Exit → Act → World → Prop}
    (h : opP P o a.eval w E) (hQ : ∀ C w', E C w' → Q (.panic C) a w') : o.wp P a w K Q := by
  unfold opP at h
  unfold Oper.wp
  generalize (execOp a.eval o).run P w = r at *
  cases r with
  | ok n w' =>
    cases n <;> simp only [Oper.upon] <;> first | exact h.elim | skip
    exact h.mono fun e w'' ⟨C, he, ht⟩ => by subst he; exact hQ _ _ ht
  | halt x w' => exact h.elim
def blkOk (l : List Oper) (c : Nat) (bs : List Nat) : Bool := bs.all fun i => match l[i]? with
  | some o => (edges o).any fun e => e == c || bs.contains e
  | none => true
def StepP (P : Program) (l : List Oper) (R : World → World → Prop) (V : Nat → World → Value → Prop) (E : List PanicEntry → World → Prop) (c : Nat) (bs : List Nat) (a0 : Act) (w0 : World) (i : Nat) (o : Oper) : Prop :=
  i ∈ bs ∨ ∀ ρ w, Consts ρ → R w0 w → readsAll l V a0.eval ρ w o (tmpsOf o) → o.guard = none ∧ if i = c then opP P o ρ w E else opW P o ρ w fun v w' => R w w' ∧ V i w' v
def StepsP (P : Program) (l : List Oper) (R : World → World → Prop) (V : Nat → World → Value → Prop) (E : List PanicEntry → World → Prop) (c : Nat) (bs : List Nat) (a0 : Act) (w0 : World) : List Oper → Nat → Prop
  | [], _ => True
  | o :: rest, i => StepP P l R V E c bs a0 w0 i o ∧ StepsP P l R V E c bs a0 w0 rest (i + 1)
theorem StepsP_at {P : Program} {L : List Oper} {R : World → World → Prop} {V : Nat → World → Value → Prop} {E : List PanicEntry → World → Prop} {c : Nat} {bs : List Nat} {a0 : Act} {w0 : World} : ∀ {l : List Oper} {k : Nat}, StepsP P L R V E c bs a0 w0 l k → ∀ i o, l[i]? = some o → StepP P L R V E c bs a0 w0 (k + i) o
  | [], _, _, i, o, h => by simp at h
  | x :: l, k, hs, 0, o, h => by simp at h; subst h; exact hs.1
  | x :: l, k, hs, i + 1, o, h => by
    have := StepsP_at hs.2 i o (by simpa using h)
    rwa [show k + 1 + i = k + (i + 1) by omega] at this
section
variable {P : Program} {l zs : List Oper} {Q : Exit → Act → World → Prop} {R : World → World → Prop} {V : Nat → World → Value → Prop} {a0 : Act} {w0 : World}
theorem region_panic {id : Nat} {ops : List Oper} (zs : List Oper) (l : List Oper) (hops : ops = l ++ zs) (c : Nat) (bs : List Nat) (E : List PanicEntry → World → Prop) (R : World → World → Prop) (hrefl : ∀ w, R w w) (htrans : ∀ a b c, R a b → R b c → R a c) (hdrew : ∀ w, R w w.drew)
    (V : Nat → World → Value → Prop) (hV : ∀ i w w' v, V i w v → R w w' → V i w' v) (hm : P.follows .mixedOrders = true) (hok : okFrom l a0.tmps.size l 0 = true) (hz : tailOk (l ++ zs) zs l.length = true)
    (hc : c < l.length) (hb : blkOk l c bs = true) (hs : StepsP P l R V E c bs a0 w0 l 0) (hQ : ∀ C a w, a.defers = a0.defers → E C w → Q (.panic C) a w) : (Code.region id ops.toArray true).wp P Q a0 w0 := by
  subst hops
  have hnoB : ∀ (listed : Array Bool) (a : Act) (w : World), Inv l V R a0 w0 (l ++ zs).length listed a w → listed.getD c false = false → ∀ (n i : Nat), i < n → i ∈ bs → i < l.length → listed.getD i false = false := by
    intro listed a w I hcu n
    induction n with
    | zero => intro i hi; omega
    | succ n ih =>
      intro i hi hib hil
      cases hl : listed.getD i false with
      | false => rfl
      | true =>
        exfalso
        have hli : l[i]? = some l[i] := List.getElem?_eq_getElem hil
        have h1 := List.all_eq_true.1 hb i hib
        rw [hli] at h1
        obtain ⟨e, he, hor⟩ := List.any_eq_true.1 h1
        have hel := I.closed i l[i] hli hl e he
        have hoki := okFrom_at hok i _ hli
        simp only [okAt, Bool.and_eq_true, Nat.zero_add] at hoki
        have hei := of_decide_eq_true (List.all_eq_true.1 hoki.1.1.1 e he)
        rcases Bool.or_eq_true _ _ ▸ hor with h2 | h2
        · have : e = c := by simpa using h2
          rw [this, hcu] at hel; cases hel
        · have hm : e ∈ bs := by simpa using h2
          have := ih e (by omega) hm (by omega)
          rw [this] at hel; cases hel
  have main : ∀ (fuel : Nat) (listed : Array Bool) (a : Act) (w : World), Inv l V R a0 w0 (l ++ zs).length listed a w → listed.getD c false = false → fuel = unlisted l.length listed + zs.length → wpAny P .any (l ++ zs).toArray Q fuel listed a w := by
    intro fuel
    induction fuel with
    | zero =>
      intro listed a w I hcu hfu
      have h0 : unlisted l.length listed = 0 := by omega
      have := unlisted_zero h0 c hc
      rw [hcu] at this; cases this
    | succ fuel ih =>
      intro listed a w I hcu hfu
      by_cases h0 : unlisted l.length listed = 0
      · have := unlisted_zero h0 c hc
        rw [hcu] at this; cases this
      · obtain ⟨i0, hi0, hu0⟩ := unlisted_pos h0
        obtain ⟨i, ⟨hi, hu⟩, hmin⟩ := least (p := fun i => i < l.length ∧ listed.getD i false = false) i0 ⟨hi0, hu0⟩
        have hone : ∀ j, j < i → listed.getD j false = true := fun j hj => by
          cases hc : listed.getD j false with
          | true => rfl
          | false => exact absurd ⟨by omega, hc⟩ (hmin j hj)
        have hli : l[i]? = some l[i] := List.getElem?_eq_getElem hi
        have hoki := okFrom_at hok i _ hli
        simp only [okAt, Bool.and_eq_true, Nat.zero_add] at hoki
        have hready : i ∈ Region.ready .any (l ++ zs).toArray listed := by
          refine ready_of (get_left hli) ?_ fun j hj => hone j (of_decide_eq_true (List.all_eq_true.1 hoki.1.1.1 j hj))
          rw [getD_alike (by rw [I.len]; simp; omega)]; exact hu
        refine ⟨(fun hnil => by rw [hnil] at hready; cases hready), fun j hj => ?_⟩
        obtain ⟨huj, oj, hoj, hall⟩ := mem_ready.1 hj
        have hjn : j < (l ++ zs).length := by
          rcases Nat.lt_or_ge j (l ++ zs).length with h' | h'
          · exact h'
          · rw [Array.getElem?_eq_none (by simpa using h')] at hoj; cases hoj
        rw [getD_alike (by rw [I.len]; exact hjn)] at huj
        have hedges : ∀ k ∈ edges oj, listed.getD k false = true := fun k hk => by
          obtain ⟨e, he, hb, rfl⟩ := mem_edges.1 hk
          exact hall e he hb
        have hjl : j < l.length := by
          rcases Nat.lt_or_ge j l.length with h' | h'
          · exact h'
          · exfalso
            have hzj : zs[j - l.length]? = some oj := by
              have : (l ++ zs)[j]? = some oj := by simpa using hoj
              rw [List.getElem?_append_right (by omega)] at this; exact this
            have hti := tailOk_at hz (j - l.length) oj hzj
            rw [show l.length + (j - l.length) = j by omega] at hti
            have hc := covers_spec (L := l ++ zs) (fun k => listed.getD k false = true) (by
              intro k ok hk hd e he
              rcases Nat.lt_or_ge k l.length with h'' | h''
              · rw [List.getElem?_append_left h''] at hk
                exact I.closed k ok hk hd e he
              · rw [I.tail k h''] at hd; cases hd) j (edges oj) hti.2 hedges i (by omega)
            rw [hu] at hc; cases hc
        have hlj : l[j]? = some oj := by
          have : (l ++ zs)[j]? = some oj := by simpa using hoj
          rw [List.getElem?_append_left hjl] at this; exact this
        have hst := StepsP_at hs j oj hlj
        rw [Nat.zero_add] at hst
        have hjb : j ∉ bs := by
          intro hjb
          have h1 := List.all_eq_true.1 hb j hjb
          rw [hlj] at h1
          obtain ⟨e, he, hor⟩ := List.any_eq_true.1 h1
          have hel := hedges e he
          have hokj := okFrom_at hok j _ hlj
          simp only [okAt, Bool.and_eq_true, Nat.zero_add] at hokj
          have hej := of_decide_eq_true (List.all_eq_true.1 hokj.1.1.1 e he)
          rcases Bool.or_eq_true _ _ ▸ hor with h2 | h2
          · have : e = c := by simpa using h2
            rw [this, hcu] at hel; cases hel
          · have hm : e ∈ bs := by simpa using h2
            have := hnoB listed a w I hcu (e + 1) e (by omega) hm (by omega)
            rw [this] at hel; cases hel
        rcases hst with hst | hst
        · exact absurd hst hjb
        have hrd := Inv.reads hok I hlj huj hedges (tmpsOf oj) (fun _ h => h)
        obtain ⟨hg, hstep⟩ := hst a.eval w (consts_eval a) I.r hrd
        unfold wpOp
        rw [hoj]
        show if Region.wanted oj (yielded (l ++ zs).toArray a.tmps) = true then _ else _
        rw [if_pos (by simp [Region.wanted, hg])]
        refine .inl ?_
        by_cases hjc : j = c
        · rw [if_pos hjc] at hstep
          exact wp_of_opP hstep fun C w' h => hQ C a w' I.defers h
        · rw [if_neg hjc] at hstep
          refine wp_of_opW hstep fun v w' h => ?_
          refine ih _ _ _ (I.step hok hV htrans hlj hjn huj hedges h.1 h.2) ?_ ?_
          · rw [getD_set _ _ _ (by rw [I.len]; exact hjn), if_neg (fun e => hjc e.symm)]
            exact hcu
          · have := unlisted_set l.length listed j (by rw [I.len]; exact hjn) hjl huj
            omega
  refine wp_region_any hm ?_
  have h0 : R w0 w0.drew := hdrew w0
  have := main (l ++ zs).toArray.size (Array.replicate (l ++ zs).toArray.size false) a0 w0.drew ⟨h0, rfl, rfl, fun _ _ => rfl, (fun i o d _ h => by rw [getD_replicate] at h; cases h), (fun i o _ h => by rw [getD_replicate] at h; cases h), by simp, fun i _ => getD_replicate _ _⟩ (getD_replicate _ _) (by
    have : unlisted l.length (Array.replicate (l ++ zs).toArray.size false) = l.length := by
      unfold unlisted
      rw [List.filter_eq_self.2 (fun i _ => by rw [getD_replicate]; rfl), List.length_range]
    rw [this]; simp)
  exact this
end
end Go.Proofs.YtcneefmaghoejaaGreatDoor
