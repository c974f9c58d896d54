/- Parts of the proof: Rule3, Push. Put together by slim.py. -/
import Derived.Test.YtcneefmaghoejaaGreatDoorB5
namespace Go.Proofs.YtcneefmaghoejaaGreatDoor
open Go.RowKit
def Vof (u : Nat → Value) (ch : List Nat) (vs : List Value) (i : Nat) (_ : World) (v : Value) : Prop :=
  match ch.idxOf? i with
  | some k => vs[k]? = some v
  | none => v = u i
def chainOk (l : List Oper) : List Nat → Bool
  | a :: b :: r => (match l[b]? with | some o => edgeOn o a | none => false) && chainOk l (b :: r)
  | _ => true
def StepOf3 (P : Program) (l : List Oper) (u : Nat → Value) (ch : List Nat) (G : List Value → World → Prop) (a0 : Act) (i : Nat) (o : Oper) : Prop :=
  ∀ ρ w vs, Consts ρ → G vs w → readsAll l (Vof u ch vs) a0.eval ρ w o (tmpsOf o) → o.guard = none ∧
    match ch.idxOf? i with
    | none => (execOp ρ o).run P w = .ok (.value (u i)) w
    | some k => vs.length = k → opW P o ρ w fun v w' => G (vs ++ [v]) w'
def Steps3 (P : Program) (l : List Oper) (u : Nat → Value) (ch : List Nat) (G : List Value → World → Prop) (a0 : Act) : List Oper → Nat → Prop
  | [], _ => True
  | o :: rest, i => StepOf3 P l u ch G a0 i o ∧ Steps3 P l u ch G a0 rest (i + 1)
theorem Steps3_at {P : Program} {L : List Oper} {u : Nat → Value} {ch : List Nat} {G : List Value → World → Prop} {a0 : Act} : ∀ {l : List Oper} {k : Nat}, Steps3 P L u ch G a0 l k → ∀ i o, l[i]? = some o → StepOf3 P L u ch G a0 (k + i) o
  | [], _, _, i, o, h => by simp at h
  | x :: l, k, hs, 0, o, h => by simp at h; subst h; exact hs.1
  | x :: l, k, hs, i + 1, o, h => by
    have := Steps3_at hs.2 i o (by simpa using h)
    rwa [show k + 1 + i = k + (i + 1) by omega] at this
theorem idx_some {ch : List Nat} {i k : Nat} (h : ch.idxOf? i = some k) : ch[k]? = some i := by
  rw [List.idxOf?, List.findIdx?_eq_some_iff_getElem] at h
  obtain ⟨hk, h1, _⟩ := h
  rw [List.getElem?_eq_getElem hk]
  simpa using h1
theorem idx_none {ch : List Nat} {i : Nat} (h : ch.idxOf? i = none) : i ∉ ch := by
  intro hm
  rw [List.idxOf?, List.findIdx?_eq_none_iff] at h
  have := h i hm
  simp at this
theorem idx_of {ch : List Nat} (hn : ch.Nodup) {i k : Nat} (h : ch[k]? = some i) : ch.idxOf? i = some k := by
  obtain ⟨hk, he⟩ := List.getElem?_eq_some_iff.1 h
  cases hc : ch.idxOf? i with
  | none => exact absurd (List.mem_of_getElem? h) (idx_none hc)
  | some k' =>
    have h2 := idx_some hc
    obtain ⟨hk', he'⟩ := List.getElem?_eq_some_iff.1 h2
    congr 1
    exact (List.getElem_inj hn).1 (he'.trans he.symm)
theorem chain_dep {l : List Oper} : ∀ {ch : List Nat} {k a b : Nat}, chainOk l ch = true → ch[k]? = some a → ch[k + 1]? = some b → ∃ o, l[b]? = some o ∧ edgeOn o a = true
  | [], _, _, _, _, h, _ => by simp at h
  | [x], 0, _, _, _, _, h => by simp at h
  | [x], _ + 1, _, _, _, h, _ => by simp at h
  | x :: y :: r, 0, a, b, hc, h1, h2 => by
    simp at h1 h2
    subst h1 h2
    simp only [chainOk, Bool.and_eq_true] at hc
    have := hc.1
    split at this
    · rename_i o ho; exact ⟨o, ho, this⟩
    · cases this
  | x :: y :: r, k + 1, a, b, hc, h1, h2 => by
    simp only [chainOk, Bool.and_eq_true] at hc
    exact chain_dep hc.2 (by simpa using h1) (by simpa using h2)
theorem Inv.imp {l : List Oper} {V V' : Nat → World → Value → Prop} {R : World → World → Prop} {a0 : Act} {w0 : World} {m : Nat} {listed : Array Bool} {a : Act} {w : World} (I : Inv l V R a0 w0 m listed a w) (h : ∀ i w v, V i w v → V' i w v) : Inv l V' R a0 w0 m listed a w :=
  ⟨I.r, I.defers, I.size, I.old, fun i o d h1 h2 h3 => h _ _ _ (I.new i o d h1 h2 h3), I.closed, I.len, I.tail⟩
theorem Vof_more {u : Nat → Value} {ch : List Nat} {vs : List Value} (v : Value) (i : Nat) (w : World) (x : Value) (h : Vof u ch vs i w x) : Vof u ch (vs ++ [v]) i w x := by
  unfold Vof at *
  cases hk : ch.idxOf? i with
  | some k =>
    rw [hk] at h
    simp only at h ⊢
    obtain ⟨hlt, _⟩ := List.getElem?_eq_some_iff.1 h
    rw [List.getElem?_append_left hlt]
    exact h
  | none =>
    rw [hk] at h
    exact h
section
variable {P : Program} {l zs : List Oper} {Q : Exit → Act → World → Prop} {u : Nat → Value} {ch : List Nat} {G : List Value → World → Prop} {a0 : Act} {w0 : World}
theorem fin_rest3 {N : Nat} (vs : List Value) (hok : okFrom l N l 0 = true) (hz : tailOk (l ++ zs) zs l.length = true) {listed : Array Bool} {a : Act} {w : World} (hf : FinOf (Vof u ch vs) (fun a w => wpList P (l ++ zs).toArray Q zs a w) l 0 a0 w) (I : Inv l (Vof u ch vs) (fun _ _ => True) a0 w0 (l ++ zs).length listed a w)
    (h0 : unlisted l.length listed = 0) : wpAny P .any (l ++ zs).toArray Q zs.length listed a w := by
  have hall := unlisted_zero h0
  have ha : a = fill (fun d => a.eval (.tmp d)) l a0 := by
    have h1 : a.tmps = (fill (fun d => a.eval (.tmp d)) l a0).tmps := by
      apply Array.ext_getElem?
      intro t
      by_cases ht : t < a0.tmps.size
      · rw [fill_get _ _ _ _ ht]
        split
        · simp [Act.eval, I.size, ht]
        · rename_i hno
          refine I.old t ?_
          intro i o hi hd _
          exact hno ⟨o, List.mem_of_getElem? hi, hd⟩
      · rw [Array.getElem?_eq_none (by rw [I.size]; omega), Array.getElem?_eq_none (by rw [fill_size]; omega)]
    have h2 : a.defers = (fill (fun d => a.eval (.tmp d)) l a0).defers := by rw [fill_defers, I.defers]
    exact act_ext h1 h2
  have hK := fin_of (V := Vof u ch vs) (fun d => a.eval (.tmp d)) l 0 a0 (fun i o d hi hd => by
    rw [Nat.zero_add]
    have hil : i < l.length := by
      rcases Nat.lt_or_ge i l.length with h' | h'
      · exact h'
      · rw [List.getElem?_eq_none h'] at hi; cases hi
    exact I.new i o d hi (hall i hil) hd) hf
  rw [← ha] at hK
  refine tail_any hok hz 0 zs rfl listed a w I.len ?_ hK
  intro i hi
  constructor
  · intro hl
    rcases Nat.lt_or_ge i l.length with h' | h'
    · omega
    · rw [I.tail i h'] at hl; cases hl
  · intro hl
    exact hall i (by omega)
theorem region_chain {id : Nat} {ops : List Oper} (zs : List Oper) (l : List Oper) (hops : ops = l ++ zs) (u : Nat → Value) (ch : List Nat) (G : List Value → World → Prop) (hdrew : ∀ vs w, G vs w → G vs w.drew) (hG : G [] w0)
    (hm : P.follows .mixedOrders = true) (hok : okFrom l a0.tmps.size l 0 = true) (hz : tailOk (l ++ zs) zs l.length = true) (hch : chainOk l ch = true) (hnd : ch.Nodup) (hin : ch.all (fun i => decide (i < l.length)) = true)
    (hs : Steps3 P l u ch G a0 l 0) (hf : ∀ vs w, vs.length = ch.length → G vs w → FinOf (Vof u ch vs) (fun a w => wpList P ops.toArray Q zs a w) l 0 a0 w) : (Code.region id ops.toArray true).wp P Q a0 w0 := by
  subst hops
  have main : ∀ (fuel : Nat) (listed : Array Bool) (a : Act) (w : World) (vs : List Value), Inv l (Vof u ch vs) (fun _ _ => True) a0 w0 (l ++ zs).length listed a w → G vs w → (∀ k i, ch[k]? = some i → (listed.getD i false = true ↔ k < vs.length)) → vs.length ≤ ch.length → fuel = unlisted l.length listed + zs.length → wpAny P .any (l ++ zs).toArray Q fuel listed a w := by
    intro fuel
    induction fuel with
    | zero =>
      intro listed a w vs I hg hcl hvl hfu
      have h0 : unlisted l.length listed = 0 := by omega
      have hz0 : zs.length = 0 := by omega
      have hall := unlisted_zero h0
      have hvs : vs.length = ch.length := by
        rcases Nat.lt_or_ge vs.length ch.length with h' | h'
        · have hi := List.getElem?_eq_getElem h'
          have hb := of_decide_eq_true (List.all_eq_true.1 hin _ (List.getElem_mem h'))
          have := (hcl _ _ hi).1 (hall _ hb)
          omega
        · omega
      have := fin_rest3 vs hok hz (hf vs w hvs hg) I h0
      rwa [hz0] at this
    | succ fuel ih =>
      intro listed a w vs I hg hcl hvl hfu
      by_cases h0 : unlisted l.length listed = 0
      · have hall := unlisted_zero h0
        have hvs : vs.length = ch.length := by
          rcases Nat.lt_or_ge vs.length ch.length with h' | h'
          · have hi := List.getElem?_eq_getElem h'
            have hb := of_decide_eq_true (List.all_eq_true.1 hin _ (List.getElem_mem h'))
            have := (hcl _ _ hi).1 (hall _ hb)
            omega
          · omega
        have := fin_rest3 vs hok hz (hf vs w hvs hg) I h0
        rwa [show zs.length = fuel + 1 by omega] at this
      · obtain ⟨i0, hi0, hu0⟩ := unlisted_pos h0
        obtain ⟨i, ⟨hi, hu⟩, hmin⟩ := least (p := fun i => i < l.length ∧ listed.getD i false = false) i0 ⟨hi0, hu0⟩
        have hone : ∀ j, j < i → listed.getD j false = true := fun j hj => by
          cases hc : listed.getD j false with
          | true => rfl
          | false => exact absurd ⟨by omega, hc⟩ (hmin j hj)
        have hli : l[i]? = some l[i] := List.getElem?_eq_getElem hi
        have hoki := okFrom_at hok i _ hli
        simp only [okAt, Bool.and_eq_true, Nat.zero_add] at hoki
        have hready : i ∈ Region.ready .any (l ++ zs).toArray listed := by
          refine ready_of (get_left hli) ?_ fun j hj => hone j (of_decide_eq_true (List.all_eq_true.1 hoki.1.1.1 j hj))
          rw [getD_alike (by rw [I.len]; simp; omega)]; exact hu
        refine ⟨(fun hnil => by rw [hnil] at hready; cases hready), fun j hj => ?_⟩
        obtain ⟨huj, oj, hoj, hall⟩ := mem_ready.1 hj
        have hjn : j < (l ++ zs).length := by
          rcases Nat.lt_or_ge j (l ++ zs).length with h' | h'
          · exact h'
          · rw [Array.getElem?_eq_none (by simpa using h')] at hoj; cases hoj
        rw [getD_alike (by rw [I.len]; exact hjn)] at huj
        have hedges : ∀ k ∈ edges oj, listed.getD k false = true := fun k hk => by
          obtain ⟨e, he, hb, rfl⟩ := mem_edges.1 hk
          exact hall e he hb
        have hjl : j < l.length := by
          rcases Nat.lt_or_ge j l.length with h' | h'
          · exact h'
          · exfalso
            have hzj : zs[j - l.length]? = some oj := by
              have : (l ++ zs)[j]? = some oj := by simpa using hoj
              rw [List.getElem?_append_right (by omega)] at this; exact this
            have hti := tailOk_at hz (j - l.length) oj hzj
            rw [show l.length + (j - l.length) = j by omega] at hti
            have hc := covers_spec (L := l ++ zs) (fun k => listed.getD k false = true) (by
              intro k ok hk hd e he
              rcases Nat.lt_or_ge k l.length with h'' | h''
              · rw [List.getElem?_append_left h''] at hk
                exact I.closed k ok hk hd e he
              · rw [I.tail k h''] at hd; cases hd) j (edges oj) hti.2 hedges i (by omega)
            rw [hu] at hc; cases hc
        have hlj : l[j]? = some oj := by
          have : (l ++ zs)[j]? = some oj := by simpa using hoj
          rw [List.getElem?_append_left hjl] at this; exact this
        have hst := Steps3_at hs j oj hlj
        rw [Nat.zero_add] at hst
        have hrd := Inv.reads hok I hlj huj hedges (tmpsOf oj) (fun _ h => h)
        obtain ⟨hgd, hstep⟩ := hst a.eval w vs (consts_eval a) hg hrd
        have hjs : j < listed.size := by rw [I.len]; exact hjn
        have hfu2 : fuel = unlisted l.length (listed.setIfInBounds j true) + zs.length := by
          have := unlisted_set l.length listed j hjs hjl huj
          omega
        unfold wpOp
        rw [hoj]
        show if Region.wanted oj (yielded (l ++ zs).toArray a.tmps) = true then _ else _
        rw [if_pos (by simp [Region.wanted, hgd])]
        refine .inl ?_
        cases hci : ch.idxOf? j with
        | none =>
          simp only [hci] at hstep
          refine wp_of_opW (T := fun v w' => v = u j ∧ w' = w) (opW_run hstep ⟨rfl, rfl⟩) ?_
          rintro v w' ⟨rfl, rfl⟩
          refine ih _ _ _ vs (I.step hok (fun _ _ _ _ h _ => h) (fun _ _ _ _ _ => trivial) hlj hjn huj hedges trivial ?_) hg ?_ hvl hfu2
          · unfold Vof; simp only [hci]
          · intro k i' hk
            have hne : i' ≠ j := fun e => idx_none hci (e ▸ List.mem_of_getElem? hk)
            rw [getD_set _ _ _ hjs, if_neg hne]
            exact hcl k i' hk
        | some k =>
          simp only [hci] at hstep
          have hck := idx_some hci
          have hvk : vs.length = k := by
            have h1 : ¬ k < vs.length := fun h => by
              have := (hcl k j hck).2 h
              rw [huj] at this; cases this
            match k, hck, h1 with
            | 0, _, h1 => omega
            | k + 1, hck, h1 =>
              obtain ⟨hkl, _⟩ := List.getElem?_eq_some_iff.1 hck
              have hp : ch[k]? = some ch[k] := List.getElem?_eq_getElem (by omega)
              obtain ⟨o', ho', he⟩ := chain_dep hch hp hck
              rw [hlj] at ho'; injection ho' with ho'; subst ho'
              have := (hcl k _ hp).1 (hedges _ (edgeOn_iff.1 he))
              omega
          refine wp_of_opW (hstep hvk) ?_
          intro v w' hg'
          have I' := (I.imp (fun i w x h => Vof_more (ch := ch) (u := u) v i w x h))
          refine ih _ _ _ (vs ++ [v]) (I'.step hok (fun _ _ _ _ h _ => h) (fun _ _ _ _ _ => trivial) hlj hjn huj hedges trivial ?_) hg' ?_ ?_ hfu2
          · unfold Vof; simp only [hci]; rw [← hvk]; simp
          · intro k' i' hk'
            rw [getD_set _ _ _ hjs, List.length_append, List.length_singleton]
            by_cases hij : i' = j
            · subst hij
              have := idx_of hnd hk'
              rw [hci] at this
              injection this with this
              simp only [if_true, true_iff]
              omega
            · rw [if_neg hij, hcl k' i' hk']
              have hne : k' ≠ k := fun e => hij (by rw [e, hck] at hk'; injection hk' with hk'; exact hk'.symm)
              omega
          · obtain ⟨hkl, _⟩ := List.getElem?_eq_some_iff.1 hck
            simp; omega
  refine wp_region_any hm ?_
  have := main (l ++ zs).toArray.size (Array.replicate (l ++ zs).toArray.size false) a0 w0.drew [] ⟨trivial, rfl, rfl, fun _ _ => rfl, (fun i o d _ h => by rw [getD_replicate] at h; cases h), (fun i o _ h => by rw [getD_replicate] at h; cases h), by simp, fun i _ => getD_replicate _ _⟩ (hdrew _ _ hG) (fun k i _ => by rw [getD_replicate]; simp) (by simp) (by
    have : unlisted l.length (Array.replicate (l ++ zs).toArray.size false) = l.length := by
      unfold unlisted
      rw [List.filter_eq_self.2 (fun i _ => by rw [getD_replicate]; rfl), List.length_range]
    rw [this]; simp)
  exact this
end
end Go.Proofs.YtcneefmaghoejaaGreatDoor
namespace Go.Proofs.YtcneefmaghoejaaGreatDoor
open Go.RowKit
set_option linter.unusedVariables false
theorem Later.cell {a b : World} (h : Later a b) {p : Addr} (hp : p.block < a.heap.size) : b.cell? p = a.cell? p := Below.cell h hp
theorem grown_cell {a b : World} {row : Option Nat} (h : a.grownBy b row) {p : Addr} (hp : p.block < a.heap.size) (hr : some p.block ≠ row) : b.cell? p = a.cell? p := by
  unfold World.cell?
  rw [h.block p.block hp hr]
def pushOk (o0 o1 o2 o3 o4 o5 o6 : Oper) (q d0 d1 d2 d3 d4 d5 d6 : Tmp) : Bool :=
  (tmpsOf o0 == [q]) && (srcAt [o0, o1, o2, o3, o4, o5, o6] o0 q == none) && (tmpsOf o1 == [d0]) && (srcAt [o0, o1, o2, o3, o4, o5, o6] o1 d0 == some 0) &&
  (tmpsOf o2 == [0]) && (srcAt [o0, o1, o2, o3, o4, o5, o6] o2 0 == none) && (tmpsOf o3 == [d2]) && (srcAt [o0, o1, o2, o3, o4, o5, o6] o3 d2 == some 2) &&
  (tmpsOf o4 == [d3]) && (srcAt [o0, o1, o2, o3, o4, o5, o6] o4 d3 == some 3) && (tmpsOf o5 == [d1, d4]) && (srcAt [o0, o1, o2, o3, o4, o5, o6] o5 d1 == some 1) && (srcAt [o0, o1, o2, o3, o4, o5, o6] o5 d4 == some 4) &&
  (tmpsOf o6 == [q]) && (srcAt [o0, o1, o2, o3, o4, o5, o6] o6 q == none) &&
  (o0.dst == some d0) && (o1.dst == some d1) && (o2.dst == some d2) && (o3.dst == some d3) && (o4.dst == some d4) && (o5.dst == some d5) && (o6.dst == some d6) &&
  o0.guard.isNone && o1.guard.isNone && o2.guard.isNone && o3.guard.isNone && o4.guard.isNone && o5.guard.isNone && o6.guard.isNone
section
variable {P : Program} {β : Type} (f : β → List Value) (val : β → Value) (e : TypeId) (size base : Nat) (l : List β) (lv : Value) (Post : β → World → World → Prop) (w0 : World)
def pushG : List Value → World → Prop
  | [], w => Later w0 w
  | [a], w => ∃ y w1 w1', a = val y ∧ Later w0 w1 ∧ Post y w1 w1' ∧ Later w1' w
  | [a, s], w => ∃ y w1 w1' g0, a = val y ∧ s = .slice (some ⟨g0, 0, none⟩) 1 1 ∧ Later w0 w1 ∧ Post y w1 w1' ∧ Later w1' w ∧ Blk w g0 e (f y).toArray
  | [a, s, v], w => ∃ y w1 w1' w2, a = val y ∧ Later w0 w1 ∧ Post y w1 w1' ∧ Later w1' w2 ∧ OwnF f e size w2 base lv l ∧ w2.grownBy w lv.ownBlock ∧ OwnF f e size w base v (l ++ [y]) ∧ (lv = .slice none 0 0 → l = [] → OwnF f e size w w2.heap.size v [y])
  | _, _ => False
theorem pushG_drew (vs : List Value) (w : World) (h : pushG f val e size base l lv Post w0 vs w) : pushG f val e size base l lv Post w0 vs w.drew := by
  match vs, h with
  | [], h => exact Later.trans h (Later.drew _)
  | [a], ⟨y, w1, w1', h1, h2, h3, h4⟩ => exact ⟨y, w1, w1', h1, h2, h3, h4.trans (Later.drew _)⟩
  | [a, s], ⟨y, w1, w1', g0, h1, h2, h3, h4, h5, h6⟩ => exact ⟨y, w1, w1', g0, h1, h2, h3, h4, h5.trans (Later.drew _), h6.drew⟩
  | [a, s, v], ⟨y, w1, w1', w2, h1, h2, h3, h4, h5, h6, h7, h8⟩ => exact ⟨y, w1, w1', w2, h1, h2, h3, h4, h5, ⟨h6.os, h6.tape, h6.output, h6.size, h6.block⟩, h7.later (Later.drew _), fun a b => (h8 a b).later (Later.drew _)⟩
  | _ :: _ :: _ :: _ :: _, h => exact h.elim
variable {f val e size base l lv Post w0}
variable {Q : Exit → Act → World → Prop} {a0 : Act} {id : Nat} {o0 o1 o2 o3 o4 o5 o6 o7 : Oper} {q d0 d1 d2 d3 d4 d5 d6 : Tmp} {qb k g : Nat} {pq ptr : Value} {F : FuncId} {args : Array Value}
theorem region_push (t ty : TypeId) (z : Value) (bytes : Nat)
    (hm : P.follows .mixedOrders = true) (hok : okFrom [o0, o1, o2, o3, o4, o5, o6] a0.tmps.size [o0, o1, o2, o3, o4, o5, o6] 0 = true) (hz : tailOk [o0, o1, o2, o3, o4, o5, o6, o7] [o7] 7 = true) (hch : chainOk [o0, o1, o2, o3, o4, o5, o6] [3, 4, 5] = true) (hpo : pushOk o0 o1 o2 o3 o4 o5 o6 q d0 d1 d2 d3 d4 d5 d6 = true)
    (hq : a0.eval (.tmp q) = pq) (h0 : a0.eval (.tmp 0) = ptr)
    (hfa : ∀ ρ w, ρ (.tmp q) = pq → (execOp ρ o0).run P w = .ok (.value (.pointer (some ⟨qb, k, none⟩))) w) (hfa2 : ∀ ρ w, ρ (.tmp q) = pq → (execOp ρ o6).run P w = .ok (.value (.pointer (some ⟨qb, k, none⟩))) w)
    (hld : ∀ ρ w, ρ (.tmp d0) = .pointer (some ⟨qb, k, none⟩) → w.cell? ⟨qb, k, none⟩ = some lv → (execOp ρ o1).run P w = .ok (.value lv) w)
    (hmv : ∀ ρ w, ρ (.tmp 0) = ptr → (execOp ρ o2).run P w = .ok (.value ptr) w)
    (hcl : ∀ ρ w, Consts ρ → ρ (.tmp d2) = ptr → (execOp ρ o3).run P w = .ok (.enter F args) w)
    (hbs : ∀ ρ w y, ρ (.tmp d3) = val y → (execOp ρ o4).run P w = .ok (.value (.slice (some ⟨w.heap.size, 0, none⟩) 1 1)) (w.alloc (.cells (f y).toArray e)))
    (hap : ∀ ρ w s v' w', ρ (.tmp d1) = lv → ρ (.tmp d4) = s → (Builtin.append_ #[t, t] ty #[lv, s]).run P w = .ok v' w' → (execOp ρ o5).run P w = .ok (.value v') w')
    (ht : P.underlying t = some (.slice e)) (hinfo : (P.info? e).map (fun i => (i.zero, i.size, i.bytes)) = some (some z, size, bytes)) (hzs : z.cells.size = size) (hsz : 0 < size) (hf : ∀ x, (f x).length = size) (h1 : ∀ y, ∀ u ∈ f y, u.oneCell' = true)
    (hown : OwnF f e size w0 base lv l) (hcell : w0.cell? ⟨qb, k, none⟩ = some lv) (hqg : qb ≠ g) (hlg : lv.ownBlock ≠ some g) (hlq : lv.ownBlock ≠ some qb) (hlen : (l.length + 1) * bytes ≤ 140737488355328) (hlen2 : l.length + 1 ≤ 140737488355328) (hbase : base ≤ w0.heap.size)
    (hcall : ∀ w, Later w0 w → Calls P F args w fun e w' => ∃ y, e = .returned (val y) ∧ Post y w w') (hpg : ∀ y w w', Post y w w' → w.grownBy w' (some g))
    (hfin : ∀ y s v' w1 w1' w2 W, Later w0 w1 → Post y w1 w1' → Later w1' w2 → OwnF f e size w2 base lv l → w2.grownBy W lv.ownBlock → OwnF f e size W base v' (l ++ [y]) → (lv = .slice none 0 0 → l = [] → OwnF f e size W w2.heap.size v' [y]) → W.cell? ⟨qb, k, none⟩ = some lv →
      wpList P [o0, o1, o2, o3, o4, o5, o6, o7].toArray Q [o7] (((((((a0.put (some d0) (.pointer (some ⟨qb, k, none⟩))).put (some d1) lv).put (some d2) ptr).put (some d3) (val y)).put (some d4) s).put (some d5) v').put (some d6) (.pointer (some ⟨qb, k, none⟩))) W) :
    (Code.region id [o0, o1, o2, o3, o4, o5, o6, o7].toArray true).wp P Q a0 w0 := by
  simp only [pushOk, Bool.and_eq_true, beq_iff_eq, Option.isNone_iff_eq_none] at hpo
  obtain ⟨⟨⟨⟨⟨⟨⟨⟨⟨⟨⟨⟨⟨⟨⟨⟨⟨⟨⟨⟨⟨⟨⟨⟨⟨⟨⟨⟨t0, s0⟩, t1⟩, s1⟩, t2⟩, s2⟩, t3⟩, s3⟩, t4⟩, s4⟩, t5⟩, s5⟩, s5'⟩, t6⟩, s6⟩, e0⟩, e1⟩, e2⟩, e3⟩, e4⟩, e5⟩, e6⟩, g0⟩, g1⟩, g2⟩, g3⟩, g4⟩, g5⟩, g6⟩ := hpo
  have hqw : qb < w0.heap.size := (by rcases Nat.lt_or_ge qb w0.heap.size with h | h; exact h; exact absurd hcell (by unfold World.cell?; rw [Array.getElem?_eq_none h]; simp))
  -- the cell stays
  have keep1 : ∀ {y w1 w1' w}, Later w0 w1 → Post y w1 w1' → Later w1' w → w.cell? ⟨qb, k, none⟩ = some lv ∧ OwnF f e size w base lv l ∧ w0.heap.size ≤ w.heap.size := by
    intro y w1 w1' w ha hb hc
    have hg := hpg _ _ _ hb
    have z1 : qb < w1.heap.size := Nat.lt_of_lt_of_le hqw ha.size
    have z2 : qb < w1'.heap.size := Nat.lt_of_lt_of_le z1 hg.size
    refine ⟨?_, ?_, Nat.le_trans ha.size (Nat.le_trans hg.size hc.size)⟩
    · rw [hc.cell (p := ⟨qb, k, none⟩) z2, grown_cell hg (p := ⟨qb, k, none⟩) z1 (fun e => hqg (by injection e)), ha.cell (p := ⟨qb, k, none⟩) hqw]
      exact hcell
    · exact ((hown.later ha).grown hg hlg).later hc
  have hcellG : ∀ vs w, pushG f val e size base l lv Post w0 vs w → w.cell? ⟨qb, k, none⟩ = some lv := by
    intro vs w h
    match vs, h with
    | [], h => rw [Later.cell h (p := ⟨qb, k, none⟩) hqw]; exact hcell
    | [a], ⟨y, w1, w1', _, h2, h3, h4⟩ => exact (keep1 h2 h3 h4).1
    | [a, s], ⟨y, w1, w1', _, _, _, h2, h3, h4, _⟩ => exact (keep1 h2 h3 h4).1
    | [a, s, v], ⟨y, w1, w1', w2, _, h2, h3, h4, _, h6, _, _⟩ =>
      obtain ⟨k1, _, k3⟩ := keep1 h2 h3 h4
      rw [grown_cell h6 (p := ⟨qb, k, none⟩) (Nat.lt_of_lt_of_le hqw k3) (fun e => hlq e.symm)]
      exact k1
    | _ :: _ :: _ :: _ :: _, h => exact h.elim
  refine region_chain [o7] [o0, o1, o2, o3, o4, o5, o6] rfl (fun i => if i = 0 then .pointer (some ⟨qb, k, none⟩) else if i = 1 then lv else if i = 2 then ptr else .pointer (some ⟨qb, k, none⟩)) [3, 4, 5] (pushG f val e size base l lv Post w0) (pushG_drew f val e size base l lv Post w0) (Later.refl w0) hm hok hz hch (by decide) rfl ?_ ?_
  · refine ⟨?_, ?_, ?_, ?_, ?_, ?_, ?_, trivial⟩
    · intro ρ w vs hc hG hr
      rw [t0] at hr
      have r0 := hr.1
      simp only [s0] at r0
      exact ⟨g0, hfa ρ w (r0.trans hq)⟩
    · intro ρ w vs hc hG hr
      rw [t1] at hr
      have r0 := hr.1
      simp only [s1] at r0
      exact ⟨g1, hld ρ w r0 (hcellG _ _ hG)⟩
    · intro ρ w vs hc hG hr
      rw [t2] at hr
      have r0 := hr.1
      simp only [s2] at r0
      exact ⟨g2, hmv ρ w (r0.trans h0)⟩
    · intro ρ w vs hc hG hr
      rw [t3] at hr
      have r0 := hr.1
      simp only [s3] at r0
      refine ⟨g3, ?_⟩
      show vs.length = 0 → _
      intro hl
      obtain rfl := List.eq_nil_of_length_eq_zero hl
      refine opW_call (hcl ρ w hc r0) ((hcall w hG).mono ?_)
      rintro e' w' ⟨y, rfl, hp⟩
      exact ⟨_, rfl, y, w, w', rfl, hG, hp, Later.refl _⟩
    · intro ρ w vs hc hG hr
      rw [t4] at hr
      have r0 := hr.1
      simp only [s4] at r0
      refine ⟨g4, ?_⟩
      show vs.length = 1 → _
      intro hl
      match vs, hl with
      | [a], _ =>
        have r0 : some a = some (ρ (.tmp d3)) := r0
        injection r0 with r0
        obtain ⟨y, w1, w1', ha, h2, h3, h4⟩ := hG
        refine opW_run (hbs ρ w y (r0.symm.trans ha)) ?_
        exact ⟨y, w1, w1', w.heap.size, ha, rfl, h2, h3, h4.trans ((Below.refl _ _).alloc (Nat.le_refl _) _), Blk.new w e _⟩
    · intro ρ w vs hc hG hr
      rw [t5] at hr
      have r0 := hr.1
      have r1 := hr.2.1
      simp only [s5] at r0
      simp only [s5'] at r1
      refine ⟨g5, ?_⟩
      show vs.length = 2 → _
      intro hl
      match vs, hl with
      | [a, s], _ =>
        have r1 : some s = some (ρ (.tmp d4)) := r1
        injection r1 with r1
        obtain ⟨y, w1, w1', gg, ha, hs, h2, h3, h4, h5⟩ := hG
        obtain ⟨k1, k2, k3⟩ := keep1 h2 h3 h4
        obtain ⟨v', w', hrun, ho, har⟩ := run_append_one (P := P) (w := w) t ty z bytes ht hinfo hzs hsz hf (h1 y) k2 gg h5 hlen hlen2 (Nat.le_trans hbase k3)
        refine opW_run (hap ρ w _ v' w' r0 (r1.symm.trans hs) hrun) ⟨y, w1, w1', w, ha, h2, h3, h4, k2, har.grown, ho, ?_⟩
        intro hlv hl0
        subst hl0
        have k4 : OwnF f e size w w.heap.size lv ([] : List β) := by rw [hlv]; exact OwnF.nil
        obtain ⟨v2, w2', hrun2, ho2, _⟩ := run_append_one (P := P) (w := w) t ty z bytes ht hinfo hzs hsz hf (h1 y) k4 gg h5 hlen hlen2 (Nat.le_refl _)
        rw [hrun] at hrun2
        injection hrun2 with e1 e2
        rw [e1, e2]
        exact ho2
    · intro ρ w vs hc hG hr
      rw [t6] at hr
      have r0 := hr.1
      simp only [s6] at r0
      exact ⟨g6, hfa2 ρ w (r0.trans hq)⟩
  · intro vs w hl hG
    have hcl2 := hcellG _ _ hG
    match vs, hl with
    | [a, s, v], _ =>
      obtain ⟨y, w1, w1', w2, ha, h2, h3, h4, h5, h6, h7, h8⟩ := hG
      simp only [FinOf, e0, e1, e2, e3, e4, e5, e6]
      intro a0' p0 a1 p1 a2 p2 a3 p3 a4 p4 a5 p5 a6 p6
      have z0 : a0' = .pointer (some ⟨qb, k, none⟩) := p0
      have z1 : a1 = lv := p1
      have z2 : a2 = ptr := p2
      have z3 : some a = some a3 := p3
      have z4 : some s = some a4 := p4
      have z5 : some v = some a5 := p5
      have z6 : a6 = .pointer (some ⟨qb, k, none⟩) := p6
      injection z3 with z3
      injection z4 with z4
      injection z5 with z5
      rw [z0, z1, z2, ← z3, ← z4, ← z5, z6, ha]
      exact hfin y s v w1 w1' w2 w h2 h3 h4 h5 h6 h7 h8 hcl2
end
end Go.Proofs.YtcneefmaghoejaaGreatDoor
