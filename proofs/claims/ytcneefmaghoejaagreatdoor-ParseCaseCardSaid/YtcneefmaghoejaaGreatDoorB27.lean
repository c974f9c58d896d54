/- Parts of the proof: Gs, RuleM, Gd. Put together by slim.py. -/
import Derived.Test.YtcneefmaghoejaaGreatDoorB16
import Derived.Test.YtcneefmaghoejaaGreatDoorB22
import Derived.Test.YtcneefmaghoejaaGreatDoorB26
namespace Go.Proofs.YtcneefmaghoejaaGreatDoor
open Go.ChangeShapes Go.WideShapes Go.ChangeAt Go.RowKit
set_option linter.unusedVariables false
set_option linter.unusedSimpArgs false
structure GLs where
  ρ : Rdr
  W0 : World
  TQ : TypeId
  qb : Nat
  k : Nat
  pb : Nat
  B : Nat
  cs : Array Value
  os : List (Nat × TypeId × Array Value)
  Kp : World → (Nat → Prop) → Prop
structure GLs.Fit (γ : GLs) : Prop where
  gg : γ.ρ.g < γ.W0.heap.size
  q0 : γ.W0.heap.size ≤ γ.qb
  p0 : γ.ρ.g < γ.pb
  pq : γ.pb ≠ γ.qb
  qB : γ.qb < γ.B
  pB : γ.pb < γ.B
  os : ∀ x ∈ γ.os, γ.W0.heap.size ≤ x.1 ∧ x.1 ≠ γ.qb ∧ x.1 < γ.B
  kS : γ.k < γ.cs.size
  kp : ∀ w w' S S', γ.Kp w S → (∀ b, S b → (∀ o, w'.cell? ⟨b, o, none⟩ = w.cell? ⟨b, o, none⟩) ∧ S' b) → γ.Kp w' S'
structure GLs.at_ {α : Type} (γ : GLs) (E : El α) (T : TypeId) (v : Value) (acc : List α) (W : World) : Prop where
  blk : Blk W γ.qb γ.TQ (γ.cs.setIfInBounds γ.k v)
  row : Grows E T W γ.B v acc
  kp : γ.Kp W (Own0 γ.B v W)
  sz : γ.B ≤ W.heap.size
  pbk : Blk W γ.pb 58 #[γ.ρ.ptr]
  oth : ∀ x ∈ γ.os, Blk W x.1 x.2.1 x.2.2
def GLs.acc {α : Type} (γ : GLs) (E : El α) (T : TypeId) (acc : List α) (W : World) : Prop := ∃ v, γ.at_ E T v acc W
section
variable {α : Type} {γ : GLs} {E : El α} {T : TypeId} {v v' : Value} {acc : List α} {W W' W2 : World}
theorem GLs.at_.later (A : γ.at_ E T v acc W) (F : γ.Fit) (h : Below W.heap.size W W') : γ.at_ E T v acc W' :=
  ⟨A.blk.later h, A.row.later h, F.kp _ _ _ _ A.kp (own0_later h), Nat.le_trans A.sz h.size, A.pbk.later h, fun x hx => (A.oth x hx).later h⟩
theorem GLs.at_.grown (A : γ.at_ E T v acc W) (F : γ.Fit) (h : W.grownBy W' (some γ.ρ.g)) : γ.at_ E T v acc W' := by
  have h1 := F.gg; have h2 := F.q0; have h3 := F.p0; have h4 := F.qB
  exact ⟨A.blk.grown h (by simp; omega), A.row.grown h (by omega), F.kp _ _ _ _ A.kp (own0_grown h (by omega)), Nat.le_trans A.sz h.size, A.pbk.grown h (by simp; omega), fun x hx => (A.oth x hx).grown h (by have := F.os x hx; simp; omega)⟩
theorem GLs.at_.ge (A : γ.at_ E T v acc W) {G : Nat} (hG : v.ownBlock = some G) : γ.B ≤ G ∧ G < W.heap.size := A.row.own_ge hG
theorem GLs.at_.cell (A : γ.at_ E T v acc W) (F : γ.Fit) : W.cell? ⟨γ.qb, γ.k, none⟩ = some v := by rw [A.blk.cell]; simp [F.kS]
theorem GLs.at_.ptr (A : γ.at_ E T v acc W) : W.cell? ⟨γ.pb, 0, none⟩ = some γ.ρ.ptr := A.pbk.cell 0
theorem GLs.at_.push {n0 : Nat} {x : α} {y : E.β} {l : Wds} {lg dp : Bool} (A : γ.at_ E T v acc W) (F : γ.Fit) (D : GDid γ.ρ γ.W0 W l lg dp) (hr : E.rel W (Btw n0 W) x y) (hn0 : γ.B ≤ n0) (hv0 : ∀ G, v.ownBlock = some G → G < n0) {ys : List E.β} (ha : All2 (E.rel W (Own0 γ.B v W)) acc ys)
    {W1 : World} (hl : Below W.heap.size W W1) (hgw : W1.grownBy W2 v.ownBlock) (hov : OwnF E.f T E.size W2 γ.B v' (ys ++ [y])) (hv : v'.ownBlock = v.ownBlock ∨ v'.ownBlock = some W1.heap.size) :
    W2.cell? ⟨γ.qb, γ.k, none⟩ = some v ∧ W2.frozen? ⟨γ.qb, γ.k, none⟩ = false ∧ γ.at_ E T v' (acc ++ [x]) (W2.setCell ⟨γ.qb, γ.k, none⟩ v') ∧ GDid γ.ρ γ.W0 (W2.setCell ⟨γ.qb, γ.k, none⟩ v') l lg dp := by
  have h1 := F.gg; have h2 := F.q0; have h3 := F.p0; have h4 := F.qB; have h5 := F.pB; have h6 := F.pq
  have hnq : ∀ (q : Nat), q < γ.B → some q ≠ v.ownBlock := fun q hq e' => by have := (A.ge e'.symm).1; omega
  have hX := (A.blk.later hl).grown hgw (hnq _ h4)
  have hX2 := hX.set_ γ.k v'
  rw [Array.setIfInBounds_setIfInBounds] at hX2
  have hacc := own0_app (B := γ.B) hgw hv
  have hel : ∀ b, Btw n0 W b → (∀ o, (W2.setCell ⟨γ.qb, γ.k, none⟩ v').cell? ⟨b, o, none⟩ = W.cell? ⟨b, o, none⟩) ∧ Own0 γ.B v' (W2.setCell ⟨γ.qb, γ.k, none⟩ v') b := fun b hb => by
    obtain ⟨c1, s1⟩ := own0_new hn0 hv0 b hb
    obtain ⟨c2, s2⟩ := own0_later hl b s1
    obtain ⟨c3, s3⟩ := hacc b s2
    obtain ⟨c4, s4⟩ := own0_far h4 γ.k v' b s3
    exact ⟨fun o => (c4 o).trans ((c3 o).trans ((c2 o).trans (c1 o))), s4⟩
  have hol : ∀ b, Own0 γ.B v W b → (∀ o, (W2.setCell ⟨γ.qb, γ.k, none⟩ v').cell? ⟨b, o, none⟩ = W.cell? ⟨b, o, none⟩) ∧ Own0 γ.B v' (W2.setCell ⟨γ.qb, γ.k, none⟩ v') b := fun b hb => by
    obtain ⟨c2, s2⟩ := own0_later hl b hb
    obtain ⟨c3, s3⟩ := hacc b s2
    obtain ⟨c4, s4⟩ := own0_far h4 γ.k v' b s3
    exact ⟨fun o => (c4 o).trans ((c3 o).trans (c2 o)), s4⟩
  have hge' : ∀ G, v'.ownBlock = some G → γ.qb < G := fun G hG => by
    have := (hov.lt hG).2.1
    omega
  refine ⟨by rw [hX.cell]; simp [F.kS], hX.frozen _, ⟨hX2, ⟨ys ++ [y], hov.keep fun g hg => Below.heap_setCell W2 ⟨γ.qb, γ.k, none⟩ v' g (by have := hge' g hg; simp; omega), All2.append (ha.imp fun _ _ => E.keep hol) (.one (E.keep hel hr))⟩, F.kp _ _ _ _ A.kp hol, by have := A.sz; have := hl.size; have := hgw.size; simp [World.setCell]; omega, ((A.pbk.later hl).grown hgw (hnq _ h5)).far (p := ⟨γ.qb, γ.k, none⟩) (by simp; omega) v', fun z hz => ?_⟩, ?_⟩
  · obtain ⟨a, b, c⟩ := F.os z hz
    exact (((A.oth z hz).later hl).grown hgw (hnq _ c)).far (p := ⟨γ.qb, γ.k, none⟩) (by simp; omega) v'
  · exact ((D.later hl).own h1 hgw (fun G hG => by have := (A.ge hG).1; omega)).far h1 h2 _ _
end
theorem item_one : ∀ y, ∀ u ∈ elItem.f y, u.oneCell' = true := by
  intro y u hu; simp [elItem, exC] at hu; rcases hu with rfl | rfl | rfl | rfl | rfl | rfl | rfl | rfl <;> rfl
theorem order_one : ∀ y, ∀ u ∈ elOrder.f y, u.oneCell' = true := by
  intro y u hu; simp [elOrder, exC] at hu; rcases hu with rfl | rfl | rfl | rfl | rfl | rfl | rfl | rfl <;> rfl
theorem set_one : ∀ y, ∀ u ∈ elSet.f y, u.oneCell' = true := by
  intro y u hu; simp [elSet, exC] at hu; rcases hu with rfl | rfl | rfl | rfl | rfl | rfl | rfl | rfl <;> rfl
theorem col_one : ∀ y, ∀ u ∈ elCol.f y, u.oneCell' = true := by
  intro y u hu; simp [elCol] at hu; rcases hu with rfl | rfl <;> rfl
theorem row_one : ∀ y, ∀ u ∈ elRow.f y, u.oneCell' = true := by
  intro y u hu; simp [elRow] at hu; rcases hu with rfl; rfl
theorem tr_one : ∀ y, ∀ u ∈ elTr.f y, u.oneCell' = true := by
  intro y u hu; simp [elTr, exC] at hu; rcases hu with rfl | rfl | rfl | rfl | rfl | rfl | rfl <;> rfl
theorem own_form {α : Type} {f : α → List Value} {e : TypeId} {size : Nat} {w : World} {B : Nat} {v : Value} {l : List α} (h : OwnF f e size w B v l) : ∃ A n c, v = .slice A n c := by
  obtain ⟨A, c, h⟩ := h.form
  exact ⟨A, _, c, h⟩
theorem wpList_append_E {α : Type} {γ : GLs} {E : El α} {T : TypeId} {v : Value} {acc : List α} {W : World} {ops : Array Oper} {rest : List Oper} {o : Oper} {a : Act} {Q : Exit → Act → World → Prop} (A : γ.at_ E T v acc W) (F : γ.Fit) (hgd : o.guard = none) (s x : Operand) (t : TypeId)
    (ho : o.op = .call { callee := .builtin .append, args := #[s, x], argTypes := #[t, t] })
    (z : Value) (bytes : Nat) (ht : Tryz.prog.underlying t = some (.slice T)) (hinfo : (Tryz.prog.info? T).map (fun i => (i.zero, i.size, i.bytes)) = some (some z, E.size, bytes)) (hzs : z.cells.size = E.size) (hsz : 0 < E.size)
    (y : E.β) (h1 : ∀ u ∈ E.f y, u.oneCell' = true) (hs : a.eval s = v) (hx : a.eval x = .slice (some ⟨W.heap.size, 0, none⟩) 1 1)
    (hlen : (acc.length + 1) * bytes ≤ 140737488355328) (hlen2 : acc.length + 1 ≤ 140737488355328) (hB : γ.B ≤ W.heap.size)
    (h : ∀ (ys : List E.β) v' W2, All2 (E.rel W (Own0 γ.B v W)) acc ys → OwnF E.f T E.size W2 γ.B v' (ys ++ [y]) → (W.alloc (.cells (E.f y).toArray T)).grownBy W2 v.ownBlock → (v'.ownBlock = v.ownBlock ∨ v'.ownBlock = some (W.alloc (.cells (E.f y).toArray T)).heap.size) → wpList Tryz.prog ops Q rest (a.put o.dst v') W2) : wpList Tryz.prog ops Q (o :: rest) a (W.alloc (.cells (E.f y).toArray T)) := by
  obtain ⟨ys, hown, ha⟩ := A.row.has
  have hl := ha.len
  exact wpList_append_one2 hgd s x t ho z bytes ht hinfo hzs hsz y (E.hf y) h1 hs (hown.later (later_new W _)) W.heap.size hx (Blk.new W _ _) (by rw [hl]; exact hlen) (by rw [hl]; exact hlen2) (by simp; omega) (fun v' W2 h2 h3 h4 => h ys v' W2 ha h2 h3 h4)
end Go.Proofs.YtcneefmaghoejaaGreatDoor
namespace Go.Proofs.YtcneefmaghoejaaGreatDoor
open Go.RowKit
set_option linter.unusedVariables false
def VofM (u : Nat → Value) (M : List Nat) (σ : Nat → Option Value) (i : Nat) (_ : World) (v : Value) : Prop := if i ∈ M then σ i = some v else v = u i
def updM (σ : Nat → Option Value) (i : Nat) (v : Value) : Nat → Option Value := fun j => if j = i then some v else σ j
theorem updM_same (σ : Nat → Option Value) (i : Nat) (v : Value) : updM σ i v i = some v := by simp [updM]
theorem updM_ne (σ : Nat → Option Value) {i j : Nat} (v : Value) (h : j ≠ i) : updM σ i v j = σ j := by simp [updM, h]
def StepM (P : Program) (l : List Oper) (u : Nat → Value) (M : List Nat) (G : (Nat → Option Value) → World → Prop) (a0 : Act) (i : Nat) (o : Oper) : Prop :=
  ∀ ρ w σ, Consts ρ → G σ w → readsAll l (VofM u M σ) a0.eval ρ w o (tmpsOf o) → (∀ e ∈ edges o, e ∈ M → (σ e).isSome = true) → (i ∈ M → σ i = none) → o.guard = none ∧
    if i ∈ M then opW P o ρ w fun v w' => G (updM σ i v) w' else (execOp ρ o).run P w = .ok (.value (u i)) w
def StepsM (P : Program) (l : List Oper) (u : Nat → Value) (M : List Nat) (G : (Nat → Option Value) → World → Prop) (a0 : Act) : List Oper → Nat → Prop
  | [], _ => True
  | o :: rest, i => StepM P l u M G a0 i o ∧ StepsM P l u M G a0 rest (i + 1)
theorem StepsM_at {P : Program} {L : List Oper} {u : Nat → Value} {M : List Nat} {G : (Nat → Option Value) → World → Prop} {a0 : Act} : ∀ {l : List Oper} {k : Nat}, StepsM P L u M G a0 l k → ∀ i o, l[i]? = some o → StepM P L u M G a0 (k + i) o
  | [], _, _, i, o, h => by simp at h
  | x :: l, k, hs, 0, o, h => by simp at h; subst h; exact hs.1
  | x :: l, k, hs, i + 1, o, h => by
    have := StepsM_at hs.2 i o (by simpa using h)
    rwa [show k + 1 + i = k + (i + 1) by omega] at this
section
variable {P : Program} {l zs : List Oper} {Q : Exit → Act → World → Prop} {u : Nat → Value} {M : List Nat} {G : (Nat → Option Value) → World → Prop} {a0 : Act} {w0 : World} {V : Nat → World → Value → Prop}
theorem fin_restV {N : Nat} (hok : okFrom l N l 0 = true) (hz : tailOk (l ++ zs) zs l.length = true) {listed : Array Bool} {a : Act} {w : World} (hf : FinOf V (fun a w => wpList P (l ++ zs).toArray Q zs a w) l 0 a0 w) (I : Inv l V (fun _ _ => True) a0 w0 (l ++ zs).length listed a w)
    (h0 : unlisted l.length listed = 0) : wpAny P .any (l ++ zs).toArray Q zs.length listed a w := by
  have hall := unlisted_zero h0
  have ha : a = fill (fun d => a.eval (.tmp d)) l a0 := by
    have h1 : a.tmps = (fill (fun d => a.eval (.tmp d)) l a0).tmps := by
      apply Array.ext_getElem?
      intro t
      by_cases ht : t < a0.tmps.size
      · rw [fill_get _ _ _ _ ht]
        split
        · simp [Act.eval, I.size, ht]
        · rename_i hno
          refine I.old t ?_
          intro i o hi hd _
          exact hno ⟨o, List.mem_of_getElem? hi, hd⟩
      · rw [Array.getElem?_eq_none (by rw [I.size]; omega), Array.getElem?_eq_none (by rw [fill_size]; omega)]
    have h2 : a.defers = (fill (fun d => a.eval (.tmp d)) l a0).defers := by rw [fill_defers, I.defers]
    exact act_ext h1 h2
  have hK := fin_of (V := V) (fun d => a.eval (.tmp d)) l 0 a0 (fun i o d hi hd => by
    rw [Nat.zero_add]
    have hil : i < l.length := by
      rcases Nat.lt_or_ge i l.length with h' | h'
      · exact h'
      · rw [List.getElem?_eq_none h'] at hi; cases hi
    exact I.new i o d hi (hall i hil) hd) hf
  rw [← ha] at hK
  refine tail_any hok hz 0 zs rfl listed a w I.len ?_ hK
  intro i hi
  constructor
  · intro hl
    rcases Nat.lt_or_ge i l.length with h' | h'
    · omega
    · rw [I.tail i h'] at hl; cases hl
  · intro hl
    exact hall i (by omega)
theorem region_many {id : Nat} {ops : List Oper} (zs : List Oper) (l : List Oper) (hops : ops = l ++ zs) (u : Nat → Value) (M : List Nat) (G : (Nat → Option Value) → World → Prop) (hdrew : ∀ σ w, G σ w → G σ w.drew) (hG : G (fun _ => none) w0)
    (hm : P.follows .mixedOrders = true) (hok : okFrom l a0.tmps.size l 0 = true) (hz : tailOk (l ++ zs) zs l.length = true) (hin : M.all (fun i => decide (i < l.length)) = true)
    (hs : StepsM P l u M G a0 l 0) (hf : ∀ σ w, (∀ i ∈ M, (σ i).isSome = true) → G σ w → FinOf (VofM u M σ) (fun a w => wpList P ops.toArray Q zs a w) l 0 a0 w) : (Code.region id ops.toArray true).wp P Q a0 w0 := by
  subst hops
  have main : ∀ (fuel : Nat) (listed : Array Bool) (a : Act) (w : World) (σ : Nat → Option Value), Inv l (VofM u M σ) (fun _ _ => True) a0 w0 (l ++ zs).length listed a w → G σ w → (∀ i ∈ M, (listed.getD i false = true ↔ (σ i).isSome = true)) → fuel = unlisted l.length listed + zs.length → wpAny P .any (l ++ zs).toArray Q fuel listed a w := by
    intro fuel
    induction fuel with
    | zero =>
      intro listed a w σ I hg hcl hfu
      have h0 : unlisted l.length listed = 0 := by omega
      have hz0 : zs.length = 0 := by omega
      have hall := unlisted_zero h0
      have := fin_restV hok hz (hf σ w (fun i hi => (hcl i hi).1 (hall i (of_decide_eq_true (List.all_eq_true.1 hin i hi)))) hg) I h0
      rwa [hz0] at this
    | succ fuel ih =>
      intro listed a w σ I hg hcl hfu
      by_cases h0 : unlisted l.length listed = 0
      · have hall := unlisted_zero h0
        have := fin_restV hok hz (hf σ w (fun i hi => (hcl i hi).1 (hall i (of_decide_eq_true (List.all_eq_true.1 hin i hi)))) hg) I h0
        rwa [show zs.length = fuel + 1 by omega] at this
      · obtain ⟨i0, hi0, hu0⟩ := unlisted_pos h0
        obtain ⟨i, ⟨hi, hu⟩, hmin⟩ := least (p := fun i => i < l.length ∧ listed.getD i false = false) i0 ⟨hi0, hu0⟩
        have hone : ∀ j, j < i → listed.getD j false = true := fun j hj => by
          cases hc : listed.getD j false with
          | true => rfl
          | false => exact absurd ⟨by omega, hc⟩ (hmin j hj)
        have hli : l[i]? = some l[i] := List.getElem?_eq_getElem hi
        have hoki := okFrom_at hok i _ hli
        simp only [okAt, Bool.and_eq_true, Nat.zero_add] at hoki
        have hready : i ∈ Region.ready .any (l ++ zs).toArray listed := by
          refine ready_of (get_left hli) ?_ fun j hj => hone j (of_decide_eq_true (List.all_eq_true.1 hoki.1.1.1 j hj))
          rw [getD_alike (by rw [I.len]; simp; omega)]; exact hu
        refine ⟨(fun hnil => by rw [hnil] at hready; cases hready), fun j hj => ?_⟩
        obtain ⟨huj, oj, hoj, hall⟩ := mem_ready.1 hj
        have hjn : j < (l ++ zs).length := by
          rcases Nat.lt_or_ge j (l ++ zs).length with h' | h'
          · exact h'
          · rw [Array.getElem?_eq_none (by simpa using h')] at hoj; cases hoj
        rw [getD_alike (by rw [I.len]; exact hjn)] at huj
        have hedges : ∀ k ∈ edges oj, listed.getD k false = true := fun k hk => by
          obtain ⟨e, he, hb, rfl⟩ := mem_edges.1 hk
          exact hall e he hb
        have hjl : j < l.length := by
          rcases Nat.lt_or_ge j l.length with h' | h'
          · exact h'
          · exfalso
            have hzj : zs[j - l.length]? = some oj := by
              have : (l ++ zs)[j]? = some oj := by simpa using hoj
              rw [List.getElem?_append_right (by omega)] at this; exact this
            have hti := tailOk_at hz (j - l.length) oj hzj
            rw [show l.length + (j - l.length) = j by omega] at hti
            have hc := covers_spec (L := l ++ zs) (fun k => listed.getD k false = true) (by
              intro k ok hk hd e he
              rcases Nat.lt_or_ge k l.length with h'' | h''
              · rw [List.getElem?_append_left h''] at hk
                exact I.closed k ok hk hd e he
              · rw [I.tail k h''] at hd; cases hd) j (edges oj) hti.2 hedges i (by omega)
            rw [hu] at hc; cases hc
        have hlj : l[j]? = some oj := by
          have : (l ++ zs)[j]? = some oj := by simpa using hoj
          rw [List.getElem?_append_left hjl] at this; exact this
        have hst := StepsM_at hs j oj hlj
        rw [Nat.zero_add] at hst
        have hrd := Inv.reads hok I hlj huj hedges (tmpsOf oj) (fun _ h => h)
        have hnone : j ∈ M → σ j = none := fun hjm => by
          cases hσ : σ j with
          | none => rfl
          | some v => have := (hcl j hjm).2 (by rw [hσ]; rfl); rw [huj] at this; cases this
        obtain ⟨hgd, hstep⟩ := hst a.eval w σ (consts_eval a) hg hrd (fun e he hem => (hcl e hem).1 (hedges e he)) hnone
        have hjs : j < listed.size := by rw [I.len]; exact hjn
        have hfu2 : fuel = unlisted l.length (listed.setIfInBounds j true) + zs.length := by
          have := unlisted_set l.length listed j hjs hjl huj
          omega
        unfold wpOp
        rw [hoj]
        show if Region.wanted oj (yielded (l ++ zs).toArray a.tmps) = true then _ else _
        rw [if_pos (by simp [Region.wanted, hgd])]
        refine .inl ?_
        by_cases hjm : j ∈ M
        · rw [if_pos hjm] at hstep
          refine wp_of_opW hstep ?_
          intro v w' hg'
          have hne : ∀ i, i ≠ j → updM σ j v i = σ i := fun i hi => updM_ne σ v hi
          have I' : Inv l (VofM u M (updM σ j v)) (fun _ _ => True) a0 w0 (l ++ zs).length listed a w := I.imp (fun i w x h => by
            unfold VofM at *
            by_cases him : i ∈ M
            · rw [if_pos him] at h ⊢
              rw [hne i (fun e => by subst e; rw [hnone him] at h; cases h)]
              exact h
            · rw [if_neg him] at h ⊢; exact h)
          refine ih _ _ _ (updM σ j v) (I'.step hok (fun _ _ _ _ h _ => h) (fun _ _ _ _ _ => trivial) hlj hjn huj hedges trivial ?_) hg' ?_ hfu2
          · unfold VofM; rw [if_pos hjm]; exact updM_same σ j v
          · intro k hk
            rw [getD_set _ _ _ hjs]
            by_cases hkj : k = j
            · subst hkj
              rw [updM_same]
              simp
            · rw [if_neg hkj, hne k hkj]
              exact hcl k hk
        · rw [if_neg hjm] at hstep
          refine wp_of_opW (T := fun v w' => v = u j ∧ w' = w) (opW_run hstep ⟨rfl, rfl⟩) ?_
          rintro v w' ⟨rfl, rfl⟩
          refine ih _ _ _ σ (I.step hok (fun _ _ _ _ h _ => h) (fun _ _ _ _ _ => trivial) hlj hjn huj hedges trivial ?_) hg ?_ hfu2
          · unfold VofM; rw [if_neg hjm]
          · intro k hk
            rw [getD_set _ _ _ hjs, if_neg (fun e : k = j => hjm (by rw [← e]; exact hk))]
            exact hcl k hk
  refine wp_region_any hm ?_
  have := main (l ++ zs).toArray.size (Array.replicate (l ++ zs).toArray.size false) a0 w0.drew (fun _ => none) ⟨trivial, rfl, rfl, fun _ _ => rfl, (fun i o d _ h => by rw [getD_replicate] at h; cases h), (fun i o _ h => by rw [getD_replicate] at h; cases h), by simp, fun i _ => getD_replicate _ _⟩ (hdrew _ _ hG) (fun i _ => by rw [getD_replicate]; simp) (by
    have : unlisted l.length (Array.replicate (l ++ zs).toArray.size false) = l.length := by
      unfold unlisted
      rw [List.filter_eq_self.2 (fun i _ => by rw [getD_replicate]; rfl), List.length_range]
    rw [this]; simp)
  exact this
end
end Go.Proofs.YtcneefmaghoejaaGreatDoor
namespace Go.Proofs.YtcneefmaghoejaaGreatDoor
open Go.ChangeShapes Go.WideShapes Go.ChangeAt Go.RowKit
set_option linter.unusedVariables false
set_option linter.unusedSimpArgs false
theorem set7 (b0 b1 b2 b3 b4 b5 b6 u0 u1 u2 u3 u4 u5 u6 : Value) (C : List Value) : ∀ A : List Value, (((((((A ++ (b0 :: b1 :: b2 :: b3 :: b4 :: b5 :: b6 :: C)).set A.length u0).set (A.length + 1) u1).set (A.length + 2) u2).set (A.length + 3) u3).set (A.length + 4) u4).set (A.length + 5) u5).set (A.length + 6) u6 = A ++ (u0 :: u1 :: u2 :: u3 :: u4 :: u5 :: u6 :: C)
  | [] => rfl
  | a :: A => by
    have ih := set7 b0 b1 b2 b3 b4 b5 b6 u0 u1 u2 u3 u4 u5 u6 C A
    simp only [List.cons_append, List.length_cons, show ∀ k, A.length + 1 + k = (A.length + k) + 1 from fun k => by omega, List.set_cons_succ, ih]
def putEA (w : World) (g off : Nat) (y : Ex) : World := ((((((w.setCell ⟨g, off, none⟩ (.int .u8 y.op)).setCell ⟨g, off + 1, none⟩ (.int .u8 y.v.k)).setCell ⟨g, off + 2, none⟩ (.int .i64 y.v.n)).setCell ⟨g, off + 3, none⟩ (.string y.v.s)).setCell ⟨g, off + 4, none⟩ (.string y.name)).setCell ⟨g, off + 5, none⟩ (.int .i64 y.width)).setCell ⟨g, off + 6, none⟩ (.slice y.A y.n y.c)
theorem putEA_far (w : World) (g off : Nat) (y : Ex) (b : Nat) (h : b ≠ g) : (putEA w g off y).heap[b]? = w.heap[b]? := by
  unfold putEA
  have f := fun (w : World) (i : Nat) (u : Value) => Below.heap_setCell w ⟨g, i, none⟩ u b (by simpa using h)
  rw [f, f, f, f, f, f, f]
theorem putEA_size (w : World) (g off : Nat) (y : Ex) : (putEA w g off y).heap.size = w.heap.size := by simp [putEA, World.setCell]
theorem putEA_grown (w : World) (g off : Nat) (y : Ex) : w.grownBy (putEA w g off y) (some g) :=
  grown_set (grown_set (grown_set (grown_set (grown_set (grown_set (grown_set (grown_below (Below.refl _ _)) _ _) _ _) _ _) _ _) _ _) _ _) _ _
theorem own_set7 {T : TypeId} {w : World} {B G m c : Nat} {ys : List Ex} {z y : Ex} (h : OwnF exC T 7 w B (.slice (some ⟨G, 0, none⟩) m c) (ys ++ [z])) : OwnF exC T 7 (putEA w G (ys.length * 7) y) B (.slice (some ⟨G, 0, none⟩) m c) (ys ++ [y]) := by
  obtain ⟨h1, h2⟩ := h
  have hA : (ys.flatMap exC).length = ys.length * 7 := by
    clear h1 h2
    induction ys with
    | nil => rfl
    | cons a l ih => simp only [List.flatMap_cons, List.length_append, ih, List.length_cons, show (exC a).length = 7 from rfl]; omega
  rcases h2 with ⟨h2, _⟩ | ⟨g, cap, cur, hv, hb, hh, hnc, hcm, hcs, htk⟩
  · injection h2 with h2; cases h2
  injection hv with hv1 hv2 hv3
  injection hv1 with hv1
  injection hv1 with hv1 _ _
  subst hv1 hv3
  have hcur : cur.toList = ys.flatMap exC ++ (exC z ++ cur.toList.drop ((ys ++ [z]).length * 7)) := by
    conv => lhs; rw [← List.take_append_drop ((ys ++ [z]).length * 7) cur.toList, htk]
    rw [List.flatMap_append, List.flatMap_cons, List.flatMap_nil, List.append_nil, List.append_assoc]
  have hB : Blk w G T cur := hh
  have hP : Blk (putEA w G (ys.length * 7) y) G T _ := ((((((hB.set_ (ys.length * 7) (.int .u8 y.op)).set_ (ys.length * 7 + 1) (.int .u8 y.v.k)).set_ (ys.length * 7 + 2) (.int .i64 y.v.n)).set_ (ys.length * 7 + 3) (.string y.v.s)).set_ (ys.length * 7 + 4) (.string y.name)).set_ (ys.length * 7 + 5) (.int .i64 y.width)).set_ (ys.length * 7 + 6) (.slice y.A y.n y.c)
  refine ⟨by simp only [List.flatMap_append, List.flatMap_cons, List.flatMap_nil, List.append_nil, List.length_append, hA, List.length_cons, List.length_nil, show (exC y).length = 7 from rfl]; omega, .inr ⟨G, c, _, by rw [hv2, List.length_append, List.length_append]; rfl, hb, hP, by rw [List.length_append] at hnc ⊢; exact hnc, hcm, by simpa using hcs, ?_⟩⟩
  simp only [Array.toList_setIfInBounds]
  rw [hcur, ← hA]
  have e := set7 (.int .u8 z.op) (.int .u8 z.v.k) (.int .i64 z.v.n) (.string z.v.s) (.string z.name) (.int .i64 z.width) (.slice z.A z.n z.c) (.int .u8 y.op) (.int .u8 y.v.k) (.int .i64 y.v.n) (.string y.v.s) (.string y.name) (.int .i64 y.width) (.slice y.A y.n y.c) (cur.toList.drop ((ys ++ [z]).length * 7)) (ys.flatMap exC)
  have e2 : ys.flatMap exC ++ (exC z ++ cur.toList.drop ((ys ++ [z]).length * 7)) = ys.flatMap exC ++ (.int .u8 z.op :: .int .u8 z.v.k :: .int .i64 z.v.n :: .string z.v.s :: .string z.name :: .int .i64 z.width :: .slice z.A z.n z.c :: cur.toList.drop ((ys ++ [z]).length * 7)) := rfl
  rw [e2, e, List.flatMap_append, List.flatMap_cons, List.flatMap_nil, List.append_nil]
  have e3 : ys.flatMap exC ++ (.int .u8 y.op :: .int .u8 y.v.k :: .int .i64 y.v.n :: .string y.v.s :: .string y.name :: .int .i64 y.width :: .slice y.A y.n y.c :: cur.toList.drop ((ys ++ [z]).length * 7)) = (ys.flatMap exC ++ exC y) ++ cur.toList.drop ((ys ++ [z]).length * 7) := by rw [List.append_assoc]; rfl
  rw [e3, List.take_append_of_le_length (by simp only [List.length_append, hA, List.length_cons, List.length_nil, show (exC y).length = 7 from rfl]; omega), List.take_of_length_le (by simp only [List.length_append, hA, List.length_cons, List.length_nil, show (exC y).length = 7 from rfl]; omega)]
def zeroE : Ex := ⟨0, ⟨0, 0, ⟨#[]⟩⟩, ⟨#[]⟩, 0, none, 0, 0⟩
structure PxA (γ : GLs) (v : Value) (acc : List Tr) (lg dp : Bool) (l r : Wds) (t : Tr) (n0 : Nat) (c z : Option Value) (w : World) : Prop where
  sz : n0 ≤ w.heap.size
  at_ : γ.at_ elTr 49 v acc w
  no : c = none → GDid γ.ρ γ.W0 w l lg dp
  yes : ∀ x, c = some x → ∃ y, x = exV y ∧ t.at_ w (Btw n0 w) y ∧ GDid γ.ρ γ.W0 w r lg (dp || decide (32 < t.depth))
  zero : ∀ x, z = some x → ∃ g0, x = .slice (some ⟨g0, 0, none⟩) 1 1 ∧ Blk w g0 49 ex0 ∧ n0 ≤ g0
structure PxB (γ : GLs) (v : Value) (acc : List Tr) (lg dp : Bool) (r : Wds) (t : Tr) (a c : Value) (s p : Bool) (w : World) : Prop where
  sz : γ.B ≤ w.heap.size
  blk : Blk w γ.qb γ.TQ (γ.cs.setIfInBounds γ.k (if p then a else v))
  kp : γ.Kp w (Own0 γ.B a w)
  pbk : Blk w γ.pb 58 #[γ.ρ.ptr]
  oth : ∀ x ∈ γ.os, Blk w x.1 x.2.1 x.2.2
  did : GDid γ.ρ γ.W0 w r lg (dp || decide (32 < t.depth))
  row : ∃ (G cap : Nat) (ys : List Ex) (y : Ex), a = .slice (some ⟨G, 0, none⟩) (acc.length + 1) cap ∧ c = exV y ∧ ys.length = acc.length ∧ t.at_ w (Own0 γ.B a w) y ∧ All2 (Tr.at_ w (Own0 γ.B a w)) acc ys ∧ OwnF exC 49 7 w γ.B a (ys ++ [if s then y else zeroE])
section
variable {γ : GLs} {v a c : Value} {acc : List Tr} {lg dp s p : Bool} {l r : Wds} {t : Tr} {n0 : Nat} {co z : Option Value} {w w' : World}
theorem PxA.later (A : PxA γ v acc lg dp l r t n0 co z w) (F : γ.Fit) (h : Below w.heap.size w w') : PxA γ v acc lg dp l r t n0 co z w' :=
  ⟨Nat.le_trans A.sz h.size, A.at_.later F h, fun e => (A.no e).later h, fun x e => by obtain ⟨y, h1, h2, h3⟩ := A.yes x e; exact ⟨y, h1, h2.later h, h3.later h⟩, fun x e => by obtain ⟨g0, h1, h2, h3⟩ := A.zero x e; exact ⟨g0, h1, h2.later h, h3⟩⟩
theorem PxB.later (A : PxB γ v acc lg dp r t a c s p w) (F : γ.Fit) (h : Below w.heap.size w w') : PxB γ v acc lg dp r t a c s p w' :=
  ⟨Nat.le_trans A.sz h.size, A.blk.later h, F.kp _ _ _ _ A.kp (own0_later h), A.pbk.later h, fun x hx => (A.oth x hx).later h, A.did.later h, by
    obtain ⟨G, cap, ys, y, h1, h2, h3, h4, h5, h6⟩ := A.row
    exact ⟨G, cap, ys, y, h1, h2, h3, Tr.at_.keep (own0_later h) _ _ h4, h5.imp fun _ _ k => Tr.at_.keep (own0_later h) _ _ k, h6.later h⟩⟩
theorem PxA.start (A : γ.at_ elTr 49 v acc w) (D : GDid γ.ρ γ.W0 w l lg dp) : PxA γ v acc lg dp l r t w.heap.size none none w :=
  ⟨Nat.le_refl _, A, fun _ => D, fun x e => (by cases e), fun x e => (by cases e)⟩
theorem PxA.call (A : PxA γ v acc lg dp l r t n0 none z w) (F : γ.Fit) (hn : γ.B ≤ n0) {y : Ex} (hat : t.at_ w' (Btw w.heap.size w') y) (d : GDid γ.ρ w w' r lg (dp || decide (32 < t.depth))) : PxA γ v acc lg dp l r t n0 (some (exV y)) z w' := by
  have h1 := F.gg; have h2 := F.q0; have h3 := F.qB
  exact ⟨Nat.le_trans A.sz d.size, A.at_.grown F d.grown, fun e => (by cases e), fun x e => (by injection e with e; exact ⟨y, e.symm, hat.more A.sz, (A.no rfl).trans d⟩), fun x e => (by obtain ⟨g0, k1, k2, k3⟩ := A.zero x e; exact ⟨g0, k1, d.blk k2 (by omega), k3⟩)⟩
theorem PxA.zero_ (A : PxA γ v acc lg dp l r t n0 co none w) (F : γ.Fit) : PxA γ v acc lg dp l r t n0 co (some (.slice (some ⟨w.heap.size, 0, none⟩) 1 1)) (w.alloc (.cells ex0 49)) := by
  have B := A.later F (later_new w (.cells ex0 49))
  exact ⟨B.sz, B.at_, B.no, B.yes, fun x e => by injection e with e; exact ⟨w.heap.size, e.symm, Blk.new w _ _, A.sz⟩⟩
theorem PxA.app {cv zv : Value} (A : PxA γ v acc lg dp l r t n0 (some cv) (some zv) w) (F : γ.Fit) (hn : γ.B ≤ n0) (hv0 : ∀ G, v.ownBlock = some G → G < n0) (hlen : acc.length ≤ 5000) : ∃ v' w', (Builtin.append_ #[25, 25] 25 #[v, zv]).run Tryz.prog w = .ok v' w' ∧ PxB γ v acc lg dp r t v' cv false false w' := by
  have h1 := F.gg; have h2 := F.q0; have h3 := F.p0; have h4 := F.qB; have h5 := F.pB
  obtain ⟨g0, rfl, hz, hg0⟩ := A.zero _ rfl
  obtain ⟨y, rfl, hat, hd⟩ := A.yes _ rfl
  obtain ⟨(ys : List Ex), ho, ha⟩ := A.at_.row.has
  have hal : ys.length = acc.length := ha.len
  have hnq : ∀ (q : Nat), q < γ.B → some q ≠ v.ownBlock := fun q hq e' => by have := (A.at_.ge e'.symm).1; omega
  obtain ⟨v', w', hr, hov, har, hv⟩ := run_append_one2 (P := Tryz.prog) (f := exC) (e := 49) (size := 7) (base := γ.B) (y := zeroE) (w := w) 25 25 _ 88 Tryz.underlying25 ex_info rfl (by decide) (fun _ => rfl) (tr_one zeroE) ho g0 hz (by rw [hal]; omega) (by rw [hal]; omega) A.at_.sz
  have hgw := har.grown
  have hk := own0_app (B := γ.B) hgw hv
  obtain ⟨G, cap, hsl, hGb, _⟩ := hov.cell (f := exC) (fun _ => rfl) (k := acc.length) (x := zeroE) (by rw [← hal]; simp)
  refine ⟨v', w', hr, Nat.le_trans A.at_.sz hgw.size, ?_, F.kp _ _ _ _ A.at_.kp hk, A.at_.pbk.grown hgw (hnq _ h5), fun x hx => (A.at_.oth x hx).grown hgw (hnq _ (F.os x hx).2.2), hd.own h1 hgw (fun G hG => by have := (A.at_.ge hG).1; omega), G, cap, ys, y, ?_, rfl, hal, ?_, ha.imp fun _ _ k => Tr.at_.keep hk _ _ k, hov⟩
  · simp only [Bool.false_eq_true, if_false]
    exact A.at_.blk.grown hgw (hnq _ h4)
  · rw [hsl]; simp [hal]
  · exact Tr.at_.keep hk _ _ (Tr.at_.keep (own0_new hn hv0) _ _ hat)
theorem PxB.elem {G cap : Nat} {y : Ex} (A : PxB γ v acc lg dp r t a (exV y) false p w) (F : γ.Fit) (ha : a = .slice (some ⟨G, 0, none⟩) (acc.length + 1) cap) : PxB γ v acc lg dp r t a (exV y) true p (putEA w G (acc.length * 7) y) := by
  have h1 := F.gg; have h2 := F.q0; have h3 := F.p0; have h4 := F.qB; have h5 := F.pB
  obtain ⟨G', cap', ys, y', e1, e2, e3, e4, e5, e6⟩ := A.row
  have hG : G' = G ∧ cap' = cap := by
    rw [ha] at e1
    injection e1 with e1 _ e1c
    injection e1 with e1
    injection e1 with e1 _ _
    exact ⟨e1.symm, e1c.symm⟩
  obtain ⟨rfl, rfl⟩ := hG
  have hy : y' = y := by
    obtain ⟨a1, ⟨a2, a3, a4⟩, a5, a6, a7, a8, a9⟩ := y
    obtain ⟨b1, ⟨b2, b3, b4⟩, b5, b6, b7, b8, b9⟩ := y'
    unfold exV exC at e2
    simp only [Value.agg.injEq] at e2
    simp at e2
    obtain ⟨rfl, rfl, rfl, rfl, rfl, rfl, rfl, rfl, rfl⟩ := e2
    rfl
  subst hy
  have hown : a.ownBlock = some G' := by rw [ha]; rfl
  have hge : γ.B ≤ G' := (e6.lt hown).2.1
  have hg := putEA_grown w G' (acc.length * 7) y'
  have hk : ∀ b, Own0 γ.B a w b → (∀ o, (putEA w G' (acc.length * 7) y').cell? ⟨b, o, none⟩ = w.cell? ⟨b, o, none⟩) ∧ Own0 γ.B a (putEA w G' (acc.length * 7) y') b := fun b hb =>
    ⟨cell_of_heap (putEA_far w G' _ y' b (fun e => hb.2.2 (by rw [hown, e]))), hb.1, by rw [putEA_size]; exact hb.2.1, hb.2.2⟩
  refine ⟨by rw [putEA_size]; exact A.sz, A.blk.grown hg (by simp; omega), F.kp _ _ _ _ A.kp hk, A.pbk.grown hg (by simp; omega), fun x hx => (A.oth x hx).grown hg (by have := (F.os x hx).2.2; simp; omega), A.did.own h1 hg (fun G hG => by injection hG with hG; omega), G', cap', ys, y', ha, rfl, e3, Tr.at_.keep hk _ _ e4, e5.imp fun _ _ k => Tr.at_.keep hk _ _ k, ?_⟩
  have e6 : OwnF exC 49 7 w γ.B a (ys ++ [zeroE]) := e6
  rw [ha] at e6 ⊢
  rw [← e3] at e6 ⊢
  exact own_set7 e6
theorem PxB.list (A : PxB γ v acc lg dp r t a c s false w) (F : γ.Fit) : PxB γ v acc lg dp r t a c s true (w.setCell ⟨γ.qb, γ.k, none⟩ a) := by
  have h1 := F.gg; have h2 := F.q0; have h3 := F.p0; have h4 := F.qB; have h5 := F.pB; have h6 := F.pq
  obtain ⟨G, cap, ys, y, e1, e2, e3, e4, e5, e6⟩ := A.row
  have hk := own0_far (v := a) (w := w) h4 γ.k a
  have hb := A.blk.set_ γ.k a
  rw [Array.setIfInBounds_setIfInBounds] at hb
  have hown : a.ownBlock = some G := by rw [e1]; rfl
  have hge : γ.B ≤ G := (e6.lt hown).2.1
  exact ⟨by have := A.sz; simpa [World.setCell] using this, hb, F.kp _ _ _ _ A.kp hk, A.pbk.far (p := ⟨γ.qb, γ.k, none⟩) (by simp; omega) a, fun x hx => (A.oth x hx).far (p := ⟨γ.qb, γ.k, none⟩) (by have := (F.os x hx).2.1; simp; omega) a, A.did.far h1 h2 _ _, G, cap, ys, y, e1, e2, e3, Tr.at_.keep hk _ _ e4, e5.imp fun _ _ k => Tr.at_.keep hk _ _ k, e6.keep fun g hg => by rw [hown] at hg; injection hg with hg; exact Below.heap_setCell w ⟨γ.qb, γ.k, none⟩ a g (by simp; omega)⟩
theorem PxB.done (A : PxB γ v acc lg dp r t a c true true w) : γ.at_ elTr 49 a (acc ++ [t]) w := by
  obtain ⟨G, cap, ys, y, e1, e2, e3, e4, e5, e6⟩ := A.row
  exact ⟨A.blk, ⟨ys ++ [y], e6, All2.append e5 (.one e4)⟩, A.kp, A.sz, A.pbk, A.oth⟩
end
end Go.Proofs.YtcneefmaghoejaaGreatDoor
