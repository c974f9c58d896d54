/- Parts of the proof: Tail, App2, Rule2. Put together by slim.py. -/
import Derived.Deep.QuietTactic
import Derived.BigQuiet
import Derived.Laws.OwnMore
import Derived.Laws.Append
import Derived.Test.YtcneefmaghoejaaGreatDoorB3
import Derived.Test.YtcneefmaghoejaaGreatDoorB4
namespace Go.Proofs.YtcneefmaghoejaaGreatDoor
open Go.RowKit
structure Ext (B : Nat) (w0 : World) where
  w : World
  h : Below B w0 w
instance (B : Nat) (w0 : World) : Nonempty (Ext B w0) := ⟨⟨w0, Below.refl _ _⟩⟩
theorem Ext.cell {B : Nat} {w0 : World} (x : Ext B w0) {p : Addr} (hp : p.block < B) : x.w.cell? p = w0.cell? p := x.h.cell hp
theorem quiet_vals {P : Program} {ops : Array Oper} {C : World → Prop} {Q : Act → Prop} : ∀ (l : List Oper) (a : Act), wpQuiet P ops C Q l a →
    ∃ vs : List Value, vs.length = l.length ∧
      (∀ i o, l[i]? = some o → ∃ v, vs[i]? = some v ∧
        ((Region.wanted o (yielded ops ((l.take i).zip vs |>.foldl (fun b ov => b.put ov.1.dst ov.2) a).tmps) = true ∧ ∀ w, C w → o.quietAt P ((l.take i).zip vs |>.foldl (fun b ov => b.put ov.1.dst ov.2) a) C w v) ∨
         (Region.wanted o (yielded ops ((l.take i).zip vs |>.foldl (fun b ov => b.put ov.1.dst ov.2) a).tmps) = false ∧ v = undef))) ∧
      Q ((l.zip vs).foldl (fun b ov => b.put ov.1.dst ov.2) a)
  | [], a, h => ⟨[], rfl, fun i o ho => by simp at ho, h⟩
  | o :: l, a, h => by
    unfold wpQuiet at h
    by_cases hw : Region.wanted o (yielded ops a.tmps) = true
    · rw [if_pos hw] at h
      obtain ⟨v, hv, hn⟩ := h
      obtain ⟨vs, hl, hall, hq⟩ := quiet_vals l _ hn
      refine ⟨v :: vs, by simp [hl], fun i o' ho' => ?_, by simpa using hq⟩
      match i with
      | 0 => simp at ho'; subst ho'; exact ⟨v, rfl, .inl ⟨by simpa using hw, by simpa using hv⟩⟩
      | i + 1 =>
        obtain ⟨v', h1, h2⟩ := hall i o' (by simpa using ho')
        exact ⟨v', by simpa using h1, by simpa using h2⟩
    · rw [if_neg hw] at h
      obtain ⟨vs, hl, hall, hq⟩ := quiet_vals l _ h
      refine ⟨undef :: vs, by simp [hl], fun i o' ho' => ?_, by simpa using hq⟩
      match i with
      | 0 => simp at ho'; subst ho'; exact ⟨undef, rfl, .inr ⟨by simpa using hw, rfl⟩⟩
      | i + 1 =>
        obtain ⟨v', h1, h2⟩ := hall i o' (by simpa using ho')
        exact ⟨v', by simpa using h1, by simpa using h2⟩
theorem zip_take_succ {l : List Oper} {vs : List Value} {k : Nat} {o : Oper} {v : Value} (hl : vs.length = l.length) (ho : l[k]? = some o) (hv : vs[k]? = some v) : ((l.take (k + 1)).zip vs) = ((l.take k).zip vs) ++ [(o, v)] := by
  have hk : k < l.length := by
    rcases Nat.lt_or_ge k l.length with h' | h'
    · exact h'
    · rw [List.getElem?_eq_none h'] at ho; cases ho
  rw [List.take_add_one, ho]
  have e1 : vs = vs.take k ++ v :: vs.drop (k + 1) := by
    conv => lhs; rw [← List.take_append_drop k vs]
    congr 1
    rw [List.drop_eq_getElem_cons (by omega)]
    congr 1
    rw [List.getElem?_eq_getElem (by omega)] at hv
    injection hv
  have hlen : (l.take k).length = (vs.take k).length := by simp; omega
  conv => lhs; rw [e1]
  rw [List.zip_append hlen]
  have e2 : (l.take k).zip vs = (l.take k).zip (vs.take k) := by
    conv => lhs; rw [← List.take_append_drop k vs]
    have h0 : (l.take k ++ []).zip (vs.take k ++ vs.drop k) = (l.take k).zip (vs.take k) ++ ([] : List Oper).zip (vs.drop k) := List.zip_append hlen
    simpa using h0
  rw [e2]
  simp
theorem fold_eval {l : List Oper} {vs : List Value} {a : Act} (hok : okFrom l a.tmps.size l 0 = true) (hl : vs.length = l.length) : ∀ (k : Nat), k ≤ l.length →
    (((l.take k).zip vs).foldl (fun b ov => b.put ov.1.dst ov.2) a).tmps.size = a.tmps.size ∧
    (∀ j oj d v, j < k → l[j]? = some oj → oj.dst = some d → vs[j]? = some v → (((l.take k).zip vs).foldl (fun b ov => b.put ov.1.dst ov.2) a).tmps[d]? = some v) ∧
    (∀ t, (∀ j oj, j < k → l[j]? = some oj → oj.dst ≠ some t) → (((l.take k).zip vs).foldl (fun b ov => b.put ov.1.dst ov.2) a).tmps[t]? = a.tmps[t]?)
  | 0, _ => by simp
  | k + 1, hk => by
    obtain ⟨h1, h2, h3⟩ := fold_eval hok hl k (by omega)
    obtain ⟨o, ho⟩ : ∃ o, l[k]? = some o := ⟨l[k]'(by omega), List.getElem?_eq_getElem (by omega)⟩
    obtain ⟨v, hv⟩ : ∃ v, vs[k]? = some v := ⟨vs[k]'(by omega), List.getElem?_eq_getElem (by omega)⟩
    have e := zip_take_succ hl ho hv
    rw [e, List.foldl_append]
    generalize ((l.take k).zip vs).foldl (fun b ov => b.put ov.1.dst ov.2) a = b at *
    have hoko := okFrom_at hok k o ho
    rw [Nat.zero_add] at hoko
    simp only [List.foldl_cons, List.foldl_nil]
    refine ⟨?_, ?_, ?_⟩
    · cases hd : o.dst <;> simp [Act.put, h1]
    · intro j oj d v' hj hoj hd hv'
      by_cases hjk : j = k
      · subst hjk
        rw [ho] at hoj; injection hoj with hoj; subst hoj
        rw [hv] at hv'; injection hv' with hv'; subst hv'
        simp only [okAt, hd, Bool.and_eq_true, decide_eq_true_eq] at hoko
        have hb : d < b.tmps.size := by rw [h1]; exact hoko.1.1.2.1
        simp [hd, Act.put, hb]
      · have hold := h2 j oj d v' (by omega) hoj hd hv'
        cases hdo : o.dst with
        | none => exact hold
        | some d' =>
          have hne : d' ≠ d := by
            intro e'
            subst e'
            have hokj := okFrom_at hok j oj hoj
            simp only [okAt, hd, Bool.and_eq_true, Nat.zero_add, beq_iff_eq] at hokj
            simp only [okAt, hdo, Bool.and_eq_true, beq_iff_eq] at hoko
            rw [hokj.1.1.2.2] at hoko
            have := hoko.1.1.2.2
            injection this with this
            exact hjk this
          simp only [Act.put, Array.getElem?_setIfInBounds_ne hne]
          exact hold
    · intro t ht
      have hold := h3 t (fun j oj hj hoj => ht j oj (by omega) hoj)
      cases hdo : o.dst with
      | none => exact hold
      | some d' =>
        have hne : d' ≠ t := fun e' => ht k o (by omega) ho (by rw [hdo, e'])
        simp only [Act.put, Array.getElem?_setIfInBounds_ne hne]
        exact hold
theorem opW_of_quietAt {P : Program} {o : Oper} {a : Act} {C : World → Prop} {w : World} {v : Value} {ρ : Operand → Value} (hns : ∀ cs b, o.op ≠ .select cs b) (he : ∀ x ∈ o.op.operands, ρ x = a.eval x) (hC : C w)
    (h : o.quietAt P a C w v) : opW P o ρ w fun v' w' => (C w → C w') ∧ v' = v := by
  unfold Oper.quietAt at h
  unfold opW
  rw [execOp_congr o hns he]
  generalize (execOp a.eval o).run P w = r at *
  cases r with
  | ok n w' =>
    cases n <;> simp only [Oper.quietUpon] at h
    case value u => obtain ⟨rfl, rfl⟩ := h; exact ⟨id, rfl⟩
    case skip => obtain ⟨rfl, rfl⟩ := h; exact ⟨id, rfl⟩
    case enter f args =>
      obtain ⟨rfl, hc⟩ := h
      exact hc.mono fun e w'' ⟨he, hc'⟩ => ⟨v, he, fun _ => hc', rfl⟩
  | halt x w' => simp only [Oper.quietUpon] at h
theorem mem_tmpsOf {o : Oper} {t : Tmp} : t ∈ tmpsOf o ↔ Operand.tmp t ∈ o.op.operands := by
  unfold tmpsOf
  simp only [List.mem_filterMap, Array.mem_toList_iff]
  constructor
  · rintro ⟨x, hx, h⟩
    cases x <;> simp at h
    subst h; exact hx
  · intro h; exact ⟨_, h, rfl⟩
theorem reads_get {l : List Oper} {V : Nat → World → Value → Prop} {ρ0 ρ : Operand → Value} {w : World} {o : Oper} : ∀ {ts : List Tmp}, readsAll l V ρ0 ρ w o ts → ∀ t ∈ ts, match srcAt l o t with | some j => V j w (ρ (.tmp t)) | none => ρ (.tmp t) = ρ0 (.tmp t)
  | [], _, t, h => by cases h
  | x :: ts, hr, t, h => by
    rcases List.mem_cons.1 h with rfl | h
    · exact hr.1
    · exact reads_get hr.2 t h
def noSel (l : List Oper) : Bool := l.all fun o => match o.op with | .select _ _ => false | _ => true
theorem region_tail {P : Program} {Q : Exit → Act → World → Prop} {a0 : Act} {w0 : World} {id : Nat} {ops : List Oper} (zs : List Oper) (l : List Oper) (hops : ops = l ++ zs) (C : World → Prop) (hC0 : C w0) (hdrew : ∀ w, C w → C w.drew)
    (hm : P.follows .mixedOrders = true) (hns : noSel l = true) (hok : okFrom l a0.tmps.size l 0 = true) (hz : tailOk (l ++ zs) zs l.length = true)
    (h : wpQuiet P ops.toArray C (fun a => ∀ w, C w → wpList P ops.toArray Q zs a w) l a0) : (Code.region id ops.toArray true).wp P Q a0 w0 := by
  subst hops
  obtain ⟨vs, hl, hall, hq⟩ := quiet_vals l a0 h
  refine region_rule zs l rfl (fun w w' => C w → C w') (fun _ h => h) (fun _ _ _ h1 h2 h => h2 (h1 h)) (fun w h => hdrew w h) (fun i _ v => vs[i]? = some v) (fun _ _ _ _ h _ => h) hm hok hz ?_ ?_
  · have key : ∀ (k : Nat) (rest : List Oper), l.drop k = rest → Steps P l (fun w w' => C w → C w') (fun i _ v => vs[i]? = some v) a0 w0 rest k := by
      intro k rest
      induction rest generalizing k with
      | nil => intro _; trivial
      | cons o rest ih =>
        intro hk
        have hok0 : l[k]? = some o := by have := congrArg (fun x => x[0]?) hk; simpa using this
        have hklt : k < l.length := by
          rcases Nat.lt_or_ge k l.length with h' | h'
          · exact h'
          · rw [List.getElem?_eq_none h'] at hok0; cases hok0
        refine ⟨?_, ih (k + 1) (by rw [← List.tail_drop, hk]; rfl)⟩
        intro ρ w hc hR hr
        have hCw : C w := hR hC0
        obtain ⟨v, hv, hcase⟩ := hall k o hok0
        obtain ⟨f1, f2, f3⟩ := fold_eval hok hl k (by omega)
        have hoko := okFrom_at hok k o hok0
        rw [Nat.zero_add] at hoko
        have hsel : ∀ cs b, o.op ≠ .select cs b := by
          intro cs b e
          have := List.all_eq_true.1 hns o (List.mem_of_getElem? hok0)
          rw [e] at this; cases this
        have hev : ∀ x ∈ o.op.operands, ρ x = (((l.take k).zip vs).foldl (fun b ov => b.put ov.1.dst ov.2) a0).eval x := by
          intro x hx
          cases x with
          | const v => rw [hc.const]; rfl
          | global g => rw [hc.global]; rfl
          | func f => rw [hc.func]; rfl
          | tmp t =>
            have hmt := mem_tmpsOf.2 hx
            have hrt := reads_get hr t hmt
            simp only [okAt, Bool.and_eq_true] at hoko
            have hot := List.all_eq_true.1 hoko.1.2 t hmt
            unfold srcAt at hrt
            cases hs : srcFrom t l 0 with
            | none =>
              simp only [hs] at hrt
              rw [hrt]
              refine (eval_of_old (f3 t ?_)).symm
              intro j oj _ hoj hd
              obtain ⟨j', hj'⟩ := srcFrom_spec (k := 0) hoj hd
              rw [hs] at hj'; cases hj'
            | some j =>
              obtain ⟨j', oj, e, hj, hd⟩ := srcFrom_get hs
              rw [Nat.zero_add] at e
              subst e
              simp only [hs] at hrt hot
              by_cases he : edgeOn o j = true
              · simp only [he, if_true] at hrt
                have hjk : j < k := of_decide_eq_true (List.all_eq_true.1 hoko.1.1.1 j (edgeOn_iff.1 he))
                have := f2 j oj t _ hjk hj hd hrt
                simp [Act.eval, this]
              · rw [Bool.not_eq_true] at he
                simp only [he, Bool.false_or, hj] at hot hrt
                have hrt' : ρ (.tmp t) = a0.eval (.tmp t) := by simpa using hrt
                rw [hrt']
                refine (eval_of_old (f3 t ?_)).symm
                intro i oi hik hoi hdi
                have hoki := okFrom_at hok i oi hoi
                simp only [okAt, hdi, Bool.and_eq_true, Nat.zero_add, beq_iff_eq] at hoki
                have hij : i = j := by
                  have := hoki.1.1.2.2
                  rw [hs] at this
                  injection this with this
                  exact this.symm
                subst hij
                rw [hj] at hoi; injection hoi with hoi; subst hoi
                have hokj := okFrom_at hok i oj hj
                simp only [okAt, Bool.and_eq_true, Nat.zero_add] at hokj
                have := of_decide_eq_true (List.all_eq_true.1 hokj.1.1.1 k (edgeOn_iff.1 hot))
                omega
        have hT : opW P o ρ w (fun v' w' => (C w → C w') ∧ v' = v) → opW P o ρ w (fun v' w' => (C w → C w') ∧ vs[k]? = some v') := by
          unfold opW
          intro h'
          generalize (execOp ρ o).run P w = r at *
          cases r with
          | ok n w' =>
            cases n <;> first | exact ⟨h'.1, by rw [h'.2]; exact hv⟩ | exact h'.elim | skip
            exact h'.mono fun e w'' ⟨u, h1, h2, h3⟩ => ⟨u, h1, h2, by rw [h3]; exact hv⟩
          | halt x w' => exact h'.elim
        cases hg : o.guard with
        | none =>
          rcases hcase with ⟨_, hqa⟩ | ⟨hw, _⟩
          · exact hT (opW_of_quietAt hsel hev hCw (hqa w hCw))
          · simp [Region.wanted, hg] at hw
        | some g =>
          obtain ⟨j, want⟩ := g
          simp only [okAt, hg, Bool.and_eq_true] at hoko
          have hjk : j < k := of_decide_eq_true (List.all_eq_true.1 hoko.1.1.1 j (edgeOn_iff.1 hoko.2.1))
          obtain ⟨oj, hoj⟩ : ∃ oj, l[j]? = some oj := ⟨l[j]'(by omega), List.getElem?_eq_getElem (by omega)⟩
          have hds := hoko.2.2
          rw [hoj] at hds
          obtain ⟨d, hd⟩ := Option.isSome_iff_exists.1 hds
          simp only [hoj, Option.bind_some, hd]
          intro hyv
          have hslot := f2 j oj d _ hjk hoj hd hyv
          have hyield : yielded (l ++ zs).toArray (((l.take k).zip vs).foldl (fun b ov => b.put ov.1.dst ov.2) a0).tmps j = match ρ (.tmp d) with | .bool b => some b | _ => none := by
            unfold yielded
            rw [get_left hoj]
            simp only [Option.bind_some, hd, hslot]
            cases ρ (.tmp d) <;> rfl
          constructor
          · intro hwant
            rcases hcase with ⟨_, hqa⟩ | ⟨hw, _⟩
            · exact hT (opW_of_quietAt hsel hev hCw (hqa w hCw))
            · simp [Region.wanted, hg, hyield, hwant] at hw
          · intro hwant
            rcases hcase with ⟨hw, _⟩ | ⟨_, hu⟩
            · exfalso
              simp only [Region.wanted, hg, hyield] at hw
              apply hwant
              cases hvv : ρ (.tmp d) <;> rw [hvv] at hw <;> simp at hw
              rw [hw]
            · rw [← hu]; exact hv
    exact key 0 l rfl
  · intro w hR
    have hCw : C w := hR hC0
    have key : ∀ (k : Nat) (rest : List Oper), l.drop k = rest → k ≤ l.length → FinOf (fun i _ v => vs[i]? = some v) (fun a w => wpList P (l ++ zs).toArray Q zs a w) rest k (((l.take k).zip vs).foldl (fun b ov => b.put ov.1.dst ov.2) a0) w := by
      intro k rest
      induction rest generalizing k with
      | nil =>
        intro hk hkl
        have : l.length ≤ k := List.drop_eq_nil_iff.1 hk
        have e : l.take k = l := List.take_of_length_le this
        rw [e]
        exact hq w hCw
      | cons o rest ih =>
        intro hk hkl
        have hok0 : l[k]? = some o := by have := congrArg (fun x => x[0]?) hk; simpa using this
        have hklt : k < l.length := by
          rcases Nat.lt_or_ge k l.length with h' | h'
          · exact h'
          · rw [List.getElem?_eq_none h'] at hok0; cases hok0
        have hstep : ∀ v, vs[k]? = some v → ((l.take (k + 1)).zip vs).foldl (fun b ov => b.put ov.1.dst ov.2) a0 = (((l.take k).zip vs).foldl (fun b ov => b.put ov.1.dst ov.2) a0).put o.dst v := by
          intro v hv
          rw [zip_take_succ hl hok0 hv, List.foldl_append]
          rfl
        have hnext := ih (k + 1) (by rw [← List.tail_drop, hk]; rfl) (by omega)
        unfold FinOf
        cases hd : o.dst with
        | none =>
          simp only
          obtain ⟨v, hv⟩ : ∃ v, vs[k]? = some v := ⟨vs[k]'(by omega), List.getElem?_eq_getElem (by omega)⟩
          rw [hstep v hv, hd] at hnext
          exact hnext
        | some d =>
          simp only
          intro v hv
          rw [hstep v hv, hd] at hnext
          exact hnext
    have := key 0 l rfl (by omega)
    simpa using this
theorem region_cut {P : Program} {Q : Exit → Act → World → Prop} {a0 : Act} {w : World} {id : Nat} {ops : List Oper} (k B : Nat) (w0 : World) (hb : Below B w0 w) (hm : P.follows .mixedOrders = true) (hns : noSel (ops.take k) = true)
    (hok : okFrom (ops.take k) a0.tmps.size (ops.take k) 0 = true) (hz : tailOk ops (ops.drop k) (ops.take k).length = true)
    (h : wpQuiet P ops.toArray (fun w' => ∃ x : Ext B w0, w' = x.w) (fun a => ∀ w, (∃ x : Ext B w0, w = x.w) → wpList P ops.toArray Q (ops.drop k) a w) (ops.take k) a0) : (Code.region id ops.toArray true).wp P Q a0 w :=
  region_tail (ops.drop k) (ops.take k) (List.take_append_drop k ops).symm (fun w' => ∃ x : Ext B w0, w' = x.w) ⟨⟨w, hb⟩, rfl⟩ (fun w' ⟨x, e⟩ => ⟨⟨w'.drew, by rw [e]; exact x.h.drew⟩, rfl⟩) hm hns hok (by rw [List.take_append_drop]; exact hz) h
theorem calls_later {P : Program} {f : FuncId} {args : Array Value} {B : Nat} {w0 : World} {x : Ext B w0} {v : Value} (hB : B ≤ w0.heap.size)
    (h : Calls P f args x.w fun e w' => e = .returned v ∧ Below x.w.heap.size x.w w') : Calls P f args x.w fun e w'' => e = .returned v ∧ ∃ x : Ext B w0, w'' = x.w :=
  h.mono fun _ _ ⟨he, hb⟩ => ⟨he, ⟨_, x.h.trans (hb.mono (Nat.le_trans hB x.h.size))⟩, rfl⟩
def Later (w w' : World) : Prop := Below w.heap.size w w'
theorem Later.refl (w : World) : Later w w := Below.refl _ _
theorem Later.trans {a b c : World} (h : Later a b) (k : Later b c) : Later a c := Below.trans h (Below.mono k h.size)
theorem Later.drew (w : World) : Later w w.drew := (Below.refl _ _).drew
section
variable {P : Program} {o : Oper} {ρ : Operand → Value} {w : World} {T : Value → World → Prop}
theorem opW_run {v : Value} {w' : World} (h : (execOp ρ o).run P w = .ok (.value v) w') (hT : T v w') : opW P o ρ w T := by
  unfold opW; rw [h]; exact hT
theorem opW_skip {w' : World} (h : (execOp ρ o).run P w = .ok .skip w') (hT : T undef w') : opW P o ρ w T := by
  unfold opW; rw [h]; exact hT
theorem opW_call {f : FuncId} {args : Array Value} {w' : World} (h : (execOp ρ o).run P w = .ok (.enter f args) w') (hc : Calls P f args w' fun e w'' => ∃ v, e = .returned v ∧ T v w'') : opW P o ρ w T := by
  unfold opW; rw [h]; exact hc
end
end Go.Proofs.YtcneefmaghoejaaGreatDoor
namespace Go.Proofs.YtcneefmaghoejaaGreatDoor
open Go.RowKit
set_option linter.unusedVariables false
section
variable {α : Type} {f : α → List Value} {e : TypeId} {size : Nat} {base : Nat} {lv : Value} {l : List α} {y : α}
structure AR (f : α → List Value) (e : TypeId) (size base : Nat) (lv : Value) (l : List α) (y : α) (a b : World) : Prop where
  grown : a.grownBy b lv.ownBlock
  old : OwnF f e size a base lv l → OwnF f e size b base lv l
  new : ∀ u, OwnF f e size a base u (l ++ [y]) → OwnF f e size b base u (l ++ [y])
theorem AR.refl (w : World) : AR f e size base lv l y w w := ⟨⟨rfl, rfl, rfl, Nat.le_refl _, fun _ _ _ => rfl⟩, id, fun _ => id⟩
theorem AR.trans {a b c : World} (h : AR f e size base lv l y a b) (k : AR f e size base lv l y b c) : AR f e size base lv l y a c :=
  ⟨h.grown.trans k.grown, fun o => k.old (h.old o), fun u o => k.new u (h.new u o)⟩
theorem AR.later {a b : World} (h : Below a.heap.size a b) : AR f e size base lv l y a b :=
  ⟨⟨h.os, h.tape, h.output, h.size, fun k hk _ => h.block k hk⟩, fun o => o.later h, fun u o => o.later h⟩
theorem AR.drew (w : World) : AR f e size base lv l y w w.drew := AR.later (Later.drew w)
theorem later_grown {a b : World} (h : a.grownBy b none) : Below a.heap.size a b := ⟨h.os, h.tape, h.output, h.size, fun k hk => h.block k hk (by simp)⟩
theorem run_append_one {P : Program} {w : World} (t ty : TypeId) (z : Value) (bytes : Nat) (ht : P.underlying t = some (.slice e)) (hinfo : (P.info? e).map (fun i => (i.zero, i.size, i.bytes)) = some (some z, size, bytes)) (hzs : z.cells.size = size) (hsz : 0 < size)
    (hf : ∀ x, (f x).length = size) (h1 : ∀ u ∈ f y, u.oneCell' = true) (hown : OwnF f e size w base lv l)
    (g0 : Nat) (hg0 : Blk w g0 e (f y).toArray) (hlen : (l.length + 1) * bytes ≤ 140737488355328) (hlen2 : l.length + 1 ≤ 140737488355328) (hbase : base ≤ w.heap.size) :
    ∃ v' w', (Builtin.append_ #[t, t] ty #[lv, .slice (some ⟨g0, 0, none⟩) 1 1]).run P w = .ok v' w' ∧ OwnF f e size w' base v' (l ++ [y]) ∧ AR f e size base lv l y w w' := by
  obtain ⟨i0, hi0, hz0, hz1, hz2⟩ := info_parts hinfo
  have hnews : ∀ j u, (f y)[j]? = some u → w.cell? ((⟨g0, 0, none⟩ : Addr).add j) = some u := by
    intro j u hu
    have : (Addr.add ⟨g0, 0, none⟩ j) = ⟨g0, j, none⟩ := by unfold Addr.add; split <;> simp_all
    rw [this, hg0.cell]
    simpa using hu
  have hl1 : (f y).length = 1 * size := by rw [hf]; omega
  have conv : ∀ {w' : World} {v' : Value}, w'.ownsRow base e size v' (l.length + 1) (l.flatMap f ++ f y) → OwnF f e size w' base v' (l ++ [y]) := fun h => by
    unfold OwnF
    rw [List.length_append, List.flatMap_append]
    simpa using h
  by_cases hroom : ∃ g cap, lv = .slice (some ⟨g, 0, none⟩) l.length cap ∧ l.length + 1 ≤ cap
  · obtain ⟨g, cap, rfl, hr⟩ := hroom
    obtain ⟨w', hrun, ho, hg⟩ := run_append_fits (P := P) w base t ty e i0 size ht hi0 hz1 g l.length cap (l.flatMap f) hown ⟨g0, 0, none⟩ 1 1 (f y) hl1 hnews h1 hr
    refine ⟨_, w', hrun, conv ho, hg, fun _ => ?_, fun u hu => ?_⟩
    · rcases ho.2 with ⟨h, _⟩ | ⟨g', cap', cur, h, hbg, hgg, hn, hm, hs, ht'⟩
      · cases h
      · injection h with h1' h2' h3'
        injection h1' with h1'
        injection h1' with h1' _ _
        subst h1' h3'
        refine ⟨hown.1, .inr ⟨g, cap, cur, rfl, hbg, hgg, by omega, hm, hs, ?_⟩⟩
        have hx := congrArg (List.take (l.length * size)) ht'
        rw [List.take_take, Nat.min_eq_left (Nat.mul_le_mul_right _ (by omega)), List.take_append_of_le_length (Nat.le_of_eq hown.1.symm)] at hx
        rw [hx]
        exact List.take_of_length_le (Nat.le_of_eq hown.1)
    · by_cases hb : u.ownBlock = some g
      · rcases hu.2 with ⟨rfl, _⟩ | ⟨g', cap', cur, rfl, hbg, hgg, hn, hm, hs, ht'⟩
        · simp [Value.ownBlock] at hb
        · simp only [Value.ownBlock, Option.some.injEq] at hb
          subst hb
          rcases hown.2 with ⟨h, _⟩ | ⟨g2, cap2, cur2, h, _, hgg2, _, _, hs2, _⟩
          · cases h
          · injection h with h1' h2' h3'
            injection h1' with h1'
            injection h1' with h1' _ _
            subst h1' h3'
            rw [hgg] at hgg2
            injection hgg2 with hgg2
            injection hgg2 with hgg2 _ _
            subst hgg2
            have hcap : cap' = cap := Nat.eq_of_mul_eq_mul_right hsz (hs.symm.trans hs2)
            subst hcap
            have := conv ho
            rw [List.length_append] 
            exact this
      · exact hu.keep fun q hq => hg.block q (hu.lt hq).1 fun e => hb (by rw [hq]; exact e)
  · obtain ⟨v', w', hrun, ho, hg, _, hat⟩ := run_append_own_at (P := P) w base t ty e i0 z size bytes ht hi0 hz0 hz1 hz2 hzs hsz lv l.length (l.flatMap f) hown ⟨g0, 0, none⟩ 1 1 (f y) hl1 hnews h1 (by unfold maxLen; omega) hlen hbase
    have hlat : Below w.heap.size w w' := by
      rcases hown.2 with ⟨rfl, h0⟩ | ⟨g, cap, cur, rfl, hbg, hgg, hn, hm, hs, htk⟩
      · have hr := run_append_nil (P := P) w t ty e i0 z ht hi0 hz0 ⟨g0, 0, none⟩ 1 1 (f y) (by rw [hz1]; exact hl1) hnews (by omega) (by omega) (by rw [hz2]; have : 1 * bytes ≤ (l.length + 1) * bytes := Nat.mul_le_mul_right _ (by omega); omega)
        rw [hr] at hrun
        injection hrun with _ hw
        rw [← hw]
        exact (Later.drew w).alloc (Nat.le_refl _) _
      · have hno : ¬ l.length + 1 ≤ cap := fun h => hroom ⟨g, cap, rfl, h⟩
        have holds : ∀ j u, (l.flatMap f)[j]? = some u → w.cell? ((⟨g, 0, none⟩ : Addr).add j) = some u := World.ownsRow.cells hown (g := g) rfl
        have hr := run_append_grow (P := P) w t ty e i0 z ht hi0 hz0 ⟨g, 0, none⟩ l.length cap (l.flatMap f) (by rw [hz1]; exact hown.1) holds ⟨g0, 0, none⟩ 1 1 (f y) (by rw [hz1]; exact hl1) hnews (by omega) (by omega) (by rw [hz2]; exact growslice_fits (by omega) hlen)
        rw [hr] at hrun
        injection hrun with _ hw
        rw [← hw]
        exact (Later.drew w).alloc (Nat.le_refl _) _
    exact ⟨v', w', hrun, conv ho, AR.later hlat⟩
end
end Go.Proofs.YtcneefmaghoejaaGreatDoor
namespace Go.Proofs.YtcneefmaghoejaaGreatDoor
open Go.RowKit
def Keeps (l : List Oper) (R : World → World → Prop) (U : Nat → World → (Operand → Value) → Prop) : Prop :=
  ∀ i o w w' ρ ρ', l[i]? = some o → U i w ρ → R w w' → (∀ j ∈ edges o, ∀ oj d, l[j]? = some oj → oj.dst = some d → ρ' (.tmp d) = ρ (.tmp d)) → U i w' ρ'
structure Inv2 (l : List Oper) (V : Nat → World → Value → Prop) (U : Nat → World → (Operand → Value) → Prop) (R : World → World → Prop) (a0 : Act) (w0 : World) (m : Nat) (listed : Array Bool) (a : Act) (w : World) : Prop where
  base : Inv l V R a0 w0 m listed a w
  post : ∀ i o, l[i]? = some o → listed.getD i false = true → U i w a.eval
section
variable {P : Program} {l zs : List Oper} {Q : Exit → Act → World → Prop} {R : World → World → Prop} {V : Nat → World → Value → Prop} {U : Nat → World → (Operand → Value) → Prop} {a0 : Act} {w0 : World}
theorem Inv2.step (hok : okFrom l a0.tmps.size l 0 = true) (hV : ∀ i w w' v, V i w v → R w w' → V i w' v) (hU : Keeps l R U) (hrefl : ∀ w, R w w) (hT : ∀ a b c, R a b → R b c → R a c) {m : Nat} {listed : Array Bool} {a : Act} {w w' : World} {v : Value} (I : Inv2 l V U R a0 w0 m listed a w) {i : Nat} {o : Oper} (ho : l[i]? = some o) (him : i < m)
    (hun : listed.getD i false = false) (hall : ∀ j ∈ edges o, listed.getD j false = true) (hr : R w w') (hv : V i w' v) (hu : U i w' a.eval) : Inv2 l V U R a0 w0 m (listed.setIfInBounds i true) (a.put o.dst v) w' := by
  refine ⟨I.base.step hok hV hT ho him hun hall hr hv, ?_⟩
  have hil : i < listed.size := by rw [I.base.len]; exact him
  have hoko := okFrom_at hok i o ho
  rw [Nat.zero_add] at hoko
  have keep : ∀ j d oj, l[j]? = some oj → oj.dst = some d → j ≠ i → (a.put o.dst v).eval (.tmp d) = a.eval (.tmp d) := by
    intro j d oj hj hd hji
    refine Act.eval_put fun d' hd' e => ?_
    injection e with e
    subst e
    have hokj := okFrom_at hok j oj hj
    simp only [okAt, hd, Bool.and_eq_true, Nat.zero_add, beq_iff_eq] at hokj
    simp only [okAt, hd', Bool.and_eq_true, beq_iff_eq] at hoko
    rw [hokj.1.1.2.2] at hoko
    have := hoko.1.1.2.2
    injection this with this
    exact hji this
  intro j oj hj hl
  by_cases hji : j = i
  · subst hji
    rw [hj] at ho; injection ho with ho; subst ho
    refine hU j oj w' w' a.eval _ hj hu (hrefl _) fun k hk ok d hok' hd => keep k d ok hok' hd ?_
    intro e
    subst e
    have := hall k hk
    rw [hun] at this
    cases this
  · have hl' : listed.getD j false = true := by rw [getD_set _ _ _ hil, if_neg hji] at hl; exact hl
    refine hU j oj w w' a.eval _ hj (I.post j oj hj hl') hr fun k hk ok d hok' hd => keep k d ok hok' hd ?_
    intro e
    subst e
    have := I.base.closed j oj hj hl' k hk
    rw [hun] at this
    cases this
end
end Go.Proofs.YtcneefmaghoejaaGreatDoor
