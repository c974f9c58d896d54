/- Parts of the proof: PaS, PaD. Put together by slim.py. -/
import Derived.Test.YtcneefmaghoejaaGreatDoorB7
set_option linter.unusedSimpArgs false
set_option linter.unusedVariables false
namespace Go.Proofs.YtcneefmaghoejaaGreatDoor
theorem sane_behind (s : List UInt8) : Sane (behindP s) := by
  unfold behindP
  repeat (first | exact sane_pure _ | exact sane_may _ | exact sane_must _ | exact sane_name | exact sane_num | exact sane_one _ | exact sane_expr | apply sane_ite | apply sane_list | refine sane_bind ?_ fun _ => ?_)
theorem sane_itemP : Sane itemP := by
  unfold itemP
  repeat (first | exact sane_pure _ | exact sane_may _ | exact sane_must _ | exact sane_name | exact sane_num | exact sane_one _ | exact sane_expr | exact sane_behind _ | apply sane_ite | apply sane_list | refine sane_bind ?_ fun _ => ?_)
theorem sane_orderP : Sane orderP := by
  unfold orderP
  repeat (first | exact sane_pure _ | exact sane_may _ | exact sane_must _ | exact sane_name | exact sane_num | exact sane_one _ | exact sane_expr | exact sane_behind _ | exact sane_itemP | apply sane_ite | apply sane_list | refine sane_bind ?_ fun _ => ?_)
theorem sane_itemsP : Sane itemsP := by
  unfold itemsP
  repeat (first | exact sane_pure _ | exact sane_may _ | exact sane_must _ | exact sane_name | exact sane_num | exact sane_one _ | exact sane_expr | exact sane_behind _ | exact sane_itemP | exact sane_orderP | apply sane_ite | apply sane_list | refine sane_bind ?_ fun _ => ?_)
theorem sane_groupP : Sane groupP := by
  unfold groupP
  repeat (first | exact sane_pure _ | exact sane_may _ | exact sane_must _ | exact sane_name | exact sane_num | exact sane_one _ | exact sane_expr | exact sane_behind _ | exact sane_itemP | exact sane_orderP | exact sane_itemsP | apply sane_ite | apply sane_list | refine sane_bind ?_ fun _ => ?_)
theorem sane_ordersP : Sane ordersP := by
  unfold ordersP
  repeat (first | exact sane_pure _ | exact sane_may _ | exact sane_must _ | exact sane_name | exact sane_num | exact sane_one _ | exact sane_expr | exact sane_behind _ | exact sane_itemP | exact sane_orderP | exact sane_itemsP | exact sane_groupP | apply sane_ite | apply sane_list | refine sane_bind ?_ fun _ => ?_)
theorem sane_limitP : Sane limitP := by
  unfold limitP
  repeat (first | exact sane_pure _ | exact sane_may _ | exact sane_must _ | exact sane_name | exact sane_num | exact sane_one _ | exact sane_expr | exact sane_behind _ | exact sane_itemP | exact sane_orderP | exact sane_itemsP | exact sane_groupP | exact sane_ordersP | apply sane_ite | apply sane_list | refine sane_bind ?_ fun _ => ?_)
theorem sane_queryP : Sane queryP := by
  unfold queryP
  repeat (first | exact sane_pure _ | exact sane_may _ | exact sane_must _ | exact sane_name | exact sane_num | exact sane_one _ | exact sane_expr | exact sane_behind _ | exact sane_itemP | exact sane_orderP | exact sane_itemsP | exact sane_groupP | exact sane_ordersP | exact sane_limitP | apply sane_ite | apply sane_list | refine sane_bind ?_ fun _ => ?_)
theorem sane_columnP : Sane columnP := by
  unfold columnP
  repeat (first | exact sane_pure _ | exact sane_may _ | exact sane_must _ | exact sane_name | exact sane_num | exact sane_one _ | exact sane_expr | exact sane_behind _ | exact sane_itemP | exact sane_orderP | exact sane_itemsP | exact sane_groupP | exact sane_ordersP | exact sane_limitP | exact sane_queryP | apply sane_ite | apply sane_list | refine sane_bind ?_ fun _ => ?_)
theorem sane_spaceP : Sane spaceP := by
  unfold spaceP
  repeat (first | exact sane_pure _ | exact sane_may _ | exact sane_must _ | exact sane_name | exact sane_num | exact sane_one _ | exact sane_expr | exact sane_behind _ | exact sane_itemP | exact sane_orderP | exact sane_itemsP | exact sane_groupP | exact sane_ordersP | exact sane_limitP | exact sane_queryP | exact sane_columnP | apply sane_ite | apply sane_list | refine sane_bind ?_ fun _ => ?_)
theorem sane_tableP : Sane tableP := by
  unfold tableP
  repeat (first | exact sane_pure _ | exact sane_may _ | exact sane_must _ | exact sane_name | exact sane_num | exact sane_one _ | exact sane_expr | exact sane_behind _ | exact sane_itemP | exact sane_orderP | exact sane_itemsP | exact sane_groupP | exact sane_ordersP | exact sane_limitP | exact sane_queryP | exact sane_columnP | exact sane_spaceP | apply sane_ite | apply sane_list | refine sane_bind ?_ fun _ => ?_)
theorem sane_viewP : Sane viewP := by
  unfold viewP
  repeat (first | exact sane_pure _ | exact sane_may _ | exact sane_must _ | exact sane_name | exact sane_num | exact sane_one _ | exact sane_expr | exact sane_behind _ | exact sane_itemP | exact sane_orderP | exact sane_itemsP | exact sane_groupP | exact sane_ordersP | exact sane_limitP | exact sane_queryP | exact sane_columnP | exact sane_spaceP | exact sane_tableP | apply sane_ite | apply sane_list | refine sane_bind ?_ fun _ => ?_)
theorem sane_jobA (s : List UInt8) : Sane (jobAP s) := by
  unfold jobAP
  repeat (first | exact sane_pure _ | exact sane_may _ | exact sane_must _ | exact sane_name | exact sane_num | exact sane_one _ | exact sane_expr | apply sane_ite | apply sane_list | refine sane_bind ?_ fun _ => ?_)
theorem sane_jobP : Sane jobP := by
  unfold jobP
  repeat (first | exact sane_pure _ | exact sane_may _ | exact sane_must _ | exact sane_name | exact sane_num | exact sane_one _ | exact sane_expr | exact sane_behind _ | exact sane_itemP | exact sane_orderP | exact sane_itemsP | exact sane_groupP | exact sane_ordersP | exact sane_limitP | exact sane_queryP | exact sane_columnP | exact sane_spaceP | exact sane_tableP | exact sane_viewP | exact sane_jobA _ | apply sane_ite | apply sane_list | refine sane_bind ?_ fun _ => ?_)
theorem sane_createP : Sane createP := by
  unfold createP
  repeat (first | exact sane_pure _ | exact sane_may _ | exact sane_must _ | exact sane_name | exact sane_num | exact sane_one _ | exact sane_expr | exact sane_behind _ | exact sane_itemP | exact sane_orderP | exact sane_itemsP | exact sane_groupP | exact sane_ordersP | exact sane_limitP | exact sane_queryP | exact sane_columnP | exact sane_spaceP | exact sane_tableP | exact sane_viewP | exact sane_jobA _ | exact sane_jobP | apply sane_ite | apply sane_list | refine sane_bind ?_ fun _ => ?_)
theorem sane_dropP : Sane dropP := by
  unfold dropP
  repeat (first | exact sane_pure _ | exact sane_may _ | exact sane_must _ | exact sane_name | exact sane_num | exact sane_one _ | exact sane_expr | exact sane_behind _ | exact sane_itemP | exact sane_orderP | exact sane_itemsP | exact sane_groupP | exact sane_ordersP | exact sane_limitP | exact sane_queryP | exact sane_columnP | exact sane_spaceP | exact sane_tableP | exact sane_viewP | exact sane_jobA _ | exact sane_jobP | exact sane_createP | apply sane_ite | apply sane_list | refine sane_bind ?_ fun _ => ?_)
theorem sane_rowP : Sane rowP := by
  unfold rowP
  repeat (first | exact sane_pure _ | exact sane_may _ | exact sane_must _ | exact sane_name | exact sane_num | exact sane_one _ | exact sane_expr | exact sane_behind _ | exact sane_itemP | exact sane_orderP | exact sane_itemsP | exact sane_groupP | exact sane_ordersP | exact sane_limitP | exact sane_queryP | exact sane_columnP | exact sane_spaceP | exact sane_tableP | exact sane_viewP | exact sane_jobA _ | exact sane_jobP | exact sane_createP | exact sane_dropP | apply sane_ite | apply sane_list | refine sane_bind ?_ fun _ => ?_)
theorem sane_insertP : Sane insertP := by
  unfold insertP
  repeat (first | exact sane_pure _ | exact sane_may _ | exact sane_must _ | exact sane_name | exact sane_num | exact sane_one _ | exact sane_expr | exact sane_behind _ | exact sane_itemP | exact sane_orderP | exact sane_itemsP | exact sane_groupP | exact sane_ordersP | exact sane_limitP | exact sane_queryP | exact sane_columnP | exact sane_spaceP | exact sane_tableP | exact sane_viewP | exact sane_jobA _ | exact sane_jobP | exact sane_createP | exact sane_dropP | exact sane_rowP | apply sane_ite | apply sane_list | refine sane_bind ?_ fun _ => ?_)
theorem sane_setP : Sane setP := by
  unfold setP
  repeat (first | exact sane_pure _ | exact sane_may _ | exact sane_must _ | exact sane_name | exact sane_num | exact sane_one _ | exact sane_expr | exact sane_behind _ | exact sane_itemP | exact sane_orderP | exact sane_itemsP | exact sane_groupP | exact sane_ordersP | exact sane_limitP | exact sane_queryP | exact sane_columnP | exact sane_spaceP | exact sane_tableP | exact sane_viewP | exact sane_jobA _ | exact sane_jobP | exact sane_createP | exact sane_dropP | exact sane_rowP | exact sane_insertP | apply sane_ite | apply sane_list | refine sane_bind ?_ fun _ => ?_)
theorem sane_updateP : Sane updateP := by
  unfold updateP
  repeat (first | exact sane_pure _ | exact sane_may _ | exact sane_must _ | exact sane_name | exact sane_num | exact sane_one _ | exact sane_expr | exact sane_behind _ | exact sane_itemP | exact sane_orderP | exact sane_itemsP | exact sane_groupP | exact sane_ordersP | exact sane_limitP | exact sane_queryP | exact sane_columnP | exact sane_spaceP | exact sane_tableP | exact sane_viewP | exact sane_jobA _ | exact sane_jobP | exact sane_createP | exact sane_dropP | exact sane_rowP | exact sane_insertP | exact sane_setP | apply sane_ite | apply sane_list | refine sane_bind ?_ fun _ => ?_)
theorem sane_deleteP : Sane deleteP := by
  unfold deleteP
  repeat (first | exact sane_pure _ | exact sane_may _ | exact sane_must _ | exact sane_name | exact sane_num | exact sane_one _ | exact sane_expr | exact sane_behind _ | exact sane_itemP | exact sane_orderP | exact sane_itemsP | exact sane_groupP | exact sane_ordersP | exact sane_limitP | exact sane_queryP | exact sane_columnP | exact sane_spaceP | exact sane_tableP | exact sane_viewP | exact sane_jobA _ | exact sane_jobP | exact sane_createP | exact sane_dropP | exact sane_rowP | exact sane_insertP | exact sane_setP | exact sane_updateP | apply sane_ite | apply sane_list | refine sane_bind ?_ fun _ => ?_)
theorem sane_selectP : Sane selectP := by
  unfold selectP
  repeat (first | exact sane_pure _ | exact sane_may _ | exact sane_must _ | exact sane_name | exact sane_num | exact sane_one _ | exact sane_expr | exact sane_behind _ | exact sane_itemP | exact sane_orderP | exact sane_itemsP | exact sane_groupP | exact sane_ordersP | exact sane_limitP | exact sane_queryP | exact sane_columnP | exact sane_spaceP | exact sane_tableP | exact sane_viewP | exact sane_jobA _ | exact sane_jobP | exact sane_createP | exact sane_dropP | exact sane_rowP | exact sane_insertP | exact sane_setP | exact sane_updateP | exact sane_deleteP | apply sane_ite | apply sane_list | refine sane_bind ?_ fun _ => ?_)
theorem sane_endP : Sane endP := by
  unfold endP
  repeat (first | exact sane_pure _ | exact sane_may _ | exact sane_must _ | exact sane_name | exact sane_num | exact sane_one _ | exact sane_expr | exact sane_behind _ | exact sane_itemP | exact sane_orderP | exact sane_itemsP | exact sane_groupP | exact sane_ordersP | exact sane_limitP | exact sane_queryP | exact sane_columnP | exact sane_spaceP | exact sane_tableP | exact sane_viewP | exact sane_jobA _ | exact sane_jobP | exact sane_createP | exact sane_dropP | exact sane_rowP | exact sane_insertP | exact sane_setP | exact sane_updateP | exact sane_deleteP | exact sane_selectP | apply sane_ite | apply sane_list | refine sane_bind ?_ fun _ => ?_)
theorem sane_endFrom (k : Int) : Sane (endFromP k) := by
  unfold endFromP
  repeat (first | exact sane_pure _ | exact sane_may _ | exact sane_must _ | exact sane_name | exact sane_num | exact sane_one _ | exact sane_expr | exact sane_endP | apply sane_ite | apply sane_list | refine sane_bind ?_ fun _ => ?_)
theorem sane_callP : Sane callP := by
  unfold callP
  repeat (first | exact sane_pure _ | exact sane_may _ | exact sane_must _ | exact sane_name | exact sane_num | exact sane_one _ | exact sane_expr | exact sane_behind _ | exact sane_itemP | exact sane_orderP | exact sane_itemsP | exact sane_groupP | exact sane_ordersP | exact sane_limitP | exact sane_queryP | exact sane_columnP | exact sane_spaceP | exact sane_tableP | exact sane_viewP | exact sane_jobA _ | exact sane_jobP | exact sane_createP | exact sane_dropP | exact sane_rowP | exact sane_insertP | exact sane_setP | exact sane_updateP | exact sane_deleteP | exact sane_selectP | exact sane_endP | exact sane_endFrom _ | apply sane_ite | apply sane_list | refine sane_bind ?_ fun _ => ?_)
theorem sane_tailK {α : Type} {p : Ps α} (hp : Sane p) {t : Wd} {r : Wds} (h : t.k ≠ 0) : match p r with
  | .ok (_, r') => r' <:+ t :: r ∧ (EndsW (t :: r) → EndsW r')
  | .error n => n ≤ (t :: r).length ∧ (EndsW (t :: r) → 0 < n) := by
  cases e : p r with
  | error n =>
    obtain ⟨k1, k2⟩ := hp.err e
    exact ⟨by simp; omega, fun hl => k2 (hl.tail h)⟩
  | ok y =>
    obtain ⟨z, r2⟩ := y
    obtain ⟨k1, k2⟩ := hp.ok e
    exact ⟨k1.trans (List.suffix_cons _ _), fun hl => k2 (hl.tail h)⟩
theorem sane_statement : Sane statementP := by
  intro l
  match l with
  | [] => exact ⟨Nat.le_refl _, fun h => h.pos⟩
  | t :: r =>
    unfold statementP
    by_cases h : t.k = 1
    · have hk : t.k ≠ 0 := by omega
      simp only [h, not_true_eq_false, if_false]
      by_cases h1 : t.s = w_select
      · simp only [h1, if_true]; exact sane_selectP (t :: r)
      simp only [h1, if_false]
      by_cases h_create : t.s = w_create
      · simp only [h_create, if_true]; exact sane_tailK sane_createP hk
      simp only [h_create, if_false]
      by_cases h_drop : t.s = w_drop
      · simp only [h_drop, if_true]; exact sane_tailK sane_dropP hk
      simp only [h_drop, if_false]
      by_cases h_insert : t.s = w_insert
      · simp only [h_insert, if_true]; exact sane_tailK sane_insertP hk
      simp only [h_insert, if_false]
      by_cases h_update : t.s = w_update
      · simp only [h_update, if_true]; exact sane_tailK sane_updateP hk
      simp only [h_update, if_false]
      by_cases h_delete : t.s = w_delete
      · simp only [h_delete, if_true]; exact sane_tailK sane_deleteP hk
      simp only [h_delete, if_false]
      by_cases h_call : t.s = w_call
      · simp only [h_call, if_true]; exact sane_tailK sane_callP hk
      simp only [h_call, if_false]
      exact ⟨Nat.le_refl _, fun h => h.pos⟩
    · simp only [h, not_false_eq_true, if_true]
      exact ⟨Nat.le_refl _, fun h => h.pos⟩
def Agree {α : Type} (m : Nat) (p q : Ps α) : Prop := ∀ l : Wds, l.length ≤ m → p l = q l
theorem Agree.less {α : Type} {m k : Nat} {p q : Ps α} (h : Agree m p q) (hk : k ≤ m) : Agree k p q := fun l hl => h l (by omega)
theorem agree_refl {α : Type} (m : Nat) (p : Ps α) : Agree m p p := fun _ _ => rfl
theorem agree_bind {α β : Type} {m : Nat} {p q : Ps α} {f g : α → Ps β} (h : Agree m p q) (hp : Sane p) (k : ∀ x, Agree m (f x) (g x)) : Agree m (p >>= f) (q >>= g) := by
  intro l hl
  rw [bind_at, bind_at, ← h l hl]
  cases e : p l with
  | error n => rfl
  | ok y =>
    obtain ⟨x, r⟩ := y
    exact k x r (by have := hp.len e; omega)
theorem agree_ite {α : Type} {m : Nat} {c : Prop} [Decidable c] {p q p' q' : Ps α} (h : Agree m p p') (k : Agree m q q') : Agree m (if c then p else q) (if c then p' else q') := by
  split
  · exact h
  · exact k
theorem head_tail {s : List UInt8} {l : Wds} (h : headIs s l = true) : l.tail.length + 1 = l.length := by
  obtain ⟨t, r, rfl, _⟩ := headIs_cons h
  rfl
theorem agree_leftF {m : Nat} {p q : Ps Tr} (h : Agree m p q) (hp : Sane p) (lv : Nat) : ∀ f x, Agree m (leftF p lv f x) (leftF q lv f x)
  | 0, x => agree_refl _ _
  | f + 1, x => by
    intro l hl
    simp only [leftF]
    cases e : opOf (opsL lv) l with
    | none => rfl
    | some o =>
      obtain ⟨s, _, hs⟩ := opOf_some e
      have := head_tail hs
      exact agree_bind h hp (fun y => agree_leftF h hp lv f _) l.tail (by omega)
theorem agree_leftP {m : Nat} {p q : Ps Tr} (h : Agree m p q) (hp : Sane p) (lv : Nat) : Agree m (leftP p lv) (leftP q lv) := agree_bind h hp fun x l hl => agree_leftF h hp lv _ _ l hl
theorem agree_cmp {m : Nat} {p q : Ps Tr} (h : Agree m p q) (hp : Sane p) : Agree m (cmpP p) (cmpP q) := by
  refine agree_bind h hp fun x => agree_bind (agree_refl _ _) (sane_may _) fun b => agree_ite (agree_refl _ _) ?_
  intro l hl
  unfold cmpF
  cases e : opOf (opsL 3) l with
  | none => rfl
  | some o =>
    obtain ⟨s, _, hs⟩ := opOf_some e
    have := head_tail hs
    exact agree_bind h hp (fun y => agree_refl _ _) l.tail (by omega)
theorem agree_take {α : Type} {m : Nat} (s : List UInt8) {p q p' q' : Ps α} (h : Agree m p p') (k : Agree (m + 1) q q') : Agree (m + 1) (fun l => if headIs s l then p l.tail else q l) (fun l => if headIs s l then p' l.tail else q' l) := by
  intro l hl
  by_cases e : headIs s l = true
  · have := head_tail e
    simp only [e, if_true]
    exact h l.tail (by omega)
  · simp only [e]
    exact k l hl
theorem may_bind {α : Type} (s : List UInt8) (f : Bool → Ps α) : (may s >>= f) = fun l => if headIs s l then f true l.tail else f false l := by
  funext l
  rw [bind_at]
  unfold may
  by_cases e : headIs s l = true
  · simp only [e, if_true]
  · simp only [e]
    rfl
theorem agree_un {m : Nat} {p q p' q' : Ps Tr} (s : List UInt8) (op : Int) (h : Agree m p p') (hp : Sane p) (k : Agree (m + 1) q q') : Agree (m + 1) (unP s op p q) (unP s op p' q') := by
  unfold unP
  rw [may_bind, may_bind]
  exact agree_take s (agree_bind h hp fun x => agree_refl _ _) k
theorem agree_args {m : Nat} {p q : Ps Tr} (h : Agree m p q) (hp : Sane p) (op : Int) : Agree m (argsP p op) (argsP q op) :=
  agree_bind (agree_refl _ _) (sane_ite (sane_bind sane_num fun n => sane_bind (sane_must _) fun _ => sane_pure _) (sane_pure _)) fun _ => agree_bind h hp fun x =>
    agree_bind (agree_ite (agree_bind (agree_refl _ _) (sane_must _) fun _ => agree_bind h hp fun y => agree_refl _ _) (agree_refl _ _)) (sane_ite (sane_bind (sane_must _) fun _ => sane_bind hp fun y => sane_pure _) (sane_pure _)) fun _ => agree_refl _ _
theorem agree_fun {m : Nat} {p q : Ps Tr} (h : Agree m p q) (hp : Sane p) (op : Int) : Agree m (funP p op) (funP q op) :=
  agree_ite (agree_bind (agree_refl _ _) (sane_may _) fun b => agree_ite (agree_refl _ _) (agree_args h hp _)) (agree_args h hp op)
theorem agree_named {m : Nat} {p q : Ps Tr} (h : Agree m p q) (hp : Sane p) : Agree (m + 1) (namedP p) (namedP q) := by
  refine agree_bind (agree_refl _ _) sane_name fun n => ?_
  intro l hl
  by_cases e : headIs s_open l = true
  · have := head_tail e
    simp only [e, if_true]
    cases funOf n with
    | none => rfl
    | some op => exact agree_fun h hp op l.tail (by omega)
  · simp only [e]
    rfl
theorem agree_atom {m : Nat} {p q : Ps Tr} (h : Agree m p q) (hp : Sane p) : Agree (m + 1) (atomP p) (atomP q) := by
  intro l hl
  match l with
  | [] => rfl
  | t :: r =>
    have e1 : (do let x ← p; must s_close; return x : Ps Tr) r = (do let x ← q; must s_close; return x : Ps Tr) r := agree_bind h hp (fun x => agree_refl _ _) r (by simp at hl; omega)
    have e2 := agree_named h hp (t :: r) hl
    simp only [atomP]
    rw [e1, e2]
theorem pE_fuel : ∀ (f g lv : Nat) (m : Nat), lv ≤ 7 → 8 * m + 8 - lv ≤ f → 8 * m + 8 - lv ≤ g → Agree m (pE f lv) (pE g lv)
  | 0, _, _, _, _, h, _ => by omega
  | _, 0, _, _, _, _, h => by omega
  | f + 1, g + 1, 0, m, _, hf, hg => agree_leftP (pE_fuel f g 1 m (by omega) (by omega) (by omega)) (sane_pE _ _) 0
  | f + 1, g + 1, 1, m, _, hf, hg => agree_leftP (pE_fuel f g 2 m (by omega) (by omega) (by omega)) (sane_pE _ _) 1
  | f + 1, g + 1, 2, 0, _, hf, hg => fun l hl => by
    match l, hl with
    | [], _ => exact pE_fuel f g 3 0 (by omega) (by omega) (by omega) [] (Nat.le_refl _)
  | f + 1, g + 1, 2, m + 1, _, hf, hg => agree_un _ _ (pE_fuel f g 2 m (by omega) (by omega) (by omega)) (sane_pE _ _) (pE_fuel f g 3 (m + 1) (by omega) (by omega) (by omega))
  | f + 1, g + 1, 3, m, _, hf, hg => agree_cmp (pE_fuel f g 4 m (by omega) (by omega) (by omega)) (sane_pE _ _)
  | f + 1, g + 1, 4, m, _, hf, hg => agree_leftP (pE_fuel f g 5 m (by omega) (by omega) (by omega)) (sane_pE _ _) 4
  | f + 1, g + 1, 5, m, _, hf, hg => agree_leftP (pE_fuel f g 6 m (by omega) (by omega) (by omega)) (sane_pE _ _) 5
  | f + 1, g + 1, 6, 0, _, hf, hg => fun l hl => by
    match l, hl with
    | [], _ => exact pE_fuel f g 7 0 (by omega) (by omega) (by omega) [] (Nat.le_refl _)
  | f + 1, g + 1, 6, m + 1, _, hf, hg => agree_un _ _ (pE_fuel f g 6 m (by omega) (by omega) (by omega)) (sane_pE _ _) (pE_fuel f g 7 (m + 1) (by omega) (by omega) (by omega))
  | f + 1, g + 1, 7, 0, _, hf, hg => fun l hl => by
    match l, hl with
    | [], _ => rfl
  | f + 1, g + 1, 7, m + 1, _, hf, hg => agree_atom (pE_fuel f g 0 m (by omega) (by omega) (by omega)) (sane_pE _ _)
  | _ + 1, _ + 1, _ + 8, _, h, _, _ => by omega
theorem exprL_pE {f lv : Nat} {l : Wds} (hlv : lv ≤ 7) (h : 8 * l.length + 8 - lv ≤ f) : pE f lv l = exprL lv l := pE_fuel f _ lv l.length hlv h (Nat.le_refl _) l (Nat.le_refl _)
theorem exprL_agree {f lv m : Nat} (hlv : lv ≤ 7) (h : 8 * m + 8 - lv ≤ f) : Agree m (pE f lv) (exprL lv) := fun l hl => exprL_pE hlv (by omega)
theorem exprL_0 : exprL 0 = leftP (exprL 1) 0 := funext fun l => agree_leftP (exprL_agree (f := 8 * l.length + 7) (m := l.length) (by omega) (by omega)) (sane_pE _ _) 0 l (Nat.le_refl _)
theorem exprL_1 : exprL 1 = leftP (exprL 2) 1 := funext fun l => agree_leftP (exprL_agree (f := 8 * l.length + 6) (m := l.length) (by omega) (by omega)) (sane_pE _ _) 1 l (Nat.le_refl _)
theorem exprL_2 : exprL 2 = unP w_not 4 (exprL 2) (exprL 3) := funext fun l => by
  match l with
  | [] => rfl
  | t :: r => exact agree_un w_not 4 (exprL_agree (f := 8 * (t :: r).length + 5) (m := r.length) (by omega) (by simp only [List.length_cons]; omega)) (sane_pE _ _) (exprL_agree (m := r.length + 1) (by omega) (by simp only [List.length_cons]; omega)) (t :: r) (by simp)
theorem exprL_3 : exprL 3 = cmpP (exprL 4) := funext fun l => agree_cmp (exprL_agree (f := 8 * l.length + 4) (m := l.length) (by omega) (by omega)) (sane_pE _ _) l (Nat.le_refl _)
theorem exprL_4 : exprL 4 = leftP (exprL 5) 4 := funext fun l => agree_leftP (exprL_agree (f := 8 * l.length + 3) (m := l.length) (by omega) (by omega)) (sane_pE _ _) 4 l (Nat.le_refl _)
theorem exprL_5 : exprL 5 = leftP (exprL 6) 5 := funext fun l => agree_leftP (exprL_agree (f := 8 * l.length + 2) (m := l.length) (by omega) (by omega)) (sane_pE _ _) 5 l (Nat.le_refl _)
theorem exprL_6 : exprL 6 = unP s_minus 3 (exprL 6) (exprL 7) := funext fun l => by
  match l with
  | [] => rfl
  | t :: r => exact agree_un s_minus 3 (exprL_agree (f := 8 * (t :: r).length + 1) (m := r.length) (by omega) (by simp only [List.length_cons]; omega)) (sane_pE _ _) (exprL_agree (m := r.length + 1) (by omega) (by simp only [List.length_cons]; omega)) (t :: r) (by simp)
theorem exprL_7 : exprL 7 = atomP (exprL 0) := funext fun l => by
  match l with
  | [] => rfl
  | t :: r => exact agree_atom (exprL_agree (f := 8 * (t :: r).length) (m := r.length) (by omega) (by simp only [List.length_cons]; omega)) (sane_pE _ _) (t :: r) (by simp)
end Go.Proofs.YtcneefmaghoejaaGreatDoor
set_option linter.unusedSimpArgs false
set_option linter.unusedVariables false
namespace Go.Proofs.YtcneefmaghoejaaGreatDoor
inductive RSt where
  | good (l : Wds)
  | bad (n : Nat)
def RSt.left : RSt → Nat
  | .good l => l.length
  | .bad n => n
def RSt.isGood : RSt → Bool
  | .good _ => true
  | .bad _ => false
def RSt.words : RSt → Wds
  | .good l => l
  | .bad _ => []
def stepS {α : Type} (p : Ps α) : RSt → RSt
  | .bad n => .bad n
  | .good l => match p l with
    | .ok (_, r) => .good r
    | .error n => .bad n
def Gives {α : Type} (p : Ps α) : RSt → α → Prop
  | .bad _, _ => True
  | .good l, x => match p l with
    | .ok (y, _) => x = y
    | .error _ => True
theorem step_bind {α β : Type} {p : Ps α} {f : α → Ps β} {σ : RSt} {x : α} (h : Gives p σ x) : stepS (p >>= f) σ = stepS (f x) (stepS p σ) := by
  match σ with
  | .bad n => rfl
  | .good l =>
    simp only [stepS, Gives, bind_at] at h ⊢
    cases e : p l with
    | error n => rfl
    | ok y =>
      obtain ⟨y, r⟩ := y
      rw [e] at h
      simp only at h
      subst h
      rfl
theorem gives_bind {α β : Type} {p : Ps α} {f : α → Ps β} {σ : RSt} {x : α} {z : β} (h : Gives p σ x) (k : Gives (f x) (stepS p σ) z) : Gives (p >>= f) σ z := by
  match σ with
  | .bad n => trivial
  | .good l =>
    simp only [stepS, Gives, bind_at] at h k ⊢
    cases e : p l with
    | error n => trivial
    | ok y =>
      obtain ⟨y, r⟩ := y
      rw [e] at h k
      simp only at h k ⊢
      subst h
      exact k
theorem step_pure {α : Type} (x : α) (σ : RSt) : stepS (pure x : Ps α) σ = σ := by cases σ <;> rfl
theorem gives_pure {α : Type} (x : α) (σ : RSt) : Gives (pure x : Ps α) σ x := by cases σ <;> trivial
theorem step_err {α : Type} {p : Ps α} {l : Wds} {n : Nat} (h : p l = .error n) : stepS p (.good l) = .bad n := by simp only [stepS, h]
theorem step_ok {α : Type} {p : Ps α} {l r : Wds} {x : α} (h : p l = .ok (x, r)) : stepS p (.good l) = .good r := by simp only [stepS, h]
def RSt.head (s : List UInt8) (σ : RSt) : Bool := headIs s σ.words
theorem gives_may (s : List UInt8) (σ : RSt) : Gives (may s) σ (σ.head s) := by
  match σ with
  | .bad n => trivial
  | .good l =>
    simp only [Gives, may, RSt.head, RSt.words]
    cases e : headIs s l
    · rfl
    · rfl
theorem step_may (s : List UInt8) (σ : RSt) : stepS (may s) σ = if σ.head s then .good σ.words.tail else σ := by
  match σ with
  | .bad n => rfl
  | .good l =>
    simp only [stepS, may, RSt.head, RSt.words]
    by_cases e : headIs s l = true
    · simp only [e, if_true]
    · simp only [e]; rfl
def RSt.of (W : Wds) : RSt → Prop
  | .good l => l <:+ W ∧ EndsW l
  | .bad n => 0 < n ∧ n ≤ W.length
theorem RSt.of_pos {W : Wds} {σ : RSt} (h : σ.of W) : 0 < σ.left ∧ σ.left ≤ W.length := by
  match σ with
  | .bad n => exact h
  | .good l => exact ⟨h.2.pos, h.1.length_le⟩
theorem RSt.of_next {W l : Wds} (h : (RSt.good l).of W) : ∃ t r, l = t :: r ∧ W[W.length - l.length]? = some t := by
  obtain ⟨⟨b, hb⟩, h2⟩ := h
  match l, h2.pos with
  | t :: r, _ =>
    refine ⟨t, r, rfl, ?_⟩
    rw [← hb, List.length_append, Nat.add_sub_cancel, List.getElem?_append_right (Nat.le_refl _), Nat.sub_self]
    rfl
theorem RSt.left_step_le {α : Type} {p : Ps α} (hp : Sane p) (σ : RSt) : (stepS p σ).left ≤ σ.left := by
  match σ with
  | .bad n => exact Nat.le_refl _
  | .good l =>
    cases e : p l with
    | error n => rw [step_err e]; exact (hp.err e).1
    | ok y =>
      obtain ⟨x, r⟩ := y
      rw [step_ok e]
      exact hp.len e
end Go.Proofs.YtcneefmaghoejaaGreatDoor
