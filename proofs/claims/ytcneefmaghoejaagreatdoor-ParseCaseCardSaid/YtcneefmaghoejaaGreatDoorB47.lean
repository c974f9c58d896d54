/- Parts of the proof: PaW2, Lq. Put together by slim.py. -/
import Derived.Test.YtcneefmaghoejaaGreatDoorB38
import Derived.Test.YtcneefmaghoejaaGreatDoorB44
import Derived.Test.YtcneefmaghoejaaGreatDoorB46
set_option linter.unusedSimpArgs false
set_option linter.unusedVariables false
namespace Go.Proofs.YtcneefmaghoejaaGreatDoor
variable {α β : Type} {s1 s2 : Wds} {K : Nat} {b : Bool}
def LS (s1 s2 : Wds) (K : Nat) (P : Ps α) : Prop := Loc s1 s2 K P ∧ Sane P
theorem ls_pure (x : α) : LS s1 s2 K (pure x : Ps α) := ⟨loc_pure x, sane_pure x⟩
theorem ls_wrong : LS s1 s2 K (wrongP : Ps α) := ⟨loc_wrong, sane_wrong⟩
theorem ls_bind {p : Ps α} {f : α → Ps β} (h : LS s1 s2 K p) (k : ∀ x, LS s1 s2 K (f x)) : LS s1 s2 K (p >>= f) := ⟨loc_bind h.1 (fun x => (k x).1) fun x => (k x).2, sane_bind h.2 fun x => (k x).2⟩
theorem ls_ite {c : Prop} [Decidable c] {p q : Ps α} (hp : LS s1 s2 K p) (hq : LS s1 s2 K q) : LS s1 s2 K (if c then p else q) := ⟨loc_ite hp.1 hq.1, sane_ite hp.2 hq.2⟩
theorem ls_may (hB : Brd s1 s2 K b) (s : List UInt8) (hn : s ≠ s_semi) : LS s1 s2 K (may s) := ⟨loc_may hB s fun _ => hn, sane_may s⟩
theorem ls_must (hB : Brd s1 s2 K b) (s : List UInt8) (hn : s ≠ s_semi) : LS s1 s2 K (must s) := ⟨loc_must hB s fun _ => hn, sane_must s⟩
theorem ls_one (hB : Brd s1 s2 K b) (ks : List (List UInt8)) (hn : s_semi ∉ ks) : LS s1 s2 K (anyP ks) := ⟨loc_one hB ks fun _ => hn, sane_one ks⟩
theorem ls_name (hB : Brd s1 s2 K b) : LS s1 s2 K nameP := ⟨loc_name hB, sane_name⟩
theorem ls_num (hB : Brd s1 s2 K b) : LS s1 s2 K numP := ⟨loc_num hB, sane_num⟩
theorem ls_expr (hB : Brd s1 s2 K b) : LS s1 s2 K exprP := ⟨loc_expr hB, sane_exprP⟩
theorem ls_list (hB : Brd s1 s2 K b) {el : Ps α} (h : LS s1 s2 K el) : LS s1 s2 K (listP el) := ⟨loc_list hB h.1 h.2, sane_list h.2⟩
theorem ls_behindP (hB : Brd s1 s2 K b) (s : List UInt8) (hn : s ≠ s_semi) : LS s1 s2 K (behindP s) := by
  unfold behindP
  repeat (first | exact ls_pure _ | exact ls_name hB | exact ls_num hB | exact ls_expr hB | exact ls_must hB _ (by first | assumption | decide) | exact ls_may hB _ (by first | assumption | decide) | exact ls_one hB _ (by decide) | refine ls_list hB ?_ | refine ls_ite ?_ ?_ | refine ls_bind ?_ fun _ => ?_)
theorem ls_itemP (hB : Brd s1 s2 K b) : LS s1 s2 K itemP := by
  unfold itemP
  repeat (first | exact ls_pure _ | exact ls_name hB | exact ls_num hB | exact ls_expr hB | exact ls_must hB _ (by first | assumption | decide) | exact ls_may hB _ (by first | assumption | decide) | exact ls_one hB _ (by decide) | exact ls_behindP hB _ (by decide) | refine ls_list hB ?_ | refine ls_ite ?_ ?_ | refine ls_bind ?_ fun _ => ?_)
theorem ls_orderP (hB : Brd s1 s2 K b) : LS s1 s2 K orderP := by
  unfold orderP
  repeat (first | exact ls_pure _ | exact ls_name hB | exact ls_num hB | exact ls_expr hB | exact ls_must hB _ (by first | assumption | decide) | exact ls_may hB _ (by first | assumption | decide) | exact ls_one hB _ (by decide) | exact ls_behindP hB _ (by decide) | exact ls_itemP hB | refine ls_list hB ?_ | refine ls_ite ?_ ?_ | refine ls_bind ?_ fun _ => ?_)
theorem ls_itemsP (hB : Brd s1 s2 K b) : LS s1 s2 K itemsP := by
  unfold itemsP
  repeat (first | exact ls_pure _ | exact ls_name hB | exact ls_num hB | exact ls_expr hB | exact ls_must hB _ (by first | assumption | decide) | exact ls_may hB _ (by first | assumption | decide) | exact ls_one hB _ (by decide) | exact ls_behindP hB _ (by decide) | exact ls_itemP hB | exact ls_orderP hB | refine ls_list hB ?_ | refine ls_ite ?_ ?_ | refine ls_bind ?_ fun _ => ?_)
theorem ls_groupP (hB : Brd s1 s2 K b) : LS s1 s2 K groupP := by
  unfold groupP
  repeat (first | exact ls_pure _ | exact ls_name hB | exact ls_num hB | exact ls_expr hB | exact ls_must hB _ (by first | assumption | decide) | exact ls_may hB _ (by first | assumption | decide) | exact ls_one hB _ (by decide) | exact ls_behindP hB _ (by decide) | exact ls_itemP hB | exact ls_orderP hB | exact ls_itemsP hB | refine ls_list hB ?_ | refine ls_ite ?_ ?_ | refine ls_bind ?_ fun _ => ?_)
theorem ls_ordersP (hB : Brd s1 s2 K b) : LS s1 s2 K ordersP := by
  unfold ordersP
  repeat (first | exact ls_pure _ | exact ls_name hB | exact ls_num hB | exact ls_expr hB | exact ls_must hB _ (by first | assumption | decide) | exact ls_may hB _ (by first | assumption | decide) | exact ls_one hB _ (by decide) | exact ls_behindP hB _ (by decide) | exact ls_itemP hB | exact ls_orderP hB | exact ls_itemsP hB | exact ls_groupP hB | refine ls_list hB ?_ | refine ls_ite ?_ ?_ | refine ls_bind ?_ fun _ => ?_)
theorem ls_limitP (hB : Brd s1 s2 K b) : LS s1 s2 K limitP := by
  unfold limitP
  repeat (first | exact ls_pure _ | exact ls_name hB | exact ls_num hB | exact ls_expr hB | exact ls_must hB _ (by first | assumption | decide) | exact ls_may hB _ (by first | assumption | decide) | exact ls_one hB _ (by decide) | exact ls_behindP hB _ (by decide) | exact ls_itemP hB | exact ls_orderP hB | exact ls_itemsP hB | exact ls_groupP hB | exact ls_ordersP hB | refine ls_list hB ?_ | refine ls_ite ?_ ?_ | refine ls_bind ?_ fun _ => ?_)
theorem ls_queryP (hB : Brd s1 s2 K b) : LS s1 s2 K queryP := by
  unfold queryP
  repeat (first | exact ls_pure _ | exact ls_name hB | exact ls_num hB | exact ls_expr hB | exact ls_must hB _ (by first | assumption | decide) | exact ls_may hB _ (by first | assumption | decide) | exact ls_one hB _ (by decide) | exact ls_behindP hB _ (by decide) | exact ls_itemP hB | exact ls_orderP hB | exact ls_itemsP hB | exact ls_groupP hB | exact ls_ordersP hB | exact ls_limitP hB | refine ls_list hB ?_ | refine ls_ite ?_ ?_ | refine ls_bind ?_ fun _ => ?_)
theorem ls_columnP (hB : Brd s1 s2 K b) : LS s1 s2 K columnP := by
  unfold columnP
  repeat (first | exact ls_pure _ | exact ls_name hB | exact ls_num hB | exact ls_expr hB | exact ls_must hB _ (by first | assumption | decide) | exact ls_may hB _ (by first | assumption | decide) | exact ls_one hB _ (by decide) | exact ls_behindP hB _ (by decide) | exact ls_itemP hB | exact ls_orderP hB | exact ls_itemsP hB | exact ls_groupP hB | exact ls_ordersP hB | exact ls_limitP hB | exact ls_queryP hB | refine ls_list hB ?_ | refine ls_ite ?_ ?_ | refine ls_bind ?_ fun _ => ?_)
theorem ls_spaceP (hB : Brd s1 s2 K b) : LS s1 s2 K spaceP := by
  unfold spaceP
  repeat (first | exact ls_pure _ | exact ls_name hB | exact ls_num hB | exact ls_expr hB | exact ls_must hB _ (by first | assumption | decide) | exact ls_may hB _ (by first | assumption | decide) | exact ls_one hB _ (by decide) | exact ls_behindP hB _ (by decide) | exact ls_itemP hB | exact ls_orderP hB | exact ls_itemsP hB | exact ls_groupP hB | exact ls_ordersP hB | exact ls_limitP hB | exact ls_queryP hB | exact ls_columnP hB | refine ls_list hB ?_ | refine ls_ite ?_ ?_ | refine ls_bind ?_ fun _ => ?_)
theorem ls_tableP (hB : Brd s1 s2 K b) : LS s1 s2 K tableP := by
  unfold tableP
  repeat (first | exact ls_pure _ | exact ls_name hB | exact ls_num hB | exact ls_expr hB | exact ls_must hB _ (by first | assumption | decide) | exact ls_may hB _ (by first | assumption | decide) | exact ls_one hB _ (by decide) | exact ls_behindP hB _ (by decide) | exact ls_itemP hB | exact ls_orderP hB | exact ls_itemsP hB | exact ls_groupP hB | exact ls_ordersP hB | exact ls_limitP hB | exact ls_queryP hB | exact ls_columnP hB | exact ls_spaceP hB | refine ls_list hB ?_ | refine ls_ite ?_ ?_ | refine ls_bind ?_ fun _ => ?_)
theorem ls_viewP (hB : Brd s1 s2 K b) : LS s1 s2 K viewP := by
  unfold viewP
  repeat (first | exact ls_pure _ | exact ls_name hB | exact ls_num hB | exact ls_expr hB | exact ls_must hB _ (by first | assumption | decide) | exact ls_may hB _ (by first | assumption | decide) | exact ls_one hB _ (by decide) | exact ls_behindP hB _ (by decide) | exact ls_itemP hB | exact ls_orderP hB | exact ls_itemsP hB | exact ls_groupP hB | exact ls_ordersP hB | exact ls_limitP hB | exact ls_queryP hB | exact ls_columnP hB | exact ls_spaceP hB | exact ls_tableP hB | refine ls_list hB ?_ | refine ls_ite ?_ ?_ | refine ls_bind ?_ fun _ => ?_)
theorem ls_jobAP (hB : Brd s1 s2 K b) (s : List UInt8) : LS s1 s2 K (jobAP s) := by
  unfold jobAP
  repeat (first | exact ls_pure _ | exact ls_name hB | exact ls_num hB | exact ls_expr hB | exact ls_must hB _ (by first | assumption | decide) | exact ls_may hB _ (by first | assumption | decide) | exact ls_one hB _ (by decide) | exact ls_behindP hB _ (by decide) | exact ls_itemP hB | exact ls_orderP hB | exact ls_itemsP hB | exact ls_groupP hB | exact ls_ordersP hB | exact ls_limitP hB | exact ls_queryP hB | exact ls_columnP hB | exact ls_spaceP hB | exact ls_tableP hB | exact ls_viewP hB | refine ls_list hB ?_ | refine ls_ite ?_ ?_ | refine ls_bind ?_ fun _ => ?_)
theorem ls_jobP (hB : Brd s1 s2 K b) : LS s1 s2 K jobP := by
  unfold jobP
  repeat (first | exact ls_pure _ | exact ls_name hB | exact ls_num hB | exact ls_expr hB | exact ls_must hB _ (by first | assumption | decide) | exact ls_may hB _ (by first | assumption | decide) | exact ls_one hB _ (by decide) | exact ls_behindP hB _ (by decide) | exact ls_itemP hB | exact ls_orderP hB | exact ls_itemsP hB | exact ls_groupP hB | exact ls_ordersP hB | exact ls_limitP hB | exact ls_queryP hB | exact ls_columnP hB | exact ls_spaceP hB | exact ls_tableP hB | exact ls_viewP hB | exact ls_jobAP hB _ | refine ls_list hB ?_ | refine ls_ite ?_ ?_ | refine ls_bind ?_ fun _ => ?_)
theorem ls_createP (hB : Brd s1 s2 K b) : LS s1 s2 K createP := by
  unfold createP
  repeat (first | exact ls_pure _ | exact ls_name hB | exact ls_num hB | exact ls_expr hB | exact ls_must hB _ (by first | assumption | decide) | exact ls_may hB _ (by first | assumption | decide) | exact ls_one hB _ (by decide) | exact ls_behindP hB _ (by decide) | exact ls_itemP hB | exact ls_orderP hB | exact ls_itemsP hB | exact ls_groupP hB | exact ls_ordersP hB | exact ls_limitP hB | exact ls_queryP hB | exact ls_columnP hB | exact ls_spaceP hB | exact ls_tableP hB | exact ls_viewP hB | exact ls_jobAP hB _ | exact ls_jobP hB | refine ls_list hB ?_ | refine ls_ite ?_ ?_ | refine ls_bind ?_ fun _ => ?_)
theorem ls_dropP (hB : Brd s1 s2 K b) : LS s1 s2 K dropP := by
  unfold dropP
  repeat (first | exact ls_pure _ | exact ls_name hB | exact ls_num hB | exact ls_expr hB | exact ls_must hB _ (by first | assumption | decide) | exact ls_may hB _ (by first | assumption | decide) | exact ls_one hB _ (by decide) | exact ls_behindP hB _ (by decide) | exact ls_itemP hB | exact ls_orderP hB | exact ls_itemsP hB | exact ls_groupP hB | exact ls_ordersP hB | exact ls_limitP hB | exact ls_queryP hB | exact ls_columnP hB | exact ls_spaceP hB | exact ls_tableP hB | exact ls_viewP hB | exact ls_jobAP hB _ | exact ls_jobP hB | exact ls_createP hB | refine ls_list hB ?_ | refine ls_ite ?_ ?_ | refine ls_bind ?_ fun _ => ?_)
theorem ls_rowP (hB : Brd s1 s2 K b) : LS s1 s2 K rowP := by
  unfold rowP
  repeat (first | exact ls_pure _ | exact ls_name hB | exact ls_num hB | exact ls_expr hB | exact ls_must hB _ (by first | assumption | decide) | exact ls_may hB _ (by first | assumption | decide) | exact ls_one hB _ (by decide) | exact ls_behindP hB _ (by decide) | exact ls_itemP hB | exact ls_orderP hB | exact ls_itemsP hB | exact ls_groupP hB | exact ls_ordersP hB | exact ls_limitP hB | exact ls_queryP hB | exact ls_columnP hB | exact ls_spaceP hB | exact ls_tableP hB | exact ls_viewP hB | exact ls_jobAP hB _ | exact ls_jobP hB | exact ls_createP hB | exact ls_dropP hB | refine ls_list hB ?_ | refine ls_ite ?_ ?_ | refine ls_bind ?_ fun _ => ?_)
theorem ls_insertP (hB : Brd s1 s2 K b) : LS s1 s2 K insertP := by
  unfold insertP
  repeat (first | exact ls_pure _ | exact ls_name hB | exact ls_num hB | exact ls_expr hB | exact ls_must hB _ (by first | assumption | decide) | exact ls_may hB _ (by first | assumption | decide) | exact ls_one hB _ (by decide) | exact ls_behindP hB _ (by decide) | exact ls_itemP hB | exact ls_orderP hB | exact ls_itemsP hB | exact ls_groupP hB | exact ls_ordersP hB | exact ls_limitP hB | exact ls_queryP hB | exact ls_columnP hB | exact ls_spaceP hB | exact ls_tableP hB | exact ls_viewP hB | exact ls_jobAP hB _ | exact ls_jobP hB | exact ls_createP hB | exact ls_dropP hB | exact ls_rowP hB | refine ls_list hB ?_ | refine ls_ite ?_ ?_ | refine ls_bind ?_ fun _ => ?_)
theorem ls_setP (hB : Brd s1 s2 K b) : LS s1 s2 K setP := by
  unfold setP
  repeat (first | exact ls_pure _ | exact ls_name hB | exact ls_num hB | exact ls_expr hB | exact ls_must hB _ (by first | assumption | decide) | exact ls_may hB _ (by first | assumption | decide) | exact ls_one hB _ (by decide) | exact ls_behindP hB _ (by decide) | exact ls_itemP hB | exact ls_orderP hB | exact ls_itemsP hB | exact ls_groupP hB | exact ls_ordersP hB | exact ls_limitP hB | exact ls_queryP hB | exact ls_columnP hB | exact ls_spaceP hB | exact ls_tableP hB | exact ls_viewP hB | exact ls_jobAP hB _ | exact ls_jobP hB | exact ls_createP hB | exact ls_dropP hB | exact ls_rowP hB | exact ls_insertP hB | refine ls_list hB ?_ | refine ls_ite ?_ ?_ | refine ls_bind ?_ fun _ => ?_)
theorem ls_updateP (hB : Brd s1 s2 K b) : LS s1 s2 K updateP := by
  unfold updateP
  repeat (first | exact ls_pure _ | exact ls_name hB | exact ls_num hB | exact ls_expr hB | exact ls_must hB _ (by first | assumption | decide) | exact ls_may hB _ (by first | assumption | decide) | exact ls_one hB _ (by decide) | exact ls_behindP hB _ (by decide) | exact ls_itemP hB | exact ls_orderP hB | exact ls_itemsP hB | exact ls_groupP hB | exact ls_ordersP hB | exact ls_limitP hB | exact ls_queryP hB | exact ls_columnP hB | exact ls_spaceP hB | exact ls_tableP hB | exact ls_viewP hB | exact ls_jobAP hB _ | exact ls_jobP hB | exact ls_createP hB | exact ls_dropP hB | exact ls_rowP hB | exact ls_insertP hB | exact ls_setP hB | refine ls_list hB ?_ | refine ls_ite ?_ ?_ | refine ls_bind ?_ fun _ => ?_)
theorem ls_deleteP (hB : Brd s1 s2 K b) : LS s1 s2 K deleteP := by
  unfold deleteP
  repeat (first | exact ls_pure _ | exact ls_name hB | exact ls_num hB | exact ls_expr hB | exact ls_must hB _ (by first | assumption | decide) | exact ls_may hB _ (by first | assumption | decide) | exact ls_one hB _ (by decide) | exact ls_behindP hB _ (by decide) | exact ls_itemP hB | exact ls_orderP hB | exact ls_itemsP hB | exact ls_groupP hB | exact ls_ordersP hB | exact ls_limitP hB | exact ls_queryP hB | exact ls_columnP hB | exact ls_spaceP hB | exact ls_tableP hB | exact ls_viewP hB | exact ls_jobAP hB _ | exact ls_jobP hB | exact ls_createP hB | exact ls_dropP hB | exact ls_rowP hB | exact ls_insertP hB | exact ls_setP hB | exact ls_updateP hB | refine ls_list hB ?_ | refine ls_ite ?_ ?_ | refine ls_bind ?_ fun _ => ?_)
theorem ls_selectP (hB : Brd s1 s2 K b) : LS s1 s2 K selectP := by
  unfold selectP
  repeat (first | exact ls_pure _ | exact ls_name hB | exact ls_num hB | exact ls_expr hB | exact ls_must hB _ (by first | assumption | decide) | exact ls_may hB _ (by first | assumption | decide) | exact ls_one hB _ (by decide) | exact ls_behindP hB _ (by decide) | exact ls_itemP hB | exact ls_orderP hB | exact ls_itemsP hB | exact ls_groupP hB | exact ls_ordersP hB | exact ls_limitP hB | exact ls_queryP hB | exact ls_columnP hB | exact ls_spaceP hB | exact ls_tableP hB | exact ls_viewP hB | exact ls_jobAP hB _ | exact ls_jobP hB | exact ls_createP hB | exact ls_dropP hB | exact ls_rowP hB | exact ls_insertP hB | exact ls_setP hB | exact ls_updateP hB | exact ls_deleteP hB | refine ls_list hB ?_ | refine ls_ite ?_ ?_ | refine ls_bind ?_ fun _ => ?_)
theorem ls_endP (hB : Brd s1 s2 K b) : LS s1 s2 K endP := by
  unfold endP
  repeat (first | exact ls_pure _ | exact ls_name hB | exact ls_num hB | exact ls_expr hB | exact ls_must hB _ (by first | assumption | decide) | exact ls_may hB _ (by first | assumption | decide) | exact ls_one hB _ (by decide) | exact ls_behindP hB _ (by decide) | exact ls_itemP hB | exact ls_orderP hB | exact ls_itemsP hB | exact ls_groupP hB | exact ls_ordersP hB | exact ls_limitP hB | exact ls_queryP hB | exact ls_columnP hB | exact ls_spaceP hB | exact ls_tableP hB | exact ls_viewP hB | exact ls_jobAP hB _ | exact ls_jobP hB | exact ls_createP hB | exact ls_dropP hB | exact ls_rowP hB | exact ls_insertP hB | exact ls_setP hB | exact ls_updateP hB | exact ls_deleteP hB | exact ls_selectP hB | refine ls_list hB ?_ | refine ls_ite ?_ ?_ | refine ls_bind ?_ fun _ => ?_)
theorem ls_endFromP (hB : Brd s1 s2 K b) (k : Int) : LS s1 s2 K (endFromP k) := by
  unfold endFromP
  repeat (first | exact ls_pure _ | exact ls_name hB | exact ls_num hB | exact ls_expr hB | exact ls_must hB _ (by first | assumption | decide) | exact ls_may hB _ (by first | assumption | decide) | exact ls_one hB _ (by decide) | exact ls_behindP hB _ (by decide) | exact ls_itemP hB | exact ls_orderP hB | exact ls_itemsP hB | exact ls_groupP hB | exact ls_ordersP hB | exact ls_limitP hB | exact ls_queryP hB | exact ls_columnP hB | exact ls_spaceP hB | exact ls_tableP hB | exact ls_viewP hB | exact ls_jobAP hB _ | exact ls_jobP hB | exact ls_createP hB | exact ls_dropP hB | exact ls_rowP hB | exact ls_insertP hB | exact ls_setP hB | exact ls_updateP hB | exact ls_deleteP hB | exact ls_selectP hB | exact ls_endP hB | refine ls_list hB ?_ | refine ls_ite ?_ ?_ | refine ls_bind ?_ fun _ => ?_)
theorem ls_callP (hB : Brd s1 s2 K b) : LS s1 s2 K callP := by
  unfold callP
  repeat (first | exact ls_pure _ | exact ls_name hB | exact ls_num hB | exact ls_expr hB | exact ls_must hB _ (by first | assumption | decide) | exact ls_may hB _ (by first | assumption | decide) | exact ls_one hB _ (by decide) | exact ls_behindP hB _ (by decide) | exact ls_itemP hB | exact ls_orderP hB | exact ls_itemsP hB | exact ls_groupP hB | exact ls_ordersP hB | exact ls_limitP hB | exact ls_queryP hB | exact ls_columnP hB | exact ls_spaceP hB | exact ls_tableP hB | exact ls_viewP hB | exact ls_jobAP hB _ | exact ls_jobP hB | exact ls_createP hB | exact ls_dropP hB | exact ls_rowP hB | exact ls_insertP hB | exact ls_setP hB | exact ls_updateP hB | exact ls_deleteP hB | exact ls_selectP hB | exact ls_endP hB | exact ls_endFromP hB _ | refine ls_list hB ?_ | refine ls_ite ?_ ?_ | refine ls_bind ?_ fun _ => ?_)
theorem loc_statement (hB : Brd s1 s2 K b) : Loc s1 s2 K statementP := by
  refine loc_head hB sane_statement (fun t => ?_) fun hb => ⟨wrongP, loc_wrong, fun t r hd => ?_⟩
  · by_cases hk : t.k = 1
    · by_cases h1 : t.s = w_select
      · exact .inr ⟨selectP, (ls_selectP hB).1, fun r => by simp only [statementP, hk, h1, not_true_eq_false, if_false, if_true]⟩
      by_cases h_create : t.s = w_create
      · exact .inl ⟨createP, (ls_createP hB).1, fun r => by unfold statementP; simp only [hk, not_true_eq_false, if_false]; rw [if_neg h1, if_pos h_create]⟩
      by_cases h_drop : t.s = w_drop
      · exact .inl ⟨dropP, (ls_dropP hB).1, fun r => by unfold statementP; simp only [hk, not_true_eq_false, if_false]; rw [if_neg h1, if_neg h_create, if_pos h_drop]⟩
      by_cases h_insert : t.s = w_insert
      · exact .inl ⟨insertP, (ls_insertP hB).1, fun r => by unfold statementP; simp only [hk, not_true_eq_false, if_false]; rw [if_neg h1, if_neg h_create, if_neg h_drop, if_pos h_insert]⟩
      by_cases h_update : t.s = w_update
      · exact .inl ⟨updateP, (ls_updateP hB).1, fun r => by unfold statementP; simp only [hk, not_true_eq_false, if_false]; rw [if_neg h1, if_neg h_create, if_neg h_drop, if_neg h_insert, if_pos h_update]⟩
      by_cases h_delete : t.s = w_delete
      · exact .inl ⟨deleteP, (ls_deleteP hB).1, fun r => by unfold statementP; simp only [hk, not_true_eq_false, if_false]; rw [if_neg h1, if_neg h_create, if_neg h_drop, if_neg h_insert, if_neg h_update, if_pos h_delete]⟩
      by_cases h_call : t.s = w_call
      · exact .inl ⟨callP, (ls_callP hB).1, fun r => by unfold statementP; simp only [hk, not_true_eq_false, if_false]; rw [if_neg h1, if_neg h_create, if_neg h_drop, if_neg h_insert, if_neg h_update, if_neg h_delete, if_pos h_call]⟩
      exact .inr ⟨wrongP, loc_wrong, fun r => by unfold statementP; simp only [hk, not_true_eq_false, if_false]; rw [if_neg h1, if_neg h_create, if_neg h_drop, if_neg h_insert, if_neg h_update, if_neg h_delete, if_neg h_call]; rfl⟩
    · exact .inr ⟨wrongP, loc_wrong, fun r => by unfold statementP; simp only [hk, not_false_eq_true, if_true]; rfl⟩
  · unfold statementP; simp only [(dull_k hd).1, not_false_eq_true, if_true]; rfl
theorem sane_lastP : Sane lastP := by
  intro l
  match l with
  | [] => exact ⟨Nat.le_refl _, fun h => h.pos⟩
  | t :: r =>
    by_cases h : t.k = 0
    · simp only [lastP, h, if_true]
      exact ⟨List.suffix_refl _, id⟩
    · simp only [lastP, h, if_false]
      exact ⟨Nat.le_refl _, fun h => h.pos⟩
theorem loc_last (hB : Brd s1 s2 K false) : Loc s1 s2 K lastP := by
  refine loc_head hB sane_lastP (fun t => ?_) fun hb => nomatch hb
  by_cases h : t.k = 0
  · exact .inr ⟨pure (), loc_pure _, fun r => by simp only [lastP, h, if_true]; rfl⟩
  · exact .inr ⟨wrongP, loc_wrong, fun r => by simp only [lastP, h, if_false]; rfl⟩
theorem loc_whole (hB : Brd s1 s2 K false) : Loc s1 s2 K wholeP :=
  (ls_bind (f := fun s => may s_semi >>= fun _ => lastP >>= fun _ => (pure s : Ps St)) ⟨loc_statement hB, sane_statement⟩ fun s => ls_bind (f := fun _ => lastP >>= fun _ => (pure s : Ps St)) ⟨loc_may hB _ (fun h => nomatch h), sane_may _⟩ fun _ => ls_bind (f := fun _ => (pure s : Ps St)) ⟨loc_last hB, sane_lastP⟩ fun _ => ls_pure s).1
theorem whole_cut {c : Wds} {x : Wd} {r1 : Wds} (h : wholeP (c ++ x :: r1) = .error (r1.length + 1)) (r2 : Wds) : wholeP (c ++ x :: r2) = .error (r2.length + 1) := by
  have hB : Brd r1 r2 (r1.length + 1) false := ⟨fun _ => rfl, fun h => by cases h⟩
  have e1 : c ++ x :: r1 = (c ++ [x]) ++ r1 := by simp
  have e2 : c ++ x :: r2 = (c ++ [x]) ++ r2 := by simp
  rw [e1] at h
  rw [e2]
  have := ((loc_whole hB).err h (Nat.le_refl _)).2
  rw [this]
  congr 1
  omega
theorem whole_ahead {c : Wds} {x : Wd} {r1 : Wds} (h : wholeP (c ++ x :: r1) = .error (r1.length + 1)) {y : Wd} {r2 : Wds} {n : Nat} (e : wholeP (c ++ y :: r2) = .error n) : n ≤ r2.length + 1 := by
  apply Classical.byContradiction
  intro hn
  have hB : Brd (y :: r2) (x :: r1) (r2.length + 2) false := ⟨fun _ => by simp, fun h => by cases h⟩
  have := ((loc_whole hB).err e (by omega)).2
  rw [h] at this
  injection this with this
  simp at this
  omega
theorem whole_semi {l : Wds} {e e2 s : Wd} {d : St} {r : Wds} (hl : ∀ t ∈ l, t.k ≠ 0) (he : e.k = 0) (he2 : e2.k = 0) (hs : s.k = 4 ∧ s.s = s_semi) (hlast : ∀ t ∈ l.getLast?, isW s_semi t = false) (h : wholeP (l ++ [e]) = .ok (d, r)) : ∃ r2, wholeP (l ++ [s, e2]) = .ok (d, r2) := by
  obtain ⟨d1, r1, h1, h2⟩ := bind_inv h
  obtain ⟨x, r3, h3, h4⟩ := bind_inv h2
  obtain ⟨_, r4, h5, h6⟩ := bind_inv h4
  obtain ⟨rfl, rfl⟩ := pure_inv h6
  have hr4 := last_inv h5
  subst hr4
  have hsuf := (sane_statement.ok h1).1
  have hends : EndsW r1 := (sane_statement.ok h1).2 ⟨l, e, rfl, he⟩
  have hr1 : r1 = [e] := by
    obtain ⟨p, hp⟩ := hsuf
    have key : ∀ {q : Wds}, q <:+ l ++ [e] → (∃ t r', q = t :: r' ∧ t.k = 0) → q = [e] := by
      rintro q ⟨p, hp⟩ ⟨t, r', rfl, ht⟩
      rcases List.append_eq_append_iff.1 hp.symm with ⟨a, h1, h2⟩ | ⟨a, h1, h2⟩
      · cases a with
        | nil => simpa using h2.symm
        | cons y a =>
          simp at h2
      · cases a with
        | nil => simpa using h2
        | cons y a =>
          simp only [List.cons_append, List.cons.injEq] at h2
          exact absurd (h2.1 ▸ ht) (hl y (by rw [h1]; simp))
    rcases may_inv h3 with ⟨_, m2, m3, _⟩ | ⟨_, _, m3⟩
    · obtain ⟨t, r', rfl, ht⟩ := headIs_cons m2
      simp only [List.tail_cons] at m3
      subst m3
      have h7 : ∃ t' r'', r = t' :: r'' ∧ t'.k = 0 := by
        cases r with
        | nil => cases h5
        | cons t' r'' =>
          refine ⟨t', r'', rfl, ?_⟩
          apply Classical.byContradiction
          intro hk
          simp only [lastP, hk, if_false] at h5
          cases h5
      have h8 := key (⟨p ++ [t], by rw [← hp]; simp⟩) h7
      subst h8
      have : l = p ++ [t] := by
        have h9 : p ++ [t] ++ [e] = l ++ [e] := by rw [← hp]; simp
        exact (List.append_cancel_right h9).symm
      rw [this] at hlast
      have := hlast t (by simp)
      rw [ht] at this
      cases this
    · subst m3
      refine key ⟨p, hp⟩ ?_
      cases r with
      | nil => cases h5
      | cons t' r'' =>
        refine ⟨t', r'', rfl, ?_⟩
        apply Classical.byContradiction
        intro hk
        simp only [lastP, hk, if_false] at h5
        cases h5
  subst hr1
  have hB : Brd [e] [s, e2] 1 true := ⟨(fun h => nomatch h), fun _ => ⟨rfl, e, [], s, [e2], rfl, rfl, .inl he, .inr hs⟩⟩
  obtain ⟨c', hc, h9⟩ := (loc_statement hB).ok h1 (Nat.le_refl _)
  have hc' : c' = [] := by
    have := congrArg List.length hc
    simp at this
    exact this
  subst hc'
  refine ⟨[e2], ?_⟩
  have hsw : isW s_semi s = true := by simp [isW, hs.1, hs.2]
  refine (bind_okP (f := fun x => may s_semi >>= fun _ => lastP >>= fun _ => (pure x : Ps St)) h9).trans ?_
  refine (bind_okP (x := true) (r := [e2]) (f := fun _ => lastP >>= fun _ => (pure d : Ps St)) (by simp [may, headIs, hsw])).trans ?_
  exact (bind_okP (x := ()) (r := [e2]) (f := fun _ => (pure d : Ps St)) (by simp [lastP, he2])).trans rfl
end Go.Proofs.YtcneefmaghoejaaGreatDoor
namespace Go.Proofs.YtcneefmaghoejaaGreatDoor
open Go.ChangeShapes Go.WideShapes Go.ChangeAt Go.RowKit Go.Shelf
set_option linter.unusedVariables false
set_option linter.unusedSimpArgs false
structure TkAt (w : World) (gl : Nat) (l : List Tok) : Prop where
  lt : gl < w.heap.size
  cell : ∀ k t, l[k]? = some t → w.cell? ⟨gl, k * 4, none⟩ = some (.int .u8 t.w.k) ∧ w.cell? ⟨gl, k * 4 + 1, none⟩ = some (.string ⟨t.w.s.toArray⟩) ∧ w.cell? ⟨gl, k * 4 + 2, none⟩ = some (.int .i64 t.w.n) ∧ w.cell? ⟨gl, k * 4 + 3, none⟩ = some (.int .i64 t.p)
theorem TkAt.later {w w' : World} {gl : Nat} {l : List Tok} (h : TkAt w gl l) (hb : Below w.heap.size w w') : TkAt w' gl l :=
  ⟨Nat.lt_of_lt_of_le h.lt hb.size, fun k t hk => by
    have c := fun o => hb.cell (p := ⟨gl, o, none⟩) h.lt
    obtain ⟨h1, h2, h3, h4⟩ := h.cell k t hk
    exact ⟨(c _).trans h1, (c _).trans h2, (c _).trans h3, (c _).trans h4⟩⟩
theorem layL_len2 (k : Option Nat) : ∀ (i : Nat) (ps : List (List UInt8)), (∀ p ∈ ps, p ≠ []) → (layL k i ps).length ≤ 2 * ps.flatten.length + 4 ∧ ((∀ j, k = some j → j < i) → (layL k i ps).length ≤ 2 * ps.flatten.length)
  | i, [], _ => by simp [layL]
  | i, p :: ps, h => by
    obtain ⟨h1, h3⟩ := layL_len2 k (i + 1) ps fun q hq => h q (List.mem_cons_of_mem _ hq)
    have h2 : 0 < p.length := List.length_pos_iff.2 (h p List.mem_cons_self)
    have e : (p :: ps).flatten.length = p.length + ps.flatten.length := by rw [List.flatten_cons, List.length_append]
    rw [e]
    by_cases hk : k = some i
    · have h4 := h3 (fun j hj => by rw [hk] at hj; injection hj; omega)
      simp only [layL, if_pos hk]
      refine ⟨by simp only [List.length_append, List.length_cons, List.length_nil]; omega, fun hj => absurd (hj i hk) (by omega)⟩
    · simp only [layL, if_neg hk, List.nil_append]
      refine ⟨by simp only [List.length_append, List.length_cons]; omega, fun hj => ?_⟩
      have h4 := h3 (fun j hj' => by have := hj j hj'; omega)
      simp only [List.length_append, List.length_cons]
      omega
theorem lay_lex {s : List UInt8} {l : List Tok} {pre : List UInt8} {ws : List (Wd × Nat)} {ps : List (List UInt8)} (h : Cut s l pre ws ps) (hs : s.length ≤ 2000) (k : Option Nat) : ∃ m, lexL (layL k 0 ps) = .ok m ∧ m.map (·.w) = layW k 0 (ws.map (·.1)) ++ [⟨0, [], 0⟩] := by
  obtain ⟨ws', h1, h2⟩ := lay_run h.pcs k 0
  have h3 := (layL_len2 k 0 ps h.pcs.ne).1
  have e3 := congrArg List.length h.txt
  simp only [List.length_append] at e3
  refine ⟨_, lex_run (by omega) h1 rfl, ?_⟩
  rw [List.map_append, List.map_map, ← h2]
  rfl
theorem Cut.words {s : List UInt8} {l : List Tok} {pre : List UInt8} {ws : List (Wd × Nat)} {ps : List (List UInt8)} (h : Cut s l pre ws ps) : l.map (·.w) = ws.map (·.1) ++ [⟨0, [], 0⟩] := by
  rw [h.tok, List.map_append, List.map_map]
  rfl
theorem par_words {s t : List UInt8} {l m : List Tok} (hl : lexL s = .ok l) (hm : lexL t = .ok m) (hw : m.map (·.w) = l.map (·.w)) : parX t = parX s ∧ parS t = parS s ∧ (parX s ≠ 31 → parP s = 0 ∧ parP t = 0) ∧
    (parX s = 31 → ∃ (i : Nat) (a b : Tok), l[i]? = some a ∧ m[i]? = some b ∧ parP s = a.p ∧ parP t = b.p) := by
  have hlen : m.length = l.length := by have := congrArg List.length hw; simpa using this
  cases hp : wholeP (l.map (·.w)) with
  | error n =>
    have hp2 := hp
    rw [← hw] at hp2
    have e1 := parse_bad hl hp
    have e2 := parse_bad hm hp2
    have hsane : Sane wholeP := by rw [whole_K]; exact sane_bind sane_statement sane_wK
    obtain ⟨h1, h2⟩ := hsane.err hp
    have h3 := h2 (lexL_ends hl)
    simp only [List.length_map] at h1
    obtain ⟨a, ha⟩ : ∃ a, l[l.length - n]? = some a := ⟨_, List.getElem?_eq_getElem (by omega)⟩
    obtain ⟨b, hb⟩ : ∃ b, m[l.length - n]? = some b := ⟨_, List.getElem?_eq_getElem (by omega)⟩
    rw [ha] at e1
    rw [hlen, hb] at e2
    unfold parX parS parP
    rw [e1, e2]
    exact ⟨rfl, rfl, fun h => absurd rfl h, fun _ => ⟨_, a, b, ha, hb, rfl, rfl⟩⟩
  | ok y =>
    obtain ⟨d, r⟩ := y
    have hp2 := hp
    rw [← hw] at hp2
    have e1 := parse_good hl hp
    have e2 := parse_good hm hp2
    unfold parX parS parP
    cases h1 : d.long with
    | true =>
      rw [h1, if_pos rfl] at e1 e2
      rw [e1, e2]
      exact ⟨rfl, rfl, fun _ => ⟨rfl, rfl⟩, fun h => absurd (show (2 : Nat) = 31 from h) (by decide)⟩
    | false =>
      rw [h1, if_neg (by simp)] at e1 e2
      cases h2 : deepB d.exprs with
      | true =>
        rw [h2, if_pos rfl] at e1 e2
        rw [e1, e2]
        exact ⟨rfl, rfl, fun _ => ⟨rfl, rfl⟩, fun h => absurd (show (32 : Nat) = 31 from h) (by decide)⟩
      | false =>
        rw [h2, if_neg (by simp)] at e1 e2
        rw [e1, e2]
        exact ⟨rfl, rfl, fun _ => ⟨rfl, rfl⟩, fun h => absurd (show (0 : Nat) = 31 from h) (by decide)⟩
theorem par_lex {s : List UInt8} {p x : Nat} (h : lexL s = .error (p, x)) : parX s = x ∧ parP s = p := by
  unfold parX parP
  rw [parse_lex h]
  exact ⟨rfl, rfl⟩
end Go.Proofs.YtcneefmaghoejaaGreatDoor
