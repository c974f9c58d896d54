/- Parts of the proof: Gv4, Gw1, Gw2, PaU, LexF, PaV, Rd19. Put together by slim.py. -/
import Derived.Deep.DeepCutAuto
import Derived.Test.YtcneefmaghoejaaGreatDoorB7
import Derived.Test.YtcneefmaghoejaaGreatDoorB8
import Derived.Test.YtcneefmaghoejaaGreatDoorB21
import Derived.Test.YtcneefmaghoejaaGreatDoorB22
import Derived.Test.YtcneefmaghoejaaGreatDoorB25
import Derived.Test.YtcneefmaghoejaaGreatDoorB26
import Derived.Test.YtcneefmaghoejaaGreatDoorB32
import Derived.Test.YtcneefmaghoejaaGreatDoorB33
import Derived.Test.YtcneefmaghoejaaGreatDoorB35
import Derived.Test.YtcneefmaghoejaaGreatDoorB36
import Derived.Test.YtcneefmaghoejaaGreatDoorB37
namespace Go.Proofs.YtcneefmaghoejaaGreatDoor
open Go.ChangeShapes Go.WideShapes Go.ChangeAt Go.RowKit
set_option linter.unusedVariables false
set_option linter.unusedSimpArgs false
def gSelP : Ps St := queryP >>= fun query => (pure { kind := 8, query } : Ps St)
set_option maxHeartbeats 4000000 in
set_option maxRecDepth 100000 in
theorem gchoose_any (ρ : Rdr) (w : World) (l : Wds) (lg dp : Bool) (h : ρ.gat w l lg dp) :
    Calls Tryz.prog 41 #[ρ.ptr] w (gstPost ρ w lg dp gSelP l) := by
  have hgg := h.lt_
  have b1 := later_new w (gstZ {})
  have HS := Lib.hid (show GSa ρ w w.heap.size [] lg dp (w.alloc (gstZ {})) l from ⟨GDid.of_later h b1, Blk.new w _ _, Nat.le_refl _, fun p hp => by simp at hp⟩)
  have HE := Lib.hid (show gSelP l = (queryP >>= fun query => (pure { kind := 8, query } : Ps St)) l from rfl)
  clear h b1
  go_enter Tryz.func41, Tryz.ntmps41
  go_upto_region 1 with fail
  change Code.wp _ _ _ _ (w.alloc (gstZ {}))
  generalize hW : (World.alloc _ _) = W0 at *
  clear hW
  have hqw : w.heap.size < W0.heap.size := HS.out.res.lt
  go_wp2_with fail
  refine (gquery_any ρ W0 l _ _ HS.out.did.at_).mono ?_
  intro e w1 hp
  rcases GP.cases hp with ⟨qd, l2, v9, hok, rfl, qy, rfl, hat, d⟩ | ⟨m, herr, rfl, hg⟩
  case inr =>
    have HF := Lib.hid (show gSelP l = .error m from HE.out.trans (bind_errP herr))
    have HG := Lib.hid HS.out.did.grown
    clear hp herr
    go_wp2_with fail
    exact body_panic rfl (GP.err HF.out ⟨rfl, grown_trans HG.out hg⟩)
  have HE9 := Lib.hid (show gSelP l = .ok ({ kind := 8, query := qd }, l2) from HE.out.trans ((bind_okP hok).trans rfl))
  clear hp hok HE
  obtain ⟨cs, hcs⟩ : ∃ cs, cs = (stC { kind := 8, query := qy }).toArray := ⟨_, rfl⟩
  have HSZ := Lib.hid (show (Tryz.prog.info? 35).map (·.size) = some cs.size by rw [hcs]; exact gst_info)
  have HGS := Lib.hid (show gst0.size = cs.size by rw [hcs, gst_siz]; exact gst_siz _)
  have HON := Lib.hid (show cs.all (·.oneCell') = true by rw [hcs]; exact gst_one _)
  have HBU := Lib.hid (show Tryz.prog.built 35 [(0, .int .u8 8), (7, quV qy)] = some cs by rw [hcs]; exact gst_builtq _)
  have HRS := Lib.hid (d.blk HS.out.res (by omega))
  have HPO := Lib.hid (show gstPost ρ w lg dp gSelP l (.returned (.agg cs)) (w1.setRow w.heap.size cs) by
    rw [hcs]
    refine GP.ok HE9.out ⟨_, rfl, { St.at_nil _ _ with kind := rfl, query := Qu.at_.keep (btw_more (by omega)) (Qu.at_.keep (btw_row w1 (show w.heap.size < W0.heap.size by omega) _) hat) }, ?_⟩
    have hD := (HS.out.did.trans d).own hgg (grown_row w1 w.heap.size (stC { kind := 8, query := qy }).toArray) (fun G e => by injection e with e; omega)
    simpa [St.long, St.exprs, Qu.long, Qu.exprs, deepB, List.any_append, List.any_map] using hD)
  clear d hat HS HE9 hcs
  generalize quV qy = qv at *
  go_wp2_with (first
    | (refine gbuild_is rfl 35 _ rfl (cs := cs) ?hv ?_; rotate_left)
    | (refine wpList_store_row rfl 35 (.tmp 2) (.tmp 5) rfl w.heap.size cs rfl rfl 35 gst0 HRS.out HSZ.out HGS.out HON.out ?_
       have HRR := Lib.hid (HRS.out.row cs)))
  case hv => exact HBU.out
  exact bodyPost_ret (v := .agg cs) (results_cell_row Tryz.results41 _ _ w.heap.size 35 cs (0, 0) _ rfl HRR.out Tryz.underlying35 rfl HSZ.out) rfl HPO.out
end Go.Proofs.YtcneefmaghoejaaGreatDoor
namespace Go.Proofs.YtcneefmaghoejaaGreatDoor
open Go.ChangeShapes Go.WideShapes Go.ChangeAt Go.RowKit
set_option linter.unusedVariables false
set_option linter.unusedSimpArgs false
theorem must_first {s : List UInt8} {P : Ps St} {t : Wd} {r : Wds} (hk : t.k = 1) (ht : t.s = s) : (must s >>= fun _ => P) (t :: r) = P r := by
  rw [bind_okP (x := ()) (r := r)]
  have : isW s t = true := by simp [isW, hk, ht]
  simp [must, headIs, this]
theorem gdel_is : gDelP = (must w_delete >>= fun _ => deleteP) := by
  show (musts [w_delete, w_from] >>= fun _ => kDel1) = _
  rw [← musts_two]
  rfl
theorem gins_is : gInsP = (must w_insert >>= fun _ => insertP) := by
  unfold gInsP
  rw [← musts_two]
  rfl
theorem gupd_is : gUpdP = (must w_update >>= fun _ => updateP) := rfl
theorem gdrop_is : gDropP = (must w_drop >>= fun _ => dropP) := rfl
theorem gtab_is : kTab0 = tableP := by
  have e3 : kTab3 = fun name cols => must s_close >>= fun _ => must w_time >>= fun _ => kTab4 name cols := by
    funext name cols
    exact (musts_two _ _ _).symm
  show (nameP >>= fun name => must s_open >>= fun _ => listP columnP >>= fun cols => kTab3 name cols) = tableP
  rw [e3]
  rfl
theorem gcre_is : gCreP = (must w_create >>= fun _ => createP) := by
  show (must w_create >>= fun _ => anyP [w_table, w_view, w_job] >>= fun s => if s = w_table then kTab0 else if s = w_view then kVw0 else jobP) = _
  rw [gtab_is]
  rfl
theorem gsel_is : gSelP = selectP := rfl
end Go.Proofs.YtcneefmaghoejaaGreatDoor
namespace Go.Proofs.YtcneefmaghoejaaGreatDoor
open Go.ChangeShapes Go.WideShapes Go.ChangeAt Go.RowKit
set_option linter.unusedVariables false
set_option linter.unusedSimpArgs false
theorem gstatement_any (ρ : Rdr) (w : World) (l : Wds) (lg dp : Bool) (h : ρ.gat w l lg dp) : Calls Tryz.prog 17 #[ρ.ptr] w (gstPost ρ w lg dp statementP l) := by
  obtain ⟨tk, r, pl, _, hl, _⟩ := h.peek
  generalize tk.w = t at hl
  subst hl
  by_cases hk : t.k = 1
  · by_cases h1 : t.s = w_select
    · exact gst_call ρ w t r lg dp h 41 gSelP (enters_of Tryz.func41 (by kernel_rfl) rfl) (fun w2 lg dp h2 => gchoose_any ρ w2 _ lg dp h2) hk (by rw [h1]; rfl) (by rw [gsel_is]; simp [statementP, hk, h1])
    by_cases h_create : t.s = w_create
    · exact gst_call ρ w t r lg dp h 36 gCreP (enters_of Tryz.func36 (by kernel_rfl) rfl) (fun w2 lg dp h2 => gcreate_any ρ w2 _ lg dp h2) hk (by rw [h_create]; rfl) (by
        rw [gcre_is, must_first hk h_create]
        unfold statementP
        simp only [hk, not_true_eq_false, if_false]
        rw [if_neg h1, if_pos h_create])
    by_cases h_drop : t.s = w_drop
    · exact gst_call ρ w t r lg dp h 37 gDropP (enters_of Tryz.func37 (by kernel_rfl) rfl) (fun w2 lg dp h2 => gdrop_any ρ w2 _ lg dp h2) hk (by rw [h_drop]; rfl) (by
        rw [gdrop_is, must_first hk h_drop]
        unfold statementP
        simp only [hk, not_true_eq_false, if_false]
        rw [if_neg h1, if_neg h_create, if_pos h_drop])
    by_cases h_insert : t.s = w_insert
    · exact gst_call ρ w t r lg dp h 38 gInsP (enters_of Tryz.func38 (by kernel_rfl) rfl) (fun w2 lg dp h2 => ginsert_any ρ w2 _ lg dp h2) hk (by rw [h_insert]; rfl) (by
        rw [gins_is, must_first hk h_insert]
        unfold statementP
        simp only [hk, not_true_eq_false, if_false]
        rw [if_neg h1, if_neg h_create, if_neg h_drop, if_pos h_insert])
    by_cases h_update : t.s = w_update
    · exact gst_call ρ w t r lg dp h 39 gUpdP (enters_of Tryz.func39 (by kernel_rfl) rfl) (fun w2 lg dp h2 => gupdate_any ρ w2 _ lg dp h2) hk (by rw [h_update]; rfl) (by
        rw [gupd_is, must_first hk h_update]
        unfold statementP
        simp only [hk, not_true_eq_false, if_false]
        rw [if_neg h1, if_neg h_create, if_neg h_drop, if_neg h_insert, if_pos h_update])
    by_cases h_delete : t.s = w_delete
    · exact gst_call ρ w t r lg dp h 40 gDelP (enters_of Tryz.func40 (by kernel_rfl) rfl) (fun w2 lg dp h2 => gdelete_any ρ w2 _ lg dp h2) hk (by rw [h_delete]; rfl) (by
        rw [gdel_is, must_first hk h_delete]
        unfold statementP
        simp only [hk, not_true_eq_false, if_false]
        rw [if_neg h1, if_neg h_create, if_neg h_drop, if_neg h_insert, if_neg h_update, if_pos h_delete])
    by_cases h_call : t.s = w_call
    · exact gst_call ρ w t r lg dp h 42 gCalP (enters_of Tryz.func42 (by kernel_rfl) rfl) (fun w2 lg dp h2 => gcall_any ρ w2 _ lg dp h2) hk (by rw [h_call]; rfl) (by
        rw [gcall_is, must_first hk h_call]
        unfold statementP
        simp only [hk, not_true_eq_false, if_false]
        rw [if_neg h1, if_neg h_create, if_neg h_drop, if_neg h_insert, if_neg h_update, if_neg h_delete, if_pos h_call])
    refine gst_bad2 ρ w t r lg dp h hk ?_ ?_
    · have q : ∀ s : List UInt8, t.s ≠ s → (t.s == s) = false := fun s hs => by simpa using hs
      simp only [stmM, List.lookup, q _ (show t.s ≠ [99, 114, 101, 97, 116, 101] from h_create), q _ (show t.s ≠ [100, 114, 111, 112] from h_drop), q _ (show t.s ≠ [105, 110, 115, 101, 114, 116] from h_insert), q _ (show t.s ≠ [117, 112, 100, 97, 116, 101] from h_update), q _ (show t.s ≠ [100, 101, 108, 101, 116, 101] from h_delete), q _ (show t.s ≠ [115, 101, 108, 101, 99, 116] from h1), q _ (show t.s ≠ [99, 97, 108, 108] from h_call), Option.getD_none]
    · unfold statementP
      simp only [hk, not_true_eq_false, if_false]
      rw [if_neg h1, if_neg h_create, if_neg h_drop, if_neg h_insert, if_neg h_update, if_neg h_delete, if_neg h_call]
  · exact gst_bad1 ρ w t r lg dp h hk
end Go.Proofs.YtcneefmaghoejaaGreatDoor
set_option linter.unusedSimpArgs false
set_option linter.unusedVariables false
namespace Go.Proofs.YtcneefmaghoejaaGreatDoor
def EQ {α : Type} (n : Nat) (p : Ps α) (Q : α → Prop) : Prop := ∀ l x r, l.length ≤ n → p l = .ok (x, r) → r.length ≤ n ∧ Q x
section
variable {α β : Type} {n : Nat} {p : Ps α} {Q Q' : α → Prop} {R : β → Prop}
theorem eq_bind {f : α → Ps β} (h : EQ n p Q) (k : ∀ x, Q x → EQ n (f x) R) : EQ n (p >>= f) R := by
  intro l y r hl e
  obtain ⟨x, m, h1, h2⟩ := bind_inv e
  obtain ⟨a, b⟩ := h _ _ _ hl h1
  exact k x b _ _ _ a h2
theorem eq_pure {x : α} (h : Q x) : EQ n (pure x : Ps α) Q := by
  intro l y r hl e
  obtain ⟨rfl, rfl⟩ := pure_inv e
  exact ⟨hl, h⟩
theorem eq_sane (h : Sane p) : EQ n p fun _ => True := fun l x r hl e => ⟨Nat.le_trans (h.len e) hl, trivial⟩
theorem eq_ite {c : Prop} [Decidable c] {q : Ps α} (h : EQ n p Q) (k : EQ n q Q) : EQ n (if c then p else q) Q := by
  split
  · exact h
  · exact k
theorem eq_moreF (h : EQ n p Q) : ∀ (f : Nat) (acc : List α), (∀ x ∈ acc, Q x) → EQ n (moreF p f acc) fun l => ∀ x ∈ l, Q x
  | 0, acc, ha => eq_pure ha
  | f + 1, acc, ha => by
    intro l y r hl e
    simp only [moreF] at e
    split at e
    · refine eq_bind (R := fun l => ∀ x ∈ l, Q x) h (fun z hz => eq_moreF h f (acc ++ [z]) fun x hx => ?_) _ _ _ ?_ e
      · rcases List.mem_append.1 hx with hx | hx
        · exact ha x hx
        · simp at hx; subst hx; exact hz
      · simp; omega
    · injection e with e
      injection e with e1 e2
      subst e1; subst e2
      exact ⟨hl, ha⟩
theorem eq_list (h : EQ n p Q) : EQ n (listP p) fun l => ∀ x ∈ l, Q x := by
  refine eq_bind h fun z hz => ?_
  intro l y r hl e
  exact eq_moreF h l.length [z] (fun x hx => by simp at hx; subst hx; exact hz) l y r hl e
end
def Ok1 (n : Nat) (t : Tr) : Prop := t.thin ∧ t.depth ≤ n
section
variable {n : Nat}
theorem eq_expr : EQ n exprP (Ok1 n) := fun l t r hl e => by
  obtain ⟨h1, h2⟩ := tq_expr l t r e
  exact ⟨by omega, h1, by omega⟩
theorem eq_behind (s : List UInt8) : EQ n (behindP s) fun l => (∀ t ∈ l, Ok1 n t) ∧ l.length ≤ 1 :=
  eq_bind (eq_sane (sane_may _)) fun b _ => eq_ite (eq_bind eq_expr fun x hx => eq_pure ⟨fun t ht => by simp at ht; subst ht; exact hx, Nat.le_refl _⟩) (eq_pure ⟨fun t ht => by simp at ht, Nat.zero_le _⟩)
theorem eq_item : EQ n itemP fun x => Ok1 n x.1 :=
  eq_bind eq_expr fun x hx => eq_bind (eq_sane (sane_may _)) fun b _ => eq_ite (eq_bind (eq_sane sane_name) fun _ _ => eq_pure hx) (eq_pure hx)
theorem eq_order : EQ n orderP fun x => Ok1 n x.1 :=
  eq_bind eq_expr fun x hx => eq_bind (eq_sane (sane_may _)) fun b _ => eq_pure hx
theorem eq_items : EQ n itemsP fun l => ∀ x ∈ l, Ok1 n x.1 :=
  eq_bind (eq_sane (sane_may _)) fun b _ => eq_ite (eq_pure fun t ht => by simp at ht) (eq_list eq_item)
theorem eq_group : EQ n groupP fun l => ∀ x ∈ l, Ok1 n x :=
  eq_bind (eq_sane (sane_may _)) fun b _ => eq_ite (eq_bind (eq_sane (sane_must _)) fun _ _ => eq_list eq_expr) (eq_pure fun t ht => by simp at ht)
theorem eq_orders : EQ n ordersP fun l => ∀ x ∈ l, Ok1 n x.1 :=
  eq_bind (eq_sane (sane_may _)) fun b _ => eq_ite (eq_bind (eq_sane (sane_must _)) fun _ _ => eq_list eq_order) (eq_pure fun t ht => by simp at ht)
theorem eq_query : EQ n queryP fun q => (∀ t ∈ q.exprs, Ok1 n t) ∧ q.whr.length ≤ 1 ∧ q.having.length ≤ 1 :=
  eq_bind (eq_sane (sane_must _)) fun _ _ => eq_bind eq_items fun i hi => eq_bind (eq_sane (sane_must _)) fun _ _ => eq_bind (eq_sane (sane_may _)) fun _ _ => eq_bind (eq_sane sane_name) fun _ _ => eq_bind (eq_behind _) fun w hw => eq_bind eq_group fun g hg => eq_bind (eq_behind _) fun h hh => eq_bind eq_orders fun o ho => eq_bind (eq_sane sane_limitP) fun _ _ => eq_pure (by
    refine ⟨?_, hw.2, hh.2⟩
    intro t ht
    simp only [Qu.exprs, List.mem_append, List.mem_map] at ht
    rcases ht with (((⟨x, hx, rfl⟩ | ht) | ht) | ht) | ⟨x, hx, rfl⟩
    · exact hi x hx
    · exact hw.1 t ht
    · exact hg t ht
    · exact hh.1 t ht
    · exact ho x hx)
theorem eq_set : EQ n setP fun x => Ok1 n x.2 :=
  eq_bind (eq_sane sane_name) fun _ _ => eq_bind (eq_sane (sane_must _)) fun _ _ => eq_bind eq_expr fun x hx => eq_pure hx
theorem eq_row : EQ n rowP fun l => ∀ x ∈ l, Ok1 n x :=
  eq_bind (eq_sane (sane_must _)) fun _ _ => eq_bind (eq_list eq_expr) fun l hl => eq_bind (eq_sane (sane_must _)) fun _ _ => eq_pure hl
abbrev StOk (n : Nat) (s : St) : Prop := (∀ t ∈ s.exprs, Ok1 n t) ∧ s.whr.length ≤ 1 ∧ s.query.whr.length ≤ 1 ∧ s.query.having.length ≤ 1
theorem st_none {s : St} (h : s.exprs = []) : StOk n s := by
  refine ⟨by rw [h]; intro t ht; simp at ht, ?_⟩
  have := congrArg List.length h
  simp only [St.exprs, Qu.exprs, List.length_append, List.length_nil] at this
  omega
theorem eq_table : EQ n tableP (StOk n) := by
  rw [table_eq]
  refine eq_bind (eq_sane sane_name) fun _ _ => eq_bind (eq_sane (sane_must _)) fun _ _ => eq_bind (eq_sane (sane_list sane_columnP)) fun _ _ => eq_bind (eq_sane (sane_musts _)) fun _ _ => eq_bind (eq_sane sane_name) fun _ _ => eq_bind (eq_sane (sane_must _)) fun _ _ => eq_bind (eq_sane sane_num) fun _ _ => eq_bind (eq_sane (sane_may _)) fun b _ => ?_
  unfold tbS
  exact eq_ite (eq_bind (eq_sane sane_name) fun _ _ => eq_bind (eq_sane (sane_must _)) fun _ _ => eq_bind (eq_sane sane_num) fun _ _ => eq_pure (st_none rfl)) (eq_pure (st_none rfl))
theorem eq_view : EQ n viewP (StOk n) :=
  eq_bind (eq_sane sane_name) fun _ _ => eq_bind (eq_sane (sane_must _)) fun _ _ => eq_bind eq_query fun q hq => eq_pure (by
    refine ⟨fun t ht => ?_, Nat.zero_le _, hq.2⟩
    simp only [St.exprs, List.flatten_nil, List.map_nil, List.nil_append] at ht
    exact hq.1 t ht)
theorem eq_job : EQ n jobP (StOk n) := by
  rw [job_eq]
  refine eq_bind (eq_sane sane_name) fun _ _ => eq_bind (eq_sane (sane_one _)) fun s _ => ?_
  have he : ∀ a b c d e, EQ n (jobE a b c d e) (StOk n) := fun _ _ _ _ _ => eq_bind (eq_sane (sane_must _)) fun _ _ => eq_bind (eq_sane sane_num) fun _ _ => eq_pure (st_none rfl)
  unfold jobA
  exact eq_ite (eq_bind (eq_sane sane_name) fun _ _ => eq_bind (eq_sane (sane_must _)) fun _ _ => eq_bind (eq_sane sane_num) fun _ _ => eq_bind (eq_sane (sane_must _)) fun _ _ => eq_bind (eq_sane sane_num) fun _ _ => he _ _ _ _ _)
    (eq_bind (eq_sane sane_name) fun _ _ => eq_bind (eq_sane (sane_must _)) fun _ _ => eq_bind (eq_sane sane_num) fun _ _ => he _ _ _ _ _)
theorem eq_create : EQ n createP (StOk n) := eq_bind (eq_sane (sane_one _)) fun _ _ => eq_ite eq_table (eq_ite eq_view eq_job)
theorem eq_drop : EQ n dropP (StOk n) := eq_bind (eq_sane (sane_one _)) fun _ _ => eq_bind (eq_sane sane_name) fun _ _ => eq_pure (st_none rfl)
theorem eq_insert : EQ n insertP (StOk n) :=
  eq_bind (eq_sane (sane_must _)) fun _ _ => eq_bind (eq_sane sane_name) fun _ _ => eq_bind (eq_sane (sane_must _)) fun _ _ => eq_bind (eq_list eq_row) fun l hl => eq_pure (by
    refine ⟨fun t ht => ?_, Nat.zero_le _, Nat.zero_le _, Nat.zero_le _⟩
    simp only [St.exprs, Qu.exprs, List.map_nil, List.append_nil, List.mem_flatten] at ht
    obtain ⟨r, hr, ht⟩ := ht
    exact hl r hr t ht)
theorem eq_update : EQ n updateP (StOk n) :=
  eq_bind (eq_sane sane_name) fun _ _ => eq_bind (eq_sane (sane_must _)) fun _ _ => eq_bind (eq_list eq_set) fun l hl => eq_bind (eq_behind _) fun w hw => eq_pure (by
    refine ⟨fun t ht => ?_, hw.2, Nat.zero_le _, Nat.zero_le _⟩
    simp only [St.exprs, Qu.exprs, List.map_nil, List.append_nil, List.flatten_nil, List.nil_append, List.mem_append, List.mem_map] at ht
    rcases ht with ⟨x, hx, rfl⟩ | ht
    · exact hl x hx
    · exact hw.1 t ht)
theorem eq_delete : EQ n deleteP (StOk n) :=
  eq_bind (eq_sane (sane_must _)) fun _ _ => eq_bind (eq_sane sane_name) fun _ _ => eq_bind (eq_behind _) fun w hw => eq_pure (by
    refine ⟨fun t ht => ?_, hw.2, Nat.zero_le _, Nat.zero_le _⟩
    simp only [St.exprs, Qu.exprs, List.map_nil, List.append_nil, List.flatten_nil, List.nil_append] at ht
    exact hw.1 t ht)
theorem eq_select : EQ n selectP (StOk n) :=
  eq_bind eq_query fun q hq => eq_pure (by
    refine ⟨fun t ht => ?_, Nat.zero_le _, hq.2⟩
    simp only [St.exprs, List.flatten_nil, List.map_nil, List.nil_append] at ht
    exact hq.1 t ht)
theorem eq_call : EQ n callP (StOk n) :=
  eq_bind (eq_sane (sane_one _)) fun _ _ => eq_bind (eq_sane (sane_must _)) fun _ _ => eq_bind (eq_sane sane_name) fun _ _ => eq_bind (eq_sane (sane_must _)) fun _ _ => eq_bind (eq_sane (sane_endFrom _)) fun _ _ => eq_bind (eq_sane sane_endP) fun _ _ => eq_bind (eq_sane (sane_must _)) fun _ _ => eq_pure (st_none rfl)
theorem eq_statement : EQ n statementP (StOk n) := by
  intro l x r hl e
  match l with
  | [] => cases e
  | t :: q =>
    simp only [statementP] at e
    have hq : q.length ≤ n := by simp at hl; omega
    split at e
    · cases e
    split at e
    · exact eq_select _ _ _ hl e
    split at e
    · exact eq_create _ _ _ hq e
    split at e
    · exact eq_drop _ _ _ hq e
    split at e
    · exact eq_insert _ _ _ hq e
    split at e
    · exact eq_update _ _ _ hq e
    split at e
    · exact eq_delete _ _ _ hq e
    split at e
    · exact eq_call _ _ _ hq e
    · cases e
end
end Go.Proofs.YtcneefmaghoejaaGreatDoor
set_option linter.unusedSimpArgs false
set_option linter.unusedVariables false
namespace Go.Proofs.YtcneefmaghoejaaGreatDoor
def WdOk (t : Wd) : Prop := (0 ≤ t.n ∧ t.n ≤ 9223372036854775807) ∧ (t.k = 4 → t.s ∈ signs)
theorem oneL_ok {r rest : List UInt8} {w : Wd} (h : oneL r = .ok (w, rest)) : WdOk w := by
  match r with
  | [] => cases h
  | c :: r =>
    simp only [oneL] at h
    split at h
    · split at h
      · injection h with h; injection h with h1 h2
        subst h1
        exact ⟨⟨by simp, by simp⟩, fun e => by simp at e⟩
      · cases h
    split at h
    · split at h
      · rename_i hb
        injection h with h; injection h with h1 h2
        subst h1
        refine ⟨?_, fun e => by simp at e⟩
        simp only [Bool.and_eq_true, numB, decide_eq_true_eq] at hb
        have := hb.1.2
        simp only
        omega
      · cases h
    split at h
    · split at h
      · injection h with h; injection h with h1 h2
        subst h1
        exact ⟨⟨by simp, by simp⟩, fun e => by simp at e⟩
      · cases h
    · split at h
      · rename_i s hs
        injection h with h; injection h with h1 h2
        subst h1
        exact ⟨⟨by simp, by simp⟩, fun _ => (signIn_spec hs).1⟩
      · cases h
theorem lexF_all (n : Nat) : ∀ (f : Nat) (r : List UInt8) (l : List Tok), lexF n f r = .ok l → (∃ b, l = b ++ [⟨⟨0, [], 0⟩, n⟩]) ∧ l.length ≤ r.length + 1 ∧ ∀ t ∈ l, WdOk t.w
  | 0, r, l, h => by cases h
  | f + 1, r, l, h => by
    have hle := skipL_le false r
    simp only [lexF] at h
    split at h
    · injection h with h
      subst h
      exact ⟨⟨[], rfl⟩, by simp, fun t ht => by simp at ht; subst ht; exact ⟨⟨by simp, by simp⟩, fun e => by simp at e⟩⟩
    · rename_i c r' hsk
      rw [hsk] at hle
      split at h
      · cases h
      · rename_i w rest ho
        have hlt := oneL_lt ho
        split at h
        · cases h
        · rename_i l' hl'
          injection h with h
          subst h
          obtain ⟨⟨b, hb⟩, h1, h2⟩ := lexF_all n f rest l' hl'
          refine ⟨⟨⟨w, _⟩ :: b, by rw [hb]; rfl⟩, by simp only [List.length_cons] at hlt hle ⊢; omega, fun t ht => ?_⟩
          rcases List.mem_cons.1 ht with rfl | ht
          · exact oneL_ok ho
          · exact h2 t ht
theorem lexL_ok {s : List UInt8} {l : List Tok} (h : lexL s = .ok l) : (∃ b n, l = b ++ [⟨⟨0, [], 0⟩, n⟩]) ∧ l.length ≤ 4097 ∧ ∀ t ∈ l, WdOk t.w := by
  unfold lexL at h
  split at h
  · cases h
  · rename_i hs
    obtain ⟨⟨b, hb⟩, h1, h2⟩ := lexF_all _ _ _ _ h
    exact ⟨⟨b, _, hb⟩, by omega, h2⟩
theorem lexL_ends {s : List UInt8} {l : List Tok} (h : lexL s = .ok l) : EndsW (l.map (·.w)) := by
  obtain ⟨⟨b, n, rfl⟩, _⟩ := lexL_ok h
  exact ⟨b.map (·.w), ⟨0, [], 0⟩, by simp, rfl⟩
theorem lexL_cons {s : List UInt8} {l : List Tok} (h : lexL s = .ok l) : ∃ t r, l = t :: r := by
  obtain ⟨⟨b, n, rfl⟩, _⟩ := lexL_ok h
  cases b with
  | nil => exact ⟨_, _, rfl⟩
  | cons t b => exact ⟨_, _, rfl⟩
theorem sign_select {t : Wd} (h : WdOk t) : ¬ (t.k = 4 ∧ t.s = w_select) := by
  rintro ⟨h1, h2⟩
  have := h.2 h1
  rw [h2] at this
  exact absurd this (by decide)
end Go.Proofs.YtcneefmaghoejaaGreatDoor
set_option linter.unusedSimpArgs false
set_option linter.unusedVariables false
namespace Go.Proofs.YtcneefmaghoejaaGreatDoor
theorem last_inv {l r : Wds} (h : lastP l = .ok ((), r)) : r = l := by
  match l with
  | [] => cases h
  | t :: q =>
    simp only [lastP] at h
    split at h
    · injection h with h; injection h with h1 h2; exact h2.symm
    · cases h
theorem whole_ok {n : Nat} {l r : Wds} {d : St} (hn : l.length ≤ n) (h : wholeP l = .ok (d, r)) : StOk n d := by
  obtain ⟨x, m, h1, h2⟩ := bind_inv h
  obtain ⟨b, m2, _, h3⟩ := bind_inv h2
  obtain ⟨u, m3, _, h4⟩ := bind_inv h3
  obtain ⟨rfl, _⟩ := pure_inv h4
  exact (eq_statement _ _ _ hn h1).2
theorem parse_lex {s : List UInt8} {x : Nat × Nat} (h : lexL s = .error x) : parseL s = .error x := by unfold parseL; rw [h]
theorem parse_bad {s : List UInt8} {l : List Tok} {n : Nat} (h : lexL s = .ok l) (hw : wholeP (l.map (·.w)) = .error n) : parseL s = .error (((l[l.length - n]?).map (·.p)).getD 0, 31) := by unfold parseL; rw [h]; simp only; rw [hw]
theorem parse_good {s : List UInt8} {l : List Tok} {r : Wds} {d : St} (h : lexL s = .ok l) (hw : wholeP (l.map (·.w)) = .ok (d, r)) : parseL s = if d.long then .error (0, 2) else if deepB d.exprs then .error (0, 32) else .ok d := by unfold parseL; rw [h]; simp only; rw [hw]
end Go.Proofs.YtcneefmaghoejaaGreatDoor
namespace Go.Proofs.YtcneefmaghoejaaGreatDoor
open Go.ChangeShapes Go.WideShapes Go.ChangeAt Go.RowKit
set_option linter.unusedVariables false
set_option linter.unusedSimpArgs false
structure QAt (ρ : Rdr) (w : World) (big : Bool) (σ : RSt) (k : Ps Qu) (wr : World) (σ' : RSt) (m : QuM) (d : Qu) : Prop where
  did : Did ρ w wr σ' (big || d.long)
  blk : Blk wr (w.heap.size + 1) 29 (quC m).toArray
  res : Blk wr w.heap.size 29 #[.slice none 0 0, .string ⟨#[]⟩, .bool false, .slice none 0 0, .slice none 0 0, .slice none 0 0, .slice none 0 0, .slice none 0 0]
  at_ : d.at_ wr (Btw (w.heap.size + 2) wr) m
  todo : QTo (α := Unit) σ k σ'
structure OrdersAt (ρ : Rdr) (w : World) (bg : Bool) (σ : RSt) (m : QuM) (d : Qu) (k : Nat) (v : Value) (wr : World) (σ' : RSt) (acc : List (Tr × Bool)) : Prop where
  pos : 0 < acc.length
  few : acc.length + σ'.left ≤ 5001
  le : σ'.left ≤ k
  row : Grows elOrder 97 wr (w.heap.size + 2) v acc
  did : Did ρ w wr σ' (bg || decide (64 < acc.length - 1))
  blk : Blk wr (w.heap.size + 1) 29 #[slC m.items, .string m.frm, .bool m.only, slC m.whr, slC m.group, slC m.having, v, slC m.limit]
  res : Blk wr w.heap.size 29 #[.slice none 0 0, .string ⟨#[]⟩, .bool false, .slice none 0 0, .slice none 0 0, .slice none 0 0, .slice none 0 0, .slice none 0 0]
  at_ : Qu.at_ wr (Own0 (w.heap.size + 2) v wr) d m
  todo : ListTo orderP σ acc σ'
section
variable {ρ : Rdr} {w wr w2 : World} {big : Bool} {σ σ' : RSt} {m : QuM} {d : Qu}
theorem QAt.later {k : Ps Qu} (A : QAt ρ w big σ k wr σ' m d) (hb : Below wr.heap.size wr w2) : QAt ρ w big σ k w2 σ' m d :=
  ⟨A.did.later hb, A.blk.later hb, A.res.later hb, Qu.at_.keep (btw_later hb) A.at_, A.todo⟩
theorem QAt.set {k : Ps Qu} {m' : QuM} {d' : Qu} (A : QAt ρ w big σ k wr σ' m d) (hg : ρ.g < w.heap.size) (i : Nat) (u : Value) (hb : (quC m').toArray = (quC m).toArray.setIfInBounds i u) (hl : d'.long = d.long) (hat : Qu.at_ wr (Btw (w.heap.size + 2) wr) d' m') : QAt ρ w big σ k (wr.setCell ⟨w.heap.size + 1, i, none⟩ u) σ' m' d' := by
  refine ⟨?_, ?_, A.res.far (p := ⟨w.heap.size + 1, i, none⟩) (by simp) u, Qu.at_.keep (btw_set (by omega) i u) hat, A.todo⟩
  · rw [hl]; exact A.did.far hg (by omega) i u
  · rw [hb]; exact A.blk.set_ i u
theorem QAt.list {k k' : Ps Qu} {m' : QuM} {d' : Qu} {bigL : Bool} {σ2 : RSt} (A : QAt ρ w big σ k wr σ' m d) (hg : ρ.g < w.heap.size) (dd : Did ρ wr w2 σ2 bigL) (td : QTo (α := Unit) σ k' σ2) (i : Nat) (u : Value) (hb : (quC m').toArray = (quC m).toArray.setIfInBounds i u) (hL : bigL = (big || d'.long)) (hat : Qu.at_ w2 (Btw (w.heap.size + 2) w2) d m → Qu.at_ w2 (Btw (w.heap.size + 2) w2) d' m') : QAt ρ w big σ k' (w2.setCell ⟨w.heap.size + 1, i, none⟩ u) σ2 m' d' := by
  refine ⟨?_, ?_, (dd.blk A.res (by omega)).far (p := ⟨w.heap.size + 1, i, none⟩) (by simp) u, Qu.at_.keep (btw_set (by omega) i u) (hat (Qu.at_.keep (btw_grown dd.grown (by omega)) A.at_)), td⟩
  · rw [← hL]; exact (A.did.trans dd).far hg (by omega) i u
  · rw [hb]; exact (dd.blk A.blk (by omega)).set_ i u
end
structure ItemsAt (ρ : Rdr) (w : World) (big : Bool) (σ : RSt) (k : Nat) (v : Value) (wr : World) (σ' : RSt) (acc : List (Tr × ByteArray)) : Prop where
  pos : 0 < acc.length
  few : acc.length + σ'.left ≤ 5001
  le : σ'.left ≤ k
  row : Grows elItem 51 wr (w.heap.size + 2) v acc
  did : Did ρ w wr σ' (big || decide (64 < acc.length - 1))
  blk : Blk wr (w.heap.size + 1) 29 #[v, .string ⟨#[]⟩, .bool false, .slice none 0 0, .slice none 0 0, .slice none 0 0, .slice none 0 0, .slice none 0 0]
  res : Blk wr w.heap.size 29 #[.slice none 0 0, .string ⟨#[]⟩, .bool false, .slice none 0 0, .slice none 0 0, .slice none 0 0, .slice none 0 0, .slice none 0 0]
  todo : ListTo itemP σ acc σ'
end Go.Proofs.YtcneefmaghoejaaGreatDoor
