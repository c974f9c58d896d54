/- Parts of the proof: Gv6, Gw, Gu3. Put together by slim.py. -/
import Derived.Deep.DeepCutAuto
import Derived.Test.YtcneefmaghoejaaGreatDoorB20
import Derived.Test.YtcneefmaghoejaaGreatDoorB32
namespace Go.Proofs.YtcneefmaghoejaaGreatDoor
open Go.ChangeShapes Go.WideShapes Go.ChangeAt Go.RowKit
set_option linter.unusedVariables false
set_option linter.unusedSimpArgs false
def dropK (s : List UInt8) : Int := if s = w_table then 1 else if s = w_view then 2 else 3
def dropM : List (List UInt8 × Value) := [([116, 97, 98, 108, 101], .int .u8 1), ([118, 105, 101, 119], .int .u8 2), ([106, 111, 98], .int .u8 3)]
theorem drop_look {s : List UInt8} (h : s ∈ [w_table, w_view, w_job]) : (dropM.lookup (⟨s.toArray⟩ : ByteArray).data.toList).getD (.int .u8 0) = .int .u8 (dropK s) := by
  simp only [List.mem_cons, List.not_mem_nil, or_false] at h
  rcases h with rfl | rfl | rfl <;> rfl
def kDrop2 (k : Int) : Ps St := do
  let name ← nameP
  return { kind := 4, what := k, name }
def kDrop1 : Ps St := anyP [w_table, w_view, w_job] >>= fun s => kDrop2 (dropK s)
def gDropP : Ps St := must w_drop >>= fun _ => kDrop1
theorem GSa.ownG {ρ : Rdr} {w wr w2 : World} {q G : Nat} {pbs : List Nat} {lg dp : Bool} {l : Wds} (A : GSa ρ w q pbs lg dp wr l) (hg : ρ.g < w.heap.size) (h : wr.grownBy w2 (some G)) (hG : w.heap.size ≤ G) (hq : q ≠ G) (hp : ∀ p ∈ pbs, p ≠ G) : GSa ρ w q pbs lg dp w2 l :=
  ⟨A.did.own hg h (fun G' e => by injection e with e; omega), A.res.grown h (by simp; omega), A.qw, fun p h' => by obtain ⟨a, c, k⟩ := A.pbk p h'; have := hp p h'; exact ⟨a, c, k.grown h (by simp; omega)⟩⟩
set_option maxHeartbeats 4000000 in
set_option maxRecDepth 100000 in
theorem gdrop_any (ρ : Rdr) (w : World) (l : Wds) (lg dp : Bool) (h : ρ.gat w l lg dp) :
    Calls Tryz.prog 37 #[ρ.ptr] w (gstPost ρ w lg dp gDropP l) := by
  have hgg := h.lt_
  have b1 := later_new w (gstZ {})
  have HS := Lib.hid (show GSa ρ w w.heap.size [] lg dp (w.alloc (gstZ {})) l from ⟨GDid.of_later h b1, Blk.new w _ _, Nat.le_refl _, fun p hp => by simp at hp⟩)
  have HE := Lib.hid (show gDropP l = (must w_drop >>= fun _ => kDrop1) l from rfl)
  clear h b1
  go_enter Tryz.func37, Tryz.ntmps37
  go_upto_region 1 with fail
  change Code.wp _ _ _ _ (w.alloc (gstZ {}))
  generalize hW : (World.alloc _ _) = W0 at *
  clear hW
  have hqw : w.heap.size < W0.heap.size := HS.out.res.lt
  have hb := later_new W0 (.cells (strsC [w_drop]) 9)
  have HB := Lib.hid (HS.out.later hb)
  have hq9 := HS.out.res.lt
  have hm := gmust_any ρ _ l _ _ HB.out.did.at_ [w_drop] W0.heap.size 1 rfl (Blk.new W0 _ _) (by omega) (by omega)
  clear hb HS
  unfold strsC strOf at hm HB
  simp only [List.map_cons, List.map_nil] at hm HB
  rw [show w_drop.toArray = #[100, 114, 111, 112] from rfl] at hm HB
  go_wp2_with fail
  refine hm.mono ?_
  clear hm
  intro e w1 hp
  rcases hp.cases with ⟨_, l2, v9, hok, rfl, rfl, d⟩ | ⟨m, herr, rfl, hg⟩
  case inr =>
    have HF := Lib.hid (show gDropP l = .error m from HE.out.trans (bind_errP (show must w_drop l = .error m by rw [← musts_one]; exact herr)))
    have HG := Lib.hid HB.out.did.grown
    clear hp herr
    go_wp2_with fail
    exact body_panic rfl (GP.err HF.out ⟨rfl, grown_trans HG.out hg⟩)
  have HE9 := Lib.hid (show gDropP l = kDrop1 l2 from HE.out.trans (bind_okP (show must w_drop l = .ok ((), l2) by rw [← musts_one]; exact hok)))
  have HS := Lib.hid (HB.out.go hgg d)
  clear hp hok d HB HE hq9
  have HE := HE9
  clear HE9
  go_upto_region 2 with fail
  have HM := MapV.new w1
  have HG := grown_below (p := w1.heap.size) (later_new w1 (.map #[] 0))
  have hq1 := HS.out.res.lt
  refine wp_region_lit ?_
  refine wpList_make_map rfl 107 rfl ?_
  refine wpList_put_v Tryz.underlying107 Tryz.underlying9 rfl _ _ _ rfl w1.heap.size rfl [116, 97, 98, 108, 101] rfl (.int .u8 1) rfl HM (by decide) ?_
  clear HM
  intro wm HM HG'
  replace HG := grown_trans HG HG'
  clear HG'
  refine wpList_put_v Tryz.underlying107 Tryz.underlying9 rfl _ _ _ rfl w1.heap.size rfl [118, 105, 101, 119] rfl (.int .u8 2) rfl HM (by decide) ?_
  clear HM
  intro wm HM HG'
  replace HG := grown_trans HG HG'
  clear HG'
  refine wpList_put_v Tryz.underlying107 Tryz.underlying9 rfl _ _ _ rfl w1.heap.size rfl [106, 111, 98] rfl (.int .u8 3) rfl HM (by decide) ?_
  clear HM
  intro wm HM HG'
  replace HG := grown_trans HG HG'
  clear HG'
  have HMM := Lib.hid (show MapV wm w1.heap.size dropM from HM)
  have HS9 := Lib.hid (HS.out.ownG (w2 := wm) hgg HG (by omega) (by omega) (fun p hp => by simp at hp))
  have hgm : w1.heap.size < wm.heap.size := by
    have := HMM.out
    unfold MapV at this
    exact (Array.getElem?_eq_some_iff.mp this).1
  clear HM HG HS
  have hb := later_new wm (.cells (strsC [w_table, w_view, w_job]) 9)
  have HB := Lib.hid (HS9.out.later hb)
  have HMB := Lib.hid (show MapV (wm.alloc (.cells (strsC [w_table, w_view, w_job]) 9)) w1.heap.size dropM from (hb.block _ hgm).trans HMM.out)
  have hq9 := HS9.out.res.lt
  have hm := gone_any ρ _ l2 _ _ HB.out.did.at_ [w_table, w_view, w_job] wm.heap.size 3 rfl (Blk.new wm _ _) (by omega) (by omega)
  clear hb HMM HS9
  unfold strsC strOf at hm HB HMB
  simp only [List.map_cons, List.map_nil] at hm HB HMB
  rw [show w_table.toArray = #[116, 97, 98, 108, 101] from rfl, show w_view.toArray = #[118, 105, 101, 119] from rfl, show w_job.toArray = #[106, 111, 98] from rfl] at hm HB HMB
  simp only [Act.put, List.setIfInBounds_toArray, List.set_cons_succ, List.set_cons_zero]
  go_wp2_with fail
  refine hm.mono ?_
  clear hm
  intro e w8 hp
  rcases hp.cases with ⟨sx, l8, v9, hok, rfl, rfl, d⟩ | ⟨m, herr, rfl, hg⟩
  case inr =>
    have HF := Lib.hid (show gDropP l = .error m from HE.out.trans (bind_errP herr))
    have HG := Lib.hid HB.out.did.grown
    clear hp herr
    go_wp2_with fail
    exact body_panic rfl (GP.err HF.out ⟨rfl, grown_trans HG.out hg⟩)
  have hmem := any_mem hok
  have HE9 := Lib.hid (show gDropP l = kDrop2 (dropK sx) l8 from HE.out.trans (bind_okP hok))
  have HS := Lib.hid (HB.out.go hgg d)
  have HMX := Lib.hid (show MapV w8 w1.heap.size dropM from (d.grown.block _ (by simp; omega) (by intro e; injection e with e; omega)).trans HMB.out)
  have HLK := Lib.hid (drop_look hmem)
  clear hp hok d HB HE HMB hmem
  have HE := HE9
  clear HE9
  try unfold strOf
  go_upto_region 3 with (first
    | (refine wpList_look_v Tryz.underlying107 Tryz.underlying9 rfl _ _ rfl w1.heap.size rfl (⟨sx.toArray⟩ : ByteArray) rfl (l := dropM) HMX.out (z := .int .u8 0) Tryz.zeroValue5 ?_
       rw [HLK.out]))
  clear HLK HMX
  generalize dropK sx = kx at *
  go_wp2_with fail
  refine (gname_any ρ w8 l8 _ _ HS.out.did.at_).mono ?_
  intro e w3 hp
  rcases hp.cases with ⟨nm, l4, v9, hok, rfl, rfl, d⟩ | ⟨m, herr, rfl, hg⟩
  case inr =>
    have HF := Lib.hid (show gDropP l = .error m from HE.out.trans (bind_errP herr))
    have HG := Lib.hid HS.out.did.grown
    clear hp herr
    go_wp2_with fail
    exact body_panic rfl (GP.err HF.out ⟨rfl, grown_trans HG.out hg⟩)
  have HE9 := Lib.hid (show gDropP l = .ok ({ kind := 4, what := kx, name := nm }, l4) from HE.out.trans ((bind_okP hok).trans rfl))
  clear hp hok HE
  obtain ⟨cs, hcs⟩ : ∃ cs, cs = (stC { kind := 4, what := kx, name := nm }).toArray := ⟨_, rfl⟩
  have HSZ := Lib.hid (show (Tryz.prog.info? 35).map (·.size) = some cs.size by rw [hcs]; exact gst_info)
  have HGS := Lib.hid (show gst0.size = cs.size by rw [hcs, gst_siz]; exact gst_siz _)
  have HON := Lib.hid (show cs.all (·.oneCell') = true by rw [hcs]; exact gst_one _)
  have HBU := Lib.hid (show Tryz.prog.built 35 [(0, .int .u8 4), (8, .int .u8 kx), (1, .string nm)] = some cs by rw [hcs]; exact gst_builtd _ _)
  have hq9 := HS.out.res.lt
  have HRS := Lib.hid (d.blk HS.out.res (by omega))
  have HPO := Lib.hid (show gstPost ρ w lg dp gDropP l (.returned (.agg cs)) (w3.setRow w.heap.size cs) by
    rw [hcs]
    refine GP.ok HE9.out ⟨_, rfl, { St.at_nil _ _ with kind := rfl, what := rfl, name := rfl }, ?_⟩
    have hD := (HS.out.did.trans d).own hgg (grown_row w3 w.heap.size (stC { kind := 4, what := kx, name := nm }).toArray) (fun G e => by injection e with e; omega)
    simpa [St.long, St.exprs, Qu.long, Qu.exprs, deepB] using hD)
  clear d HS HE9 hcs
  go_wp2_with (first
    | (refine gbuild_is rfl 35 _ rfl (cs := cs) ?hv ?_; rotate_left)
    | (refine wpList_store_row rfl 35 (.tmp 2) (.tmp 16) rfl w.heap.size cs rfl rfl 35 gst0 HRS.out HSZ.out HGS.out HON.out ?_
       have HRR := Lib.hid (HRS.out.row cs)))
  case hv => exact HBU.out
  exact bodyPost_ret (v := .agg cs) (results_cell_row Tryz.results37 _ _ w.heap.size 35 cs (0, 0) _ rfl HRR.out Tryz.underlying35 rfl HSZ.out) rfl HPO.out
end Go.Proofs.YtcneefmaghoejaaGreatDoor
namespace Go.Proofs.YtcneefmaghoejaaGreatDoor
open Go.ChangeShapes Go.WideShapes Go.ChangeAt Go.RowKit
set_option linter.unusedVariables false
set_option linter.unusedSimpArgs false
def stmM : List (List UInt8 × Value) := [([99, 114, 101, 97, 116, 101], .func (.func 36) #[] #[]), ([100, 114, 111, 112], .func (.func 37) #[] #[]), ([105, 110, 115, 101, 114, 116], .func (.func 38) #[] #[]), ([117, 112, 100, 97, 116, 101], .func (.func 39) #[] #[]), ([100, 101, 108, 101, 116, 101], .func (.func 40) #[] #[]), ([115, 101, 108, 101, 99, 116], .func (.func 41) #[] #[]), ([99, 97, 108, 108], .func (.func 42) #[] #[])]
set_option maxHeartbeats 4000000 in
set_option maxRecDepth 100000 in
theorem gst_all (ρ : Rdr) (w : World) (t : Wd) (r : Wds) (lg dp : Bool) (h : ρ.gat w (t :: r) lg dp) (hc : (∃ (F : FuncId) (P : Ps St), (∀ args w, (callFunc F args).run Tryz.prog w = .ok (.enter F args) w) ∧ (∀ w2 lg dp, ρ.gat w2 (t :: r) lg dp → Calls Tryz.prog F #[ρ.ptr] w2 (gstPost ρ w2 lg dp P (t :: r))) ∧ t.k = 1 ∧ (stmM.lookup t.s).getD .nilFunc = .func (.func F) #[] #[] ∧ statementP (t :: r) = P (t :: r)) ∨ (¬ t.k = 1) ∨ (t.k = 1 ∧ (stmM.lookup t.s).getD .nilFunc = .nilFunc ∧ statementP (t :: r) = .error (t :: r).length)) :
    Calls Tryz.prog 17 #[ρ.ptr] w (gstPost ρ w lg dp statementP (t :: r)) := by
  have hgg := h.lt_
  have htk : (ρ.tok (t :: r)).w = t := by
    obtain ⟨tk, r', pl, hte, hl, _⟩ := h.peek
    rw [← hte]
    injection hl with h1 _
    exact h1.symm
  have b1 := later_new w (gstZ {})
  have HS := Lib.hid (show GSa ρ w w.heap.size [] lg dp (w.alloc (gstZ {})) (t :: r) from ⟨GDid.of_later h b1, Blk.new w _ _, Nat.le_refl _, fun p hp => by simp at hp⟩)
  have HTK := Lib.hid htk
  have HC := Lib.hid hc
  clear hc
  clear h b1 htk
  go_enter Tryz.func17, Tryz.ntmps17
  go_upto_region 1 with fail
  change Code.wp _ _ _ _ (w.alloc (gstZ {}))
  generalize hW : (World.alloc _ _) = W0 at *
  clear hW
  have hqw : w.heap.size < W0.heap.size := HS.out.res.lt
  have HM := MapV.new W0
  have HG := grown_below (p := W0.heap.size) (later_new W0 (.map #[] 0))
  refine wp_region_lit ?_
  refine wpList_make_map rfl 83 rfl ?_
  refine wpList_put_v Tryz.underlying83 Tryz.underlying9 rfl _ _ _ rfl W0.heap.size rfl [99, 114, 101, 97, 116, 101] rfl (.func (.func 36) #[] #[]) rfl HM (by decide) ?_
  clear HM
  intro wm HM HG'
  replace HG := grown_trans HG HG'
  clear HG'
  refine wpList_put_v Tryz.underlying83 Tryz.underlying9 rfl _ _ _ rfl W0.heap.size rfl [100, 114, 111, 112] rfl (.func (.func 37) #[] #[]) rfl HM (by decide) ?_
  clear HM
  intro wm HM HG'
  replace HG := grown_trans HG HG'
  clear HG'
  refine wpList_put_v Tryz.underlying83 Tryz.underlying9 rfl _ _ _ rfl W0.heap.size rfl [105, 110, 115, 101, 114, 116] rfl (.func (.func 38) #[] #[]) rfl HM (by decide) ?_
  clear HM
  intro wm HM HG'
  replace HG := grown_trans HG HG'
  clear HG'
  refine wpList_put_v Tryz.underlying83 Tryz.underlying9 rfl _ _ _ rfl W0.heap.size rfl [117, 112, 100, 97, 116, 101] rfl (.func (.func 39) #[] #[]) rfl HM (by decide) ?_
  clear HM
  intro wm HM HG'
  replace HG := grown_trans HG HG'
  clear HG'
  refine wpList_put_v Tryz.underlying83 Tryz.underlying9 rfl _ _ _ rfl W0.heap.size rfl [100, 101, 108, 101, 116, 101] rfl (.func (.func 40) #[] #[]) rfl HM (by decide) ?_
  clear HM
  intro wm HM HG'
  replace HG := grown_trans HG HG'
  clear HG'
  refine wpList_put_v Tryz.underlying83 Tryz.underlying9 rfl _ _ _ rfl W0.heap.size rfl [115, 101, 108, 101, 99, 116] rfl (.func (.func 41) #[] #[]) rfl HM (by decide) ?_
  clear HM
  intro wm HM HG'
  replace HG := grown_trans HG HG'
  clear HG'
  refine wpList_put_v Tryz.underlying83 Tryz.underlying9 rfl _ _ _ rfl W0.heap.size rfl [99, 97, 108, 108] rfl (.func (.func 42) #[] #[]) rfl HM (by decide) ?_
  clear HM
  intro wm HM HG'
  replace HG := grown_trans HG HG'
  clear HG'
  have HMM := Lib.hid (show MapV wm W0.heap.size stmM from HM)
  have HS9 := Lib.hid (HS.out.ownG (w2 := wm) hgg HG (by omega) (by omega) (fun p hp => by simp at hp))
  have hgm : W0.heap.size < wm.heap.size := by
    have := HMM.out
    unfold MapV at this
    exact (Array.getElem?_eq_some_iff.mp this).1
  clear HM HG HS
  have hm := gnow_any ρ wm (t :: r) _ _ HS9.out.did.at_
  simp only [Act.put, List.setIfInBounds_toArray, List.set_cons_succ, List.set_cons_zero]
  go_wp2_with fail
  refine hm.mono ?_
  clear hm
  rintro e w1 ⟨rfl, b1⟩
  have hs1 := b1.size
  obtain ⟨tk, htk⟩ : ∃ tk, tk = ρ.tok (t :: r) := ⟨_, rfl⟩
  have hw9 : tk.w = t := by rw [htk]; exact HTK.out
  rw [← htk]
  clear htk HTK
  have hb2 := later_new w1 (.cells (tokB tk) 46)
  have HS := Lib.hid ((HS9.out.later b1).later hb2)
  have HT := Lib.hid (Blk.new w1 46 (tokB tk))
  have HMX := Lib.hid (show MapV (w1.alloc (.cells (tokB tk) 46)) W0.heap.size stmM from ((hb2.block _ (by omega)).trans (b1.block _ hgm)).trans HMM.out)
  clear b1 hb2 HS9 HMM
  obtain ⟨⟨k9, s9, n9⟩, p9⟩ := tk
  simp only at hw9
  subst hw9
  rcases HC.out with ⟨F, P, en, hF, hk, hv, hP⟩ | hk | ⟨hk, hv, hbad⟩
  · clear HC
    simp only at hk hv
    subst hk
    unfold tokB at HS HT HMX
    unfold tokB
    go_upto_region 3 with fail
    change Code.wp _ _ _ _ (w1.alloc (.cells #[.int .u8 ((1 : Nat) : Int), .string ⟨s9.toArray⟩, .int .i64 n9, .int .i64 p9] 46))
    generalize hb : w1.heap.size = b at *
    generalize hW : (World.alloc w1 _) = W1 at *
    clear hW hb hs1 hgm
    have y0 : W1.cell? ⟨b, 0, none⟩ = some (.int .u8 ((1 : Nat) : Int)) := (HT.out.cell 0).trans rfl
    have y1 : W1.cell? ⟨b, 1, none⟩ = some (.string ⟨s9.toArray⟩) := (HT.out.cell 1).trans rfl
    go_upto_region 4 with (first
      | (refine wpList_look_v Tryz.underlying83 Tryz.underlying9 rfl _ _ rfl W0.heap.size rfl (⟨s9.toArray⟩ : ByteArray) rfl (l := stmM) HMX.out (z := .nilFunc) Tryz.zeroValue82 ?_
         rw [show (⟨s9.toArray⟩ : ByteArray).data.toList = s9 by simp]))
    clear HMX HT
    have HE := Lib.hid hP
    have HF := Lib.hid (hF W1 _ _ HS.out.did.at_)
    clear hF hP hv
    have hq1 : ∀ w, (binOp .eql 82 (.func (.func F) #[] #[]) .nilFunc).run Tryz.prog w = .ok (.bool false) w := fun _ => rfl
    go_upto_region 6 with fail
    clear y0 y1
    go_wp2_with fail
    refine HF.out.mono ?_
    clear HF
    intro e w2 hp
    rcases GP.cases hp with ⟨d9, L2, v9, hok, rfl, m9, rfl, hat9, d⟩ | ⟨n9, herr, hfp⟩
    · have hgq := HS.out.res.lt
      have hsz := d.size
      obtain ⟨cs, hcs⟩ : ∃ cs, cs = (stC m9).toArray := ⟨_, rfl⟩
      have HSZ := Lib.hid (show (Tryz.prog.info? 35).map (·.size) = some cs.size by rw [hcs]; exact gst_info)
      have HGS := Lib.hid (show gst0.size = cs.size by rw [hcs, gst_siz]; exact gst_siz _)
      have HON := Lib.hid (show cs.all (·.oneCell') = true by rw [hcs]; exact gst_one _)
      have HRS := Lib.hid (d.blk HS.out.res (by omega))
      have HPO := Lib.hid (show gstPost ρ w lg dp statementP (⟨1, s9, n9⟩ :: r) (.returned (.agg cs)) (w2.setRow w.heap.size cs) by
        rw [hcs]
        exact GP.ok (HE.out.trans hok) ⟨m9, rfl, St.at_.keep (btw_more (by omega)) (St.at_.keep (btw_row w2 (show w.heap.size < W1.heap.size by omega) _) hat9), (HS.out.did.trans d).own hgg (grown_row w2 w.heap.size (stC m9).toArray) (fun G e => by injection e with e; omega)⟩)
      unfold stV
      rw [← hcs]
      clear d HS HE hcs hat9 hp hok
      go_wp2_with (first
        | (refine wpList_store_row rfl 35 (.tmp 2) (.tmp 25) rfl w.heap.size cs rfl rfl 35 gst0 HRS.out HSZ.out HGS.out HON.out ?_
           have HRR := Lib.hid (HRS.out.row cs)))
      exact bodyPost_ret (v := .agg cs) (results_cell_row Tryz.results17 _ _ w.heap.size 35 cs (0, 0) _ rfl HRR.out Tryz.underlying35 rfl HSZ.out) rfl HPO.out
    · obtain ⟨rfl, hgr⟩ := hfp
      exact body_panic rfl (GP.err (HE.out.trans herr) ⟨rfl, grown_trans HS.out.did.grown hgr⟩)
  · clear HC
    simp only at hk
    have hk1 : ((k9 : Int) != 1) = true := by simp; omega
    unfold tokB at HS HT HMX
    unfold tokB
    go_upto_region 3 with fail
    change Code.wp _ _ _ _ (w1.alloc (.cells #[.int .u8 ((k9 : Nat) : Int), .string ⟨s9.toArray⟩, .int .i64 n9, .int .i64 p9] 46))
    generalize hb : w1.heap.size = b at *
    generalize hW : (World.alloc w1 _) = W1 at *
    clear hW hb hs1 hgm
    have y0 : W1.cell? ⟨b, 0, none⟩ = some (.int .u8 ((k9 : Nat) : Int)) := (HT.out.cell 0).trans rfl
    have y1 : W1.cell? ⟨b, 1, none⟩ = some (.string ⟨s9.toArray⟩) := (HT.out.cell 1).trans rfl
    go_upto_region 4 with (first
      | (refine wpList_look_v Tryz.underlying83 Tryz.underlying9 rfl _ _ rfl W0.heap.size rfl (⟨s9.toArray⟩ : ByteArray) rfl (l := stmM) HMX.out (z := .nilFunc) Tryz.zeroValue82 ?_
         rw [show (⟨s9.toArray⟩ : ByteArray).data.toList = s9 by simp]))
    generalize (stmM.lookup s9).getD .nilFunc = u at *
    clear HMX HT
    have HF := Lib.hid (gfail_any ρ W1 _ _ _ HS.out.did.at_)
    have HE := Lib.hid (show statementP (⟨k9, s9, n9⟩ :: r) = .error (⟨k9, s9, n9⟩ :: r : Wds).length from by simp [statementP, hk])
    go_wp2_with fail
    refine HF.out.mono ?_
    rintro e w2 ⟨rfl, hg2⟩
    exact body_panic rfl (GP.err HE.out ⟨rfl, grown_trans HS.out.did.grown hg2⟩)
  · clear HC
    simp only at hk hv
    subst hk
    unfold tokB at HS HT HMX
    unfold tokB
    go_upto_region 3 with fail
    change Code.wp _ _ _ _ (w1.alloc (.cells #[.int .u8 ((1 : Nat) : Int), .string ⟨s9.toArray⟩, .int .i64 n9, .int .i64 p9] 46))
    generalize hb : w1.heap.size = b at *
    generalize hW : (World.alloc w1 _) = W1 at *
    clear hW hb hs1 hgm
    have y0 : W1.cell? ⟨b, 0, none⟩ = some (.int .u8 ((1 : Nat) : Int)) := (HT.out.cell 0).trans rfl
    have y1 : W1.cell? ⟨b, 1, none⟩ = some (.string ⟨s9.toArray⟩) := (HT.out.cell 1).trans rfl
    go_upto_region 4 with (first
      | (refine wpList_look_v Tryz.underlying83 Tryz.underlying9 rfl _ _ rfl W0.heap.size rfl (⟨s9.toArray⟩ : ByteArray) rfl (l := stmM) HMX.out (z := .nilFunc) Tryz.zeroValue82 ?_
         rw [show (⟨s9.toArray⟩ : ByteArray).data.toList = s9 by simp]))
    clear HMX HT
    have HF := Lib.hid (gfail_any ρ W1 _ _ _ HS.out.did.at_)
    have HE := Lib.hid (show statementP (⟨1, s9, n9⟩ :: r) = .error (⟨1, s9, n9⟩ :: r : Wds).length from hbad)
    have hq1 : ∀ w, (binOp .eql 82 .nilFunc .nilFunc).run Tryz.prog w = .ok (.bool true) w := fun _ => rfl
    go_wp2_with fail
    refine HF.out.mono ?_
    rintro e w2 ⟨rfl, hg2⟩
    exact body_panic rfl (GP.err HE.out ⟨rfl, grown_trans HS.out.did.grown hg2⟩)
theorem gst_call (ρ : Rdr) (w : World) (t : Wd) (r : Wds) (lg dp : Bool) (h : ρ.gat w (t :: r) lg dp) (F : FuncId) (P : Ps St) (en : ∀ args w, (callFunc F args).run Tryz.prog w = .ok (.enter F args) w) (hF : ∀ w2 lg dp, ρ.gat w2 (t :: r) lg dp → Calls Tryz.prog F #[ρ.ptr] w2 (gstPost ρ w2 lg dp P (t :: r))) (hk : t.k = 1) (hv : (stmM.lookup t.s).getD .nilFunc = .func (.func F) #[] #[]) (hP : statementP (t :: r) = P (t :: r)) :
    Calls Tryz.prog 17 #[ρ.ptr] w (gstPost ρ w lg dp statementP (t :: r)) :=
  gst_all ρ w t r lg dp h (.inl ⟨F, P, en, hF, hk, hv, hP⟩)
theorem gst_bad1 (ρ : Rdr) (w : World) (t : Wd) (r : Wds) (lg dp : Bool) (h : ρ.gat w (t :: r) lg dp) (hk : ¬ t.k = 1) :
    Calls Tryz.prog 17 #[ρ.ptr] w (gstPost ρ w lg dp statementP (t :: r)) :=
  gst_all ρ w t r lg dp h (.inr (.inl hk))
theorem gst_bad2 (ρ : Rdr) (w : World) (t : Wd) (r : Wds) (lg dp : Bool) (h : ρ.gat w (t :: r) lg dp) (hk : t.k = 1) (hv : (stmM.lookup t.s).getD .nilFunc = .nilFunc) (hbad : statementP (t :: r) = .error (t :: r).length) :
    Calls Tryz.prog 17 #[ρ.ptr] w (gstPost ρ w lg dp statementP (t :: r)) :=
  gst_all ρ w t r lg dp h (.inr (.inr ⟨hk, hv, hbad⟩))
end Go.Proofs.YtcneefmaghoejaaGreatDoor
namespace Go.Proofs.YtcneefmaghoejaaGreatDoor
open Go.ChangeShapes Go.WideShapes Go.ChangeAt Go.RowKit
set_option linter.unusedVariables false
set_option linter.unusedSimpArgs false
def gputQ7 (w : World) (b : Nat) (m : QuM) : World := (((((((w.setCell ⟨b, 7, none⟩ (slC m.items)).setCell ⟨b, 8, none⟩ (.string m.frm)).setCell ⟨b, 9, none⟩ (.bool m.only)).setCell ⟨b, 10, none⟩ (slC m.whr)).setCell ⟨b, 11, none⟩ (slC m.group)).setCell ⟨b, 12, none⟩ (slC m.having)).setCell ⟨b, 13, none⟩ (slC m.order)).setCell ⟨b, 14, none⟩ (slC m.limit)
def gsetQ7 (cs : Array Value) (m : QuM) : Array Value := (((((((cs.setIfInBounds 7 (slC m.items)).setIfInBounds 8 (.string m.frm)).setIfInBounds 9 (.bool m.only)).setIfInBounds 10 (slC m.whr)).setIfInBounds 11 (slC m.group)).setIfInBounds 12 (slC m.having)).setIfInBounds 13 (slC m.order)).setIfInBounds 14 (slC m.limit)
section
variable {ρ : Rdr} {w wr w2 : World} {q b : Nat} {pbs : List Nat} {lg dp lg2 dp2 : Bool} {l l2 : Wds} {m : StM} {d : St}
theorem GSt.query {m' : StM} {d' : St} {qy : QuM} (A : GSt ρ w q pbs lg dp b wr l m d) (hg : ρ.g < w.heap.size) (D : GDid ρ wr w2 l2 lg2 dp2) (hb : (stC m').toArray = gsetQ7 (stC m).toArray qy) (hl : lg2 = (lg || d'.long)) (hd : dp2 = (dp || deepB d'.exprs)) (hat : d.at_ w2 (Btw (b + 1) w2) m → St.at_ w2 (Btw (b + 1) w2) d' m') : GSt ρ w q pbs lg dp b (gputQ7 w2 b qy) l2 m' d' := by
  have hq := A.qb; have hw := A.sa.qw
  have S := A.sa.go hg D
  have hB := D.blk A.blk (by omega)
  have hS := hat (St.at_.keep (btw_grown D.grown (by omega)) A.at_)
  have s := fun (w : World) (h : St.at_ w (Btw (b + 1) w) d' m') (i : Nat) (u : Value) => St.at_.keep (btw_set (w := w) (Nat.lt_succ_self b) i u) h
  have t := fun (W : World) (h : GSa ρ w q pbs lg2 dp2 W l2) (i : Nat) (u : Value) => (⟨h.did.far (q := b) hg (by omega) i u, h.res.far (p := ⟨b, i, none⟩) (by simp; omega) u, h.qw, fun p hp => by
    obtain ⟨a, c, k⟩ := h.pbk p hp
    have := A.pb p hp
    exact ⟨a, c, k.far (p := ⟨b, i, none⟩) (by simp; omega) u⟩⟩ : GSa ρ w q pbs lg2 dp2 (W.setCell ⟨b, i, none⟩ u) l2)
  refine ⟨?_, ?_, ?_, A.qb, A.pb⟩
  · rw [← hl, ← hd]
    exact t _ (t _ (t _ (t _ (t _ (t _ (t _ (t _ S 7 _) 8 _) 9 _) 10 _) 11 _) 12 _) 13 _) 14 _
  · rw [hb]
    exact (((((((hB.set_ 7 _).set_ 8 _).set_ 9 _).set_ 10 _).set_ 11 _).set_ 12 _).set_ 13 _).set_ 14 _
  · exact s _ (s _ (s _ (s _ (s _ (s _ (s _ (s _ hS 7 _) 8 _) 9 _) 10 _) 11 _) 12 _) 13 _) 14 _
end
end Go.Proofs.YtcneefmaghoejaaGreatDoor
