/- Parts of the proof: Ge, Gt, PushL, ExA. Put together by slim.py. -/
import Derived.Deep.LoopGhost
import Derived.Test.YtcneefmaghoejaaGreatDoorB5
import Derived.Test.YtcneefmaghoejaaGreatDoorB22
import Derived.Test.YtcneefmaghoejaaGreatDoorB25
namespace Go.Proofs.YtcneefmaghoejaaGreatDoor
open Go.ChangeShapes Go.WideShapes Go.ChangeAt Go.RowKit
set_option linter.unusedVariables false
set_option linter.unusedSimpArgs false
def ex2Post (ρ : Rdr) (W : World) (lg dp : Bool) (l : Wds) (e : Ending) (w' : World) : Prop :=
  GP ρ W exprP l (fun t r v w' => ∃ y : Ex, v = exV y ∧ t.at_ w' (Btw W.heap.size w') y ∧ GDid ρ W w' r lg (dp || decide (32 < t.depth))) e w'
theorem ex2Post_put {ρ : Rdr} {w W : World} {lg dp b : Bool} {l r : Wds} {t : Tr} {y : Ex} (hg : ρ.g < w.heap.size) (hd : GDid ρ w W r lg b) (hb : b = (dp || decide (32 < t.depth))) (ht : t.at_ W (Btw (w.heap.size + 1) W) y) (hp : exprP l = .ok (t, r)) : ex2Post ρ w lg dp l (.returned (exV y)) (W.setRow w.heap.size (exC y).toArray) :=
  GP.ok hp ⟨y, rfl, (Tr.at_.keep (btw_row W (Nat.lt_succ_self _) _) t y ht).more (Nat.le_succ _), hb ▸ hd.own hg (grown_row W w.heap.size _) (fun G e => by injection e with e; omega)⟩
theorem Rdr.gat.deep {ρ : Rdr} {w : World} {l : Wds} {lg dp : Bool} (h : ρ.gat w l lg dp) (b : Bool) : GDid ρ w (w.setCell ⟨ρ.g, 3, none⟩ (.bool b)) l lg b := by
  have hB := Blk.set_ h.blk 3 (.bool b)
  exact ⟨h.set hB (grown_set (grown_below (Below.refl _ _)) 3 _) h.of, grown_set (grown_below (Below.refl _ _)) 3 _⟩
theorem Rdr.gat.longs {ρ : Rdr} {w : World} {l : Wds} {lg dp : Bool} (h : ρ.gat w l lg dp) (b : Bool) : GDid ρ w (w.setCell ⟨ρ.g, 2, none⟩ (.bool b)) l b dp := by
  have hB := Blk.set_ h.blk 2 (.bool b)
  exact ⟨h.set hB (grown_set (grown_below (Below.refl _ _)) 2 _) h.of, grown_set (grown_below (Below.refl _ _)) 2 _⟩
set_option maxHeartbeats 4000000 in
set_option maxRecDepth 100000 in
theorem gexpr_any (ρ : Rdr) (w : World) (l : Wds) (lg dp : Bool) (h : ρ.gat w l lg dp) :
    Calls Tryz.prog 77 #[ρ.ptr] w (ex2Post ρ w lg dp l) := by
  have hgg := h.lt_
  have hsm := h.small
  have hln := h.left.2
  have hb := later_new w (.cells ex0 49)
  have HQ := Lib.hid (Blk.new w 49 ex0)
  have HD := Lib.hid (GDid.of_later h hb)
  have hm := g_or ρ _ l lg dp (h.later hb)
  have hsz : (w.alloc (.cells ex0 49)).heap.size = w.heap.size + 1 := by simp
  clear h hb
  unfold ex0 at hm hsz
  go_enter Tryz.func77, Tryz.ntmps77
  go_wp2_with fail
  refine hm.mono ?_
  clear hm
  intro e w2 hp
  rcases hp.cases with ⟨t, r, v, hok, rfl, y, rfl, hat, d2⟩ | ⟨m, herr, rfl, hg⟩
  case inr =>
    have HG := Lib.hid HD.out.grown
    have HE := Lib.hid herr
    clear hp HQ HD hsz herr
    go_wp2_with fail
    exact body_panic rfl (GP.err HE.out ⟨rfl, grown_trans HG.out hg⟩)
  have hs2 : w.heap.size + 1 ≤ w2.heap.size := by have := d2.size; omega
  have hx := later_new w2 (.cells (exC y).toArray 49)
  have HD2 := Lib.hid ((HD.out.trans d2).later hx)
  have HQ2 := Lib.hid ((d2.blk HQ.out (by omega)).later hx)
  have HX2 := Lib.hid (Blk.new w2 49 (exC y).toArray)
  have hat2 := (hat.more (show w.heap.size + 1 ≤ _ by omega)).later hx
  have HT2 := Lib.hid hat2
  obtain ⟨hthin, hdep⟩ := tq_expr l t r hok
  have hgd := Tr.gdep (w := w2.alloc (.cells (exC y).toArray 49)) (S := Btw (w.heap.size + 1) _) (fun b hb => hb.2) t y hat2 hthin (by omega) _ (Below.refl _ _)
  have HOK := Lib.hid hok
  have hxg : w2.heap.size ≠ ρ.g := by omega
  have hqg : w.heap.size < w2.heap.size := by omega
  clear hp hat hat2 d2 hok hx HQ HD hsz hthin
  unfold exV at *
  unfold exC at *
  go_upto_region 2 with fail
  generalize (w2.alloc _) = W2 at *
  generalize w2.heap.size = qx at *
  obtain ⟨c0, c1, c2, c3, f1, f2, f3⟩ := HD2.out.at_.facts
  cases hdp : dp
  · rw [hdp] at c3
    have HDP := Lib.hid hdp
    clear hdp
    obtain ⟨k0, k1, k2, k3, k4, k5, k6⟩ := ex_cells7 (y := y) HX2.out
    unfold Rdr.ptr
    go_wp2_with fail
    refine hgd.mono ?_
    clear hgd
    rintro e w3 ⟨rfl, b3⟩
    have HD3 := Lib.hid (HD2.out.later b3)
    have HQ3 := Lib.hid (HQ2.out.later b3)
    have HX3 := Lib.hid (HX2.out.later b3)
    have HT3 := Lib.hid (HT2.out.later b3)
    clear b3 HD2 HQ2 HX2 HT2 c0 c1 c2 c3 f1 f2 f3 k0 k1 k2 k3 k4 k5 k6
    obtain ⟨c0, c1, c2, c3, f1, f2, f3⟩ := HD3.out.at_.facts
    have hst := HD3.out.at_.deep (decide (32 < t.depth))
    have HD4 := Lib.hid (HD3.out.trans hst)
    have HQ4 := Lib.hid (HQ3.out.far (p := ⟨ρ.g, 3, none⟩) (by simp; omega) (.bool (decide (32 < t.depth))))
    have HX4 := Lib.hid (HX3.out.far (p := ⟨ρ.g, 3, none⟩) (by simp; omega) (.bool (decide (32 < t.depth))))
    have HT4 := Lib.hid (HT3.out.set (q := ρ.g) (by omega) 3 (.bool (decide (32 < t.depth))))
    have hdec : decide ((t.depth : Int) > 32) = decide (32 < t.depth) := by
      rw [decide_eq_decide]; omega
    generalize hbd : decide (32 < t.depth) = bd at *
    have HBD := Lib.hid hbd
    clear hbd
    clear hst HD3 HQ3 HX3 HT3
    go_wp2_with (first
      | (refine wpList_load_row rfl 49 (.tmp 3) rfl qx rfl 49 (exC y).toArray (0, 0) _ HX4.out Tryz.underlying49 rfl gex_info ?_)
      | (refine wpList_store_row rfl 49 (.tmp 2) (.tmp 18) rfl w.heap.size (exC y).toArray rfl rfl 49 ex0 HQ4.out gex_info rfl (ex_oneC _) ?_
         have HR := Lib.hid (HQ4.out.row (exC y).toArray)))
    refine bodyPost_ret (v := exV y) (results_cell_row Tryz.results77 _ _ w.heap.size 49 (exC y).toArray (0, 0) _ rfl HR.out Tryz.underlying49 rfl gex_info) rfl ?_
    exact ex2Post_put hgg HD4.out (by rw [HDP.out]; exact HBD.out.symm) HT4.out HOK.out
  · rw [hdp] at c3
    have HDP := Lib.hid hdp
    clear hdp hgd
    have hst := HD2.out.at_.deep true
    have HD4 := Lib.hid (HD2.out.trans hst)
    have HQ4 := Lib.hid (HQ2.out.far (p := ⟨ρ.g, 3, none⟩) (by simp; omega) (.bool true))
    have HX4 := Lib.hid (HX2.out.far (p := ⟨ρ.g, 3, none⟩) (by simp; omega) (.bool true))
    have HT4 := Lib.hid (HT2.out.set (q := ρ.g) (by omega) 3 (.bool true))
    clear hst HD2 HQ2 HX2 HT2
    unfold exC at HX4
    unfold Rdr.ptr
    go_wp2_with (first
      | (refine wpList_load_row rfl 49 (.tmp 3) rfl qx rfl 49 (exC y).toArray (0, 0) _ HX4.out Tryz.underlying49 rfl gex_info ?_)
      | (refine wpList_store_row rfl 49 (.tmp 2) (.tmp 18) rfl w.heap.size (exC y).toArray rfl rfl 49 ex0 HQ4.out gex_info rfl (ex_oneC _) ?_
         have HR := Lib.hid (HQ4.out.row (exC y).toArray)))
    refine bodyPost_ret (v := exV y) (results_cell_row Tryz.results77 _ _ w.heap.size 49 (exC y).toArray (0, 0) _ rfl HR.out Tryz.underlying49 rfl gex_info) rfl ?_
    exact ex2Post_put hgg HD4.out (by rw [HDP.out]; rfl) HT4.out HOK.out
def mbPost (ρ : Rdr) (W : World) (lg dp : Bool) (s : List UInt8) (l : Wds) (e : Ending) (w' : World) : Prop :=
  GP ρ W (behindP s) l (fun ts r v w' => ∃ y : Sl, v = slC y ∧ elTr.sl w' (Btw W.heap.size w') y ts ∧ GDid ρ W w' r lg (dp || deepB ts)) e w'
theorem behind_no {s : List UInt8} {l : Wds} (h : headIs s l = false) : behindP s l = .ok ([], l) := by
  unfold behindP; rw [may_bind]; simp only [h]; rfl
theorem behind_yes {s : List UInt8} {l : Wds} (h : headIs s l = true) : behindP s l = (do let x ← exprP; return [x] : Ps (List Tr)) l.tail := by
  unfold behindP; rw [may_bind]; simp only [h, if_true]
set_option maxHeartbeats 4000000 in
set_option maxRecDepth 100000 in
theorem gmaybe_any (ρ : Rdr) (w : World) (l : Wds) (lg dp : Bool) (h : ρ.gat w l lg dp) (s : List UInt8) :
    Calls Tryz.prog 79 #[ρ.ptr, .string ⟨s.toArray⟩] w (mbPost ρ w lg dp s l) := by
  have hgg := h.lt_
  have hm := ghave_any ρ w l lg dp h ⟨s.toArray⟩
  rw [show (⟨s.toArray⟩ : ByteArray).data.toList = s by simp] at hm
  cases hh : headIs s l
  · rw [hh, after_no hh] at hm
    have HE := Lib.hid (behind_no hh)
    clear h hh
    go_enter Tryz.func79, Tryz.ntmps79
    go_wp2_with fail
    refine hm.mono ?_
    clear hm
    rintro e w1 ⟨rfl, d⟩
    go_wp2_with fail
    go_ret
    exact GP.ok HE.out ⟨Sl.nil, rfl, elTr.sl_nil _ _, by rw [show deepB [] = false from rfl, Bool.or_false]; exact d⟩
  · rw [hh, after_yes hh] at hm
    have HE := Lib.hid (behind_yes hh)
    clear h hh
    go_enter Tryz.func79, Tryz.ntmps79
    go_wp2_with fail
    refine hm.mono ?_
    clear hm
    rintro e w1 ⟨rfl, d⟩
    go_wp2_with fail
    refine (gexpr_any ρ w1 l.tail lg dp d.at_).mono ?_
    intro e w2 hp
    rcases hp.cases with ⟨t, r, v, hok, rfl, y, rfl, hat, d2⟩ | ⟨m, herr, rfl, hg⟩
    · have hx := later_new w2 (.cells (exC y).toArray 49)
      have hs1 := d.size
      have hs2 := d2.size
      have HS := Lib.hid (sl_one (S := Btw w.heap.size (w2.alloc (.cells (exC y).toArray 49))) (Blk.new w2 49 (exC y).toArray) ⟨by omega, by simp⟩ ((hat.more hs1).later hx))
      have HD := Lib.hid ((d.trans d2).later hx)
      have HOK := Lib.hid (HE.out.trans (bind_okP hok))
      clear hp hok hat d d2 hx hs1 hs2
      unfold exV
      unfold exC at *
      go_wp2_with fail
      go_ret
      refine GP.ok (x := [t]) (r := r) (HOK.out.trans rfl) ⟨⟨some ⟨w2.heap.size, 0, none⟩, 1, 1⟩, rfl, HS.out, ?_⟩
      have hdb : deepB [t] = decide (32 < t.depth) := by simp [deepB]
      rw [hdb]
      exact HD.out
    · have HG := Lib.hid d.grown
      have HF := Lib.hid (HE.out.trans (bind_errP herr))
      clear hp herr d
      go_wp2_with fail
      exact body_panic rfl (GP.err HF.out ⟨rfl, grown_trans HG.out hg⟩)
end Go.Proofs.YtcneefmaghoejaaGreatDoor
namespace Go.Proofs.YtcneefmaghoejaaGreatDoor
open Go.ChangeShapes Go.WideShapes Go.ChangeAt Go.RowKit
set_option linter.unusedVariables false
set_option linter.unusedSimpArgs false
def elPL {α : Type} (ρ : Rdr) (W0 : World) (lgf dpf : α → Bool) (el : Ps α) (St : List α → World → Prop) (acc : List α) (lg dp : Bool) (l : Wds) (e : Ending) (W' : World) : Prop := match el l with
    | .ok (x, r) => e = .returned (.tuple #[]) ∧ St (acc ++ [x]) W' ∧ GDid ρ W0 W' r (lg || lgf x) (dp || dpf x)
    | .error n => failPost ρ W0 n e W'
theorem elPL.ok {α : Type} {ρ : Rdr} {W0 : World} {lgf dpf : α → Bool} {el : Ps α} {St : List α → World → Prop} {acc : List α} {lg dp : Bool} {l r : Wds} {x : α} {W' : World} (h : el l = .ok (x, r)) (hs : St (acc ++ [x]) W') (hd : GDid ρ W0 W' r (lg || lgf x) (dp || dpf x)) : elPL ρ W0 lgf dpf el St acc lg dp l (.returned (.tuple #[])) W' := by
  unfold elPL; rw [h]; exact ⟨rfl, hs, hd⟩
theorem elPL.err {α : Type} {ρ : Rdr} {W0 : World} {lgf dpf : α → Bool} {el : Ps α} {St : List α → World → Prop} {acc : List α} {lg dp : Bool} {l : Wds} {n : Nat} {e : Ending} {W' : World} (h : el l = .error n) (k : failPost ρ W0 n e W') : elPL ρ W0 lgf dpf el St acc lg dp l e W' := by
  unfold elPL; rw [h]; exact k
structure LstL {α : Type} (ρ : Rdr) (W0 : World) (lgf dpf : α → Bool) (el : Ps α) (fK : FuncId) (caps : Array Value) (St : List α → World → Prop) : Prop where
  sane : Sane el
  en : ∀ args w, (callFunc fK args).run Tryz.prog w = .ok (.enter fK args) w
  keep : ∀ acc w w', St acc w → w.grownBy w' (some ρ.g) → W0.heap.size ≤ w.heap.size → St acc w'
  read : ∀ acc W l lg dp, acc.length ≤ 5000 → St acc W → GDid ρ W0 W l lg dp → Calls Tryz.prog fK caps W (elPL ρ W0 lgf dpf el St acc lg dp l)
def lstPostL {α : Type} (ρ : Rdr) (W0 : World) (lgf dpf : α → Bool) (el : Ps α) (St : List α → World → Prop) (lg dp : Bool) (l : Wds) (e : Ending) (W' : World) : Prop :=
  match listP el l with
  | .ok (xs, r) => e = .returned (.tuple #[]) ∧ St xs W' ∧ GDid ρ W0 W' r ((lg || xs.any lgf) || decide (64 < xs.length)) (dp || xs.any dpf)
  | .error n => failPost ρ W0 n e W'
section
variable {α : Type} {ρ : Rdr} {W0 : World} {lgf dpf : α → Bool} {el : Ps α} {St : List α → World → Prop} {lg dp : Bool} {l : Wds}
theorem lstPostL.ok {xs : List α} {r : Wds} {W' : World} (h : listP el l = .ok (xs, r)) (hs : St xs W') (hd : GDid ρ W0 W' r ((lg || xs.any lgf) || decide (64 < xs.length)) (dp || xs.any dpf)) : lstPostL ρ W0 lgf dpf el St lg dp l (.returned (.tuple #[])) W' := by
  unfold lstPostL; rw [h]; exact ⟨rfl, hs, hd⟩
theorem lstPostL.err {n : Nat} {e : Ending} {W' : World} (h : listP el l = .error n) (k : failPost ρ W0 n e W') : lstPostL ρ W0 lgf dpf el St lg dp l e W' := by
  unfold lstPostL; rw [h]; exact k
end
section
variable {α : Type} {l : Wds}
theorem more_no {el : Ps α} (hs : Sane el) {acc : List α} {l : Wds} (h : headIs s_comma l = false) : moreL el acc l = .ok (acc, l) := by
  rw [moreL_eq hs, may_bind]; simp only [h]; rfl
theorem more_yes {el : Ps α} (hs : Sane el) {acc : List α} {l : Wds} (h : headIs s_comma l = true) : moreL el acc l = (do let y ← el; moreL el (acc ++ [y]) : Ps (List α)) l.tail := by
  rw [moreL_eq hs, may_bind]; simp only [h, if_true]
end
set_option maxHeartbeats 4000000 in
set_option maxRecDepth 100000 in
theorem glistL_any {α : Type} (ρ : Rdr) (W0 : World) (lgf dpf : α → Bool) (el : Ps α) (fK : FuncId) (caps : Array Value) (St : List α → World → Prop) (L : LstL ρ W0 lgf dpf el fK caps St) (w : World) (l : Wds) (lg dp : Bool) (h : GDid ρ W0 w l lg dp) (h0 : St [] w) (hgg : ρ.g < W0.heap.size) :
    Calls Tryz.prog 72 #[ρ.ptr, .func (.func fK) #[] caps] w (lstPostL ρ W0 lgf dpf el St lg dp l) := by
  have HH := Lib.hid h
  have hsm := h.at_.small
  have hln := h.at_.left.2
  have en := L.en
  have hrd := L.read [] w l lg dp (by simp) h0 h
  have HL := Lib.hid L
  clear h h0 L
  go_enter Tryz.func72, Tryz.ntmps72
  go_wp2_with fail
  refine hrd.mono ?_
  clear hrd
  intro e w1 hp
  unfold elPL at hp
  cases hx : el l with
  | error m =>
    rw [hx] at hp
    obtain ⟨rfl, hg⟩ := hp
    have HF := Lib.hid (show listP el l = .error m by rw [listP_L]; exact bind_errP hx)
    clear hx
    go_wp2_with fail
    exact body_panic rfl (lstPostL.err HF.out ⟨rfl, hg⟩)
  | ok z =>
    obtain ⟨x, r⟩ := z
    rw [hx] at hp
    obtain ⟨rfl, hs, hd⟩ := hp
    have hrl := HL.out.sane.len hx
    have HE := Lib.hid (show listP el l = moreL el [x] r by rw [listP_L]; exact bind_okP hx)
    have HS := Lib.hid hs
    have HD := Lib.hid hd
    clear hx hs hd HH
    go_wp2_with fail
    go_loopg [4] r.length (fun k u wr => ∃ (acc : List α) (l' : Wds), 0 < acc.length ∧ acc.length + l'.length ≤ 5001 ∧ l'.length ≤ k ∧ u = .int .i64 acc.length ∧ St acc wr ∧ GDid ρ W0 wr l' (lg || acc.any lgf) (dp || acc.any dpf) ∧ listP el l = moreL el acc l')
    case atStart => exact ⟨[x], r, by simp, by simp; omega, Nat.le_refl _, rfl, HS.out, by simpa using HD.out, HE.out⟩
    case round =>
      obtain ⟨acc, l', hpos, hfew, hk, rfl, hs, hd, he⟩ := hrel
      have HS2 := Lib.hid hs
      have HD2 := Lib.hid hd
      have HE2 := Lib.hid he
      have hm := ghave_any ρ wr l' (lg || acc.any lgf) (dp || acc.any dpf) hd.at_ ⟨#[44]⟩
      rw [show (⟨#[44]⟩ : ByteArray).data.toList = s_comma from rfl] at hm
      clear hs hd he HS HD HE
      have hsz := HD2.out.size
      cases hh : headIs s_comma l'
      · rw [hh, after_no hh] at hm
        have HF := Lib.hid (HE2.out.trans (more_no HL.out.sane hh))
        clear hh
        go_wp2_with fail
        refine hm.mono ?_
        clear hm
        rintro e w2 ⟨rfl, d⟩
        have HS3 := Lib.hid (HL.out.keep _ _ _ HS2.out d.grown hsz)
        have HD3 := Lib.hid (HD2.out.trans d)
        clear d HS2 HD2 HE2
        obtain ⟨lg2, hlg2⟩ : ∃ b : Bool, b = (lg || acc.any lgf) := ⟨_, rfl⟩
        rw [← hlg2] at HD3
        have HLG2 := Lib.hid hlg2
        clear hlg2
        obtain ⟨c0, c1, c2, c3, f1, f2, f3⟩ := HD3.out.at_.facts
        have hsz3 := HD3.out.size
        have hst := HD3.out.at_.longs (lg2 || decide (64 < acc.length))
        have HS4 := Lib.hid (HL.out.keep _ _ _ HS3.out hst.grown hsz3)
        have HD4 := Lib.hid (HD3.out.trans hst)
        clear hst
        unfold Rdr.ptr
        cases hlg : lg2
        · rw [hlg] at c2
          have HLG := Lib.hid hlg
          have hdec : decide ((acc.length : Int) > 64) = decide (64 < acc.length) := by rw [decide_eq_decide]; omega
          rw [hlg, Bool.false_or] at HS4 HD4
          have HX := Lib.hid (show lstPostL ρ W0 lgf dpf el St lg dp l (.returned (.tuple #[])) _ from lstPostL.ok HF.out HS4.out (by rw [← HLG2.out, HLG.out, Bool.false_or]; exact HD4.out))
          clear hlg
          generalize decide (64 < acc.length) = bd at *
          go_wp2_with fail
          go_end0
          exact HX.out
        · rw [hlg] at c2
          have HLG := Lib.hid hlg
          rw [hlg, Bool.true_or] at HS4 HD4
          have HX := Lib.hid (show lstPostL ρ W0 lgf dpf el St lg dp l (.returned (.tuple #[])) _ from lstPostL.ok HF.out HS4.out (by rw [← HLG2.out, HLG.out, Bool.true_or]; exact HD4.out))
          clear hlg
          go_wp2_with fail
          go_end0
          exact HX.out
      · rw [hh, after_yes hh] at hm
        have HF := Lib.hid (HE2.out.trans (more_yes HL.out.sane hh))
        have hhl := head_len hh
        clear hh
        go_wp2_with fail
        refine hm.mono ?_
        clear hm
        rintro e w2 ⟨rfl, d⟩
        have hrd := HL.out.read acc w2 l'.tail (lg || acc.any lgf) (dp || acc.any dpf) (by omega) (HL.out.keep _ _ _ HS2.out d.grown hsz) (HD2.out.trans d)
        clear d HS2 HD2 HE2
        go_wp2_with fail
        refine hrd.mono ?_
        clear hrd
        intro e w3 hp
        unfold elPL at hp
        cases hx : el l'.tail with
        | error m =>
          rw [hx] at hp
          obtain ⟨rfl, hg⟩ := hp
          have HG := Lib.hid (HF.out.trans (bind_errP hx))
          clear hx
          go_wp2_with fail
          exact body_panic rfl (lstPostL.err HG.out ⟨rfl, hg⟩)
        | ok z =>
          obtain ⟨x2, r2⟩ := z
          rw [hx] at hp
          obtain ⟨rfl, hs, hd⟩ := hp
          have hrl2 := HL.out.sane.len hx
          have HG := Lib.hid (HF.out.trans (bind_okP hx))
          have HS5 := Lib.hid hs
          have HD5 := Lib.hid hd
          clear hx hs hd
          go_wp2_with fail
          go_roundg (r2.length)
          case measure => omega
          case rel => exact ⟨acc ++ [x2], r2, by simp, by simp; omega, Nat.le_refl _, by simp, HS5.out, by have := HD5.out; simpa [List.any_append, Bool.or_assoc] using this, HG.out⟩
def elP {α : Type} (ρ : Rdr) (W0 : World) (dpf : α → Bool) (el : Ps α) (St : List α → World → Prop) (acc : List α) (lg dp : Bool) (l : Wds) (e : Ending) (W' : World) : Prop := match el l with
    | .ok (x, r) => e = .returned (.tuple #[]) ∧ St (acc ++ [x]) W' ∧ GDid ρ W0 W' r lg (dp || dpf x)
    | .error n => failPost ρ W0 n e W'
theorem elP.ok {α : Type} {ρ : Rdr} {W0 : World} {dpf : α → Bool} {el : Ps α} {St : List α → World → Prop} {acc : List α} {lg dp : Bool} {l r : Wds} {x : α} {W' : World} (h : el l = .ok (x, r)) (hs : St (acc ++ [x]) W') (hd : GDid ρ W0 W' r lg (dp || dpf x)) : elP ρ W0 dpf el St acc lg dp l (.returned (.tuple #[])) W' := by
  unfold elP; rw [h]; exact ⟨rfl, hs, hd⟩
theorem elP.err {α : Type} {ρ : Rdr} {W0 : World} {dpf : α → Bool} {el : Ps α} {St : List α → World → Prop} {acc : List α} {lg dp : Bool} {l : Wds} {n : Nat} {e : Ending} {W' : World} (h : el l = .error n) (k : failPost ρ W0 n e W') : elP ρ W0 dpf el St acc lg dp l e W' := by
  unfold elP; rw [h]; exact k
structure Lst {α : Type} (ρ : Rdr) (W0 : World) (dpf : α → Bool) (el : Ps α) (fK : FuncId) (caps : Array Value) (St : List α → World → Prop) : Prop where
  sane : Sane el
  en : ∀ args w, (callFunc fK args).run Tryz.prog w = .ok (.enter fK args) w
  keep : ∀ acc w w', St acc w → w.grownBy w' (some ρ.g) → W0.heap.size ≤ w.heap.size → St acc w'
  read : ∀ acc W l lg dp, acc.length ≤ 5000 → St acc W → GDid ρ W0 W l lg dp → Calls Tryz.prog fK caps W (elP ρ W0 dpf el St acc lg dp l)
def lstPost {α : Type} (ρ : Rdr) (W0 : World) (dpf : α → Bool) (el : Ps α) (St : List α → World → Prop) (lg dp : Bool) (l : Wds) (e : Ending) (W' : World) : Prop :=
  match listP el l with
  | .ok (xs, r) => e = .returned (.tuple #[]) ∧ St xs W' ∧ GDid ρ W0 W' r (lg || decide (64 < xs.length)) (dp || xs.any dpf)
  | .error n => failPost ρ W0 n e W'
section
variable {α : Type} {ρ : Rdr} {W0 : World} {dpf : α → Bool} {el : Ps α} {St : List α → World → Prop} {lg dp : Bool} {l : Wds}
theorem lstPost.ok {xs : List α} {r : Wds} {W' : World} (h : listP el l = .ok (xs, r)) (hs : St xs W') (hd : GDid ρ W0 W' r (lg || decide (64 < xs.length)) (dp || xs.any dpf)) : lstPost ρ W0 dpf el St lg dp l (.returned (.tuple #[])) W' := by
  unfold lstPost; rw [h]; exact ⟨rfl, hs, hd⟩
theorem lstPost.err {n : Nat} {e : Ending} {W' : World} (h : listP el l = .error n) (k : failPost ρ W0 n e W') : lstPost ρ W0 dpf el St lg dp l e W' := by
  unfold lstPost; rw [h]; exact k
end
theorem bool_none {α : Type} (xs : List α) (b : Bool) : (b || xs.any fun _ => false) = b := by
  rw [show (xs.any fun _ => false) = false by simp]; simp
theorem glist_any {α : Type} (ρ : Rdr) (W0 : World) (dpf : α → Bool) (el : Ps α) (fK : FuncId) (caps : Array Value) (St : List α → World → Prop) (L : Lst ρ W0 dpf el fK caps St) (w : World) (l : Wds) (lg dp : Bool) (h : GDid ρ W0 w l lg dp) (h0 : St [] w) (hgg : ρ.g < W0.heap.size) :
    Calls Tryz.prog 72 #[ρ.ptr, .func (.func fK) #[] caps] w (lstPost ρ W0 dpf el St lg dp l) := by
  have LL : LstL ρ W0 (fun _ => false) dpf el fK caps St := ⟨L.sane, L.en, L.keep, fun acc W l lg dp hn hs hd => (L.read acc W l lg dp hn hs hd).mono fun e W' hp => by
    unfold elP at hp
    cases hx : el l with
    | error m => rw [hx] at hp; exact elPL.err hx hp
    | ok z =>
      obtain ⟨x, r⟩ := z
      rw [hx] at hp
      obtain ⟨rfl, hs, hd⟩ := hp
      exact elPL.ok hx hs (by rw [Bool.or_false]; exact hd)⟩
  refine (glistL_any ρ W0 (fun _ => false) dpf el fK caps St LL w l lg dp h h0 hgg).mono fun e W' hp => ?_
  unfold lstPostL at hp
  cases hx : listP el l with
  | error m => rw [hx] at hp; exact lstPost.err hx hp
  | ok z =>
    obtain ⟨xs, r⟩ := z
    rw [hx] at hp
    obtain ⟨rfl, hs, hd⟩ := hp
    rw [bool_none] at hd
    exact lstPost.ok hx hs hd
end Go.Proofs.YtcneefmaghoejaaGreatDoor
namespace Go.Proofs.YtcneefmaghoejaaGreatDoor
open Go.ChangeShapes Go.WideShapes Go.ChangeAt Go.RowKit
set_option linter.unusedVariables false
set_option linter.unusedSimpArgs false
theorem item_info : (Tryz.prog.info? 51).map (fun i => (i.zero, i.size, i.bytes)) = some (some (.agg #[.int .u8 0, .int .u8 0, .int .i64 0, .string ⟨#[]⟩, .string ⟨#[]⟩, .int .i64 0, .slice none 0 0, .string ⟨#[]⟩]), 8, 104) := by kernel_rfl
def elDid {α : Type} (E : El α) (lng : α → Bool) (ρ : Rdr) (p : Ps α) (σ : RSt) (big : Bool) (y : E.β) (w w' : World) : Prop := ∃ x : α, E.rel w' (Btw w.heap.size w') x y ∧ Did ρ w w' (stepS p σ) (big || lng x) ∧ Gives p σ x
theorem push_grows {α : Type} {E : El α} {T : TypeId} {lng : α → Bool} {ρ : Rdr} {p : Ps α} {σ : RSt} {big : Bool} {w0 wr w1 w1' w2 W : World} {B : Nat} {v v' : Value} {acc : List α} {y : E.β} (hB : w0.heap.size ≤ B) (hg : ρ.g < w0.heap.size) (hR : Grows E T wr B v acc) (hBr : B ≤ wr.heap.size) (hD : Did ρ w0 wr σ big) (hl1 : Later wr w1) (hp : elDid E lng ρ p σ big y w1 w1') (hl2 : Later w1' w2) (hgw : w2.grownBy W v.ownBlock)
    (ys : List E.β) (hov : OwnF E.f T E.size W B v' (ys ++ [y])) (hys : All2 (E.rel wr (Own0 B v wr)) acc ys) (hv : v'.ownBlock = v.ownBlock ∨ v'.ownBlock = some w2.heap.size) :
    ∃ x : α, Grows E T W B v' (acc ++ [x]) ∧ Did ρ w0 W (stepS p σ) (big || lng x) ∧ Gives p σ x := by
  obtain ⟨x, hx, hd, hgv⟩ := hp
  have hgB : ρ.g < B := by omega
  have own : ∀ G, v.ownBlock = some G → B ≤ G ∧ G < wr.heap.size := fun G hG => hR.own_ge hG
  refine ⟨x, ⟨ys ++ [y], hov, All2.append ?_ (.one ?_)⟩, ?_, hgv⟩
  · exact hys.imp fun a b hab => E.keep (own0_app hgw hv) (E.keep (own0_later hl2) (E.keep (own0_grown hd.grown hgB) (E.keep (own0_later hl1) hab)))
  · refine E.keep (own0_app hgw hv) (E.keep (own0_new (B := w1.heap.size) (B' := B) (Nat.le_trans hBr hl1.size) fun G hG => ?_) (E.keep (btw_later hl2) hx))
    exact Nat.lt_of_lt_of_le (own G hG).2 hl1.size
  · exact (((hD.later hl1).trans hd).later hl2).own hg hgw fun G hG => by have := (own G hG).1; omega
theorem own0_far {B q : Nat} {v : Value} {w : World} (hq : q < B) (i : Nat) (u : Value) : ∀ b, Own0 B v w b → (∀ o, (w.setCell ⟨q, i, none⟩ u).cell? ⟨b, o, none⟩ = w.cell? ⟨b, o, none⟩) ∧ Own0 B v (w.setCell ⟨q, i, none⟩ u) b := fun b hb =>
  ⟨cell_of_heap (Below.heap_setCell w ⟨q, i, none⟩ u b (by have := hb.1; simp; omega)), hb.1, by simpa [World.setCell] using hb.2.1, hb.2.2⟩
theorem Grows.far {α : Type} {E : El α} {T : TypeId} {w : World} {B q : Nat} {v : Value} {l : List α} (h : Grows E T w B v l) (hq : q < B) (i : Nat) (u : Value) : Grows E T (w.setCell ⟨q, i, none⟩ u) B v l := by
  have hge := fun G hG => (h.own_ge (G := G) hG).1
  obtain ⟨ys, h1, h2⟩ := h.has
  exact ⟨ys, h1.keep fun g hg => Below.heap_setCell w ⟨q, i, none⟩ u g (by have := hge g hg; simp; omega), h2.imp fun x y => E.keep (own0_far hq i u)⟩
end Go.Proofs.YtcneefmaghoejaaGreatDoor
namespace Go.Proofs.YtcneefmaghoejaaGreatDoor
open Go.ChangeShapes Go.WideShapes Go.ChangeAt Go.RowKit
set_option linter.unusedVariables false
set_option linter.unusedSimpArgs false
structure XAt (w : World) (S : Nat → Prop) (v : Value) (wr : World) (acc : List Tr) : Prop where
  has : ∃ ys : List Ex, OwnF exC 49 7 wr w.heap.size v ys ∧ All2 (fun t y => Tr.at_ w S t y) acc ys
  below : Below w.heap.size w wr
section
variable {w wr wr' : World} {S : Nat → Prop} {v v' : Value} {acc l : List Tr} {B : Nat}
theorem XAt.start (w : World) (S : Nat → Prop) : XAt w S (.slice none 0 0) w [] := ⟨⟨[], OwnF.nil, .nil⟩, Below.refl _ _⟩
theorem XAt.later (h : XAt w S v wr acc) (hb : Below wr.heap.size wr wr') : XAt w S v wr' acc := by
  obtain ⟨ys, h1, h2⟩ := h.has
  exact ⟨⟨ys, h1.later hb, h2⟩, Later.then h.below hb⟩
theorem XAt.len (h : XAt w S v wr acc) : ∃ A c, v = .slice A acc.length c := by
  obtain ⟨ys, h1, h2⟩ := h.has
  obtain ⟨A, c, hv, _⟩ := h1.reads
  exact ⟨A, c, by rw [hv, h2.len]⟩
theorem XAt.far (h : XAt w S v wr acc) (hg : wr.grownBy wr' v.ownBlock) {q : Nat} {t : TypeId} {cs : Array Value} (hq : Blk wr q t cs) (ht : t ≠ 49) : Blk wr' q t cs := by
  obtain ⟨ys, h1, h2⟩ := h.has
  exact hq.grownOwn h1 ht hg
theorem XAt.sl (h : XAt w S v wr acc) (hS : ∀ b, S b → b < w.heap.size) : ∃ y : Sl, v = slC y ∧ y.n = acc.length ∧ elTr.sl wr (Btw 0 wr) y acc := by
  obtain ⟨ys, h1, h2⟩ := h.has
  obtain ⟨A, c, hv, hr⟩ := own_rl elTr.hf h1 (S := Btw 0 wr) (fun g h3 h4 => ⟨by omega, h4⟩)
  have hs := h.below.size
  have e : v = .slice A (List.length (α := Ex) ys) c := hv
  refine ⟨⟨A, acc.length, c⟩, by rw [e, h2.len]; rfl, rfl, rfl, ys, hr, h2.imp fun t y ht => ?_⟩
  exact Tr.at_.keep (fun b hb => ⟨cell_of_heap (h.below.block b (hS b hb)), Nat.zero_le _, Nat.lt_of_lt_of_le (hS b hb) hs⟩) _ _ ht
end
end Go.Proofs.YtcneefmaghoejaaGreatDoor
