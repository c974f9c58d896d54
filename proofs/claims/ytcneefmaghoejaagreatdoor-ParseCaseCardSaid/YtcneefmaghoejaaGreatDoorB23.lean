/- Parts of the proof: GfA. Put together by slim.py. -/
import Derived.Test.YtcneefmaghoejaaGreatDoorB18
import Derived.Test.YtcneefmaghoejaaGreatDoorB21
import Derived.Test.YtcneefmaghoejaaGreatDoorB22
namespace Go.Proofs.YtcneefmaghoejaaGreatDoor
open Go.ChangeShapes Go.WideShapes Go.ChangeAt Go.RowKit
set_option linter.unusedVariables false
set_option linter.unusedSimpArgs false
theorem gex_info3 : (Tryz.prog.info? 49).map (fun i => (i.zero, i.size, i.bytes)) = some (some (.agg ex0), 7, 88) := by kernel_rfl
set_option maxHeartbeats 4000000 in
set_option maxRecDepth 100000 in
theorem g_function (ρ : Rdr) (w : World) (l : Wds) (lg dp : Bool) (h : ρ.gat w l lg dp) (nm : ByteArray) (t0 : Wd) (h0 : (RSt.good (t0 :: l)).of ρ.ws) (IH : ∀ (l2 : Wds) (W : World), l2.length ≤ l.length → ρ.gat W l2 lg dp → Calls Tryz.prog 104 #[ρ.ptr] W (exPost ρ W lg dp (exprL 0) l2)) :
    Calls Tryz.prog 170 #[ρ.ptr, .string nm, .int .i64 ((ρ.n : Int) - ((l.length : Int) + 1))] w (exPost ρ w lg dp (fnP nm) l) := by
  obtain ⟨op, hv⟩ : ∃ op, (funOf nm).getD 0 = op := ⟨_, rfl⟩
  have hgg := h.lt_
  have hb := later_new w (.cells ex0 49)
  have hsz : (w.alloc (.cells ex0 49)).heap.size = w.heap.size + 1 := by simp
  have HQ := Lib.hid (Blk.new w 49 ex0)
  have HD := Lib.hid (GDid.of_later h hb)
  have HM := MapV.new (w.alloc (.cells ex0 49))
  have HG := grown_below (p := w.heap.size + 1) (later_new (w.alloc (.cells ex0 49)) (.map #[] 0))
  rw [hsz] at HM
  have hmm := @run_makeMap Tryz.prog
  clear h hb
  have hlen := h0.1.length_le
  unfold ex0 at HM HG hsz
  go_enter Tryz.func170, Tryz.ntmps170
  go_upto_region 1 with fail
  refine wp_region_lit ?_
  refine wpList_make_map rfl 107 rfl ?_
  rw [show (w.alloc _).heap.size = w.heap.size + 1 from hsz]
  refine wpList_put_v Tryz.underlying107 Tryz.underlying9 rfl _ _ _ rfl (w.heap.size + 1) rfl [98, 117, 99, 107, 101, 116] rfl (.int .u8 20) rfl HM (by decide) ?_
  clear HM
  intro wm HM HG'
  replace HG := grown_trans HG HG'
  clear HG'
  refine wpList_put_v Tryz.underlying107 Tryz.underlying9 rfl _ _ _ rfl (w.heap.size + 1) rfl [99, 111, 117, 110, 116] rfl (.int .u8 22) rfl HM (by decide) ?_
  clear HM
  intro wm HM HG'
  replace HG := grown_trans HG HG'
  clear HG'
  refine wpList_put_v Tryz.underlying107 Tryz.underlying9 rfl _ _ _ rfl (w.heap.size + 1) rfl [115, 117, 109] rfl (.int .u8 23) rfl HM (by decide) ?_
  clear HM
  intro wm HM HG'
  replace HG := grown_trans HG HG'
  clear HG'
  refine wpList_put_v Tryz.underlying107 Tryz.underlying9 rfl _ _ _ rfl (w.heap.size + 1) rfl [109, 105, 110] rfl (.int .u8 24) rfl HM (by decide) ?_
  clear HM
  intro wm HM HG'
  replace HG := grown_trans HG HG'
  clear HG'
  refine wpList_put_v Tryz.underlying107 Tryz.underlying9 rfl _ _ _ rfl (w.heap.size + 1) rfl [109, 97, 120] rfl (.int .u8 25) rfl HM (by decide) ?_
  clear HM
  intro wm HM HG'
  replace HG := grown_trans HG HG'
  clear HG'
  refine wpList_put_v Tryz.underlying107 Tryz.underlying9 rfl _ _ _ rfl (w.heap.size + 1) rfl [97, 118, 103] rfl (.int .u8 26) rfl HM (by decide) ?_
  clear HM
  intro wm HM HG'
  replace HG := grown_trans HG HG'
  clear HG'
  refine wpList_put_v Tryz.underlying107 Tryz.underlying9 rfl _ _ _ rfl (w.heap.size + 1) rfl [102, 105, 114, 115, 116] rfl (.int .u8 27) rfl HM (by decide) ?_
  clear HM
  intro wm HM HG'
  replace HG := grown_trans HG HG'
  clear HG'
  refine wpList_put_v Tryz.underlying107 Tryz.underlying9 rfl _ _ _ rfl (w.heap.size + 1) rfl [108, 97, 115, 116] rfl (.int .u8 28) rfl HM (by decide) ?_
  clear HM
  intro wm HM HG'
  replace HG := grown_trans HG HG'
  clear HG'
  have HMM := Lib.hid HM
  have HGG := Lib.hid HG
  clear HM HG hsz
  have HD1 := Lib.hid (HD.out.own hgg HGG.out (fun G e => by injection e with e; omega))
  have hqm := HQ.out.grown HGG.out (by simp)
  have hA1 : GCmp ρ w lg dp w.heap.size wm.heap.size (wm.alloc (.cells (exC (fx op 0)).toArray 49)) l (.mk op nilVal ByteArray.empty 0 []) (fx op 0) := ⟨HD1.out.later (later_new _ _), Blk.new wm _ _, hqm.alloc _, fx_at _ _ _ _⟩
  have HA1 := Lib.hid hA1
  have hqx : w.heap.size < wm.heap.size := hqm.lt
  have hgx : ρ.g < wm.heap.size := by omega
  clear hA1 HD1 HQ HD hqm HGG
  unfold exC fx nilY at HA1
  simp only [Act.put, List.setIfInBounds_toArray, List.set_cons_succ, List.set_cons_zero]
  go_upto_region 2 with (first
    | (refine wpList_look_v Tryz.underlying107 Tryz.underlying9 rfl _ _ rfl (w.heap.size + 1) rfl nm rfl (l := funM) HMM.out (z := .int .u8 0) Tryz.zeroValue5 ?_
       rw [fun_look nm, hv]))
  clear HMM hmm
  generalize wm.alloc _ = W1 at *
  generalize wm.heap.size = qx at *
  replace HA1 := Lib.hid (show GCmp ρ w lg dp w.heap.size qx W1 l (.mk op nilVal ByteArray.empty 0 []) (fx op 0) from HA1.out)
  cases hf : funOf nm with
  | none =>
    rw [hf] at hv
    have hv : 0 = op := hv
    subst hv
    have hA := HA1.out.did.at_
    have hbk := hA.back h0
    have hfl := hA.facts.2.2.2.2.1
    have hcl := hA.facts.2.1
    have HF := Lib.hid (gfail_any ρ _ (t0 :: l) lg dp hbk.at_)
    have HG := Lib.hid (grown_trans HA1.out.did.grown hbk.grown)
    obtain ⟨k0, k1, k2, k3, k4, k5, k6⟩ := ex_cells7 HA1.out.blk
    unfold fx at k0
    simp only at k0
    clear hA hbk HA1 k1 k2 k3 k4 k5 k6
    unfold Rdr.ptr at *
    go_wp2_with fail
    refine HF.out.mono ?_
    rintro e w3 ⟨rfl, hg⟩
    go_wp2_with fail
    exact body_panic rfl (exPost_err (n := l.length + 1) (fn_none hf) HG.out hg)
  | some o =>
    rw [hf] at hv
    have hv : o = op := hv
    subst hv
    obtain ⟨h1, h2, h3⟩ := fun_op hf
    by_cases h20 : o = 20
    · subst h20
      clear h1 h2 h3
      have HE1 := Lib.hid ((fn_some hf).trans (congrFun (fnp_20 (exprL 0)) l))
      obtain ⟨k0, k1, k2, k3, k4, k5, k6⟩ := ex_cells7 (HA1.out).blk
      obtain ⟨f0, f1, f2, f3, f4, f5, f6⟩ := ex_frozen7 (HA1.out).blk
      unfold fx at k0 k1 k2 k3 k4 k5 k6
      simp only at k0 k1 k2 k3 k4 k5 k6
      go_wp2_with fail
      refine (gnumber_any ρ W1 l lg dp HA1.out.did.at_).mono ?_
      intro e w2 hp
      rcases hp.cases with ⟨n, r2, v, hok, rfl, rfl, hn, d⟩ | ⟨m, herr, rfl, hg⟩
      case inr =>
        have HF := Lib.hid (HE1.out.trans (bind_errP herr))
        have HG := Lib.hid (HA1.out.did.grown)
        clear hp herr
        go_wp2_with fail
        exact body_panic rfl (exPost_err HF.out HG.out hg)
      have HE2 := Lib.hid (HE1.out.trans (bind_okP hok))
      have hl2 : r2.length ≤ l.length := Nat.le_trans (sane_num.len hok) (Nat.le_refl _)
      have hA0 := HA1.out.go d (by omega) (by omega)
      have HA2 := Lib.hid (hA0.setW (n := n) hgg (Nat.le_refl _) hqx)
      have HX0 := Lib.hid hA0
      obtain ⟨k0, k1, k2, k3, k4, k5, k6⟩ := ex_cells7 (HX0.out).blk
      obtain ⟨f0, f1, f2, f3, f4, f5, f6⟩ := ex_frozen7 (HX0.out).blk
      unfold fx at k0 k1 k2 k3 k4 k5 k6
      simp only at k0 k1 k2 k3 k4 k5 k6
      clear hp hok hA0 d HA1 HE1
      go_upto_region 7 with fail
      clear HX0
      clear k0 k1 k2 k3 k4 k5 k6 f0 f1 f2 f3 f4 f5 f6
      generalize w2.setCell _ _ = W2 at *
      have hb := later_new W2 (.cells (strsC [s_comma]) 9)
      have HB := Lib.hid (HA2.out.later hb)
      have hgl := HA2.out.did.lt
      have hm := gmust_any ρ _ _ lg dp HB.out.did.at_ [s_comma] W2.heap.size 1 rfl (Blk.new W2 _ _) (by omega) (by omega)
      clear hb
      unfold strsC strOf at hm HB
      simp only [List.map_cons, List.map_nil] at hm HB
      rw [show s_comma.toArray = #[44] from rfl] at hm HB
      go_wp2_with fail
      refine hm.mono ?_
      clear hm
      intro e w3 hp
      rcases hp.cases with ⟨_, r3, v, hok, rfl, rfl, d⟩ | ⟨m, herr, rfl, hg⟩
      case inr =>
        have HF := Lib.hid (HE2.out.trans (bind_errP (show must s_comma r2 = .error m by rw [← musts_one]; exact herr)))
        have HG := Lib.hid (HB.out.did.grown)
        clear hp herr
        go_wp2_with fail
        exact body_panic rfl (exPost_err HF.out HG.out hg)
      have hmt : must s_comma r2 = .ok ((), r3) := by rw [← musts_one]; exact hok
      have HE3 := Lib.hid (HE2.out.trans (bind_okP hmt))
      have hl3 : r3.length ≤ l.length := Nat.le_trans ((sane_must s_comma).len hmt) hl2
      have HA3 := Lib.hid (HB.out.go d (by omega) (by omega))
      clear hp hok hmt d HB HA2 HE2 hgl
      generalize hW3 : w3 = W3 at *
      clear hW3
      obtain ⟨k0, k1, k2, k3, k4, k5, k6⟩ := ex_cells7 (HA3.out).blk
      obtain ⟨f0, f1, f2, f3, f4, f5, f6⟩ := ex_frozen7 (HA3.out).blk
      unfold fx at k0 k1 k2 k3 k4 k5 k6
      simp only at k0 k1 k2 k3 k4 k5 k6
      go_wp2_with fail
      refine (IH r3 W3 hl3 HA3.out.did.at_).mono ?_
      intro e w4 hp
      rcases hp.cases with ⟨t4, r4, v, hok, rfl, y4, rfl, hat, d⟩ | ⟨m, herr, rfl, hg⟩
      case inr =>
        have HF := Lib.hid (HE3.out.trans (bind_errP herr))
        have HG := Lib.hid (HA3.out.did.grown)
        clear hp herr
        go_wp2_with fail
        exact body_panic rfl (exPost_err HF.out HG.out hg)
      clear k0 k1 k2 k3 k4 k5 k6 f0 f1 f2 f3 f4 f5 f6
      have HE4 := Lib.hid (HE3.out.trans (bind_okP hok))
      have hl4 : r4.length ≤ l.length := Nat.le_trans ((sane_exprL 0).len hok) hl3
      have hA0 := HA3.out.go d (by omega) (by omega)
      have HA4 := Lib.hid (hA0.args1 hgg (Nat.le_refl _) hqx HA3.out.blk.lt hat)
      have hxw := hA0.blk.lt
      have HX0 := Lib.hid hA0
      obtain ⟨k0, k1, k2, k3, k4, k5, k6⟩ := ex_cells7 (HX0.out).blk
      obtain ⟨f0, f1, f2, f3, f4, f5, f6⟩ := ex_frozen7 (HX0.out).blk
      unfold fx at k0 k1 k2 k3 k4 k5 k6
      simp only at k0 k1 k2 k3 k4 k5 k6
      clear hp hok hA0 d hat HA3 HE3
      unfold exV
      unfold exC at HA4 ⊢
      go_upto_region 15 with fail
      clear HX0 hxw
      clear k0 k1 k2 k3 k4 k5 k6 f0 f1 f2 f3 f4 f5 f6
      generalize (World.alloc _ _) = W4 at *
      generalize w4.heap.size = G4 at *
      replace HA4 := Lib.hid (show GCmp ρ w lg dp w.heap.size qx W4 r4 (.mk 20 nilVal ByteArray.empty n [t4]) (fx1 20 n G4) from HA4.out)
      have hb := later_new W4 (.cells (strsC [s_close]) 9)
      have HB := Lib.hid (HA4.out.later hb)
      have hgl := HA4.out.did.lt
      have hm := gmust_any ρ _ _ lg dp HB.out.did.at_ [s_close] W4.heap.size 1 rfl (Blk.new W4 _ _) (by omega) (by omega)
      clear hb
      unfold strsC strOf at hm HB
      simp only [List.map_cons, List.map_nil] at hm HB
      rw [show s_close.toArray = #[41] from rfl] at hm HB
      go_wp2_with fail
      refine hm.mono ?_
      clear hm
      intro e w5 hp
      rcases hp.cases with ⟨_, r5, v, hok, rfl, rfl, d⟩ | ⟨m, herr, rfl, hg⟩
      case inr =>
        have HF := Lib.hid (HE4.out.trans (bind_errP (show must s_close r4 = .error m by rw [← musts_one]; exact herr)))
        have HG := Lib.hid (HB.out.did.grown)
        clear hp herr
        go_wp2_with fail
        exact body_panic rfl (exPost_err HF.out HG.out hg)
      have hmt : must s_close r4 = .ok ((), r5) := by rw [← musts_one]; exact hok
      have HE5 := Lib.hid (HE4.out.trans (bind_okP hmt))
      have hl5 : r5.length ≤ l.length := Nat.le_trans ((sane_must s_close).len hmt) hl4
      have HA5 := Lib.hid (HB.out.go d (by omega) (by omega))
      clear hp hok hmt d HB HA4 HE4 hgl
      generalize hW5 : w5 = W5 at *
      clear hW5
      have HT := Lib.hid (Tr.at_.keep (bx_out (Nat.le_refl _)) _ _ HA5.out.tr)
      go_wp2_with (first
        | (refine wpList_load_row rfl 49 (.tmp 7) rfl qx rfl 49 (exC (fx1 20 n G4)).toArray (0, 0) _ HA5.out.blk Tryz.underlying49 rfl gex_info ?_)
        | (refine wpList_store_row rfl 49 (.tmp 6) (.tmp 70) rfl w.heap.size (exC (fx1 20 n G4)).toArray rfl rfl 49 ex0 HA5.out.res gex_info rfl (ex_oneC _) ?_
           have HR := Lib.hid (HA5.out.res.row (exC (fx1 20 n G4)).toArray)))
      refine bodyPost_ret (v := exV (fx1 20 n G4)) (results_cell_row Tryz.results170 _ _ w.heap.size 49 (exC (fx1 20 n G4)).toArray (0, 0) _ rfl HR.out Tryz.underlying49 rfl gex_info) rfl ?_
      exact exPost_put hgg HA5.out.did HT.out (HE5.out.trans rfl)
    by_cases h22 : o = 22
    · subst h22
      clear h1 h2 h3 h20
      cases hst : headIs s_star l
      · have HE1 := Lib.hid ((fn_some hf).trans (fnp_one (W := exprL 0) (l := l) (fun _ => hst) (by decide) (by decide) (by decide)))
        have hm := ghave_any ρ W1 l lg dp HA1.out.did.at_ ⟨#[42]⟩
        rw [show (⟨#[42]⟩ : ByteArray).data.toList = s_star from rfl, hst, after_no hst] at hm
        obtain ⟨k0, k1, k2, k3, k4, k5, k6⟩ := ex_cells7 (HA1.out).blk
        obtain ⟨f0, f1, f2, f3, f4, f5, f6⟩ := ex_frozen7 (HA1.out).blk
        unfold fx at k0 k1 k2 k3 k4 k5 k6
        simp only at k0 k1 k2 k3 k4 k5 k6
        go_wp2_with fail
        refine hm.mono ?_
        clear hm
        rintro e w2 ⟨rfl, d⟩
        have HE2 := HE1
        have HA2 := Lib.hid (HA1.out.go d (by omega) (by omega))
        clear d HA1 HE1
        clear k0 k1 k2 k3 k4 k5 k6 f0 f1 f2 f3 f4 f5 f6
        generalize hW2 : w2 = W2 at *
        clear hW2
        obtain ⟨k0, k1, k2, k3, k4, k5, k6⟩ := ex_cells7 (HA2.out).blk
        obtain ⟨f0, f1, f2, f3, f4, f5, f6⟩ := ex_frozen7 (HA2.out).blk
        unfold fx at k0 k1 k2 k3 k4 k5 k6
        simp only at k0 k1 k2 k3 k4 k5 k6
        go_wp2_with fail
        refine (IH l W2 (Nat.le_refl _) HA2.out.did.at_).mono ?_
        intro e w3 hp
        rcases hp.cases with ⟨t3, r3, v, hok, rfl, y3, rfl, hat, d⟩ | ⟨m, herr, rfl, hg⟩
        case inr =>
          have HF := Lib.hid (HE2.out.trans (bind_errP herr))
          have HG := Lib.hid (HA2.out.did.grown)
          clear hp herr
          go_wp2_with fail
          exact body_panic rfl (exPost_err HF.out HG.out hg)
        clear k0 k1 k2 k3 k4 k5 k6 f0 f1 f2 f3 f4 f5 f6
        have HE3 := Lib.hid (HE2.out.trans (bind_okP hok))
        have hl3 : r3.length ≤ l.length := Nat.le_trans ((sane_exprL 0).len hok) (Nat.le_refl _)
        have hA0 := HA2.out.go d (by omega) (by omega)
        have HA3 := Lib.hid (hA0.args1 hgg (Nat.le_refl _) hqx HA2.out.blk.lt hat)
        have hxw := hA0.blk.lt
        have HX0 := Lib.hid hA0
        obtain ⟨k0, k1, k2, k3, k4, k5, k6⟩ := ex_cells7 (HX0.out).blk
        obtain ⟨f0, f1, f2, f3, f4, f5, f6⟩ := ex_frozen7 (HX0.out).blk
        unfold fx at k0 k1 k2 k3 k4 k5 k6
        simp only at k0 k1 k2 k3 k4 k5 k6
        clear hp hok hA0 d hat HA2 HE2
        unfold exV
        unfold exC at HA3 ⊢
        go_upto_region 15 with fail
        clear HX0 hxw
        clear k0 k1 k2 k3 k4 k5 k6 f0 f1 f2 f3 f4 f5 f6
        generalize (World.alloc _ _) = W3 at *
        generalize w3.heap.size = G3 at *
        replace HA3 := Lib.hid (show GCmp ρ w lg dp w.heap.size qx W3 r3 (.mk 22 nilVal ByteArray.empty 0 [t3]) (fx1 22 0 G3) from HA3.out)
        have hb := later_new W3 (.cells (strsC [s_close]) 9)
        have HB := Lib.hid (HA3.out.later hb)
        have hgl := HA3.out.did.lt
        have hm := gmust_any ρ _ _ lg dp HB.out.did.at_ [s_close] W3.heap.size 1 rfl (Blk.new W3 _ _) (by omega) (by omega)
        clear hb
        unfold strsC strOf at hm HB
        simp only [List.map_cons, List.map_nil] at hm HB
        rw [show s_close.toArray = #[41] from rfl] at hm HB
        go_wp2_with fail
        refine hm.mono ?_
        clear hm
        intro e w4 hp
        rcases hp.cases with ⟨_, r4, v, hok, rfl, rfl, d⟩ | ⟨m, herr, rfl, hg⟩
        case inr =>
          have HF := Lib.hid (HE3.out.trans (bind_errP (show must s_close r3 = .error m by rw [← musts_one]; exact herr)))
          have HG := Lib.hid (HB.out.did.grown)
          clear hp herr
          go_wp2_with fail
          exact body_panic rfl (exPost_err HF.out HG.out hg)
        have hmt : must s_close r3 = .ok ((), r4) := by rw [← musts_one]; exact hok
        have HE4 := Lib.hid (HE3.out.trans (bind_okP hmt))
        have hl4 : r4.length ≤ l.length := Nat.le_trans ((sane_must s_close).len hmt) hl3
        have HA4 := Lib.hid (HB.out.go d (by omega) (by omega))
        clear hp hok hmt d HB HA3 HE3 hgl
        generalize hW4 : w4 = W4 at *
        clear hW4
        have HT := Lib.hid (Tr.at_.keep (bx_out (Nat.le_refl _)) _ _ HA4.out.tr)
        go_wp2_with (first
          | (refine wpList_load_row rfl 49 (.tmp 7) rfl qx rfl 49 (exC (fx1 22 0 G3)).toArray (0, 0) _ HA4.out.blk Tryz.underlying49 rfl gex_info ?_)
          | (refine wpList_store_row rfl 49 (.tmp 6) (.tmp 70) rfl w.heap.size (exC (fx1 22 0 G3)).toArray rfl rfl 49 ex0 HA4.out.res gex_info rfl (ex_oneC _) ?_
             have HR := Lib.hid (HA4.out.res.row (exC (fx1 22 0 G3)).toArray)))
        refine bodyPost_ret (v := exV (fx1 22 0 G3)) (results_cell_row Tryz.results170 _ _ w.heap.size 49 (exC (fx1 22 0 G3)).toArray (0, 0) _ rfl HR.out Tryz.underlying49 rfl gex_info) rfl ?_
        exact exPost_put hgg HA4.out.did HT.out (HE4.out.trans rfl)
      · have HE1 := Lib.hid ((fn_some hf).trans (fnp_star hst))
        have hm := ghave_any ρ W1 l lg dp HA1.out.did.at_ ⟨#[42]⟩
        rw [show (⟨#[42]⟩ : ByteArray).data.toList = s_star from rfl, hst, after_yes hst] at hm
        obtain ⟨k0, k1, k2, k3, k4, k5, k6⟩ := ex_cells7 (HA1.out).blk
        obtain ⟨f0, f1, f2, f3, f4, f5, f6⟩ := ex_frozen7 (HA1.out).blk
        unfold fx at k0 k1 k2 k3 k4 k5 k6
        simp only at k0 k1 k2 k3 k4 k5 k6
        go_wp2_with fail
        refine hm.mono ?_
        clear hm
        rintro e w2 ⟨rfl, d⟩
        have HE2 := HE1
        have HA2 := Lib.hid (HA1.out.go d (by omega) (by omega))
        have hl2 : l.tail.length ≤ l.length := by simp
        clear d HA1 HE1
        clear k0 k1 k2 k3 k4 k5 k6 f0 f1 f2 f3 f4 f5 f6
        generalize hW2 : w2 = W2 at *
        clear hW2
        have hb := later_new W2 (.cells (strsC [s_close]) 9)
        have HB := Lib.hid (HA2.out.later hb)
        have hgl := HA2.out.did.lt
        have hm := gmust_any ρ _ _ lg dp HB.out.did.at_ [s_close] W2.heap.size 1 rfl (Blk.new W2 _ _) (by omega) (by omega)
        clear hb
        unfold strsC strOf at hm HB
        simp only [List.map_cons, List.map_nil] at hm HB
        rw [show s_close.toArray = #[41] from rfl] at hm HB
        go_wp2_with fail
        refine hm.mono ?_
        clear hm
        intro e w3 hp
        rcases hp.cases with ⟨_, r3, v, hok, rfl, rfl, d⟩ | ⟨m, herr, rfl, hg⟩
        case inr =>
          have HF := Lib.hid (HE2.out.trans (bind_errP (show must s_close l.tail = .error m by rw [← musts_one]; exact herr)))
          have HG := Lib.hid (HB.out.did.grown)
          clear hp herr
          go_wp2_with fail
          exact body_panic rfl (exPost_err HF.out HG.out hg)
        have hmt : must s_close l.tail = .ok ((), r3) := by rw [← musts_one]; exact hok
        have HE3 := Lib.hid (HE2.out.trans (bind_okP hmt))
        have hl3 : r3.length ≤ l.length := Nat.le_trans ((sane_must s_close).len hmt) hl2
        have HA3 := Lib.hid (HB.out.go d (by omega) (by omega))
        clear hp hok hmt d HB HA2 HE2 hgl
        generalize hW3 : w3 = W3 at *
        clear hW3
        go_wp2_with (first
          | (refine wpList_store_row rfl 49 (.tmp 6) (.tmp 44) rfl w.heap.size (exC (fx 21 0)).toArray rfl rfl 49 ex0 HA3.out.res gex_info rfl (ex_oneC _) ?_
             have HR := Lib.hid (HA3.out.res.row (exC (fx 21 0)).toArray)))
        refine bodyPost_ret (v := exV (fx 21 0)) (results_cell_row Tryz.results170 _ _ w.heap.size 49 (exC (fx 21 0)).toArray (0, 0) _ rfl HR.out Tryz.underlying49 rfl gex_info) rfl ?_
        exact exPost_put hgg HA3.out.did (fx_at _ _ 21 0) (HE3.out.trans rfl)
    by_cases h27 : o = 27 ∨ o = 28
    · have b0 : (o == 0) = false := by rw [beq_eq_false_iff_ne]; omega
      have b20 : (o == 20) = false := by rw [beq_eq_false_iff_ne]; omega
      have b22 : (o == 22) = false := by rw [beq_eq_false_iff_ne]; omega
      have H2 := Lib.hid h27
      have hb : (o == 27) = true ∨ ((o == 27) = false ∧ (o == 28) = true) := by
        rcases h27 with h | h
        · left; rw [beq_iff_eq]; exact h
        · right; rw [beq_eq_false_iff_ne, beq_iff_eq]; omega
      clear h1 h2 h3 h20 h22 h27
      rcases hb with b27 | ⟨b27, b28⟩
      all_goals
        have HE1 := Lib.hid ((fn_some hf).trans (congrFun (fnp_two (W := exprL 0) (op := o) H2.out) l))
        obtain ⟨k0, k1, k2, k3, k4, k5, k6⟩ := ex_cells7 (HA1.out).blk
        obtain ⟨f0, f1, f2, f3, f4, f5, f6⟩ := ex_frozen7 (HA1.out).blk
        unfold fx at k0 k1 k2 k3 k4 k5 k6
        simp only at k0 k1 k2 k3 k4 k5 k6
        go_wp2_with fail
        refine (IH l W1 (Nat.le_refl _) HA1.out.did.at_).mono ?_
        intro e w2 hp
        rcases hp.cases with ⟨t2, r2, v, hok, rfl, y2, rfl, hat, d⟩ | ⟨m, herr, rfl, hg⟩
        case inr =>
          have HF := Lib.hid (HE1.out.trans (bind_errP herr))
          have HG := Lib.hid (HA1.out.did.grown)
          clear hp herr
          go_wp2_with fail
          exact body_panic rfl (exPost_err HF.out HG.out hg)
        clear k0 k1 k2 k3 k4 k5 k6 f0 f1 f2 f3 f4 f5 f6
        have HE2 := Lib.hid (HE1.out.trans (bind_okP hok))
        have hl2 : r2.length ≤ l.length := Nat.le_trans ((sane_exprL 0).len hok) (Nat.le_refl _)
        have hA0 := HA1.out.go d (by omega) (by omega)
        have HA2 := Lib.hid (hA0.args1 hgg (Nat.le_refl _) hqx HA1.out.blk.lt hat)
        have HK2 := Lib.hid (hA0.args1k hqx HA1.out.blk.lt hat)
        have hxw := hA0.blk.lt
        have HX0 := Lib.hid hA0
        obtain ⟨k0, k1, k2, k3, k4, k5, k6⟩ := ex_cells7 (HX0.out).blk
        obtain ⟨f0, f1, f2, f3, f4, f5, f6⟩ := ex_frozen7 (HX0.out).blk
        unfold fx at k0 k1 k2 k3 k4 k5 k6
        simp only at k0 k1 k2 k3 k4 k5 k6
        clear hp hok hA0 d hat HA1 HE1
        unfold exV
        unfold exC at HA2 HK2 ⊢
        go_upto_region 13 with fail
        clear HX0 hxw
        clear k0 k1 k2 k3 k4 k5 k6 f0 f1 f2 f3 f4 f5 f6
        generalize (World.alloc _ _) = W2 at *
        generalize w2.heap.size = G2 at *
        replace HA2 := Lib.hid (show GCmp ρ w lg dp w.heap.size qx W2 r2 (.mk o nilVal ByteArray.empty 0 [t2]) (fx1 o 0 G2) from HA2.out)
        replace HK2 := Lib.hid (show K2 W2 G2 qx t2 y2 from HK2.out)
        have hb := later_new W2 (.cells (strsC [s_comma]) 9)
        have HB := Lib.hid (HA2.out.later hb)
        have hgl := HA2.out.did.lt
        have hm := gmust_any ρ _ _ lg dp HB.out.did.at_ [s_comma] W2.heap.size 1 rfl (Blk.new W2 _ _) (by omega) (by omega)
        have HKB := Lib.hid (HK2.out.later hb)
        clear HK2
        clear hb
        unfold strsC strOf at hm HB HKB
        simp only [List.map_cons, List.map_nil] at hm HB HKB
        rw [show s_comma.toArray = #[44] from rfl] at hm HB HKB
        go_wp2_with fail
        refine hm.mono ?_
        clear hm
        intro e w3 hp
        rcases hp.cases with ⟨_, r3, v, hok, rfl, rfl, d⟩ | ⟨m, herr, rfl, hg⟩
        case inr =>
          have HF := Lib.hid (HE2.out.trans (bind_errP (show must s_comma r2 = .error m by rw [← musts_one]; exact herr)))
          have HG := Lib.hid (HB.out.did.grown)
          clear hp herr
          go_wp2_with fail
          exact body_panic rfl (exPost_err HF.out HG.out hg)
        have hmt : must s_comma r2 = .ok ((), r3) := by rw [← musts_one]; exact hok
        have HE3 := Lib.hid (HE2.out.trans (bind_okP hmt))
        have hl3 : r3.length ≤ l.length := Nat.le_trans ((sane_must s_comma).len hmt) hl2
        have HA3 := Lib.hid (HB.out.go d (by omega) (by omega))
        have HK3 := Lib.hid (HKB.out.go d (by omega))
        clear HKB
        clear hp hok hmt d HB HA2 HE2 hgl
        generalize hW3 : w3 = W3 at *
        clear hW3
        have HC := Lib.hid (show W3.cell? ⟨qx, 6, none⟩ = some (.slice (some ⟨G2, 0, none⟩) 1 1) from HA3.out.blk.cell 6)
        cases ho2 : exprL 0 r3 with
        | error m =>
          have HO2 := Lib.hid ho2
          clear ho2
          go_wp2_with fail
          refine region_push8_panic (P := Tryz.prog) (H := fun W => W.cell? ⟨qx, 6, none⟩ = some (.slice (some ⟨G2, 0, none⟩) 1 1)) (E := fun C W => C = [faultE (ρ.placeOf m)] ∧ w.grownBy W (some ρ.g)) (w0 := W3) (s0 := 7) (s1 := 0) (d0 := 60) (d1 := 61) (d2 := 62) (d3 := 63) (d4 := 64) (d5 := 65) (d6 := 66) (vs0 := .pointer (some ⟨qx, 0, none⟩)) (vs1 := ρ.ptr) (u0 := .pointer (some ⟨qx, 6, none⟩)) (u1 := .slice (some ⟨G2, 0, none⟩) 1 1) (u2 := ρ.ptr) (F := 104) (args := #[ρ.ptr]) (by kernel_rfl) (by kernel_rfl) (by kernel_rfl) (by kernel_rfl) rfl rfl HC.out (fun w' w'' hh hl => (hl.cell (cell_lt hh)).trans hh) ?_ ?_ ?_ ?_ (by kernel_rfl) ?_ ?_
          · intro ρ' w' hH hc h'; simp [go_sem, h']
          · intro ρ' w' hH hc h'; simp [go_sem, h', hH]
          · intro ρ' w' hH hc h'; simp [go_sem, h']
          · intro ρ' w' hc h'; simp [go_sem, h', hc.const, hc.func]
          · intro w' hw'
            refine (IH r3 w' hl3 (HA3.out.did.at_.later hw')).mono ?_
            intro e w'' hp
            rcases hp.cases with ⟨t3, r3, v, hok, _⟩ | ⟨m', herr, rfl, hg⟩
            · rw [HO2.out] at hok; cases hok
            · rw [HO2.out] at herr
              injection herr with herr
              subst herr
              exact ⟨_, rfl, rfl, grown_trans (HA3.out.did.later hw').grown hg⟩
          · rintro C a W hd ⟨rfl, hg⟩
            have hE := exPost_err (lg := lg) (dp := dp) (HE3.out.trans (bind_errP HO2.out)) (grown_below (Below.refl _ _)) hg
            simp only [Exit.inBlock, Exit.then]
            exact body_panic (P := Tryz.prog) (fn := Tryz.f170) hd hE
        | ok x =>
          obtain ⟨t9, r9⟩ := x
          have HO2 := Lib.hid ho2
          clear ho2
          have HK := HK3.out
          go_wp2_with fail
          refine region_push (P := Tryz.prog) (f := exC) (val := exV) (e := 49) (size := 7) (base := G2) (l := [y2]) (lv := .slice (some ⟨G2, 0, none⟩) 1 1) (Post := fun z W W' => t9.at_ W' (Btw W.heap.size W') z ∧ GDid ρ W W' r9 lg dp) (w0 := W3) (q := 7) (d0 := 60) (d1 := 61) (d2 := 62) (d3 := 63) (d4 := 64) (d5 := 65) (d6 := 66) (qb := qx) (k := 6) (g := ρ.g) (pq := .pointer (some ⟨qx, 0, none⟩)) (ptr := ρ.ptr) (F := 104) (args := #[ρ.ptr]) 25 25 _ 88 (by kernel_rfl) (by kernel_rfl) (by kernel_rfl) (by kernel_rfl) (by kernel_rfl) rfl rfl ?_ ?_ ?_ ?_ ?_ ?_ ?_ Tryz.underlying25 gex_info3 rfl (by omega) (fun _ => rfl) (by intro y u hu; simp [exC] at hu; rcases hu with rfl | rfl | rfl | rfl | rfl | rfl | rfl <;> rfl) (own_blk (fun _ => rfl) HK.blk (Nat.le_refl _)) HC.out (by omega) ?_ ?_ (by simp) (by simp) (Nat.le_of_lt HK.blk.lt) ?_ ?_ ?_
          · intro ρ' w' h'; simp [go_sem, h']
          · intro ρ' w' h'; simp [go_sem, h']
          · intro ρ' w' h' hc'; simp [go_sem, h', hc']
          · intro ρ' w' h'; simp [go_sem, h']
          · intro ρ' w' hc' h'; simp [go_sem, h', hc'.const, hc'.func]
          · intro ρ' w' y' h'; simp [go_sem, h', exV, exC]
          · intro ρ' w' s' v' w2' h1' h2' hr'; simp only [execOp, resolve, invoke, builtin, Sem.run_bind, Sem.run_pure, Result.andThen_ok, List.map_toArray, List.map_cons, List.map_nil, h1', h2', hr']
          · have := HK.lt; simp [Value.ownBlock]; omega
          · have := HK.lt; simp [Value.ownBlock]; omega
          · intro w' hw'
            refine (IH r3 w' hl3 (HA3.out.did.at_.later hw')).mono ?_
            intro e w'' hp
            rcases hp.cases with ⟨t3, r3, v, hok, rfl, z, rfl, hat, d2⟩ | ⟨m, herr, _⟩
            · rw [HO2.out] at hok
              injection hok with hok
              injection hok with h1 h2
              subst h1 h2
              exact ⟨z, rfl, hat, d2⟩
            · rw [HO2.out] at herr; cases herr
          · rintro z w' w'' ⟨_, dd⟩
            exact dd.grown
          intro z s v' V1 V1' V2 V3 hl1 ⟨ht9, d9⟩ hl2 ho2 hgw hov hov0 hcl
          have hgG := HK.lt
          obtain ⟨A9, c9, hvv, hrl⟩ := own_rl ex_len hov (S := Btw (qx + 1) V3) (fun g h1 h2 => ⟨by omega, h2⟩)
          have hvv : v' = .slice A9 2 c9 := hvv
          subst hvv
          have hgw : V2.grownBy V3 (some G2) := hgw
          have hz1 : W3.heap.size ≤ V1.heap.size := hl1.size
          have hz2 := d9.size
          have hz3 : V1'.heap.size ≤ V2.heap.size := hl2.size
          have hgl := HK.blk.lt
          have D9 := (((HA3.out.did.later hl1).trans d9).later hl2).own hgg hgw (fun g h => by injection h with h; omega)
          have hX9 := (((HA3.out.blk.later hl1).grown d9.grown (by simp; omega)).later hl2).grown hgw (by simp; omega)
          have hR9 := (((HA3.out.res.later hl1).grown d9.grown (by simp; omega)).later hl2).grown hgw (by simp; omega)
          have ht1 := Tr.at_.keep (btw_own hgw G2 (fun g h => by injection h with h; exact h.symm)) _ _ (Tr.at_.keep (bx_later hl2) _ _ (Tr.at_.keep (bx_grown d9.grown (by omega)) _ _ (Tr.at_.keep (bx_later hl1) _ _ HK.tr)))
          have ht2B : Tr.at_ _ _ t9 z := Tr.at_.keep (fun b hb => ⟨fun _ => rfl, (⟨by have := hb.1; omega, hb.2, by have := hb.1; omega⟩ : Bx (qx + 1) G2 V2 b)⟩) t9 z (ht9.later hl2)
          have ht2 := Tr.at_.keep (btw_own hgw G2 (fun g h => by injection h with h; exact h.symm)) _ _ ht2B
          have HA9 := Lib.hid (GCmp.args2 (c := c9) D9 hX9 hR9 hgg (Nat.le_refl _) hqx hrl (Tr.at_.keep (bx_out (Nat.le_refl _)) _ _ ht1) (Tr.at_.keep (bx_out (Nat.le_refl _)) _ _ ht2))
          have HE9 := Lib.hid (HE3.out.trans (bind_okP HO2.out))
          have hl9 : r9.length ≤ l.length := Nat.le_trans ((sane_exprL 0).len HO2.out) hl3
          have hf9 := hX9.frozen 6
          clear hl1 ht9 d9 hl2 ho2 hgw hov hov0 hrl hz1 hz2 hz3 D9 hX9 hR9 ht1 ht2B ht2 HA3 HE3 HC HK HK3 hgl hgG
          simp only [Act.put, List.setIfInBounds_toArray, List.set_cons_succ, List.set_cons_zero]
          go_upto_region 15 with fail
          clear hcl hf9
          generalize (V3.setCell _ _) = W9 at *
          have hb := later_new W9 (.cells (strsC [s_close]) 9)
          have HB := Lib.hid (HA9.out.later hb)
          have hgl := HA9.out.did.lt
          have hm := gmust_any ρ _ _ lg dp HB.out.did.at_ [s_close] W9.heap.size 1 rfl (Blk.new W9 _ _) (by omega) (by omega)
          clear hb
          unfold strsC strOf at hm HB
          simp only [List.map_cons, List.map_nil] at hm HB
          rw [show s_close.toArray = #[41] from rfl] at hm HB
          go_wp2_with fail
          refine hm.mono ?_
          clear hm
          intro e w10 hp
          rcases hp.cases with ⟨_, r10, v, hok, rfl, rfl, d⟩ | ⟨m, herr, rfl, hg⟩
          case inr =>
            have HF := Lib.hid (HE9.out.trans (bind_errP (show must s_close r9 = .error m by rw [← musts_one]; exact herr)))
            have HG := Lib.hid (HB.out.did.grown)
            clear hp herr
            go_wp2_with fail
            exact body_panic rfl (exPost_err HF.out HG.out hg)
          have hmt : must s_close r9 = .ok ((), r10) := by rw [← musts_one]; exact hok
          have HE10 := Lib.hid (HE9.out.trans (bind_okP hmt))
          have hl10 : r10.length ≤ l.length := Nat.le_trans ((sane_must s_close).len hmt) hl9
          have HA10 := Lib.hid (HB.out.go d (by omega) (by omega))
          clear hp hok hmt d HB HA9 HE9 hgl
          generalize hW10 : w10 = W10 at *
          clear hW10
          have HT := Lib.hid (Tr.at_.keep (bx_out (Nat.le_refl _)) _ _ HA10.out.tr)
          go_wp2_with (first
            | (refine wpList_load_row rfl 49 (.tmp 7) rfl qx rfl 49 (exC (⟨o, nilY, ⟨#[]⟩, 0, A9, 2, c9⟩)).toArray (0, 0) _ HA10.out.blk Tryz.underlying49 rfl gex_info ?_)
            | (refine wpList_store_row rfl 49 (.tmp 6) (.tmp 70) rfl w.heap.size (exC (⟨o, nilY, ⟨#[]⟩, 0, A9, 2, c9⟩)).toArray rfl rfl 49 ex0 HA10.out.res gex_info rfl (ex_oneC _) ?_
               have HR := Lib.hid (HA10.out.res.row (exC (⟨o, nilY, ⟨#[]⟩, 0, A9, 2, c9⟩)).toArray)))
          refine bodyPost_ret (v := exV (⟨o, nilY, ⟨#[]⟩, 0, A9, 2, c9⟩)) (results_cell_row Tryz.results170 _ _ w.heap.size 49 (exC (⟨o, nilY, ⟨#[]⟩, 0, A9, 2, c9⟩)).toArray (0, 0) _ rfl HR.out Tryz.underlying49 rfl gex_info) rfl ?_
          exact exPost_put hgg HA10.out.did HT.out (HE10.out.trans rfl)
    have h28 : o ≠ 28 := fun h => h27 (.inr h)
    replace h27 : o ≠ 27 := fun h => h27 (.inl h)
    have HE1 := Lib.hid ((fn_some hf).trans (fnp_one (W := exprL 0) (l := l) (fun h => absurd h h22) h20 h27 h28))
    have b0 : (o == 0) = false := by rw [beq_eq_false_iff_ne]; omega
    have b20 : (o == 20) = false := by rw [beq_eq_false_iff_ne]; omega
    have b22 : (o == 22) = false := by rw [beq_eq_false_iff_ne]; omega
    have b27 : (o == 27) = false := by rw [beq_eq_false_iff_ne]; omega
    have b28 : (o == 28) = false := by rw [beq_eq_false_iff_ne]; omega
    obtain ⟨k0, k1, k2, k3, k4, k5, k6⟩ := ex_cells7 (HA1.out).blk
    obtain ⟨f0, f1, f2, f3, f4, f5, f6⟩ := ex_frozen7 (HA1.out).blk
    unfold fx at k0 k1 k2 k3 k4 k5 k6
    simp only at k0 k1 k2 k3 k4 k5 k6
    go_wp2_with fail
    refine (IH l W1 (Nat.le_refl _) HA1.out.did.at_).mono ?_
    intro e w2 hp
    rcases hp.cases with ⟨t2, r2, v, hok, rfl, y2, rfl, hat, d⟩ | ⟨m, herr, rfl, hg⟩
    case inr =>
      have HF := Lib.hid (HE1.out.trans (bind_errP herr))
      have HG := Lib.hid (HA1.out.did.grown)
      clear hp herr
      go_wp2_with fail
      exact body_panic rfl (exPost_err HF.out HG.out hg)
    clear k0 k1 k2 k3 k4 k5 k6 f0 f1 f2 f3 f4 f5 f6
    have HE2 := Lib.hid (HE1.out.trans (bind_okP hok))
    have hl2 : r2.length ≤ l.length := Nat.le_trans ((sane_exprL 0).len hok) (Nat.le_refl _)
    have hA0 := HA1.out.go d (by omega) (by omega)
    have HA2 := Lib.hid (hA0.args1 hgg (Nat.le_refl _) hqx HA1.out.blk.lt hat)
    have hxw := hA0.blk.lt
    have HX0 := Lib.hid hA0
    obtain ⟨k0, k1, k2, k3, k4, k5, k6⟩ := ex_cells7 (HX0.out).blk
    obtain ⟨f0, f1, f2, f3, f4, f5, f6⟩ := ex_frozen7 (HX0.out).blk
    unfold fx at k0 k1 k2 k3 k4 k5 k6
    simp only at k0 k1 k2 k3 k4 k5 k6
    clear hp hok hA0 d hat HA1 HE1
    unfold exV
    unfold exC at HA2 ⊢
    go_upto_region 15 with fail
    clear HX0 hxw
    clear k0 k1 k2 k3 k4 k5 k6 f0 f1 f2 f3 f4 f5 f6
    generalize (World.alloc _ _) = W2 at *
    generalize w2.heap.size = G2 at *
    replace HA2 := Lib.hid (show GCmp ρ w lg dp w.heap.size qx W2 r2 (.mk o nilVal ByteArray.empty 0 [t2]) (fx1 o 0 G2) from HA2.out)
    have hb := later_new W2 (.cells (strsC [s_close]) 9)
    have HB := Lib.hid (HA2.out.later hb)
    have hgl := HA2.out.did.lt
    have hm := gmust_any ρ _ _ lg dp HB.out.did.at_ [s_close] W2.heap.size 1 rfl (Blk.new W2 _ _) (by omega) (by omega)
    clear hb
    unfold strsC strOf at hm HB
    simp only [List.map_cons, List.map_nil] at hm HB
    rw [show s_close.toArray = #[41] from rfl] at hm HB
    go_wp2_with fail
    refine hm.mono ?_
    clear hm
    intro e w3 hp
    rcases hp.cases with ⟨_, r3, v, hok, rfl, rfl, d⟩ | ⟨m, herr, rfl, hg⟩
    case inr =>
      have HF := Lib.hid (HE2.out.trans (bind_errP (show must s_close r2 = .error m by rw [← musts_one]; exact herr)))
      have HG := Lib.hid (HB.out.did.grown)
      clear hp herr
      go_wp2_with fail
      exact body_panic rfl (exPost_err HF.out HG.out hg)
    have hmt : must s_close r2 = .ok ((), r3) := by rw [← musts_one]; exact hok
    have HE3 := Lib.hid (HE2.out.trans (bind_okP hmt))
    have hl3 : r3.length ≤ l.length := Nat.le_trans ((sane_must s_close).len hmt) hl2
    have HA3 := Lib.hid (HB.out.go d (by omega) (by omega))
    clear hp hok hmt d HB HA2 HE2 hgl
    generalize hW3 : w3 = W3 at *
    clear hW3
    have HT := Lib.hid (Tr.at_.keep (bx_out (Nat.le_refl _)) _ _ HA3.out.tr)
    go_wp2_with (first
      | (refine wpList_load_row rfl 49 (.tmp 7) rfl qx rfl 49 (exC (fx1 o 0 G2)).toArray (0, 0) _ HA3.out.blk Tryz.underlying49 rfl gex_info ?_)
      | (refine wpList_store_row rfl 49 (.tmp 6) (.tmp 70) rfl w.heap.size (exC (fx1 o 0 G2)).toArray rfl rfl 49 ex0 HA3.out.res gex_info rfl (ex_oneC _) ?_
         have HR := Lib.hid (HA3.out.res.row (exC (fx1 o 0 G2)).toArray)))
    refine bodyPost_ret (v := exV (fx1 o 0 G2)) (results_cell_row Tryz.results170 _ _ w.heap.size 49 (exC (fx1 o 0 G2)).toArray (0, 0) _ rfl HR.out Tryz.underlying49 rfl gex_info) rfl ?_
    exact exPost_put hgg HA3.out.did HT.out (HE3.out.trans rfl)
end Go.Proofs.YtcneefmaghoejaaGreatDoor
