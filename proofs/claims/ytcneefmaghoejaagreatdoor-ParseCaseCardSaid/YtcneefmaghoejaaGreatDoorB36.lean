/- Parts of the proof: Gv5, Gv9. Put together by slim.py. -/
import Derived.Deep.DeepCutAuto
import Derived.Test.YtcneefmaghoejaaGreatDoorB32
import Derived.Test.YtcneefmaghoejaaGreatDoorB33
namespace Go.Proofs.YtcneefmaghoejaaGreatDoor
open Go.ChangeShapes Go.WideShapes Go.ChangeAt Go.RowKit
set_option linter.unusedVariables false
set_option linter.unusedSimpArgs false
theorem gval_info : (Tryz.prog.info? 33).map (·.size) = some 3 := by kernel_rfl
theorem gval_one (v : Val) : (valC v).toArray.all (·.oneCell') = true := by simp [valC, Value.oneCell']
def gendPost (ρ : Rdr) (w : World) (lg dp : Bool) (l : Wds) (e : Ending) (w' : World) : Prop :=
  GP ρ w endP l (fun v r u w' => u = .agg (valC v).toArray ∧ GDid ρ w w' r lg dp) e w'
theorem gend_null {l : Wds} (h : headIs w_null l = true) : endP l = .ok (nilVal, l.tail) := by
  unfold endP; rw [may_bind]; simp only [h, if_true]; rfl
theorem gend_num {l : Wds} (h : headIs w_null l = false) : endP l = (numP >>= fun n => (pure ⟨2, if headIs s_minus l then -n else n, ByteArray.empty⟩ : Ps Val)) (afterW s_minus l) := by
  unfold endP; rw [may_bind]; simp only [h]
  exact bind_okP (may_eq s_minus l)
set_option maxHeartbeats 4000000 in
set_option maxRecDepth 100000 in
theorem gend_any (ρ : Rdr) (w : World) (l : Wds) (lg dp : Bool) (h : ρ.gat w l lg dp) :
    Calls Tryz.prog 80 #[ρ.ptr] w (gendPost ρ w lg dp l) := by
  have hgg := h.lt_
  have b1 := later_new w (.cells #[.int .u8 0, .int .i64 0, .string ⟨#[]⟩] 33)
  have HQ := Lib.hid (Blk.new w 33 #[.int .u8 0, .int .i64 0, .string ⟨#[]⟩])
  have HD := Lib.hid (GDid.of_later h b1)
  have hm := ghave_any ρ _ l lg dp HD.out.at_ ⟨#[110, 117, 108, 108]⟩
  rw [show (⟨#[110, 117, 108, 108]⟩ : ByteArray).data.toList = w_null from rfl] at hm
  clear h b1
  cases hh : headIs w_null l
  · rw [hh, after_no hh] at hm
    have HE := Lib.hid (gend_num hh)
    clear hh
    go_enter Tryz.func80, Tryz.ntmps80
    go_wp2_with fail
    refine hm.mono ?_
    clear hm
    rintro e w1 ⟨rfl, d⟩
    have HD1 := Lib.hid (HD.out.trans d)
    have HQ1 := Lib.hid (d.blk HQ.out (by omega))
    clear d HD HQ
    have hm := ghave_any ρ w1 l lg dp HD1.out.at_ ⟨#[45]⟩
    rw [show (⟨#[45]⟩ : ByteArray).data.toList = s_minus from rfl] at hm
    go_wp2_with fail
    refine hm.mono ?_
    clear hm
    rintro e w2 ⟨rfl, d⟩
    have HD2 := Lib.hid (HD1.out.trans d)
    have HQ2 := Lib.hid (d.blk HQ1.out (by omega))
    clear d HD1 HQ1
    generalize headIs s_minus l = less at *
    generalize afterW s_minus l = l2 at *
    go_wp2_with fail
    refine (gnumber_any ρ w2 l2 lg dp HD2.out.at_).mono ?_
    intro e w3 hp
    rcases hp.cases with ⟨n, l3, v9, hok, rfl, rfl, ⟨hn0, hn1⟩, d⟩ | ⟨m, herr, rfl, hg⟩
    case inr =>
      have HF := Lib.hid (show endP l = .error m from HE.out.trans (bind_errP herr))
      have HG := Lib.hid HD2.out.grown
      clear hp herr
      go_wp2_with fail
      exact body_panic rfl (GP.err HF.out ⟨rfl, grown_trans HG.out hg⟩)
    have HE3 := Lib.hid (show endP l = .ok (⟨2, if less then -n else n, ByteArray.empty⟩, l3) from HE.out.trans ((bind_okP hok).trans rfl))
    have HD3 := Lib.hid (HD2.out.trans d)
    have HQ3 := Lib.hid (d.blk HQ2.out (by omega))
    clear hp hok d HD2 HQ2 HE
    cases less
    · have HX := Lib.hid (show endP l = .ok (⟨2, n, ByteArray.empty⟩, l3) from HE3.out)
      clear HE3
      go_wp2_with (first
        | (refine wpList_store_row rfl 33 (.tmp 2) (.tmp 16) rfl w.heap.size (valC ⟨2, n, ByteArray.empty⟩).toArray rfl rfl 33 #[.int .u8 0, .int .i64 0, .string ⟨#[]⟩] HQ3.out gval_info rfl (gval_one _) ?_
           have HR := Lib.hid (HQ3.out.row (valC ⟨2, n, ByteArray.empty⟩).toArray)))
      exact bodyPost_ret (v := .agg (valC ⟨2, n, ByteArray.empty⟩).toArray) (results_cell_row Tryz.results80 _ _ w.heap.size 33 (valC ⟨2, n, ByteArray.empty⟩).toArray (0, 0) _ rfl HR.out Tryz.underlying33 rfl gval_info) rfl
        (GP.ok HX.out ⟨rfl, HD3.out.own hgg (grown_row w3 _ _) (fun G e => by injection e with e; omega)⟩)
    · have HX := Lib.hid (show endP l = .ok (⟨2, -n, ByteArray.empty⟩, l3) from HE3.out)
      have hneg : IntKind.i64.wrap (-n) = -n := Go.IntWalk.i64_in _ (by omega)
      clear HE3
      go_wp2_with (first
        | (refine wpList_store_row rfl 33 (.tmp 2) (.tmp 16) rfl w.heap.size (valC ⟨2, -n, ByteArray.empty⟩).toArray rfl rfl 33 #[.int .u8 0, .int .i64 0, .string ⟨#[]⟩] HQ3.out gval_info rfl (gval_one _) ?_
           have HR := Lib.hid (HQ3.out.row (valC ⟨2, -n, ByteArray.empty⟩).toArray)))
      exact bodyPost_ret (v := .agg (valC ⟨2, -n, ByteArray.empty⟩).toArray) (results_cell_row Tryz.results80 _ _ w.heap.size 33 (valC ⟨2, -n, ByteArray.empty⟩).toArray (0, 0) _ rfl HR.out Tryz.underlying33 rfl gval_info) rfl
        (GP.ok HX.out ⟨rfl, HD3.out.own hgg (grown_row w3 _ _) (fun G e => by injection e with e; omega)⟩)
  · rw [hh, after_yes hh] at hm
    have HE := Lib.hid (gend_null hh)
    clear hh
    go_enter Tryz.func80, Tryz.ntmps80
    go_wp2_with fail
    refine hm.mono ?_
    clear hm
    rintro e w1 ⟨rfl, d⟩
    have HD1 := Lib.hid (HD.out.trans d)
    have HQ1 := Lib.hid (d.blk HQ.out (by omega))
    clear d HD HQ
    go_wp2_with (first
      | (refine wpList_store_row rfl 33 (.tmp 2) (.tmp 7) rfl w.heap.size (valC nilVal).toArray rfl rfl 33 #[.int .u8 0, .int .i64 0, .string ⟨#[]⟩] HQ1.out gval_info rfl (gval_one _) ?_
         have HR := Lib.hid (HQ1.out.row (valC nilVal).toArray)))
    exact bodyPost_ret (v := .agg (valC nilVal).toArray) (results_cell_row Tryz.results80 _ _ w.heap.size 33 (valC nilVal).toArray (0, 0) _ rfl HR.out Tryz.underlying33 rfl gval_info) rfl
      (GP.ok HE.out ⟨rfl, HD1.out.own hgg (grown_row w1 _ _) (fun G e => by injection e with e; omega)⟩)
end Go.Proofs.YtcneefmaghoejaaGreatDoor
namespace Go.Proofs.YtcneefmaghoejaaGreatDoor
open Go.ChangeShapes Go.WideShapes Go.ChangeAt Go.RowKit
set_option linter.unusedVariables false
set_option linter.unusedSimpArgs false
def callW (s : List UInt8) : Int := if s = w_refresh then 9 else if s = w_compress then 10 else if s = w_decompress then 11 else 12
def callM : List (List UInt8 × Value) := [([114, 101, 102, 114, 101, 115, 104], .int .u8 9), ([99, 111, 109, 112, 114, 101, 115, 115], .int .u8 10), ([100, 101, 99, 111, 109, 112, 114, 101, 115, 115], .int .u8 11), ([100, 114, 111, 112, 95, 99, 104, 117, 110, 107, 115], .int .u8 12)]
theorem call_look {s : List UInt8} (h : s ∈ [w_refresh, w_compress, w_decompress, w_drop_chunks]) : (callM.lookup (⟨s.toArray⟩ : ByteArray).data.toList).getD (.int .u8 0) = .int .u8 (callW s) := by
  simp only [List.mem_cons, List.not_mem_nil, or_false] at h
  rcases h with rfl | rfl | rfl | rfl <;> rfl
def kCal8 (k : Int) (name : ByteArray) (frm to_ : Val) : Ps St := return { kind := k, name, frm, to_ }
def kCal7 (k : Int) (name : ByteArray) (frm to_ : Val) : Ps St := must s_close >>= fun _ => kCal8 k name frm to_
def kCal6 (k : Int) (name : ByteArray) (frm : Val) : Ps St := endP >>= fun to_ => kCal7 k name frm to_
def kCalA (name : ByteArray) (frm : Val) : Ps St := must s_comma >>= fun _ => kCal6 9 name frm
def kCal5 (k : Int) (name : ByteArray) : Ps St := endFromP k >>= fun frm => kCal6 k name frm
def kCal4 (k : Int) (name : ByteArray) : Ps St := must s_comma >>= fun _ => kCal5 k name
def kCal3 (k : Int) : Ps St := nameP >>= fun name => kCal4 k name
def kCal2 (k : Int) : Ps St := must s_open >>= fun _ => kCal3 k
def kCal1 : Ps St := anyP [w_refresh, w_compress, w_decompress, w_drop_chunks] >>= fun s => kCal2 (callW s)
def gCalP : Ps St := must w_call >>= fun _ => kCal1
theorem call_9 (name : ByteArray) : kCal5 9 name = (endP >>= fun frm => kCalA name frm) := by
  unfold kCal5 endFromP
  rw [if_pos rfl]
  simp only [ps_assoc]
  rfl
theorem call_no {k : Int} (name : ByteArray) (h : ¬ k = 9) : kCal5 k name = kCal6 k name nilVal := by
  unfold kCal5 endFromP
  rw [if_neg h]
  rfl
theorem gcall_is : gCalP = (must w_call >>= fun _ => callP) := rfl
set_option maxHeartbeats 4000000 in
set_option maxRecDepth 100000 in
theorem gcall_any (ρ : Rdr) (w : World) (l : Wds) (lg dp : Bool) (h : ρ.gat w l lg dp) :
    Calls Tryz.prog 42 #[ρ.ptr] w (gstPost ρ w lg dp gCalP l) := by
  have hgg := h.lt_
  have b1 := later_new w (gstZ {})
  have HS := Lib.hid (show GSa ρ w w.heap.size [] lg dp (w.alloc (gstZ {})) l from ⟨GDid.of_later h b1, Blk.new w _ _, Nat.le_refl _, fun p hp => by simp at hp⟩)
  have HE := Lib.hid (show gCalP l = (must w_call >>= fun _ => kCal1) l from rfl)
  clear h b1
  go_enter Tryz.func42, Tryz.ntmps42
  go_upto_region 1 with fail
  change Code.wp _ _ _ _ (w.alloc (gstZ {}))
  generalize hW : (World.alloc _ _) = W0 at *
  clear hW
  have hqw : w.heap.size < W0.heap.size := HS.out.res.lt
  have hb := later_new W0 (.cells (strsC [w_call]) 9)
  have HB := Lib.hid (HS.out.later hb)
  have hq9 := HS.out.res.lt
  have hm := gmust_any ρ _ l _ _ HB.out.did.at_ [w_call] W0.heap.size 1 rfl (Blk.new W0 _ _) (by omega) (by omega)
  clear hb HS
  unfold strsC strOf at hm HB
  simp only [List.map_cons, List.map_nil] at hm HB
  rw [show w_call.toArray = #[99, 97, 108, 108] from rfl] at hm HB
  go_wp2_with fail
  refine hm.mono ?_
  clear hm
  intro e w1 hp
  rcases hp.cases with ⟨_, l2, v9, hok, rfl, rfl, d⟩ | ⟨m, herr, rfl, hg⟩
  case inr =>
    have HF := Lib.hid (show gCalP l = .error m from HE.out.trans (bind_errP (show must w_call l = .error m by rw [← musts_one]; exact herr)))
    have HG := Lib.hid HB.out.did.grown
    clear hp herr
    go_wp2_with fail
    exact body_panic rfl (GP.err HF.out ⟨rfl, grown_trans HG.out hg⟩)
  have HE9 := Lib.hid (show gCalP l = kCal1 l2 from HE.out.trans (bind_okP (show must w_call l = .ok ((), l2) by rw [← musts_one]; exact hok)))
  have HS := Lib.hid (HB.out.go hgg d)
  clear hp hok d HB HE hq9
  have HE := HE9
  clear HE9
  go_upto_region 2 with fail
  have HM := MapV.new w1
  have HG := grown_below (p := w1.heap.size) (later_new w1 (.map #[] 0))
  have hq1 := HS.out.res.lt
  refine wp_region_lit ?_
  refine wpList_make_map rfl 107 rfl ?_
  refine wpList_put_v Tryz.underlying107 Tryz.underlying9 rfl _ _ _ rfl w1.heap.size rfl [114, 101, 102, 114, 101, 115, 104] rfl (.int .u8 9) rfl HM (by decide) ?_
  clear HM
  intro wm HM HG'
  replace HG := grown_trans HG HG'
  clear HG'
  refine wpList_put_v Tryz.underlying107 Tryz.underlying9 rfl _ _ _ rfl w1.heap.size rfl [99, 111, 109, 112, 114, 101, 115, 115] rfl (.int .u8 10) rfl HM (by decide) ?_
  clear HM
  intro wm HM HG'
  replace HG := grown_trans HG HG'
  clear HG'
  refine wpList_put_v Tryz.underlying107 Tryz.underlying9 rfl _ _ _ rfl w1.heap.size rfl [100, 101, 99, 111, 109, 112, 114, 101, 115, 115] rfl (.int .u8 11) rfl HM (by decide) ?_
  clear HM
  intro wm HM HG'
  replace HG := grown_trans HG HG'
  clear HG'
  refine wpList_put_v Tryz.underlying107 Tryz.underlying9 rfl _ _ _ rfl w1.heap.size rfl [100, 114, 111, 112, 95, 99, 104, 117, 110, 107, 115] rfl (.int .u8 12) rfl HM (by decide) ?_
  clear HM
  intro wm HM HG'
  replace HG := grown_trans HG HG'
  clear HG'
  have HMM := Lib.hid (show MapV wm w1.heap.size callM from HM)
  have HS9 := Lib.hid (HS.out.ownG (w2 := wm) hgg HG (by omega) (by omega) (fun p hp => by simp at hp))
  have hgm : w1.heap.size < wm.heap.size := by
    have := HMM.out
    unfold MapV at this
    exact (Array.getElem?_eq_some_iff.mp this).1
  clear HM HG HS
  have hb := later_new wm (.cells (strsC [w_refresh, w_compress, w_decompress, w_drop_chunks]) 9)
  have HB := Lib.hid (HS9.out.later hb)
  have HMB := Lib.hid (show MapV (wm.alloc (.cells (strsC [w_refresh, w_compress, w_decompress, w_drop_chunks]) 9)) w1.heap.size callM from (hb.block _ hgm).trans HMM.out)
  have hq9 := HS9.out.res.lt
  have hm := gone_any ρ _ l2 _ _ HB.out.did.at_ [w_refresh, w_compress, w_decompress, w_drop_chunks] wm.heap.size 4 rfl (Blk.new wm _ _) (by omega) (by omega)
  clear hb HMM HS9
  unfold strsC strOf at hm HB HMB
  simp only [List.map_cons, List.map_nil] at hm HB HMB
  rw [show w_refresh.toArray = #[114, 101, 102, 114, 101, 115, 104] from rfl, show w_compress.toArray = #[99, 111, 109, 112, 114, 101, 115, 115] from rfl, show w_decompress.toArray = #[100, 101, 99, 111, 109, 112, 114, 101, 115, 115] from rfl, show w_drop_chunks.toArray = #[100, 114, 111, 112, 95, 99, 104, 117, 110, 107, 115] from rfl] at hm HB HMB
  simp only [Act.put, List.setIfInBounds_toArray, List.set_cons_succ, List.set_cons_zero]
  go_wp2_with fail
  refine hm.mono ?_
  clear hm
  intro e w8 hp
  rcases hp.cases with ⟨sx, l8, v9, hok, rfl, rfl, d⟩ | ⟨m, herr, rfl, hg⟩
  case inr =>
    have HF := Lib.hid (show gCalP l = .error m from HE.out.trans (bind_errP herr))
    have HG := Lib.hid HB.out.did.grown
    clear hp herr
    go_wp2_with fail
    exact body_panic rfl (GP.err HF.out ⟨rfl, grown_trans HG.out hg⟩)
  have hmem := any_mem hok
  have HE9 := Lib.hid (show gCalP l = kCal2 (callW sx) l8 from HE.out.trans (bind_okP hok))
  have HS := Lib.hid (HB.out.go hgg d)
  have HMX := Lib.hid (show MapV w8 w1.heap.size callM from (d.grown.block _ (by simp; omega) (by intro e; injection e with e; omega)).trans HMB.out)
  have HLK := Lib.hid (call_look hmem)
  clear hp hok d HB HE HMB hmem
  have HE := HE9
  clear HE9
  try unfold strOf
  go_upto_region 3 with (first
    | (refine wpList_look_v Tryz.underlying107 Tryz.underlying9 rfl _ _ rfl w1.heap.size rfl (⟨sx.toArray⟩ : ByteArray) rfl (l := callM) HMX.out (z := .int .u8 0) Tryz.zeroValue5 ?_
       rw [HLK.out]))
  clear HLK HMX
  generalize callW sx = kx at *
  have hb := later_new w8 (.cells (strsC [s_open]) 9)
  have HB := Lib.hid (HS.out.later hb)
  have hq9 := HS.out.res.lt
  have hm := gmust_any ρ _ l8 _ _ HB.out.did.at_ [s_open] w8.heap.size 1 rfl (Blk.new w8 _ _) (by omega) (by omega)
  clear hb HS
  unfold strsC strOf at hm HB
  simp only [List.map_cons, List.map_nil] at hm HB
  rw [show s_open.toArray = #[40] from rfl] at hm HB
  go_wp2_with fail
  refine hm.mono ?_
  clear hm
  intro e w3 hp
  rcases hp.cases with ⟨_, l4, v9, hok, rfl, rfl, d⟩ | ⟨m, herr, rfl, hg⟩
  case inr =>
    have HF := Lib.hid (show gCalP l = .error m from HE.out.trans (bind_errP (show must s_open l8 = .error m by rw [← musts_one]; exact herr)))
    have HG := Lib.hid HB.out.did.grown
    clear hp herr
    go_wp2_with fail
    exact body_panic rfl (GP.err HF.out ⟨rfl, grown_trans HG.out hg⟩)
  have HE9 := Lib.hid (show gCalP l = kCal3 kx l4 from HE.out.trans (bind_okP (show must s_open l8 = .ok ((), l4) by rw [← musts_one]; exact hok)))
  have HS := Lib.hid (HB.out.go hgg d)
  clear hp hok d HB HE hq9
  have HE := HE9
  clear HE9
  go_wp2_with fail
  refine (gname_any ρ w3 l4 _ _ HS.out.did.at_).mono ?_
  intro e w5 hp
  rcases hp.cases with ⟨nm, l6, v9, hok, rfl, rfl, d⟩ | ⟨m, herr, rfl, hg⟩
  case inr =>
    have HF := Lib.hid (show gCalP l = .error m from HE.out.trans (bind_errP herr))
    have HG := Lib.hid HS.out.did.grown
    clear hp herr
    go_wp2_with fail
    exact body_panic rfl (GP.err HF.out ⟨rfl, grown_trans HG.out hg⟩)
  have HE9 := Lib.hid (show gCalP l = kCal4 kx nm l6 from HE.out.trans (bind_okP hok))
  clear hp hok HE
  have HE := HE9
  clear HE9
  have hw9 := d.size
  have HS9 := Lib.hid (HS.out.go hgg d)
  have hbq := HS9.out.res.lt
  obtain ⟨cs, hcs⟩ : ∃ cs, cs = (stC { kind := kx, name := nm }).toArray := ⟨_, rfl⟩
  have HSZ := Lib.hid (show (Tryz.prog.info? 35).map (·.size) = some cs.size by rw [hcs]; exact gst_info)
  have HGS := Lib.hid (show gst0.size = cs.size by rw [hcs, gst_siz]; exact gst_siz _)
  have HON := Lib.hid (show cs.all (·.oneCell') = true by rw [hcs]; exact gst_one _)
  have HBU := Lib.hid (show Tryz.prog.built 35 [(0, .int .u8 kx), (1, .string nm)] = some cs by rw [hcs]; exact gst_built _ _)
  have HA := Lib.hid (show GSt ρ w (w.heap.size) [] lg dp w5.heap.size (w5.alloc (.cells cs 35)) l6 { kind := kx, name := nm } { kind := kx, name := nm } by
    rw [hcs]
    exact HS9.out.start (lg2 := lg) (dp2 := dp) { kind := kx, name := nm } { kind := kx, name := nm } (fun p hp => by simp at hp) (by simp [St.long, Qu.long]) (by simp [St.exprs, Qu.exprs, deepB]) (by simp [St.long, Qu.long]) (fun W S => { St.at_nil W S with kind := rfl, name := rfl }))
  clear d HS HS9 hcs
  go_upto_region 5 with (first
    | (refine gbuild_is rfl 35 _ rfl (cs := cs) ?hv ?_; rotate_left)
    | (refine wpList_store_row rfl 35 (.tmp 4) (.tmp 20) rfl w5.heap.size cs rfl rfl 35 gst0 (Blk.new w5 35 gst0) HSZ.out HGS.out HON.out ?_
       rw [alloc_row]))
  case hv => exact HBU.out
  generalize hb : w5.heap.size = b at *
  generalize hW : (World.alloc _ _) = WB at *
  clear hW hb hw9 HBU HON HGS HSZ
  have hb := later_new WB (.cells (strsC [s_comma]) 9)
  have HB := Lib.hid (HA.out.later hb)
  have hq9 := HA.out.blk.lt
  have hm := gmust_any ρ _ l6 _ _ HB.out.sa.did.at_ [s_comma] WB.heap.size 1 rfl (Blk.new WB _ _) (by omega) (by omega)
  clear hb HA
  unfold strsC strOf at hm HB
  simp only [List.map_cons, List.map_nil] at hm HB
  rw [show s_comma.toArray = #[44] from rfl] at hm HB
  go_wp2_with fail
  refine hm.mono ?_
  clear hm
  intro e w7 hp
  rcases hp.cases with ⟨_, l8, v9, hok, rfl, rfl, d⟩ | ⟨m, herr, rfl, hg⟩
  case inr =>
    have HF := Lib.hid (show gCalP l = .error m from HE.out.trans (bind_errP (show must s_comma l6 = .error m by rw [← musts_one]; exact herr)))
    have HG := Lib.hid HB.out.sa.did.grown
    clear hp herr
    go_wp2_with fail
    exact body_panic rfl (GP.err HF.out ⟨rfl, grown_trans HG.out hg⟩)
  have HE9 := Lib.hid (show gCalP l = kCal5 kx nm l8 from HE.out.trans (bind_okP (show must s_comma l6 = .ok ((), l8) by rw [← musts_one]; exact hok)))
  have HA := Lib.hid (HB.out.go hgg d)
  clear hp hok d HB HE hq9
  have HE := HE9
  clear HE9
  by_cases h9 : kx = 9
  · subst h9
    have HE9 := Lib.hid (show gCalP l = (endP >>= fun frm => kCalA nm frm) l8 from HE.out.trans (congrFun (call_9 nm) _))
    clear HE
    have HE := HE9
    clear HE9
    go_wp2_with fail
    refine (gend_any ρ w7 l8 _ _ HA.out.sa.did.at_).mono ?_
    intro e w9 hp
    rcases GP.cases hp with ⟨frm, l10, v9, hok, rfl, rfl, d⟩ | ⟨m, herr, rfl, hg⟩
    case inr =>
      have HF := Lib.hid (show gCalP l = .error m from HE.out.trans (bind_errP herr))
      have HG := Lib.hid HA.out.sa.did.grown
      clear hp herr
      go_wp2_with fail
      exact body_panic rfl (GP.err HF.out ⟨rfl, grown_trans HG.out hg⟩)
    have HE9 := Lib.hid (show gCalP l = kCalA nm frm l10 from HE.out.trans (bind_okP hok))
    clear hp hok HE
    have HE := HE9
    clear HE9
    obtain ⟨vk, vn, vs⟩ := frm
    have hX := d.blk HA.out.blk (by have := HA.out.qb; have := HA.out.sa.qw; omega)
    have x0 : w9.cell? ⟨b, 22, none⟩ = _ := hX.cell 22
    have f0 : w9.frozen? ⟨b, 22, none⟩ = _ := hX.frozen 22
    have x1 : w9.cell? ⟨b, 23, none⟩ = _ := hX.cell 23
    have f1 : w9.frozen? ⟨b, 23, none⟩ = _ := hX.frozen 23
    have x2 : w9.cell? ⟨b, 24, none⟩ = _ := hX.cell 24
    have f2 : w9.frozen? ⟨b, 24, none⟩ = _ := hX.frozen 24
    have hA1 := HA.out.set (m' := { kind := 9, name := nm, frm := ⟨vk, 0, ByteArray.empty⟩ }) (d' := { kind := 9, name := nm, frm := ⟨vk, 0, ByteArray.empty⟩ }) hgg d 22 (.int .u8 vk) rfl rfl rfl (fun hat => { hat with frm := rfl })
    have hA2 := hA1.set (m' := { kind := 9, name := nm, frm := ⟨vk, vn, ByteArray.empty⟩ }) (d' := { kind := 9, name := nm, frm := ⟨vk, vn, ByteArray.empty⟩ }) hgg (GDid.refl hA1.sa.did.at_) 23 (.int .i64 vn) rfl rfl rfl (fun hat => { hat with frm := rfl })
    have HA9 := Lib.hid (hA2.set (m' := { kind := 9, name := nm, frm := ⟨vk, vn, vs⟩ }) (d' := { kind := 9, name := nm, frm := ⟨vk, vn, vs⟩ }) hgg (GDid.refl hA2.sa.did.at_) 24 (.string vs) rfl rfl rfl (fun hat => { hat with frm := rfl }))
    clear hX d HA hA1 hA2
    have HA := HA9
    clear HA9
    unfold stC quC slC valC at x0 x1 x2
    unfold valC
    go_upto_region 8 with fail
    clear x0 x1 x2 f0 f1 f2
    generalize (World.setCell (World.setCell (World.setCell _ _ _) _ _) _ _) = WV11 at *
    obtain ⟨frm, hv9⟩ : ∃ v : Val, v = ⟨vk, vn, vs⟩ := ⟨_, rfl⟩
    rw [← hv9] at HA HE
    clear hv9
    have hb := later_new WV11 (.cells (strsC [s_comma]) 9)
    have HB := Lib.hid (HA.out.later hb)
    have hq9 := HA.out.blk.lt
    have hm := gmust_any ρ _ l10 _ _ HB.out.sa.did.at_ [s_comma] WV11.heap.size 1 rfl (Blk.new WV11 _ _) (by omega) (by omega)
    clear hb HA
    unfold strsC strOf at hm HB
    simp only [List.map_cons, List.map_nil] at hm HB
    rw [show s_comma.toArray = #[44] from rfl] at hm HB
    go_wp2_with fail
    refine hm.mono ?_
    clear hm
    intro e w12 hp
    rcases hp.cases with ⟨_, l13, v9, hok, rfl, rfl, d⟩ | ⟨m, herr, rfl, hg⟩
    case inr =>
      have HF := Lib.hid (show gCalP l = .error m from HE.out.trans (bind_errP (show must s_comma l10 = .error m by rw [← musts_one]; exact herr)))
      have HG := Lib.hid HB.out.sa.did.grown
      clear hp herr
      go_wp2_with fail
      exact body_panic rfl (GP.err HF.out ⟨rfl, grown_trans HG.out hg⟩)
    have HE9 := Lib.hid (show gCalP l = kCal6 9 nm frm l13 from HE.out.trans (bind_okP (show must s_comma l10 = .ok ((), l13) by rw [← musts_one]; exact hok)))
    have HA := Lib.hid (HB.out.go hgg d)
    clear hp hok d HB HE hq9
    have HE := HE9
    clear HE9
    go_wp2_with fail
    refine (gend_any ρ w12 l13 _ _ HA.out.sa.did.at_).mono ?_
    intro e w14 hp
    rcases GP.cases hp with ⟨to9, l15, v9, hok, rfl, rfl, d⟩ | ⟨m, herr, rfl, hg⟩
    case inr =>
      have HF := Lib.hid (show gCalP l = .error m from HE.out.trans (bind_errP herr))
      have HG := Lib.hid HA.out.sa.did.grown
      clear hp herr
      go_wp2_with fail
      exact body_panic rfl (GP.err HF.out ⟨rfl, grown_trans HG.out hg⟩)
    have HE9 := Lib.hid (show gCalP l = kCal7 9 nm frm to9 l15 from HE.out.trans (bind_okP hok))
    clear hp hok HE
    have HE := HE9
    clear HE9
    obtain ⟨vk, vn, vs⟩ := to9
    have hX := d.blk HA.out.blk (by have := HA.out.qb; have := HA.out.sa.qw; omega)
    have x0 : w14.cell? ⟨b, 25, none⟩ = _ := hX.cell 25
    have f0 : w14.frozen? ⟨b, 25, none⟩ = _ := hX.frozen 25
    have x1 : w14.cell? ⟨b, 26, none⟩ = _ := hX.cell 26
    have f1 : w14.frozen? ⟨b, 26, none⟩ = _ := hX.frozen 26
    have x2 : w14.cell? ⟨b, 27, none⟩ = _ := hX.cell 27
    have f2 : w14.frozen? ⟨b, 27, none⟩ = _ := hX.frozen 27
    have hA1 := HA.out.set (m' := { kind := 9, name := nm, frm := frm, to_ := ⟨vk, 0, ByteArray.empty⟩ }) (d' := { kind := 9, name := nm, frm := frm, to_ := ⟨vk, 0, ByteArray.empty⟩ }) hgg d 25 (.int .u8 vk) rfl rfl rfl (fun hat => { hat with to_ := rfl })
    have hA2 := hA1.set (m' := { kind := 9, name := nm, frm := frm, to_ := ⟨vk, vn, ByteArray.empty⟩ }) (d' := { kind := 9, name := nm, frm := frm, to_ := ⟨vk, vn, ByteArray.empty⟩ }) hgg (GDid.refl hA1.sa.did.at_) 26 (.int .i64 vn) rfl rfl rfl (fun hat => { hat with to_ := rfl })
    have HA9 := Lib.hid (hA2.set (m' := { kind := 9, name := nm, frm := frm, to_ := ⟨vk, vn, vs⟩ }) (d' := { kind := 9, name := nm, frm := frm, to_ := ⟨vk, vn, vs⟩ }) hgg (GDid.refl hA2.sa.did.at_) 27 (.string vs) rfl rfl rfl (fun hat => { hat with to_ := rfl }))
    clear hX d HA hA1 hA2
    have HA := HA9
    clear HA9
    unfold stC quC slC valC at x0 x1 x2
    unfold valC
    go_upto_region 10 with fail
    clear x0 x1 x2 f0 f1 f2
    generalize (World.setCell (World.setCell (World.setCell _ _ _) _ _) _ _) = WV16 at *
    obtain ⟨to9, hv9⟩ : ∃ v : Val, v = ⟨vk, vn, vs⟩ := ⟨_, rfl⟩
    rw [← hv9] at HA HE
    clear hv9
    have hb := later_new WV16 (.cells (strsC [s_close]) 9)
    have HB := Lib.hid (HA.out.later hb)
    have hq9 := HA.out.blk.lt
    have hm := gmust_any ρ _ l15 _ _ HB.out.sa.did.at_ [s_close] WV16.heap.size 1 rfl (Blk.new WV16 _ _) (by omega) (by omega)
    clear hb HA
    unfold strsC strOf at hm HB
    simp only [List.map_cons, List.map_nil] at hm HB
    rw [show s_close.toArray = #[41] from rfl] at hm HB
    go_wp2_with fail
    refine hm.mono ?_
    clear hm
    intro e w17 hp
    rcases hp.cases with ⟨_, l18, v9, hok, rfl, rfl, d⟩ | ⟨m, herr, rfl, hg⟩
    case inr =>
      have HF := Lib.hid (show gCalP l = .error m from HE.out.trans (bind_errP (show must s_close l15 = .error m by rw [← musts_one]; exact herr)))
      have HG := Lib.hid HB.out.sa.did.grown
      clear hp herr
      go_wp2_with fail
      exact body_panic rfl (GP.err HF.out ⟨rfl, grown_trans HG.out hg⟩)
    have HE9 := Lib.hid (show gCalP l = kCal8 9 nm frm to9 l18 from HE.out.trans (bind_okP (show must s_close l15 = .ok ((), l18) by rw [← musts_one]; exact hok)))
    have HA := Lib.hid (HB.out.go hgg d)
    clear hp hok d HB HE hq9
    have HE := HE9
    clear HE9
    go_upto_region 11 with fail
    have HX := Lib.hid (show gCalP l = .ok ({ kind := 9, name := nm, frm := frm, to_ := to9 }, l18) from HE.out)
    obtain ⟨cs, hcs⟩ : ∃ cs, cs = (stC { kind := 9, name := nm, frm := frm, to_ := to9 }).toArray := ⟨_, rfl⟩
    have HSZ := Lib.hid (show (Tryz.prog.info? 35).map (·.size) = some cs.size by rw [hcs]; exact gst_info)
    have HGS := Lib.hid (show gst0.size = cs.size by rw [hcs, gst_siz]; exact gst_siz _)
    have HON := Lib.hid (show cs.all (·.oneCell') = true by rw [hcs]; exact gst_one _)
    have HBK := Lib.hid (show Blk w17 b 35 cs by rw [hcs]; exact HA.out.blk)
    have HRS := Lib.hid HA.out.sa.res
    have HPO := Lib.hid (show gstPost ρ w lg dp gCalP l (.returned (.agg cs)) (w17.setRow (w.heap.size) cs) by rw [hcs]; exact HA.out.post hgg HX.out)
    clear HA HX hcs HE
    refine wp_region_lit ?_
    refine wpList_load_row rfl 35 (.tmp 4) rfl b rfl 35 cs (0, 0) _ HBK.out Tryz.underlying35 rfl HSZ.out ?_
    refine wpList_store_row rfl 35 (.tmp 2) (.tmp 38) rfl (w.heap.size) cs rfl rfl 35 gst0 HRS.out HSZ.out HGS.out HON.out ?_
    refine wpList_nil ?_
    simp only [Act.put, List.setIfInBounds_toArray, List.set_cons_succ, List.set_cons_zero]
    have HRR := Lib.hid (HRS.out.row cs)
    clear HBK HRS HON
    generalize w17.setRow (w.heap.size) cs = WF at *
    go_wp2_with fail
    exact bodyPost_ret (v := .agg cs) (results_cell_row Tryz.results42 _ _ (w.heap.size) 35 cs (0, 0) _ rfl HRR.out Tryz.underlying35 rfl HSZ.out) rfl HPO.out
  · have HE9 := Lib.hid (show gCalP l = kCal6 kx nm nilVal l8 from HE.out.trans (congrFun (call_no nm h9) _))
    clear HE
    have HE := HE9
    clear HE9
    go_wp2_with fail
    refine (gend_any ρ w7 l8 _ _ HA.out.sa.did.at_).mono ?_
    intro e w9 hp
    rcases GP.cases hp with ⟨to9, l10, v9, hok, rfl, rfl, d⟩ | ⟨m, herr, rfl, hg⟩
    case inr =>
      have HF := Lib.hid (show gCalP l = .error m from HE.out.trans (bind_errP herr))
      have HG := Lib.hid HA.out.sa.did.grown
      clear hp herr
      go_wp2_with fail
      exact body_panic rfl (GP.err HF.out ⟨rfl, grown_trans HG.out hg⟩)
    have HE9 := Lib.hid (show gCalP l = kCal7 kx nm nilVal to9 l10 from HE.out.trans (bind_okP hok))
    clear hp hok HE
    have HE := HE9
    clear HE9
    obtain ⟨vk, vn, vs⟩ := to9
    have hX := d.blk HA.out.blk (by have := HA.out.qb; have := HA.out.sa.qw; omega)
    have x0 : w9.cell? ⟨b, 25, none⟩ = _ := hX.cell 25
    have f0 : w9.frozen? ⟨b, 25, none⟩ = _ := hX.frozen 25
    have x1 : w9.cell? ⟨b, 26, none⟩ = _ := hX.cell 26
    have f1 : w9.frozen? ⟨b, 26, none⟩ = _ := hX.frozen 26
    have x2 : w9.cell? ⟨b, 27, none⟩ = _ := hX.cell 27
    have f2 : w9.frozen? ⟨b, 27, none⟩ = _ := hX.frozen 27
    have hA1 := HA.out.set (m' := { kind := kx, name := nm, to_ := ⟨vk, 0, ByteArray.empty⟩ }) (d' := { kind := kx, name := nm, to_ := ⟨vk, 0, ByteArray.empty⟩ }) hgg d 25 (.int .u8 vk) rfl rfl rfl (fun hat => { hat with to_ := rfl })
    have hA2 := hA1.set (m' := { kind := kx, name := nm, to_ := ⟨vk, vn, ByteArray.empty⟩ }) (d' := { kind := kx, name := nm, to_ := ⟨vk, vn, ByteArray.empty⟩ }) hgg (GDid.refl hA1.sa.did.at_) 26 (.int .i64 vn) rfl rfl rfl (fun hat => { hat with to_ := rfl })
    have HA9 := Lib.hid (hA2.set (m' := { kind := kx, name := nm, to_ := ⟨vk, vn, vs⟩ }) (d' := { kind := kx, name := nm, to_ := ⟨vk, vn, vs⟩ }) hgg (GDid.refl hA2.sa.did.at_) 27 (.string vs) rfl rfl rfl (fun hat => { hat with to_ := rfl }))
    clear hX d HA hA1 hA2
    have HA := HA9
    clear HA9
    unfold stC quC slC valC at x0 x1 x2
    unfold valC
    go_upto_region 10 with fail
    clear x0 x1 x2 f0 f1 f2
    generalize (World.setCell (World.setCell (World.setCell _ _ _) _ _) _ _) = WV11 at *
    obtain ⟨to9, hv9⟩ : ∃ v : Val, v = ⟨vk, vn, vs⟩ := ⟨_, rfl⟩
    rw [← hv9] at HA HE
    clear hv9
    have hb := later_new WV11 (.cells (strsC [s_close]) 9)
    have HB := Lib.hid (HA.out.later hb)
    have hq9 := HA.out.blk.lt
    have hm := gmust_any ρ _ l10 _ _ HB.out.sa.did.at_ [s_close] WV11.heap.size 1 rfl (Blk.new WV11 _ _) (by omega) (by omega)
    clear hb HA
    unfold strsC strOf at hm HB
    simp only [List.map_cons, List.map_nil] at hm HB
    rw [show s_close.toArray = #[41] from rfl] at hm HB
    go_wp2_with fail
    refine hm.mono ?_
    clear hm
    intro e w12 hp
    rcases hp.cases with ⟨_, l13, v9, hok, rfl, rfl, d⟩ | ⟨m, herr, rfl, hg⟩
    case inr =>
      have HF := Lib.hid (show gCalP l = .error m from HE.out.trans (bind_errP (show must s_close l10 = .error m by rw [← musts_one]; exact herr)))
      have HG := Lib.hid HB.out.sa.did.grown
      clear hp herr
      go_wp2_with fail
      exact body_panic rfl (GP.err HF.out ⟨rfl, grown_trans HG.out hg⟩)
    have HE9 := Lib.hid (show gCalP l = kCal8 kx nm nilVal to9 l13 from HE.out.trans (bind_okP (show must s_close l10 = .ok ((), l13) by rw [← musts_one]; exact hok)))
    have HA := Lib.hid (HB.out.go hgg d)
    clear hp hok d HB HE hq9
    have HE := HE9
    clear HE9
    go_upto_region 11 with fail
    have HX := Lib.hid (show gCalP l = .ok ({ kind := kx, name := nm, to_ := to9 }, l13) from HE.out)
    obtain ⟨cs, hcs⟩ : ∃ cs, cs = (stC { kind := kx, name := nm, to_ := to9 }).toArray := ⟨_, rfl⟩
    have HSZ := Lib.hid (show (Tryz.prog.info? 35).map (·.size) = some cs.size by rw [hcs]; exact gst_info)
    have HGS := Lib.hid (show gst0.size = cs.size by rw [hcs, gst_siz]; exact gst_siz _)
    have HON := Lib.hid (show cs.all (·.oneCell') = true by rw [hcs]; exact gst_one _)
    have HBK := Lib.hid (show Blk w12 b 35 cs by rw [hcs]; exact HA.out.blk)
    have HRS := Lib.hid HA.out.sa.res
    have HPO := Lib.hid (show gstPost ρ w lg dp gCalP l (.returned (.agg cs)) (w12.setRow (w.heap.size) cs) by rw [hcs]; exact HA.out.post hgg HX.out)
    clear HA HX hcs HE
    refine wp_region_lit ?_
    refine wpList_load_row rfl 35 (.tmp 4) rfl b rfl 35 cs (0, 0) _ HBK.out Tryz.underlying35 rfl HSZ.out ?_
    refine wpList_store_row rfl 35 (.tmp 2) (.tmp 38) rfl (w.heap.size) cs rfl rfl 35 gst0 HRS.out HSZ.out HGS.out HON.out ?_
    refine wpList_nil ?_
    simp only [Act.put, List.setIfInBounds_toArray, List.set_cons_succ, List.set_cons_zero]
    have HRR := Lib.hid (HRS.out.row cs)
    clear HBK HRS HON
    generalize w12.setRow (w.heap.size) cs = WF at *
    go_wp2_with fail
    exact bodyPost_ret (v := .agg cs) (results_cell_row Tryz.results42 _ _ (w.heap.size) 35 cs (0, 0) _ rfl HRR.out Tryz.underlying35 rfl HSZ.out) rfl HPO.out
end Go.Proofs.YtcneefmaghoejaaGreatDoor
