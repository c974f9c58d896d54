/- Parts of the proof: Gv1, Gv2, Gv3. Put together by slim.py. -/
import Derived.Deep.DeepCutAuto
import Derived.Test.YtcneefmaghoejaaGreatDoorB32
namespace Go.Proofs.YtcneefmaghoejaaGreatDoor
open Go.ChangeShapes Go.WideShapes Go.ChangeAt Go.RowKit
set_option linter.unusedVariables false
set_option linter.unusedSimpArgs false
def gDelP : Ps St := do
  let _ ← musts [w_delete, w_from]
  let name ← nameP
  let whr ← behindP w_where
  return { kind := 7, name, whr }
def kDel3 (name : ByteArray) (whr : List Tr) : Ps St := return { kind := 7, name, whr }
def kDel2 (name : ByteArray) : Ps St := do
  let whr ← behindP w_where
  kDel3 name whr
def kDel1 : Ps St := do
  let name ← nameP
  kDel2 name
set_option maxHeartbeats 4000000 in
set_option maxRecDepth 100000 in
theorem gdelete_any (ρ : Rdr) (w : World) (l : Wds) (lg dp : Bool) (h : ρ.gat w l lg dp) :
    Calls Tryz.prog 40 #[ρ.ptr] w (gstPost ρ w lg dp gDelP l) := by
  have hgg := h.lt_
  have b1 := later_new w (gstZ {})
  have HS := Lib.hid (show GSa ρ w w.heap.size [] lg dp (w.alloc (gstZ {})) l from ⟨GDid.of_later h b1, Blk.new w _ _, Nat.le_refl _, fun p hp => by simp at hp⟩)
  have HE := Lib.hid (show gDelP l = (musts [w_delete, w_from] >>= fun _ => kDel1) l from rfl)
  clear h b1
  go_enter Tryz.func40, Tryz.ntmps40
  go_upto_region 1 with fail
  change Code.wp _ _ _ _ (w.alloc (gstZ {}))
  generalize hW : (World.alloc _ _) = W0 at *
  clear hW
  have hqw : w.heap.size < W0.heap.size := HS.out.res.lt
  have hb := later_new W0 (.cells (strsC [w_delete, w_from]) 9)
  have HB := Lib.hid (HS.out.later hb)
  have hq9 := HS.out.res.lt
  have hm := gmust_any ρ _ l _ _ HB.out.did.at_ [w_delete, w_from] W0.heap.size 2 rfl (Blk.new W0 _ _) (by omega) (by omega)
  clear hb HS
  unfold strsC strOf at hm HB
  simp only [List.map_cons, List.map_nil] at hm HB
  rw [show w_delete.toArray = #[100, 101, 108, 101, 116, 101] from rfl, show w_from.toArray = #[102, 114, 111, 109] from rfl] at hm HB
  go_wp2_with fail
  refine hm.mono ?_
  clear hm
  intro e w1 hp
  rcases hp.cases with ⟨_, l2, v9, hok, rfl, rfl, d⟩ | ⟨m, herr, rfl, hg⟩
  case inr =>
    have HF := Lib.hid (show gDelP l = .error m from HE.out.trans (bind_errP (show musts [w_delete, w_from] l = .error m from herr)))
    have HG := Lib.hid HB.out.did.grown
    clear hp herr
    go_wp2_with fail
    exact body_panic rfl (GP.err HF.out ⟨rfl, grown_trans HG.out hg⟩)
  have HE9 := Lib.hid (show gDelP l = kDel1 l2 from HE.out.trans (bind_okP (show musts [w_delete, w_from] l = .ok (_, l2) from hok)))
  have HS := Lib.hid (HB.out.go hgg d)
  clear hp hok d HB HE hq9
  have HE := HE9
  clear HE9
  go_wp2_with fail
  refine (gname_any ρ w1 l2 _ _ HS.out.did.at_).mono ?_
  intro e w3 hp
  rcases hp.cases with ⟨nm, l4, v9, hok, rfl, rfl, d⟩ | ⟨m, herr, rfl, hg⟩
  case inr =>
    have HF := Lib.hid (show gDelP l = .error m from HE.out.trans (bind_errP herr))
    have HG := Lib.hid HS.out.did.grown
    clear hp herr
    go_wp2_with fail
    exact body_panic rfl (GP.err HF.out ⟨rfl, grown_trans HG.out hg⟩)
  have HE9 := Lib.hid (show gDelP l = kDel2 nm l4 from HE.out.trans (bind_okP hok))
  clear hp hok HE
  have HE := HE9
  clear HE9
  have hw9 := d.size
  have HS9 := Lib.hid (HS.out.go hgg d)
  have hbq := HS9.out.res.lt
  obtain ⟨cs, hcs⟩ : ∃ cs, cs = (stC { kind := 7, name := nm }).toArray := ⟨_, rfl⟩
  have HSZ := Lib.hid (show (Tryz.prog.info? 35).map (·.size) = some cs.size by rw [hcs]; exact gst_info)
  have HGS := Lib.hid (show gst0.size = cs.size by rw [hcs, gst_siz]; exact gst_siz _)
  have HON := Lib.hid (show cs.all (·.oneCell') = true by rw [hcs]; exact gst_one _)
  have HBU := Lib.hid (show Tryz.prog.built 35 [(0, .int .u8 7), (1, .string nm)] = some cs by rw [hcs]; exact gst_built _ _)
  have HA := Lib.hid (show GSt ρ w (w.heap.size) [] lg dp w3.heap.size (w3.alloc (.cells cs 35)) l4 { kind := 7, name := nm } { kind := 7, name := nm } by
    rw [hcs]
    exact HS9.out.start (lg2 := lg) (dp2 := dp) { kind := 7, name := nm } { kind := 7, name := nm } (fun p hp => by simp at hp) (by simp [St.long, Qu.long]) (by simp [St.exprs, Qu.exprs, deepB]) (by simp [St.long, Qu.long]) (fun W S => { St.at_nil W S with kind := rfl, name := rfl }))
  clear d HS HS9 hcs
  go_upto_region 3 with (first
    | (refine gbuild_is rfl 35 _ rfl (cs := cs) ?hv ?_; rotate_left)
    | (refine wpList_store_row rfl 35 (.tmp 3) (.tmp 9) rfl w3.heap.size cs rfl rfl 35 gst0 (Blk.new w3 35 gst0) HSZ.out HGS.out HON.out ?_
       rw [alloc_row]))
  case hv => exact HBU.out
  generalize hb : w3.heap.size = b at *
  generalize hW : (World.alloc _ _) = WB at *
  clear hW hb hw9 HBU HON HGS HSZ
  go_wp2_with fail
  refine (gmaybe_anyL ρ WB l4 _ _ HA.out.sa.did.at_ w_where ⟨#[119, 104, 101, 114, 101]⟩ rfl).mono ?_
  intro e w5 hp
  rcases GP.cases hp with ⟨whr, l6, v9, hok, rfl, ⟨A, n, c⟩, rfl, hsl, d⟩ | ⟨m, herr, rfl, hg⟩
  case inr =>
    have HF := Lib.hid (show gDelP l = .error m from HE.out.trans (bind_errP herr))
    have HG := Lib.hid HA.out.sa.did.grown
    clear hp herr
    go_wp2_with fail
    exact body_panic rfl (GP.err HF.out ⟨rfl, grown_trans HG.out hg⟩)
  have HE9 := Lib.hid (show gDelP l = kDel3 nm whr l6 from HE.out.trans (bind_okP hok))
  clear hp hok HE
  have HE := HE9
  clear HE9
  have hq9 := HA.out.blk.lt
  have hX := d.blk HA.out.blk (by have := HA.out.qb; have := HA.out.sa.qw; omega)
  have hc : w5.cell? ⟨b, 21, none⟩ = _ := hX.cell 21
  have hf : w5.frozen? ⟨b, 21, none⟩ = _ := hX.frozen 21
  have HA9 := Lib.hid (HA.out.set (m' := { kind := 7, name := nm, whr := ⟨A, n, c⟩ }) (d' := { kind := 7, name := nm, whr := whr }) hgg d 21 (.slice A n c) rfl (by simp [St.long, Qu.long, Bool.or_assoc]) (by simp [St.exprs, Qu.exprs, deepB, List.any_append, List.any_map, List.any_flatten, Function.comp_def, Bool.or_assoc]) (fun hat => { hat with whr := El.lies.more hsl (by omega) }))
  clear hX d HA
  have HA := HA9
  clear HA9
  unfold stC quC slC valC at hc
  try unfold slC
  go_upto_region 4 with fail
  clear hc hf
  generalize w5.setCell _ _ = W7 at *
  obtain ⟨swhr, hs9⟩ : ∃ s : Sl, s = ⟨A, n, c⟩ := ⟨_, rfl⟩
  rw [← hs9] at HA
  clear hs9 hq9 hsl
  have HX := Lib.hid (show gDelP l = .ok ({ kind := 7, name := nm, whr := whr }, l6) from HE.out)
  obtain ⟨cs, hcs⟩ : ∃ cs, cs = (stC { kind := 7, name := nm, whr := swhr }).toArray := ⟨_, rfl⟩
  have HSZ := Lib.hid (show (Tryz.prog.info? 35).map (·.size) = some cs.size by rw [hcs]; exact gst_info)
  have HGS := Lib.hid (show gst0.size = cs.size by rw [hcs, gst_siz]; exact gst_siz _)
  have HON := Lib.hid (show cs.all (·.oneCell') = true by rw [hcs]; exact gst_one _)
  have HBK := Lib.hid (show Blk W7 b 35 cs by rw [hcs]; exact HA.out.blk)
  have HRS := Lib.hid HA.out.sa.res
  have HPO := Lib.hid (show gstPost ρ w lg dp gDelP l (.returned (.agg cs)) (W7.setRow (w.heap.size) cs) by rw [hcs]; exact HA.out.post hgg HX.out)
  clear HA HX hcs HE
  refine wp_region_lit ?_
  refine wpList_load_row rfl 35 (.tmp 3) rfl b rfl 35 cs (0, 0) _ HBK.out Tryz.underlying35 rfl HSZ.out ?_
  refine wpList_store_row rfl 35 (.tmp 2) (.tmp 13) rfl (w.heap.size) cs rfl rfl 35 gst0 HRS.out HSZ.out HGS.out HON.out ?_
  refine wpList_nil ?_
  simp only [Act.put, List.setIfInBounds_toArray, List.set_cons_succ, List.set_cons_zero]
  have HRR := Lib.hid (HRS.out.row cs)
  clear HBK HRS HON
  generalize W7.setRow (w.heap.size) cs = WF at *
  go_wp2_with fail
  exact bodyPost_ret (v := .agg cs) (results_cell_row Tryz.results40 _ _ (w.heap.size) 35 cs (0, 0) _ rfl HRR.out Tryz.underlying35 rfl HSZ.out) rfl HPO.out
end Go.Proofs.YtcneefmaghoejaaGreatDoor
namespace Go.Proofs.YtcneefmaghoejaaGreatDoor
open Go.ChangeShapes Go.WideShapes Go.ChangeAt Go.RowKit
set_option linter.unusedVariables false
set_option linter.unusedSimpArgs false
def kIns4 (name : ByteArray) (rows : List (List Tr)) : Ps St := return { kind := 5, name, rows }
def kIns3 (name : ByteArray) : Ps St := do
  let rows ← listP rowP
  kIns4 name rows
def kIns2 (name : ByteArray) : Ps St := do
  must w_values
  kIns3 name
def kIns1 : Ps St := do
  let name ← nameP
  kIns2 name
def gInsP : Ps St := musts [w_insert, w_into] >>= fun _ => kIns1
set_option maxHeartbeats 4000000 in
set_option maxRecDepth 100000 in
theorem ginsert_any (ρ : Rdr) (w : World) (l : Wds) (lg dp : Bool) (h : ρ.gat w l lg dp) :
    Calls Tryz.prog 38 #[ρ.ptr] w (gstPost ρ w lg dp gInsP l) := by
  have hgg := h.lt_
  have b2 := Later.then (later_new w (.cells #[ρ.ptr] 58)) (later_new _ (gstZ {}))
  have hP := (Blk.new w 58 #[ρ.ptr]).alloc (gstZ {})
  have hR := Blk.new (w.alloc (.cells #[ρ.ptr] 58)) 35 gst0
  rw [World.size_alloc] at hR
  have HS := Lib.hid (show GSa ρ w (w.heap.size + 1) [w.heap.size] lg dp ((w.alloc (.cells #[ρ.ptr] 58)).alloc (gstZ {})) l from ⟨GDid.of_later h b2, hR, Nat.le_succ _, fun p hp => by simp at hp; subst hp; exact ⟨Nat.le_refl _, by omega, hP⟩⟩)
  have hmf : ∀ fn first cap w, (Instr.makeFunc fn first cap).run Tryz.prog w = .ok (.func fn first cap) w := fun _ _ _ _ => rfl
  have HE := Lib.hid (show gInsP l = (musts [w_insert, w_into] >>= fun _ => kIns1) l from rfl)
  clear h b2 hP hR
  go_enter Tryz.func38, Tryz.ntmps38
  go_upto_region 1 with fail
  change Code.wp _ _ _ _ ((w.alloc (.cells #[ρ.ptr] 58)).alloc (gstZ {}))
  generalize hW : (World.alloc _ _) = W0 at *
  clear hW
  have hqw : w.heap.size + 1 < W0.heap.size := HS.out.res.lt
  have hb := later_new W0 (.cells (strsC [w_insert, w_into]) 9)
  have HB := Lib.hid (HS.out.later hb)
  have hq9 := HS.out.res.lt
  have p0 := HS.out.ptr
  have hm := gmust_any ρ _ l _ _ HB.out.did.at_ [w_insert, w_into] W0.heap.size 2 rfl (Blk.new W0 _ _) (by omega) (by omega)
  clear hb HS
  unfold strsC strOf at hm HB
  simp only [List.map_cons, List.map_nil] at hm HB
  rw [show w_insert.toArray = #[105, 110, 115, 101, 114, 116] from rfl, show w_into.toArray = #[105, 110, 116, 111] from rfl] at hm HB
  go_wp2_with fail
  refine hm.mono ?_
  clear hm p0
  intro e w1 hp
  rcases hp.cases with ⟨_, l2, v9, hok, rfl, rfl, d⟩ | ⟨m, herr, rfl, hg⟩
  case inr =>
    have HF := Lib.hid (show gInsP l = .error m from HE.out.trans (bind_errP (show musts [w_insert, w_into] l = .error m from herr)))
    have HG := Lib.hid HB.out.did.grown
    clear hp herr
    go_wp2_with fail
    exact body_panic rfl (GP.err HF.out ⟨rfl, grown_trans HG.out hg⟩)
  have HE9 := Lib.hid (show gInsP l = kIns1 l2 from HE.out.trans (bind_okP (show musts [w_insert, w_into] l = .ok (_, l2) from hok)))
  have HS := Lib.hid (HB.out.go hgg d)
  clear hp hok d HB HE hq9
  have HE := HE9
  clear HE9
  have p0 := HS.out.ptr
  go_wp2_with fail
  refine (gname_any ρ w1 l2 _ _ HS.out.did.at_).mono ?_
  clear p0
  intro e w3 hp
  rcases hp.cases with ⟨nm, l4, v9, hok, rfl, rfl, d⟩ | ⟨m, herr, rfl, hg⟩
  case inr =>
    have HF := Lib.hid (show gInsP l = .error m from HE.out.trans (bind_errP herr))
    have HG := Lib.hid HS.out.did.grown
    clear hp herr
    go_wp2_with fail
    exact body_panic rfl (GP.err HF.out ⟨rfl, grown_trans HG.out hg⟩)
  have HE9 := Lib.hid (show gInsP l = kIns2 nm l4 from HE.out.trans (bind_okP hok))
  clear hp hok HE
  have HE := HE9
  clear HE9
  have hw9 := d.size
  have HS9 := Lib.hid (HS.out.go hgg d)
  have hbq := HS9.out.res.lt
  obtain ⟨cs, hcs⟩ : ∃ cs, cs = (stC { kind := 5, name := nm }).toArray := ⟨_, rfl⟩
  have HSZ := Lib.hid (show (Tryz.prog.info? 35).map (·.size) = some cs.size by rw [hcs]; exact gst_info)
  have HGS := Lib.hid (show gst0.size = cs.size by rw [hcs, gst_siz]; exact gst_siz _)
  have HON := Lib.hid (show cs.all (·.oneCell') = true by rw [hcs]; exact gst_one _)
  have HBU := Lib.hid (show Tryz.prog.built 35 [(0, .int .u8 5), (1, .string nm)] = some cs by rw [hcs]; exact gst_built _ _)
  have HA := Lib.hid (show GSt ρ w (w.heap.size + 1) [w.heap.size] lg dp w3.heap.size (w3.alloc (.cells cs 35)) l4 { kind := 5, name := nm } { kind := 5, name := nm } by
    rw [hcs]
    exact HS9.out.start (lg2 := lg) (dp2 := dp) { kind := 5, name := nm } { kind := 5, name := nm } (fun p hp => by simp at hp; subst hp; omega) (by simp [St.long, Qu.long]) (by simp [St.exprs, Qu.exprs, deepB]) (by simp [St.long, Qu.long]) (fun W S => { St.at_nil W S with kind := rfl, name := rfl }))
  clear d HS HS9 hcs
  go_upto_region 3 with (first
    | (refine gbuild_is rfl 35 _ rfl (cs := cs) ?hv ?_; rotate_left)
    | (refine wpList_store_row rfl 35 (.tmp 3) (.tmp 9) rfl w3.heap.size cs rfl rfl 35 gst0 (Blk.new w3 35 gst0) HSZ.out HGS.out HON.out ?_
       rw [alloc_row]))
  case hv => exact HBU.out
  generalize hb : w3.heap.size = b at *
  generalize hW : (World.alloc _ _) = WB at *
  clear hW hb hw9 HBU HON HGS HSZ
  have hb := later_new WB (.cells (strsC [w_values]) 9)
  have HB := Lib.hid (HA.out.later hb)
  have hq9 := HA.out.blk.lt
  have p0 := HA.out.sa.ptr
  have hm := gmust_any ρ _ l4 _ _ HB.out.sa.did.at_ [w_values] WB.heap.size 1 rfl (Blk.new WB _ _) (by omega) (by omega)
  clear hb HA
  unfold strsC strOf at hm HB
  simp only [List.map_cons, List.map_nil] at hm HB
  rw [show w_values.toArray = #[118, 97, 108, 117, 101, 115] from rfl] at hm HB
  go_wp2_with fail
  refine hm.mono ?_
  clear hm p0
  intro e w5 hp
  rcases hp.cases with ⟨_, l6, v9, hok, rfl, rfl, d⟩ | ⟨m, herr, rfl, hg⟩
  case inr =>
    have HF := Lib.hid (show gInsP l = .error m from HE.out.trans (bind_errP (show must w_values l4 = .error m by rw [← musts_one]; exact herr)))
    have HG := Lib.hid HB.out.sa.did.grown
    clear hp herr
    go_wp2_with fail
    exact body_panic rfl (GP.err HF.out ⟨rfl, grown_trans HG.out hg⟩)
  have HE9 := Lib.hid (show gInsP l = kIns3 nm l6 from HE.out.trans (bind_okP (show must w_values l4 = .ok ((), l6) by rw [← musts_one]; exact hok)))
  have HA := Lib.hid (HB.out.go hgg d)
  clear hp hok d HB HE hq9
  have HE := HE9
  clear HE9
  have p0 := HA.out.sa.ptr
  have F := HA.out.fit hgg 19 (by decide)
  have L : LstL ρ w (fun r => decide (64 < r.length)) (fun r => deepB r) rowP 75 #[.pointer (some ⟨w.heap.size, 0, none⟩), .pointer (some ⟨b, 0, none⟩)] ((stG ρ w (w.heap.size + 1) w.heap.size b { kind := 5, name := nm } { kind := 5, name := nm } 19).acc elRow 25) :=
    ⟨sane_rowP, enters_of Tryz.func75 (by kernel_rfl) rfl, fun acc a b hs hg _ => by obtain ⟨v, h⟩ := hs; exact ⟨v, h.grown F hg⟩, fun acc W l lg dp hn hs hd => grow_read _ F rfl rfl acc W l lg dp hn hs hd⟩
  have hm := glistL_any ρ w (fun r => decide (64 < r.length)) (fun r => deepB r) rowP 75 #[.pointer (some ⟨w.heap.size, 0, none⟩), .pointer (some ⟨b, 0, none⟩)] _ L w5 l6 _ _ HA.out.sa.did (HA.out.start elRow 25 19 rfl) hgg
  clear L F
  go_wp2_with fail
  refine hm.mono ?_
  clear hm p0
  intro e w7 hp
  unfold lstPostL at hp
  cases hx : listP rowP l6 with
  | error m =>
    rw [hx] at hp
    obtain ⟨rfl, hg⟩ := hp
    have HF := Lib.hid (show gInsP l = .error m from HE.out.trans (bind_errP hx))
    clear hx
    go_wp2_with fail
    exact body_panic rfl (GP.err HF.out ⟨rfl, hg⟩)
  | ok z =>
    obtain ⟨rows, l8⟩ := z
    rw [hx] at hp
    obtain ⟨rfl, hs, hd⟩ := hp
    obtain ⟨so, hA⟩ := HA.out.list (m' := fun so => { kind := 5, name := nm, rows := so }) (d' := { kind := 5, name := nm, rows := rows }) hs hd (fun _ => rfl) (by simp [St.long, Qu.long, Bool.or_assoc, Bool.or_comm, Bool.or_left_comm]) (by simp [St.exprs, Qu.exprs, deepB, List.any_append, List.any_map, List.any_flatten, Function.comp_def, Bool.or_assoc]) (fun so hsl hat => { hat with rows := hsl })
    have HE9 := Lib.hid (show gInsP l = kIns4 nm rows l8 from HE.out.trans (bind_okP hx))
    have HA9 := Lib.hid hA
    clear hx hA hs hd HA HE
    have HA := HA9
    have HE := HE9
    clear HA9 HE9
    go_upto_region 5 with fail
    have HX := Lib.hid (show gInsP l = .ok ({ kind := 5, name := nm, rows := rows }, l8) from HE.out)
    obtain ⟨cs, hcs⟩ : ∃ cs, cs = (stC { kind := 5, name := nm, rows := so }).toArray := ⟨_, rfl⟩
    have HSZ := Lib.hid (show (Tryz.prog.info? 35).map (·.size) = some cs.size by rw [hcs]; exact gst_info)
    have HGS := Lib.hid (show gst0.size = cs.size by rw [hcs, gst_siz]; exact gst_siz _)
    have HON := Lib.hid (show cs.all (·.oneCell') = true by rw [hcs]; exact gst_one _)
    have HBK := Lib.hid (show Blk w7 b 35 cs by rw [hcs]; exact HA.out.blk)
    have HRS := Lib.hid HA.out.sa.res
    have HPO := Lib.hid (show gstPost ρ w lg dp gInsP l (.returned (.agg cs)) (w7.setRow (w.heap.size + 1) cs) by rw [hcs]; exact HA.out.post hgg HX.out)
    clear HA HX hcs HE
    refine wp_region_lit ?_
    refine wpList_load_row rfl 35 (.tmp 3) rfl b rfl 35 cs (0, 0) _ HBK.out Tryz.underlying35 rfl HSZ.out ?_
    refine wpList_store_row rfl 35 (.tmp 2) (.tmp 16) rfl (w.heap.size + 1) cs rfl rfl 35 gst0 HRS.out HSZ.out HGS.out HON.out ?_
    refine wpList_nil ?_
    simp only [Act.put, List.setIfInBounds_toArray, List.set_cons_succ, List.set_cons_zero]
    have HRR := Lib.hid (HRS.out.row cs)
    clear HBK HRS HON
    generalize w7.setRow (w.heap.size + 1) cs = WF at *
    go_wp2_with fail
    exact bodyPost_ret (v := .agg cs) (results_cell_row Tryz.results38 _ _ (w.heap.size + 1) 35 cs (0, 0) _ rfl HRR.out Tryz.underlying35 rfl HSZ.out) rfl HPO.out
end Go.Proofs.YtcneefmaghoejaaGreatDoor
namespace Go.Proofs.YtcneefmaghoejaaGreatDoor
open Go.ChangeShapes Go.WideShapes Go.ChangeAt Go.RowKit
set_option linter.unusedVariables false
set_option linter.unusedSimpArgs false
def kUpd5 (name : ByteArray) (sets : List (ByteArray × Tr)) (whr : List Tr) : Ps St := return { kind := 6, name, sets, whr }
def kUpd4 (name : ByteArray) (sets : List (ByteArray × Tr)) : Ps St := do
  let whr ← behindP w_where
  kUpd5 name sets whr
def kUpd3 (name : ByteArray) : Ps St := do
  let sets ← listP setP
  kUpd4 name sets
def kUpd2 (name : ByteArray) : Ps St := do
  must w_set
  kUpd3 name
def kUpd1 : Ps St := do
  let name ← nameP
  kUpd2 name
def gUpdP : Ps St := must w_update >>= fun _ => kUpd1
set_option maxHeartbeats 4000000 in
set_option maxRecDepth 100000 in
theorem gupdate_any (ρ : Rdr) (w : World) (l : Wds) (lg dp : Bool) (h : ρ.gat w l lg dp) :
    Calls Tryz.prog 39 #[ρ.ptr] w (gstPost ρ w lg dp gUpdP l) := by
  have hgg := h.lt_
  have b2 := Later.then (later_new w (.cells #[ρ.ptr] 58)) (later_new _ (gstZ {}))
  have hP := (Blk.new w 58 #[ρ.ptr]).alloc (gstZ {})
  have hR := Blk.new (w.alloc (.cells #[ρ.ptr] 58)) 35 gst0
  rw [World.size_alloc] at hR
  have HS := Lib.hid (show GSa ρ w (w.heap.size + 1) [w.heap.size] lg dp ((w.alloc (.cells #[ρ.ptr] 58)).alloc (gstZ {})) l from ⟨GDid.of_later h b2, hR, Nat.le_succ _, fun p hp => by simp at hp; subst hp; exact ⟨Nat.le_refl _, by omega, hP⟩⟩)
  have hmf : ∀ fn first cap w, (Instr.makeFunc fn first cap).run Tryz.prog w = .ok (.func fn first cap) w := fun _ _ _ _ => rfl
  have HE := Lib.hid (show gUpdP l = (must w_update >>= fun _ => kUpd1) l from rfl)
  clear h b2 hP hR
  go_enter Tryz.func39, Tryz.ntmps39
  go_upto_region 1 with fail
  change Code.wp _ _ _ _ ((w.alloc (.cells #[ρ.ptr] 58)).alloc (gstZ {}))
  generalize hW : (World.alloc _ _) = W0 at *
  clear hW
  have hqw : w.heap.size + 1 < W0.heap.size := HS.out.res.lt
  have hb := later_new W0 (.cells (strsC [w_update]) 9)
  have HB := Lib.hid (HS.out.later hb)
  have hq9 := HS.out.res.lt
  have p0 := HS.out.ptr
  have hm := gmust_any ρ _ l _ _ HB.out.did.at_ [w_update] W0.heap.size 1 rfl (Blk.new W0 _ _) (by omega) (by omega)
  clear hb HS
  unfold strsC strOf at hm HB
  simp only [List.map_cons, List.map_nil] at hm HB
  rw [show w_update.toArray = #[117, 112, 100, 97, 116, 101] from rfl] at hm HB
  go_wp2_with fail
  refine hm.mono ?_
  clear hm p0
  intro e w1 hp
  rcases hp.cases with ⟨_, l2, v9, hok, rfl, rfl, d⟩ | ⟨m, herr, rfl, hg⟩
  case inr =>
    have HF := Lib.hid (show gUpdP l = .error m from HE.out.trans (bind_errP (show must w_update l = .error m by rw [← musts_one]; exact herr)))
    have HG := Lib.hid HB.out.did.grown
    clear hp herr
    go_wp2_with fail
    exact body_panic rfl (GP.err HF.out ⟨rfl, grown_trans HG.out hg⟩)
  have HE9 := Lib.hid (show gUpdP l = kUpd1 l2 from HE.out.trans (bind_okP (show must w_update l = .ok ((), l2) by rw [← musts_one]; exact hok)))
  have HS := Lib.hid (HB.out.go hgg d)
  clear hp hok d HB HE hq9
  have HE := HE9
  clear HE9
  have p0 := HS.out.ptr
  go_wp2_with fail
  refine (gname_any ρ w1 l2 _ _ HS.out.did.at_).mono ?_
  clear p0
  intro e w3 hp
  rcases hp.cases with ⟨nm, l4, v9, hok, rfl, rfl, d⟩ | ⟨m, herr, rfl, hg⟩
  case inr =>
    have HF := Lib.hid (show gUpdP l = .error m from HE.out.trans (bind_errP herr))
    have HG := Lib.hid HS.out.did.grown
    clear hp herr
    go_wp2_with fail
    exact body_panic rfl (GP.err HF.out ⟨rfl, grown_trans HG.out hg⟩)
  have HE9 := Lib.hid (show gUpdP l = kUpd2 nm l4 from HE.out.trans (bind_okP hok))
  clear hp hok HE
  have HE := HE9
  clear HE9
  have hw9 := d.size
  have HS9 := Lib.hid (HS.out.go hgg d)
  have hbq := HS9.out.res.lt
  obtain ⟨cs, hcs⟩ : ∃ cs, cs = (stC { kind := 6, name := nm }).toArray := ⟨_, rfl⟩
  have HSZ := Lib.hid (show (Tryz.prog.info? 35).map (·.size) = some cs.size by rw [hcs]; exact gst_info)
  have HGS := Lib.hid (show gst0.size = cs.size by rw [hcs, gst_siz]; exact gst_siz _)
  have HON := Lib.hid (show cs.all (·.oneCell') = true by rw [hcs]; exact gst_one _)
  have HBU := Lib.hid (show Tryz.prog.built 35 [(0, .int .u8 6), (1, .string nm)] = some cs by rw [hcs]; exact gst_built _ _)
  have HA := Lib.hid (show GSt ρ w (w.heap.size + 1) [w.heap.size] lg dp w3.heap.size (w3.alloc (.cells cs 35)) l4 { kind := 6, name := nm } { kind := 6, name := nm } by
    rw [hcs]
    exact HS9.out.start (lg2 := lg) (dp2 := dp) { kind := 6, name := nm } { kind := 6, name := nm } (fun p hp => by simp at hp; subst hp; omega) (by simp [St.long, Qu.long]) (by simp [St.exprs, Qu.exprs, deepB]) (by simp [St.long, Qu.long]) (fun W S => { St.at_nil W S with kind := rfl, name := rfl }))
  clear d HS HS9 hcs
  go_upto_region 3 with (first
    | (refine gbuild_is rfl 35 _ rfl (cs := cs) ?hv ?_; rotate_left)
    | (refine wpList_store_row rfl 35 (.tmp 3) (.tmp 9) rfl w3.heap.size cs rfl rfl 35 gst0 (Blk.new w3 35 gst0) HSZ.out HGS.out HON.out ?_
       rw [alloc_row]))
  case hv => exact HBU.out
  generalize hb : w3.heap.size = b at *
  generalize hW : (World.alloc _ _) = WB at *
  clear hW hb hw9 HBU HON HGS HSZ
  have hb := later_new WB (.cells (strsC [w_set]) 9)
  have HB := Lib.hid (HA.out.later hb)
  have hq9 := HA.out.blk.lt
  have p0 := HA.out.sa.ptr
  have hm := gmust_any ρ _ l4 _ _ HB.out.sa.did.at_ [w_set] WB.heap.size 1 rfl (Blk.new WB _ _) (by omega) (by omega)
  clear hb HA
  unfold strsC strOf at hm HB
  simp only [List.map_cons, List.map_nil] at hm HB
  rw [show w_set.toArray = #[115, 101, 116] from rfl] at hm HB
  go_wp2_with fail
  refine hm.mono ?_
  clear hm p0
  intro e w5 hp
  rcases hp.cases with ⟨_, l6, v9, hok, rfl, rfl, d⟩ | ⟨m, herr, rfl, hg⟩
  case inr =>
    have HF := Lib.hid (show gUpdP l = .error m from HE.out.trans (bind_errP (show must w_set l4 = .error m by rw [← musts_one]; exact herr)))
    have HG := Lib.hid HB.out.sa.did.grown
    clear hp herr
    go_wp2_with fail
    exact body_panic rfl (GP.err HF.out ⟨rfl, grown_trans HG.out hg⟩)
  have HE9 := Lib.hid (show gUpdP l = kUpd3 nm l6 from HE.out.trans (bind_okP (show must w_set l4 = .ok ((), l6) by rw [← musts_one]; exact hok)))
  have HA := Lib.hid (HB.out.go hgg d)
  clear hp hok d HB HE hq9
  have HE := HE9
  clear HE9
  have p0 := HA.out.sa.ptr
  have F := HA.out.fit hgg 20 (by decide)
  have L : Lst ρ w (fun x => decide (32 < x.2.depth)) setP 78 #[.pointer (some ⟨w.heap.size, 0, none⟩), .pointer (some ⟨b, 0, none⟩)] ((stG ρ w (w.heap.size + 1) w.heap.size b { kind := 6, name := nm } { kind := 6, name := nm } 20).acc elSet 73) :=
    ⟨sane_setP, enters_of Tryz.func78 (by kernel_rfl) rfl, fun acc a b hs hg _ => by obtain ⟨v, h⟩ := hs; exact ⟨v, h.grown F hg⟩, fun acc W l lg dp hn hs hd => gset_read _ F rfl rfl acc W l lg dp hn hs hd⟩
  have hm := glist_any ρ w (fun x => decide (32 < x.2.depth)) setP 78 #[.pointer (some ⟨w.heap.size, 0, none⟩), .pointer (some ⟨b, 0, none⟩)] _ L w5 l6 _ _ HA.out.sa.did (HA.out.start elSet 73 20 rfl) hgg
  clear L F
  go_wp2_with fail
  refine hm.mono ?_
  clear hm p0
  intro e w7 hp
  unfold lstPost at hp
  cases hx : listP setP l6 with
  | error m =>
    rw [hx] at hp
    obtain ⟨rfl, hg⟩ := hp
    have HF := Lib.hid (show gUpdP l = .error m from HE.out.trans (bind_errP hx))
    clear hx
    go_wp2_with fail
    exact body_panic rfl (GP.err HF.out ⟨rfl, hg⟩)
  | ok z =>
    obtain ⟨sets, l8⟩ := z
    rw [hx] at hp
    obtain ⟨rfl, hs, hd⟩ := hp
    obtain ⟨so, hA⟩ := HA.out.list (m' := fun so => { kind := 6, name := nm, sets := so }) (d' := { kind := 6, name := nm, sets := sets }) hs hd (fun _ => rfl) (by simp [St.long, Qu.long, Bool.or_assoc]) (by simp [St.exprs, Qu.exprs, deepB, List.any_append, List.any_map, List.any_flatten, Function.comp_def, Bool.or_assoc]) (fun so hsl hat => { hat with sets := hsl })
    have HE9 := Lib.hid (show gUpdP l = kUpd4 nm sets l8 from HE.out.trans (bind_okP hx))
    have HA9 := Lib.hid hA
    clear hx hA hs hd HA HE
    have HA := HA9
    have HE := HE9
    clear HA9 HE9
    go_upto_region 5 with fail
    have p0 := HA.out.sa.ptr
    go_wp2_with fail
    refine (gmaybe_anyL ρ w7 l8 _ _ HA.out.sa.did.at_ w_where ⟨#[119, 104, 101, 114, 101]⟩ rfl).mono ?_
    clear p0
    intro e w9 hp
    rcases GP.cases hp with ⟨whr, l10, v9, hok, rfl, ⟨A, n, c⟩, rfl, hsl, d⟩ | ⟨m, herr, rfl, hg⟩
    case inr =>
      have HF := Lib.hid (show gUpdP l = .error m from HE.out.trans (bind_errP herr))
      have HG := Lib.hid HA.out.sa.did.grown
      clear hp herr
      go_wp2_with fail
      exact body_panic rfl (GP.err HF.out ⟨rfl, grown_trans HG.out hg⟩)
    have HE9 := Lib.hid (show gUpdP l = kUpd5 nm sets whr l10 from HE.out.trans (bind_okP hok))
    clear hp hok HE
    have HE := HE9
    clear HE9
    have hq9 := HA.out.blk.lt
    have hX := d.blk HA.out.blk (by have := HA.out.qb; have := HA.out.sa.qw; omega)
    have hc : w9.cell? ⟨b, 21, none⟩ = _ := hX.cell 21
    have hf : w9.frozen? ⟨b, 21, none⟩ = _ := hX.frozen 21
    have HA9 := Lib.hid (HA.out.set (m' := { kind := 6, name := nm, sets := so, whr := ⟨A, n, c⟩ }) (d' := { kind := 6, name := nm, sets := sets, whr := whr }) hgg d 21 (.slice A n c) rfl (by simp [St.long, Qu.long, Bool.or_assoc]) (by simp [St.exprs, Qu.exprs, deepB, List.any_append, List.any_map, List.any_flatten, Function.comp_def, Bool.or_assoc]) (fun hat => { hat with whr := El.lies.more hsl (by omega) }))
    clear hX d HA
    have HA := HA9
    clear HA9
    unfold stC quC slC valC at hc
    try unfold slC
    go_upto_region 6 with fail
    clear hc hf
    generalize w9.setCell _ _ = W11 at *
    obtain ⟨swhr, hs9⟩ : ∃ s : Sl, s = ⟨A, n, c⟩ := ⟨_, rfl⟩
    rw [← hs9] at HA
    clear hs9 hq9 hsl
    have HX := Lib.hid (show gUpdP l = .ok ({ kind := 6, name := nm, sets := sets, whr := whr }, l10) from HE.out)
    obtain ⟨cs, hcs⟩ : ∃ cs, cs = (stC { kind := 6, name := nm, sets := so, whr := swhr }).toArray := ⟨_, rfl⟩
    have HSZ := Lib.hid (show (Tryz.prog.info? 35).map (·.size) = some cs.size by rw [hcs]; exact gst_info)
    have HGS := Lib.hid (show gst0.size = cs.size by rw [hcs, gst_siz]; exact gst_siz _)
    have HON := Lib.hid (show cs.all (·.oneCell') = true by rw [hcs]; exact gst_one _)
    have HBK := Lib.hid (show Blk W11 b 35 cs by rw [hcs]; exact HA.out.blk)
    have HRS := Lib.hid HA.out.sa.res
    have HPO := Lib.hid (show gstPost ρ w lg dp gUpdP l (.returned (.agg cs)) (W11.setRow (w.heap.size + 1) cs) by rw [hcs]; exact HA.out.post hgg HX.out)
    clear HA HX hcs HE
    refine wp_region_lit ?_
    refine wpList_load_row rfl 35 (.tmp 3) rfl b rfl 35 cs (0, 0) _ HBK.out Tryz.underlying35 rfl HSZ.out ?_
    refine wpList_store_row rfl 35 (.tmp 2) (.tmp 19) rfl (w.heap.size + 1) cs rfl rfl 35 gst0 HRS.out HSZ.out HGS.out HON.out ?_
    refine wpList_nil ?_
    simp only [Act.put, List.setIfInBounds_toArray, List.set_cons_succ, List.set_cons_zero]
    have HRR := Lib.hid (HRS.out.row cs)
    clear HBK HRS HON
    generalize W11.setRow (w.heap.size + 1) cs = WF at *
    go_wp2_with fail
    exact bodyPost_ret (v := .agg cs) (results_cell_row Tryz.results39 _ _ (w.heap.size + 1) 35 cs (0, 0) _ rfl HRR.out Tryz.underlying35 rfl HSZ.out) rfl HPO.out
end Go.Proofs.YtcneefmaghoejaaGreatDoor
