/- Parts of the proof: Gv8. Put together by slim.py. -/
import Derived.Deep.DeepCutAuto
import Derived.Test.YtcneefmaghoejaaGreatDoorB33
import Derived.Test.YtcneefmaghoejaaGreatDoorB34
namespace Go.Proofs.YtcneefmaghoejaaGreatDoor
open Go.ChangeShapes Go.WideShapes Go.ChangeAt Go.RowKit
set_option linter.unusedVariables false
set_option linter.unusedSimpArgs false
def kTab11 (name : ByteArray) (cols : List (ByteArray × Int)) (time : ByteArray) (every : Int) (space : ByteArray) (parts : Int) : Ps St := return { kind := 1, name, cols, time, every, space, parts }
def kTab10 (name : ByteArray) (cols : List (ByteArray × Int)) (time : ByteArray) (every : Int) (space : ByteArray) : Ps St := numP >>= fun n => kTab11 name cols time every space n
def kTab9 (name : ByteArray) (cols : List (ByteArray × Int)) (time : ByteArray) (every : Int) (space : ByteArray) : Ps St := must w_into >>= fun _ => kTab10 name cols time every space
def kTab8 (name : ByteArray) (cols : List (ByteArray × Int)) (time : ByteArray) (every : Int) : Ps St := nameP >>= fun s => kTab9 name cols time every s
def kTab7 (name : ByteArray) (cols : List (ByteArray × Int)) (time : ByteArray) (every : Int) : Ps St := spaceP >>= fun sp => (pure { kind := 1, name, cols, time, every, space := sp.1, parts := sp.2 } : Ps St)
def kTab6 (name : ByteArray) (cols : List (ByteArray × Int)) (time : ByteArray) : Ps St := numP >>= fun every => kTab7 name cols time every
def kTab5 (name : ByteArray) (cols : List (ByteArray × Int)) (time : ByteArray) : Ps St := must w_every >>= fun _ => kTab6 name cols time
def kTab4 (name : ByteArray) (cols : List (ByteArray × Int)) : Ps St := nameP >>= fun time => kTab5 name cols time
def kTab3 (name : ByteArray) (cols : List (ByteArray × Int)) : Ps St := musts [s_close, w_time] >>= fun _ => kTab4 name cols
def kTab2 (name : ByteArray) : Ps St := listP columnP >>= fun cols => kTab3 name cols
def kTab1 (name : ByteArray) : Ps St := must s_open >>= fun _ => kTab2 name
def kTab0 : Ps St := nameP >>= fun name => kTab1 name
theorem space_no {name : ByteArray} {cols : List (ByteArray × Int)} {time : ByteArray} {every : Int} {l : Wds} (h : headIs w_space l = false) : kTab7 name cols time every l = .ok ({ kind := 1, name, cols, time, every }, l) := by
  unfold kTab7 spaceP; rw [ps_assoc, may_bind]; simp only [h]; rfl
theorem space_yes {name : ByteArray} {cols : List (ByteArray × Int)} {time : ByteArray} {every : Int} {l : Wds} (h : headIs w_space l = true) : kTab7 name cols time every l = kTab8 name cols time every l.tail := by
  unfold kTab7 spaceP; rw [ps_assoc, may_bind]; simp only [h, if_true, ps_assoc]; rfl
def kVw3 (name : ByteArray) (query : Qu) : Ps St := return { kind := 2, name, query }
def kVw2 (name : ByteArray) : Ps St := queryP >>= fun query => kVw3 name query
def kVw1 (name : ByteArray) : Ps St := must w_as >>= fun _ => kVw2 name
def kVw0 : Ps St := nameP >>= fun name => kVw1 name
def kCre2 (s : List UInt8) : Ps St := if s = w_table then kTab0 else if s = w_view then kVw0 else jobP
theorem cre_t : kCre2 w_table = kTab0 := if_pos rfl
theorem cre_v : kCre2 w_view = kVw0 := (if_neg (by decide)).trans (if_pos rfl)
theorem cre_j : kCre2 w_job = jobP := (if_neg (by decide)).trans (if_neg (by decide))
def kCre1 : Ps St := anyP [w_table, w_view, w_job] >>= fun s => kCre2 s
def gCreP : Ps St := must w_create >>= fun _ => kCre1
set_option maxHeartbeats 4000000 in
set_option maxRecDepth 100000 in
theorem gcreate_any (ρ : Rdr) (w : World) (l : Wds) (lg dp : Bool) (h : ρ.gat w l lg dp) :
    Calls Tryz.prog 36 #[ρ.ptr] w (gstPost ρ w lg dp gCreP l) := by
  have hgg := h.lt_
  have b2 := Later.then (later_new w (.cells #[ρ.ptr] 58)) (later_new _ (gstZ {}))
  have hP := (Blk.new w 58 #[ρ.ptr]).alloc (gstZ {})
  have hR := Blk.new (w.alloc (.cells #[ρ.ptr] 58)) 35 gst0
  rw [World.size_alloc] at hR
  have HS := Lib.hid (show GSa ρ w (w.heap.size + 1) [w.heap.size] lg dp ((w.alloc (.cells #[ρ.ptr] 58)).alloc (gstZ {})) l from ⟨GDid.of_later h b2, hR, Nat.le_succ _, fun p hp => by simp at hp; subst hp; exact ⟨Nat.le_refl _, by omega, hP⟩⟩)
  have hmf : ∀ fn first cap w, (Instr.makeFunc fn first cap).run Tryz.prog w = .ok (.func fn first cap) w := fun _ _ _ _ => rfl
  have HE := Lib.hid (show gCreP l = (must w_create >>= fun _ => kCre1) l from rfl)
  clear h b2 hP hR
  go_enter Tryz.func36, Tryz.ntmps36
  go_upto_region 1 with fail
  change Code.wp _ _ _ _ ((w.alloc (.cells #[ρ.ptr] 58)).alloc (gstZ {}))
  generalize hW : (World.alloc _ _) = W0 at *
  clear hW
  have hqw : w.heap.size + 1 < W0.heap.size := HS.out.res.lt
  have hb := later_new W0 (.cells (strsC [w_create]) 9)
  have HB := Lib.hid (HS.out.later hb)
  have hq9 := HS.out.res.lt
  have p0 := HS.out.ptr
  have hm := gmust_any ρ _ l _ _ HB.out.did.at_ [w_create] W0.heap.size 1 rfl (Blk.new W0 _ _) (by omega) (by omega)
  clear hb HS
  unfold strsC strOf at hm HB
  simp only [List.map_cons, List.map_nil] at hm HB
  rw [show w_create.toArray = #[99, 114, 101, 97, 116, 101] from rfl] at hm HB
  go_wp2_with fail
  refine hm.mono ?_
  clear hm p0
  intro e w1 hp
  rcases hp.cases with ⟨_, l2, v9, hok, rfl, rfl, d⟩ | ⟨m, herr, rfl, hg⟩
  case inr =>
    have HF := Lib.hid (show gCreP l = .error m from HE.out.trans (bind_errP (show must w_create l = .error m by rw [← musts_one]; exact herr)))
    have HG := Lib.hid HB.out.did.grown
    clear hp herr
    go_wp2_with fail
    exact body_panic rfl (GP.err HF.out ⟨rfl, grown_trans HG.out hg⟩)
  have HE9 := Lib.hid (show gCreP l = kCre1 l2 from HE.out.trans (bind_okP (show must w_create l = .ok ((), l2) by rw [← musts_one]; exact hok)))
  have HS := Lib.hid (HB.out.go hgg d)
  clear hp hok d HB HE hq9
  have HE := HE9
  clear HE9
  have hb := later_new w1 (.cells (strsC [w_table, w_view, w_job]) 9)
  have HB := Lib.hid (HS.out.later hb)
  have hq9 := HS.out.res.lt
  have p0 := HS.out.ptr
  have hm := gone_any ρ _ l2 _ _ HB.out.did.at_ [w_table, w_view, w_job] w1.heap.size 3 rfl (Blk.new w1 _ _) (by omega) (by omega)
  clear hb HS
  unfold strsC strOf at hm HB
  simp only [List.map_cons, List.map_nil] at hm HB
  rw [show w_table.toArray = #[116, 97, 98, 108, 101] from rfl, show w_view.toArray = #[118, 105, 101, 119] from rfl, show w_job.toArray = #[106, 111, 98] from rfl] at hm HB
  go_wp2_with fail
  refine hm.mono ?_
  clear hm p0
  intro e w3 hp
  rcases hp.cases with ⟨sx, l4, v9, hok, rfl, rfl, d⟩ | ⟨m, herr, rfl, hg⟩
  case inr =>
    have HF := Lib.hid (show gCreP l = .error m from HE.out.trans (bind_errP herr))
    have HG := Lib.hid HB.out.did.grown
    clear hp herr
    go_wp2_with fail
    exact body_panic rfl (GP.err HF.out ⟨rfl, grown_trans HG.out hg⟩)
  have HMEM := Lib.hid (any_mem hok)
  have HE9 := Lib.hid (show gCreP l = kCre2 sx l4 from HE.out.trans (bind_okP hok))
  have HS := Lib.hid (HB.out.go hgg d)
  clear hp hok d HB HE hq9
  have HE := HE9
  clear HE9
  try unfold strOf
  have hmem := HMEM.out
  clear HMEM
  simp only [List.mem_cons, List.not_mem_nil, or_false] at hmem
  rcases hmem with rfl | rfl | rfl
  · rw [show w_table.toArray = #[116, 97, 98, 108, 101] from rfl]
    have HE9 := Lib.hid (show gCreP l = kTab0 l4 from HE.out.trans (congrFun cre_t _))
    clear HE
    have HE := HE9
    clear HE9
    go_upto_region 10 with fail
    have p0 := HS.out.ptr
    go_wp2_with fail
    refine (gname_any ρ w3 l4 _ _ HS.out.did.at_).mono ?_
    clear p0
    intro e w5 hp
    rcases hp.cases with ⟨nm, l6, v9, hok, rfl, rfl, d⟩ | ⟨m, herr, rfl, hg⟩
    case inr =>
      have HF := Lib.hid (show gCreP l = .error m from HE.out.trans (bind_errP herr))
      have HG := Lib.hid HS.out.did.grown
      clear hp herr
      go_wp2_with fail
      exact body_panic rfl (GP.err HF.out ⟨rfl, grown_trans HG.out hg⟩)
    have HE9 := Lib.hid (show gCreP l = kTab1 nm l6 from HE.out.trans (bind_okP hok))
    clear hp hok HE
    have HE := HE9
    clear HE9
    have hw9 := d.size
    have HS9 := Lib.hid (HS.out.go hgg d)
    have hbq := HS9.out.res.lt
    obtain ⟨cs, hcs⟩ : ∃ cs, cs = (stC { kind := 1, name := nm }).toArray := ⟨_, rfl⟩
    have HSZ := Lib.hid (show (Tryz.prog.info? 35).map (·.size) = some cs.size by rw [hcs]; exact gst_info)
    have HGS := Lib.hid (show gst0.size = cs.size by rw [hcs, gst_siz]; exact gst_siz _)
    have HON := Lib.hid (show cs.all (·.oneCell') = true by rw [hcs]; exact gst_one _)
    have HBU := Lib.hid (show Tryz.prog.built 35 [(0, .int .u8 1), (1, .string nm)] = some cs by rw [hcs]; exact gst_built _ _)
    have HA := Lib.hid (show GSt ρ w (w.heap.size + 1) [w.heap.size] lg dp w5.heap.size (w5.alloc (.cells cs 35)) l6 { kind := 1, name := nm } { kind := 1, name := nm } by
      rw [hcs]
      exact HS9.out.start (lg2 := lg) (dp2 := dp) { kind := 1, name := nm } { kind := 1, name := nm } (fun p hp => by simp at hp; subst hp; omega) (by simp [St.long, Qu.long]) (by simp [St.exprs, Qu.exprs, deepB]) (by simp [St.long, Qu.long]) (fun W S => { St.at_nil W S with kind := rfl, name := rfl }))
    clear d HS HS9 hcs
    go_upto_region 11 with (first
      | (refine gbuild_is rfl 35 _ rfl (cs := cs) ?hv ?_; rotate_left)
      | (refine wpList_store_row rfl 35 (.tmp 4) (.tmp 29) rfl w5.heap.size cs rfl rfl 35 gst0 (Blk.new w5 35 gst0) HSZ.out HGS.out HON.out ?_
         rw [alloc_row]))
    case hv => exact HBU.out
    generalize hb : w5.heap.size = b at *
    generalize hW : (World.alloc _ _) = WB at *
    clear hW hb hw9 HBU HON HGS HSZ
    have hb := later_new WB (.cells (strsC [s_open]) 9)
    have HB := Lib.hid (HA.out.later hb)
    have hq9 := HA.out.blk.lt
    have p0 := HA.out.sa.ptr
    have hm := gmust_any ρ _ l6 _ _ HB.out.sa.did.at_ [s_open] WB.heap.size 1 rfl (Blk.new WB _ _) (by omega) (by omega)
    clear hb HA
    unfold strsC strOf at hm HB
    simp only [List.map_cons, List.map_nil] at hm HB
    rw [show s_open.toArray = #[40] from rfl] at hm HB
    go_wp2_with fail
    refine hm.mono ?_
    clear hm p0
    intro e w7 hp
    rcases hp.cases with ⟨_, l8, v9, hok, rfl, rfl, d⟩ | ⟨m, herr, rfl, hg⟩
    case inr =>
      have HF := Lib.hid (show gCreP l = .error m from HE.out.trans (bind_errP (show must s_open l6 = .error m by rw [← musts_one]; exact herr)))
      have HG := Lib.hid HB.out.sa.did.grown
      clear hp herr
      go_wp2_with fail
      exact body_panic rfl (GP.err HF.out ⟨rfl, grown_trans HG.out hg⟩)
    have HE9 := Lib.hid (show gCreP l = kTab2 nm l8 from HE.out.trans (bind_okP (show must s_open l6 = .ok ((), l8) by rw [← musts_one]; exact hok)))
    have HA := Lib.hid (HB.out.go hgg d)
    clear hp hok d HB HE hq9
    have HE := HE9
    clear HE9
    have p0 := HA.out.sa.ptr
    have F := HA.out.fit hgg 2 (by decide)
    have L : Lst ρ w (fun _ => false) columnP 73 #[.pointer (some ⟨w.heap.size, 0, none⟩), .pointer (some ⟨b, 0, none⟩)] ((stG ρ w (w.heap.size + 1) w.heap.size b { kind := 1, name := nm } { kind := 1, name := nm } 2).acc elCol 71) :=
      ⟨sane_columnP, enters_of Tryz.func73 (by kernel_rfl) rfl, fun acc a b hs hg _ => by obtain ⟨v, h⟩ := hs; exact ⟨v, h.grown F hg⟩, fun acc W l lg dp hn hs hd => gcolumn_read _ F rfl rfl acc W l lg dp hn hs hd⟩
    have hm := glist_any ρ w (fun _ => false) columnP 73 #[.pointer (some ⟨w.heap.size, 0, none⟩), .pointer (some ⟨b, 0, none⟩)] _ L w7 l8 _ _ HA.out.sa.did (HA.out.start elCol 71 2 rfl) hgg
    clear L F
    go_wp2_with fail
    refine hm.mono ?_
    clear hm p0
    intro e w9 hp
    unfold lstPost at hp
    cases hx : listP columnP l8 with
    | error m =>
      rw [hx] at hp
      obtain ⟨rfl, hg⟩ := hp
      have HF := Lib.hid (show gCreP l = .error m from HE.out.trans (bind_errP hx))
      clear hx
      go_wp2_with fail
      exact body_panic rfl (GP.err HF.out ⟨rfl, hg⟩)
    | ok z =>
      obtain ⟨cols, l10⟩ := z
      rw [hx] at hp
      obtain ⟨rfl, hs, hd⟩ := hp
      obtain ⟨so, hA⟩ := HA.out.list (m' := fun so => { kind := 1, name := nm, cols := so }) (d' := { kind := 1, name := nm, cols := cols }) hs hd (fun _ => rfl) (by simp [St.long, Qu.long, Bool.or_assoc]) (by rw [bool_none]; simp [St.exprs, Qu.exprs, deepB]) (fun so hsl hat => { hat with cols := hsl })
      have HE9 := Lib.hid (show gCreP l = kTab3 nm cols l10 from HE.out.trans (bind_okP hx))
      have HA9 := Lib.hid hA
      clear hx hA hs hd HA HE
      have HA := HA9
      have HE := HE9
      clear HA9 HE9
      go_upto_region 13 with fail
      have hb := later_new w9 (.cells (strsC [s_close, w_time]) 9)
      have HB := Lib.hid (HA.out.later hb)
      have hq9 := HA.out.blk.lt
      have p0 := HA.out.sa.ptr
      have hm := gmust_any ρ _ l10 _ _ HB.out.sa.did.at_ [s_close, w_time] w9.heap.size 2 rfl (Blk.new w9 _ _) (by omega) (by omega)
      clear hb HA
      unfold strsC strOf at hm HB
      simp only [List.map_cons, List.map_nil] at hm HB
      rw [show s_close.toArray = #[41] from rfl, show w_time.toArray = #[116, 105, 109, 101] from rfl] at hm HB
      go_wp2_with fail
      refine hm.mono ?_
      clear hm p0
      intro e w11 hp
      rcases hp.cases with ⟨_, l12, v9, hok, rfl, rfl, d⟩ | ⟨m, herr, rfl, hg⟩
      case inr =>
        have HF := Lib.hid (show gCreP l = .error m from HE.out.trans (bind_errP (show musts [s_close, w_time] l10 = .error m from herr)))
        have HG := Lib.hid HB.out.sa.did.grown
        clear hp herr
        go_wp2_with fail
        exact body_panic rfl (GP.err HF.out ⟨rfl, grown_trans HG.out hg⟩)
      have HE9 := Lib.hid (show gCreP l = kTab4 nm cols l12 from HE.out.trans (bind_okP (show musts [s_close, w_time] l10 = .ok (_, l12) from hok)))
      have HA := Lib.hid (HB.out.go hgg d)
      clear hp hok d HB HE hq9
      have HE := HE9
      clear HE9
      go_upto_region 14 with fail
      have p0 := HA.out.sa.ptr
      go_wp2_with fail
      refine (gname_any ρ w11 l12 _ _ HA.out.sa.did.at_).mono ?_
      clear p0
      intro e w13 hp
      rcases hp.cases with ⟨time, l14, v9, hok, rfl, rfl, d⟩ | ⟨m, herr, rfl, hg⟩
      case inr =>
        have HF := Lib.hid (show gCreP l = .error m from HE.out.trans (bind_errP herr))
        have HG := Lib.hid HA.out.sa.did.grown
        clear hp herr
        go_wp2_with fail
        exact body_panic rfl (GP.err HF.out ⟨rfl, grown_trans HG.out hg⟩)
      have HE9 := Lib.hid (show gCreP l = kTab5 nm cols time l14 from HE.out.trans (bind_okP hok))
      clear hp hok HE
      have HE := HE9
      clear HE9
      have hX := d.blk HA.out.blk (by have := HA.out.qb; have := HA.out.sa.qw; omega)
      have hc : w13.cell? ⟨b, 3, none⟩ = _ := hX.cell 3
      have hf : w13.frozen? ⟨b, 3, none⟩ = _ := hX.frozen 3
      have HA9 := Lib.hid (HA.out.set (m' := { kind := 1, name := nm, cols := so, time := time }) (d' := { kind := 1, name := nm, cols := cols, time := time }) hgg d 3 (.string time) rfl (rfl) (rfl) (fun hat => { hat with time := rfl }))
      clear hX d HA
      have HA := HA9
      clear HA9
      unfold stC quC slC valC at hc
      try unfold slC
      go_upto_region 15 with fail
      clear hc hf
      generalize w13.setCell _ _ = W15 at *
      have hb := later_new W15 (.cells (strsC [w_every]) 9)
      have HB := Lib.hid (HA.out.later hb)
      have hq9 := HA.out.blk.lt
      have p0 := HA.out.sa.ptr
      have hm := gmust_any ρ _ l14 _ _ HB.out.sa.did.at_ [w_every] W15.heap.size 1 rfl (Blk.new W15 _ _) (by omega) (by omega)
      clear hb HA
      unfold strsC strOf at hm HB
      simp only [List.map_cons, List.map_nil] at hm HB
      rw [show w_every.toArray = #[101, 118, 101, 114, 121] from rfl] at hm HB
      go_wp2_with fail
      refine hm.mono ?_
      clear hm p0
      intro e w16 hp
      rcases hp.cases with ⟨_, l17, v9, hok, rfl, rfl, d⟩ | ⟨m, herr, rfl, hg⟩
      case inr =>
        have HF := Lib.hid (show gCreP l = .error m from HE.out.trans (bind_errP (show must w_every l14 = .error m by rw [← musts_one]; exact herr)))
        have HG := Lib.hid HB.out.sa.did.grown
        clear hp herr
        go_wp2_with fail
        exact body_panic rfl (GP.err HF.out ⟨rfl, grown_trans HG.out hg⟩)
      have HE9 := Lib.hid (show gCreP l = kTab6 nm cols time l17 from HE.out.trans (bind_okP (show must w_every l14 = .ok ((), l17) by rw [← musts_one]; exact hok)))
      have HA := Lib.hid (HB.out.go hgg d)
      clear hp hok d HB HE hq9
      have HE := HE9
      clear HE9
      go_upto_region 16 with fail
      have p0 := HA.out.sa.ptr
      go_wp2_with fail
      refine (gnumber_any ρ w16 l17 _ _ HA.out.sa.did.at_).mono ?_
      clear p0
      intro e w18 hp
      rcases hp.cases with ⟨every, l19, v9, hok, rfl, rfl, _, d⟩ | ⟨m, herr, rfl, hg⟩
      case inr =>
        have HF := Lib.hid (show gCreP l = .error m from HE.out.trans (bind_errP herr))
        have HG := Lib.hid HA.out.sa.did.grown
        clear hp herr
        go_wp2_with fail
        exact body_panic rfl (GP.err HF.out ⟨rfl, grown_trans HG.out hg⟩)
      have HE9 := Lib.hid (show gCreP l = kTab7 nm cols time every l19 from HE.out.trans (bind_okP hok))
      clear hp hok HE
      have HE := HE9
      clear HE9
      have hX := d.blk HA.out.blk (by have := HA.out.qb; have := HA.out.sa.qw; omega)
      have hc : w18.cell? ⟨b, 4, none⟩ = _ := hX.cell 4
      have hf : w18.frozen? ⟨b, 4, none⟩ = _ := hX.frozen 4
      have HA9 := Lib.hid (HA.out.set (m' := { kind := 1, name := nm, cols := so, time := time, every := every }) (d' := { kind := 1, name := nm, cols := cols, time := time, every := every }) hgg d 4 (.int .i64 every) rfl (rfl) (rfl) (fun hat => { hat with every := rfl }))
      clear hX d HA
      have HA := HA9
      clear HA9
      unfold stC quC slC valC at hc
      try unfold slC
      go_upto_region 17 with fail
      clear hc hf
      generalize w18.setCell _ _ = W20 at *
      have p0 := HA.out.sa.ptr
      have hm := ghave_any ρ W20 l19 _ _ HA.out.sa.did.at_ ⟨#[115, 112, 97, 99, 101]⟩
      rw [show (⟨#[115, 112, 97, 99, 101]⟩ : ByteArray).data.toList = w_space from rfl] at hm
      go_wp2_with fail
      refine hm.mono ?_
      clear hm p0
      rintro e wS ⟨rfl, d⟩
      have HA9 := Lib.hid (HA.out.go hgg d)
      clear d HA
      have HA := HA9
      clear HA9
      cases hst : headIs w_space l19
      · rw [after_no hst] at HA
        have HE9 := Lib.hid (show gCreP l = .ok ({ kind := 1, name := nm, cols := cols, time := time, every := every }, l19) from HE.out.trans (space_no hst))
        clear HE hst
        have HE := HE9
        clear HE9
        go_upto_region 21 with fail
        have HX := Lib.hid (show gCreP l = .ok ({ kind := 1, name := nm, cols := cols, time := time, every := every }, l19) from HE.out)
        obtain ⟨cs, hcs⟩ : ∃ cs, cs = (stC { kind := 1, name := nm, cols := so, time := time, every := every }).toArray := ⟨_, rfl⟩
        have HSZ := Lib.hid (show (Tryz.prog.info? 35).map (·.size) = some cs.size by rw [hcs]; exact gst_info)
        have HGS := Lib.hid (show gst0.size = cs.size by rw [hcs, gst_siz]; exact gst_siz _)
        have HON := Lib.hid (show cs.all (·.oneCell') = true by rw [hcs]; exact gst_one _)
        have HBK := Lib.hid (show Blk wS b 35 cs by rw [hcs]; exact HA.out.blk)
        have HRS := Lib.hid HA.out.sa.res
        have HPO := Lib.hid (show gstPost ρ w lg dp gCreP l (.returned (.agg cs)) (wS.setRow (w.heap.size + 1) cs) by rw [hcs]; exact HA.out.post hgg HX.out)
        clear HA HX hcs HE
        refine wp_region_lit ?_
        refine wpList_load_row rfl 35 (.tmp 4) rfl b rfl 35 cs (0, 0) _ HBK.out Tryz.underlying35 rfl HSZ.out ?_
        refine wpList_store_row rfl 35 (.tmp 2) (.tmp 59) rfl (w.heap.size + 1) cs rfl rfl 35 gst0 HRS.out HSZ.out HGS.out HON.out ?_
        refine wpList_nil ?_
        simp only [Act.put, List.setIfInBounds_toArray, List.set_cons_succ, List.set_cons_zero]
        have HRR := Lib.hid (HRS.out.row cs)
        clear HBK HRS HON
        generalize wS.setRow (w.heap.size + 1) cs = WF at *
        go_wp2_with fail
        exact bodyPost_ret (v := .agg cs) (results_cell_row Tryz.results36 _ _ (w.heap.size + 1) 35 cs (0, 0) _ rfl HRR.out Tryz.underlying35 rfl HSZ.out) rfl HPO.out
      · rw [after_yes hst] at HA
        have HE9 := Lib.hid (show gCreP l = kTab8 nm cols time every l19.tail from HE.out.trans (space_yes hst))
        clear HE hst
        have HE := HE9
        clear HE9
        have p0 := HA.out.sa.ptr
        go_wp2_with fail
        refine (gname_any ρ wS l19.tail _ _ HA.out.sa.did.at_).mono ?_
        clear p0
        intro e w21 hp
        rcases hp.cases with ⟨spc, l22, v9, hok, rfl, rfl, d⟩ | ⟨m, herr, rfl, hg⟩
        case inr =>
          have HF := Lib.hid (show gCreP l = .error m from HE.out.trans (bind_errP herr))
          have HG := Lib.hid HA.out.sa.did.grown
          clear hp herr
          go_wp2_with fail
          exact body_panic rfl (GP.err HF.out ⟨rfl, grown_trans HG.out hg⟩)
        have HE9 := Lib.hid (show gCreP l = kTab9 nm cols time every spc l22 from HE.out.trans (bind_okP hok))
        clear hp hok HE
        have HE := HE9
        clear HE9
        have hX := d.blk HA.out.blk (by have := HA.out.qb; have := HA.out.sa.qw; omega)
        have hc : w21.cell? ⟨b, 5, none⟩ = _ := hX.cell 5
        have hf : w21.frozen? ⟨b, 5, none⟩ = _ := hX.frozen 5
        have HA9 := Lib.hid (HA.out.set (m' := { kind := 1, name := nm, cols := so, time := time, every := every, space := spc }) (d' := { kind := 1, name := nm, cols := cols, time := time, every := every, space := spc }) hgg d 5 (.string spc) rfl (rfl) (rfl) (fun hat => { hat with space := rfl }))
        clear hX d HA
        have HA := HA9
        clear HA9
        unfold stC quC slC valC at hc
        try unfold slC
        go_upto_region 19 with fail
        clear hc hf
        generalize w21.setCell _ _ = W23 at *
        have hb := later_new W23 (.cells (strsC [w_into]) 9)
        have HB := Lib.hid (HA.out.later hb)
        have hq9 := HA.out.blk.lt
        have p0 := HA.out.sa.ptr
        have hm := gmust_any ρ _ l22 _ _ HB.out.sa.did.at_ [w_into] W23.heap.size 1 rfl (Blk.new W23 _ _) (by omega) (by omega)
        clear hb HA
        unfold strsC strOf at hm HB
        simp only [List.map_cons, List.map_nil] at hm HB
        rw [show w_into.toArray = #[105, 110, 116, 111] from rfl] at hm HB
        go_wp2_with fail
        refine hm.mono ?_
        clear hm p0
        intro e w24 hp
        rcases hp.cases with ⟨_, l25, v9, hok, rfl, rfl, d⟩ | ⟨m, herr, rfl, hg⟩
        case inr =>
          have HF := Lib.hid (show gCreP l = .error m from HE.out.trans (bind_errP (show must w_into l22 = .error m by rw [← musts_one]; exact herr)))
          have HG := Lib.hid HB.out.sa.did.grown
          clear hp herr
          go_wp2_with fail
          exact body_panic rfl (GP.err HF.out ⟨rfl, grown_trans HG.out hg⟩)
        have HE9 := Lib.hid (show gCreP l = kTab10 nm cols time every spc l25 from HE.out.trans (bind_okP (show must w_into l22 = .ok ((), l25) by rw [← musts_one]; exact hok)))
        have HA := Lib.hid (HB.out.go hgg d)
        clear hp hok d HB HE hq9
        have HE := HE9
        clear HE9
        go_upto_region 20 with fail
        have p0 := HA.out.sa.ptr
        go_wp2_with fail
        refine (gnumber_any ρ w24 l25 _ _ HA.out.sa.did.at_).mono ?_
        clear p0
        intro e w26 hp
        rcases hp.cases with ⟨prt, l27, v9, hok, rfl, rfl, _, d⟩ | ⟨m, herr, rfl, hg⟩
        case inr =>
          have HF := Lib.hid (show gCreP l = .error m from HE.out.trans (bind_errP herr))
          have HG := Lib.hid HA.out.sa.did.grown
          clear hp herr
          go_wp2_with fail
          exact body_panic rfl (GP.err HF.out ⟨rfl, grown_trans HG.out hg⟩)
        have HE9 := Lib.hid (show gCreP l = kTab11 nm cols time every spc prt l27 from HE.out.trans (bind_okP hok))
        clear hp hok HE
        have HE := HE9
        clear HE9
        have hX := d.blk HA.out.blk (by have := HA.out.qb; have := HA.out.sa.qw; omega)
        have hc : w26.cell? ⟨b, 6, none⟩ = _ := hX.cell 6
        have hf : w26.frozen? ⟨b, 6, none⟩ = _ := hX.frozen 6
        have HA9 := Lib.hid (HA.out.set (m' := { kind := 1, name := nm, cols := so, time := time, every := every, space := spc, parts := prt }) (d' := { kind := 1, name := nm, cols := cols, time := time, every := every, space := spc, parts := prt }) hgg d 6 (.int .i64 prt) rfl (rfl) (rfl) (fun hat => { hat with parts := rfl }))
        clear hX d HA
        have HA := HA9
        clear HA9
        unfold stC quC slC valC at hc
        try unfold slC
        go_upto_region 21 with fail
        clear hc hf
        generalize w26.setCell _ _ = W28 at *
        have HX := Lib.hid (show gCreP l = .ok ({ kind := 1, name := nm, cols := cols, time := time, every := every, space := spc, parts := prt }, l27) from HE.out)
        obtain ⟨cs, hcs⟩ : ∃ cs, cs = (stC { kind := 1, name := nm, cols := so, time := time, every := every, space := spc, parts := prt }).toArray := ⟨_, rfl⟩
        have HSZ := Lib.hid (show (Tryz.prog.info? 35).map (·.size) = some cs.size by rw [hcs]; exact gst_info)
        have HGS := Lib.hid (show gst0.size = cs.size by rw [hcs, gst_siz]; exact gst_siz _)
        have HON := Lib.hid (show cs.all (·.oneCell') = true by rw [hcs]; exact gst_one _)
        have HBK := Lib.hid (show Blk W28 b 35 cs by rw [hcs]; exact HA.out.blk)
        have HRS := Lib.hid HA.out.sa.res
        have HPO := Lib.hid (show gstPost ρ w lg dp gCreP l (.returned (.agg cs)) (W28.setRow (w.heap.size + 1) cs) by rw [hcs]; exact HA.out.post hgg HX.out)
        clear HA HX hcs HE
        refine wp_region_lit ?_
        refine wpList_load_row rfl 35 (.tmp 4) rfl b rfl 35 cs (0, 0) _ HBK.out Tryz.underlying35 rfl HSZ.out ?_
        refine wpList_store_row rfl 35 (.tmp 2) (.tmp 59) rfl (w.heap.size + 1) cs rfl rfl 35 gst0 HRS.out HSZ.out HGS.out HON.out ?_
        refine wpList_nil ?_
        simp only [Act.put, List.setIfInBounds_toArray, List.set_cons_succ, List.set_cons_zero]
        have HRR := Lib.hid (HRS.out.row cs)
        clear HBK HRS HON
        generalize W28.setRow (w.heap.size + 1) cs = WF at *
        go_wp2_with fail
        exact bodyPost_ret (v := .agg cs) (results_cell_row Tryz.results36 _ _ (w.heap.size + 1) 35 cs (0, 0) _ rfl HRR.out Tryz.underlying35 rfl HSZ.out) rfl HPO.out
  · rw [show w_view.toArray = #[118, 105, 101, 119] from rfl]
    have HE9 := Lib.hid (show gCreP l = kVw0 l4 from HE.out.trans (congrFun cre_v _))
    clear HE
    have HE := HE9
    clear HE9
    go_upto_region 4 with fail
    have p0 := HS.out.ptr
    go_wp2_with fail
    refine (gname_any ρ w3 l4 _ _ HS.out.did.at_).mono ?_
    clear p0
    intro e w5 hp
    rcases hp.cases with ⟨nm, l6, v9, hok, rfl, rfl, d⟩ | ⟨m, herr, rfl, hg⟩
    case inr =>
      have HF := Lib.hid (show gCreP l = .error m from HE.out.trans (bind_errP herr))
      have HG := Lib.hid HS.out.did.grown
      clear hp herr
      go_wp2_with fail
      exact body_panic rfl (GP.err HF.out ⟨rfl, grown_trans HG.out hg⟩)
    have HE9 := Lib.hid (show gCreP l = kVw1 nm l6 from HE.out.trans (bind_okP hok))
    clear hp hok HE
    have HE := HE9
    clear HE9
    have hw9 := d.size
    have HS9 := Lib.hid (HS.out.go hgg d)
    have hbq := HS9.out.res.lt
    obtain ⟨cs, hcs⟩ : ∃ cs, cs = (stC { kind := 2, name := nm }).toArray := ⟨_, rfl⟩
    have HSZ := Lib.hid (show (Tryz.prog.info? 35).map (·.size) = some cs.size by rw [hcs]; exact gst_info)
    have HGS := Lib.hid (show gst0.size = cs.size by rw [hcs, gst_siz]; exact gst_siz _)
    have HON := Lib.hid (show cs.all (·.oneCell') = true by rw [hcs]; exact gst_one _)
    have HBU := Lib.hid (show Tryz.prog.built 35 [(0, .int .u8 2), (1, .string nm)] = some cs by rw [hcs]; exact gst_built _ _)
    have HA := Lib.hid (show GSt ρ w (w.heap.size + 1) [w.heap.size] lg dp w5.heap.size (w5.alloc (.cells cs 35)) l6 { kind := 2, name := nm } { kind := 2, name := nm } by
      rw [hcs]
      exact HS9.out.start (lg2 := lg) (dp2 := dp) { kind := 2, name := nm } { kind := 2, name := nm } (fun p hp => by simp at hp; subst hp; omega) (by simp [St.long, Qu.long]) (by simp [St.exprs, Qu.exprs, deepB]) (by simp [St.long, Qu.long]) (fun W S => { St.at_nil W S with kind := rfl, name := rfl }))
    clear d HS HS9 hcs
    go_upto_region 5 with (first
      | (refine gbuild_is rfl 35 _ rfl (cs := cs) ?hv ?_; rotate_left)
      | (refine wpList_store_row rfl 35 (.tmp 3) (.tmp 15) rfl w5.heap.size cs rfl rfl 35 gst0 (Blk.new w5 35 gst0) HSZ.out HGS.out HON.out ?_
         rw [alloc_row]))
    case hv => exact HBU.out
    generalize hb : w5.heap.size = b at *
    generalize hW : (World.alloc _ _) = WB at *
    clear hW hb hw9 HBU HON HGS HSZ
    have hb := later_new WB (.cells (strsC [w_as]) 9)
    have HB := Lib.hid (HA.out.later hb)
    have hq9 := HA.out.blk.lt
    have p0 := HA.out.sa.ptr
    have hm := gmust_any ρ _ l6 _ _ HB.out.sa.did.at_ [w_as] WB.heap.size 1 rfl (Blk.new WB _ _) (by omega) (by omega)
    clear hb HA
    unfold strsC strOf at hm HB
    simp only [List.map_cons, List.map_nil] at hm HB
    rw [show w_as.toArray = #[97, 115] from rfl] at hm HB
    go_wp2_with fail
    refine hm.mono ?_
    clear hm p0
    intro e w7 hp
    rcases hp.cases with ⟨_, l8, v9, hok, rfl, rfl, d⟩ | ⟨m, herr, rfl, hg⟩
    case inr =>
      have HF := Lib.hid (show gCreP l = .error m from HE.out.trans (bind_errP (show must w_as l6 = .error m by rw [← musts_one]; exact herr)))
      have HG := Lib.hid HB.out.sa.did.grown
      clear hp herr
      go_wp2_with fail
      exact body_panic rfl (GP.err HF.out ⟨rfl, grown_trans HG.out hg⟩)
    have HE9 := Lib.hid (show gCreP l = kVw2 nm l8 from HE.out.trans (bind_okP (show must w_as l6 = .ok ((), l8) by rw [← musts_one]; exact hok)))
    have HA := Lib.hid (HB.out.go hgg d)
    clear hp hok d HB HE hq9
    have HE := HE9
    clear HE9
    have p0 := HA.out.sa.ptr
    go_wp2_with fail
    refine (gquery_any ρ w7 l8 _ _ HA.out.sa.did.at_).mono ?_
    clear p0
    intro e w9 hp
    rcases GP.cases hp with ⟨qd, l10, v9, hok, rfl, qy, rfl, hat9, d⟩ | ⟨m, herr, rfl, hg⟩
    case inr =>
      have HF := Lib.hid (show gCreP l = .error m from HE.out.trans (bind_errP herr))
      have HG := Lib.hid HA.out.sa.did.grown
      clear hp herr
      go_wp2_with fail
      exact body_panic rfl (GP.err HF.out ⟨rfl, grown_trans HG.out hg⟩)
    have HE9 := Lib.hid (show gCreP l = kVw3 nm qd l10 from HE.out.trans (bind_okP hok))
    clear hp hok HE
    have HE := HE9
    clear HE9
    have hX := d.blk HA.out.blk (by have := HA.out.qb; have := HA.out.sa.qw; omega)
    have x7 : w9.cell? ⟨b, 7, none⟩ = _ := hX.cell 7
    have f7 : w9.frozen? ⟨b, 7, none⟩ = _ := hX.frozen 7
    have x8 : w9.cell? ⟨b, 8, none⟩ = _ := hX.cell 8
    have f8 : w9.frozen? ⟨b, 8, none⟩ = _ := hX.frozen 8
    have x9 : w9.cell? ⟨b, 9, none⟩ = _ := hX.cell 9
    have f9 : w9.frozen? ⟨b, 9, none⟩ = _ := hX.frozen 9
    have x10 : w9.cell? ⟨b, 10, none⟩ = _ := hX.cell 10
    have f10 : w9.frozen? ⟨b, 10, none⟩ = _ := hX.frozen 10
    have x11 : w9.cell? ⟨b, 11, none⟩ = _ := hX.cell 11
    have f11 : w9.frozen? ⟨b, 11, none⟩ = _ := hX.frozen 11
    have x12 : w9.cell? ⟨b, 12, none⟩ = _ := hX.cell 12
    have f12 : w9.frozen? ⟨b, 12, none⟩ = _ := hX.frozen 12
    have x13 : w9.cell? ⟨b, 13, none⟩ = _ := hX.cell 13
    have f13 : w9.frozen? ⟨b, 13, none⟩ = _ := hX.frozen 13
    have x14 : w9.cell? ⟨b, 14, none⟩ = _ := hX.cell 14
    have f14 : w9.frozen? ⟨b, 14, none⟩ = _ := hX.frozen 14
    have HA9 := Lib.hid (HA.out.query (m' := { kind := 2, name := nm, query := qy }) (d' := { kind := 2, name := nm, query := qd }) hgg d (by simp only [stC, gsetQ7, quC, valC, List.setIfInBounds_toArray, List.cons_append, List.nil_append, List.set_cons_zero, List.set_cons_succ]; rfl) (by simp [St.long, Qu.long, Bool.or_assoc]) (by simp [St.exprs, Qu.exprs, deepB, List.any_append, List.any_map, List.any_flatten, Function.comp_def, Bool.or_assoc]) (fun hat => { hat with query := Qu.at_.keep (btw_more (by have := HA.out.blk.lt; omega)) hat9 }))
    clear hX d HA hat9
    have HA := HA9
    clear HA9
    unfold stC quC slC valC at x7 x8 x9 x10 x11 x12 x13 x14
    unfold quV quC
    obtain ⟨⟨iA, iN, iC⟩, qf, qo, ⟨wA, wN, wC⟩, ⟨gA, gN, gC⟩, ⟨hA, hN, hC⟩, ⟨oA, oN, oC⟩, ⟨lA, lN, lC⟩⟩ := qy
    unfold slC
    go_upto_region 7 with fail
    change Code.wp _ _ _ _ (gputQ7 w9 b ⟨⟨iA, iN, iC⟩, qf, qo, ⟨wA, wN, wC⟩, ⟨gA, gN, gC⟩, ⟨hA, hN, hC⟩, ⟨oA, oN, oC⟩, ⟨lA, lN, lC⟩⟩)
    clear x7 x8 x9 x10 x11 x12 x13 x14 f7 f8 f9 f10 f11 f12 f13 f14
    generalize gputQ7 w9 b _ = WQ at *
    have HX := Lib.hid (show gCreP l = .ok ({ kind := 2, name := nm, query := qd }, l10) from HE.out)
    obtain ⟨cs, hcs⟩ : ∃ cs, cs = (stC { kind := 2, name := nm, query := ⟨⟨iA, iN, iC⟩, qf, qo, ⟨wA, wN, wC⟩, ⟨gA, gN, gC⟩, ⟨hA, hN, hC⟩, ⟨oA, oN, oC⟩, ⟨lA, lN, lC⟩⟩ }).toArray := ⟨_, rfl⟩
    have HSZ := Lib.hid (show (Tryz.prog.info? 35).map (·.size) = some cs.size by rw [hcs]; exact gst_info)
    have HGS := Lib.hid (show gst0.size = cs.size by rw [hcs, gst_siz]; exact gst_siz _)
    have HON := Lib.hid (show cs.all (·.oneCell') = true by rw [hcs]; exact gst_one _)
    have HBK := Lib.hid (show Blk WQ b 35 cs by rw [hcs]; exact HA.out.blk)
    have HRS := Lib.hid HA.out.sa.res
    have HPO := Lib.hid (show gstPost ρ w lg dp gCreP l (.returned (.agg cs)) (WQ.setRow (w.heap.size + 1) cs) by rw [hcs]; exact HA.out.post hgg HX.out)
    clear HA HX hcs HE
    refine wp_region_lit ?_
    refine wpList_load_row rfl 35 (.tmp 3) rfl b rfl 35 cs (0, 0) _ HBK.out Tryz.underlying35 rfl HSZ.out ?_
    refine wpList_store_row rfl 35 (.tmp 2) (.tmp 22) rfl (w.heap.size + 1) cs rfl rfl 35 gst0 HRS.out HSZ.out HGS.out HON.out ?_
    refine wpList_nil ?_
    simp only [Act.put, List.setIfInBounds_toArray, List.set_cons_succ, List.set_cons_zero]
    have HRR := Lib.hid (HRS.out.row cs)
    clear HBK HRS HON
    generalize WQ.setRow (w.heap.size + 1) cs = WF at *
    go_wp2_with fail
    exact bodyPost_ret (v := .agg cs) (results_cell_row Tryz.results36 _ _ (w.heap.size + 1) 35 cs (0, 0) _ rfl HRR.out Tryz.underlying35 rfl HSZ.out) rfl HPO.out
  · rw [show w_job.toArray = #[106, 111, 98] from rfl]
    have HE9 := Lib.hid (show gCreP l = jobP l4 from HE.out.trans (congrFun cre_j _))
    clear HE
    have HE := HE9
    clear HE9
    go_upto_region 9 with fail
    have p0 := HS.out.ptr
    go_wp2_with fail
    refine (gjob_any ρ w3 l4 _ _ HS.out.did.at_).mono ?_
    clear p0
    intro e w5 hp
    rcases GP.cases hp with ⟨d9, l6, v9, hok, rfl, m9, rfl, hat9, d⟩ | ⟨m, herr, rfl, hg⟩
    case inr =>
      have HF := Lib.hid (show gCreP l = .error m from HE.out.trans herr)
      have HG := Lib.hid HS.out.did.grown
      clear hp herr
      go_wp2_with fail
      exact body_panic rfl (GP.err HF.out ⟨rfl, grown_trans HG.out hg⟩)
    have HE9 := Lib.hid (show gCreP l = .ok (d9, l6) from HE.out.trans hok)
    clear hp hok HE
    have hq9 := HS.out.res.lt
    obtain ⟨cs, hcs⟩ : ∃ cs, cs = (stC m9).toArray := ⟨_, rfl⟩
    have HSZ := Lib.hid (show (Tryz.prog.info? 35).map (·.size) = some cs.size by rw [hcs]; exact gst_info)
    have HGS := Lib.hid (show gst0.size = cs.size by rw [hcs, gst_siz]; exact gst_siz _)
    have HON := Lib.hid (show cs.all (·.oneCell') = true by rw [hcs]; exact gst_one _)
    have HRS := Lib.hid (d.blk HS.out.res (by omega))
    have HPO := Lib.hid (show gstPost ρ w lg dp gCreP l (.returned (.agg cs)) (w5.setRow (w.heap.size + 1) cs) by
      rw [hcs]
      exact GP.ok HE9.out ⟨m9, rfl, St.at_.keep (btw_more (by omega)) (St.at_.keep (btw_row w5 (show w.heap.size + 1 < _ by omega) _) hat9), (HS.out.did.trans d).own hgg (grown_row w5 (w.heap.size + 1) (stC m9).toArray) (fun G e => by injection e with e; omega)⟩)
    unfold stV
    rw [← hcs]
    clear d HS HE9 hcs hat9
    go_wp2_with (first
      | (refine wpList_store_row rfl 35 (.tmp 2) (.tmp 26) rfl (w.heap.size + 1) cs rfl rfl 35 gst0 HRS.out HSZ.out HGS.out HON.out ?_
         have HRR := Lib.hid (HRS.out.row cs)))
    exact bodyPost_ret (v := .agg cs) (results_cell_row Tryz.results36 _ _ (w.heap.size + 1) 35 cs (0, 0) _ rfl HRR.out Tryz.underlying35 rfl HSZ.out) rfl HPO.out
end Go.Proofs.YtcneefmaghoejaaGreatDoor
