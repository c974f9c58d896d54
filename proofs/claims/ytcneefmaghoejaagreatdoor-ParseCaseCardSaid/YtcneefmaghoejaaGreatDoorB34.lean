/- Parts of the proof: Gv7. Put together by slim.py. -/
import Derived.Deep.DeepCutAuto
import Derived.Test.YtcneefmaghoejaaGreatDoorB20
import Derived.Test.YtcneefmaghoejaaGreatDoorB32
namespace Go.Proofs.YtcneefmaghoejaaGreatDoor
open Go.ChangeShapes Go.WideShapes Go.ChangeAt Go.RowKit
set_option linter.unusedVariables false
set_option linter.unusedSimpArgs false
def jobM : List (List UInt8 × Value) := [([99, 111, 109, 112, 114, 101, 115, 115], .int .u8 10), ([100, 114, 111, 112], .int .u8 12)]
def kJob7 (name : ByteArray) (what : Int) (of_ : ByteArray) (ab : Int × Int) (every : Int) : Ps St := return { kind := 3, name, what, of_, a := ab.1, b := ab.2, every }
def kJob6 (name : ByteArray) (what : Int) (of_ : ByteArray) (ab : Int × Int) : Ps St := do
  let every ← numP
  kJob7 name what of_ ab every
theorem GSt.ownG {ρ : Rdr} {w wr w2 : World} {q b G : Nat} {lg dp : Bool} {l : Wds} {m : StM} {d : St} (A : GSt ρ w q [] lg dp b wr l m d) (hg : ρ.g < w.heap.size) (h : wr.grownBy w2 (some G)) (hG : wr.heap.size ≤ G) : GSt ρ w q [] lg dp b w2 l m d := by
  have hq := A.qb; have hw := A.sa.qw; have hl := A.blk.lt
  refine ⟨⟨A.sa.did.own hg h (fun G' e => by injection e with e; omega), A.sa.res.grown h (by simp; omega), hw, fun p hp => by simp at hp⟩, A.blk.grown h (by simp; omega), St.at_.keep (fun x hx => ?_) A.at_, A.qb, A.pb⟩
  have h1 := hx.2
  exact ⟨cell_of_heap (h.block x h1 (fun e => by injection e with e; omega)), hx.1, Nat.lt_of_lt_of_le h1 h.size⟩
def kJob5 (name : ByteArray) (what : Int) (of_ : ByteArray) (ab : Int × Int) : Ps St := do
  must w_every
  kJob6 name what of_ ab
def kJobC (name of_ : ByteArray) (a : Int) : Ps St := numP >>= fun b => kJob5 name 9 of_ (a, b)
def kJobB (name of_ : ByteArray) (a : Int) : Ps St := must w_to >>= fun _ => kJobC name of_ a
def kJobA (name of_ : ByteArray) : Ps St := numP >>= fun a => kJobB name of_ a
def kJobD (name : ByteArray) (what : Int) (of_ : ByteArray) : Ps St := numP >>= fun a => kJob5 name what of_ (a, 0)
def kJob3 (name : ByteArray) (s : List UInt8) (of_ : ByteArray) : Ps St := do
  let ab ← jobAP s
  kJob5 name (if s = w_refresh then 9 else if s = w_compress then 10 else 12) of_ ab
def kJob2 (name : ByteArray) (s : List UInt8) : Ps St := do
  let of_ ← nameP
  kJob3 name s of_
def kJob1 (name : ByteArray) : Ps St := do
  let s ← anyP [w_refresh, w_compress, w_drop]
  kJob2 name s
def gJobP : Ps St := nameP >>= fun name => kJob1 name
theorem job_r (name of_ : ByteArray) : kJob3 name w_refresh of_ = (must w_from >>= fun _ => kJobA name of_) := by
  unfold kJob3 jobAP
  rw [if_pos rfl, if_pos rfl]
  simp only [ps_assoc]
  rfl
theorem job_10 (name of_ : ByteArray) : kJob3 name w_compress of_ = (must w_after >>= fun _ => kJobD name 10 of_) := by
  unfold kJob3 jobAP
  rw [if_neg (by decide), if_neg (by decide), if_pos rfl]
  simp only [ps_assoc]
  rfl
theorem job_12 (name of_ : ByteArray) : kJob3 name w_drop of_ = (must w_after >>= fun _ => kJobD name 12 of_) := by
  unfold kJob3 jobAP
  rw [if_neg (by decide), if_neg (by decide), if_neg (by decide)]
  simp only [ps_assoc]
  rfl
set_option maxHeartbeats 4000000 in
set_option maxRecDepth 100000 in
theorem gjob_any (ρ : Rdr) (w : World) (l : Wds) (lg dp : Bool) (h : ρ.gat w l lg dp) :
    Calls Tryz.prog 71 #[ρ.ptr] w (gstPost ρ w lg dp gJobP l) := by
  have hgg := h.lt_
  have b1 := later_new w (gstZ {})
  have HS := Lib.hid (show GSa ρ w w.heap.size [] lg dp (w.alloc (gstZ {})) l from ⟨GDid.of_later h b1, Blk.new w _ _, Nat.le_refl _, fun p hp => by simp at hp⟩)
  have HE := Lib.hid (show gJobP l = (nameP >>= fun name => kJob1 name) l from rfl)
  clear h b1
  go_enter Tryz.func71, Tryz.ntmps71
  go_upto_region 1 with fail
  change Code.wp _ _ _ _ (w.alloc (gstZ {}))
  generalize hW : (World.alloc _ _) = W0 at *
  clear hW
  have hqw : w.heap.size < W0.heap.size := HS.out.res.lt
  go_wp2_with fail
  refine (gname_any ρ W0 l _ _ HS.out.did.at_).mono ?_
  intro e w1 hp
  rcases hp.cases with ⟨nm, l2, v9, hok, rfl, rfl, d⟩ | ⟨m, herr, rfl, hg⟩
  case inr =>
    have HF := Lib.hid (show gJobP l = .error m from HE.out.trans (bind_errP herr))
    have HG := Lib.hid HS.out.did.grown
    clear hp herr
    go_wp2_with fail
    exact body_panic rfl (GP.err HF.out ⟨rfl, grown_trans HG.out hg⟩)
  have HE9 := Lib.hid (show gJobP l = kJob1 nm l2 from HE.out.trans (bind_okP hok))
  clear hp hok HE
  have HE := HE9
  clear HE9
  have hw9 := d.size
  have HS9 := Lib.hid (HS.out.go hgg d)
  have hbq := HS9.out.res.lt
  obtain ⟨cs, hcs⟩ : ∃ cs, cs = (stC { kind := 3, name := nm }).toArray := ⟨_, rfl⟩
  have HSZ := Lib.hid (show (Tryz.prog.info? 35).map (·.size) = some cs.size by rw [hcs]; exact gst_info)
  have HGS := Lib.hid (show gst0.size = cs.size by rw [hcs, gst_siz]; exact gst_siz _)
  have HON := Lib.hid (show cs.all (·.oneCell') = true by rw [hcs]; exact gst_one _)
  have HBU := Lib.hid (show Tryz.prog.built 35 [(0, .int .u8 3), (1, .string nm)] = some cs by rw [hcs]; exact gst_built _ _)
  have HA := Lib.hid (show GSt ρ w (w.heap.size) [] lg dp w1.heap.size (w1.alloc (.cells cs 35)) l2 { kind := 3, name := nm } { kind := 3, name := nm } by
    rw [hcs]
    exact HS9.out.start (lg2 := lg) (dp2 := dp) { kind := 3, name := nm } { kind := 3, name := nm } (fun p hp => by simp at hp) (by simp [St.long, Qu.long]) (by simp [St.exprs, Qu.exprs, deepB]) (by simp [St.long, Qu.long]) (fun W S => { St.at_nil W S with kind := rfl, name := rfl }))
  clear d HS HS9 hcs
  go_upto_region 2 with (first
    | (refine gbuild_is rfl 35 _ rfl (cs := cs) ?hv ?_; rotate_left)
    | (refine wpList_store_row rfl 35 (.tmp 3) (.tmp 7) rfl w1.heap.size cs rfl rfl 35 gst0 (Blk.new w1 35 gst0) HSZ.out HGS.out HON.out ?_
       rw [alloc_row]))
  case hv => exact HBU.out
  generalize hb : w1.heap.size = b at *
  generalize hW : (World.alloc _ _) = WB at *
  clear hW hb hw9 HBU HON HGS HSZ
  have hb := later_new WB (.cells (strsC [w_refresh, w_compress, w_drop]) 9)
  have HB := Lib.hid (HA.out.later hb)
  have hq9 := HA.out.blk.lt
  have hm := gone_any ρ _ l2 _ _ HB.out.sa.did.at_ [w_refresh, w_compress, w_drop] WB.heap.size 3 rfl (Blk.new WB _ _) (by omega) (by omega)
  clear hb HA
  unfold strsC strOf at hm HB
  simp only [List.map_cons, List.map_nil] at hm HB
  rw [show w_refresh.toArray = #[114, 101, 102, 114, 101, 115, 104] from rfl, show w_compress.toArray = #[99, 111, 109, 112, 114, 101, 115, 115] from rfl, show w_drop.toArray = #[100, 114, 111, 112] from rfl] at hm HB
  go_wp2_with fail
  refine hm.mono ?_
  clear hm
  intro e w3 hp
  rcases hp.cases with ⟨sx, l4, v9, hok, rfl, rfl, d⟩ | ⟨m, herr, rfl, hg⟩
  case inr =>
    have HF := Lib.hid (show gJobP l = .error m from HE.out.trans (bind_errP herr))
    have HG := Lib.hid HB.out.sa.did.grown
    clear hp herr
    go_wp2_with fail
    exact body_panic rfl (GP.err HF.out ⟨rfl, grown_trans HG.out hg⟩)
  have HMEM := Lib.hid (any_mem hok)
  have HE9 := Lib.hid (show gJobP l = kJob2 nm sx l4 from HE.out.trans (bind_okP hok))
  have HA := Lib.hid (HB.out.go hgg d)
  clear hp hok d HB HE hq9
  have HE := HE9
  clear HE9
  try unfold strOf
  go_upto_region 3 with fail
  go_wp2_with fail
  refine (gname_any ρ w3 l4 _ _ HA.out.sa.did.at_).mono ?_
  intro e w5 hp
  rcases hp.cases with ⟨of_, l6, v9, hok, rfl, rfl, d⟩ | ⟨m, herr, rfl, hg⟩
  case inr =>
    have HF := Lib.hid (show gJobP l = .error m from HE.out.trans (bind_errP herr))
    have HG := Lib.hid HA.out.sa.did.grown
    clear hp herr
    go_wp2_with fail
    exact body_panic rfl (GP.err HF.out ⟨rfl, grown_trans HG.out hg⟩)
  have HE9 := Lib.hid (show gJobP l = kJob3 nm sx of_ l6 from HE.out.trans (bind_okP hok))
  clear hp hok HE
  have HE := HE9
  clear HE9
  have hX := d.blk HA.out.blk (by have := HA.out.qb; have := HA.out.sa.qw; omega)
  have hc : w5.cell? ⟨b, 16, none⟩ = _ := hX.cell 16
  have hf : w5.frozen? ⟨b, 16, none⟩ = _ := hX.frozen 16
  have HA9 := Lib.hid (HA.out.set (m' := { kind := 3, name := nm, of_ := of_ }) (d' := { kind := 3, name := nm, of_ := of_ }) hgg d 16 (.string of_) rfl (rfl) (rfl) (fun hat => { hat with of_ := rfl }))
  clear hX d HA
  have HA := HA9
  clear HA9
  unfold stC quC slC valC at hc
  try unfold slC
  go_upto_region 4 with fail
  clear hc hf
  generalize w5.setCell _ _ = W7 at *
  have hmem := HMEM.out
  clear HMEM
  simp only [List.mem_cons, List.not_mem_nil, or_false] at hmem
  rcases hmem with rfl | rfl | rfl
  · rw [show w_refresh.toArray = #[114, 101, 102, 114, 101, 115, 104] from rfl]
    have HE9 := Lib.hid (show gJobP l = (must w_from >>= fun _ => kJobA nm of_) l6 from HE.out.trans (congrFun (job_r nm of_) _))
    clear HE
    have HE := HE9
    clear HE9
    go_upto_region 9 with fail
    have d := GDid.refl HA.out.sa.did.at_
    have hX := d.blk HA.out.blk (by have := HA.out.qb; have := HA.out.sa.qw; omega)
    have hc : W7.cell? ⟨b, 15, none⟩ = _ := hX.cell 15
    have hf : W7.frozen? ⟨b, 15, none⟩ = _ := hX.frozen 15
    have HA9 := Lib.hid (HA.out.set (m' := { kind := 3, name := nm, of_ := of_, what := 9 }) (d' := { kind := 3, name := nm, of_ := of_, what := 9 }) hgg d 15 (.int .u8 9) rfl (rfl) (rfl) (fun hat => { hat with what := rfl }))
    clear hX d HA
    have HA := HA9
    clear HA9
    unfold stC quC slC valC at hc
    try unfold slC
    go_upto_region 10 with fail
    clear hc hf
    generalize W7.setCell _ _ = W8 at *
    have hb := later_new W8 (.cells (strsC [w_from]) 9)
    have HB := Lib.hid (HA.out.later hb)
    have hq9 := HA.out.blk.lt
    have hm := gmust_any ρ _ l6 _ _ HB.out.sa.did.at_ [w_from] W8.heap.size 1 rfl (Blk.new W8 _ _) (by omega) (by omega)
    clear hb HA
    unfold strsC strOf at hm HB
    simp only [List.map_cons, List.map_nil] at hm HB
    rw [show w_from.toArray = #[102, 114, 111, 109] from rfl] at hm HB
    go_wp2_with fail
    refine hm.mono ?_
    clear hm
    intro e w9 hp
    rcases hp.cases with ⟨_, l10, v9, hok, rfl, rfl, d⟩ | ⟨m, herr, rfl, hg⟩
    case inr =>
      have HF := Lib.hid (show gJobP l = .error m from HE.out.trans (bind_errP (show must w_from l6 = .error m by rw [← musts_one]; exact herr)))
      have HG := Lib.hid HB.out.sa.did.grown
      clear hp herr
      go_wp2_with fail
      exact body_panic rfl (GP.err HF.out ⟨rfl, grown_trans HG.out hg⟩)
    have HE9 := Lib.hid (show gJobP l = kJobA nm of_ l10 from HE.out.trans (bind_okP (show must w_from l6 = .ok ((), l10) by rw [← musts_one]; exact hok)))
    have HA := Lib.hid (HB.out.go hgg d)
    clear hp hok d HB HE hq9
    have HE := HE9
    clear HE9
    go_upto_region 11 with fail
    go_wp2_with fail
    refine (gnumber_any ρ w9 l10 _ _ HA.out.sa.did.at_).mono ?_
    intro e w11 hp
    rcases hp.cases with ⟨a, l12, v9, hok, rfl, rfl, _, d⟩ | ⟨m, herr, rfl, hg⟩
    case inr =>
      have HF := Lib.hid (show gJobP l = .error m from HE.out.trans (bind_errP herr))
      have HG := Lib.hid HA.out.sa.did.grown
      clear hp herr
      go_wp2_with fail
      exact body_panic rfl (GP.err HF.out ⟨rfl, grown_trans HG.out hg⟩)
    have HE9 := Lib.hid (show gJobP l = kJobB nm of_ a l12 from HE.out.trans (bind_okP hok))
    clear hp hok HE
    have HE := HE9
    clear HE9
    have hX := d.blk HA.out.blk (by have := HA.out.qb; have := HA.out.sa.qw; omega)
    have hc : w11.cell? ⟨b, 17, none⟩ = _ := hX.cell 17
    have hf : w11.frozen? ⟨b, 17, none⟩ = _ := hX.frozen 17
    have HA9 := Lib.hid (HA.out.set (m' := { kind := 3, name := nm, of_ := of_, what := 9, a := a }) (d' := { kind := 3, name := nm, of_ := of_, what := 9, a := a }) hgg d 17 (.int .i64 a) rfl (rfl) (rfl) (fun hat => { hat with a := rfl }))
    clear hX d HA
    have HA := HA9
    clear HA9
    unfold stC quC slC valC at hc
    try unfold slC
    go_upto_region 12 with fail
    clear hc hf
    generalize w11.setCell _ _ = W13 at *
    have hb := later_new W13 (.cells (strsC [w_to]) 9)
    have HB := Lib.hid (HA.out.later hb)
    have hq9 := HA.out.blk.lt
    have hm := gmust_any ρ _ l12 _ _ HB.out.sa.did.at_ [w_to] W13.heap.size 1 rfl (Blk.new W13 _ _) (by omega) (by omega)
    clear hb HA
    unfold strsC strOf at hm HB
    simp only [List.map_cons, List.map_nil] at hm HB
    rw [show w_to.toArray = #[116, 111] from rfl] at hm HB
    go_wp2_with fail
    refine hm.mono ?_
    clear hm
    intro e w14 hp
    rcases hp.cases with ⟨_, l15, v9, hok, rfl, rfl, d⟩ | ⟨m, herr, rfl, hg⟩
    case inr =>
      have HF := Lib.hid (show gJobP l = .error m from HE.out.trans (bind_errP (show must w_to l12 = .error m by rw [← musts_one]; exact herr)))
      have HG := Lib.hid HB.out.sa.did.grown
      clear hp herr
      go_wp2_with fail
      exact body_panic rfl (GP.err HF.out ⟨rfl, grown_trans HG.out hg⟩)
    have HE9 := Lib.hid (show gJobP l = kJobC nm of_ a l15 from HE.out.trans (bind_okP (show must w_to l12 = .ok ((), l15) by rw [← musts_one]; exact hok)))
    have HA := Lib.hid (HB.out.go hgg d)
    clear hp hok d HB HE hq9
    have HE := HE9
    clear HE9
    go_upto_region 13 with fail
    go_wp2_with fail
    refine (gnumber_any ρ w14 l15 _ _ HA.out.sa.did.at_).mono ?_
    intro e w16 hp
    rcases hp.cases with ⟨b9, l17, v9, hok, rfl, rfl, _, d⟩ | ⟨m, herr, rfl, hg⟩
    case inr =>
      have HF := Lib.hid (show gJobP l = .error m from HE.out.trans (bind_errP herr))
      have HG := Lib.hid HA.out.sa.did.grown
      clear hp herr
      go_wp2_with fail
      exact body_panic rfl (GP.err HF.out ⟨rfl, grown_trans HG.out hg⟩)
    have HE9 := Lib.hid (show gJobP l = kJob5 nm 9 of_ (a, b9) l17 from HE.out.trans (bind_okP hok))
    clear hp hok HE
    have HE := HE9
    clear HE9
    have hX := d.blk HA.out.blk (by have := HA.out.qb; have := HA.out.sa.qw; omega)
    have hc : w16.cell? ⟨b, 18, none⟩ = _ := hX.cell 18
    have hf : w16.frozen? ⟨b, 18, none⟩ = _ := hX.frozen 18
    have HA9 := Lib.hid (HA.out.set (m' := { kind := 3, name := nm, of_ := of_, what := 9, a := a, b := b9 }) (d' := { kind := 3, name := nm, of_ := of_, what := 9, a := a, b := b9 }) hgg d 18 (.int .i64 b9) rfl (rfl) (rfl) (fun hat => { hat with b := rfl }))
    clear hX d HA
    have HA := HA9
    clear HA9
    unfold stC quC slC valC at hc
    try unfold slC
    go_upto_region 14 with fail
    clear hc hf
    generalize w16.setCell _ _ = W18 at *
    have hb := later_new W18 (.cells (strsC [w_every]) 9)
    have HB := Lib.hid (HA.out.later hb)
    have hq9 := HA.out.blk.lt
    have hm := gmust_any ρ _ l17 _ _ HB.out.sa.did.at_ [w_every] W18.heap.size 1 rfl (Blk.new W18 _ _) (by omega) (by omega)
    clear hb HA
    unfold strsC strOf at hm HB
    simp only [List.map_cons, List.map_nil] at hm HB
    rw [show w_every.toArray = #[101, 118, 101, 114, 121] from rfl] at hm HB
    go_wp2_with fail
    refine hm.mono ?_
    clear hm
    intro e w19 hp
    rcases hp.cases with ⟨_, l20, v9, hok, rfl, rfl, d⟩ | ⟨m, herr, rfl, hg⟩
    case inr =>
      have HF := Lib.hid (show gJobP l = .error m from HE.out.trans (bind_errP (show must w_every l17 = .error m by rw [← musts_one]; exact herr)))
      have HG := Lib.hid HB.out.sa.did.grown
      clear hp herr
      go_wp2_with fail
      exact body_panic rfl (GP.err HF.out ⟨rfl, grown_trans HG.out hg⟩)
    have HE9 := Lib.hid (show gJobP l = kJob6 nm 9 of_ (a, b9) l20 from HE.out.trans (bind_okP (show must w_every l17 = .ok ((), l20) by rw [← musts_one]; exact hok)))
    have HA := Lib.hid (HB.out.go hgg d)
    clear hp hok d HB HE hq9
    have HE := HE9
    clear HE9
    go_upto_region 15 with fail
    go_wp2_with fail
    refine (gnumber_any ρ w19 l20 _ _ HA.out.sa.did.at_).mono ?_
    intro e w21 hp
    rcases hp.cases with ⟨every, l22, v9, hok, rfl, rfl, _, d⟩ | ⟨m, herr, rfl, hg⟩
    case inr =>
      have HF := Lib.hid (show gJobP l = .error m from HE.out.trans (bind_errP herr))
      have HG := Lib.hid HA.out.sa.did.grown
      clear hp herr
      go_wp2_with fail
      exact body_panic rfl (GP.err HF.out ⟨rfl, grown_trans HG.out hg⟩)
    have HE9 := Lib.hid (show gJobP l = kJob7 nm 9 of_ (a, b9) every l22 from HE.out.trans (bind_okP hok))
    clear hp hok HE
    have HE := HE9
    clear HE9
    have hX := d.blk HA.out.blk (by have := HA.out.qb; have := HA.out.sa.qw; omega)
    have hc : w21.cell? ⟨b, 4, none⟩ = _ := hX.cell 4
    have hf : w21.frozen? ⟨b, 4, none⟩ = _ := hX.frozen 4
    have HA9 := Lib.hid (HA.out.set (m' := { kind := 3, name := nm, of_ := of_, what := 9, a := a, b := b9, every := every }) (d' := { kind := 3, name := nm, of_ := of_, what := 9, a := a, b := b9, every := every }) hgg d 4 (.int .i64 every) rfl (rfl) (rfl) (fun hat => { hat with every := rfl }))
    clear hX d HA
    have HA := HA9
    clear HA9
    unfold stC quC slC valC at hc
    try unfold slC
    go_upto_region 16 with fail
    clear hc hf
    generalize w21.setCell _ _ = W23 at *
    have HX := Lib.hid (show gJobP l = .ok ({ kind := 3, name := nm, of_ := of_, what := 9, a := a, b := b9, every := every }, l22) from HE.out)
    obtain ⟨cs, hcs⟩ : ∃ cs, cs = (stC { kind := 3, name := nm, of_ := of_, what := 9, a := a, b := b9, every := every }).toArray := ⟨_, rfl⟩
    have HSZ := Lib.hid (show (Tryz.prog.info? 35).map (·.size) = some cs.size by rw [hcs]; exact gst_info)
    have HGS := Lib.hid (show gst0.size = cs.size by rw [hcs, gst_siz]; exact gst_siz _)
    have HON := Lib.hid (show cs.all (·.oneCell') = true by rw [hcs]; exact gst_one _)
    have HBK := Lib.hid (show Blk W23 b 35 cs by rw [hcs]; exact HA.out.blk)
    have HRS := Lib.hid HA.out.sa.res
    have HPO := Lib.hid (show gstPost ρ w lg dp gJobP l (.returned (.agg cs)) (W23.setRow (w.heap.size) cs) by rw [hcs]; exact HA.out.post hgg HX.out)
    clear HA HX hcs HE
    refine wp_region_lit ?_
    refine wpList_load_row rfl 35 (.tmp 3) rfl b rfl 35 cs (0, 0) _ HBK.out Tryz.underlying35 rfl HSZ.out ?_
    refine wpList_store_row rfl 35 (.tmp 2) (.tmp 47) rfl (w.heap.size) cs rfl rfl 35 gst0 HRS.out HSZ.out HGS.out HON.out ?_
    refine wpList_nil ?_
    simp only [Act.put, List.setIfInBounds_toArray, List.set_cons_succ, List.set_cons_zero]
    have HRR := Lib.hid (HRS.out.row cs)
    clear HBK HRS HON
    generalize W23.setRow (w.heap.size) cs = WF at *
    go_wp2_with fail
    exact bodyPost_ret (v := .agg cs) (results_cell_row Tryz.results71 _ _ (w.heap.size) 35 cs (0, 0) _ rfl HRR.out Tryz.underlying35 rfl HSZ.out) rfl HPO.out
  · rw [show w_compress.toArray = #[99, 111, 109, 112, 114, 101, 115, 115] from rfl]
    have HE9 := Lib.hid (show gJobP l = (must w_after >>= fun _ => kJobD nm 10 of_) l6 from HE.out.trans (congrFun (job_10 nm of_) _))
    clear HE
    have HE := HE9
    clear HE9
    go_upto_region 5 with fail
    have HM := MapV.new W7
    have HG := grown_below (p := W7.heap.size) (later_new W7 (.map #[] 0))
    have hq1 := HA.out.blk.lt
    refine wp_region_lit ?_
    refine wpList_make_map rfl 107 rfl ?_
    refine wpList_put_v Tryz.underlying107 Tryz.underlying9 rfl _ _ _ rfl W7.heap.size rfl [99, 111, 109, 112, 114, 101, 115, 115] rfl (.int .u8 10) rfl HM (by decide) ?_
    clear HM
    intro wm HM HG'
    replace HG := grown_trans HG HG'
    clear HG'
    refine wpList_put_v Tryz.underlying107 Tryz.underlying9 rfl _ _ _ rfl W7.heap.size rfl [100, 114, 111, 112] rfl (.int .u8 12) rfl HM (by decide) ?_
    clear HM
    intro wm HM HG'
    replace HG := grown_trans HG HG'
    clear HG'
    have HMX := Lib.hid (show MapV wm W7.heap.size jobM from HM)
    have HA9 := Lib.hid (HA.out.ownG hgg HG (by omega))
    have HX := Lib.hid (HA9.out.blk)
    clear HM HG HA
    have HA := HA9
    clear HA9
    have hX := HA.out.blk
    have hc : wm.cell? ⟨b, 15, none⟩ = _ := hX.cell 15
    have hf : wm.frozen? ⟨b, 15, none⟩ = _ := hX.frozen 15
    have HA9 := Lib.hid (HA.out.set (m' := { kind := 3, name := nm, of_ := of_, what := 10 }) (d' := { kind := 3, name := nm, of_ := of_, what := 10 }) hgg (GDid.refl HA.out.sa.did.at_) 15 (.int .u8 10) rfl rfl rfl (fun hat => { hat with what := rfl }))
    clear hX HA HX
    have HA := HA9
    clear HA9
    unfold stC quC slC valC at hc
    simp only [Act.put, List.setIfInBounds_toArray, List.set_cons_succ, List.set_cons_zero]
    go_upto_region 6 with (first
      | (refine wpList_look_v Tryz.underlying107 Tryz.underlying9 rfl _ _ rfl W7.heap.size rfl (⟨#[99, 111, 109, 112, 114, 101, 115, 115]⟩ : ByteArray) rfl (l := jobM) HMX.out (z := .int .u8 0) Tryz.zeroValue5 ?_
         rw [show (jobM.lookup (⟨#[99, 111, 109, 112, 114, 101, 115, 115]⟩ : ByteArray).data.toList).getD (.int .u8 0) = .int .u8 10 from rfl]))
    clear hc hf HMX
    generalize wm.setCell _ _ = WM at *
    have hb := later_new WM (.cells (strsC [w_after]) 9)
    have HB := Lib.hid (HA.out.later hb)
    have hq9 := HA.out.blk.lt
    have hm := gmust_any ρ _ l6 _ _ HB.out.sa.did.at_ [w_after] WM.heap.size 1 rfl (Blk.new WM _ _) (by omega) (by omega)
    clear hb HA
    unfold strsC strOf at hm HB
    simp only [List.map_cons, List.map_nil] at hm HB
    rw [show w_after.toArray = #[97, 102, 116, 101, 114] from rfl] at hm HB
    go_wp2_with fail
    refine hm.mono ?_
    clear hm
    intro e w8 hp
    rcases hp.cases with ⟨_, l9, v9, hok, rfl, rfl, d⟩ | ⟨m, herr, rfl, hg⟩
    case inr =>
      have HF := Lib.hid (show gJobP l = .error m from HE.out.trans (bind_errP (show must w_after l6 = .error m by rw [← musts_one]; exact herr)))
      have HG := Lib.hid HB.out.sa.did.grown
      clear hp herr
      go_wp2_with fail
      exact body_panic rfl (GP.err HF.out ⟨rfl, grown_trans HG.out hg⟩)
    have HE9 := Lib.hid (show gJobP l = kJobD nm 10 of_ l9 from HE.out.trans (bind_okP (show must w_after l6 = .ok ((), l9) by rw [← musts_one]; exact hok)))
    have HA := Lib.hid (HB.out.go hgg d)
    clear hp hok d HB HE hq9
    have HE := HE9
    clear HE9
    go_upto_region 7 with fail
    go_wp2_with fail
    refine (gnumber_any ρ w8 l9 _ _ HA.out.sa.did.at_).mono ?_
    intro e w10 hp
    rcases hp.cases with ⟨a, l11, v9, hok, rfl, rfl, _, d⟩ | ⟨m, herr, rfl, hg⟩
    case inr =>
      have HF := Lib.hid (show gJobP l = .error m from HE.out.trans (bind_errP herr))
      have HG := Lib.hid HA.out.sa.did.grown
      clear hp herr
      go_wp2_with fail
      exact body_panic rfl (GP.err HF.out ⟨rfl, grown_trans HG.out hg⟩)
    have HE9 := Lib.hid (show gJobP l = kJob5 nm 10 of_ (a, 0) l11 from HE.out.trans (bind_okP hok))
    clear hp hok HE
    have HE := HE9
    clear HE9
    have hX := d.blk HA.out.blk (by have := HA.out.qb; have := HA.out.sa.qw; omega)
    have hc : w10.cell? ⟨b, 17, none⟩ = _ := hX.cell 17
    have hf : w10.frozen? ⟨b, 17, none⟩ = _ := hX.frozen 17
    have HA9 := Lib.hid (HA.out.set (m' := { kind := 3, name := nm, of_ := of_, what := 10, a := a }) (d' := { kind := 3, name := nm, of_ := of_, what := 10, a := a }) hgg d 17 (.int .i64 a) rfl (rfl) (rfl) (fun hat => { hat with a := rfl }))
    clear hX d HA
    have HA := HA9
    clear HA9
    unfold stC quC slC valC at hc
    try unfold slC
    go_upto_region 14 with fail
    clear hc hf
    generalize w10.setCell _ _ = W12 at *
    have hb := later_new W12 (.cells (strsC [w_every]) 9)
    have HB := Lib.hid (HA.out.later hb)
    have hq9 := HA.out.blk.lt
    have hm := gmust_any ρ _ l11 _ _ HB.out.sa.did.at_ [w_every] W12.heap.size 1 rfl (Blk.new W12 _ _) (by omega) (by omega)
    clear hb HA
    unfold strsC strOf at hm HB
    simp only [List.map_cons, List.map_nil] at hm HB
    rw [show w_every.toArray = #[101, 118, 101, 114, 121] from rfl] at hm HB
    go_wp2_with fail
    refine hm.mono ?_
    clear hm
    intro e w13 hp
    rcases hp.cases with ⟨_, l14, v9, hok, rfl, rfl, d⟩ | ⟨m, herr, rfl, hg⟩
    case inr =>
      have HF := Lib.hid (show gJobP l = .error m from HE.out.trans (bind_errP (show must w_every l11 = .error m by rw [← musts_one]; exact herr)))
      have HG := Lib.hid HB.out.sa.did.grown
      clear hp herr
      go_wp2_with fail
      exact body_panic rfl (GP.err HF.out ⟨rfl, grown_trans HG.out hg⟩)
    have HE9 := Lib.hid (show gJobP l = kJob6 nm 10 of_ (a, 0) l14 from HE.out.trans (bind_okP (show must w_every l11 = .ok ((), l14) by rw [← musts_one]; exact hok)))
    have HA := Lib.hid (HB.out.go hgg d)
    clear hp hok d HB HE hq9
    have HE := HE9
    clear HE9
    go_upto_region 15 with fail
    go_wp2_with fail
    refine (gnumber_any ρ w13 l14 _ _ HA.out.sa.did.at_).mono ?_
    intro e w15 hp
    rcases hp.cases with ⟨every, l16, v9, hok, rfl, rfl, _, d⟩ | ⟨m, herr, rfl, hg⟩
    case inr =>
      have HF := Lib.hid (show gJobP l = .error m from HE.out.trans (bind_errP herr))
      have HG := Lib.hid HA.out.sa.did.grown
      clear hp herr
      go_wp2_with fail
      exact body_panic rfl (GP.err HF.out ⟨rfl, grown_trans HG.out hg⟩)
    have HE9 := Lib.hid (show gJobP l = kJob7 nm 10 of_ (a, 0) every l16 from HE.out.trans (bind_okP hok))
    clear hp hok HE
    have HE := HE9
    clear HE9
    have hX := d.blk HA.out.blk (by have := HA.out.qb; have := HA.out.sa.qw; omega)
    have hc : w15.cell? ⟨b, 4, none⟩ = _ := hX.cell 4
    have hf : w15.frozen? ⟨b, 4, none⟩ = _ := hX.frozen 4
    have HA9 := Lib.hid (HA.out.set (m' := { kind := 3, name := nm, of_ := of_, what := 10, a := a, every := every }) (d' := { kind := 3, name := nm, of_ := of_, what := 10, a := a, every := every }) hgg d 4 (.int .i64 every) rfl (rfl) (rfl) (fun hat => { hat with every := rfl }))
    clear hX d HA
    have HA := HA9
    clear HA9
    unfold stC quC slC valC at hc
    try unfold slC
    go_upto_region 16 with fail
    clear hc hf
    generalize w15.setCell _ _ = W17 at *
    have HX := Lib.hid (show gJobP l = .ok ({ kind := 3, name := nm, of_ := of_, what := 10, a := a, every := every }, l16) from HE.out)
    obtain ⟨cs, hcs⟩ : ∃ cs, cs = (stC { kind := 3, name := nm, of_ := of_, what := 10, a := a, every := every }).toArray := ⟨_, rfl⟩
    have HSZ := Lib.hid (show (Tryz.prog.info? 35).map (·.size) = some cs.size by rw [hcs]; exact gst_info)
    have HGS := Lib.hid (show gst0.size = cs.size by rw [hcs, gst_siz]; exact gst_siz _)
    have HON := Lib.hid (show cs.all (·.oneCell') = true by rw [hcs]; exact gst_one _)
    have HBK := Lib.hid (show Blk W17 b 35 cs by rw [hcs]; exact HA.out.blk)
    have HRS := Lib.hid HA.out.sa.res
    have HPO := Lib.hid (show gstPost ρ w lg dp gJobP l (.returned (.agg cs)) (W17.setRow (w.heap.size) cs) by rw [hcs]; exact HA.out.post hgg HX.out)
    clear HA HX hcs HE
    refine wp_region_lit ?_
    refine wpList_load_row rfl 35 (.tmp 3) rfl b rfl 35 cs (0, 0) _ HBK.out Tryz.underlying35 rfl HSZ.out ?_
    refine wpList_store_row rfl 35 (.tmp 2) (.tmp 47) rfl (w.heap.size) cs rfl rfl 35 gst0 HRS.out HSZ.out HGS.out HON.out ?_
    refine wpList_nil ?_
    simp only [Act.put, List.setIfInBounds_toArray, List.set_cons_succ, List.set_cons_zero]
    have HRR := Lib.hid (HRS.out.row cs)
    clear HBK HRS HON
    generalize W17.setRow (w.heap.size) cs = WF at *
    go_wp2_with fail
    exact bodyPost_ret (v := .agg cs) (results_cell_row Tryz.results71 _ _ (w.heap.size) 35 cs (0, 0) _ rfl HRR.out Tryz.underlying35 rfl HSZ.out) rfl HPO.out
  · rw [show w_drop.toArray = #[100, 114, 111, 112] from rfl]
    have HE9 := Lib.hid (show gJobP l = (must w_after >>= fun _ => kJobD nm 12 of_) l6 from HE.out.trans (congrFun (job_12 nm of_) _))
    clear HE
    have HE := HE9
    clear HE9
    go_upto_region 5 with fail
    have HM := MapV.new W7
    have HG := grown_below (p := W7.heap.size) (later_new W7 (.map #[] 0))
    have hq1 := HA.out.blk.lt
    refine wp_region_lit ?_
    refine wpList_make_map rfl 107 rfl ?_
    refine wpList_put_v Tryz.underlying107 Tryz.underlying9 rfl _ _ _ rfl W7.heap.size rfl [99, 111, 109, 112, 114, 101, 115, 115] rfl (.int .u8 10) rfl HM (by decide) ?_
    clear HM
    intro wm HM HG'
    replace HG := grown_trans HG HG'
    clear HG'
    refine wpList_put_v Tryz.underlying107 Tryz.underlying9 rfl _ _ _ rfl W7.heap.size rfl [100, 114, 111, 112] rfl (.int .u8 12) rfl HM (by decide) ?_
    clear HM
    intro wm HM HG'
    replace HG := grown_trans HG HG'
    clear HG'
    have HMX := Lib.hid (show MapV wm W7.heap.size jobM from HM)
    have HA9 := Lib.hid (HA.out.ownG hgg HG (by omega))
    have HX := Lib.hid (HA9.out.blk)
    clear HM HG HA
    have HA := HA9
    clear HA9
    have hX := HA.out.blk
    have hc : wm.cell? ⟨b, 15, none⟩ = _ := hX.cell 15
    have hf : wm.frozen? ⟨b, 15, none⟩ = _ := hX.frozen 15
    have HA9 := Lib.hid (HA.out.set (m' := { kind := 3, name := nm, of_ := of_, what := 12 }) (d' := { kind := 3, name := nm, of_ := of_, what := 12 }) hgg (GDid.refl HA.out.sa.did.at_) 15 (.int .u8 12) rfl rfl rfl (fun hat => { hat with what := rfl }))
    clear hX HA HX
    have HA := HA9
    clear HA9
    unfold stC quC slC valC at hc
    simp only [Act.put, List.setIfInBounds_toArray, List.set_cons_succ, List.set_cons_zero]
    go_upto_region 6 with (first
      | (refine wpList_look_v Tryz.underlying107 Tryz.underlying9 rfl _ _ rfl W7.heap.size rfl (⟨#[100, 114, 111, 112]⟩ : ByteArray) rfl (l := jobM) HMX.out (z := .int .u8 0) Tryz.zeroValue5 ?_
         rw [show (jobM.lookup (⟨#[100, 114, 111, 112]⟩ : ByteArray).data.toList).getD (.int .u8 0) = .int .u8 12 from rfl]))
    clear hc hf HMX
    generalize wm.setCell _ _ = WM at *
    have hb := later_new WM (.cells (strsC [w_after]) 9)
    have HB := Lib.hid (HA.out.later hb)
    have hq9 := HA.out.blk.lt
    have hm := gmust_any ρ _ l6 _ _ HB.out.sa.did.at_ [w_after] WM.heap.size 1 rfl (Blk.new WM _ _) (by omega) (by omega)
    clear hb HA
    unfold strsC strOf at hm HB
    simp only [List.map_cons, List.map_nil] at hm HB
    rw [show w_after.toArray = #[97, 102, 116, 101, 114] from rfl] at hm HB
    go_wp2_with fail
    refine hm.mono ?_
    clear hm
    intro e w8 hp
    rcases hp.cases with ⟨_, l9, v9, hok, rfl, rfl, d⟩ | ⟨m, herr, rfl, hg⟩
    case inr =>
      have HF := Lib.hid (show gJobP l = .error m from HE.out.trans (bind_errP (show must w_after l6 = .error m by rw [← musts_one]; exact herr)))
      have HG := Lib.hid HB.out.sa.did.grown
      clear hp herr
      go_wp2_with fail
      exact body_panic rfl (GP.err HF.out ⟨rfl, grown_trans HG.out hg⟩)
    have HE9 := Lib.hid (show gJobP l = kJobD nm 12 of_ l9 from HE.out.trans (bind_okP (show must w_after l6 = .ok ((), l9) by rw [← musts_one]; exact hok)))
    have HA := Lib.hid (HB.out.go hgg d)
    clear hp hok d HB HE hq9
    have HE := HE9
    clear HE9
    go_upto_region 7 with fail
    go_wp2_with fail
    refine (gnumber_any ρ w8 l9 _ _ HA.out.sa.did.at_).mono ?_
    intro e w10 hp
    rcases hp.cases with ⟨a, l11, v9, hok, rfl, rfl, _, d⟩ | ⟨m, herr, rfl, hg⟩
    case inr =>
      have HF := Lib.hid (show gJobP l = .error m from HE.out.trans (bind_errP herr))
      have HG := Lib.hid HA.out.sa.did.grown
      clear hp herr
      go_wp2_with fail
      exact body_panic rfl (GP.err HF.out ⟨rfl, grown_trans HG.out hg⟩)
    have HE9 := Lib.hid (show gJobP l = kJob5 nm 12 of_ (a, 0) l11 from HE.out.trans (bind_okP hok))
    clear hp hok HE
    have HE := HE9
    clear HE9
    have hX := d.blk HA.out.blk (by have := HA.out.qb; have := HA.out.sa.qw; omega)
    have hc : w10.cell? ⟨b, 17, none⟩ = _ := hX.cell 17
    have hf : w10.frozen? ⟨b, 17, none⟩ = _ := hX.frozen 17
    have HA9 := Lib.hid (HA.out.set (m' := { kind := 3, name := nm, of_ := of_, what := 12, a := a }) (d' := { kind := 3, name := nm, of_ := of_, what := 12, a := a }) hgg d 17 (.int .i64 a) rfl (rfl) (rfl) (fun hat => { hat with a := rfl }))
    clear hX d HA
    have HA := HA9
    clear HA9
    unfold stC quC slC valC at hc
    try unfold slC
    go_upto_region 14 with fail
    clear hc hf
    generalize w10.setCell _ _ = W12 at *
    have hb := later_new W12 (.cells (strsC [w_every]) 9)
    have HB := Lib.hid (HA.out.later hb)
    have hq9 := HA.out.blk.lt
    have hm := gmust_any ρ _ l11 _ _ HB.out.sa.did.at_ [w_every] W12.heap.size 1 rfl (Blk.new W12 _ _) (by omega) (by omega)
    clear hb HA
    unfold strsC strOf at hm HB
    simp only [List.map_cons, List.map_nil] at hm HB
    rw [show w_every.toArray = #[101, 118, 101, 114, 121] from rfl] at hm HB
    go_wp2_with fail
    refine hm.mono ?_
    clear hm
    intro e w13 hp
    rcases hp.cases with ⟨_, l14, v9, hok, rfl, rfl, d⟩ | ⟨m, herr, rfl, hg⟩
    case inr =>
      have HF := Lib.hid (show gJobP l = .error m from HE.out.trans (bind_errP (show must w_every l11 = .error m by rw [← musts_one]; exact herr)))
      have HG := Lib.hid HB.out.sa.did.grown
      clear hp herr
      go_wp2_with fail
      exact body_panic rfl (GP.err HF.out ⟨rfl, grown_trans HG.out hg⟩)
    have HE9 := Lib.hid (show gJobP l = kJob6 nm 12 of_ (a, 0) l14 from HE.out.trans (bind_okP (show must w_every l11 = .ok ((), l14) by rw [← musts_one]; exact hok)))
    have HA := Lib.hid (HB.out.go hgg d)
    clear hp hok d HB HE hq9
    have HE := HE9
    clear HE9
    go_upto_region 15 with fail
    go_wp2_with fail
    refine (gnumber_any ρ w13 l14 _ _ HA.out.sa.did.at_).mono ?_
    intro e w15 hp
    rcases hp.cases with ⟨every, l16, v9, hok, rfl, rfl, _, d⟩ | ⟨m, herr, rfl, hg⟩
    case inr =>
      have HF := Lib.hid (show gJobP l = .error m from HE.out.trans (bind_errP herr))
      have HG := Lib.hid HA.out.sa.did.grown
      clear hp herr
      go_wp2_with fail
      exact body_panic rfl (GP.err HF.out ⟨rfl, grown_trans HG.out hg⟩)
    have HE9 := Lib.hid (show gJobP l = kJob7 nm 12 of_ (a, 0) every l16 from HE.out.trans (bind_okP hok))
    clear hp hok HE
    have HE := HE9
    clear HE9
    have hX := d.blk HA.out.blk (by have := HA.out.qb; have := HA.out.sa.qw; omega)
    have hc : w15.cell? ⟨b, 4, none⟩ = _ := hX.cell 4
    have hf : w15.frozen? ⟨b, 4, none⟩ = _ := hX.frozen 4
    have HA9 := Lib.hid (HA.out.set (m' := { kind := 3, name := nm, of_ := of_, what := 12, a := a, every := every }) (d' := { kind := 3, name := nm, of_ := of_, what := 12, a := a, every := every }) hgg d 4 (.int .i64 every) rfl (rfl) (rfl) (fun hat => { hat with every := rfl }))
    clear hX d HA
    have HA := HA9
    clear HA9
    unfold stC quC slC valC at hc
    try unfold slC
    go_upto_region 16 with fail
    clear hc hf
    generalize w15.setCell _ _ = W17 at *
    have HX := Lib.hid (show gJobP l = .ok ({ kind := 3, name := nm, of_ := of_, what := 12, a := a, every := every }, l16) from HE.out)
    obtain ⟨cs, hcs⟩ : ∃ cs, cs = (stC { kind := 3, name := nm, of_ := of_, what := 12, a := a, every := every }).toArray := ⟨_, rfl⟩
    have HSZ := Lib.hid (show (Tryz.prog.info? 35).map (·.size) = some cs.size by rw [hcs]; exact gst_info)
    have HGS := Lib.hid (show gst0.size = cs.size by rw [hcs, gst_siz]; exact gst_siz _)
    have HON := Lib.hid (show cs.all (·.oneCell') = true by rw [hcs]; exact gst_one _)
    have HBK := Lib.hid (show Blk W17 b 35 cs by rw [hcs]; exact HA.out.blk)
    have HRS := Lib.hid HA.out.sa.res
    have HPO := Lib.hid (show gstPost ρ w lg dp gJobP l (.returned (.agg cs)) (W17.setRow (w.heap.size) cs) by rw [hcs]; exact HA.out.post hgg HX.out)
    clear HA HX hcs HE
    refine wp_region_lit ?_
    refine wpList_load_row rfl 35 (.tmp 3) rfl b rfl 35 cs (0, 0) _ HBK.out Tryz.underlying35 rfl HSZ.out ?_
    refine wpList_store_row rfl 35 (.tmp 2) (.tmp 47) rfl (w.heap.size) cs rfl rfl 35 gst0 HRS.out HSZ.out HGS.out HON.out ?_
    refine wpList_nil ?_
    simp only [Act.put, List.setIfInBounds_toArray, List.set_cons_succ, List.set_cons_zero]
    have HRR := Lib.hid (HRS.out.row cs)
    clear HBK HRS HON
    generalize W17.setRow (w.heap.size) cs = WF at *
    go_wp2_with fail
    exact bodyPost_ret (v := .agg cs) (results_cell_row Tryz.results71 _ _ (w.heap.size) 35 cs (0, 0) _ rfl HRR.out Tryz.underlying35 rfl HSZ.out) rfl HPO.out
end Go.Proofs.YtcneefmaghoejaaGreatDoor
