/- Parts of the proof: Gq2. Put together by slim.py. -/
import Derived.Deep.DeepCutAuto
import Derived.Test.YtcneefmaghoejaaGreatDoorB30
namespace Go.Proofs.YtcneefmaghoejaaGreatDoor
open Go.ChangeShapes Go.WideShapes Go.ChangeAt Go.RowKit
set_option linter.unusedVariables false
set_option linter.unusedSimpArgs false
def gquZ : Obj := .cells #[.slice none 0 0, .string ⟨#[]⟩, .bool false, .slice none 0 0, .slice none 0 0, .slice none 0 0, .slice none 0 0, .slice none 0 0] 29
def kLim (items : List (Tr × ByteArray)) (only : Bool) (frm : ByteArray) (whr group having : List Tr) (order : List (Tr × Bool)) : Ps Qu := do
  let limit ← limitP
  return { items, frm, only, whr, group, having, order, limit }
def kOrd (items : List (Tr × ByteArray)) (only : Bool) (frm : ByteArray) (whr group having : List Tr) : Ps Qu := do
  let order ← ordersP
  kLim items only frm whr group having order
def kHav (items : List (Tr × ByteArray)) (only : Bool) (frm : ByteArray) (whr group : List Tr) : Ps Qu := do
  let having ← behindP w_having
  kOrd items only frm whr group having
def kGrp (items : List (Tr × ByteArray)) (only : Bool) (frm : ByteArray) (whr : List Tr) : Ps Qu := do
  let group ← groupP
  kHav items only frm whr group
def kWhr (items : List (Tr × ByteArray)) (only : Bool) (frm : ByteArray) : Ps Qu := do
  let whr ← behindP w_where
  kGrp items only frm whr
def kNam (items : List (Tr × ByteArray)) (only : Bool) : Ps Qu := do
  let frm ← nameP
  kWhr items only frm
def kOnl (items : List (Tr × ByteArray)) : Ps Qu := do
  let only ← may w_only
  kNam items only
def kFrm (items : List (Tr × ByteArray)) : Ps Qu := do
  must w_from
  kOnl items
def kItm : Ps Qu := do
  let items ← itemsP
  kFrm items
theorem gnum_one {w : World} {S : Nat → Prop} {G : Nat} {k : Int} (h : Blk w G 2 #[.int .i64 k]) (hS : S G) : elNum.sl w S ⟨some ⟨G, 0, none⟩, 1, 1⟩ [k] :=
  ⟨rfl, [k], rl_blk (f := fun k : Int => [Value.int .i64 k]) (fun _ => rfl) h hS, .one rfl⟩
set_option maxHeartbeats 8000000 in
set_option maxRecDepth 100000 in
theorem gquery_any (ρ : Rdr) (w : World) (l : Wds) (lg dp : Bool) (h : ρ.gat w l lg dp) :
    Calls Tryz.prog 70 #[ρ.ptr] w (quPost ρ w lg dp l) := by
  have hgg := h.lt_
  have hmf : ∀ fn first cap w, (Instr.makeFunc fn first cap).run Tryz.prog w = .ok (.func fn first cap) w := fun _ _ _ _ => rfl
  have b1 := later_new w (.cells #[ρ.ptr] 58)
  have b3 := Later.then (Later.then b1 (later_new _ gquZ)) (later_new _ gquZ)
  have hP := ((Blk.new w 58 #[ρ.ptr]).alloc gquZ).alloc gquZ
  have hR := (Blk.new (w.alloc (.cells #[ρ.ptr] 58)) 29 qu0).alloc gquZ
  have hQ := Blk.new ((w.alloc (.cells #[ρ.ptr] 58)).alloc gquZ) 29 (quC {}).toArray
  rw [World.size_alloc] at hR
  rw [World.size_alloc, World.size_alloc] at hQ
  have HA := Lib.hid (show GQ ρ w lg dp (((w.alloc (.cells #[ρ.ptr] 58)).alloc gquZ).alloc gquZ) l {} {} from
    ⟨by simpa [Qu.long, Qu.exprs, deepB] using GDid.of_later h b3, hQ, hR, hP, Qu.at_nil _ _⟩)
  have HE := Lib.hid (show queryP l = (must w_select >>= fun _ => kItm) l from rfl)
  clear h b1 b3 hP hR hQ
  go_enter Tryz.func70, Tryz.ntmps70
  go_upto_region 2 with fail
  change Code.wp _ _ _ _ (((w.alloc (.cells #[ρ.ptr] 58)).alloc gquZ).alloc gquZ)
  generalize hW : (World.alloc _ _) = W0 at *
  clear hW
  have hb := later_new W0 (.cells (strsC [w_select]) 9)
  have HB := Lib.hid (HA.out.later hb)
  have hq := HA.out.blk.lt
  have p0 := HA.out.ptr
  have hm := gmust_any ρ _ l _ _ HB.out.did.at_ [w_select] W0.heap.size 1 rfl (Blk.new W0 _ _) (by omega) (by omega)
  clear hb HA
  unfold strsC strOf at hm HB
  simp only [List.map_cons, List.map_nil] at hm HB
  rw [show w_select.toArray = #[115, 101, 108, 101, 99, 116] from rfl] at hm HB
  go_wp2_with fail
  refine hm.mono ?_
  clear hm p0
  intro e w1 hp
  rcases hp.cases with ⟨_, l1, v9, hok, rfl, rfl, d⟩ | ⟨m, herr, rfl, hg⟩
  case inr =>
    have hme : must w_select l = .error m := by rw [← musts_one]; exact herr
    have HF := Lib.hid (show queryP l = .error m from HE.out.trans (bind_errP hme))
    have HG := Lib.hid HB.out.did.grown
    clear hp herr hme
    go_wp2_with fail
    exact body_panic rfl (GP.err HF.out ⟨rfl, grown_trans HG.out hg⟩)
  have hmt : must w_select l = .ok ((), l1) := by rw [← musts_one]; exact hok
  have HE1 := Lib.hid (show queryP l = kItm l1 from HE.out.trans (bind_okP hmt))
  have HA1 := Lib.hid (HB.out.go hgg d)
  clear hp hok hmt d HB hq
  have p0 := HA1.out.ptr
  have hm := ghave_any ρ w1 l1 _ _ HA1.out.did.at_ ⟨#[42]⟩
  rw [show (⟨#[42]⟩ : ByteArray).data.toList = s_star from rfl] at hm
  go_upto_if 9 with fail
  refine hm.mono ?_
  clear hm p0
  rintro e w2 ⟨rfl, d⟩
  have HA2 := Lib.hid (HA1.out.go hgg d)
  clear d HA1 HE
  go_upto_if 9 with fail
  go_cut [] (fun wx => ∃ (items : List (Tr × ByteArray)) (sl : Sl) (l' : Wds), queryP l = kFrm items l' ∧ GQ ρ w lg dp wx l' { items := sl } { items := items })
  case first =>
    cases hst : headIs s_star l1
    · rw [after_no hst] at HA2
      have HY := Lib.hid (gq_list hst)
      clear hst
      have p0 := HA2.out.ptr
      have hq := HA2.out.blk.lt
      have F := quG_fit (ρ := ρ) (w := w) (m := {}) (d := {}) hgg 0 (by decide)
      have L : Lst ρ w (fun x => decide (32 < x.1.depth)) itemP 100 #[.pointer (some ⟨w.heap.size, 0, none⟩), .pointer (some ⟨w.heap.size + 1 + 1, 0, none⟩)] ((quG ρ w {} {} 0).acc elItem 51) :=
        ⟨sane_itemP, enters_of Tryz.func100 (by kernel_rfl) rfl, fun acc a b hs hg _ => by obtain ⟨v, h⟩ := hs; exact ⟨v, h.grown F hg⟩, fun acc W l lg dp hn hs hd => gitem_read (quG ρ w {} {} 0) F rfl rfl acc W l lg dp hn hs hd⟩
      have hm := glist_any ρ w (fun x => decide (32 < x.1.depth)) itemP 100 #[.pointer (some ⟨w.heap.size, 0, none⟩), .pointer (some ⟨w.heap.size + 1 + 1, 0, none⟩)] _ L w2 l1 _ _ HA2.out.did (HA2.out.start elItem 51 0 rfl) hgg
      clear L F
      go_wp2_with fail
      refine hm.mono ?_
      clear hm p0
      intro e w3 hp
      unfold lstPost at hp
      cases hx : listP itemP l1 with
      | error m =>
        rw [hx] at hp
        obtain ⟨rfl, hg⟩ := hp
        have HF := Lib.hid (show queryP l = .error m from HE1.out.trans (bind_errP (HY.out.trans hx)))
        clear hx
        go_wp2_with fail
        exact body_panic rfl (GP.err HF.out ⟨rfl, hg⟩)
      | ok z =>
        obtain ⟨xs, l3⟩ := z
        rw [hx] at hp
        obtain ⟨rfl, hs, hd⟩ := hp
        obtain ⟨so, hA⟩ := GQ.list (lg := lg) (dp := dp) (m' := fun so => { items := so }) (d' := { items := xs }) hs hd (fun _ => rfl) (by simp [Qu.long, Bool.or_assoc]) (by simp [Qu.exprs, deepB, List.any_append, List.any_map, Function.comp_def, Bool.or_assoc]) (fun so hsl hat => { hat with items := hsl })
        have HAX := Lib.hid hA
        have HEX := Lib.hid (HE1.out.trans (bind_okP (HY.out.trans hx)))
        clear hx hA hs hd HA2
        go_wp2_with fail
        go_meet
        exact ⟨xs, so, l3, HEX.out, HAX.out⟩
    · rw [after_yes hst] at HA2
      have HEX := Lib.hid (show queryP l = kFrm [] l1.tail from HE1.out.trans (bind_okP (gq_star hst)))
      clear hst
      go_wp2_with fail
      go_meet
      exact ⟨[], Sl.nil, _, HEX.out, HA2.out⟩
  case rest =>
    obtain ⟨items, sl, l3, hE, hA⟩ := hcut
    have HE3 := Lib.hid hE
    have HA3 := Lib.hid hA
    clear hE hA HA2 HE1
    have hb := later_new wc (.cells (strsC [w_from]) 9)
    have HB := Lib.hid (HA3.out.later hb)
    have hq := HA3.out.blk.lt
    have p0 := HA3.out.ptr
    have hm := gmust_any ρ _ l3 _ _ HB.out.did.at_ [w_from] wc.heap.size 1 rfl (Blk.new wc _ _) (by omega) (by omega)
    clear hb HA3
    unfold strsC strOf at hm HB
    simp only [List.map_cons, List.map_nil] at hm HB
    rw [show w_from.toArray = #[102, 114, 111, 109] from rfl] at hm HB
    go_wp2_with fail
    refine hm.mono ?_
    clear hm p0
    intro e w4 hp
    rcases hp.cases with ⟨_, l4, v9, hok, rfl, rfl, d⟩ | ⟨m, herr, rfl, hg⟩
    case inr =>
      have hme : must w_from l3 = .error m := by rw [← musts_one]; exact herr
      have HF := Lib.hid (show queryP l = .error m from HE3.out.trans (bind_errP hme))
      have HG := Lib.hid HB.out.did.grown
      clear hp herr hme
      go_wp2_with fail
      exact body_panic rfl (GP.err HF.out ⟨rfl, grown_trans HG.out hg⟩)
    have hmt : must w_from l3 = .ok ((), l4) := by rw [← musts_one]; exact hok
    have HE4 := Lib.hid (show queryP l = kOnl items l4 from HE3.out.trans (bind_okP hmt))
    have HA4 := Lib.hid (HB.out.go hgg d)
    clear hp hok hmt d HB hq
    have p0 := HA4.out.ptr
    have hm := ghave_any ρ w4 l4 _ _ HA4.out.did.at_ ⟨#[111, 110, 108, 121]⟩
    rw [show (⟨#[111, 110, 108, 121]⟩ : ByteArray).data.toList = w_only from rfl] at hm
    go_wp2_with fail
    refine hm.mono ?_
    clear hm p0
    rintro e w5 ⟨rfl, d⟩
    have hX := d.blk HA4.out.blk (by omega)
    have hc : w5.cell? ⟨w.heap.size + 1 + 1, 2, none⟩ = _ := hX.cell 2
    have hf : w5.frozen? ⟨w.heap.size + 1 + 1, 2, none⟩ = _ := hX.frozen 2
    have HA5 := Lib.hid (HA4.out.set (m' := { items := sl, only := headIs w_only l4 }) (d' := { items := items, only := headIs w_only l4 }) hgg d 2 (.bool (headIs w_only l4)) rfl (rfl) (rfl) (fun hat => { hat with only := rfl }))
    have HE5 := Lib.hid (show queryP l = kNam items (headIs w_only l4) (afterW w_only l4) from HE4.out.trans (bind_okP (may_eq w_only l4)))
    clear hX d HA4
    generalize headIs w_only l4 = only at *
    generalize afterW w_only l4 = l5 at *
    clear HE4 HE3
    go_upto_region 7 with fail
    clear hc hf
    generalize w5.setCell _ _ = W5 at *
    have p0 := HA5.out.ptr
    go_wp2_with fail
    refine (gname_any ρ W5 l5 _ _ HA5.out.did.at_).mono ?_
    clear p0
    intro e w6 hp
    rcases hp.cases with ⟨frm, l6, v9, hok, rfl, rfl, d⟩ | ⟨m, herr, rfl, hg⟩
    case inr =>
      have HF := Lib.hid (show queryP l = .error m from HE5.out.trans (bind_errP herr))
      have HG := Lib.hid HA5.out.did.grown
      clear hp herr
      go_wp2_with fail
      exact body_panic rfl (GP.err HF.out ⟨rfl, grown_trans HG.out hg⟩)
    have hX := d.blk HA5.out.blk (by omega)
    have hc : w6.cell? ⟨w.heap.size + 1 + 1, 1, none⟩ = _ := hX.cell 1
    have hf : w6.frozen? ⟨w.heap.size + 1 + 1, 1, none⟩ = _ := hX.frozen 1
    have HA6 := Lib.hid (HA5.out.set (m' := { items := sl, only := only, frm := frm }) (d' := { items := items, only := only, frm := frm }) hgg d 1 (.string frm) rfl (rfl) (rfl) (fun hat => { hat with frm := rfl }))
    have HE6 := Lib.hid (show queryP l = kWhr items only frm l6 from HE5.out.trans (bind_okP hok))
    clear hp hok
    clear hX d HA5
    clear HE5
    go_upto_region 8 with fail
    clear hc hf
    generalize w6.setCell _ _ = W6 at *
    have p0 := HA6.out.ptr
    have hq := HA6.out.blk.lt
    have hm := gmaybe_any ρ W6 l6 _ _ HA6.out.did.at_ w_where
    rw [show w_where.toArray = #[119, 104, 101, 114, 101] from rfl] at hm
    go_wp2_with fail
    refine hm.mono ?_
    clear hm p0
    intro e w7 hp
    rcases GP.cases hp with ⟨whr, l7, v9, hok, rfl, ⟨A, n, c⟩, rfl, hsl, d⟩ | ⟨m, herr, rfl, hg⟩
    case inr =>
      have HF := Lib.hid (show queryP l = .error m from HE6.out.trans (bind_errP herr))
      have HG := Lib.hid HA6.out.did.grown
      clear hp herr
      go_wp2_with fail
      exact body_panic rfl (GP.err HF.out ⟨rfl, grown_trans HG.out hg⟩)
    have hX := d.blk HA6.out.blk (by omega)
    have hc : w7.cell? ⟨w.heap.size + 1 + 1, 3, none⟩ = _ := hX.cell 3
    have hf : w7.frozen? ⟨w.heap.size + 1 + 1, 3, none⟩ = _ := hX.frozen 3
    have HA7 := Lib.hid (HA6.out.set (m' := { items := sl, only := only, frm := frm, whr := ⟨A, n, c⟩ }) (d' := { items := items, only := only, frm := frm, whr := whr }) hgg d 3 (.slice A n c) rfl (by simp [Qu.long, Bool.or_assoc]) (by simp [Qu.exprs, deepB, List.any_append, List.any_map, Function.comp_def, Bool.or_assoc]) (fun hat => { hat with whr := El.lies.more hsl (by omega) }))
    have HE7 := Lib.hid (show queryP l = kGrp items only frm whr l7 from HE6.out.trans (bind_okP hok))
    clear hp hok hsl hq
    clear hX d HA6
    clear HE6
    unfold slC
    go_upto_region 9 with fail
    obtain ⟨sw, hsw⟩ : ∃ s : Sl, s = ⟨A, n, c⟩ := ⟨_, rfl⟩
    rw [← hsw] at HA7
    clear hsw
    clear hc hf
    generalize w7.setCell _ _ = W7 at *
    have p0 := HA7.out.ptr
    have hm := ghave_any ρ W7 l7 _ _ HA7.out.did.at_ ⟨#[103, 114, 111, 117, 112]⟩
    rw [show (⟨#[103, 114, 111, 117, 112]⟩ : ByteArray).data.toList = w_group from rfl] at hm
    go_upto_if 26 with fail
    refine hm.mono ?_
    clear hm p0
    rintro e w8 ⟨rfl, d⟩
    have HA8 := Lib.hid (HA7.out.go hgg d)
    clear d HA7
    go_upto_if 26 with fail
    go_cut [] (fun wx => ∃ (group : List Tr) (so : Sl) (l' : Wds), queryP l = kHav items only frm whr group l' ∧ GQ ρ w lg dp wx l' { items := sl, only := only, frm := frm, whr := sw, group := so } { items := items, only := only, frm := frm, whr := whr, group := group })
    case first =>
      cases hst : headIs w_group l7
      · rw [after_no hst] at HA8
        have HEX := Lib.hid (show queryP l = kHav items only frm whr [] l7 from HE7.out.trans (bind_okP (group_no hst)))
        clear hst
        go_wp2_with fail
        go_meet
        exact ⟨[], Sl.nil, _, HEX.out, HA8.out⟩
      · rw [after_yes hst] at HA8
        have HW := Lib.hid (group_yes hst)
        clear hst
        have hb := later_new w8 (.cells (strsC [w_by]) 9)
        have HB := Lib.hid (HA8.out.later hb)
        have hq := HA8.out.blk.lt
        have p0 := HA8.out.ptr
        have hm := gmust_any ρ _ l7.tail _ _ HB.out.did.at_ [w_by] w8.heap.size 1 rfl (Blk.new w8 _ _) (by omega) (by omega)
        clear hb HA8
        unfold strsC strOf at hm HB
        simp only [List.map_cons, List.map_nil] at hm HB
        rw [show w_by.toArray = #[98, 121] from rfl] at hm HB
        go_wp2_with fail
        refine hm.mono ?_
        clear hm p0
        intro e w8b hp
        rcases hp.cases with ⟨_, l8b, v9, hok, rfl, rfl, d⟩ | ⟨m, herr, rfl, hg⟩
        case inr =>
          have hme : must w_by l7.tail = .error m := by rw [← musts_one]; exact herr
          have HF := Lib.hid (show queryP l = .error m from HE7.out.trans (bind_errP (HW.out.trans (bind_errP hme))))
          have HG := Lib.hid HB.out.did.grown
          clear hp herr hme
          go_wp2_with fail
          exact body_panic rfl (GP.err HF.out ⟨rfl, grown_trans HG.out hg⟩)
        have hmt : must w_by l7.tail = .ok ((), l8b) := by rw [← musts_one]; exact hok
        have HE8b := Lib.hid (show groupP l7 = listP exprP l8b from HW.out.trans (bind_okP hmt))
        have HA8b := Lib.hid (HB.out.go hgg d)
        clear hp hok hmt d HB hq
        have p0 := HA8b.out.ptr
        have hq := HA8b.out.blk.lt
        have F := quG_fit (ρ := ρ) (w := w) (m := { items := sl, only := only, frm := frm, whr := sw }) (d := { items := items, only := only, frm := frm, whr := whr }) hgg 4 (by decide)
        have L : Lst ρ w (fun t => decide (32 < t.depth)) exprP 101 #[.pointer (some ⟨w.heap.size + 1 + 1, 0, none⟩), .pointer (some ⟨w.heap.size, 0, none⟩)] ((quG ρ w { items := sl, only := only, frm := frm, whr := sw } { items := items, only := only, frm := frm, whr := whr } 4).acc elTr 49) :=
          ⟨sane_expr, enters_of Tryz.func101 (by kernel_rfl) rfl, fun acc a b hs hg _ => by obtain ⟨v, h⟩ := hs; exact ⟨v, h.grown F hg⟩, fun acc W l lg dp hn hs hd => ggroup_read (quG ρ w { items := sl, only := only, frm := frm, whr := sw } { items := items, only := only, frm := frm, whr := whr } 4) F rfl rfl acc W l lg dp hn hs hd⟩
        have hm := glist_any ρ w (fun t => decide (32 < t.depth)) exprP 101 #[.pointer (some ⟨w.heap.size + 1 + 1, 0, none⟩), .pointer (some ⟨w.heap.size, 0, none⟩)] _ L w8b l8b _ _ HA8b.out.did (HA8b.out.start elTr 49 4 rfl) hgg
        clear L F
        go_wp2_with fail
        refine hm.mono ?_
        clear hm p0
        intro e w8c hp
        unfold lstPost at hp
        cases hx : listP exprP l8b with
        | error m =>
          rw [hx] at hp
          obtain ⟨rfl, hg⟩ := hp
          have HF := Lib.hid (show queryP l = .error m from HE7.out.trans (bind_errP (HE8b.out.trans hx)))
          clear hx
          go_wp2_with fail
          exact body_panic rfl (GP.err HF.out ⟨rfl, hg⟩)
        | ok z =>
          obtain ⟨xs, l8c⟩ := z
          rw [hx] at hp
          obtain ⟨rfl, hs, hd⟩ := hp
          obtain ⟨so, hA⟩ := GQ.list (lg := lg) (dp := dp) (m' := fun so => { items := sl, only := only, frm := frm, whr := sw, group := so }) (d' := { items := items, only := only, frm := frm, whr := whr, group := xs }) hs hd (fun _ => rfl) (by simp [Qu.long, Bool.or_assoc]) (by simp [Qu.exprs, deepB, List.any_append, List.any_map, Function.comp_def, Bool.or_assoc]) (fun so hsl hat => { hat with group := hsl })
          have HAX := Lib.hid hA
          have HEX := Lib.hid (HE7.out.trans (bind_okP (HE8b.out.trans hx)))
          clear hx hA hs hd HA8b
          go_wp2_with fail
          go_meet
          exact ⟨xs, so, l8c, HEX.out, HAX.out⟩
    case rest =>
      obtain ⟨group, sg, l9, hE, hA⟩ := hcut
      have HE9 := Lib.hid hE
      have HA9 := Lib.hid hA
      clear hE hA HA8 HE7
      have p0 := HA9.out.ptr
      have hq := HA9.out.blk.lt
      have hm := gmaybe_any ρ wc l9 _ _ HA9.out.did.at_ w_having
      rw [show w_having.toArray = #[104, 97, 118, 105, 110, 103] from rfl] at hm
      go_wp2_with fail
      refine hm.mono ?_
      clear hm p0
      intro e w10 hp
      rcases GP.cases hp with ⟨having, l10, v9, hok, rfl, ⟨A, n, c⟩, rfl, hsl, d⟩ | ⟨m, herr, rfl, hg⟩
      case inr =>
        have HF := Lib.hid (show queryP l = .error m from HE9.out.trans (bind_errP herr))
        have HG := Lib.hid HA9.out.did.grown
        clear hp herr
        go_wp2_with fail
        exact body_panic rfl (GP.err HF.out ⟨rfl, grown_trans HG.out hg⟩)
      have hX := d.blk HA9.out.blk (by omega)
      have hc : w10.cell? ⟨w.heap.size + 1 + 1, 5, none⟩ = _ := hX.cell 5
      have hf : w10.frozen? ⟨w.heap.size + 1 + 1, 5, none⟩ = _ := hX.frozen 5
      have HA10 := Lib.hid (HA9.out.set (m' := { items := sl, only := only, frm := frm, whr := sw, group := sg, having := ⟨A, n, c⟩ }) (d' := { items := items, only := only, frm := frm, whr := whr, group := group, having := having }) hgg d 5 (.slice A n c) rfl (by simp [Qu.long, Bool.or_assoc]) (by simp [Qu.exprs, deepB, List.any_append, List.any_map, Function.comp_def, Bool.or_assoc]) (fun hat => { hat with having := El.lies.more hsl (by omega) }))
      have HE10 := Lib.hid (show queryP l = kOrd items only frm whr group having l10 from HE9.out.trans (bind_okP hok))
      clear hp hok hsl hq
      clear hX d HA9
      clear HE9
      unfold slC
      go_upto_region 13 with fail
      obtain ⟨sh, hsh⟩ : ∃ s : Sl, s = ⟨A, n, c⟩ := ⟨_, rfl⟩
      rw [← hsh] at HA10
      clear hsh
      clear hc hf
      generalize w10.setCell _ _ = W10 at *
      have p0 := HA10.out.ptr
      have hm := ghave_any ρ W10 l10 _ _ HA10.out.did.at_ ⟨#[111, 114, 100, 101, 114]⟩
      rw [show (⟨#[111, 114, 100, 101, 114]⟩ : ByteArray).data.toList = w_order from rfl] at hm
      go_upto_if 37 with fail
      refine hm.mono ?_
      clear hm p0
      rintro e w11 ⟨rfl, d⟩
      have HA11 := Lib.hid (HA10.out.go hgg d)
      clear d HA10
      go_upto_if 37 with fail
      go_cut [] (fun wx => ∃ (order : List (Tr × Bool)) (so : Sl) (l' : Wds), queryP l = kLim items only frm whr group having order l' ∧ GQ ρ w lg dp wx l' { items := sl, only := only, frm := frm, whr := sw, group := sg, having := sh, order := so } { items := items, only := only, frm := frm, whr := whr, group := group, having := having, order := order })
      case first =>
        cases hst : headIs w_order l10
        · rw [after_no hst] at HA11
          have HEX := Lib.hid (show queryP l = kLim items only frm whr group having [] l10 from HE10.out.trans (bind_okP (orders_no hst)))
          clear hst
          go_wp2_with fail
          go_meet
          exact ⟨[], Sl.nil, _, HEX.out, HA11.out⟩
        · rw [after_yes hst] at HA11
          have HW := Lib.hid (orders_yes hst)
          clear hst
          have hb := later_new w11 (.cells (strsC [w_by]) 9)
          have HB := Lib.hid (HA11.out.later hb)
          have hq := HA11.out.blk.lt
          have p0 := HA11.out.ptr
          have hm := gmust_any ρ _ l10.tail _ _ HB.out.did.at_ [w_by] w11.heap.size 1 rfl (Blk.new w11 _ _) (by omega) (by omega)
          clear hb HA11
          unfold strsC strOf at hm HB
          simp only [List.map_cons, List.map_nil] at hm HB
          rw [show w_by.toArray = #[98, 121] from rfl] at hm HB
          go_wp2_with fail
          refine hm.mono ?_
          clear hm p0
          intro e w11b hp
          rcases hp.cases with ⟨_, l11b, v9, hok, rfl, rfl, d⟩ | ⟨m, herr, rfl, hg⟩
          case inr =>
            have hme : must w_by l10.tail = .error m := by rw [← musts_one]; exact herr
            have HF := Lib.hid (show queryP l = .error m from HE10.out.trans (bind_errP (HW.out.trans (bind_errP hme))))
            have HG := Lib.hid HB.out.did.grown
            clear hp herr hme
            go_wp2_with fail
            exact body_panic rfl (GP.err HF.out ⟨rfl, grown_trans HG.out hg⟩)
          have hmt : must w_by l10.tail = .ok ((), l11b) := by rw [← musts_one]; exact hok
          have HE11b := Lib.hid (show ordersP l10 = listP orderP l11b from HW.out.trans (bind_okP hmt))
          have HA11b := Lib.hid (HB.out.go hgg d)
          clear hp hok hmt d HB hq
          have p0 := HA11b.out.ptr
          have hq := HA11b.out.blk.lt
          have F := quG_fit (ρ := ρ) (w := w) (m := { items := sl, only := only, frm := frm, whr := sw, group := sg, having := sh }) (d := { items := items, only := only, frm := frm, whr := whr, group := group, having := having }) hgg 6 (by decide)
          have L : Lst ρ w (fun x => decide (32 < x.1.depth)) orderP 102 #[.pointer (some ⟨w.heap.size, 0, none⟩), .pointer (some ⟨w.heap.size + 1 + 1, 0, none⟩)] ((quG ρ w { items := sl, only := only, frm := frm, whr := sw, group := sg, having := sh } { items := items, only := only, frm := frm, whr := whr, group := group, having := having } 6).acc elOrder 97) :=
            ⟨sane_orderP, enters_of Tryz.func102 (by kernel_rfl) rfl, fun acc a b hs hg _ => by obtain ⟨v, h⟩ := hs; exact ⟨v, h.grown F hg⟩, fun acc W l lg dp hn hs hd => gorder_read (quG ρ w { items := sl, only := only, frm := frm, whr := sw, group := sg, having := sh } { items := items, only := only, frm := frm, whr := whr, group := group, having := having } 6) F rfl rfl acc W l lg dp hn hs hd⟩
          have hm := glist_any ρ w (fun x => decide (32 < x.1.depth)) orderP 102 #[.pointer (some ⟨w.heap.size, 0, none⟩), .pointer (some ⟨w.heap.size + 1 + 1, 0, none⟩)] _ L w11b l11b _ _ HA11b.out.did (HA11b.out.start elOrder 97 6 rfl) hgg
          clear L F
          go_wp2_with fail
          refine hm.mono ?_
          clear hm p0
          intro e w11c hp
          unfold lstPost at hp
          cases hx : listP orderP l11b with
          | error m =>
            rw [hx] at hp
            obtain ⟨rfl, hg⟩ := hp
            have HF := Lib.hid (show queryP l = .error m from HE10.out.trans (bind_errP (HE11b.out.trans hx)))
            clear hx
            go_wp2_with fail
            exact body_panic rfl (GP.err HF.out ⟨rfl, hg⟩)
          | ok z =>
            obtain ⟨xs, l11c⟩ := z
            rw [hx] at hp
            obtain ⟨rfl, hs, hd⟩ := hp
            obtain ⟨so, hA⟩ := GQ.list (lg := lg) (dp := dp) (m' := fun so => { items := sl, only := only, frm := frm, whr := sw, group := sg, having := sh, order := so }) (d' := { items := items, only := only, frm := frm, whr := whr, group := group, having := having, order := xs }) hs hd (fun _ => rfl) (by simp [Qu.long, Bool.or_assoc]) (by simp [Qu.exprs, deepB, List.any_append, List.any_map, Function.comp_def, Bool.or_assoc]) (fun so hsl hat => { hat with order := hsl })
            have HAX := Lib.hid hA
            have HEX := Lib.hid (HE10.out.trans (bind_okP (HE11b.out.trans hx)))
            clear hx hA hs hd HA11b
            go_wp2_with fail
            go_meet
            exact ⟨xs, so, l11c, HEX.out, HAX.out⟩
      case rest =>
        obtain ⟨order, so, l12, hE, hA⟩ := hcut
        have HE12 := Lib.hid hE
        have HA12 := Lib.hid hA
        clear hE hA HA11 HE10
        have p0 := HA12.out.ptr
        have hm := ghave_any ρ wc l12 _ _ HA12.out.did.at_ ⟨#[108, 105, 109, 105, 116]⟩
        rw [show (⟨#[108, 105, 109, 105, 116]⟩ : ByteArray).data.toList = w_limit from rfl] at hm
        go_wp2_with fail
        refine hm.mono ?_
        clear hm p0
        rintro e w13 ⟨rfl, d⟩
        have HA13 := Lib.hid (HA12.out.go hgg d)
        clear d HA12
        cases hst : headIs w_limit l12
        · rw [after_no hst] at HA13
          have HEX := Lib.hid (show queryP l = .ok ({ items := items, only := only, frm := frm, whr := whr, group := group, having := having, order := order }, l12) from HE12.out.trans ((bind_okP (limit_no hst)).trans rfl))
          clear hst
          go_wp2_with (first
            | (refine wpList_load_row rfl 29 (.tmp 3) rfl (w.heap.size + 1 + 1) rfl 29 _ (0, 0) _ HA13.out.blk Tryz.underlying29 rfl qu_info ?_)
            | (refine wpList_store_row rfl 29 (.tmp 2) (.tmp 50) rfl (w.heap.size + 1) (quC { items := sl, only := only, frm := frm, whr := sw, group := sg, having := sh, order := so }).toArray rfl rfl 29 qu0 HA13.out.res qu_info rfl (qu_one _) ?_
               have HR := Lib.hid (HA13.out.res.row (quC { items := sl, only := only, frm := frm, whr := sw, group := sg, having := sh, order := so }).toArray)))
          exact bodyPost_ret (v := quV { items := sl, only := only, frm := frm, whr := sw, group := sg, having := sh, order := so }) (results_cell_row Tryz.results70 _ _ (w.heap.size + 1) 29 (quC { items := sl, only := only, frm := frm, whr := sw, group := sg, having := sh, order := so }).toArray (0, 0) _ rfl HR.out Tryz.underlying29 rfl qu_info) rfl (HA13.out.post hgg HEX.out)
        · rw [after_yes hst] at HA13
          have HW := Lib.hid (limit_yes hst)
          clear hst
          have p0 := HA13.out.ptr
          go_wp2_with fail
          refine (gnumber_any ρ w13 _ _ _ HA13.out.did.at_).mono ?_
          clear p0
          intro e w14 hp
          rcases hp.cases with ⟨k, l14, v9, hok, rfl, rfl, _, d⟩ | ⟨m, herr, rfl, hg⟩
          case inr =>
            have HF := Lib.hid (show queryP l = .error m from HE12.out.trans (bind_errP (HW.out.trans (bind_errP herr))))
            have HG := Lib.hid HA13.out.did.grown
            clear hp herr
            go_wp2_with fail
            exact body_panic rfl (GP.err HF.out ⟨rfl, grown_trans HG.out hg⟩)
          have HEX := Lib.hid (show queryP l = .ok ({ items := items, only := only, frm := frm, whr := whr, group := group, having := having, order := order, limit := [k] }, l14) from HE12.out.trans ((bind_okP (HW.out.trans ((bind_okP hok).trans rfl))).trans rfl))
          have hq := HA13.out.blk.lt
          have hs := d.size
          have hb := later_new w14 (.cells #[.int .i64 k] 2)
          have hN := gnum_one (S := Btw (w.heap.size + 3) (w14.alloc (.cells #[.int .i64 k] 2))) (Blk.new w14 2 #[.int .i64 k]) ⟨by omega, by simp⟩
          have hX := (d.later hb).blk HA13.out.blk (by omega)
          have hc : (w14.alloc (.cells #[.int .i64 k] 2)).cell? ⟨w.heap.size + 1 + 1, 7, none⟩ = _ := hX.cell 7
          have hf : (w14.alloc (.cells #[.int .i64 k] 2)).frozen? ⟨w.heap.size + 1 + 1, 7, none⟩ = _ := hX.frozen 7
          have HA15 := Lib.hid (HA13.out.set (m' := { items := sl, only := only, frm := frm, whr := sw, group := sg, having := sh, order := so, limit := ⟨some ⟨w14.heap.size, 0, none⟩, 1, 1⟩ }) (d' := { items := items, only := only, frm := frm, whr := whr, group := group, having := having, order := order, limit := [k] }) hgg (d.later hb) 7 (.slice (some ⟨w14.heap.size, 0, none⟩) 1 1) rfl rfl rfl (fun hat => { hat with limit := hN }))
          clear hp hok hX d hb hN HA13 HE12 HW
          go_upto_region 18 with fail
          clear hc hf
          generalize (World.setCell _ _ _) = W15 at *
          generalize (some (Addr.mk w14.heap.size 0 none)) = AX at *
          go_wp2_with (first
            | (refine wpList_load_row rfl 29 (.tmp 3) rfl (w.heap.size + 1 + 1) rfl 29 _ (0, 0) _ HA15.out.blk Tryz.underlying29 rfl qu_info ?_)
            | (refine wpList_store_row rfl 29 (.tmp 2) (.tmp 50) rfl (w.heap.size + 1) (quC { items := sl, only := only, frm := frm, whr := sw, group := sg, having := sh, order := so, limit := ⟨AX, 1, 1⟩ }).toArray rfl rfl 29 qu0 HA15.out.res qu_info rfl (qu_one _) ?_
               have HR := Lib.hid (HA15.out.res.row (quC { items := sl, only := only, frm := frm, whr := sw, group := sg, having := sh, order := so, limit := ⟨AX, 1, 1⟩ }).toArray)))
          exact bodyPost_ret (v := quV { items := sl, only := only, frm := frm, whr := sw, group := sg, having := sh, order := so, limit := ⟨AX, 1, 1⟩ }) (results_cell_row Tryz.results70 _ _ (w.heap.size + 1) 29 (quC { items := sl, only := only, frm := frm, whr := sw, group := sg, having := sh, order := so, limit := ⟨AX, 1, 1⟩ }).toArray (0, 0) _ rfl HR.out Tryz.underlying29 rfl qu_info) rfl (HA15.out.post hgg HEX.out)
end Go.Proofs.YtcneefmaghoejaaGreatDoor
