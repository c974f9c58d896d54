/- Parts of the proof: Pd, Wk13, Lw, LayW. Put together by slim.py. -/
import Derived.Deep.LoopGhost
import Derived.Test.YtcneefmaghoejaaGreatDoorB2
import Derived.Test.YtcneefmaghoejaaGreatDoorB10
import Derived.Test.YtcneefmaghoejaaGreatDoorB13
import Derived.Test.YtcneefmaghoejaaGreatDoorB21
import Derived.Test.YtcneefmaghoejaaGreatDoorB32
import Derived.Test.YtcneefmaghoejaaGreatDoorB39
import Derived.Test.YtcneefmaghoejaaGreatDoorB40
import Derived.Test.YtcneefmaghoejaaGreatDoorB41
import Derived.Test.YtcneefmaghoejaaGreatDoorB43
import Derived.Test.YtcneefmaghoejaaGreatDoorB45
namespace Go.Proofs.YtcneefmaghoejaaGreatDoor
open Go.ChangeShapes Go.WideShapes Go.ChangeAt Go.RowKit
set_option linter.unusedVariables false
set_option linter.unusedSimpArgs false
def parS (s : List UInt8) : St := match parseL s with
  | .error _ => {}
  | .ok d => d
def parP (s : List UInt8) : Nat := match parseL s with
  | .error (p, _) => p
  | .ok _ => 0
def parX (s : List UInt8) : Nat := match parseL s with
  | .error (_, x) => x
  | .ok _ => 0
def parQ (s : ByteArray) (w : World) (e : Ending) (w' : World) : Prop :=
  ∃ y : StM, e = .returned (.tuple #[stV y, .int .i64 (parP s.data.toList), .int .i64 (parX s.data.toList)]) ∧ (parS s.data.toList).at_ w' (Btw w.heap.size w') y ∧ Below w.heap.size w w'
theorem parQ_of {s : ByteArray} {w w' : World} {e : Ending} (h : parPost s w e w') : parQ s w e w' := by
  unfold parPost at h
  unfold parQ parS parP parX
  cases hp : parseL s.data.toList with
  | error x =>
    obtain ⟨p, x⟩ := x
    rw [hp] at h
    exact ⟨{}, h.1, St.at_nil _ _, h.2⟩
  | ok d =>
    rw [hp] at h
    obtain ⟨y, h1, h2, h3⟩ := h
    exact ⟨y, h1, h2, h3⟩
theorem gpar_any (s : ByteArray) (w : World) (hE : LexEnv w) (hs : s.size ≤ 4294967280) : Calls Tryz.prog 10 #[.string s] w (parQ s w) := (gparse_any s w hE hs).mono fun _ _ h => parQ_of h
theorem thins_of : ∀ {l : List Tr}, (∀ t ∈ l, t.thin) → Tr.thins l
  | [], _ => by unfold Tr.thins; trivial
  | t :: l, h => by unfold Tr.thins; exact ⟨h t List.mem_cons_self, thins_of fun x hx => h x (List.mem_cons_of_mem _ hx)⟩
theorem lim_limit {l r : Wds} {x : List Int} (h : limitP l = .ok (x, r)) : x.length ≤ 1 := by
  obtain ⟨b, m, _, h⟩ := bind_invK h
  split at h
  · obtain ⟨n, m2, _, h⟩ := bind_invK h
    injection h with h; injection h with h _; subst h; simp
  · injection h with h; injection h with h _; subst h; simp
theorem lim_query {l r : Wds} {q : Qu} (h : queryP l = .ok (q, r)) : q.limit.length ≤ 1 := by
  obtain ⟨_, _, _, h⟩ := bind_invK h
  obtain ⟨_, _, _, h⟩ := bind_invK h
  obtain ⟨_, _, _, h⟩ := bind_invK h
  obtain ⟨_, _, _, h⟩ := bind_invK h
  obtain ⟨_, _, _, h⟩ := bind_invK h
  obtain ⟨_, _, _, h⟩ := bind_invK h
  obtain ⟨_, _, _, h⟩ := bind_invK h
  obtain ⟨_, _, _, h⟩ := bind_invK h
  obtain ⟨_, _, _, h⟩ := bind_invK h
  obtain ⟨x, m, hx, h⟩ := bind_invK h
  injection h with h; injection h with h _; subst h
  exact lim_limit hx
def Lm (p : Ps St) : Prop := ∀ l d r, p l = .ok (d, r) → d.query.limit.length ≤ 1
theorem lm_bind {α : Type} {p : Ps α} {f : α → Ps St} (h : ∀ x, Lm (f x)) : Lm (p >>= f) := fun l d r e => by
  obtain ⟨x, m, _, h2⟩ := bind_invK e
  exact h x m d r h2
theorem lm_query {f : Qu → Ps St} (h : ∀ q : Qu, q.limit.length ≤ 1 → Lm (f q)) : Lm (queryP >>= f) := fun l d r e => by
  obtain ⟨x, m, h1, h2⟩ := bind_invK e
  exact h x (lim_query h1) m d r h2
theorem lm_pure {s : St} (h : s.query.limit.length ≤ 1) : Lm (pure s) := fun l d r e => by
  injection e with e; injection e with e _; subst e
  exact h
theorem lm_ite {c : Prop} [Decidable c] {p q : Ps St} (hp : Lm p) (hq : Lm q) : Lm (if c then p else q) := by
  split
  · exact hp
  · exact hq
theorem lm_create : Lm createP := by
  unfold createP tableP viewP jobP
  repeat (first | exact lm_pure (by simp) | (exact lm_query fun q hq => lm_pure hq) | refine lm_ite ?_ ?_ | refine lm_bind fun _ => ?_)
theorem lm_drop : Lm dropP := by
  unfold dropP
  repeat (first | exact lm_pure (by simp) | refine lm_bind fun _ => ?_)
theorem lm_insert : Lm insertP := by
  unfold insertP
  repeat (first | exact lm_pure (by simp) | refine lm_bind fun _ => ?_)
theorem lm_update : Lm updateP := by
  unfold updateP
  repeat (first | exact lm_pure (by simp) | refine lm_bind fun _ => ?_)
theorem lm_delete : Lm deleteP := by
  unfold deleteP
  repeat (first | exact lm_pure (by simp) | refine lm_bind fun _ => ?_)
theorem lm_call : Lm callP := by
  unfold callP
  repeat (first | exact lm_pure (by simp) | refine lm_bind fun _ => ?_)
theorem lm_select : Lm selectP := lm_query fun q hq => lm_pure hq
theorem lm_statement : Lm statementP := by
  intro l d r h
  match l with
  | [] => cases h
  | t :: l =>
    unfold statementP at h
    simp only at h
    split at h
    · cases h
    split at h
    · exact lm_select _ _ _ h
    split at h
    · exact lm_create _ _ _ h
    split at h
    · exact lm_drop _ _ _ h
    split at h
    · exact lm_insert _ _ _ h
    split at h
    · exact lm_update _ _ _ h
    split at h
    · exact lm_delete _ _ _ h
    split at h
    · exact lm_call _ _ _ h
    · cases h
theorem lm_whole : Lm wholeP := by
  intro l d r h
  obtain ⟨d1, m, h1, h2⟩ := bind_invK (p := statementP) (f := wK) h
  obtain ⟨_, m2, _, h3⟩ := bind_invK h2
  obtain ⟨_, m3, _, h4⟩ := bind_invK h3
  have hd : d1 = d := by injection h4 with h4; injection h4
  subst hd
  exact lm_statement _ _ _ h1
theorem slim_of {n : Nat} {d : St} (h : StOk n d) (hl : d.long = false) (hm0 : d.query.limit.length ≤ 1) : d.slim := by
  obtain ⟨h1, h2, h3, h4⟩ := h
  unfold St.long Qu.long at hl
  simp only [Bool.or_eq_false_iff, decide_eq_false_iff_not, List.any_eq_false] at hl
  obtain ⟨⟨⟨⟨l1, l2⟩, l3⟩, l4⟩, ⟨l5, l6⟩, l7⟩ := hl
  have hm : ∀ t, t ∈ d.exprs → t.thin := fun t ht => (h1 t ht).1
  unfold St.exprs Qu.exprs at hm
  simp only [List.mem_append, List.mem_flatten, List.mem_map] at hm
  refine ⟨by omega, by omega, by omega, by omega, thins_of fun t ht => hm t (.inl (.inr ht)), fun r hr => ⟨thins_of fun t ht => hm t (.inl (.inl (.inl ⟨r, hr, ht⟩))), ?_⟩, fun t ht => hm _ (.inl (.inl (.inr ⟨t, ht, rfl⟩))), ⟨by omega, by omega, by omega, by omega, by omega, by omega, fun t ht => hm _ (.inr (.inl (.inl (.inl (.inl ⟨t, ht, rfl⟩))))), fun t ht => hm _ (.inr (.inr ⟨t, ht, rfl⟩)), thins_of fun t ht => hm t (.inr (.inl (.inl (.inl (.inr ht))))), thins_of fun t ht => hm t (.inr (.inl (.inl (.inr ht)))), thins_of fun t ht => hm t (.inr (.inl (.inr ht)))⟩⟩
  have := l3 r hr
  simp at this
  omega
theorem slim_nil : St.slim {} := by
  refine ⟨by simp, by simp, by simp, by simp, ?_, by simp, by simp, ⟨by simp, by simp, by simp, by simp, by simp, by simp, by simp, by simp, ?_, ?_, ?_⟩⟩ <;> (unfold Tr.thins; trivial)
theorem par_slim (s : List UInt8) : (parS s).slim := by
  unfold parS
  cases hp : parseL s with
  | error x => exact slim_nil
  | ok d =>
    unfold parseL at hp
    split at hp
    · cases hp
    · rename_i l hl
      split at hp
      · cases hp
      · rename_i t r hw
        split at hp
        · cases hp
        · rename_i hlg
          split at hp
          · cases hp
          · injection hp with hp
            subst hp
            exact slim_of (whole_ok (n := 4097) (by have := (lexL_ok hl).2.1; simpa using this) hw) (by simpa using hlg) (lm_whole _ _ _ hw)
end Go.Proofs.YtcneefmaghoejaaGreatDoor
namespace Go.Proofs.YtcneefmaghoejaaGreatDoor
open Go.ChangeShapes Go.WideShapes Go.ChangeAt Go.RowKit Go.Shelf
set_option linter.unusedVariables false
set_option linter.unusedSimpArgs false
def wkT : Tr := opT 5 [colT ⟨#[97]⟩, opT 7 [litT ⟨2, 1, ⟨#[]⟩⟩, litT ⟨2, 2, ⟨#[]⟩⟩]]
def wk1 : St := { kind := 8, query := { items := [(wkT, ⟨#[120]⟩)], frm := ⟨#[116]⟩ } }
def wk3 : St := { kind := 9, name := ⟨#[118]⟩, frm := ⟨2, -5, ⟨#[]⟩⟩ }
theorem wk1_par : parseL (⟨#[83, 69, 76, 69, 67, 84, 32, 97, 32, 43, 32, 49, 32, 42, 32, 50, 32, 65, 83, 32, 120, 32, 70, 82, 79, 77, 32, 116]⟩ : ByteArray).data.toList = .ok wk1 := by kernel_rfl
theorem wk2_par : parseL (⟨#[83, 69, 76, 69, 67, 84, 32, 97, 32, 61, 32, 98, 32, 61, 32, 99, 32, 70, 82, 79, 77, 32, 116]⟩ : ByteArray).data.toList = .error (13, 31) := by kernel_rfl
theorem wk3_par : parseL (⟨#[67, 65, 76, 76, 32, 114, 101, 102, 114, 101, 115, 104, 40, 118, 44, 32, 45, 53, 44, 32, 78, 85, 76, 76, 41, 59]⟩ : ByteArray).data.toList = .ok wk3 := by kernel_rfl
set_option maxHeartbeats 4000000 in
set_option maxRecDepth 100000 in
theorem wakes_any (w : World) (hE : LexEnv w) : Calls Tryz.prog 9 #[] w (namePost true w) := by
  have HE := Lib.hid hE
  have HBW := Lib.hid (Below.refl w.heap.size w)
  clear hE
  go_enter Tryz.func9, Tryz.ntmps9
  go_wp2_with fail
  refine (gpar_any ⟨#[83, 69, 76, 69, 67, 84, 32, 97, 32, 43, 32, 49, 32, 42, 32, 50, 32, 65, 83, 32, 120, 32, 70, 82, 79, 77, 32, 116]⟩ _ HE.out (by decide)).mono ?_
  rintro e w1 ⟨y1, rfl, hat1, b1⟩
  have HAT1 := Lib.hid hat1
  clear hat1
  have HE9 := Lib.hid (HE.out.later b1)
  have HBW9 := Lib.hid (Later.then HBW.out b1)
  replace HE := HE9
  clear HE9
  replace HBW := HBW9
  clear HBW9
  clear b1
  obtain ⟨cs1, hcs1⟩ : ∃ cs, cs = (stC y1).toArray := ⟨_, rfl⟩
  have HSZ := Lib.hid (show (Tryz.prog.info? 35).map (·.size) = some cs1.size by rw [hcs1]; exact gst_info)
  have HGS := Lib.hid (show gst0.size = cs1.size by rw [hcs1, gst_siz]; exact gst_siz _)
  have HON := Lib.hid (show cs1.all (·.oneCell') = true by rw [hcs1]; exact gst_one _)
  have HCS1 := Lib.hid hcs1
  unfold stV
  rw [← hcs1]
  clear hcs1
  generalize hpp1 : parP _ = pp1
  generalize hpx1 : parX _ = px1
  have HPP1 := Lib.hid hpp1
  have HPX1 := Lib.hid hpx1
  clear hpp1 hpx1
  have bn1 := later_new w1 (.cells cs1 35)
  have HB1 := Lib.hid (Blk.new w1 35 cs1)
  go_upto_region 2 with (first
    | (refine wpList_store_row rfl 35 (.tmp 1) (.tmp 13) rfl w1.heap.size cs1 rfl rfl 35 gst0 (Blk.new w1 35 gst0) HSZ.out HGS.out HON.out ?_
       rw [alloc_row]))
  change Code.wp _ _ _ _ (w1.alloc (.cells cs1 35))
  have HE9 := Lib.hid (HE.out.later bn1)
  have HBW9 := Lib.hid (Later.then HBW.out bn1)
  have HAT19 := Lib.hid (St.at_.keep (btw_later bn1) HAT1.out)
  replace HE := HE9
  clear HE9
  replace HBW := HBW9
  clear HBW9
  replace HAT1 := HAT19
  clear HAT19
  clear bn1 HSZ HGS HON
  generalize hbl1 : w1.heap.size = q1 at *
  generalize hW : (World.alloc w1 _) = W1 at *
  clear hW hbl1
  go_wp2_with fail
  refine (gpar_any ⟨#[83, 69, 76, 69, 67, 84, 32, 97, 32, 61, 32, 98, 32, 61, 32, 99, 32, 70, 82, 79, 77, 32, 116]⟩ _ HE.out (by decide)).mono ?_
  rintro e w2 ⟨y2, rfl, hat2, b2⟩
  have HAT2 := Lib.hid hat2
  clear hat2
  have HE9 := Lib.hid (HE.out.later b2)
  have HBW9 := Lib.hid (Later.then HBW.out b2)
  have HAT19 := Lib.hid (St.at_.keep (btw_later b2) HAT1.out)
  have HB19 := Lib.hid (HB1.out.later b2)
  replace HE := HE9
  clear HE9
  replace HBW := HBW9
  clear HBW9
  replace HAT1 := HAT19
  clear HAT19
  replace HB1 := HB19
  clear HB19
  clear b2
  obtain ⟨cs2, hcs2⟩ : ∃ cs, cs = (stC y2).toArray := ⟨_, rfl⟩
  have HSZ := Lib.hid (show (Tryz.prog.info? 35).map (·.size) = some cs2.size by rw [hcs2]; exact gst_info)
  have HGS := Lib.hid (show gst0.size = cs2.size by rw [hcs2, gst_siz]; exact gst_siz _)
  have HON := Lib.hid (show cs2.all (·.oneCell') = true by rw [hcs2]; exact gst_one _)
  have HCS2 := Lib.hid hcs2
  unfold stV
  rw [← hcs2]
  clear hcs2
  generalize hpp2 : parP _ = pp2
  generalize hpx2 : parX _ = px2
  have HPP2 := Lib.hid hpp2
  have HPX2 := Lib.hid hpx2
  clear hpp2 hpx2
  have bn2 := later_new w2 (.cells cs2 35)
  have HB2 := Lib.hid (Blk.new w2 35 cs2)
  go_upto_region 3 with (first
    | (refine wpList_store_row rfl 35 (.tmp 4) (.tmp 18) rfl w2.heap.size cs2 rfl rfl 35 gst0 (Blk.new w2 35 gst0) HSZ.out HGS.out HON.out ?_
       rw [alloc_row]))
  change Code.wp _ _ _ _ (w2.alloc (.cells cs2 35))
  have HE9 := Lib.hid (HE.out.later bn2)
  have HBW9 := Lib.hid (Later.then HBW.out bn2)
  have HAT19 := Lib.hid (St.at_.keep (btw_later bn2) HAT1.out)
  have HB19 := Lib.hid (HB1.out.later bn2)
  have HAT29 := Lib.hid (St.at_.keep (btw_later bn2) HAT2.out)
  replace HE := HE9
  clear HE9
  replace HBW := HBW9
  clear HBW9
  replace HAT1 := HAT19
  clear HAT19
  replace HB1 := HB19
  clear HB19
  replace HAT2 := HAT29
  clear HAT29
  clear bn2 HSZ HGS HON
  generalize hbl2 : w2.heap.size = q2 at *
  generalize hW : (World.alloc w2 _) = W2 at *
  clear hW hbl2
  go_wp2_with fail
  refine (gpar_any ⟨#[67, 65, 76, 76, 32, 114, 101, 102, 114, 101, 115, 104, 40, 118, 44, 32, 45, 53, 44, 32, 78, 85, 76, 76, 41, 59]⟩ _ HE.out (by decide)).mono ?_
  rintro e w3 ⟨y3, rfl, hat3, b3⟩
  have HAT3 := Lib.hid hat3
  clear hat3
  have HE9 := Lib.hid (HE.out.later b3)
  have HBW9 := Lib.hid (Later.then HBW.out b3)
  have HAT19 := Lib.hid (St.at_.keep (btw_later b3) HAT1.out)
  have HB19 := Lib.hid (HB1.out.later b3)
  have HAT29 := Lib.hid (St.at_.keep (btw_later b3) HAT2.out)
  have HB29 := Lib.hid (HB2.out.later b3)
  replace HE := HE9
  clear HE9
  replace HBW := HBW9
  clear HBW9
  replace HAT1 := HAT19
  clear HAT19
  replace HB1 := HB19
  clear HB19
  replace HAT2 := HAT29
  clear HAT29
  replace HB2 := HB29
  clear HB29
  clear b3
  obtain ⟨cs3, hcs3⟩ : ∃ cs, cs = (stC y3).toArray := ⟨_, rfl⟩
  have HSZ := Lib.hid (show (Tryz.prog.info? 35).map (·.size) = some cs3.size by rw [hcs3]; exact gst_info)
  have HGS := Lib.hid (show gst0.size = cs3.size by rw [hcs3, gst_siz]; exact gst_siz _)
  have HON := Lib.hid (show cs3.all (·.oneCell') = true by rw [hcs3]; exact gst_one _)
  have HCS3 := Lib.hid hcs3
  unfold stV
  rw [← hcs3]
  clear hcs3
  generalize hpp3 : parP _ = pp3
  generalize hpx3 : parX _ = px3
  have HPP3 := Lib.hid hpp3
  have HPX3 := Lib.hid hpx3
  clear hpp3 hpx3
  have bn3 := later_new w3 (.cells cs3 35)
  have HB3 := Lib.hid (Blk.new w3 35 cs3)
  go_upto_region 4 with (first
    | (refine wpList_store_row rfl 35 (.tmp 7) (.tmp 23) rfl w3.heap.size cs3 rfl rfl 35 gst0 (Blk.new w3 35 gst0) HSZ.out HGS.out HON.out ?_
       rw [alloc_row]))
  change Code.wp _ _ _ _ (w3.alloc (.cells cs3 35))
  have HE9 := Lib.hid (HE.out.later bn3)
  have HBW9 := Lib.hid (Later.then HBW.out bn3)
  have HAT19 := Lib.hid (St.at_.keep (btw_later bn3) HAT1.out)
  have HB19 := Lib.hid (HB1.out.later bn3)
  have HAT29 := Lib.hid (St.at_.keep (btw_later bn3) HAT2.out)
  have HB29 := Lib.hid (HB2.out.later bn3)
  have HAT39 := Lib.hid (St.at_.keep (btw_later bn3) HAT3.out)
  replace HE := HE9
  clear HE9
  replace HBW := HBW9
  clear HBW9
  replace HAT1 := HAT19
  clear HAT19
  replace HB1 := HB19
  clear HB19
  replace HAT2 := HAT29
  clear HAT29
  replace HB2 := HB29
  clear HB29
  replace HAT3 := HAT39
  clear HAT39
  clear bn3 HSZ HGS HON
  generalize hbl3 : w3.heap.size = q3 at *
  generalize hW : (World.alloc w3 _) = W3 at *
  clear hW hbl3
  have h1 := HAT1.out
  have h3 := HAT3.out
  have e1 := HPX1.out
  have e2 := HPX2.out
  have e4 := HPP2.out
  have e3 := HPX3.out
  rw [show parS _ = wk1 by unfold parS; rw [show parseL _ = _ from wk1_par]] at h1
  rw [show parS _ = wk3 by unfold parS; rw [show parseL _ = _ from wk3_par]] at h3
  rw [show parX _ = 0 by unfold parX; rw [show parseL _ = _ from wk1_par]] at e1
  rw [show parX _ = 31 by unfold parX; rw [show parseL _ = _ from wk2_par]] at e2
  rw [show parP _ = 13 by unfold parP; rw [show parseL _ = _ from wk2_par]] at e4
  rw [show parX _ = 0 by unfold parX; rw [show parseL _ = _ from wk3_par]] at e3
  subst e1 e2 e3 e4
  have hq1 := HB1.out
  have hq3 := HB3.out
  rw [HCS1.out] at hq1
  rw [HCS3.out] at hq3
  have c7 := hq1.cell 7
  obtain ⟨hn, ys, hr, ha⟩ := h1.query.items
  have hlen := ha.len
  match ys, hlen with
  | [yx], _ =>
  obtain ⟨ht, hnm⟩ := all2_atS ha (i := 0) rfl rfl
  rcases hr with h0 | ⟨b, off, hA, hSb, hc⟩
  · cases h0
  have hlb := hSb.2
  unfold wkT opT Tr.at_ at ht
  obtain ⟨t1, t2, t3, t4, t5, ys2, hr2, ha2⟩ := ht
  have hlen2 := Tr.all_.length ha2
  rcases hr2 with h0 | ⟨b2, off2, hA2, hSb2, hc2⟩
  · subst h0; simp at hlen2
  have hlb2 := hSb2.2
  obtain ⟨y0, ysr, rfl, _, ha3⟩ := ha2
  obtain ⟨yb, ysr2, rfl, ha4, _⟩ := ha3
  unfold Tr.at_ at ha4
  have hop := ha4.1
  have hf1 := h3.kind
  have hf2 := h3.frm
  have hf3 := h3.to_
  have hf1 : y3.kind = 9 := hf1
  have hf2 : y3.frm = ⟨2, -5, ⟨#[]⟩⟩ := hf2
  have hf3 : y3.to_ = ⟨0, 0, ⟨#[]⟩⟩ := hf3
  have c7' : W3.cell? ⟨q1, 7, none⟩ = some (.slice y1.query.items.A y1.query.items.n y1.query.items.c) := c7
  have hn1 : y1.query.items.n = 1 := hn
  rw [hA, hn1] at c7'
  generalize y1.query.items.c = ic at c7'
  obtain ⟨⟨xop, xv, xname, xwidth, xA, xn, xc⟩, xs⟩ := yx
  obtain ⟨yop, yv, yname, ywidth, yA, yn, yc⟩ := yb
  have hop : yop = 7 := hop
  have t1 : xop = 5 := t1
  have hA2 : xA = some ⟨b2, off2, none⟩ := hA2
  have t5 : xn = 2 := t5
  have hnm : xs = ⟨#[120]⟩ := hnm
  subst hop t1 hA2 t5 hnm
  have d0 : W3.cell? ⟨q3, 0, none⟩ = some (.int .u8 y3.kind) := hq3.cell 0
  have d22 : W3.cell? ⟨q3, 22, none⟩ = some (.int .u8 y3.frm.k) := hq3.cell 22
  have d23 : W3.cell? ⟨q3, 23, none⟩ = some (.int .i64 y3.frm.n) := hq3.cell 23
  have d24 : W3.cell? ⟨q3, 24, none⟩ = some (.string y3.frm.s) := hq3.cell 24
  have d25 : W3.cell? ⟨q3, 25, none⟩ = some (.int .u8 y3.to_.k) := hq3.cell 25
  have d26 : W3.cell? ⟨q3, 26, none⟩ = some (.int .i64 y3.to_.n) := hq3.cell 26
  have d27 : W3.cell? ⟨q3, 27, none⟩ = some (.string y3.to_.s) := hq3.cell 27
  rw [hf1] at d0
  rw [hf2] at d22 d23 d24
  rw [hf3] at d25 d26 d27
  have k0 := hc 0 _ 0 _ rfl rfl
  have k1 := hc 0 _ 1 _ rfl rfl
  have k2 := hc 0 _ 2 _ rfl rfl
  have k3 := hc 0 _ 3 _ rfl rfl
  have k4 := hc 0 _ 4 _ rfl rfl
  have k5 := hc 0 _ 5 _ rfl rfl
  have k6 := hc 0 _ 6 _ rfl rfl
  have k7 := hc 0 _ 7 _ rfl rfl
  have m0 := hc2 1 _ 0 _ rfl rfl
  simp only [Nat.zero_mul, Nat.add_zero, Nat.one_mul] at k0 k1 k2 k3 k4 k5 k6 k7 m0
  have hq1l := HB1.out.lt
  have hq3l := HB3.out.lt
  have HBE := Lib.hid HBW.out
  clear h1 h3 hq1 hq3 c7 ha hc hc2 hlen hlen2 ha4 t2 t3 t4 hf1 hf2 hf3 hn hA hSb hSb2 HAT1 HAT2 HAT3 HB1 HB2 HB3 HCS1 HCS2 HCS3 HE HBW hn1
  go_upto_region 7 with fail
  change Code.wp _ _ _ _ (W3.alloc (.cells #[.int .u8 5, .int .u8 xv.k, .int .i64 xv.n, .string xv.s, .string xname, .int .i64 xwidth, .slice (some ⟨b2, off2, none⟩) 2 xc, .string ⟨#[120]⟩] 51))
  have bn := later_new W3 (.cells #[.int .u8 5, .int .u8 xv.k, .int .i64 xv.n, .string xv.s, .string xname, .int .i64 xwidth, .slice (some ⟨b2, off2, none⟩) 2 xc, .string ⟨#[120]⟩] 51)
  have HX := Blk.new W3 51 #[.int .u8 5, .int .u8 xv.k, .int .i64 xv.n, .string xv.s, .string xname, .int .i64 xwidth, .slice (some ⟨b2, off2, none⟩) 2 xc, .string ⟨#[120]⟩]
  replace d0 := (bn.cell (cell_lt d0)).trans d0
  replace d22 := (bn.cell (cell_lt d22)).trans d22
  replace d23 := (bn.cell (cell_lt d23)).trans d23
  replace d24 := (bn.cell (cell_lt d24)).trans d24
  replace d25 := (bn.cell (cell_lt d25)).trans d25
  replace d26 := (bn.cell (cell_lt d26)).trans d26
  replace d27 := (bn.cell (cell_lt d27)).trans d27
  replace m0 := (bn.cell (cell_lt m0)).trans m0
  have x0 := HX.cell 0
  have x6 := HX.cell 6
  have x7 := HX.cell 7
  simp only [List.getElem?_toArray, List.getElem?_cons_zero, List.getElem?_cons_succ] at x0 x6 x7
  have HBF := Lib.hid (Later.then HBE.out bn)
  clear bn HX k0 k1 k2 k3 k4 k5 k6 k7 c7'
  generalize W3.heap.size = q4 at *
  generalize W3.alloc _ = W4 at *
  go_wp2_with fail
  go_ret
  exact ⟨rfl, HBF.out⟩
end Go.Proofs.YtcneefmaghoejaaGreatDoor
namespace Go.Proofs.YtcneefmaghoejaaGreatDoor
open Go.ChangeShapes Go.WideShapes Go.ChangeAt Go.RowKit Go.Shelf
set_option linter.unusedVariables false
theorem wpList_load_rowG {P : Program} {ops : Array Oper} {rest : List Oper} {o : Oper} {a : Act} {w : World} {Q : Exit → Act → World → Prop} (hw : Region.wanted o (yielded ops a.tmps) = true) (ty : TypeId) (x : Operand) (ho : o.op = .load ty x)
    (g : Nat) (hx : a.eval x = .pointer (some ⟨g, 0, none⟩)) (t : TypeId) (cs : Array Value) (fr : Nat × Nat) (d : TypeDesc) (hg : w.heap[g]? = some (.cells cs t fr))
    (hu : P.underlying ty = some d) (hd : (match d with | .struct _ | .array _ _ => true | _ => false) = true) (hi : (P.info? ty).map (·.size) = some cs.size)
    (h : wpList P ops Q rest (a.put o.dst (.agg cs)) w) : wpList P ops Q (o :: rest) a w :=
  wpList_step fun K hK => by
    simp only [hw, if_true]
    exact wp_load_row ty x ho g hx t cs fr d hg hu hd hi (hK _ _ h)
theorem st_csz {cs : Array Value} {y : StM} (h : cs = (stC y).toArray) : (Tryz.prog.info? 35).map (·.size) = some cs.size := by rw [h]; exact gst_info
theorem stmts_true {w : World} {B B2 : Nat} {d : St} {y z : StM} {cs cs2 : Array Value} (h1 : cs = (stC y).toArray) (h2 : cs2 = (stC z).toArray) (h : d.at_ w (Btw B w) y) (k : d.at_ w (Btw B2 w) z) (hs : d.slim) :
    Calls Tryz.prog 12 #[.agg cs, .agg cs2] w fun e w' => e = .returned (.bool true) ∧ Below w.heap.size w w' := by
  rw [h1, h2]
  exact rstmts_is (fun b hb => hb.2) (fun b hb => hb.2) h k hs w (Below.refl _ _)
end Go.Proofs.YtcneefmaghoejaaGreatDoor
namespace Go.Proofs.YtcneefmaghoejaaGreatDoor
open Go.ChangeShapes Go.WideShapes Go.ChangeAt Go.RowKit Go.Shelf
set_option linter.unusedVariables false
set_option linter.unusedSimpArgs false
structure Cut (s : List UInt8) (l : List Tok) (pre : List UInt8) (ws : List (Wd × Nat)) (ps : List (List UInt8)) : Prop where
  txt : s = pre ++ ps.flatten
  tok : l = ws.map (tokAt s.length) ++ [endTok s.length]
  pcs : Pcs ws ps
theorem cut_of {s : List UInt8} {l : List Tok} (h : lexL s = .ok l) : ∃ pre ws ps, Cut s l pre ws ps := by
  obtain ⟨_, ws, hr, hl⟩ := run_of_ok h
  obtain ⟨ps, h1, h2⟩ := pcs_of hr rfl
  cases hs : skipL false s with
  | nil =>
    rw [hs] at h1
    exact ⟨s, ws, ps, by rw [← h1]; simp, hl, h2⟩
  | cons c r =>
    obtain ⟨pre, hp, _⟩ := skip_split false s c r hs
    exact ⟨pre, ws, ps, by rw [hp, ← hs, h1], hl, h2⟩
theorem Pcs.at_ {ws : List (Wd × Nat)} {ps : List (List UInt8)} (h : Pcs ws ps) : ∀ {i : Nat} {x : Wd × Nat}, ws[i]? = some x → x.2 = (ps.drop i).flatten.length := by
  induction h with
  | nil => intro i x h; simp at h
  | @cons w p ws ps _ _ _ ih =>
    intro i x hx
    cases i with
    | zero => simp at hx; subst hx; simp
    | succ i => exact ih (by simpa using hx)
theorem Cut.place {s pre : List UInt8} {l : List Tok} {ws : List (Wd × Nat)} {ps : List (List UInt8)} (h : Cut s l pre ws ps) {i : Nat} (hi : i ≤ ps.length) : ∃ t, l[i]? = some t ∧ t.p = pre.length + (ps.take i).flatten.length ∧ t.p ≤ s.length := by
  have hlen := h.pcs.len
  have htot : s.length = pre.length + ((ps.take i).flatten.length + (ps.drop i).flatten.length) := by
    have e : ps.flatten = (ps.take i).flatten ++ (ps.drop i).flatten := by rw [← List.flatten_append, List.take_append_drop]
    rw [h.txt, List.length_append, e, List.length_append]
  by_cases hlt : i < ws.length
  · obtain ⟨x, hx⟩ : ∃ x, ws[i]? = some x := ⟨_, List.getElem?_eq_getElem hlt⟩
    have := h.pcs.at_ hx
    refine ⟨tokAt s.length x, ?_, ?_, ?_⟩
    · rw [h.tok, List.getElem?_append_left (by simpa using hlt)]
      simp [hx]
    · show s.length - x.2 = _
      omega
    · show s.length - x.2 ≤ _
      omega
  · have hie : i = ps.length := by omega
    subst hie
    refine ⟨endTok s.length, ?_, ?_, Nat.le_refl _⟩
    · rw [h.tok, List.getElem?_append_right (by simp; omega)]
      simp [hlen]
    · show s.length = _
      rw [htot]
      simp
theorem Cut.len {s pre : List UInt8} {l : List Tok} {ws : List (Wd × Nat)} {ps : List (List UInt8)} (h : Cut s l pre ws ps) : l.length = ps.length + 1 := by
  rw [h.tok, h.pcs.len]; simp
theorem Cut.piece {s pre : List UInt8} {l : List Tok} {ws : List (Wd × Nat)} {ps : List (List UInt8)} (h : Cut s l pre ws ps) {i : Nat} {p : List UInt8} (hp : ps[i]? = some p) : (s.take (pre.length + (ps.take (i + 1)).flatten.length)).drop (pre.length + (ps.take i).flatten.length) = p := by
  have e : ps.take (i + 1) = ps.take i ++ [p] := by rw [List.take_add_one, hp]; rfl
  have e2 : ps = ps.take i ++ p :: ps.drop (i + 1) := by
    obtain ⟨hi, he⟩ := List.getElem?_eq_some_iff.1 hp
    conv => lhs; rw [← List.take_append_drop i ps, List.drop_eq_getElem_cons hi, he]
  have e3 : s = (pre ++ (ps.take i).flatten) ++ (p ++ (ps.drop (i + 1)).flatten) := by
    rw [h.txt]
    conv => lhs; rw [e2]
    simp
  rw [e]
  have l1 : (pre ++ (ps.take i).flatten).length = pre.length + (ps.take i).flatten.length := by simp
  have l2 : pre.length + (ps.take i ++ [p]).flatten.length = (pre ++ (ps.take i).flatten ++ p).length := by simp
  rw [l2, ← l1, e3, ← List.append_assoc, List.take_left]
  simp
theorem layL_snoc (k : Option Nat) (p : List UInt8) : ∀ (i : Nat) (ps : List (List UInt8)), layL k i (ps ++ [p]) = layL k i ps ++ ((if k = some (i + ps.length) then [40, 32] else []) ++ (p ++ 10 :: (if k = some (i + ps.length) then [41, 32] else [])))
  | i, [] => by simp [layL]
  | i, q :: ps => by
    have e : i + (q :: ps).length = i + 1 + ps.length := by simp; omega
    simp only [List.cons_append, layL, layL_snoc k p (i + 1) ps, e]
    simp
theorem Pcs.ne {ws : List (Wd × Nat)} {ps : List (List UInt8)} (h : Pcs ws ps) : ∀ p ∈ ps, p ≠ [] := by
  induction h with
  | nil => intro p hp; simp at hp
  | cons _ hp _ ih =>
    intro q hq
    rcases List.mem_cons.1 hq with rfl | hq
    · exact hp
    · exact ih q hq
theorem Cut.small {s pre : List UInt8} {l : List Tok} {ws : List (Wd × Nat)} {ps : List (List UInt8)} (h : Cut s l pre ws ps) (k : Option Nat) (i : Nat) : (layL k 0 (ps.take i)).length ≤ 6 * s.length := by
  have h1 := layL_len k 0 (ps.take i) fun p hp => h.pcs.ne p (List.mem_of_mem_take hp)
  have e : ps.flatten = (ps.take i).flatten ++ (ps.drop i).flatten := by rw [← List.flatten_append, List.take_append_drop]
  have e2 := congrArg List.length e
  have e3 := congrArg List.length h.txt
  simp only [List.length_append] at e2 e3
  omega
theorem bytes_app (a b : ByteArray) : (a ++ b).data.toList = a.data.toList ++ b.data.toList := by rw [ByteArray.data_append, Array.toList_append]
set_option maxHeartbeats 4000000 in
set_option maxRecDepth 100000 in
theorem lend_any (s : ByteArray) (gl n c i pl : Nat) (w : World) (hi : i + 1 < n) (hn : n ≤ 5000) (hc : w.cell? ⟨gl, (i + 1) * 4 + 3, none⟩ = some (.int .i64 pl)) :
    Calls Tryz.prog 32 #[.string s, .slice (some ⟨gl, 0, none⟩) n c, .int .i64 i] w fun e w' => e = .returned (.int .i64 pl) ∧ Below w.heap.size w w' := by
  have e1 : (i : Int) + 1 = ((i + 1 : Nat) : Int) := by omega
  have hlt : ((i + 1 : Nat) : Int) < (n : Int) := by omega
  generalize hj : i + 1 = j at *
  go_enter Tryz.func32, Tryz.ntmps32
  go_wp2_with fail
  go_ret
  exact ⟨rfl, Below.refl _ _⟩
def atK (k : Option Nat) : Int := match k with
  | none => -1
  | some k => k
theorem atK_eq (k : Option Nat) (i : Nat) : (((i : Int) == atK k) = true) ↔ k = some i := by
  cases k with
  | none => simp [atK] <;> omega
  | some k => simp [atK] <;> omega
set_option maxHeartbeats 4000000 in
set_option maxRecDepth 100000 in
theorem laid_any (s : ByteArray) (k : Option Nat) {l : List Tok} {pre : List UInt8} {ws : List (Wd × Nat)} {ps : List (List UInt8)} (hcut : Cut s.data.toList l pre ws ps) (hlen : l.length ≤ 4097) (hsz : s.size ≤ 4096) (gl c : Nat) (w : World) (hgl : gl < w.heap.size)
    (hc : ∀ k t, l[k]? = some t → w.cell? ⟨gl, k * 4, none⟩ = some (.int .u8 t.w.k) ∧ w.cell? ⟨gl, k * 4 + 1, none⟩ = some (.string ⟨t.w.s.toArray⟩) ∧ w.cell? ⟨gl, k * 4 + 2, none⟩ = some (.int .i64 t.w.n) ∧ w.cell? ⟨gl, k * 4 + 3, none⟩ = some (.int .i64 t.p)) :
    Calls Tryz.prog 14 #[.string s, .slice (some ⟨gl, 0, none⟩) l.length c, .int .i64 (atK k), .int .i64 (atK k)] w fun e w' => (∃ T : ByteArray, e = .returned (.string T) ∧ T.data.toList = layL k 0 ps) ∧ Below w.heap.size w w' := by
  have HC := Lib.hid hcut
  have HK := Lib.hid hc
  have HLN := Lib.hid hcut.len
  have HKE := Lib.hid (atK_eq k)
  have HTB := Lib.hid (fun i => hcut.small k i)
  have hss : s.data.toList.length = s.size := by simp
  have HSS := Lib.hid hss
  obtain ⟨n, hn⟩ : ∃ n, n = l.length := ⟨_, rfl⟩
  rw [← hn] at hlen HLN ⊢
  have hn1 : n = ps.length + 1 := HLN.out
  generalize hak : atK k = ak at *
  clear hcut hc hss hak
  go_enter Tryz.func14, Tryz.ntmps14
  go_wp2_with fail
  go_loopw [9, 10] (fun tv iv wr => ∃ (i : Nat) (T : ByteArray), i ≤ ps.length ∧ iv = .int .i64 i ∧ tv = .string T ∧ T.data.toList = layL k 0 (ps.take i) ∧ Below w.heap.size w wr) (fun _ iv _ => ps.length - (intOf iv).toNat)
  case atStart => exact ⟨0, ⟨#[]⟩, Nat.zero_le _, rfl, rfl, rfl, Below.refl _ _⟩
  case round =>
    obtain ⟨i, T, hi, rfl, rfl, hT, hbw⟩ := hrel
    have hTs : T.size ≤ 100000 := by
      have h1 := HTB.out i
      rw [← hT, HSS.out] at h1
      simp at h1
      omega
    have HT := Lib.hid hT
    clear hT
    obtain ⟨j, hj⟩ : ∃ j, j = i + 1 := ⟨_, rfl⟩
    have e1 : (i : Int) + 1 = (j : Int) := by omega
    have hib : i ≤ 5000 := by omega
    by_cases hlt : i < ps.length
    · obtain ⟨p, hp⟩ : ∃ p, ps[i]? = some p := ⟨_, List.getElem?_eq_getElem hlt⟩
      obtain ⟨t1, h1, hp1, hs1⟩ := HC.out.place (i := i) (by omega)
      obtain ⟨t2, h2, hp2, hs2⟩ := HC.out.place (i := i + 1) (by omega)
      have hpc := HC.out.piece hp
      rw [← hp1, ← hp2] at hpc
      rw [HSS.out] at hs1 hs2
      have hle : t1.p ≤ t2.p := by
        rw [hp1, hp2, List.take_add_one, hp]
        simp
      have HX := Lib.hid (show (s.extract t1.p t2.p).data.toList = p by rw [extract_list]; exact hpc)
      have HSN := Lib.hid (show layL k 0 (ps.take (i + 1)) = layL k 0 (ps.take i) ++ ((if k = some i then [40, 32] else []) ++ (p ++ 10 :: (if k = some i then [41, 32] else []))) by
        rw [List.take_add_one, hp]
        have := layL_snoc k p 0 (ps.take i)
        rw [show 0 + (ps.take i).length = i by simp; omega] at this
        exact this)
      have c1 := (hbw.cell (p := ⟨gl, i * 4 + 3, none⟩) hgl).trans (HK.out i t1 h1).2.2.2
      have c2 := (hbw.cell (p := ⟨gl, (i + 1) * 4 + 3, none⟩) hgl).trans (HK.out (i + 1) t2 h2).2.2.2
      have hxs : (s.extract t1.p t2.p).size ≤ 100000 := by rw [ByteArray.size_extract]; omega
      clear hpc hp1 hp2 h1 h2
      have hgr : gl < wr.heap.size := Nat.lt_of_lt_of_le hgl hbw.size
      have k1 := fun q : Ext wr.heap.size wr => (q.h.cell (p := ⟨gl, i * 4 + 3, none⟩) hgr).trans c1
      have k2 := fun q : Ext wr.heap.size wr => lend_any s gl n c i t2.p q.w (by omega) (by omega) ((q.h.cell (p := ⟨gl, (i + 1) * 4 + 3, none⟩) hgr).trans c2)
      generalize t1.p = a1 at *
      generalize t2.p = a2 at *
      clear c1 c2
      have hyl : ((j : Int) < (n : Int)) := by omega
      have HJ := Lib.hid hj
      have HLT := Lib.hid hlt
      clear hj
      by_cases hki : k = some i
      · have hk1 : ((i : Int) == ak) = true := (HKE.out i).2 hki
        have HKI := Lib.hid hki
        clear hki hp hn hn1 hlt
        go_upto_region 7 with fail
        refine region_cut 15 wr.heap.size wr (Below.refl _ _) (by kernel_rfl) (by kernel_rfl) (by kernel_rfl) (by kernel_rfl) ?_
        simp only [List.take_succ_cons, List.take_zero, List.drop_succ_cons, List.drop_zero]
        repeat (go_big_quiet_step (fail))
        go_big_quiet_step ((go_at_call 32; exact calls_later (Nat.le_refl _) (k2 _)))
        repeat (go_big_quiet_step (fail))
        refine wpQuiet_nil ?_
        rintro V4 ⟨x9, hx9⟩
        have hW9 := x9.h
        rw [← hx9] at hW9
        have hb1 := Later.then hbw hW9
        clear hx9 x9 k1 k2 hW9
        go_wp2_with fail
        go_roundw
        case rel =>
          refine ⟨j, _, by have := HLN.out; omega, by go_num, rfl, ?_, hb1⟩
          rw [HJ.out]
          rw [HSN.out, if_pos HKI.out, if_pos HKI.out]
          simp only [bytes_app, HT.out, HX.out]
          simp
        case measure => have := HJ.out; have := HLT.out; simp [intOf]; omega
      · have hk1 : ((i : Int) == ak) = false := by
          cases hb : ((i : Int) == ak) with
          | false => rfl
          | true => exact absurd ((HKE.out i).1 hb) hki
        have HKI := Lib.hid hki
        clear hki hp hn hn1 hlt
        go_upto_region 7 with fail
        refine region_cut 15 wr.heap.size wr (Below.refl _ _) (by kernel_rfl) (by kernel_rfl) (by kernel_rfl) (by kernel_rfl) ?_
        simp only [List.take_succ_cons, List.take_zero, List.drop_succ_cons, List.drop_zero]
        repeat (go_big_quiet_step (fail))
        go_big_quiet_step ((go_at_call 32; exact calls_later (Nat.le_refl _) (k2 _)))
        repeat (go_big_quiet_step (fail))
        refine wpQuiet_nil ?_
        rintro V4 ⟨x9, hx9⟩
        have hW9 := x9.h
        rw [← hx9] at hW9
        have hb1 := Later.then hbw hW9
        clear hx9 x9 k1 k2 hW9
        go_wp2_with fail
        go_roundw
        case rel =>
          refine ⟨j, _, by have := HLN.out; omega, by go_num, rfl, ?_, hb1⟩
          rw [HJ.out]
          rw [HSN.out, if_neg HKI.out, if_neg HKI.out]
          simp only [bytes_app, HT.out, HX.out]
          simp
        case measure => have := HJ.out; have := HLT.out; simp [intOf]; omega
    · obtain rfl : i = ps.length := by omega
      rw [List.take_length] at HT
      have hnl : ¬ ((j : Int) < (n : Int)) := by omega
      clear hn hn1 hj
      go_wp2_with fail
      go_ret
      exact ⟨⟨T, rfl, HT.out⟩, hbw⟩
end Go.Proofs.YtcneefmaghoejaaGreatDoor
