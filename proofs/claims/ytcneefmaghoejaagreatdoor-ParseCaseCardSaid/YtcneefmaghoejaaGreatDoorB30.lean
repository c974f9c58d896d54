/- Parts of the proof: Gk2, Gq. Put together by slim.py. -/
import Derived.Test.YtcneefmaghoejaaGreatDoorB29
namespace Go.Proofs.YtcneefmaghoejaaGreatDoor
open Go.ChangeShapes Go.WideShapes Go.ChangeAt Go.RowKit
set_option linter.unusedVariables false
set_option linter.unusedSimpArgs false
theorem any_mem : ∀ {ks : List (List UInt8)} {l r : Wds} {s : List UInt8}, anyP ks l = .ok (s, r) → s ∈ ks
  | [], l, r, s, h => by cases h
  | k :: ks, l, r, s, h => by
    cases hh : headIs k l
    · rw [any_no hh] at h; exact List.mem_cons_of_mem _ (any_mem h)
    · rw [any_yes hh] at h; injection h with h; injection h with h1 h2; simp [← h1]
set_option maxHeartbeats 4000000 in
set_option maxRecDepth 100000 in
theorem gcolumn_read (γ : GLs) (F : γ.Fit) (hTQ : γ.TQ = 35) (hk : γ.k = 2) (acc : List (ByteArray × Int)) (W : World) (l : Wds) (lg dp : Bool) (hn : acc.length ≤ 5000) (hs : γ.acc elCol 71 acc W) (hd : GDid γ.ρ γ.W0 W l lg dp) :
    Calls Tryz.prog 73 #[.pointer (some ⟨γ.pb, 0, none⟩), .pointer (some ⟨γ.qb, 0, none⟩)] W (elP γ.ρ γ.W0 (fun _ => false) columnP (γ.acc elCol 71) acc lg dp l) := by
  obtain ⟨v, A⟩ := hs
  have p0 := A.ptr
  have HA := Lib.hid A
  have HD := Lib.hid hd
  have HVN := Lib.hid (show ∀ G, v.ownBlock = some G → G < W.heap.size from fun G hG => (A.ge hG).2)
  have hBW := A.sz
  have hgg := F.gg
  have hq0 := F.q0
  have hqB := F.qB
  have hpq := F.pq
  have hp0 := F.p0
  have hpB := F.pB
  clear hTQ
  have hm := gname_any γ.ρ W l lg dp hd.at_
  clear A hd
  go_enter Tryz.func73, Tryz.ntmps73
  go_wp2_with fail
  refine hm.mono ?_
  clear hm
  intro e w2 hp
  rcases hp.cases with ⟨nm, r, v2, hok, rfl, rfl, d2⟩ | ⟨m, herr, rfl, hg⟩
  case inr =>
    have HE := Lib.hid (show columnP l = .error m from bind_errP herr)
    have HG := Lib.hid HD.out.grown
    clear hp herr
    go_wp2_with fail
    exact body_panic rfl (elP.err HE.out ⟨rfl, grown_trans HG.out hg⟩)
  have hs2 := d2.size
  have HA2 := Lib.hid (HA.out.grown F d2.grown)
  have HD2 := Lib.hid ((HD.out.trans d2).later (later_new w2 (.cells #[.string nm, .int .u8 0] 71)))
  have HX2 := Lib.hid (Blk.new w2 71 #[.string nm, .int .u8 0])
  have HG2 := Lib.hid (grown_below (p := γ.ρ.g) (later_new w2 (.cells #[.string nm, .int .u8 0] 71)))
  have HOK := Lib.hid hok
  have hgx : γ.ρ.g < w2.heap.size := by have := d2.lt; omega
  clear hp d2 hok HA HD p0
  go_upto_region 1 with fail
  generalize hW2 : (w2.alloc _) = W2 at *
  clear hW2
  have p0 := (HA2.out.grown F HG2.out).ptr
  have hx2 := HX2.out.lt
  have hb3 := later_new W2 (.cells (strsC [w_int, w_bool, w_text]) 9)
  have HD3 := Lib.hid (HD2.out.later hb3)
  have HX3 := Lib.hid (HX2.out.later hb3)
  have HG3 := Lib.hid (grown_trans HG2.out (grown_below hb3))
  have hgw := HD2.out.lt
  have hm := gone_any γ.ρ _ r lg dp HD3.out.at_ [w_int, w_bool, w_text] W2.heap.size 3 rfl (Blk.new W2 _ _) (by omega) (by omega)
  clear hb3 HD2 HX2 HG2
  unfold strsC strOf at hm HD3 HX3 HG3
  simp only [List.map_cons, List.map_nil] at hm HD3 HX3 HG3
  rw [show w_int.toArray = #[105, 110, 116] from rfl, show w_bool.toArray = #[98, 111, 111, 108] from rfl, show w_text.toArray = #[116, 101, 120, 116] from rfl] at hm HD3 HX3 HG3
  go_wp2_with fail
  refine hm.mono ?_
  clear hm p0
  intro e w4 hp
  rcases hp.cases with ⟨ty, r4, v4, hok, rfl, rfl, d⟩ | ⟨m, herr, rfl, hg⟩
  case inr =>
    have HE := Lib.hid (show columnP l = .error m from (bind_okP HOK.out).trans (bind_errP herr))
    have HG := Lib.hid HD3.out.grown
    clear hp herr
    go_wp2_with fail
    exact body_panic rfl (elP.err HE.out ⟨rfl, grown_trans HG.out hg⟩)
  have HE := Lib.hid (show columnP l = .ok ((nm, typeOf ty), r4) from (bind_okP HOK.out).trans ((bind_okP hok).trans rfl))
  have hmem := any_mem hok
  have HD4 := Lib.hid (HD3.out.trans d)
  have HX4 := Lib.hid (d.blk HX3.out (by omega))
  have HG4 := Lib.hid (grown_trans HG3.out d.grown)
  clear hp hok d HD3 HX3 HG3 HOK
  have k1 := HX4.out.cell 1
  have f1 := HX4.out.frozen 1
  simp only [List.getElem?_toArray, List.getElem?_cons_succ, List.getElem?_cons_zero] at k1
  simp only [List.mem_cons, List.not_mem_nil, or_false] at hmem
  rcases hmem with rfl | rfl | rfl
  · have HX5 := Lib.hid (HX4.out.set_ 1 (.int .u8 2))
    have HD5 := Lib.hid (HD4.out.far hgg (by omega : γ.W0.heap.size ≤ w2.heap.size) 1 (.int .u8 2))
    have HG5 := Lib.hid (grown_new HG4.out (Nat.le_refl w2.heap.size) 1 (.int .u8 2))
    clear HX4 HD4 HG4
    simp only [List.setIfInBounds_toArray, List.set_cons_succ, List.set_cons_zero] at HX5
    unfold w_int
    go_upto_region 7 with fail
    clear k1 f1
    generalize hW4 : w4.setCell _ _ = W4 at *
    clear hW4
    have hA := HA2.out.grown F HG5.out
    have HAP := Lib.hid hA
    have kq := hA.cell F
    rw [hk] at kq
    have hB9 := hA.sz
    clear hA
    go_wp2_with (first
      | (refine wpList_load_row rfl 71 (.tmp 2) rfl w2.heap.size rfl 71 _ (0, 0) _ HX5.out Tryz.underlying71 rfl (by rfl) ?_)
      | (at_builtin
         refine wpList_append_E HAP.out F rfl _ _ 23 rfl _ 24 Tryz.underlying23 gcol_info rfl (by decide) (nm, 2) (col_one _) rfl rfl (by omega) (by omega) hB9 ?_
         intro ys v' W3 ha hov hgw hv
         obtain ⟨A9, n9, c9, rfl⟩ := own_form hov
         obtain ⟨kq2, kf2, hpa, hpd⟩ := HAP.out.push F HD5.out (x := (nm, 2)) (y := (nm, 2)) (by rfl) hBW HVN.out ha (later_new _ _) hgw hov (by simpa using hv)
         rw [hk] at kq2 kf2 hpa hpd
         have HPA := Lib.hid hpa
         have HPD := Lib.hid hpd
         clear hpa hpd ha hov hgw hv))
    go_end0
    exact elP.ok (HE.out.trans rfl) ⟨_, HPA.out⟩ (by rw [Bool.or_false]; exact HPD.out)
  · have HX5 := Lib.hid (HX4.out.set_ 1 (.int .u8 1))
    have HD5 := Lib.hid (HD4.out.far hgg (by omega : γ.W0.heap.size ≤ w2.heap.size) 1 (.int .u8 1))
    have HG5 := Lib.hid (grown_new HG4.out (Nat.le_refl w2.heap.size) 1 (.int .u8 1))
    clear HX4 HD4 HG4
    simp only [List.setIfInBounds_toArray, List.set_cons_succ, List.set_cons_zero] at HX5
    unfold w_bool
    go_upto_region 7 with fail
    clear k1 f1
    generalize hW4 : w4.setCell _ _ = W4 at *
    clear hW4
    have hA := HA2.out.grown F HG5.out
    have HAP := Lib.hid hA
    have kq := hA.cell F
    rw [hk] at kq
    have hB9 := hA.sz
    clear hA
    go_wp2_with (first
      | (refine wpList_load_row rfl 71 (.tmp 2) rfl w2.heap.size rfl 71 _ (0, 0) _ HX5.out Tryz.underlying71 rfl (by rfl) ?_)
      | (at_builtin
         refine wpList_append_E HAP.out F rfl _ _ 23 rfl _ 24 Tryz.underlying23 gcol_info rfl (by decide) (nm, 1) (col_one _) rfl rfl (by omega) (by omega) hB9 ?_
         intro ys v' W3 ha hov hgw hv
         obtain ⟨A9, n9, c9, rfl⟩ := own_form hov
         obtain ⟨kq2, kf2, hpa, hpd⟩ := HAP.out.push F HD5.out (x := (nm, 1)) (y := (nm, 1)) (by rfl) hBW HVN.out ha (later_new _ _) hgw hov (by simpa using hv)
         rw [hk] at kq2 kf2 hpa hpd
         have HPA := Lib.hid hpa
         have HPD := Lib.hid hpd
         clear hpa hpd ha hov hgw hv))
    go_end0
    exact elP.ok (HE.out.trans rfl) ⟨_, HPA.out⟩ (by rw [Bool.or_false]; exact HPD.out)
  · have HX5 := Lib.hid (HX4.out.set_ 1 (.int .u8 3))
    have HD5 := Lib.hid (HD4.out.far hgg (by omega : γ.W0.heap.size ≤ w2.heap.size) 1 (.int .u8 3))
    have HG5 := Lib.hid (grown_new HG4.out (Nat.le_refl w2.heap.size) 1 (.int .u8 3))
    clear HX4 HD4 HG4
    simp only [List.setIfInBounds_toArray, List.set_cons_succ, List.set_cons_zero] at HX5
    unfold w_text
    go_upto_region 7 with fail
    clear k1 f1
    generalize hW4 : w4.setCell _ _ = W4 at *
    clear hW4
    have hA := HA2.out.grown F HG5.out
    have HAP := Lib.hid hA
    have kq := hA.cell F
    rw [hk] at kq
    have hB9 := hA.sz
    clear hA
    go_wp2_with (first
      | (refine wpList_load_row rfl 71 (.tmp 2) rfl w2.heap.size rfl 71 _ (0, 0) _ HX5.out Tryz.underlying71 rfl (by rfl) ?_)
      | (at_builtin
         refine wpList_append_E HAP.out F rfl _ _ 23 rfl _ 24 Tryz.underlying23 gcol_info rfl (by decide) (nm, 3) (col_one _) rfl rfl (by omega) (by omega) hB9 ?_
         intro ys v' W3 ha hov hgw hv
         obtain ⟨A9, n9, c9, rfl⟩ := own_form hov
         obtain ⟨kq2, kf2, hpa, hpd⟩ := HAP.out.push F HD5.out (x := (nm, 3)) (y := (nm, 3)) (by rfl) hBW HVN.out ha (later_new _ _) hgw hov (by simpa using hv)
         rw [hk] at kq2 kf2 hpa hpd
         have HPA := Lib.hid hpa
         have HPD := Lib.hid hpd
         clear hpa hpd ha hov hgw hv))
    go_end0
    exact elP.ok (HE.out.trans rfl) ⟨_, HPA.out⟩ (by rw [Bool.or_false]; exact HPD.out)
set_option maxHeartbeats 4000000 in
set_option maxRecDepth 100000 in
theorem gset_read (γ : GLs) (F : γ.Fit) (hTQ : γ.TQ = 35) (hk : γ.k = 20) (acc : List (ByteArray × Tr)) (W : World) (l : Wds) (lg dp : Bool) (hn : acc.length ≤ 5000) (hs : γ.acc elSet 73 acc W) (hd : GDid γ.ρ γ.W0 W l lg dp) :
    Calls Tryz.prog 78 #[.pointer (some ⟨γ.pb, 0, none⟩), .pointer (some ⟨γ.qb, 0, none⟩)] W (elP γ.ρ γ.W0 (fun x => decide (32 < x.2.depth)) setP (γ.acc elSet 73) acc lg dp l) := by
  obtain ⟨v, A⟩ := hs
  have p0 := A.ptr
  have HA := Lib.hid A
  have HD := Lib.hid hd
  have HVN := Lib.hid (show ∀ G, v.ownBlock = some G → G < W.heap.size from fun G hG => (A.ge hG).2)
  have hBW := A.sz
  have hgg := F.gg
  have hq0 := F.q0
  have hqB := F.qB
  have hpq := F.pq
  have hp0 := F.p0
  have hpB := F.pB
  clear hTQ
  have hm := gname_any γ.ρ W l lg dp hd.at_
  clear A hd
  go_enter Tryz.func78, Tryz.ntmps78
  go_wp2_with fail
  refine hm.mono ?_
  clear hm
  intro e w2 hp
  rcases hp.cases with ⟨nm, r, v2, hok, rfl, rfl, d2⟩ | ⟨m, herr, rfl, hg⟩
  case inr =>
    have HE := Lib.hid (show setP l = .error m from bind_errP herr)
    have HG := Lib.hid HD.out.grown
    clear hp herr
    go_wp2_with fail
    exact body_panic rfl (elP.err HE.out ⟨rfl, grown_trans HG.out hg⟩)
  have hs2 := d2.size
  have HA2 := Lib.hid (HA.out.grown F d2.grown)
  have HD2 := Lib.hid ((HD.out.trans d2).later (later_new w2 (.cells #[.string nm, .int .u8 0, .int .u8 0, .int .i64 0, .string ⟨#[]⟩, .string ⟨#[]⟩, .int .i64 0, .slice none 0 0] 73)))
  have HX2 := Lib.hid (Blk.new w2 73 #[.string nm, .int .u8 0, .int .u8 0, .int .i64 0, .string ⟨#[]⟩, .string ⟨#[]⟩, .int .i64 0, .slice none 0 0])
  have HG2 := Lib.hid (grown_below (p := γ.ρ.g) (later_new w2 (.cells #[.string nm, .int .u8 0, .int .u8 0, .int .i64 0, .string ⟨#[]⟩, .string ⟨#[]⟩, .int .i64 0, .slice none 0 0] 73)))
  have HOK := Lib.hid hok
  have hgx : γ.ρ.g < w2.heap.size := by have := d2.lt; omega
  clear hp d2 hok HA HD p0
  go_upto_region 1 with fail
  generalize hW2 : (w2.alloc _) = W2 at *
  clear hW2
  have p0 := (HA2.out.grown F HG2.out).ptr
  have hx2 := HX2.out.lt
  have hb3 := later_new W2 (.cells (strsC [s_eq]) 9)
  have HD3 := Lib.hid (HD2.out.later hb3)
  have HX3 := Lib.hid (HX2.out.later hb3)
  have HG3 := Lib.hid (grown_trans HG2.out (grown_below hb3))
  have hgw := HD2.out.lt
  have hm := gmust_any γ.ρ _ r lg dp HD3.out.at_ [s_eq] W2.heap.size 1 rfl (Blk.new W2 _ _) (by omega) (by omega)
  clear hb3 HD2 HX2 HG2
  unfold strsC strOf at hm HD3 HX3 HG3
  simp only [List.map_cons, List.map_nil] at hm HD3 HX3 HG3
  rw [show s_eq.toArray = #[61] from rfl] at hm HD3 HX3 HG3
  go_wp2_with fail
  refine hm.mono ?_
  clear hm p0
  intro e w4 hp
  rcases hp.cases with ⟨_, r4, v4, hok, rfl, rfl, d⟩ | ⟨m, herr, rfl, hg⟩
  case inr =>
    have HE := Lib.hid (show setP l = .error m from (bind_okP HOK.out).trans (bind_errP (show must s_eq r = .error m by rw [← musts_one]; exact herr)))
    have HG := Lib.hid HD3.out.grown
    clear hp herr
    go_wp2_with fail
    exact body_panic rfl (elP.err HE.out ⟨rfl, grown_trans HG.out hg⟩)
  have hmt : must s_eq r = .ok ((), r4) := by rw [← musts_one]; exact hok
  have HE4 := Lib.hid (show setP l = (do let x ← exprP; return (nm, x) : Ps (ByteArray × Tr)) r4 from (bind_okP HOK.out).trans (bind_okP hmt))
  have HD4 := Lib.hid (HD3.out.trans d)
  have HX4 := Lib.hid (d.blk HX3.out (by omega))
  have HG4 := Lib.hid (grown_trans HG3.out d.grown)
  have p0 := (HA2.out.grown F HG4.out).ptr
  have hs4 := HX4.out.lt
  clear hp hok hmt d HD3 HX3 HG3 HOK
  go_wp2_with fail
  refine (gexpr_any γ.ρ w4 r4 lg dp HD4.out.at_).mono ?_
  intro e w5 hp
  rcases hp.cases with ⟨t, r5, v5, hok, rfl, y, rfl, hat, d⟩ | ⟨m, herr, rfl, hg⟩
  case inr =>
    have HE := Lib.hid (HE4.out.trans (bind_errP herr))
    have HG := Lib.hid HD4.out.grown
    clear hp herr
    go_wp2_with fail
    exact body_panic rfl (elP.err HE.out ⟨rfl, grown_trans HG.out hg⟩)
  have HE := Lib.hid ((HE4.out.trans (bind_okP hok)).trans rfl)
  have hX5 := d.blk HX4.out (by omega)
  have HX5 := Lib.hid ((((((((hX5.set_ 1 (.int .u8 y.op)).set_ 2 (.int .u8 y.v.k)).set_ 3 (.int .i64 y.v.n)).set_ 4 (.string y.v.s)).set_ 5 (.string y.name)).set_ 6 (.int .i64 y.width)).set_ 7 (.slice y.A y.n y.c)))
  have HD5 := Lib.hid (((((((((HD4.out.trans d).far hgg (by omega : γ.W0.heap.size ≤ w2.heap.size) 1 (.int .u8 y.op)).far hgg (by omega : γ.W0.heap.size ≤ w2.heap.size) 2 (.int .u8 y.v.k)).far hgg (by omega : γ.W0.heap.size ≤ w2.heap.size) 3 (.int .i64 y.v.n)).far hgg (by omega : γ.W0.heap.size ≤ w2.heap.size) 4 (.string y.v.s)).far hgg (by omega : γ.W0.heap.size ≤ w2.heap.size) 5 (.string y.name)).far hgg (by omega : γ.W0.heap.size ≤ w2.heap.size) 6 (.int .i64 y.width)).far hgg (by omega : γ.W0.heap.size ≤ w2.heap.size) 7 (.slice y.A y.n y.c)))
  have HG5 := Lib.hid ((grown_new (grown_new (grown_new (grown_new (grown_new (grown_new (grown_new (grown_trans HG4.out d.grown) (Nat.le_refl w2.heap.size) 1 (.int .u8 y.op)) (Nat.le_refl w2.heap.size) 2 (.int .u8 y.v.k)) (Nat.le_refl w2.heap.size) 3 (.int .i64 y.v.n)) (Nat.le_refl w2.heap.size) 4 (.string y.v.s)) (Nat.le_refl w2.heap.size) 5 (.string y.name)) (Nat.le_refl w2.heap.size) 6 (.int .i64 y.width)) (Nat.le_refl w2.heap.size) 7 (.slice y.A y.n y.c)))
  have HT5 := Lib.hid ((((((((hat.set (q := w2.heap.size) hs4 1 (.int .u8 y.op)).set (q := w2.heap.size) hs4 2 (.int .u8 y.v.k)).set (q := w2.heap.size) hs4 3 (.int .i64 y.v.n)).set (q := w2.heap.size) hs4 4 (.string y.v.s)).set (q := w2.heap.size) hs4 5 (.string y.name)).set (q := w2.heap.size) hs4 6 (.int .i64 y.width)).set (q := w2.heap.size) hs4 7 (.slice y.A y.n y.c)))
  obtain ⟨k0, k1, k2, k3, k4, k5, k6, k7⟩ := eight_cells hX5
  obtain ⟨f0, f1, f2, f3, f4, f5, f6, f7⟩ := eight_frozen hX5
  clear hp hok hX5 hat d HD4 HX4 HG4 HE4 p0
  simp only [List.setIfInBounds_toArray, List.set_cons_succ, List.set_cons_zero] at HX5
  unfold exV exC
  go_upto_region 3 with fail
  clear k0 k1 k2 k3 k4 k5 k6 k7 f0 f1 f2 f3 f4 f5 f6 f7
  generalize hW5 : (World.setCell _ _ _) = W5 at *
  clear hW5
  have hA := HA2.out.grown F HG5.out
  have HAP := Lib.hid hA
  have kq := hA.cell F
  rw [hk] at kq
  have hB9 := hA.sz
  clear hA
  go_wp2_with (first
    | (refine wpList_load_row rfl 73 (.tmp 2) rfl w2.heap.size rfl 73 _ (0, 0) _ HX5.out Tryz.underlying73 rfl (by rfl) ?_)
    | (at_builtin
       refine wpList_append_E HAP.out F rfl _ _ 31 rfl _ 104 Tryz.underlying31 gset_info rfl (by decide) (nm, y) (set_one _) rfl rfl (by omega) (by omega) hB9 ?_
       intro ys v' W3 ha hov hgw hv
       obtain ⟨A9, n9, c9, rfl⟩ := own_form hov
       obtain ⟨kq2, kf2, hpa, hpd⟩ := HAP.out.push F HD5.out (x := (nm, t)) (y := (nm, y)) ⟨rfl, HT5.out.more (by omega)⟩ hBW HVN.out ha (later_new _ _) hgw hov (by simpa using hv)
       rw [hk] at kq2 kf2 hpa hpd
       have HPA := Lib.hid hpa
       have HPD := Lib.hid hpd
       clear hpa hpd ha hov hgw hv))
  go_end0
  exact elP.ok HE.out ⟨_, HPA.out⟩ HPD.out
end Go.Proofs.YtcneefmaghoejaaGreatDoor
namespace Go.Proofs.YtcneefmaghoejaaGreatDoor
open Go.ChangeShapes Go.WideShapes Go.ChangeAt Go.RowKit
set_option linter.unusedVariables false
set_option linter.unusedSimpArgs false
def qu0 : Array Value := (quC {}).toArray
theorem qu_info : (Tryz.prog.info? 29).map (·.size) = some 8 := by kernel_rfl
theorem qu_one (m : QuM) : (quC m).toArray.all (·.oneCell') = true := by simp [quC, slC, Value.oneCell']
structure GQ (ρ : Rdr) (w : World) (lg dp : Bool) (wr : World) (l : Wds) (m : QuM) (d : Qu) : Prop where
  did : GDid ρ w wr l (lg || d.long) (dp || deepB d.exprs)
  blk : Blk wr (w.heap.size + 1 + 1) 29 (quC m).toArray
  res : Blk wr (w.heap.size + 1) 29 qu0
  pbk : Blk wr w.heap.size 58 #[ρ.ptr]
  at_ : d.at_ wr (Btw (w.heap.size + 3) wr) m
section
variable {ρ : Rdr} {w wr w2 : World} {lg dp : Bool} {l l2 : Wds} {m : QuM} {d : Qu}
theorem GQ.later (A : GQ ρ w lg dp wr l m d) (hb : Below wr.heap.size wr w2) : GQ ρ w lg dp w2 l m d := ⟨A.did.later hb, A.blk.later hb, A.res.later hb, A.pbk.later hb, Qu.at_.keep (btw_later hb) A.at_⟩
theorem GQ.go (A : GQ ρ w lg dp wr l m d) (hg : ρ.g < w.heap.size) (D : GDid ρ wr w2 l2 (lg || d.long) (dp || deepB d.exprs)) : GQ ρ w lg dp w2 l2 m d :=
  ⟨A.did.trans D, D.blk A.blk (by omega), D.blk A.res (by omega), D.blk A.pbk (by omega), Qu.at_.keep (btw_grown D.grown (by omega)) A.at_⟩
theorem GQ.set {lg2 dp2 : Bool} {m' : QuM} {d' : Qu} (A : GQ ρ w lg dp wr l m d) (hg : ρ.g < w.heap.size) (D : GDid ρ wr w2 l2 lg2 dp2) (i : Nat) (u : Value) (hb : (quC m').toArray = (quC m).toArray.setIfInBounds i u) (hl : lg2 = (lg || d'.long)) (hd : dp2 = (dp || deepB d'.exprs)) (hat : d.at_ w2 (Btw (w.heap.size + 3) w2) m → Qu.at_ w2 (Btw (w.heap.size + 3) w2) d' m') : GQ ρ w lg dp (w2.setCell ⟨w.heap.size + 1 + 1, i, none⟩ u) l2 m' d' := by
  refine ⟨?_, ?_, (D.blk A.res (by omega)).far (p := ⟨w.heap.size + 1 + 1, i, none⟩) (by simp) u, (D.blk A.pbk (by omega)).far (p := ⟨w.heap.size + 1 + 1, i, none⟩) (by simp; omega) u, Qu.at_.keep (btw_set (Nat.lt_succ_self _) i u) (hat (Qu.at_.keep (btw_grown D.grown (by omega)) A.at_))⟩
  · rw [← hl, ← hd]; exact (A.did.trans D).far hg (by omega) i u
  · rw [hb]; exact (D.blk A.blk (by omega)).set_ i u
theorem GQ.ptr (A : GQ ρ w lg dp wr l m d) : wr.cell? ⟨w.heap.size, 0, none⟩ = some ρ.ptr := A.pbk.cell 0
def quG (ρ : Rdr) (w : World) (m : QuM) (d : Qu) (k : Nat) : GLs := ⟨ρ, w, 29, w.heap.size + 1 + 1, k, w.heap.size, w.heap.size + 3, (quC m).toArray, [(w.heap.size + 1, 29, qu0)], fun W S => d.at_ W S m⟩
theorem quG_fit (hg : ρ.g < w.heap.size) (k : Nat) (hk : k < 8) : (quG ρ w m d k).Fit :=
  ⟨hg, by show w.heap.size ≤ w.heap.size + 1 + 1; omega, hg, by show w.heap.size ≠ w.heap.size + 1 + 1; omega, Nat.lt_succ_self _, by show w.heap.size < w.heap.size + 3; omega, fun x hx => by simp [quG] at hx; subst hx; exact ⟨Nat.le_succ _, by show w.heap.size + 1 ≠ w.heap.size + 1 + 1; omega, by show w.heap.size + 1 < w.heap.size + 3; omega⟩, by show k < 8; exact hk, fun w w' S S' h hk => Qu.at_.keep hk h⟩
theorem GQ.start (A : GQ ρ w lg dp wr l m d) {α : Type} (E : El α) (T : TypeId) (k : Nat) (hk : (quC m).toArray.setIfInBounds k (.slice none 0 0) = (quC m).toArray) : (quG ρ w m d k).acc E T [] wr :=
  ⟨.slice none 0 0, by show Blk wr _ _ ((quC m).toArray.setIfInBounds k _); rw [hk]; exact A.blk, Grows.nil E T wr _, Qu.at_.keep (fun b hb => ⟨fun _ => rfl, hb.1, hb.2, by simp [Value.ownBlock]⟩) A.at_, by have := A.blk.lt; show w.heap.size + 3 ≤ _; omega, A.pbk, fun x hx => by simp [quG] at hx; subst hx; exact A.res⟩
theorem GQ.list {α : Type} {E : El α} {T : TypeId} {k : Nat} {xs : List α} {m' : Sl → QuM} {d' : Qu} {lg2 dp2 : Bool} (hs : (quG ρ w m d k).acc E T xs w2) (D : GDid ρ w w2 l2 lg2 dp2) (hm : ∀ sl, (quC (m' sl)).toArray = (quC m).toArray.setIfInBounds k (slC sl)) (hl : lg2 = (lg || d'.long)) (hd : dp2 = (dp || deepB d'.exprs)) (hat : ∀ sl, E.sl w2 (Btw (w.heap.size + 3) w2) sl xs → d.at_ w2 (Btw (w.heap.size + 3) w2) m → d'.at_ w2 (Btw (w.heap.size + 3) w2) (m' sl)) : ∃ sl, GQ ρ w lg dp w2 l2 (m' sl) d' := by
  obtain ⟨v, A⟩ := hs
  obtain ⟨sl, hv, _, hsl⟩ := A.row.sl (B' := w.heap.size + 3) (Nat.le_refl _)
  refine ⟨sl, ?_, ?_, A.oth (w.heap.size + 1, 29, qu0) (by simp [quG]), A.pbk, hat sl hsl (Qu.at_.keep (own0_out (Nat.le_refl _)) A.kp)⟩
  · rw [← hl, ← hd]; exact D
  · rw [hm, ← hv]; exact A.blk
end
def quPost (ρ : Rdr) (w : World) (lg dp : Bool) (l : Wds) (e : Ending) (w' : World) : Prop :=
  GP ρ w queryP l (fun d r v w' => ∃ m : QuM, v = quV m ∧ d.at_ w' (Btw w.heap.size w') m ∧ GDid ρ w w' r (lg || d.long) (dp || deepB d.exprs)) e w'
theorem GQ.post {ρ : Rdr} {w wr : World} {lg dp : Bool} {l l0 : Wds} {m : QuM} {d : Qu} (A : GQ ρ w lg dp wr l m d) (hg : ρ.g < w.heap.size) (hp : queryP l0 = .ok (d, l)) : quPost ρ w lg dp l0 (.returned (quV m)) (wr.setRow (w.heap.size + 1) (quC m).toArray) :=
  GP.ok hp ⟨m, rfl, Qu.at_.keep (btw_more (by omega)) (Qu.at_.keep (btw_row wr (show w.heap.size + 1 < w.heap.size + 3 by omega) _) A.at_), A.did.own hg (grown_row wr _ _) (fun G e => by injection e with e; omega)⟩
theorem gq_star {l : Wds} (h : headIs s_star l = true) : itemsP l = .ok ([], l.tail) := by
  unfold itemsP; rw [may_bind]; simp only [h, if_true]; rfl
theorem gq_list {l : Wds} (h : headIs s_star l = false) : itemsP l = listP itemP l := by
  unfold itemsP; rw [may_bind]; simp only [h]; rfl
theorem group_no {l : Wds} (h : headIs w_group l = false) : groupP l = .ok ([], l) := by
  unfold groupP; rw [may_bind]; simp only [h]; rfl
theorem group_yes {l : Wds} (h : headIs w_group l = true) : groupP l = (do must w_by; listP exprP : Ps (List Tr)) l.tail := by
  unfold groupP; rw [may_bind]; simp only [h, if_true]
theorem orders_no {l : Wds} (h : headIs w_order l = false) : ordersP l = .ok ([], l) := by
  unfold ordersP; rw [may_bind]; simp only [h]; rfl
theorem orders_yes {l : Wds} (h : headIs w_order l = true) : ordersP l = (do must w_by; listP orderP : Ps (List (Tr × Bool))) l.tail := by
  unfold ordersP; rw [may_bind]; simp only [h, if_true]
theorem limit_no {l : Wds} (h : headIs w_limit l = false) : limitP l = .ok ([], l) := by
  unfold limitP; rw [may_bind]; simp only [h]; rfl
theorem limit_yes {l : Wds} (h : headIs w_limit l = true) : limitP l = (do let n ← numP; return [n] : Ps (List Int)) l.tail := by
  unfold limitP; rw [may_bind]; simp only [h, if_true]
end Go.Proofs.YtcneefmaghoejaaGreatDoor
