/- Parts of the proof: Gg, Gk. Put together by slim.py. -/
import Derived.Test.YtcneefmaghoejaaGreatDoorB21
import Derived.Test.YtcneefmaghoejaaGreatDoorB22
import Derived.Test.YtcneefmaghoejaaGreatDoorB27
import Derived.Test.YtcneefmaghoejaaGreatDoorB28
namespace Go.Proofs.YtcneefmaghoejaaGreatDoor
open Go.ChangeShapes Go.WideShapes Go.ChangeAt Go.RowKit
set_option linter.unusedVariables false
set_option linter.unusedSimpArgs false
set_option maxHeartbeats 4000000 in
set_option maxRecDepth 100000 in
theorem ggroup_read (γ : GLs) (F : γ.Fit) (hTQ : γ.TQ = 29) (hk : γ.k = 4) (acc : List Tr) (W : World) (l : Wds) (lg dp : Bool) (hn : acc.length ≤ 5000) (hs : γ.acc elTr 49 acc W) (hd : GDid γ.ρ γ.W0 W l lg dp) :
    Calls Tryz.prog 101 #[.pointer (some ⟨γ.qb, 0, none⟩), .pointer (some ⟨γ.pb, 0, none⟩)] W (elP γ.ρ γ.W0 (fun t => decide (32 < t.depth)) exprP (γ.acc elTr 49) acc lg dp l) := by
  obtain ⟨v, A⟩ := hs
  obtain ⟨ys, ho, ha⟩ := A.row.has
  obtain ⟨A0, c0, hv⟩ := ho.form
  have hal : ys.length = acc.length := ha.len
  rw [hal] at hv
  subst hv
  have hkk : (Addr.mk γ.qb 4 none) = ⟨γ.qb, γ.k, none⟩ := by rw [hk]
  clear ho ha hal hTQ
  go_enter Tryz.func101, Tryz.ntmps101
  cases hx : exprP l with
  | ok z =>
    obtain ⟨t, r⟩ := z
    go_wp2_with fail
    refine region_px11 (lg := lg) (dp := dp) (l := l) (r := r) (t := t) (γ := γ) (v := .slice A0 acc.length c0) (acc := acc) (s0 := 0) (s1 := 1) (d0 := 2) (d1 := 3) (d2 := 4) (d3 := 5) (d4 := 6) (d5 := 7) (d6 := 8) (d7 := 9) (d9 := 10) (vs0 := .pointer (some ⟨γ.qb, 0, none⟩)) (vs1 := .pointer (some ⟨γ.pb, 0, none⟩)) (F := 77) (args := #[γ.ρ.ptr]) F (by kernel_rfl) (by kernel_rfl) (by kernel_rfl) (by kernel_rfl) rfl rfl ?_ ?_ ?_ ?_ ?_ ?_ ?_ ?_ ?_ ?_ ?_ A hd hn ?_ ?_
    · intro ρ' w' h'; rw [← hkk]; simp [go_sem, h']
    · intro ρ' w' h'; rw [← hkk]; simp [go_sem, h']
    · intro ρ' w' h' hc'; rw [← hkk] at h' hc'; simp [go_sem, h', hc']
    · intro ρ' w' h' hc'; simp [go_sem, h', hc']
    · intro ρ' w' hc' h'; simp [go_sem, h', hc'.const, hc'.func]
    · intro ρ' w' h'; simp [go_sem, h']
    · intro ρ' w' hc'; simp [go_sem, hc'.const, ex0]
    · intro ρ' w' x' v' w2' h1' h2' hr'; simp only [execOp, resolve, invoke, builtin, Sem.run_bind, Sem.run_pure, Result.andThen_ok, List.map_toArray, List.map_cons, List.map_nil, h1', h2', hr']
    · intro ρ' w' G cap h1' h2'
      simp [go_sem, h1', h2']
      intro hh
      exact absurd hh (by omega)
    · intro ρ' w' G y h1' h2' hcl hfr
      have q0 := hcl 0 _ rfl
      have q1 := hcl 1 _ rfl
      have q2 := hcl 2 _ rfl
      have q3 := hcl 3 _ rfl
      have q4 := hcl 4 _ rfl
      have q5 := hcl 5 _ rfl
      have q6 := hcl 6 _ rfl
      simp only [Nat.add_zero] at q0
      unfold exV exC at h2'
      simp [go_sem, h1', h2', q0, q1, q2, q3, q4, q5, q6, hfr, putEA]
    · intro ρ' w' A1 n1 c1 h1' h2' hc' hf'; simp [go_sem, h1', h2', hc', hf']
    · intro w' hg'
      refine (gexpr_any γ.ρ w' l lg dp hg').mono ?_
      intro e w'' hp
      rcases hp.cases with ⟨t3, r3, v3, hok, rfl, y, rfl, hat, d2⟩ | ⟨m, herr, _⟩
      · rw [hx] at hok
        injection hok with hok
        injection hok with h1 h2
        subst h1 h2
        exact ⟨y, rfl, hat, d2⟩
      · rw [hx] at herr; cases herr
    · intro a' w' hdf hacc hdd
      have hE : elP γ.ρ γ.W0 (fun t => decide (32 < t.depth)) exprP (γ.acc elTr 49) acc lg dp l (.returned (.tuple #[])) w' := elP.ok hx hacc hdd
      go_wp2_with fail
      exact bodyPost_end (results_none Tryz.results101 _ _ _) hdf hE
  | error m =>
    go_wp2_with fail
    refine region_px11_panic (E := fun C W => C = [faultE (γ.ρ.placeOf m)] ∧ γ.W0.grownBy W (some γ.ρ.g)) (γ := γ) (v := .slice A0 acc.length c0) (acc := acc) (s0 := 0) (s1 := 1) (d0 := 2) (d1 := 3) (d2 := 4) (d3 := 5) (d4 := 6) (d5 := 7) (d6 := 8) (d7 := 9) (d9 := 10) (vs0 := .pointer (some ⟨γ.qb, 0, none⟩)) (vs1 := .pointer (some ⟨γ.pb, 0, none⟩)) (F := 77) (args := #[γ.ρ.ptr]) F (by kernel_rfl) (by kernel_rfl) (by kernel_rfl) (by kernel_rfl) rfl rfl ?_ ?_ ?_ ?_ ?_ ?_ ?_ (by kernel_rfl) A ?_ ?_
    · intro ρ' w' h'; rw [← hkk]; simp [go_sem, h']
    · intro ρ' w' h'; rw [← hkk]; simp [go_sem, h']
    · intro ρ' w' h' hc'; rw [← hkk] at h' hc'; simp [go_sem, h', hc']
    · intro ρ' w' h' hc'; simp [go_sem, h', hc']
    · intro ρ' w' hc' h'; simp [go_sem, h', hc'.const, hc'.func]
    · intro ρ' w' h'; simp [go_sem, h']
    · intro ρ' w' hc'; simp [go_sem, hc'.const, ex0]
    · intro w' hw'
      have hd' := hd.later hw'
      refine (gexpr_any γ.ρ w' l lg dp hd'.at_).mono ?_
      intro e w'' hp
      rcases hp.cases with ⟨t3, r3, v, hok, _⟩ | ⟨m', herr, rfl, hg⟩
      · rw [hx] at hok; cases hok
      · rw [hx] at herr
        injection herr with herr
        subst herr
        exact ⟨_, rfl, rfl, grown_trans hd'.grown hg⟩
    · rintro C a W' hdf ⟨rfl, hg⟩
      have hE : elP γ.ρ γ.W0 (fun t => decide (32 < t.depth)) exprP (γ.acc elTr 49) acc lg dp l (.panicked [faultE (γ.ρ.placeOf m)]) W' := elP.err hx ⟨rfl, hg⟩
      try simp only [Exit.inBlock, Exit.then]
      exact body_panic (P := Tryz.prog) (fn := Tryz.f101) hdf hE
set_option maxHeartbeats 4000000 in
set_option maxRecDepth 100000 in
theorem ginner_read (γ : GLs) (F : γ.Fit) (hTQ : γ.TQ = 25) (hk : γ.k = 0) (acc : List Tr) (W : World) (l : Wds) (lg dp : Bool) (hn : acc.length ≤ 5000) (hs : γ.acc elTr 49 acc W) (hd : GDid γ.ρ γ.W0 W l lg dp) :
    Calls Tryz.prog 76 #[.pointer (some ⟨γ.qb, 0, none⟩), .pointer (some ⟨γ.pb, 0, none⟩)] W (elP γ.ρ γ.W0 (fun t => decide (32 < t.depth)) exprP (γ.acc elTr 49) acc lg dp l) := by
  obtain ⟨v, A⟩ := hs
  obtain ⟨ys, ho, ha⟩ := A.row.has
  obtain ⟨A0, c0, hv⟩ := ho.form
  have hal : ys.length = acc.length := ha.len
  rw [hal] at hv
  subst hv
  have hkk : (Addr.mk γ.qb 0 none) = ⟨γ.qb, γ.k, none⟩ := by rw [hk]
  clear ho ha hal hTQ
  go_enter Tryz.func76, Tryz.ntmps76
  cases hx : exprP l with
  | ok z =>
    obtain ⟨t, r⟩ := z
    go_wp2_with fail
    refine region_px9 (lg := lg) (dp := dp) (l := l) (r := r) (t := t) (γ := γ) (v := .slice A0 acc.length c0) (acc := acc) (s0 := 0) (s1 := 1) (d0 := 2) (d1 := 3) (d2 := 4) (d3 := 5) (d4 := 6) (d5 := 7) (d6 := 8) (vs0 := .pointer (some ⟨γ.qb, 0, none⟩)) (vs1 := .pointer (some ⟨γ.pb, 0, none⟩)) (F := 77) (args := #[γ.ρ.ptr]) F (by kernel_rfl) (by kernel_rfl) (by kernel_rfl) (by kernel_rfl) rfl rfl ?_ ?_ ?_ ?_ ?_ ?_ ?_ ?_ ?_ ?_ A hd hn ?_ ?_
    · rw [← hkk]
    · intro ρ' w' h' hc'; rw [← hkk] at h' hc'; simp [go_sem, h', hc']
    · intro ρ' w' h' hc'; simp [go_sem, h', hc']
    · intro ρ' w' hc' h'; simp [go_sem, h', hc'.const, hc'.func]
    · intro ρ' w' h'; simp [go_sem, h']
    · intro ρ' w' hc'; simp [go_sem, hc'.const, ex0]
    · intro ρ' w' x' v' w2' h1' h2' hr'; simp only [execOp, resolve, invoke, builtin, Sem.run_bind, Sem.run_pure, Result.andThen_ok, List.map_toArray, List.map_cons, List.map_nil, h1', h2', hr']
    · intro ρ' w' G cap h1' h2'
      simp [go_sem, h1', h2']
      intro hh
      exact absurd hh (by omega)
    · intro ρ' w' G y h1' h2' hcl hfr
      have q0 := hcl 0 _ rfl
      have q1 := hcl 1 _ rfl
      have q2 := hcl 2 _ rfl
      have q3 := hcl 3 _ rfl
      have q4 := hcl 4 _ rfl
      have q5 := hcl 5 _ rfl
      have q6 := hcl 6 _ rfl
      simp only [Nat.add_zero] at q0
      unfold exV exC at h2'
      simp [go_sem, h1', h2', q0, q1, q2, q3, q4, q5, q6, hfr, putEA]
    · intro ρ' w' A1 n1 c1 h1' h2' hc' hf'; simp [go_sem, h1', h2', hc', hf']
    · intro w' hg'
      refine (gexpr_any γ.ρ w' l lg dp hg').mono ?_
      intro e w'' hp
      rcases hp.cases with ⟨t3, r3, v3, hok, rfl, y, rfl, hat, d2⟩ | ⟨m, herr, _⟩
      · rw [hx] at hok
        injection hok with hok
        injection hok with h1 h2
        subst h1 h2
        exact ⟨y, rfl, hat, d2⟩
      · rw [hx] at herr; cases herr
    · intro a' w' hdf hacc hdd
      have hE : elP γ.ρ γ.W0 (fun t => decide (32 < t.depth)) exprP (γ.acc elTr 49) acc lg dp l (.returned (.tuple #[])) w' := elP.ok hx hacc hdd
      go_wp2_with fail
      exact bodyPost_end (results_none Tryz.results76 _ _ _) hdf hE
  | error m =>
    go_wp2_with fail
    refine region_px9_panic (E := fun C W => C = [faultE (γ.ρ.placeOf m)] ∧ γ.W0.grownBy W (some γ.ρ.g)) (γ := γ) (v := .slice A0 acc.length c0) (acc := acc) (s0 := 0) (s1 := 1) (d0 := 2) (d1 := 3) (d2 := 4) (d3 := 5) (d4 := 6) (d5 := 7) (d6 := 8) (vs0 := .pointer (some ⟨γ.qb, 0, none⟩)) (vs1 := .pointer (some ⟨γ.pb, 0, none⟩)) (F := 77) (args := #[γ.ρ.ptr]) F (by kernel_rfl) (by kernel_rfl) (by kernel_rfl) (by kernel_rfl) rfl rfl ?_ ?_ ?_ ?_ ?_ ?_ (by kernel_rfl) A ?_ ?_
    · rw [← hkk]
    · intro ρ' w' h' hc'; rw [← hkk] at h' hc'; simp [go_sem, h', hc']
    · intro ρ' w' h' hc'; simp [go_sem, h', hc']
    · intro ρ' w' hc' h'; simp [go_sem, h', hc'.const, hc'.func]
    · intro ρ' w' h'; simp [go_sem, h']
    · intro ρ' w' hc'; simp [go_sem, hc'.const, ex0]
    · intro w' hw'
      have hd' := hd.later hw'
      refine (gexpr_any γ.ρ w' l lg dp hd'.at_).mono ?_
      intro e w'' hp
      rcases hp.cases with ⟨t3, r3, v, hok, _⟩ | ⟨m', herr, rfl, hg⟩
      · rw [hx] at hok; cases hok
      · rw [hx] at herr
        injection herr with herr
        subst herr
        exact ⟨_, rfl, rfl, grown_trans hd'.grown hg⟩
    · rintro C a W' hdf ⟨rfl, hg⟩
      have hE : elP γ.ρ γ.W0 (fun t => decide (32 < t.depth)) exprP (γ.acc elTr 49) acc lg dp l (.panicked [faultE (γ.ρ.placeOf m)]) W' := elP.err hx ⟨rfl, hg⟩
      try simp only [Exit.inBlock, Exit.then]
      exact body_panic (P := Tryz.prog) (fn := Tryz.f76) hdf hE
end Go.Proofs.YtcneefmaghoejaaGreatDoor
namespace Go.Proofs.YtcneefmaghoejaaGreatDoor
open Go.ChangeShapes Go.WideShapes Go.ChangeAt Go.RowKit
set_option linter.unusedVariables false
set_option linter.unusedSimpArgs false
theorem item_no {l r : Wds} {t : Tr} (h : exprP l = .ok (t, r)) (ha : headIs w_as r = false) : itemP l = .ok ((t, ByteArray.empty), r) := by
  unfold itemP; refine (bind_okP h).trans ?_; rw [may_bind]; simp only [ha]; rfl
theorem item_yes {l r : Wds} {t : Tr} (h : exprP l = .ok (t, r)) (ha : headIs w_as r = true) : itemP l = (do let n ← nameP; return (t, n) : Ps (Tr × ByteArray)) r.tail := by
  unfold itemP; refine (bind_okP h).trans ?_; rw [may_bind]; simp only [ha, if_true]
theorem order_is {l r : Wds} {t : Tr} (h : exprP l = .ok (t, r)) : orderP l = .ok ((t, headIs w_desc r), afterW w_desc r) := by
  unfold orderP; refine (bind_okP h).trans ?_; exact (bind_okP (may_eq w_desc r)).trans rfl
theorem grown_new {w w' : World} {g q : Nat} (h : w.grownBy w' (some g)) (hq : w.heap.size ≤ q) (i : Nat) (u : Value) : w.grownBy (w'.setCell ⟨q, i, none⟩ u) (some g) :=
  ⟨h.os, h.tape, h.output, by simpa [World.setCell] using h.size, fun k hk hkg => (Below.heap_setCell w' ⟨q, i, none⟩ u k (by simp; omega)).trans (h.block k hk hkg)⟩
theorem gorder_info : (Tryz.prog.info? 97).map (fun i => (i.zero, i.size, i.bytes)) = some (some (.agg #[.int .u8 0, .int .u8 0, .int .i64 0, .string ⟨#[]⟩, .string ⟨#[]⟩, .int .i64 0, .slice none 0 0, .bool false]), 8, 96) := by kernel_rfl
theorem gcol_info : (Tryz.prog.info? 71).map (fun i => (i.zero, i.size, i.bytes)) = some (some (.agg #[.string ⟨#[]⟩, .int .u8 0]), 2, 24) := by kernel_rfl
theorem gset_info : (Tryz.prog.info? 73).map (fun i => (i.zero, i.size, i.bytes)) = some (some (.agg #[.string ⟨#[]⟩, .int .u8 0, .int .u8 0, .int .i64 0, .string ⟨#[]⟩, .string ⟨#[]⟩, .int .i64 0, .slice none 0 0]), 8, 104) := by kernel_rfl
theorem grow_info : (Tryz.prog.info? 25).map (fun i => (i.zero, i.size, i.bytes)) = some (some (.slice none 0 0), 1, 24) := by kernel_rfl
set_option maxHeartbeats 4000000 in
set_option maxRecDepth 100000 in
theorem gitem_read (γ : GLs) (F : γ.Fit) (hTQ : γ.TQ = 29) (hk : γ.k = 0) (acc : List (Tr × ByteArray)) (W : World) (l : Wds) (lg dp : Bool) (hn : acc.length ≤ 5000) (hs : γ.acc elItem 51 acc W) (hd : GDid γ.ρ γ.W0 W l lg dp) :
    Calls Tryz.prog 100 #[.pointer (some ⟨γ.pb, 0, none⟩), .pointer (some ⟨γ.qb, 0, none⟩)] W (elP γ.ρ γ.W0 (fun x => decide (32 < x.1.depth)) itemP (γ.acc elItem 51) acc lg dp l) := by
  obtain ⟨v, A⟩ := hs
  have p0 := A.ptr
  have HA := Lib.hid A
  have HD := Lib.hid hd
  have HVN := Lib.hid (show ∀ G, v.ownBlock = some G → G < W.heap.size from fun G hG => (A.ge hG).2)
  have hBW := A.sz
  have hgg := F.gg
  have hq0 := F.q0
  have hqB := F.qB
  have hpq := F.pq
  have hp0 := F.p0
  have hpB := F.pB
  clear hTQ
  have hm := gexpr_any γ.ρ W l lg dp hd.at_
  clear A hd
  go_enter Tryz.func100, Tryz.ntmps100
  go_wp2_with fail
  refine hm.mono ?_
  clear hm
  intro e w2 hp
  rcases hp.cases with ⟨t, r, v2, hok, rfl, y, rfl, hat, d2⟩ | ⟨m, herr, rfl, hg⟩
  case inr =>
    have HE := Lib.hid (show itemP l = .error m from bind_errP herr)
    have HG := Lib.hid HD.out.grown
    clear hp herr
    go_wp2_with fail
    exact body_panic rfl (elP.err HE.out ⟨rfl, grown_trans HG.out hg⟩)
  have hs2 := d2.size
  have HA2 := Lib.hid (HA.out.grown F d2.grown)
  have HT2 := Lib.hid hat
  have HD2 := Lib.hid ((HD.out.trans d2).later (later_new w2 (.cells (itC (y, ⟨#[]⟩)).toArray 51)))
  have HX2 := Lib.hid (Blk.new w2 51 (itC (y, ⟨#[]⟩)).toArray)
  have HG2 := Lib.hid (grown_below (p := γ.ρ.g) (later_new w2 (.cells (itC (y, ⟨#[]⟩)).toArray 51)))
  have HOK := Lib.hid hok
  have hgx : γ.ρ.g < w2.heap.size := by have := d2.lt; omega
  clear hp hat d2 hok HA HD p0
  unfold exV itC at *
  unfold exC at *
  simp only [List.cons_append, List.nil_append] at HD2 HX2 HG2
  go_upto_region 1 with fail
  generalize hW2 : (w2.alloc _) = W2 at *
  clear hW2
  have p0 := (HA2.out.grown F HG2.out).ptr
  have hm := ghave_any γ.ρ W2 r lg _ HD2.out.at_ ⟨#[97, 115]⟩
  rw [show (⟨#[97, 115]⟩ : ByteArray).data.toList = w_as from rfl] at hm
  have hx2 := HX2.out.lt
  cases hh : headIs w_as r
  · rw [hh, after_no hh] at hm
    have HE := Lib.hid (item_no HOK.out hh)
    clear hh
    go_wp2_with fail
    refine hm.mono ?_
    clear hm p0
    rintro e w3 ⟨rfl, d⟩
    have HD3 := Lib.hid (HD2.out.trans d)
    have HX3 := Lib.hid (d.blk HX2.out (by omega))
    have HG3 := Lib.hid (grown_trans HG2.out d.grown)
    clear d HD2 HX2 HG2
    have hA := HA2.out.grown F HG3.out
    have HAP := Lib.hid hA
    have kq := hA.cell F
    rw [hk] at kq
    have hB9 := hA.sz
    clear hA
    go_wp2_with (first
      | (refine wpList_load_row rfl 51 (.tmp 2) rfl w2.heap.size rfl 51 _ (0, 0) _ HX3.out Tryz.underlying51 rfl (by rfl) ?_)
      | (at_builtin
         refine wpList_append_E HAP.out F rfl _ _ 24 rfl _ 104 Tryz.underlying24 item_info rfl (by decide) (y, ⟨#[]⟩) (item_one _) rfl rfl (by omega) (by omega) hB9 ?_
         intro ys v' W3 ha hov hgw hv
         obtain ⟨A9, n9, c9, rfl⟩ := own_form hov
         obtain ⟨kq2, kf2, hpa, hpd⟩ := HAP.out.push F HD3.out (x := (t, ByteArray.empty)) (y := (y, ⟨#[]⟩)) ⟨Tr.at_.keep (btw_grown HG3.out (by omega)) _ _ HT2.out, rfl⟩ hBW HVN.out ha (later_new _ _) hgw hov (by simpa using hv)
         rw [hk] at kq2 kf2 hpa hpd
         have HPA := Lib.hid hpa
         have HPD := Lib.hid hpd
         clear hpa hpd ha hov hgw hv))
    go_end0
    exact elP.ok HE.out ⟨_, HPA.out⟩ HPD.out
  · rw [hh, after_yes hh] at hm
    have HE := Lib.hid (item_yes HOK.out hh)
    clear hh
    go_wp2_with fail
    refine hm.mono ?_
    clear hm p0
    rintro e w3 ⟨rfl, d⟩
    have HD3 := Lib.hid (HD2.out.trans d)
    have HX3 := Lib.hid (d.blk HX2.out (by omega))
    have HG3 := Lib.hid (grown_trans HG2.out d.grown)
    clear d HD2 HX2 HG2
    have p0 := (HA2.out.grown F HG3.out).ptr
    generalize r.tail = r3 at *
    go_wp2_with fail
    refine (gname_any γ.ρ w3 r3 lg _ HD3.out.at_).mono ?_
    intro e w4 hp
    rcases hp.cases with ⟨nm, r4, v4, hok, rfl, rfl, d⟩ | ⟨m, herr, rfl, hg⟩
    case inr =>
      have HE := Lib.hid (HE.out.trans (bind_errP herr))
      have HG := Lib.hid HD3.out.grown
      clear hp herr
      go_wp2_with fail
      exact body_panic rfl (elP.err HE.out ⟨rfl, grown_trans HG.out hg⟩)
    have HE4 := Lib.hid ((HE.out.trans (bind_okP hok)).trans rfl)
    have HD4 := Lib.hid ((HD3.out.trans d).far hgg (by omega : γ.W0.heap.size ≤ w2.heap.size) 7 (.string nm))
    have hX4 := d.blk HX3.out (by omega)
    have hX5 := hX4.set_ 7 (.string nm)
    simp only [List.setIfInBounds_toArray, List.set_cons_succ, List.set_cons_zero] at hX5
    have HX5 := Lib.hid hX5
    have hG4 := grown_trans HG3.out d.grown
    have HG5 := Lib.hid (grown_new hG4 (Nat.le_refl w2.heap.size) 7 (.string nm))
    have k7 := hX4.cell 7
    have f7 := hX4.frozen 7
    have p4 := (HA2.out.grown F hG4).ptr
    simp only [List.getElem?_toArray, List.getElem?_cons_succ, List.getElem?_cons_zero] at k7
    clear hp hok d HD3 HX3 HG3 hX4 hX5 hG4 p0
    go_upto_region 3 with fail
    clear k7 f7 p4
    generalize hW4 : w4.setCell _ _ = W4 at *
    clear hW4
    have hA := HA2.out.grown F HG5.out
    have HAP := Lib.hid hA
    have kq := hA.cell F
    rw [hk] at kq
    have hB9 := hA.sz
    clear hA
    go_wp2_with (first
      | (refine wpList_load_row rfl 51 (.tmp 2) rfl w2.heap.size rfl 51 _ (0, 0) _ HX5.out Tryz.underlying51 rfl (by rfl) ?_)
      | (at_builtin
         refine wpList_append_E HAP.out F rfl _ _ 24 rfl _ 104 Tryz.underlying24 item_info rfl (by decide) (y, nm) (item_one _) rfl rfl (by omega) (by omega) hB9 ?_
         intro ys v' W3 ha hov hgw hv
         obtain ⟨A9, n9, c9, rfl⟩ := own_form hov
         obtain ⟨kq2, kf2, hpa, hpd⟩ := HAP.out.push F HD4.out (x := (t, nm)) (y := (y, nm)) ⟨Tr.at_.keep (btw_grown HG5.out (by omega)) _ _ HT2.out, rfl⟩ hBW HVN.out ha (later_new _ _) hgw hov (by simpa using hv)
         rw [hk] at kq2 kf2 hpa hpd
         have HPA := Lib.hid hpa
         have HPD := Lib.hid hpd
         clear hpa hpd ha hov hgw hv))
    go_end0
    exact elP.ok HE4.out ⟨_, HPA.out⟩ HPD.out
set_option maxHeartbeats 4000000 in
set_option maxRecDepth 100000 in
theorem gorder_read (γ : GLs) (F : γ.Fit) (hTQ : γ.TQ = 29) (hk : γ.k = 6) (acc : List (Tr × Bool)) (W : World) (l : Wds) (lg dp : Bool) (hn : acc.length ≤ 5000) (hs : γ.acc elOrder 97 acc W) (hd : GDid γ.ρ γ.W0 W l lg dp) :
    Calls Tryz.prog 102 #[.pointer (some ⟨γ.pb, 0, none⟩), .pointer (some ⟨γ.qb, 0, none⟩)] W (elP γ.ρ γ.W0 (fun x => decide (32 < x.1.depth)) orderP (γ.acc elOrder 97) acc lg dp l) := by
  obtain ⟨v, A⟩ := hs
  have p0 := A.ptr
  have HA := Lib.hid A
  have HD := Lib.hid hd
  have HVN := Lib.hid (show ∀ G, v.ownBlock = some G → G < W.heap.size from fun G hG => (A.ge hG).2)
  have hBW := A.sz
  have hgg := F.gg
  have hq0 := F.q0
  have hqB := F.qB
  have hpq := F.pq
  have hp0 := F.p0
  have hpB := F.pB
  clear hTQ
  have hm := gexpr_any γ.ρ W l lg dp hd.at_
  clear A hd
  go_enter Tryz.func102, Tryz.ntmps102
  go_wp2_with fail
  refine hm.mono ?_
  clear hm
  intro e w2 hp
  rcases hp.cases with ⟨t, r, v2, hok, rfl, y, rfl, hat, d2⟩ | ⟨m, herr, rfl, hg⟩
  case inr =>
    have HE := Lib.hid (show orderP l = .error m from bind_errP herr)
    have HG := Lib.hid HD.out.grown
    clear hp herr
    go_wp2_with fail
    exact body_panic rfl (elP.err HE.out ⟨rfl, grown_trans HG.out hg⟩)
  have hs2 := d2.size
  have HA2 := Lib.hid (HA.out.grown F d2.grown)
  have HT2 := Lib.hid hat
  have HD2 := Lib.hid ((HD.out.trans d2).later (later_new w2 (.cells (orC (y, false)).toArray 97)))
  have HX2 := Lib.hid (Blk.new w2 97 (orC (y, false)).toArray)
  have HG2 := Lib.hid (grown_below (p := γ.ρ.g) (later_new w2 (.cells (orC (y, false)).toArray 97)))
  have HOK := Lib.hid hok
  have hgx : γ.ρ.g < w2.heap.size := by have := d2.lt; omega
  clear hp hat d2 hok HA HD p0
  unfold exV orC at *
  unfold exC at *
  simp only [List.cons_append, List.nil_append] at HD2 HX2 HG2
  go_upto_region 1 with fail
  generalize hW2 : (w2.alloc _) = W2 at *
  clear hW2
  have p0 := (HA2.out.grown F HG2.out).ptr
  have hm := ghave_any γ.ρ W2 r lg _ HD2.out.at_ ⟨#[100, 101, 115, 99]⟩
  rw [show (⟨#[100, 101, 115, 99]⟩ : ByteArray).data.toList = w_desc from rfl] at hm
  have hx2 := HX2.out.lt
  have HE := Lib.hid (order_is HOK.out)
  generalize headIs w_desc r = ds at *
  generalize afterW w_desc r = r3 at *
  go_wp2_with fail
  refine hm.mono ?_
  clear hm p0
  rintro e w4 ⟨rfl, d⟩
  have HD4 := Lib.hid ((HD2.out.trans d).far hgg (by omega : γ.W0.heap.size ≤ w2.heap.size) 7 (.bool ds))
  have hX4 := d.blk HX2.out (by omega)
  have hX5 := hX4.set_ 7 (.bool ds)
  simp only [List.setIfInBounds_toArray, List.set_cons_succ, List.set_cons_zero] at hX5
  have HX5 := Lib.hid hX5
  have hG4 := grown_trans HG2.out d.grown
  have HG5 := Lib.hid (grown_new hG4 (Nat.le_refl w2.heap.size) 7 (.bool ds))
  have k7 := hX4.cell 7
  have f7 := hX4.frozen 7
  simp only [List.getElem?_toArray, List.getElem?_cons_succ, List.getElem?_cons_zero] at k7
  clear d HD2 HX2 HG2 hX4 hX5 hG4
  go_upto_region 2 with fail
  clear k7 f7
  generalize hW4 : w4.setCell _ _ = W4 at *
  clear hW4
  have hA := HA2.out.grown F HG5.out
  have HAP := Lib.hid hA
  have kq := hA.cell F
  rw [hk] at kq
  have hB9 := hA.sz
  clear hA
  go_wp2_with (first
    | (refine wpList_load_row rfl 97 (.tmp 2) rfl w2.heap.size rfl 97 _ (0, 0) _ HX5.out Tryz.underlying97 rfl (by rfl) ?_)
    | (at_builtin
       refine wpList_append_E HAP.out F rfl _ _ 26 rfl _ 96 Tryz.underlying26 gorder_info rfl (by decide) (y, ds) (order_one _) rfl rfl (by omega) (by omega) hB9 ?_
       intro ys v' W3 ha hov hgw hv
       obtain ⟨A9, n9, c9, rfl⟩ := own_form hov
       obtain ⟨kq2, kf2, hpa, hpd⟩ := HAP.out.push F HD4.out (x := (t, ds)) (y := (y, ds)) ⟨Tr.at_.keep (btw_grown HG5.out (by omega)) _ _ HT2.out, rfl⟩ hBW HVN.out ha (later_new _ _) hgw hov (by simpa using hv)
       rw [hk] at kq2 kf2 hpa hpd
       have HPA := Lib.hid hpa
       have HPD := Lib.hid hpd
       clear hpa hpd ha hov hgw hv))
  go_end0
  exact elP.ok HE.out ⟨_, HPA.out⟩ HPD.out
end Go.Proofs.YtcneefmaghoejaaGreatDoor
