/- Parts of the proof: Gr, Gu, Gy, Gu2. Put together by slim.py. -/
import Derived.Defers
import Derived.Recover
import Derived.Test.YtcneefmaghoejaaGreatDoorB16
import Derived.Test.YtcneefmaghoejaaGreatDoorB21
import Derived.Test.YtcneefmaghoejaaGreatDoorB29
import Derived.Test.YtcneefmaghoejaaGreatDoorB30
import Derived.Test.YtcneefmaghoejaaGreatDoorB31
namespace Go.Proofs.YtcneefmaghoejaaGreatDoor
open Go.ChangeShapes Go.WideShapes Go.ChangeAt Go.RowKit
set_option linter.unusedVariables false
set_option linter.unusedSimpArgs false
def rowG (ρ : Rdr) (W : World) (pb : Nat) : GLs := ⟨ρ, W, 25, W.heap.size, 0, pb, W.heap.size + 1, #[.slice none 0 0], [], fun _ _ => True⟩
theorem rowG_fit {ρ : Rdr} {W : World} {pb : Nat} (hg : ρ.g < W.heap.size) (h1 : ρ.g < pb) (h2 : pb < W.heap.size) : (rowG ρ W pb).Fit :=
  ⟨hg, Nat.le_refl _, h1, by show pb ≠ W.heap.size; omega, Nat.lt_succ_self _, by show pb < W.heap.size + 1; omega, fun x hx => by simp [rowG] at hx, by show 0 < 1; omega, fun w w' S S' h hk => trivial⟩
set_option maxHeartbeats 4000000 in
set_option maxRecDepth 100000 in
theorem grow_read (γ : GLs) (F : γ.Fit) (hTQ : γ.TQ = 35) (hk : γ.k = 19) (acc : List (List Tr)) (W : World) (l : Wds) (lg dp : Bool) (hn : acc.length ≤ 5000) (hs : γ.acc elRow 25 acc W) (hd : GDid γ.ρ γ.W0 W l lg dp) :
    Calls Tryz.prog 75 #[.pointer (some ⟨γ.pb, 0, none⟩), .pointer (some ⟨γ.qb, 0, none⟩)] W (elPL γ.ρ γ.W0 (fun r => decide (64 < r.length)) (fun r => deepB r) rowP (γ.acc elRow 25) acc lg dp l) := by
  obtain ⟨v, A⟩ := hs
  have hmf : ∀ fn first cap w, (Instr.makeFunc fn first cap).run Tryz.prog w = .ok (.func fn first cap) w := fun _ _ _ _ => rfl
  have hgg := F.gg
  have hp0 := F.p0
  have hpq := F.pq
  have hqB := F.qB
  have hpB := F.pB
  have hsz := A.sz
  have hgW : γ.ρ.g < W.heap.size := by have := hd.lt; omega
  have hvo : ∀ G, v.ownBlock = some G → G < W.heap.size := fun G hG => (A.ge hG).2
  have HA := Lib.hid A
  have HD := Lib.hid hd
  have b1 := later_new W (.cells #[.slice none 0 0] 25)
  have HR := Lib.hid (Blk.new W 25 #[.slice none 0 0])
  have HG1 := Lib.hid (GDid.of_later hd.at_ b1)
  clear hTQ A hd b1
  go_enter Tryz.func75, Tryz.ntmps75
  go_upto_region 1 with fail
  generalize hW1 : (W.alloc _) = W1 at *
  clear hW1
  -- the opening bracket
  have hr1 := HR.out.lt
  have p0 := (HA.out.grown F HG1.out.grown).ptr
  have hb := later_new W1 (.cells (strsC [s_open]) 9)
  have HG2 := Lib.hid (HG1.out.later hb)
  have HR2 := Lib.hid (HR.out.later hb)
  have hm := gmust_any γ.ρ _ l _ _ HG2.out.at_ [s_open] W1.heap.size 1 rfl (Blk.new W1 _ _) (by omega) (by omega)
  clear hb HG1 HR
  unfold strsC strOf at hm HG2 HR2
  simp only [List.map_cons, List.map_nil] at hm HG2 HR2
  rw [show s_open.toArray = #[40] from rfl] at hm HG2 HR2
  go_wp2_with fail
  refine hm.mono ?_
  clear hm p0
  intro e w2 hp
  rcases hp.cases with ⟨_, l2, v9, hok, rfl, rfl, d⟩ | ⟨m, herr, rfl, hg⟩
  case inr =>
    have hme : must s_open l = .error m := by rw [← musts_one]; exact herr
    have HF := Lib.hid (show rowP l = .error m from bind_errP hme)
    have HG := Lib.hid (grown_trans HD.out.grown HG2.out.grown)
    clear hp herr hme
    go_wp2_with fail
    exact body_panic rfl (elPL.err HF.out ⟨rfl, grown_trans HG.out hg⟩)
  have hmt : must s_open l = .ok ((), l2) := by rw [← musts_one]; exact hok
  have HE := Lib.hid (show rowP l = (listP exprP >>= fun xs => must s_close >>= fun _ => pure xs) l2 from bind_okP hmt)
  have HG3 := Lib.hid (HG2.out.trans d)
  have HR3 := Lib.hid (d.blk HR2.out (by omega))
  clear hp hok hmt d HG2 HR2
  -- the list
  have hA3 := HA.out.grown F HG3.out.grown
  have p0 := hA3.ptr
  have F2 := rowG_fit (ρ := γ.ρ) (W := W) (pb := γ.pb) hgW hp0 (by omega)
  have hac : (rowG γ.ρ W γ.pb).acc elTr 49 [] w2 := ⟨.slice none 0 0, HR3.out, Grows.nil elTr 49 w2 (W.heap.size + 1), trivial, by have := HR3.out.lt; show W.heap.size + 1 ≤ w2.heap.size; omega, hA3.pbk, fun x hx => by simp [rowG] at hx⟩
  have L : Lst γ.ρ W (fun t => decide (32 < t.depth)) exprP 76 #[.pointer (some ⟨W.heap.size, 0, none⟩), .pointer (some ⟨γ.pb, 0, none⟩)] ((rowG γ.ρ W γ.pb).acc elTr 49) :=
    ⟨sane_expr, enters_of Tryz.func76 (by kernel_rfl) rfl, fun acc a b hs hg _ => by obtain ⟨v, h⟩ := hs; exact ⟨v, h.grown F2 hg⟩, fun acc W3 l lg dp hn hs hd => ginner_read (rowG γ.ρ W γ.pb) F2 rfl rfl acc W3 l lg dp hn hs hd⟩
  have hm := glist_any γ.ρ W (fun t => decide (32 < t.depth)) exprP 76 #[.pointer (some ⟨W.heap.size, 0, none⟩), .pointer (some ⟨γ.pb, 0, none⟩)] _ L w2 l2 lg dp HG3.out hac hgW
  have HF2 := Lib.hid F2
  clear L F2 hac hA3 HR3
  go_wp2_with fail
  refine hm.mono ?_
  clear hm p0
  intro e w3 hp
  unfold lstPost at hp
  cases hx : listP exprP l2 with
  | error m =>
    rw [hx] at hp
    obtain ⟨rfl, hg⟩ := hp
    have HF := Lib.hid (show rowP l = .error m from HE.out.trans (bind_errP hx))
    have HG := Lib.hid (grown_trans HD.out.grown hg)
    clear hx hg
    go_wp2_with fail
    exact body_panic rfl (elPL.err HF.out ⟨rfl, HG.out⟩)
  | ok z =>
    obtain ⟨xs, l3⟩ := z
    rw [hx] at hp
    obtain ⟨rfl, ⟨v3, hs⟩, hd⟩ := hp
    have HE3 := Lib.hid (show rowP l = (must s_close >>= fun _ => pure xs) l3 from HE.out.trans (bind_okP hx))
    have HS := Lib.hid hs
    have HG4 := Lib.hid hd
    clear hx hs hd HE HG3
    -- the closing bracket
    have hw3 := HG4.out.size
    have hgw3 := HG4.out.lt
    have p0 := (HA.out.grown F HG4.out.grown).ptr
    have hb := later_new w3 (.cells (strsC [s_close]) 9)
    have HG5 := Lib.hid (HG4.out.later hb)
    have HS5 := Lib.hid (HS.out.later HF2.out hb)
    have hm := gmust_any γ.ρ _ l3 _ _ HG5.out.at_ [s_close] w3.heap.size 1 rfl (Blk.new w3 _ _) (by omega) (by omega)
    clear hb HG4 HS
    unfold strsC strOf at hm HG5 HS5
    simp only [List.map_cons, List.map_nil] at hm HG5 HS5
    rw [show s_close.toArray = #[41] from rfl] at hm HG5 HS5
    go_wp2_with fail
    refine hm.mono ?_
    clear hm p0
    intro e w4 hp
    rcases hp.cases with ⟨_, l4, v9, hok, rfl, rfl, d⟩ | ⟨m, herr, rfl, hg⟩
    case inr =>
      have hme : must s_close l3 = .error m := by rw [← musts_one]; exact herr
      have HF := Lib.hid (show rowP l = .error m from HE3.out.trans (bind_errP hme))
      have HG := Lib.hid (grown_trans HD.out.grown HG5.out.grown)
      clear hp herr hme
      go_wp2_with fail
      exact body_panic rfl (elPL.err HF.out ⟨rfl, grown_trans HG.out hg⟩)
    have hmt : must s_close l3 = .ok ((), l4) := by rw [← musts_one]; exact hok
    have HE4 := Lib.hid (show rowP l = .ok (xs, l4) from HE3.out.trans ((bind_okP hmt).trans rfl))
    have HG6 := Lib.hid (HG5.out.trans d)
    have hS := HS5.out.grown HF2.out d.grown
    clear hp hok hmt d HG5 HS5
    -- the append
    obtain ⟨sl, hv, hn9, hsl⟩ := hS.row.sl (B' := W.heap.size + 1) (Nat.le_refl _)
    have x0 : w4.cell? ⟨W.heap.size, 0, none⟩ = some v3 := hS.cell HF2.out
    rw [hv] at x0
    obtain ⟨A3, n3, c3⟩ := sl
    unfold slC at x0
    have HSL := Lib.hid hsl
    have hA := HA.out.grown F HG6.out.grown
    have HAP := Lib.hid hA
    have kq := hA.cell F
    rw [hk] at kq
    have hB9 := hA.sz
    have hw4 := HG6.out.size
    have HDD := Lib.hid (HD.out.trans HG6.out)
    clear hA hS hv hn9 hsl HE3 HG6 HA HD HF2
    go_wp2_with (first
      | (at_builtin
         refine wpList_append_E HAP.out F rfl _ _ 30 rfl _ 24 Tryz.underlying30 grow_info rfl (by decide) (⟨A3, n3, c3⟩ : Sl) (row_one _) rfl rfl (by omega) (by omega) hB9 ?_
         intro ys v' W3 ha hov hgw hv
         obtain ⟨A9, n9, c9, rfl⟩ := own_form hov
         obtain ⟨kq2, kf2, hpa, hpd⟩ := HAP.out.push F HDD.out (n0 := W.heap.size + 1) (x := xs) (y := (⟨A3, n3, c3⟩ : Sl)) (show elRow.rel w4 (Btw (W.heap.size + 1) w4) xs (⟨A3, n3, c3⟩ : Sl) from HSL.out) (by omega) (fun G hG => by have := hvo G hG; omega) ha (later_new _ _) hgw hov (by simpa using hv)
         rw [hk] at kq2 kf2 hpa hpd
         have HPA := Lib.hid hpa
         have HPD := Lib.hid hpd
         clear hpa hpd ha hov hgw hv))
    go_end0
    exact elPL.ok HE4.out ⟨_, HPA.out⟩ HPD.out
end Go.Proofs.YtcneefmaghoejaaGreatDoor
namespace Go.Proofs.YtcneefmaghoejaaGreatDoor
open Go.ChangeShapes Go.WideShapes Go.ChangeAt Go.RowKit
set_option linter.unusedVariables false
set_option linter.unusedSimpArgs false
def gst0 : Array Value := (stC {}).toArray
def gstZ (m : StM) : Obj := .cells (stC m).toArray 35
theorem gst_info : (Tryz.prog.info? 35).map (·.size) = some 28 := by kernel_rfl
theorem gst_one (m : StM) : (stC m).toArray.all (·.oneCell') = true := by simp [stC, quC, slC, valC, Value.oneCell']
def gstPost (ρ : Rdr) (w : World) (lg dp : Bool) (P : Ps St) (l : Wds) (e : Ending) (w' : World) : Prop :=
  GP ρ w P l (fun d r v w' => ∃ m : StM, v = stV m ∧ d.at_ w' (Btw w.heap.size w') m ∧ GDid ρ w w' r (lg || d.long) (dp || deepB d.exprs)) e w'
structure GSa (ρ : Rdr) (w : World) (q : Nat) (pbs : List Nat) (lg dp : Bool) (wr : World) (l : Wds) : Prop where
  did : GDid ρ w wr l lg dp
  res : Blk wr q 35 gst0
  qw : w.heap.size ≤ q
  pbk : ∀ p ∈ pbs, w.heap.size ≤ p ∧ p ≠ q ∧ Blk wr p 58 #[ρ.ptr]
structure GSt (ρ : Rdr) (w : World) (q : Nat) (pbs : List Nat) (lg dp : Bool) (b : Nat) (wr : World) (l : Wds) (m : StM) (d : St) : Prop where
  sa : GSa ρ w q pbs (lg || d.long) (dp || deepB d.exprs) wr l
  blk : Blk wr b 35 (stC m).toArray
  at_ : d.at_ wr (Btw (b + 1) wr) m
  qb : q < b
  pb : ∀ p ∈ pbs, p < b
section
variable {ρ : Rdr} {w wr w2 : World} {q b : Nat} {pbs : List Nat} {lg dp lg2 dp2 : Bool} {l l2 : Wds} {m : StM} {d : St}
theorem GSa.later (A : GSa ρ w q pbs lg dp wr l) (hb : Below wr.heap.size wr w2) : GSa ρ w q pbs lg dp w2 l :=
  ⟨A.did.later hb, A.res.later hb, A.qw, fun p hp => by obtain ⟨a, c, h⟩ := A.pbk p hp; exact ⟨a, c, h.later hb⟩⟩
theorem GSa.go (A : GSa ρ w q pbs lg dp wr l) (hg : ρ.g < w.heap.size) (D : GDid ρ wr w2 l2 lg2 dp2) : GSa ρ w q pbs lg2 dp2 w2 l2 := by
  have hq := A.qw
  exact ⟨A.did.trans D, D.blk A.res (by omega), A.qw, fun p hp => by obtain ⟨a, c, h⟩ := A.pbk p hp; exact ⟨a, c, D.blk h (by omega)⟩⟩
theorem GSa.ptr {p : Nat} (A : GSa ρ w q [p] lg dp wr l) : wr.cell? ⟨p, 0, none⟩ = some ρ.ptr := (A.pbk p (by simp)).2.2.cell 0
theorem GSa.start (A : GSa ρ w q pbs lg dp wr l) (m : StM) (d : St) (hpl : ∀ p ∈ pbs, p < wr.heap.size) (hl : lg2 = (lg || d.long)) (hd : dp = (dp2 || deepB d.exprs)) (hlg : lg = (lg2 || d.long)) (hat : ∀ W S, St.at_ W S d m) : GSt ρ w q pbs lg2 dp2 wr.heap.size (wr.alloc (gstZ m)) l m d := by
  have hb := later_new wr (gstZ m)
  exact ⟨by rw [← hlg, ← hd]; exact A.later hb, Blk.new wr _ _, hat _ _, A.res.lt, hpl⟩
theorem GSt.later (A : GSt ρ w q pbs lg dp b wr l m d) (hb : Below wr.heap.size wr w2) : GSt ρ w q pbs lg dp b w2 l m d :=
  ⟨A.sa.later hb, A.blk.later hb, St.at_.keep (btw_later hb) A.at_, A.qb, A.pb⟩
theorem GSt.go (A : GSt ρ w q pbs lg dp b wr l m d) (hg : ρ.g < w.heap.size) (D : GDid ρ wr w2 l2 (lg || d.long) (dp || deepB d.exprs)) : GSt ρ w q pbs lg dp b w2 l2 m d := by
  have hq := A.qb; have hw := A.sa.qw
  exact ⟨A.sa.go hg D, D.blk A.blk (by omega), St.at_.keep (btw_grown D.grown (by omega)) A.at_, A.qb, A.pb⟩
theorem GSt.set {m' : StM} {d' : St} (A : GSt ρ w q pbs lg dp b wr l m d) (hg : ρ.g < w.heap.size) (D : GDid ρ wr w2 l2 lg2 dp2) (i : Nat) (u : Value) (hb : (stC m').toArray = (stC m).toArray.setIfInBounds i u) (hl : lg2 = (lg || d'.long)) (hd : dp2 = (dp || deepB d'.exprs)) (hat : d.at_ w2 (Btw (b + 1) w2) m → St.at_ w2 (Btw (b + 1) w2) d' m') : GSt ρ w q pbs lg dp b (w2.setCell ⟨b, i, none⟩ u) l2 m' d' := by
  have hq := A.qb; have hw := A.sa.qw
  have S := A.sa.go hg D
  refine ⟨⟨?_, S.res.far (p := ⟨b, i, none⟩) (by simp; omega) u, S.qw, fun p hp => ?_⟩, ?_, St.at_.keep (btw_set (Nat.lt_succ_self _) i u) (hat (St.at_.keep (btw_grown D.grown (by omega)) A.at_)), A.qb, A.pb⟩
  · rw [← hl, ← hd]; exact S.did.far hg (by omega) i u
  · obtain ⟨a, c, h⟩ := S.pbk p hp
    have := A.pb p hp
    exact ⟨a, c, h.far (p := ⟨b, i, none⟩) (by simp; omega) u⟩
  · rw [hb]; exact (D.blk A.blk (by omega)).set_ i u
def stG (ρ : Rdr) (w : World) (q p b : Nat) (m : StM) (d : St) (k : Nat) : GLs := ⟨ρ, w, 35, b, k, p, b + 1, (stC m).toArray, [(q, 35, gst0)], fun W S => d.at_ W S m⟩
theorem GSt.fit {p : Nat} (A : GSt ρ w q [p] lg dp b wr l m d) (hg : ρ.g < w.heap.size) (k : Nat) (hk : k < 28) : (stG ρ w q p b m d k).Fit := by
  have hq := A.qb; have hw := A.sa.qw; have hp := A.pb p (by simp); obtain ⟨h1, h2, _⟩ := A.sa.pbk p (by simp)
  exact ⟨hg, by show w.heap.size ≤ b; omega, by show ρ.g < p; omega, by show p ≠ b; omega, Nat.lt_succ_self _, by show p < b + 1; omega, fun x hx => by simp [stG] at hx; subst hx; exact ⟨hw, by show q ≠ b; omega, by show q < b + 1; omega⟩, by show k < 28; exact hk, fun w w' S S' h hk => St.at_.keep hk h⟩
theorem GSt.start {p : Nat} (A : GSt ρ w q [p] lg dp b wr l m d) {α : Type} (E : El α) (T : TypeId) (k : Nat) (hk : (stC m).toArray.setIfInBounds k (.slice none 0 0) = (stC m).toArray) : (stG ρ w q p b m d k).acc E T [] wr :=
  ⟨.slice none 0 0, by show Blk wr _ _ ((stC m).toArray.setIfInBounds k _); rw [hk]; exact A.blk, Grows.nil E T wr _, St.at_.keep (fun b hb => ⟨fun _ => rfl, hb.1, hb.2, by simp [Value.ownBlock]⟩) A.at_, by have := A.blk.lt; show b + 1 ≤ _; omega, (A.sa.pbk p (by simp)).2.2, fun x hx => by simp [stG] at hx; subst hx; exact A.sa.res⟩
theorem GSt.list {p : Nat} {α : Type} {E : El α} {T : TypeId} {k : Nat} {xs : List α} {m' : Sl → StM} {d' : St} (A : GSt ρ w q [p] lg dp b wr l m d) (hs : (stG ρ w q p b m d k).acc E T xs w2) (D : GDid ρ w w2 l2 lg2 dp2) (hm : ∀ sl, (stC (m' sl)).toArray = (stC m).toArray.setIfInBounds k (slC sl)) (hl : lg2 = (lg || d'.long)) (hd : dp2 = (dp || deepB d'.exprs)) (hat : ∀ sl, E.sl w2 (Btw (b + 1) w2) sl xs → d.at_ w2 (Btw (b + 1) w2) m → d'.at_ w2 (Btw (b + 1) w2) (m' sl)) : ∃ sl, GSt ρ w q [p] lg dp b w2 l2 (m' sl) d' := by
  obtain ⟨v, B⟩ := hs
  obtain ⟨sl, hv, _, hsl⟩ := B.row.sl (B' := b + 1) (Nat.le_refl _)
  obtain ⟨h1, h2, _⟩ := A.sa.pbk p (by simp)
  refine ⟨sl, ⟨?_, B.oth (q, 35, gst0) (by simp [stG]), A.sa.qw, fun p' hp => by simp at hp; subst hp; exact ⟨h1, h2, B.pbk⟩⟩, ?_, hat sl hsl (St.at_.keep (own0_out (Nat.le_refl _)) B.kp), A.qb, A.pb⟩
  · rw [← hl, ← hd]; exact D
  · rw [hm, ← hv]; exact B.blk
theorem GSt.post {P : Ps St} {l0 : Wds} (A : GSt ρ w q pbs lg dp b wr l m d) (hg : ρ.g < w.heap.size) (hp : P l0 = .ok (d, l)) : gstPost ρ w lg dp P l0 (.returned (stV m)) (wr.setRow q (stC m).toArray) := by
  have hq := A.qb; have hw := A.sa.qw
  exact GP.ok hp ⟨m, rfl, St.at_.keep (btw_more (by omega)) (St.at_.keep (btw_row wr (show q < b + 1 by omega) _) A.at_), A.sa.did.own hg (grown_row wr _ _) (fun G e => by injection e with e; omega)⟩
end
end Go.Proofs.YtcneefmaghoejaaGreatDoor
namespace Go.Proofs.YtcneefmaghoejaaGreatDoor
open Go.ChangeShapes Go.WideShapes Go.ChangeAt Go.RowKit
set_option linter.unusedVariables false
set_option linter.unusedSimpArgs false
theorem wpS_region_rec {P : Program} {id : Nat} {o : Oper} {l : List Oper} {Q : Exit → Act → List Frame → World → Prop} {a : Act} {cs : List Frame} {w : World} (hw : Region.wanted o (yielded (o :: l).toArray a.tmps) = true) (hr : (execOp a.eval o).run P w = .ok .recover w) {v : Value} {cs' : List Frame}
    (hc : recoverD cs = some (v, cs') ∨ recoverD cs = none ∧ v = .nilIface ∧ cs' = cs) (h : wpList P (o :: l).toArray (fun e a w => Q e a cs' w) l (a.put o.dst v) w) : (Code.region id (o :: l).toArray false).wpS P Q a cs w := by
  intro b k hb hro
  obtain ⟨e, a', w', q, harr⟩ := wp_ops (ops := (o :: l).toArray) (List.range' 1 l.length) _ w (by rw [wpOps_eq_wpList l 1 (fun j => by simp [Nat.add_comm])]; exact h) b k cs'
  refine ⟨e, a', cs', w', q, .of_steps (.one step_region) ?_⟩
  have e0 : List.range (o :: l).toArray.size = 0 :: List.range' 1 l.length := by
    rw [List.range_eq_range']; simp [List.range'_succ]
  rw [e0]
  have ho : (o :: l).toArray[0]? = some o := by simp
  have hg := stepG_op (P := P) (b := b) (k := k) (cs := cs) (w := w) (rest := List.range' 1 l.length) ho hw
  have hfin : ∀ v, (b.at a (.inRegion (o :: l).toArray (0 :: List.range' 1 l.length) :: k)).finish v = b.at (a.put o.dst v) (.inRegion (o :: l).toArray (List.range' 1 l.length) :: k) := by
    intro v; rw [Frame.finish_at, ho]; rfl
  have htr := tryRecover_deferred (fr := b.at a (.inRegion (o :: l).toArray (0 :: List.range' 1 l.length) :: k)) hb cs
  refine .of_steps (.one (step_lone_go ?_)) harr
  rw [hg, ← hfin]
  simp only [Frame.at] at htr ⊢
  rcases hc with hc | ⟨hc, rfl, rfl⟩ <;> simp [stepG.apply, hr, htr, hc]
theorem gst_zero : Tryz.prog.built 35 [] = some gst0 := by kernel_rfl
def catchA (b0 b1 b2 : Nat) : Array Value := #[.pointer (some ⟨b0, 0, none⟩), .pointer (some ⟨b1, 0, none⟩), .pointer (some ⟨b2, 0, none⟩)]
set_option maxHeartbeats 1000000 in
set_option maxRecDepth 100000 in
theorem gcatch_idle (b0 b1 b2 : Nat) (w : World) : CallsD Tryz.prog 16 (catchA b0 b1 b2) .returning w fun e u' w' => e = .returned (.tuple #[]) ∧ u' = .returning ∧ Below w.heap.size w w' := by
  refine callsD_of_wpS Tryz.func16 rfl fun c₀ cs hu => ?_
  unfold catchA
  change Code.wpS Tryz.prog _ _ { tmps := #[.pointer (some ⟨b0, 0, none⟩), .pointer (some ⟨b1, 0, none⟩), .pointer (some ⟨b2, 0, none⟩), undef, undef, undef, undef, undef, undef, undef, undef, undef, undef, undef], defers := [] } _ _
  apply wpS_seq
  refine wpS_region_rec (v := .nilIface) (cs' := c₀ :: cs) (by rfl) rfl (.inr ⟨by simp [recoverD, hu], rfl, rfl⟩) ?_
  have hta : ∀ w, (Instr.typeAssert .nilIface 20 56 true).run Tryz.prog w = .ok (.tuple #[.agg #[.int .i64 0], .bool false]) w := fun _ => rfl
  have hb := later_new w (.cells #[.int .i64 0] 56)
  go_wp2_with fail
  change Code.wpS _ _ _ _ _ _
  refine wpS_of_wp ?_
  go_wp2_with fail
  simp only [bodyPostS]
  refine ⟨trivial, c₀.mode, rfl, .tuple #[], ?_, rfl, hu, ?_⟩
  · simp [results, Tryz.results16]
  · exact hb
def fltI (p : Int) : Value := .iface 56 (.agg #[.int .i64 p])
set_option maxHeartbeats 1000000 in
set_option maxRecDepth 100000 in
theorem gcatch_fault (p : Int) (N b0 b1 b2 : Nat) (h0 : N ≤ b0) (h1 : N ≤ b1) (h2 : N ≤ b2) (n1 : b0 ≠ b1) (n2 : b0 ≠ b2) (n3 : b1 ≠ b2) (w : World) (cs0 : Array Value) (hs0 : cs0.size = 28) (hb0 : Blk w b0 35 cs0) (x y : Value) (hb1 : Blk w b1 3 #[x]) (hb2 : Blk w b2 36 #[y]) (older : List PanicEntry) :
    CallsD Tryz.prog 16 (catchA b0 b1 b2) (.panicking ({ v := fltI p, recovered := false } :: older)) w fun e u' w' => e = .returned (.tuple #[]) ∧ u' = .panicking ({ v := fltI p, recovered := true } :: older) ∧ Blk w' b0 35 gst0 ∧ Blk w' b1 3 #[.int .i64 p] ∧ Blk w' b2 36 #[.int .i64 31] ∧ Below N w w' := by
  refine callsD_of_wpS Tryz.func16 rfl fun c₀ cs hu => ?_
  unfold catchA
  change Code.wpS Tryz.prog _ _ { tmps := #[.pointer (some ⟨b0, 0, none⟩), .pointer (some ⟨b1, 0, none⟩), .pointer (some ⟨b2, 0, none⟩), undef, undef, undef, undef, undef, undef, undef, undef, undef, undef, undef], defers := [] } _ _
  apply wpS_seq
  refine wpS_region_rec (v := fltI p) (cs' := { c₀ with mode := .panicking ({ v := fltI p, recovered := true } :: older) } :: cs) (by rfl) rfl (.inl (by simp [recoverD, hu])) ?_
  have hta : ∀ w, (Instr.typeAssert (fltI p) 20 56 true).run Tryz.prog w = .ok (.tuple #[.agg #[.int .i64 p], .bool true]) w := fun _ => rfl
  go_wp2_with fail
  change Code.wpS _ _ _ _ _ _
  refine wpS_of_wp ?_
  have hN : N ≤ w.heap.size := by have := hb0.lt; omega
  have hbw := (later_new w (.cells #[.int .i64 p] 56)).mono hN
  have HF := Blk.new w 56 #[.int .i64 p]
  have HB0 := hb0.alloc (.cells #[.int .i64 p] 56)
  have HB1 := hb1.alloc (.cells #[.int .i64 p] 56)
  have HB2 := hb2.alloc (.cells #[.int .i64 p] 56)
  have q0 := hb0.lt
  have q1 := hb1.lt
  have q2 := hb2.lt
  clear hb0 hb1 hb2 hta
  obtain ⟨z0, hz0⟩ : ∃ z, z = gst0 := ⟨_, rfl⟩
  have HZ := Lib.hid (show Tryz.prog.built 35 [] = some z0 by rw [hz0]; exact gst_zero)
  have HZ1 := Lib.hid (show z0.all (·.oneCell') = true by rw [hz0]; exact gst_one {})
  have HZ2 := Lib.hid (show z0.size = 28 by rw [hz0]; rfl)
  rw [← hz0]
  clear hz0
  go_upto_region 2 with fail
  change Code.wp _ _ _ _ (w.alloc (.cells #[.int .i64 p] 56))
  generalize w.alloc _ = W at *
  generalize w.heap.size = g at *
  refine region_chain [_, _] [_, _, _, _] rfl (fun i => if i = 0 then .agg z0 else if i = 1 then .pointer (some ⟨g, 0, none⟩) else .int .i64 p) [3] (fun vs w' => Blk w' b0 35 (if vs = [] then cs0 else z0) ∧ Blk w' b1 3 #[x] ∧ Blk w' b2 36 #[y] ∧ Blk w' g 56 #[.int .i64 p] ∧ Below N w w') (fun vs w' ⟨a, b, c, d, e⟩ => ⟨a.drew, b.drew, c.drew, d.drew, e.drew⟩) ⟨HB0, HB1, HB2, HF, hbw⟩ (by kernel_rfl) (by kernel_rfl) (by kernel_rfl) (by kernel_rfl) (by decide) rfl ?_ ?_
  · refine ⟨?_, ?_, ?_, ?_, trivial⟩
    · intro ρ w' vs hcs hG hr
      refine ⟨rfl, ?_⟩
      unfold execOp
      simp only [Sem.run_bind, Array.map_empty, run_build w' 35 #[] z0 HZ.out, Result.andThen_ok]
      rfl
    · intro ρ w' vs hcs hG hr
      have r0 : ρ (.tmp 3) = .pointer (some ⟨g, 0, none⟩) := hr.1
      refine ⟨rfl, ?_⟩
      simp [execOp, r0, go_sem]
    · intro ρ w' vs hcs hG hr
      have r0 : ρ (.tmp 12) = .pointer (some ⟨g, 0, none⟩) := hr.1
      refine ⟨rfl, ?_⟩
      have hc := hG.2.2.2.1.cell 0
      simp only [List.getElem?_toArray, List.getElem?_cons_zero] at hc
      simp [execOp, r0, go_sem, hc]
    · intro ρ w' vs hcs hG hr
      have r0 : ρ (.tmp 0) = .pointer (some ⟨b0, 0, none⟩) := hr.1
      have r1 : ρ (.tmp 11) = .agg z0 := hr.2.1
      refine ⟨rfl, ?_⟩
      show vs.length = 0 → _
      intro hl
      obtain rfl := List.eq_nil_of_length_eq_zero hl
      obtain ⟨a, b, c, d, e⟩ := hG
      refine opW_skip (w' := w'.setRow b0 z0) ?_ ?_
      · unfold execOp
        simp only [r0, r1, Instr.storeAt, Instr.sureAddr, Sem.run_bind, Sem.run_pure, Result.andThen_ok, run_storeVar_row w' b0 35 35 cs0 z0 a (by rw [HZ2.out]; exact gst_info) (by rw [hs0, HZ2.out]) HZ1.out]
      · exact ⟨a.row z0, b.row_far n1.symm z0, c.row_far n2.symm z0, d.row_far (by omega) z0, e.trans (below_grown (grown_row w' b0 z0) (by have := a.lt; omega) h0)⟩
  · intro vs w' hl hG
    match vs, hl with
    | [v], _ =>
      obtain ⟨a, b, c, d, e⟩ := hG
      intro a0 z0' a1 z1 a2 z2
      have z0' : a0 = .agg z0 := z0'
      have z1 : a1 = .pointer (some ⟨g, 0, none⟩) := z1
      have z2 : a2 = .int .i64 p := z2
      subst z0' z1 z2
      have e1 := b.cell 0
      have e2 := c.cell 0
      simp only [List.getElem?_toArray, List.getElem?_cons_zero] at e1 e2
      have f1 := b.frozen 0
      have f2 := c.frozen 0
      change wpList _ _ _ _ _ _
      clear z0' z1 z2
      go_wp2_with fail
      have s0 := a.lt
      have hs1 : (w'.setCell ⟨b1, 0, none⟩ (.int .i64 p)).heap.size = w'.heap.size := by simp [World.setCell]
      have g1 : w'.grownBy (w'.setCell ⟨b1, 0, none⟩ (.int .i64 p)) (some b1) := grown_set (grown_below (Below.refl _ _)) 0 _
      have g2 : (w'.setCell ⟨b1, 0, none⟩ (.int .i64 p)).grownBy ((w'.setCell ⟨b1, 0, none⟩ (.int .i64 p)).setCell ⟨b2, 0, none⟩ (.int .i64 31)) (some b2) := grown_set (grown_below (Below.refl _ _)) 0 _
      refine ⟨rfl, _, rfl, .tuple #[], ?_, rfl, rfl, ?_, ?_, ?_, ?_⟩
      · simp [results, Tryz.results16]
      · exact (Blk.far a (p := ⟨b1, 0, none⟩) n1 _).far (p := ⟨b2, 0, none⟩) n2 _
      · exact (b.set_ 0 (.int .i64 p)).far (p := ⟨b2, 0, none⟩) n3 _
      · exact (c.far (p := ⟨b1, 0, none⟩) n3.symm _).set_ 0 (.int .i64 31)
      · exact (e.trans (below_grown g1 (by omega) h1)).trans (below_grown g2 (by omega) h2)
end Go.Proofs.YtcneefmaghoejaaGreatDoor
namespace Go.Proofs.YtcneefmaghoejaaGreatDoor
open Go.ChangeShapes Go.WideShapes Go.ChangeAt Go.RowKit
set_option linter.unusedVariables false
set_option linter.unusedSimpArgs false
theorem gst_siz (m : StM) : (stC m).toArray.size = 28 := by simp [stC, quC, valC]
theorem gmaybe_anyL (ρ : Rdr) (w : World) (l : Wds) (lg dp : Bool) (h : ρ.gat w l lg dp) (s : List UInt8) (t : ByteArray) (ht : t = ⟨s.toArray⟩) :
    Calls Tryz.prog 79 #[ρ.ptr, .string t] w (mbPost ρ w lg dp s l) := by subst ht; exact gmaybe_any ρ w l lg dp h s
theorem gbuild_is {P : Program} {ops : Array Oper} {rest : List Oper} {o : Oper} {a : Act} {w : World} {Q : Exit → Act → World → Prop} (hg : o.guard = none) (t : TypeId) (parts : Array (Nat × Operand)) (ho : o.op = .build t parts) {cs : Array Value}
    (hv : P.built t (parts.map fun (i, x) => (i, a.eval x)).toList = some cs) (h : wpList P ops Q rest (a.put o.dst (.agg cs)) w) : wpList P ops Q (o :: rest) a w :=
  wpList_build hg t parts ho (by rw [hv]; rfl) (by rw [hv]; exact h)
theorem gst_built (k : Int) (nm : ByteArray) : Tryz.prog.built 35 [(0, .int .u8 k), (1, .string nm)] = some (stC { kind := k, name := nm }).toArray := by kernel_rfl
theorem gst_builtq (qy : QuM) : Tryz.prog.built 35 [(0, .int .u8 8), (7, quV qy)] = some (stC { kind := 8, query := qy }).toArray := by kernel_rfl
theorem gst_builtd (k : Int) (nm : ByteArray) : Tryz.prog.built 35 [(0, .int .u8 4), (8, .int .u8 k), (1, .string nm)] = some (stC { kind := 4, what := k, name := nm }).toArray := by kernel_rfl
theorem alloc_row (w : World) (c0 cs : Array Value) (T : TypeId) : (w.alloc (.cells c0 T)).setRow w.heap.size cs = w.alloc (.cells cs T) := by
  have hh : ((w.alloc (.cells c0 T)).setRow w.heap.size cs).heap = (w.alloc (.cells cs T)).heap := by
    apply Array.ext_getElem?
    intro i
    by_cases hi : i = w.heap.size
    · subst hi
      exact (setRow_heap _ _ c0 cs T (0, 0) (Blk.new w T c0)).trans (Blk.new w T cs).symm
    · rw [setRow_other _ _ _ cs hi]
      by_cases h2 : i < w.heap.size
      · exact ((later_new w (.cells c0 T)).block i h2).trans ((later_new w (.cells cs T)).block i h2).symm
      · rw [Array.getElem?_eq_none (by rw [World.size_alloc]; omega), Array.getElem?_eq_none (by rw [World.size_alloc]; omega)]
  have hw : ∀ a b : World, a.heap = b.heap → a.tape = b.tape → a.drawn = b.drawn → a.os = b.os → a.output = b.output → a = b := by
    intro a b h1 h2 h3 h4 h5
    cases a; cases b
    simp only at h1 h2 h3 h4 h5
    subst h1 h2 h3 h4 h5
    rfl
  exact hw _ _ hh rfl rfl rfl rfl
end Go.Proofs.YtcneefmaghoejaaGreatDoor
