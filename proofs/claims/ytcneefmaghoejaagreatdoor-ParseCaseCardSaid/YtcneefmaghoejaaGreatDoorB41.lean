/- Parts of the proof: StL, Sm1. Put together by slim.py. -/
import Derived.Test.YtcneefmaghoejaaGreatDoorB22
import Derived.Test.YtcneefmaghoejaaGreatDoorB25
import Derived.Test.YtcneefmaghoejaaGreatDoorB26
import Derived.Test.YtcneefmaghoejaaGreatDoorB39
namespace Go.Proofs.YtcneefmaghoejaaGreatDoor
open Go.ChangeShapes Go.WideShapes Go.ChangeAt Go.RowKit
set_option linter.unusedVariables false
set_option linter.unusedSimpArgs false
structure LAt {α : Type} (E : El α) (T : TypeId) (lng : α → Bool) (el : Ps α) (ρ : Rdr) (w : World) (bg : Bool) (σ : RSt) (q b i : Nat) (cs : Array Value) (d : St) (m : StM) (k : Nat) (v : Value) (wr : World) (σ' : RSt) (acc : List α) : Prop where
  pos : 0 < acc.length
  few : acc.length + σ'.left ≤ 5001
  le : σ'.left ≤ k
  row : Grows E T wr (b + 1) v acc
  did : Did ρ w wr σ' ((bg || decide (64 < acc.length - 1)) || acc.any lng)
  blk : Blk wr b 35 (cs.setIfInBounds i v)
  res : Blk wr q 35 st0
  at_ : St.at_ wr (Own0 (b + 1) v wr) d m
  todo : ListTo el σ acc σ'
  qb : w.heap.size ≤ q ∧ q < b
section
variable {α : Type} {E : El α} {T : TypeId} {lng : α → Bool} {el : Ps α} {ρ : Rdr} {w wr w8 : World} {big bg : Bool} {P : Ps St} {σ0 σ σ' : RSt} {q b i k : Nat} {m : StM} {d : St} {w1 w1' w2 W : World} {y : E.β} {v v' : Value} {acc : List α} {cs : Array Value}
theorem LAt.first (sane : Sane el) (hg : ρ.g < w.heap.size) (hD : Did ρ w wr σ bg) (hB : Blk wr b 35 cs) (hR : Blk wr q 35 st0) (hat : St.at_ wr (Btw (b + 1) wr) d m) (hq : w.heap.size ≤ q ∧ q < b)
    (hl1 : Later wr w1) (hp : elDid E lng ρ el σ bg y w1 w1') (hl2 : Later w1' w2) (hgw : w2.grownBy W (Value.slice none 0 0).ownBlock) (hov : OwnF E.f T E.size W (b + 1) v' ([] ++ [y])) (hv : v'.ownBlock = (Value.slice none 0 0).ownBlock ∨ v'.ownBlock = some w2.heap.size) :
    ∃ A n c x, v' = .slice A n c ∧ W.frozen? ⟨b, i, none⟩ = false ∧ b < W.heap.size ∧ LAt E T lng el ρ w bg σ q b i cs d m 5000 (.slice A n c) (W.setCell ⟨b, i, none⟩ (.slice A n c)) (stepS el σ) [x] := by
  obtain ⟨_, _, dd, _⟩ := id hp
  have hs0 := hD.size
  have hs1 := hl1.size
  have hs2 := dd.size
  have hs3 := hl2.size
  have hbl := hB.lt
  have hg2 : w2.grownBy W none := hgw
  obtain ⟨x, hgr, hdd, hgv⟩ := push_grows (E := E) (T := T) (lng := lng) (B := b + 1) (acc := []) (by omega) hg (Grows.nil E T wr (b + 1)) (by omega) hD hl1 hp hl2 hgw [] hov .nil hv
  obtain ⟨⟨A, n, c⟩, hsl, hsn, _⟩ := hgr.sl (B' := w.heap.size) (by omega)
  replace hsl : v' = .slice A n c := hsl
  subst hsl
  have HX := (((hB.later hl1).grown dd.grown (by simp; omega)).later hl2).later (later_grown hg2)
  have HR := (((hR.later hl1).grown dd.grown (by simp; omega)).later hl2).later (later_grown hg2)
  have hat0 : St.at_ wr (Own0 (b + 1) (.slice none 0 0) wr) _ _ := St.at_.keep (fun b' hb => ⟨fun _ => rfl, hb.1, hb.2, by simp [Value.ownBlock]⟩) hat
  have hatW := St.at_.keep (own0_far (show b < b + 1 by omega) i (.slice A n c)) (St.at_.keep (own0_app hgw hv) (St.at_.keep (own0_later hl2) (St.at_.keep (own0_grown dd.grown (by omega)) (St.at_.keep (own0_later hl1) hat0))))
  refine ⟨A, n, c, x, rfl, HX.frozen i, HX.lt, ?_⟩
  have hl := RSt.left_step_le sane σ
  have hlf := hD.at_.left
  have hsm := hD.at_.small
  refine ⟨by simp, by simp; omega, by omega, hgr.far (by omega) i (.slice A n c), ?_, HX.set_ i _, HR.far (p := ⟨b, i, none⟩) (by simp; omega) _, hatW, ListTo.start hgv, hq⟩
  have := hdd.far hg (show w.heap.size ≤ b by omega) i (.slice A n c)
  simpa using this
theorem LAt.more (H : LAt E T lng el ρ w bg σ q b i cs d m k v wr σ' acc) (hg : ρ.g < w.heap.size) {σ8 : RSt} {b8 : Bool} (d8 : Did ρ wr w8 σ8 b8) : Did ρ w w8 σ8 b8 ∧ Blk w8 b 35 (cs.setIfInBounds i v) ∧ (∀ G, v.ownBlock = some G → b + 1 ≤ G) ∧ b + 1 ≤ w8.heap.size ∧ ∃ ys : List E.β, OwnF E.f T E.size w8 (b + 1) v ys ∧ ys.length = acc.length ∧ ys.length ≤ 5001 ∧ All2 (E.rel w8 (Own0 (b + 1) v w8)) acc ys := by
  have hq := H.qb
  have hR := H.row.grown d8.grown (by omega)
  have hB8 := d8.blk H.blk (by omega)
  obtain ⟨ys, ho, ha⟩ := hR.has
  exact ⟨H.did.trans d8, hB8, fun G hG => (hR.own_ge hG).1, hB8.lt, ys, ho, ha.len, by rw [ha.len]; have := H.few; omega, ha⟩
theorem LAt.next (sane : Sane el) (H : LAt E T lng el ρ w bg σ q b i cs d m k v wr σ' acc) (hg : ρ.g < w.heap.size) {n2 : Nat} (hn : n2 = acc.length) (hh : σ'.head s_comma = true) (d8 : Did ρ wr w8 (.good σ'.words.tail) (((bg || decide (64 < acc.length - 1)) || acc.any lng) || decide (64 < n2)))
    {ys : List E.β} (ha : All2 (E.rel w8 (Own0 (b + 1) v w8)) acc ys)
    (hl1 : Later w8 w1) (hp : elDid E lng ρ el (.good σ'.words.tail) (((bg || decide (64 < acc.length - 1)) || acc.any lng) || decide (64 < n2)) y w1 w1') (hl2 : Later w1' w2) (hgw : w2.grownBy W v.ownBlock) (hov : OwnF E.f T E.size W (b + 1) v' (ys ++ [y])) (hv : v'.ownBlock = v.ownBlock ∨ v'.ownBlock = some w2.heap.size) :
    ∃ A n c x, v' = .slice A n c ∧ W.frozen? ⟨b, i, none⟩ = false ∧ b < W.heap.size ∧ (stepS el (.good σ'.words.tail)).left < k ∧ LAt E T lng el ρ w bg σ q b i cs d m (stepS el (.good σ'.words.tail)).left (.slice A n c) (W.setCell ⟨b, i, none⟩ (.slice A n c)) (stepS el (.good σ'.words.tail)) (acc ++ [x]) := by
  have hq := H.qb
  obtain ⟨_, _, dd, _⟩ := id hp
  obtain ⟨l1, l2, l3⟩ := left_tail hh
  have hR := H.row.grown d8.grown (by omega)
  have hat8 := St.at_.keep (own0_grown d8.grown (by omega)) H.at_
  have hB8 := d8.blk H.blk (by omega)
  have hr8 := d8.blk H.res (by omega)
  have hD8 := H.did.trans d8
  have hs0 := hD8.size
  have hs1 := hl1.size
  have hs2 := dd.size
  have hs3 := hl2.size
  have hbl := hB8.lt
  obtain ⟨x, hgr, hdd, hgv⟩ := push_grows (E := E) (T := T) (lng := lng) (B := b + 1) (acc := acc) (by omega) hg hR (by omega) hD8 hl1 hp hl2 hgw ys hov ha hv
  obtain ⟨⟨A, n, c⟩, hsl, hsn, _⟩ := hgr.sl (B' := w.heap.size) (by omega)
  replace hsl : v' = .slice A n c := hsl
  subst hsl
  have hnq : ∀ (q : Nat), q < b + 1 → some q ≠ v.ownBlock := fun q hq e' => by have := (hR.own_ge e'.symm).1; omega
  have HX := (((hB8.later hl1).grown dd.grown (by simp; omega)).later hl2).grown hgw (hnq _ (by omega))
  have HR := (((hr8.later hl1).grown dd.grown (by simp; omega)).later hl2).grown hgw (hnq _ (by omega))
  have hatW := St.at_.keep (own0_far (show b < b + 1 by omega) i (.slice A n c)) (St.at_.keep (own0_app hgw hv) (St.at_.keep (own0_later hl2) (St.at_.keep (own0_grown dd.grown (by omega)) (St.at_.keep (own0_later hl1) hat8))))
  have hl5 := RSt.left_step_le sane (RSt.good σ'.words.tail)
  have HX2 := HX.set_ i (.slice A n c)
  rw [Array.setIfInBounds_setIfInBounds] at HX2
  refine ⟨A, n, c, x, rfl, HX.frozen i, HX.lt, by have := H.le; omega, by simp, by have := H.few; simp; omega, Nat.le_refl _, hgr.far (by omega) i (.slice A n c), ?_, HX2, HR.far (p := ⟨b, i, none⟩) (by simp; omega) _, hatW, ListTo.go sane H.todo hh hgv, hq⟩
  have := hdd.far hg (show w.heap.size ≤ b by omega) i (.slice A n c)
  rw [show ((bg || decide (64 < (acc ++ [x]).length - 1)) || (acc ++ [x]).any lng) = ((((bg || decide (64 < acc.length - 1)) || acc.any lng) || decide (64 < n2)) || lng x) by
    rw [hn, List.length_append, List.length_singleton, Nat.add_sub_cancel, ← big_step bg acc.length, List.any_append]
    generalize decide (64 < acc.length - 1) = x1
    generalize decide (64 < acc.length) = x2
    generalize acc.any lng = x3
    simp only [List.any_cons, List.any_nil, Bool.or_false]
    generalize lng x = x4
    cases bg <;> cases x1 <;> cases x2 <;> cases x3 <;> cases x4 <;> rfl]
  exact this
theorem LAt.done (sane : Sane el) {f : List α → Ps St} {m' : Sl → StM} {d' : St} (H : LAt E T lng el ρ w bg σ q b i cs d m k v wr σ' acc) (hg : ρ.g < w.heap.size) {n2 : Nat} (hn : n2 = acc.length) (hh : σ'.head s_comma = false) (d8 : Did ρ wr w8 σ' (((bg || decide (64 < acc.length - 1)) || acc.any lng) || decide (64 < n2)))
    (td : PTo P σ0 (listP el >>= f) σ) (hm : ∀ sl, (stC (m' sl)).toArray = cs.setIfInBounds i (slC sl))
    (hat : ∀ sl, E.sl w8 (Btw (b + 1) w8) sl acc → St.at_ w8 (Btw (b + 1) w8) d m → St.at_ w8 (Btw (b + 1) w8) d' (m' sl))
    (hlong : ((bg || decide (64 < acc.length)) || acc.any lng) = (big || d'.long)) : ∃ sl, StAt ρ w big P σ0 (f acc) q b w8 σ' (m' sl) d' := by
  have hq := H.qb
  have hdone := ListTo.done sane H.todo hh
  have hD8 := H.did.trans d8
  rw [hn] at hD8
  have hrow := H.row.grown d8.grown (by omega)
  have hat8 := St.at_.keep (own0_out (Nat.le_refl _)) (St.at_.keep (own0_grown d8.grown (by omega)) H.at_)
  obtain ⟨sl8, hsl8, _, hlies⟩ := hrow.sl (B' := b + 1) (Nat.le_refl _)
  refine ⟨sl8, ?_, ?_, d8.blk H.res (by omega), hat sl8 hlies hat8, ?_, hq⟩
  · rw [← hlong, ← big_step bg acc.length]
    rw [show (((bg || decide (64 < acc.length - 1)) || decide (64 < acc.length)) || acc.any lng) = (((bg || decide (64 < acc.length - 1)) || acc.any lng) || decide (64 < acc.length)) by
      generalize decide (64 < acc.length - 1) = x1
      generalize decide (64 < acc.length) = x2
      generalize acc.any lng = x3
      cases bg <;> cases x1 <;> cases x2 <;> cases x3 <;> rfl]
    exact hD8
  · have := d8.blk H.blk (by omega)
    rw [hsl8] at this
    rw [hm]
    exact this
  · have := td.go (f := f) hdone.2
    rw [hdone.1] at this
    exact this
end
end Go.Proofs.YtcneefmaghoejaaGreatDoor
namespace Go.Proofs.YtcneefmaghoejaaGreatDoor
open Go.ChangeShapes Go.WideShapes Go.ChangeAt Go.RowKit
set_option linter.unusedVariables false
set_option linter.unusedSimpArgs false
def SameT (w : World) (y z : Ex) : Prop := ∀ W, Below w.heap.size w W → Calls Tryz.prog 29 #[exV y, exV z] W fun e w' => e = .returned (.bool true) ∧ Below W.heap.size W w'
def AllT (w : World) (a b : Sl) : Prop := ∀ W, Below w.heap.size w W → Calls Tryz.prog 27 #[.slice a.A a.n a.c, .slice b.A b.n b.c] W fun e w' => e = .returned (.bool true) ∧ Below W.heap.size W w'
set_option maxHeartbeats 4000000 in
set_option maxRecDepth 100000 in
theorem rsame_step (w : World) (y z : Ex) (hop : z.op = y.op) (hv : z.v = y.v) (hn : z.name = y.name) (hw : z.width = y.width) (hL : AllT w ⟨y.A, y.n, y.c⟩ ⟨z.A, z.n, z.c⟩) : SameT w y z := by
  intro W hW
  obtain ⟨op2, v2, name2, width2, A, n, c⟩ := y
  obtain ⟨op, v, name, width, A2, n2, c2⟩ := z
  simp only at hop hv hn hw
  subst hop hv hn hw
  have HL := Lib.hid hL
  clear hL
  unfold exV exC
  obtain ⟨vk, vn, vs⟩ := v
  go_enter Tryz.func29, Tryz.ntmps29
  have hX := (Blk.new W 49 #[.int .u8 op, .int .u8 vk, .int .i64 vn, .string vs, .string name, .int .i64 width, .slice A n c]).alloc (.cells #[.int .u8 op, .int .u8 vk, .int .i64 vn, .string vs, .string name, .int .i64 width, .slice A2 n2 c2] 49)
  have hZ := Blk.new (W.alloc (.cells #[.int .u8 op, .int .u8 vk, .int .i64 vn, .string vs, .string name, .int .i64 width, .slice A n c] 49)) 49 #[.int .u8 op, .int .u8 vk, .int .i64 vn, .string vs, .string name, .int .i64 width, .slice A2 n2 c2]
  rw [World.size_alloc] at hZ
  have hB := Later.then (later_new W (.cells #[.int .u8 op, .int .u8 vk, .int .i64 vn, .string vs, .string name, .int .i64 width, .slice A n c] 49)) (later_new _ (.cells #[.int .u8 op, .int .u8 vk, .int .i64 vn, .string vs, .string name, .int .i64 width, .slice A2 n2 c2] 49))
  have x0 := hX.cell 0
  have x1 := hX.cell 1
  have x2 := hX.cell 2
  have x3 := hX.cell 3
  have x4 := hX.cell 4
  have x5 := hX.cell 5
  have x6 := hX.cell 6
  simp only [List.getElem?_toArray, List.getElem?_cons_zero, List.getElem?_cons_succ] at x0 x1 x2 x3 x4 x5 x6
  have z0 := hZ.cell 0
  have z1 := hZ.cell 1
  have z2 := hZ.cell 2
  have z3 := hZ.cell 3
  have z4 := hZ.cell 4
  have z5 := hZ.cell 5
  have z6 := hZ.cell 6
  simp only [List.getElem?_toArray, List.getElem?_cons_zero, List.getElem?_cons_succ] at z0 z1 z2 z3 z4 z5 z6
  have e1 : (op == op) = true := by simp
  have e2 : (vk == vk) = true := by simp
  have e3 : (vn == vn) = true := by simp
  have e4 : (vs.toList == vs.toList) = true := by simp
  have e5 : (name.toList == name.toList) = true := by simp
  have e6 : (width == width) = true := by simp
  go_wp2_with fail
  refine (HL.out _ (hW.trans (hB.mono hW.size))).mono ?_
  rintro e w1 ⟨rfl, b1⟩
  replace hB := Later.then hB b1
  clear b1 x0 x1 x2 x3 x4 x5 x6 z0 z1 z2 z3 z4 z5 z6
  go_wp2_with fail
  go_ret
  exact ⟨rfl, hB⟩
set_option maxHeartbeats 4000000 in
set_option maxRecDepth 100000 in
theorem rall_step (w : World) (A A2 : Option Addr) (c c2 : Nat) (ys zs : List Ex) (S S2 : Nat → Prop) (hS : ∀ b, S b → b < w.heap.size) (hS2 : ∀ b, S2 b → b < w.heap.size) (hlen : zs.length = ys.length) (hA : RL exC 7 w S A ys) (hA2 : RL exC 7 w S2 A2 zs) (h : ∀ (i : Nat) y z, ys[i]? = some y → zs[i]? = some z → SameT w y z) (hl : ys.length ≤ 1000000000) : AllT w ⟨A, ys.length, c⟩ ⟨A2, zs.length, c2⟩ := by
  intro W hW
  have HD := Lib.hid h
  have HA := Lib.hid hA
  have HA2 := Lib.hid hA2
  clear h hA hA2
  obtain ⟨n, hn⟩ : ∃ n, n = ys.length := ⟨_, rfl⟩
  rw [← hn] at hlen hl ⊢
  rw [hlen]
  have HN := Lib.hid hn
  have HN2 := Lib.hid hlen
  clear hn hlen
  show Calls Tryz.prog 27 #[.slice A n c, .slice A2 n c2] W _
  have t0 : (n != n) = false := by simp
  have t1 : ((n : Int) != (n : Int)) = false := by simp
  go_enter Tryz.func27, Tryz.ntmps27
  go_wp2_with fail
  clear t0 t1
  have HW := Lib.hid hW
  go_loopw [5] (fun iv wr => ∃ i : Nat, i ≤ n ∧ iv = .int .i64 i ∧ Below W.heap.size W wr) (fun iv _ => n - (intOf iv).toNat)
  case atStart => exact ⟨0, Nat.zero_le _, rfl, Below.refl _ _⟩
  case round =>
    obtain ⟨i, hi, rfl, hbw⟩ := hrel
    by_cases hlt : i < n
    · obtain ⟨x, hx⟩ : ∃ x, ys[i]? = some x := ⟨_, List.getElem?_eq_getElem (by have := HN.out; omega)⟩
      obtain ⟨u, hu⟩ : ∃ u, zs[i]? = some u := ⟨_, List.getElem?_eq_getElem (by have := HN2.out; omega)⟩
      have hD := HD.out i x u hx hu
      have hwr : Below w.heap.size w wr := hW.trans (hbw.mono hW.size)
      rcases HA.out with h0 | ⟨b, off, hAe, hSb, hc⟩
      · subst h0; simp at hx
      rcases HA2.out with h0 | ⟨b2, off2, hAe2, hSb2, hc2⟩
      · subst h0; simp at hu
      have hbb : b < wr.heap.size := Nat.lt_of_lt_of_le (hS b hSb) hwr.size
      have hbb2 : b2 < wr.heap.size := Nat.lt_of_lt_of_le (hS2 b2 hSb2) hwr.size
      have hcell := fun j v hv => (hwr.cell (p := ⟨b, off + i * 7 + j, none⟩) (hS b hSb)).trans (hc i x j v hx hv)
      have hcell2 := fun j v hv => (hwr.cell (p := ⟨b2, off2 + i * 7 + j, none⟩) (hS2 b2 hSb2)).trans (hc2 i u j v hu hv)
      have k0 := fun q : Ext wr.heap.size wr => (q.h.cell (p := ⟨b, off + i * 7, none⟩) hbb).trans (hcell 0 (.int .u8 x.op) rfl)
      have k1 := fun q : Ext wr.heap.size wr => (q.h.cell (p := ⟨b, off + i * 7 + 1, none⟩) hbb).trans (hcell 1 (.int .u8 x.v.k) rfl)
      have k2 := fun q : Ext wr.heap.size wr => (q.h.cell (p := ⟨b, off + i * 7 + 2, none⟩) hbb).trans (hcell 2 (.int .i64 x.v.n) rfl)
      have k3 := fun q : Ext wr.heap.size wr => (q.h.cell (p := ⟨b, off + i * 7 + 3, none⟩) hbb).trans (hcell 3 (.string x.v.s) rfl)
      have k4 := fun q : Ext wr.heap.size wr => (q.h.cell (p := ⟨b, off + i * 7 + 4, none⟩) hbb).trans (hcell 4 (.string x.name) rfl)
      have k5 := fun q : Ext wr.heap.size wr => (q.h.cell (p := ⟨b, off + i * 7 + 5, none⟩) hbb).trans (hcell 5 (.int .i64 x.width) rfl)
      have k6 := fun q : Ext wr.heap.size wr => (q.h.cell (p := ⟨b, off + i * 7 + 6, none⟩) hbb).trans (hcell 6 (.slice x.A x.n x.c) rfl)
      have m0 := fun q : Ext wr.heap.size wr => (q.h.cell (p := ⟨b2, off2 + i * 7, none⟩) hbb2).trans (hcell2 0 (.int .u8 u.op) rfl)
      have m1 := fun q : Ext wr.heap.size wr => (q.h.cell (p := ⟨b2, off2 + i * 7 + 1, none⟩) hbb2).trans (hcell2 1 (.int .u8 u.v.k) rfl)
      have m2 := fun q : Ext wr.heap.size wr => (q.h.cell (p := ⟨b2, off2 + i * 7 + 2, none⟩) hbb2).trans (hcell2 2 (.int .i64 u.v.n) rfl)
      have m3 := fun q : Ext wr.heap.size wr => (q.h.cell (p := ⟨b2, off2 + i * 7 + 3, none⟩) hbb2).trans (hcell2 3 (.string u.v.s) rfl)
      have m4 := fun q : Ext wr.heap.size wr => (q.h.cell (p := ⟨b2, off2 + i * 7 + 4, none⟩) hbb2).trans (hcell2 4 (.string u.name) rfl)
      have m5 := fun q : Ext wr.heap.size wr => (q.h.cell (p := ⟨b2, off2 + i * 7 + 5, none⟩) hbb2).trans (hcell2 5 (.int .i64 u.width) rfl)
      have m6 := fun q : Ext wr.heap.size wr => (q.h.cell (p := ⟨b2, off2 + i * 7 + 6, none⟩) hbb2).trans (hcell2 6 (.slice u.A u.n u.c) rfl)
      have hev := fun q : Ext wr.heap.size wr => hD q.w (hwr.trans (q.h.mono hwr.size))
      unfold exV exC at hev
      clear hcell hcell2 hc hc2 hx hu hwr hD
      subst hAe hAe2
      go_upto_region 10 with fail
      refine region_cut 10 wr.heap.size wr (Below.refl _ _) (by kernel_rfl) (by kernel_rfl) (by kernel_rfl) (by kernel_rfl) ?_
      simp only [List.take_succ_cons, List.take_zero, List.drop_succ_cons, List.drop_zero]
      repeat (go_big_quiet_step (fail))
      go_big_quiet_step ((go_at_call 29; exact calls_later (Nat.le_refl _) (hev _)))
      repeat (go_big_quiet_step (fail))
      refine wpQuiet_nil ?_
      rintro V4 ⟨x9, hx9⟩
      have hW9 := x9.h
      rw [← hx9] at hW9
      have hb1 := Later.then hbw hW9
      clear hx9 x9 k0 k1 k2 k3 k4 k5 k6 m0 m1 m2 m3 m4 m5 m6 hev hW9
      go_wp2_with fail
      go_roundw
      case rel => exact ⟨i + 1, by omega, by go_num, hb1⟩
      case measure => simp [intOf]; omega
    · obtain rfl : i = n := by omega
      go_wp2_with fail
      go_ret
      exact ⟨rfl, hbw⟩
mutual
theorem Tr.same_is {w : World} {S S2 : Nat → Prop} (hS : ∀ b, S b → b < w.heap.size) (hS2 : ∀ b, S2 b → b < w.heap.size) : ∀ (t : Tr) (y z : Ex), t.at_ w S y → t.at_ w S2 z → t.thin → SameT w y z
  | .mk op v name width args, y, z, h, h2, ht => by
    unfold Tr.at_ at h h2
    obtain ⟨a1, a2, a3, a4, hn, ys, hr, ha⟩ := h
    obtain ⟨c1, c2, c3, c4, hn2, zs, hr2, ha2⟩ := h2
    unfold Tr.thin at ht
    have hl := Tr.all_.length ha
    have hl2 := Tr.all_.length ha2
    refine rsame_step w y z (by rw [c1, a1]) (by rw [c2, a2]) (by rw [c3, a3]) (by rw [c4, a4]) ?_
    have := rall_step w y.A z.A y.c z.c ys zs S S2 hS hS2 (by omega) hr hr2 (Tr.sames_is hS hS2 args ys zs ha ha2 ht.2) (by rw [hl]; exact ht.1)
    rw [hn, hn2, ← hl]
    rw [hl2, ← hl] at this
    exact this
theorem Tr.sames_is {w : World} {S S2 : Nat → Prop} (hS : ∀ b, S b → b < w.heap.size) (hS2 : ∀ b, S2 b → b < w.heap.size) : ∀ (ts : List Tr) (ys zs : List Ex), Tr.all_ w S ts ys → Tr.all_ w S2 ts zs → Tr.thins ts → ∀ (i : Nat) y z, ys[i]? = some y → zs[i]? = some z → SameT w y z
  | [], ys, zs, h, h2, _, i, y, z, hy, hz => by unfold Tr.all_ at h; subst h; simp at hy
  | t :: ts, ys, zs, h, h2, ht, i, y, z, hy, hz => by
    unfold Tr.all_ at h h2
    obtain ⟨y0, ys', rfl, h1, h3⟩ := h
    obtain ⟨z0, zs', rfl, k1, k3⟩ := h2
    unfold Tr.thins at ht
    match i, hy, hz with
    | 0, hy, hz =>
      simp at hy hz
      subst hy hz
      exact Tr.same_is hS hS2 t _ _ h1 k1 ht.1
    | i + 1, hy, hz => exact Tr.sames_is hS hS2 ts ys' zs' h3 k3 ht.2 i y z (by simpa using hy) (by simpa using hz)
end
theorem all_is {w : World} {S S2 : Nat → Prop} (hS : ∀ b, S b → b < w.heap.size) (hS2 : ∀ b, S2 b → b < w.heap.size) {ts : List Tr} {a b : Sl} (h : elTr.sl w S a ts) (h2 : elTr.sl w S2 b ts) (ht : Tr.thins ts) (hl : ts.length ≤ 1000000000) : AllT w a b := by
  obtain ⟨hn, ys, hr, ha⟩ := h
  obtain ⟨hn2, zs, hr2, ha2⟩ := h2
  have ha := all2_tr.1 ha
  have ha2 := all2_tr.1 ha2
  have l1 := Tr.all_.length ha
  have l2 := Tr.all_.length ha2
  obtain ⟨aA, an, ac⟩ := a
  obtain ⟨bA, bn, bc⟩ := b
  have := rall_step w aA bA ac bc ys zs S S2 hS hS2 (by omega) hr hr2 (Tr.sames_is hS hS2 ts ys zs ha ha2 ht) (by omega)
  simp only at hn hn2
  rw [hn, hn2, ← l1]
  rw [l2, ← l1] at this
  exact this
end Go.Proofs.YtcneefmaghoejaaGreatDoor
