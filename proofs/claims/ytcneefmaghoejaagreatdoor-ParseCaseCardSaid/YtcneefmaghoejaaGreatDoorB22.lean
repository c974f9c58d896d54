/- Parts of the proof: Rd7, PushE, TrS, Rd11, Push2, Rd13, Rd14. Put together by slim.py. -/
import Derived.Deep.LoopGhost
import Derived.Test.YtcneefmaghoejaaGreatDoorB6
import Derived.Test.YtcneefmaghoejaaGreatDoorB14
import Derived.Test.YtcneefmaghoejaaGreatDoorB16
import Derived.Test.YtcneefmaghoejaaGreatDoorB21
namespace Go.Proofs.YtcneefmaghoejaaGreatDoor
open Go.ChangeShapes Go.WideShapes Go.ChangeAt Go.RowKit
set_option linter.unusedVariables false
set_option linter.unusedSimpArgs false
structure AtCmp (ρ : Rdr) (w : World) (big : Bool) (σ : RSt) (q qx : Nat) (wr : World) (σ' : RSt) (t : Tr) (y : Ex) : Prop where
  did : Did ρ w wr σ' big
  blk : Blk wr qx 49 (exC y).toArray
  res : Blk wr q 49 #[.int .u8 0, .int .u8 0, .int .i64 0, .string ⟨#[]⟩, .string ⟨#[]⟩, .int .i64 0, .slice none 0 0]
  tr : t.at_ wr (Bx (q + 1) qx wr) y
  todo : CmpTo σ t σ'
  le : σ'.left ≤ σ.left
theorem AtCmp.more {ρ : Rdr} {w wr W2 : World} {big : Bool} {σ σ' : RSt} {q qx : Nat} {t' : Tr} {y' : Ex} (A : AtCmp ρ w big σ q qx wr σ' t' y') (d : Did ρ wr W2 σ' big) (hgg : ρ.g < q) (hqq : q ≤ qx) : AtCmp ρ w big σ q qx W2 σ' t' y' :=
  ⟨A.did.trans d, d.blk A.blk (by omega), d.blk A.res (by omega), Tr.at_.keep (bx_grown d.grown (by omega)) _ _ A.tr, A.todo, A.le⟩
structure CmpDid (ρ : Rdr) (w : World) (big : Bool) (σ : RSt) (q qx : Nat) (W : World) (t : Tr) (y : Ex) : Prop where
  did : Did ρ w W (stepS (exprL 3) σ) big
  blk : Blk W qx 49 (exC y).toArray
  res : Blk W q 49 #[.int .u8 0, .int .u8 0, .int .i64 0, .string ⟨#[]⟩, .string ⟨#[]⟩, .int .i64 0, .slice none 0 0]
  tr : t.at_ W (Btw (q + 1) W) y
  gives : Gives (exprL 3) σ t
theorem AtCmp.round {ρ : Rdr} {w wr W2 Ws w3 : World} {big : Bool} {σ σ' : RSt} {q qx : Nat} {t' t2 : Tr} {y' v2 : Ex} {l : Wds} {bi : Int} (hgg : ρ.g < w.heap.size) (hqw : q = w.heap.size) (hqq : q + 1 ≤ qx) (A : AtCmp ρ w big σ q qx wr σ' t' y') (hW : Below wr.heap.size wr W2) (hst : Did ρ W2 Ws (.good l) big) (d2 : Did ρ Ws w3 (stepS (exprL 4) (.good l)) big)
    (ht2 : t2.at_ w3 (Btw Ws.heap.size w3) v2) (his : σ'.head w_is = false) (hop : σ'.op 3 = some bi) (hl : σ'.words.tail = l) (hgv : Gives (exprL 4) (.good l) t2) :
    CmpDid ρ w big σ q qx (putEx ((w3.alloc (exO v2)).alloc (exO2 y' v2)) qx (opY bi (w3.heap.size + 1) 2)) (opT bi [t', t2]) (opY bi (w3.heap.size + 1) 2) := by
  have hz1 := d2.size
  have hz2 := hst.size
  have hz3 := hW.size
  have hqb := A.blk.lt
  have b12 : Below w3.heap.size w3 ((w3.alloc (exO v2)).alloc (exO2 y' v2)) := Later.then (later_new w3 _) (later_new _ _)
  have hsz : ((w3.alloc (exO v2)).alloc (exO2 y' v2)).heap.size = w3.heap.size + 2 := by simp
  have hN : Blk ((w3.alloc (exO v2)).alloc (exO2 y' v2)) (w3.heap.size + 1) 49 (exC y' ++ exC v2).toArray := by
    have := Blk.new (w3.alloc (exO v2)) 49 (exC y' ++ exC v2).toArray
    rw [World.size_alloc] at this
    exact this
  have hX : Blk ((w3.alloc (exO v2)).alloc (exO2 y' v2)) qx 49 (exC y').toArray := (((A.blk.later hW).grown hst.grown (by simp; omega)).grown d2.grown (by simp; omega)).later b12
  have hR : Blk ((w3.alloc (exO v2)).alloc (exO2 y' v2)) q 49 _ := (((A.res.later hW).grown hst.grown (by simp; omega)).grown d2.grown (by simp; omega)).later b12
  have hD : Did ρ w ((w3.alloc (exO v2)).alloc (exO2 y' v2)) (stepS (exprL 4) (.good l)) big := (((A.did.later hW).trans hst).trans d2).later b12
  have hT : (opT bi [t', t2]).at_ ((w3.alloc (exO v2)).alloc (exO2 y' v2)) (Bx (q + 1) qx ((w3.alloc (exO v2)).alloc (exO2 y' v2))) (opY bi (w3.heap.size + 1) 2) := by
    refine op2_at bi hN ⟨by omega, by omega, by omega⟩ ?_ ?_
    · exact Tr.at_.keep (bx_later b12) _ _ (Tr.at_.keep (bx_grown d2.grown (by omega)) _ _ (Tr.at_.keep (bx_grown hst.grown (by omega)) _ _ (Tr.at_.keep (bx_later hW) _ _ A.tr)))
    · exact Tr.at_.keep (bx_in (by omega) (by omega)) _ _ (ht2.later b12)
  obtain ⟨e1, e2⟩ := CmpTo.some_ A.todo his hop (y := t2) (by rw [hl]; exact hgv)
  rw [hl] at e1
  rw [← e1] at hD
  generalize (w3.alloc (exO v2)).alloc (exO2 y' v2) = W5 at *
  refine ⟨hD.putEx hgg (by omega) _, putEx_blk hX _, putEx_far hR (by omega) _, ?_, e2⟩
  exact Tr.at_.keep (bx_out (Nat.le_refl _)) _ _ (Tr.at_.keep (keep7 (S := fun w => Bx (q + 1) qx w) (fun w i u => bx_set i u) _) _ _ hT)
end Go.Proofs.YtcneefmaghoejaaGreatDoor
namespace Go.Proofs.YtcneefmaghoejaaGreatDoor
open Go.ChangeShapes Go.WideShapes Go.ChangeAt Go.RowKit
set_option linter.unusedVariables false
set_option linter.unusedSimpArgs false
theorem ex_info : (Tryz.prog.info? 49).map (fun i => (i.zero, i.size, i.bytes)) = some (some (.agg #[.int .u8 0, .int .u8 0, .int .i64 0, .string ⟨#[]⟩, .string ⟨#[]⟩, .int .i64 0, .slice none 0 0]), 7, 88) := by kernel_rfl
theorem Did.own {ρ : Rdr} {W0 w w' : World} {σ : RSt} {big : Bool} {row : Option Nat} (h : Did ρ W0 w σ big) (hg : ρ.g < W0.heap.size) (k : w.grownBy w' row) (hr : ∀ G, row = some G → W0.heap.size ≤ G) : Did ρ W0 w' σ big := by
  have hl := h.at_.lt
  have hs := h.size
  have ng : some ρ.g ≠ row := fun e => by have := hr _ e.symm; omega
  have nl : some ρ.gl ≠ row := fun e => by have := hr _ e.symm; omega
  refine ⟨⟨h.at_.blk.grown k ng, hl, fun j t ht => ?_, h.at_.of, h.at_.small, h.at_.nums⟩, k.os.trans h.grown.os, k.tape.trans h.grown.tape, k.output.trans h.grown.output, Nat.le_trans hs k.size, fun i hi hne => ?_⟩
  · have hc := cell_of_heap (k.block ρ.gl (by omega) nl)
    obtain ⟨h1, h2, h3, h4⟩ := h.at_.cell j t ht
    exact ⟨(hc _).trans h1, (hc _).trans h2, (hc _).trans h3, (hc _).trans h4⟩
  · rw [k.block i (by omega) (fun e => by have := hr _ e.symm; omega)]
    exact h.grown.block i hi hne
theorem btw_own {B : Nat} {w w' : World} {row : Option Nat} (k : w.grownBy w' row) (G : Nat) (hr : ∀ g, row = some g → g = G) : ∀ b, Bx B G w b → (∀ o, w'.cell? ⟨b, o, none⟩ = w.cell? ⟨b, o, none⟩) ∧ Bx B G w' b := fun b hb =>
  ⟨cell_of_heap (k.block b hb.2.1 (fun e => hb.2.2 (hr _ e.symm))), hb.1, Nat.lt_of_lt_of_le hb.2.1 k.size, hb.2.2⟩
theorem own_rl {α : Type} {f : α → List Value} {e : TypeId} {size : Nat} (hf : ∀ x, (f x).length = size) {w : World} {base : Nat} {v : Value} {l : List α} (h : OwnF f e size w base v l) {S : Nat → Prop} (hS : ∀ g, base ≤ g → g < w.heap.size → S g) :
    ∃ A c, v = .slice A l.length c ∧ RL f size w S A l := by
  obtain ⟨A, c, hv, _⟩ := h.reads
  refine ⟨A, c, hv, ?_⟩
  match l, h, hv with
  | [], _, _ => exact .inl rfl
  | x :: l, h, hv =>
    obtain ⟨g, c', hv', hb, hlt, _⟩ := h.cell hf (k := 0) (x := x) rfl
    rw [hv] at hv'
    injection hv' with hA _ _
    refine .inr ⟨g, 0, hA, hS g hb hlt, fun i y j u hy hu => ?_⟩
    obtain ⟨g2, c2, hv2, _, _, hc⟩ := h.cell hf hy
    rw [hv] at hv2
    injection hv2 with hA2 _ _
    rw [hA] at hA2
    injection hA2 with hA2
    injection hA2 with hA2 _ _
    subst hA2
    rw [Nat.zero_add]
    exact hc j u hu
end Go.Proofs.YtcneefmaghoejaaGreatDoor
namespace Go.Proofs.YtcneefmaghoejaaGreatDoor
open Go.ChangeShapes Go.WideShapes Go.ChangeAt Go.RowKit
set_option linter.unusedVariables false
set_option linter.unusedSimpArgs false
def slC (y : Sl) : Value := .slice y.A y.n y.c
def Sl.nil : Sl := ⟨none, 0, 0⟩
def El.sl {α : Type} (E : El α) (w : World) (S : Nat → Prop) (y : Sl) (l : List α) : Prop := E.lies w S y.A y.n l
theorem El.sl_nil {α : Type} (E : El α) (w : World) (S : Nat → Prop) : E.sl w S Sl.nil [] := E.lies_nil w S
theorem El.sl.keep {α : Type} {E : El α} {w w' : World} {S S' : Nat → Prop} {y : Sl} {l : List α} (h : E.sl w S y l) (hk : ∀ b, S b → (∀ o, w'.cell? ⟨b, o, none⟩ = w.cell? ⟨b, o, none⟩) ∧ S' b) : E.sl w' S' y l := El.lies.keep h hk
structure QuM where
  items : Sl := .nil
  frm : ByteArray := ByteArray.empty
  only : Bool := false
  whr : Sl := .nil
  group : Sl := .nil
  having : Sl := .nil
  order : Sl := .nil
  limit : Sl := .nil
def quC (y : QuM) : List Value := [slC y.items, .string y.frm, .bool y.only, slC y.whr, slC y.group, slC y.having, slC y.order, slC y.limit]
def quV (y : QuM) : Value := .agg (quC y).toArray
structure Qu.at_ (w : World) (S : Nat → Prop) (q : Qu) (y : QuM) : Prop where
  items : elItem.sl w S y.items q.items
  frm : y.frm = q.frm
  only : y.only = q.only
  whr : elTr.sl w S y.whr q.whr
  group : elTr.sl w S y.group q.group
  having : elTr.sl w S y.having q.having
  order : elOrder.sl w S y.order q.order
  limit : elNum.sl w S y.limit q.limit
theorem Qu.at_.keep {w w' : World} {S S' : Nat → Prop} {q : Qu} {y : QuM} (hk : ∀ b, S b → (∀ o, w'.cell? ⟨b, o, none⟩ = w.cell? ⟨b, o, none⟩) ∧ S' b) (h : q.at_ w S y) : q.at_ w' S' y :=
  ⟨h.items.keep hk, h.frm, h.only, h.whr.keep hk, h.group.keep hk, h.having.keep hk, h.order.keep hk, h.limit.keep hk⟩
theorem Qu.at_nil (w : World) (S : Nat → Prop) : Qu.at_ w S {} {} := ⟨elItem.sl_nil _ _, rfl, rfl, elTr.sl_nil _ _, elTr.sl_nil _ _, elTr.sl_nil _ _, elOrder.sl_nil _ _, elNum.sl_nil _ _⟩
structure StM where
  kind : Int := 0
  name : ByteArray := ByteArray.empty
  cols : Sl := .nil
  time : ByteArray := ByteArray.empty
  every : Int := 0
  space : ByteArray := ByteArray.empty
  parts : Int := 0
  query : QuM := {}
  what : Int := 0
  of_ : ByteArray := ByteArray.empty
  a : Int := 0
  b : Int := 0
  rows : Sl := .nil
  sets : Sl := .nil
  whr : Sl := .nil
  frm : Val := nilVal
  to_ : Val := nilVal
def valC (v : Val) : List Value := [.int .u8 v.k, .int .i64 v.n, .string v.s]
def stC (y : StM) : List Value := [.int .u8 y.kind, .string y.name, slC y.cols, .string y.time, .int .i64 y.every, .string y.space, .int .i64 y.parts] ++ quC y.query ++ [.int .u8 y.what, .string y.of_, .int .i64 y.a, .int .i64 y.b, slC y.rows, slC y.sets, slC y.whr] ++ valC y.frm ++ valC y.to_
def stV (y : StM) : Value := .agg (stC y).toArray
structure St.at_ (w : World) (S : Nat → Prop) (s : St) (y : StM) : Prop where
  kind : y.kind = s.kind
  name : y.name = s.name
  cols : elCol.sl w S y.cols s.cols
  time : y.time = s.time
  every : y.every = s.every
  space : y.space = s.space
  parts : y.parts = s.parts
  query : s.query.at_ w S y.query
  what : y.what = s.what
  of_ : y.of_ = s.of_
  a : y.a = s.a
  b : y.b = s.b
  rows : elRow.sl w S y.rows s.rows
  sets : elSet.sl w S y.sets s.sets
  whr : elTr.sl w S y.whr s.whr
  frm : y.frm = s.frm
  to_ : y.to_ = s.to_
theorem St.at_.keep {w w' : World} {S S' : Nat → Prop} {s : St} {y : StM} (hk : ∀ b, S b → (∀ o, w'.cell? ⟨b, o, none⟩ = w.cell? ⟨b, o, none⟩) ∧ S' b) (h : s.at_ w S y) : s.at_ w' S' y :=
  ⟨h.kind, h.name, h.cols.keep hk, h.time, h.every, h.space, h.parts, h.query.keep hk, h.what, h.of_, h.a, h.b, h.rows.keep hk, h.sets.keep hk, h.whr.keep hk, h.frm, h.to_⟩
theorem St.at_nil (w : World) (S : Nat → Prop) : St.at_ w S {} {} :=
  ⟨rfl, rfl, elCol.sl_nil _ _, rfl, rfl, rfl, rfl, Qu.at_nil _ _, rfl, rfl, rfl, rfl, elRow.sl_nil _ _, elSet.sl_nil _ _, elTr.sl_nil _ _, rfl, rfl⟩
end Go.Proofs.YtcneefmaghoejaaGreatDoor
namespace Go.Proofs.YtcneefmaghoejaaGreatDoor
open Go.ChangeShapes Go.WideShapes Go.ChangeAt Go.RowKit
set_option linter.unusedVariables false
set_option linter.unusedSimpArgs false
theorem sl_one {w : World} {S : Nat → Prop} {G : Nat} {x : Tr} {y : Ex} (h : Blk w G 49 (exC y).toArray) (hS : S G) (hx : x.at_ w S y) : elTr.sl w S ⟨some ⟨G, 0, none⟩, 1, 1⟩ [x] :=
  ⟨rfl, [y], rl_blk (f := exC) ex_len (by show Blk w G _ (exC y ++ []).toArray; rw [List.append_nil]; exact h) hS, .one hx⟩
def itC (y : Ex × ByteArray) : List Value := exC y.1 ++ [.string y.2]
theorem eight_cells {w : World} {q : Nat} {T : TypeId} {a b c d e f g i : Value} (h : Blk w q T #[a, b, c, d, e, f, g, i]) :
    w.cell? ⟨q, 0, none⟩ = some a ∧ w.cell? ⟨q, 1, none⟩ = some b ∧ w.cell? ⟨q, 2, none⟩ = some c ∧ w.cell? ⟨q, 3, none⟩ = some d ∧ w.cell? ⟨q, 4, none⟩ = some e ∧ w.cell? ⟨q, 5, none⟩ = some f ∧ w.cell? ⟨q, 6, none⟩ = some g ∧ w.cell? ⟨q, 7, none⟩ = some i :=
  ⟨h.cell 0, h.cell 1, h.cell 2, h.cell 3, h.cell 4, h.cell 5, h.cell 6, h.cell 7⟩
theorem eight_frozen {w : World} {q : Nat} {T : TypeId} {cs : Array Value} (h : Blk w q T cs) :
    w.frozen? ⟨q, 0, none⟩ = false ∧ w.frozen? ⟨q, 1, none⟩ = false ∧ w.frozen? ⟨q, 2, none⟩ = false ∧ w.frozen? ⟨q, 3, none⟩ = false ∧ w.frozen? ⟨q, 4, none⟩ = false ∧ w.frozen? ⟨q, 5, none⟩ = false ∧ w.frozen? ⟨q, 6, none⟩ = false ∧ w.frozen? ⟨q, 7, none⟩ = false :=
  ⟨h.frozen 0, h.frozen 1, h.frozen 2, h.frozen 3, h.frozen 4, h.frozen 5, h.frozen 6, h.frozen 7⟩
end Go.Proofs.YtcneefmaghoejaaGreatDoor
namespace Go.Proofs.YtcneefmaghoejaaGreatDoor
open Go.RowKit
set_option linter.unusedVariables false
theorem run_append_one2 {α : Type} {f : α → List Value} {e : TypeId} {size : Nat} {base : Nat} {lv : Value} {l : List α} {y : α} {P : Program} {w : World} (t ty : TypeId) (z : Value) (bytes : Nat) (ht : P.underlying t = some (.slice e)) (hinfo : (P.info? e).map (fun i => (i.zero, i.size, i.bytes)) = some (some z, size, bytes)) (hzs : z.cells.size = size) (hsz : 0 < size)
    (hf : ∀ x, (f x).length = size) (h1 : ∀ u ∈ f y, u.oneCell' = true) (hown : OwnF f e size w base lv l)
    (g0 : Nat) (hg0 : Blk w g0 e (f y).toArray) (hlen : (l.length + 1) * bytes ≤ 140737488355328) (hlen2 : l.length + 1 ≤ 140737488355328) (hbase : base ≤ w.heap.size) :
    ∃ v' w', (Builtin.append_ #[t, t] ty #[lv, .slice (some ⟨g0, 0, none⟩) 1 1]).run P w = .ok v' w' ∧ OwnF f e size w' base v' (l ++ [y]) ∧ AR f e size base lv l y w w' ∧ (v'.ownBlock = lv.ownBlock ∨ v'.ownBlock = some w.heap.size) := by
  obtain ⟨v', w', hr, ho, ha⟩ := run_append_one t ty z bytes ht hinfo hzs hsz hf h1 hown g0 hg0 hlen hlen2 hbase
  obtain ⟨i0, hi0, hz0, hz1, hz2⟩ := info_parts hinfo
  obtain ⟨v2, w2, hr2, _, _, h4⟩ := run_append_any (P := P) w base t ty e i0 z size bytes ht hi0 hz0 hz1 hz2 hzs hsz lv l.length (l.flatMap f) hown (g0 + 1) (some ⟨g0, 0, none⟩) 1 1 (f y) ⟨by rw [hf]; omega, fun _ => ⟨_, rfl, Nat.lt_succ_self _, by
    intro j u hu
    have : (Addr.add ⟨g0, 0, none⟩ j) = ⟨g0, j, none⟩ := by unfold Addr.add; split <;> simp_all
    rw [this, hg0.cell]
    simpa using hu⟩⟩ h1 (by unfold maxLen; omega) hlen hbase
  rw [hr] at hr2
  injection hr2 with e1 e2
  subst e1 e2
  exact ⟨v', w', hr, ho, ha, h4⟩
theorem wpList_append_one2 {α : Type} {f : α → List Value} {e : TypeId} {size : Nat} {base : Nat} {v : Value} {l : List α} {w : World} {P : Program} {ops : Array Oper} {rest : List Oper} {o : Oper} {a : Act} {Q : Exit → Act → World → Prop} (hgd : o.guard = none) (s x : Operand) (t : TypeId)
    (ho : o.op = .call { callee := .builtin .append, args := #[s, x], argTypes := #[t, t] })
    (z : Value) (bytes : Nat) (ht : P.underlying t = some (.slice e)) (hinfo : (P.info? e).map (fun i => (i.zero, i.size, i.bytes)) = some (some z, size, bytes)) (hzs : z.cells.size = size) (hsz : 0 < size)
    (y : α) (hf : (f y).length = size) (h1 : ∀ u ∈ f y, u.oneCell' = true)
    (hs : a.eval s = v) (hown : OwnF f e size w base v l)
    (g : Nat) (hx : a.eval x = .slice (some ⟨g, 0, none⟩) 1 1) (hg : Blk w g e (f y).toArray)
    (hlen : (l.length + 1) * bytes ≤ 140737488355328) (hlen2 : l.length + 1 ≤ 140737488355328) (hbase : base ≤ w.heap.size)
    (h : ∀ v' w', OwnF f e size w' base v' (l ++ [y]) → w.grownBy w' v.ownBlock → (v'.ownBlock = v.ownBlock ∨ v'.ownBlock = some w.heap.size) → wpList P ops Q rest (a.put o.dst v') w') : wpList P ops Q (o :: rest) a w := by
  obtain ⟨i0, hi0, hz0, hz1, hz2⟩ := info_parts hinfo
  refine wpList_append_any w hgd s x t ho base e i0 z size bytes ht hi0 hz0 hz1 hz2 hzs hsz v l.length (l.flatMap f) hs hown (g + 1) (some ⟨g, 0, none⟩) 1 1 (f y) hx ⟨by omega, fun _ => ⟨_, rfl, Nat.lt_succ_self _, ?_⟩⟩ h1 (by unfold maxLen; omega) hlen hbase ?_
  · intro j u hu
    have : (Addr.add ⟨g, 0, none⟩ j) = ⟨g, j, none⟩ := by unfold Addr.add; split <;> simp_all
    rw [this, hg.cell]
    simpa using hu
  · intro v' w' h2 h3 h4
    refine h v' w' ?_ h3 h4
    unfold OwnF
    rw [List.length_append, List.flatMap_append]
    simpa using h2
section
variable {P : Program} {β : Type} (f : β → List Value) (val : β → Value) (e : TypeId) (size base : Nat) (l : List β) (lv : Value) (Post : β → World → World → Prop) (w0 : World)
variable {f val e size base l lv Post w0}
variable {Q : Exit → Act → World → Prop} {a0 : Act} {id : Nat} {o0 o1 o2 o3 o4 o5 o6 o7 : Oper} {q d0 d1 d2 d3 d4 d5 d6 : Tmp} {qb k g : Nat} {pq ptr : Value} {F : FuncId} {args : Array Value}
end
end Go.Proofs.YtcneefmaghoejaaGreatDoor
namespace Go.Proofs.YtcneefmaghoejaaGreatDoor
open Go.ChangeShapes Go.WideShapes Go.ChangeAt Go.RowKit
set_option linter.unusedVariables false
set_option linter.unusedSimpArgs false
def orC (y : Ex × Bool) : List Value := exC y.1 ++ [.bool y.2]
def Own0 (B : Nat) (v : Value) (w : World) : Nat → Prop := fun b => B ≤ b ∧ b < w.heap.size ∧ some b ≠ v.ownBlock
theorem own0_grown {B g : Nat} {v : Value} {w w' : World} (h : w.grownBy w' (some g)) (hg : g < B) : ∀ b, Own0 B v w b → (∀ o, w'.cell? ⟨b, o, none⟩ = w.cell? ⟨b, o, none⟩) ∧ Own0 B v w' b := fun b hb =>
  ⟨cell_of_heap (h.block b hb.2.1 (fun e => by injection e with e; have := hb.1; omega)), hb.1, Nat.lt_of_lt_of_le hb.2.1 h.size, hb.2.2⟩
theorem own0_later {B : Nat} {v : Value} {w w' : World} (h : Below w.heap.size w w') : ∀ b, Own0 B v w b → (∀ o, w'.cell? ⟨b, o, none⟩ = w.cell? ⟨b, o, none⟩) ∧ Own0 B v w' b := fun b hb =>
  ⟨cell_of_heap (h.block b hb.2.1), hb.1, Nat.lt_of_lt_of_le hb.2.1 h.size, hb.2.2⟩
theorem own0_app {B : Nat} {v v' : Value} {w w' : World} (h : w.grownBy w' v.ownBlock) (hv : v'.ownBlock = v.ownBlock ∨ v'.ownBlock = some w.heap.size) : ∀ b, Own0 B v w b → (∀ o, w'.cell? ⟨b, o, none⟩ = w.cell? ⟨b, o, none⟩) ∧ Own0 B v' w' b := fun b hb =>
  ⟨cell_of_heap (h.block b hb.2.1 hb.2.2), hb.1, Nat.lt_of_lt_of_le hb.2.1 h.size, fun e => by
    rcases hv with hv | hv
    · exact hb.2.2 (e.trans hv)
    · rw [hv] at e; injection e with e; have := hb.2.1; omega⟩
theorem own0_new {B B' : Nat} {v : Value} {w : World} (hB : B' ≤ B) (hv : ∀ g, v.ownBlock = some g → g < B) : ∀ b, Btw B w b → (∀ o, w.cell? ⟨b, o, none⟩ = w.cell? ⟨b, o, none⟩) ∧ Own0 B' v w b := fun b hb =>
  ⟨fun _ => rfl, Nat.le_trans hB hb.1, hb.2, fun e => by have := hv b e.symm; have := hb.1; omega⟩
theorem own0_out {B B' : Nat} {v : Value} {w : World} (hB : B' ≤ B) : ∀ b, Own0 B v w b → (∀ o, w.cell? ⟨b, o, none⟩ = w.cell? ⟨b, o, none⟩) ∧ Btw B' w b := fun b hb => ⟨fun _ => rfl, Nat.le_trans hB hb.1, hb.2.1⟩
structure Grows {α : Type} (E : El α) (T : TypeId) (w : World) (B : Nat) (v : Value) (l : List α) : Prop where
  has : ∃ ys : List E.β, OwnF E.f T E.size w B v ys ∧ All2 (E.rel w (Own0 B v w)) l ys
section
variable {α : Type} {E : El α} {T : TypeId} {w w' : World} {B g : Nat} {v : Value} {l : List α}
theorem Grows.later (h : Grows E T w B v l) (hb : Below w.heap.size w w') : Grows E T w' B v l := by
  obtain ⟨ys, h1, h2⟩ := h.has
  exact ⟨ys, h1.later hb, h2.imp fun x y => E.keep (own0_later hb)⟩
theorem Grows.own_ge (h : Grows E T w B v l) {G : Nat} (hG : v.ownBlock = some G) : B ≤ G ∧ G < w.heap.size := by
  obtain ⟨ys, h1, h2⟩ := h.has
  exact ⟨(h1.lt hG).2.1, (h1.lt hG).1⟩
theorem Grows.grown (h : Grows E T w B v l) (hb : w.grownBy w' (some g)) (hg : g < B) : Grows E T w' B v l := by
  obtain ⟨ys, h1, h2⟩ := h.has
  exact ⟨ys, h1.grown hb (fun e => by have := (h1.lt e).2.1; omega), h2.imp fun x y => E.keep (own0_grown hb hg)⟩
theorem Grows.sl (h : Grows E T w B v l) {B' : Nat} (hB : B' ≤ B) : ∃ y : Sl, v = slC y ∧ y.n = l.length ∧ E.sl w (Btw B' w) y l := by
  obtain ⟨ys, h1, h2⟩ := h.has
  obtain ⟨A, c, hv, hr⟩ := own_rl E.hf h1 (S := Btw B' w) (fun g h3 h4 => ⟨by omega, h4⟩)
  refine ⟨⟨A, l.length, c⟩, ?_, rfl, rfl, ys, hr, h2.imp fun x y => E.keep (own0_out hB)⟩
  rw [hv, h2.len]
  rfl
theorem Grows.nil (E : El α) (T : TypeId) (w : World) (B : Nat) : Grows E T w B (.slice none 0 0) [] := ⟨[], OwnF.nil, .nil⟩
end
end Go.Proofs.YtcneefmaghoejaaGreatDoor
namespace Go.Proofs.YtcneefmaghoejaaGreatDoor
open Go.ChangeShapes Go.WideShapes Go.ChangeAt Go.RowKit
set_option linter.unusedVariables false
set_option linter.unusedSimpArgs false
theorem own_blk {β : Type} {f : β → List Value} {e : TypeId} {size : Nat} (hf : ∀ x, (f x).length = size) {w : World} {base G : Nat} {y : β} (h : Blk w G e (f y).toArray) (hb : base ≤ G) : OwnF f e size w base (.slice (some ⟨G, 0, none⟩) 1 1) [y] := by
  refine ⟨by simp [hf], .inr ⟨G, 1, (f y).toArray, rfl, hb, h, Nat.le_refl _, ?_, by simp [hf], ?_⟩⟩
  · unfold maxLen; omega
  · simp [hf, List.take_of_length_le]
theorem Grows.one {α : Type} {E : El α} {T : TypeId} {w : World} {B G : Nat} {x : α} {y : E.β} (h : Blk w G T (E.f y).toArray) (hb : B ≤ G) (hx : E.rel w (Own0 B (.slice (some ⟨G, 0, none⟩) 1 1) w) x y) : Grows E T w B (.slice (some ⟨G, 0, none⟩) 1 1) [x] :=
  ⟨[y], own_blk E.hf h hb, .one hx⟩
theorem big_step (b : Bool) (n : Nat) : ((b || decide (64 < n - 1)) || decide (64 < n)) = (b || decide (64 < n)) := by
  by_cases h : 64 < n
  · simp [h]
  · have h2 : ¬ 64 < n - 1 := by omega
    simp [h, h2]
structure ExprsAt (ρ : Rdr) (w : World) (big : Bool) (σ : RSt) (k : Nat) (v : Value) (wr : World) (σ' : RSt) (acc : List Tr) : Prop where
  pos : 0 < acc.length
  few : acc.length + σ'.left ≤ 5001
  le : σ'.left ≤ k
  row : Grows elTr 49 wr w.heap.size v acc
  did : Did ρ w wr σ' (big || decide (64 < acc.length - 1))
  todo : ListTo exprP σ acc σ'
end Go.Proofs.YtcneefmaghoejaaGreatDoor
