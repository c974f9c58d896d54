/- Parts of the proof: Row, Gp, Gp2, Rd2, Gp3. Put together by slim.py. -/
import Derived.Test.YtcneefmaghoejaaGreatDoorB6
import Derived.Test.YtcneefmaghoejaaGreatDoorB10
import Derived.Test.YtcneefmaghoejaaGreatDoorB12
import Derived.Test.YtcneefmaghoejaaGreatDoorB13
namespace Go.Proofs.YtcneefmaghoejaaGreatDoor
open Go.ChangeShapes Go.WideShapes Go.ChangeAt Go.RowKit
set_option linter.unusedVariables false
set_option linter.unusedSimpArgs false
theorem grown_row (w : World) (q : Nat) (cs : Array Value) : w.grownBy (w.setRow q cs) (some q) :=
  ⟨rfl, rfl, rfl, by simp, fun i hi hne => setRow_other w q i cs (fun e => hne (by rw [e]))⟩
theorem btw_row {B q : Nat} (w : World) (hq : q < B) (cs : Array Value) : ∀ b, Btw B w b → (∀ o, (w.setRow q cs).cell? ⟨b, o, none⟩ = w.cell? ⟨b, o, none⟩) ∧ Btw B (w.setRow q cs) b := fun b hb =>
  ⟨cell_of_heap (setRow_other w q b cs (by have := hb.1; omega)), hb.1, by rw [size_setRow]; exact hb.2⟩
theorem Blk.row {w : World} {q : Nat} {T : TypeId} {old : Array Value} (h : Blk w q T old) (cs : Array Value) : Blk (w.setRow q cs) q T cs := setRow_heap w q old cs T (0, 0) h
theorem Blk.row_far {w : World} {q b : Nat} {T : TypeId} {old : Array Value} (h : Blk w b T old) (hq : b ≠ q) (cs : Array Value) : Blk (w.setRow q cs) b T old := (setRow_other w q b cs hq).trans h
theorem setRow_same {w : World} {g : Nat} {t : TypeId} {cs : Array Value} {fr : Nat × Nat} (hg : w.heap[g]? = some (.cells cs t fr)) : w.setRow g cs = w := by
  have hh : (w.setRow g cs).heap = w.heap := by
    apply Array.ext_getElem?
    intro i
    by_cases hi : i = g
    · subst hi
      exact (setRow_heap w i cs cs t fr hg).trans hg.symm
    · exact setRow_other w g i cs hi
  cases w
  simp only [World.setRow] at hh ⊢
  rw [hh]
theorem body_panic {P : Program} {fn : Func} {Q : Ending → World → Prop} {chain : List PanicEntry} {a : Act} {w : World} (hd : a.defers = []) (h : Q (.panicked chain) w) : bodyPost P fn Q (.panic chain) a w := ⟨hd, h⟩
end Go.Proofs.YtcneefmaghoejaaGreatDoor
namespace Go.Proofs.YtcneefmaghoejaaGreatDoor
open Go.ChangeShapes Go.WideShapes Go.ChangeAt Go.RowKit
set_option linter.unusedVariables false
set_option linter.unusedSimpArgs false
def Rdr.gcells (ρ : Rdr) (l : Wds) (lg dp : Bool) : Array Value := #[.slice (some ⟨ρ.gl, 0, none⟩) ρ.n ρ.c, .int .i64 ((ρ.n : Int) - l.length), .bool lg, .bool dp]
structure Rdr.gat (ρ : Rdr) (w : World) (l : Wds) (lg dp : Bool) : Prop where
  blk : Blk w ρ.g 60 (ρ.gcells l lg dp)
  lt : ρ.gl < ρ.g
  cell : ∀ k t, ρ.toks[k]? = some t → w.cell? ⟨ρ.gl, k * 4, none⟩ = some (.int .u8 t.w.k) ∧ w.cell? ⟨ρ.gl, k * 4 + 1, none⟩ = some (.string ⟨t.w.s.toArray⟩) ∧ w.cell? ⟨ρ.gl, k * 4 + 2, none⟩ = some (.int .i64 t.w.n) ∧ w.cell? ⟨ρ.gl, k * 4 + 3, none⟩ = some (.int .i64 t.p)
  of : (RSt.good l).of ρ.ws
  small : ρ.n ≤ 5000
  nums : ∀ t ∈ ρ.toks, 0 ≤ t.w.n ∧ t.w.n ≤ 9223372036854775807
  env : ∃ B, B ≤ ρ.g ∧ Env B w
section
variable {ρ : Rdr} {w w' : World} {l l' : Wds} {lg dp lg' dp' : Bool}
theorem Rdr.gat.later (h : ρ.gat w l lg dp) (hb : Below w.heap.size w w') : ρ.gat w' l lg dp :=
  ⟨h.blk.later hb, h.lt, fun k t hk => by
    have hl : ρ.gl < w.heap.size := Nat.lt_trans h.lt h.blk.lt
    have c := fun o => hb.cell (p := ⟨ρ.gl, o, none⟩) hl
    obtain ⟨h1, h2, h3, h4⟩ := h.cell k t hk
    exact ⟨(c _).trans h1, (c _).trans h2, (c _).trans h3, (c _).trans h4⟩, h.of, h.small, h.nums, by obtain ⟨B, h1, h2⟩ := h.env; exact ⟨B, h1, h2.later hb⟩⟩
theorem Rdr.gat.lt_ (h : ρ.gat w l lg dp) : ρ.g < w.heap.size := h.blk.lt
theorem Rdr.gat.set (h : ρ.gat w l lg dp) (hw : Blk w' ρ.g 60 (ρ.gcells l' lg' dp')) (hg : w.grownBy w' (some ρ.g)) (ho : (RSt.good l').of ρ.ws) : ρ.gat w' l' lg' dp' :=
  ⟨hw, h.lt, fun k t hk => by
    have hl : ρ.gl < w.heap.size := Nat.lt_trans h.lt h.blk.lt
    have c := cell_of_heap (hg.block ρ.gl hl (fun e => by injection e with e; have := h.lt; omega))
    obtain ⟨h1, h2, h3, h4⟩ := h.cell k t hk
    exact ⟨(c _).trans h1, (c _).trans h2, (c _).trans h3, (c _).trans h4⟩, ho, h.small, h.nums, by obtain ⟨B, h1, h2⟩ := h.env; exact ⟨B, h1, h2.grown hg h1⟩⟩
theorem Rdr.gat.left (h : ρ.gat w l lg dp) : 0 < l.length ∧ l.length ≤ ρ.n := by
  have := RSt.of_pos h.of
  simpa [Rdr.ws, Rdr.n, RSt.left] using this
theorem Rdr.gat.far {q : Nat} (h : ρ.gat w l lg dp) (hq : ρ.g < q) (i : Nat) (u : Value) : ρ.gat (w.setCell ⟨q, i, none⟩ u) l lg dp :=
  ⟨h.blk.far (p := ⟨q, i, none⟩) (by simp; omega) u, h.lt, fun k t hk => by
    have c := cell_of_heap (Below.heap_setCell w ⟨q, i, none⟩ u ρ.gl (by have := h.lt; simp; omega))
    obtain ⟨h1, h2, h3, h4⟩ := h.cell k t hk
    exact ⟨(c _).trans h1, (c _).trans h2, (c _).trans h3, (c _).trans h4⟩, h.of, h.small, h.nums, by obtain ⟨B, h1, h2⟩ := h.env; exact ⟨B, h1, h2.grown (grown_set (grown_below (Below.refl _ _)) i u) (by omega)⟩⟩
theorem Rdr.gat.next (h : ρ.gat w l lg dp) : ∃ t r, ρ.toks[ρ.n - l.length]? = some t ∧ l = t.w :: r := by
  obtain ⟨h1, h2⟩ := h.left
  have hlt : ρ.n - l.length < ρ.toks.length := by unfold Rdr.n at *; omega
  obtain ⟨t, r, hl, hk⟩ := RSt.of_next h.of
  refine ⟨_, r, List.getElem?_eq_getElem hlt, ?_⟩
  have e : ρ.ws.length - l.length = ρ.n - l.length := by simp [Rdr.ws, Rdr.n]
  rw [e] at hk
  unfold Rdr.ws at hk
  rw [List.getElem?_map, List.getElem?_eq_getElem hlt] at hk
  simp only [Option.map_some] at hk
  injection hk with hk
  rw [hk]
  exact hl
end
structure GDid (ρ : Rdr) (W w' : World) (l : Wds) (lg dp : Bool) : Prop where
  at_ : ρ.gat w' l lg dp
  grown : W.grownBy w' (some ρ.g)
section
variable {ρ : Rdr} {W w w' : World} {l l' : Wds} {lg dp lg' dp' : Bool}
theorem GDid.refl (h : ρ.gat w l lg dp) : GDid ρ w w l lg dp := ⟨h, grown_below (Below.refl _ _)⟩
theorem GDid.of_later (h : ρ.gat w l lg dp) (hb : Below w.heap.size w w') : GDid ρ w w' l lg dp := ⟨h.later hb, grown_below hb⟩
theorem GDid.later (h : GDid ρ W w l lg dp) (hb : Below w.heap.size w w') : GDid ρ W w' l lg dp := ⟨h.at_.later hb, grown_trans h.grown (grown_below hb)⟩
theorem GDid.trans (h : GDid ρ W w l lg dp) (k : GDid ρ w w' l' lg' dp') : GDid ρ W w' l' lg' dp' := ⟨k.at_, grown_trans h.grown k.grown⟩
theorem GDid.lt (h : GDid ρ W w l lg dp) : ρ.g < w.heap.size := h.at_.lt_
theorem GDid.size (h : GDid ρ W w l lg dp) : W.heap.size ≤ w.heap.size := h.grown.size
theorem GDid.far {q : Nat} (h : GDid ρ W w l lg dp) (hW : ρ.g < W.heap.size) (hq : W.heap.size ≤ q) (i : Nat) (u : Value) : GDid ρ W (w.setCell ⟨q, i, none⟩ u) l lg dp := by
  refine ⟨h.at_.far (by omega) i u, h.grown.os, h.grown.tape, h.grown.output, ?_, fun k hk hkg => ?_⟩
  · have : (w.setCell ⟨q, i, none⟩ u).heap.size = w.heap.size := by simp [World.setCell]
    rw [this]; exact h.grown.size
  · rw [Below.heap_setCell w ⟨q, i, none⟩ u k (by simp; omega)]
    exact h.grown.block k hk hkg
theorem GDid.blk {q : Nat} {t : TypeId} {cs : Array Value} (h : GDid ρ W w l lg dp) (hq : Blk W q t cs) (hg : q ≠ ρ.g) : Blk w q t cs := hq.grown h.grown fun e => hg (by injection e)
theorem GDid.own {W0 : World} {row : Option Nat} (h : GDid ρ W0 w l lg dp) (hg : ρ.g < W0.heap.size) (k : w.grownBy w' row) (hr : ∀ G, row = some G → W0.heap.size ≤ G) : GDid ρ W0 w' l lg dp := by
  have hk : ∀ i, i < w.heap.size → some i ≠ row → w'.heap[i]? = w.heap[i]? := k.block
  have hne : ∀ i, i < W0.heap.size → some i ≠ row := fun i hi e => by have := hr i e.symm; omega
  refine ⟨⟨(hk _ h.at_.lt_ (hne _ hg)).trans h.at_.blk, h.at_.lt, fun i t hi => ?_, h.at_.of, h.at_.small, h.at_.nums, by obtain ⟨B, h1, h2⟩ := h.at_.env; exact ⟨B, h1, h2.below ⟨k.os, k.tape, k.output, k.size, fun i hi => hk i (by have := h2.size; omega) (hne i (by omega))⟩⟩⟩, k.os.trans h.grown.os, k.tape.trans h.grown.tape, k.output.trans h.grown.output, Nat.le_trans h.grown.size k.size, fun i hi hig => (hk i (Nat.lt_of_lt_of_le hi h.grown.size) (hne i hi)).trans (h.grown.block i hi hig)⟩
  have hl : ρ.gl < W0.heap.size := Nat.lt_trans h.at_.lt hg
  have c := cell_of_heap (hk ρ.gl (Nat.lt_of_lt_of_le hl h.grown.size) (hne _ hl))
  obtain ⟨h1, h2, h3, h4⟩ := h.at_.cell i t hi
  exact ⟨(c _).trans h1, (c _).trans h2, (c _).trans h3, (c _).trans h4⟩
end
structure GPeek (ρ : Rdr) (w : World) (t : Tok) (pl : Nat) : Prop where
  c0 : w.cell? ⟨ρ.g, 0, none⟩ = some (.slice (some ⟨ρ.gl, 0, none⟩) ρ.n ρ.c)
  c1 : w.cell? ⟨ρ.g, 1, none⟩ = some (.int .i64 pl)
  d0 : w.cell? ⟨ρ.gl, pl * 4, none⟩ = some (.int .u8 t.w.k)
  d1 : w.cell? ⟨ρ.gl, pl * 4 + 1, none⟩ = some (.string ⟨t.w.s.toArray⟩)
  d2 : w.cell? ⟨ρ.gl, pl * 4 + 2, none⟩ = some (.int .i64 t.w.n)
  d3 : w.cell? ⟨ρ.gl, pl * 4 + 3, none⟩ = some (.int .i64 t.p)
theorem GPeek.later {ρ : Rdr} {w w' : World} {t : Tok} {pl : Nat} (h : GPeek ρ w t pl) (hb : Below w.heap.size w w') : GPeek ρ w' t pl := by
  obtain ⟨h0, h1, h3, h4, h5, h6⟩ := h
  exact ⟨(hb.cell (cell_lt h0)).trans h0, (hb.cell (cell_lt h1)).trans h1, (hb.cell (cell_lt h3)).trans h3, (hb.cell (cell_lt h4)).trans h4, (hb.cell (cell_lt h5)).trans h5, (hb.cell (cell_lt h6)).trans h6⟩
def Rdr.tok (ρ : Rdr) (l : Wds) : Tok := (ρ.toks[ρ.n - l.length]?).getD ⟨⟨0, [], 0⟩, 0⟩
def Rdr.placeOf (ρ : Rdr) (n : Nat) : Nat := ((ρ.toks[ρ.n - n]?).map (·.p)).getD 0
theorem Rdr.gat.peek {ρ : Rdr} {w : World} {l : Wds} {lg dp : Bool} (h : ρ.gat w l lg dp) : ∃ (t : Tok) (r : Wds) (pl : Nat), t = ρ.tok l ∧ l = t.w :: r ∧ pl < ρ.n ∧ ρ.n ≤ 5000 ∧ (pl : Int) = (ρ.n : Int) - l.length ∧ t.p = ρ.placeOf l.length ∧ 0 ≤ t.w.n ∧ t.w.n ≤ 9223372036854775807 ∧ GPeek ρ w t pl := by
  obtain ⟨t, r, ht, hl⟩ := h.next
  obtain ⟨d0, d1, d2, d3⟩ := h.cell _ t ht
  have hlf := h.left
  have c0 := h.blk.cell 0
  have c1 := h.blk.cell 1
  have e : ((ρ.n : Int) - l.length) = ((ρ.n - l.length : Nat) : Int) := by omega
  have hn := h.nums t (List.mem_of_getElem? ht)
  refine ⟨t, r, ρ.n - l.length, by unfold Rdr.tok; rw [ht]; rfl, hl, by omega, h.small, by omega, by unfold Rdr.placeOf; rw [ht]; rfl, hn.1, hn.2, c0, ?_, d0, d1, d2, d3⟩
  rw [c1]
  show some (Value.int .i64 ((ρ.n : Int) - l.length)) = _
  rw [e]
theorem Rdr.gat.facts {ρ : Rdr} {w : World} {l : Wds} {lg dp : Bool} (h : ρ.gat w l lg dp) :
    w.cell? ⟨ρ.g, 0, none⟩ = some (.slice (some ⟨ρ.gl, 0, none⟩) ρ.n ρ.c) ∧ w.cell? ⟨ρ.g, 1, none⟩ = some (.int .i64 ((ρ.n : Int) - l.length)) ∧ w.cell? ⟨ρ.g, 2, none⟩ = some (.bool lg) ∧ w.cell? ⟨ρ.g, 3, none⟩ = some (.bool dp) ∧
    w.frozen? ⟨ρ.g, 1, none⟩ = false ∧ w.frozen? ⟨ρ.g, 2, none⟩ = false ∧ w.frozen? ⟨ρ.g, 3, none⟩ = false :=
  ⟨h.blk.cell 0, h.blk.cell 1, h.blk.cell 2, h.blk.cell 3, h.blk.frozen 1, h.blk.frozen 2, h.blk.frozen 3⟩
theorem tok_info4 : (Tryz.prog.info? 46).map (·.size) = some 4 := by kernel_rfl
set_option maxHeartbeats 4000000 in
set_option maxRecDepth 100000 in
theorem gnow_any (ρ : Rdr) (w : World) (l : Wds) (lg dp : Bool) (h : ρ.gat w l lg dp) :
    Calls Tryz.prog 19 #[ρ.ptr] w fun e w' => e = .returned (.agg (tokB (ρ.tok l))) ∧ Below w.heap.size w w' := by
  obtain ⟨t, r, pl, hte, hl, hlt, hsm, hpl, htp, hn0, hn1, hp⟩ := h.peek
  have hp2 := hp.later (later_new w tokZ)
  rw [← hte]
  have hb := (later_new w (.cells (tokB t) 46)).drew
  have HT := (Blk.new w 46 (tokB t)).drew
  clear hte hl h hpl htp hn0 hn1
  unfold Rdr.ptr
  obtain ⟨c0, c1, d0, d1, d2, d3⟩ := hp
  obtain ⟨y0, y1, z0, z1, z2, z3⟩ := hp2
  unfold tokZ at y0 y1 z0 z1 z2 z3
  go_enter Tryz.func19, Tryz.ntmps19
  go_wp2_with fail
  go_region
  clear c0 c1 d0 d1 d2 d3 y0 y1 z0 z1 z2 z3
  obtain ⟨u0, u1, u2, u3, _⟩ := four_facts HT
  have HT2 : Blk (w.alloc (.cells #[.int .u8 t.w.k, .string ⟨t.w.s.toArray⟩, .int .i64 t.w.n, .int .i64 t.p] 46)).drew w.heap.size 46 (tokB t) := HT
  clear HT
  unfold tokB at u0 u1 u2 u3 hb
  generalize (w.alloc _).drew = W at *
  go_wp2_with fail
  exact bodyPost_ret (v := .agg (tokB t)) (results_cell_row Tryz.results19 _ _ w.heap.size 46 (tokB t) (0, 0) _ rfl HT2 Tryz.underlying46 rfl tok_info4) rfl ⟨rfl, hb⟩
theorem tok_field (a b c d : Value) : (∀ w : World, (Instr.field 46 (.agg #[a, b, c, d]) 0).run Tryz.prog w = .ok a w) ∧ (∀ w : World, (Instr.field 46 (.agg #[a, b, c, d]) 1).run Tryz.prog w = .ok b w) ∧ (∀ w : World, (Instr.field 46 (.agg #[a, b, c, d]) 2).run Tryz.prog w = .ok c w) ∧ (∀ w : World, (Instr.field 46 (.agg #[a, b, c, d]) 3).run Tryz.prog w = .ok d w) := ⟨fun _ => by kernel_rfl, fun _ => by kernel_rfl, fun _ => by kernel_rfl, fun _ => by kernel_rfl⟩
def faultE (p : Nat) : PanicEntry := { v := .iface 56 (.agg #[.int .i64 p]), recovered := false }
def failPost (ρ : Rdr) (w : World) (n : Nat) (e : Ending) (w' : World) : Prop := e = .panicked [faultE (ρ.placeOf n)] ∧ w.grownBy w' (some ρ.g)
set_option maxHeartbeats 4000000 in
set_option maxRecDepth 100000 in
theorem gfail_any (ρ : Rdr) (w : World) (l : Wds) (lg dp : Bool) (h : ρ.gat w l lg dp) :
    Calls Tryz.prog 20 #[ρ.ptr] w (failPost ρ w l.length) := by
  obtain ⟨t, r, pl, hte, hl, hlt, hsm, hpl, htp, _, _, hp⟩ := h.peek
  have hnow := gnow_any ρ w l lg dp h
  rw [← hte] at hnow
  unfold failPost
  rw [← htp]
  clear hte hl hpl htp hp
  go_enter Tryz.func20, Tryz.ntmps20
  go_wp2_with fail
  refine hnow.mono ?_
  rintro e w1 ⟨rfl, b1⟩
  unfold tokB
  have hfl := tok_field (.int .u8 t.w.k) (.string ⟨t.w.s.toArray⟩) (.int .i64 t.w.n) (.int .i64 t.p)
  go_wp2_with fail
  exact body_panic rfl ⟨rfl, grown_below b1⟩
end Go.Proofs.YtcneefmaghoejaaGreatDoor
namespace Go.Proofs.YtcneefmaghoejaaGreatDoor
open Go.ChangeShapes Go.WideShapes Go.ChangeAt Go.RowKit
set_option linter.unusedVariables false
set_option linter.unusedSimpArgs false
def GP {α : Type} (ρ : Rdr) (W : World) (P : Ps α) (l : Wds) (Q : α → Wds → Value → World → Prop) (e : Ending) (w' : World) : Prop :=
  match P l with
  | .ok (x, r) => ∃ v, e = .returned v ∧ Q x r v w'
  | .error n => failPost ρ W n e w'
section
variable {α β : Type} {ρ : Rdr} {W w w' : World} {P : Ps α} {l r : Wds} {Q : α → Wds → Value → World → Prop}
theorem GP.ok {x : α} {v : Value} (h : P l = .ok (x, r)) (k : Q x r v w') : GP ρ W P l Q (.returned v) w' := by
  unfold GP; rw [h]; exact ⟨v, rfl, k⟩
theorem GP.err {n : Nat} {e : Ending} (h : P l = .error n) (k : failPost ρ W n e w') : GP ρ W P l Q e w' := by
  unfold GP; rw [h]; exact k
theorem GP.cases {e : Ending} (h : GP ρ W P l Q e w') : (∃ x r v, P l = .ok (x, r) ∧ e = .returned v ∧ Q x r v w') ∨ ∃ n, P l = .error n ∧ failPost ρ W n e w' := by
  unfold GP at h
  cases hp : P l with
  | error n => rw [hp] at h; exact .inr ⟨n, rfl, h⟩
  | ok y => obtain ⟨x, r⟩ := y; rw [hp] at h; obtain ⟨v, h1, h2⟩ := h; exact .inl ⟨x, r, v, rfl, h1, h2⟩
theorem failPost.grown {n : Nat} {e : Ending} (h : failPost ρ w n e w') (k : W.grownBy w (some ρ.g)) : failPost ρ W n e w' := ⟨h.1, grown_trans k h.2⟩
end
set_option maxHeartbeats 4000000 in
set_option maxRecDepth 100000 in
theorem gis_any (ρ : Rdr) (w : World) (l : Wds) (lg dp : Bool) (h : ρ.gat w l lg dp) (s : ByteArray) :
    Calls Tryz.prog 43 #[ρ.ptr, .string s] w fun e w' => e = .returned (.bool (headIs s.data.toList l)) ∧ Below w.heap.size w w' := by
  obtain ⟨t, r, pl, hte, hl, hlt, hsm, hpl, htp, hn0, hn1, hp⟩ := h.peek
  have hnow := gnow_any ρ w l lg dp h
  rw [← hte] at hnow
  have hHD : headIs s.data.toList l = ((t.w.k == 1 || t.w.k == 4) && (t.w.s == s.toList)) := by
    rw [hl, ← isW_test]
    rfl
  have HHD := Lib.hid hHD
  clear hHD hte hl hpl htp hn0 hn1 hp hlt hsm h
  generalize headIs s.data.toList l = R at *
  go_enter Tryz.func43, Tryz.ntmps43
  go_wp2_with fail
  refine hnow.mono ?_
  rintro e w1 ⟨rfl, b1⟩
  unfold tokB
  have hb := fun o => Later.then b1 (later_new w1 o)
  go_wp2_with fail
  all_goals
    go_ret
    refine ⟨ret_bool ?_, hb _⟩
    rw [HHD.out]
    generalize (t.w.s == s.toList) = X
    cases X <;> rw [Bool.eq_iff_iff] <;> simp <;> omega
def afterW (s : List UInt8) (l : Wds) : Wds := if headIs s l then l.tail else l
theorem may_eq (s : List UInt8) (l : Wds) : may s l = .ok (headIs s l, afterW s l) := by
  unfold may afterW
  cases headIs s l <;> rfl
set_option maxHeartbeats 4000000 in
set_option maxRecDepth 100000 in
theorem Rdr.gat.step {ρ : Rdr} {w : World} {l : Wds} {t : Wd} {lg dp : Bool} (h : ρ.gat w (t :: l) lg dp) (ht : t.k ≠ 0) :
    GDid ρ w (w.setCell ⟨ρ.g, 1, none⟩ (.int .i64 ((ρ.n : Int) - l.length))) l lg dp := by
  have hB := Blk.set_ h.blk 1 (.int .i64 ((ρ.n : Int) - l.length))
  refine ⟨h.set hB (grown_set (grown_below (Below.refl _ _)) 1 _) ⟨?_, h.of.2.tail ht⟩, grown_set (grown_below (Below.refl _ _)) 1 _⟩
  exact (List.suffix_cons _ _).trans h.of.1
set_option maxHeartbeats 4000000 in
set_option maxRecDepth 100000 in
theorem ghave_any (ρ : Rdr) (w : World) (l : Wds) (lg dp : Bool) (h : ρ.gat w l lg dp) (s : ByteArray) :
    Calls Tryz.prog 18 #[ρ.ptr, .string s] w fun e w' => e = .returned (.bool (headIs s.data.toList l)) ∧ GDid ρ w w' (afterW s.data.toList l) lg dp := by
  have hw := gis_any ρ w l lg dp h s
  have hptr : ρ.ptr = .pointer (some ⟨ρ.g, 0, none⟩) := rfl
  cases hh : headIs s.data.toList l
  · rw [hh] at hw
    rw [show afterW s.data.toList l = l by unfold afterW; rw [hh]; rfl]
    have HH := Lib.hid h
    clear h hh
    go_enter Tryz.func18, Tryz.ntmps18
    go_wp2_with fail
    refine hw.mono ?_
    rintro e w1 ⟨rfl, b1⟩
    go_wp2_with fail
    go_ret
    exact ⟨rfl, GDid.of_later HH.out b1⟩
  · rw [hh] at hw
    obtain ⟨t, r, rfl, ht⟩ := headIs_cons hh
    rw [show afterW s.data.toList (t :: r) = r by unfold afterW; rw [hh]; rfl]
    have HH := Lib.hid h
    have HK := Lib.hid (isW_k ht)
    have hsm := h.small
    clear ht hh h
    go_enter Tryz.func18, Tryz.ntmps18
    go_wp2_with fail
    refine hw.mono ?_
    rintro e w1 ⟨rfl, b1⟩
    obtain ⟨c0, c1, c2, c3, f1, f2, f3⟩ := (HH.out.later b1).facts
    have hlf := (HH.out.later b1).left
    have e1 : (ρ.n : Int) - ((r.length : Int) + 1) + 1 = (ρ.n : Int) - r.length := by omega
    simp only [List.length_cons] at hlf
    rw [hptr]
    go_wp2_with fail
    go_ret
    have hd := Rdr.gat.step (HH.out.later b1) HK.out
    exact ⟨rfl, (GDid.of_later HH.out b1).trans hd⟩
end Go.Proofs.YtcneefmaghoejaaGreatDoor
namespace Go.Proofs.YtcneefmaghoejaaGreatDoor
open Go.ChangeShapes Go.WideShapes Go.ChangeAt Go.RowKit
set_option linter.unusedVariables false
set_option linter.unusedSimpArgs false
def strsC (ks : List (List UInt8)) : Array Value := (ks.map strOf).toArray
theorem strs_cell {w : World} {b : Nat} {ks : List (List UInt8)} (h : Blk w b 9 (strsC ks)) {i : Nat} {s : List UInt8} (hi : ks[i]? = some s) : w.cell? ⟨b, i, none⟩ = some (.string ⟨s.toArray⟩) := by
  rw [h.cell i]
  simp [strsC, hi, strOf]
theorem drop_get {α : Type} {l : List α} {i : Nat} {x : α} (h : l[i]? = some x) : l.drop i = x :: l.drop (i + 1) := by
  obtain ⟨hlt, he⟩ := List.getElem?_eq_some_iff.1 h
  rw [List.drop_eq_getElem_cons hlt, he]
end Go.Proofs.YtcneefmaghoejaaGreatDoor
namespace Go.Proofs.YtcneefmaghoejaaGreatDoor
open Go.ChangeShapes Go.WideShapes Go.ChangeAt Go.RowKit
set_option linter.unusedVariables false
set_option linter.unusedSimpArgs false
def numW : Ps Wd
  | [] => .error 0
  | t :: r => if t.k = 2 then .ok (t, r) else .error (t :: r).length
set_option maxHeartbeats 4000000 in
set_option maxRecDepth 100000 in
theorem gkind_any (ρ : Rdr) (w : World) (l : Wds) (lg dp : Bool) (h : ρ.gat w l lg dp) :
    Calls Tryz.prog 103 #[ρ.ptr, .int .u8 2] w (GP ρ w numW l fun t r v w' => v = .agg (tokB (ρ.tok l)) ∧ t = (ρ.tok l).w ∧ (0 ≤ t.n ∧ t.n ≤ 9223372036854775807) ∧ GDid ρ w w' r lg dp) := by
  obtain ⟨t, r, pl, hte, hl, hlt, hsm, hpl, htp, hn0, hn1, hp⟩ := h.peek
  have h0 := h.later (later_new w tokZ)
  have hb0 := later_new w tokZ
  have hnow := gnow_any ρ _ l lg dp h0
  have hlf := h.left
  have hgg := h.lt_
  have HH := Lib.hid h
  rw [← hte] at hnow ⊢
  have HL := Lib.hid hl
  unfold tokZ at hnow hb0
  clear hte hpl htp hp hlt h h0 hl
  have HNOW := Lib.hid hnow
  clear hnow
  by_cases hk : t.w.k = 2
  · have HK := Lib.hid hk
    have g1 : ((t.w.k : Int) != 2) = false := by simp; omega
    clear hk
    go_enter Tryz.func103, Tryz.ntmps103
    go_wp2_with fail
    refine HNOW.out.mono ?_
    rintro e w1 ⟨rfl, b1⟩
    have hZ := Blk.new w 46 #[.int .u8 0, .string ⟨#[]⟩, .int .i64 0, .int .i64 0]
    have HZ := Lib.hid ((hZ.later b1).alloc (.cells (tokB t) 46))
    have HT := Lib.hid (Blk.new w1 46 (tokB t))
    have hg1 : ρ.g < w1.heap.size := Nat.lt_of_lt_of_le hgg (Nat.le_trans (by simp) b1.size)
    have hg2 : w.heap.size < w1.heap.size := Nat.lt_of_lt_of_le (by simp) b1.size
    have hb := Later.then (Later.then hb0 b1) (later_new w1 (.cells (tokB t) 46))
    have HB := Lib.hid hb
    have HW := Lib.hid (HH.out.later hb)
    obtain ⟨c0, c1, c2, c3, f1, f2, f3⟩ := (HH.out.later hb).facts
    obtain ⟨u0, u1, u2, u3, v0, v1, v2, v3⟩ := four_facts HT.out
    have e1 : (ρ.n : Int) - ((r.length : Int) + 1) + 1 = (ρ.n : Int) - r.length := by omega
    rw [show (l.length : Int) = (r.length : Int) + 1 by rw [HL.out]; rfl] at c1
    clear hZ hb b1 hb0
    have hrl : r.length + 1 ≤ ρ.n := by have := HL.out; rw [this] at hlf; simpa using hlf.2
    have hstep := Rdr.gat.step (t := t.w) (l := r) (by have := HW.out; rw [HL.out] at this; exact this) (by have := HK.out; omega)
    have HT2 := HT.out.far (p := ⟨ρ.g, 1, none⟩) (by simp; omega) (.int .i64 ((ρ.n : Int) - r.length))
    have HZ2 := HZ.out.far (p := ⟨ρ.g, 1, none⟩) (by simp; omega) (.int .i64 ((ρ.n : Int) - r.length))
    have HT3 := Lib.hid HT2
    have HZ3 := Lib.hid HZ2
    have HD3 := Lib.hid ((GDid.of_later HH.out HB.out).trans hstep)
    clear HT HZ HT2 HZ2 hstep HW HH hlf
    unfold tokB at *
    unfold Rdr.ptr
    go_upto_region 2 with fail
    generalize (w1.alloc _) = W1 at *
    go_upto_region 5 with fail
    refine wp_region_lit ?_
    refine wpList_load_row rfl 46 (.tmp 5) rfl w1.heap.size rfl 46 (tokB t) (0, 0) _ HT3.out Tryz.underlying46 rfl tok_info4 ?_
    refine wpList_store_row rfl 46 (.tmp 4) (.tmp 21) rfl w.heap.size (tokB t) rfl rfl 46 #[.int .u8 0, .string ⟨#[]⟩, .int .i64 0, .int .i64 0] HZ3.out tok_info4 rfl (by simp [tokB, Value.oneCell']) ?_
    refine wpList_nil ?_
    have HR := HZ3.out.row (tokB t)
    have HDF := HD3.out.own hgg (grown_row _ w.heap.size (tokB t)) (fun G e => by injection e with e; omega)
    have HR2 := Lib.hid HR
    have HDF2 := Lib.hid HDF
    clear HR HDF HT3 HZ3 HD3 HB c0 c1 c2 c3 f1 f2 f3 u0 u1 u2 u3 v0 v1 v2 v3
    generalize (World.setRow _ w.heap.size (tokB t)) = WF at *
    go_wp2_with fail
    refine bodyPost_ret (v := .agg (tokB t)) (results_cell_row Tryz.results103 _ _ w.heap.size 46 (tokB t) (0, 0) _ rfl HR2.out Tryz.underlying46 rfl tok_info4) rfl ?_
    refine GP.ok (x := t.w) (r := r) ?_ ⟨rfl, rfl, ⟨hn0, hn1⟩, HDF2.out⟩
    rw [HL.out]
    simp only [numW, if_pos HK.out]
  · have g1 : ((t.w.k : Int) != 2) = true := by simp; omega
    have HK := Lib.hid hk
    clear hk
    go_enter Tryz.func103, Tryz.ntmps103
    go_wp2_with fail
    refine HNOW.out.mono ?_
    rintro e w1 ⟨rfl, b1⟩
    have hb := Later.then (Later.then hb0 b1) (later_new w1 (.cells (tokB t) 46))
    have hf := gfail_any ρ _ l lg dp (HH.out.later hb)
    have HB := Lib.hid hb
    unfold tokB at *
    clear hb b1 hb0
    go_wp2_with fail
    refine hf.mono ?_
    rintro e w2 ⟨rfl, hg2⟩
    go_wp2_with fail
    refine body_panic rfl ?_
    refine GP.err (n := l.length) ?_ ⟨rfl, grown_trans (grown_below HB.out) hg2⟩
    rw [HL.out]
    simp only [numW, if_neg HK.out]
theorem numW_ok {l r : Wds} {t : Wd} (h : numW l = .ok (t, r)) : numP l = .ok (t.n, r) := by
  match l with
  | [] => cases h
  | x :: q =>
    simp only [numW, numP] at h ⊢
    split at h
    · rename_i hk; injection h with h; injection h with h1 h2; subst h1; subst h2; rw [if_pos hk]
    · cases h
theorem numW_err {l : Wds} {n : Nat} (h : numW l = .error n) : numP l = .error n := by
  match l with
  | [] => injection h with h; rw [← h]; rfl
  | x :: q =>
    simp only [numW, numP] at h ⊢
    split at h
    · cases h
    · rename_i hk; rw [if_neg hk]; injection h with h; rw [h]
set_option maxHeartbeats 4000000 in
set_option maxRecDepth 100000 in
theorem gnumber_any (ρ : Rdr) (w : World) (l : Wds) (lg dp : Bool) (h : ρ.gat w l lg dp) :
    Calls Tryz.prog 74 #[ρ.ptr] w (GP ρ w numP l fun n r v w' => v = .int .i64 n ∧ (0 ≤ n ∧ n ≤ 9223372036854775807) ∧ GDid ρ w w' r lg dp) := by
  have hk := gkind_any ρ w l lg dp h
  go_enter Tryz.func74, Tryz.ntmps74
  go_wp2_with fail
  refine hk.mono ?_
  clear hk
  intro e w1 hp
  rcases hp.cases with ⟨t, r, v, hok, rfl, rfl, ht, hn, d1⟩ | ⟨n, herr, rfl, hg⟩
  · have HT := Lib.hid ht
    clear ht hp
    generalize ρ.tok l = tk at *
    have hfl := tok_field (.int .u8 tk.w.k) (.string ⟨tk.w.s.toArray⟩) (.int .i64 tk.w.n) (.int .i64 tk.p)
    unfold tokB
    go_wp2_with fail
    go_ret
    exact GP.ok (numW_ok hok) ⟨by rw [HT.out]; rfl, hn, d1⟩
  · clear hp
    go_wp2_with fail
    exact body_panic rfl (GP.err (numW_err herr) ⟨rfl, hg⟩)
set_option maxHeartbeats 4000000 in
set_option maxRecDepth 100000 in
theorem gname_any (ρ : Rdr) (w : World) (l : Wds) (lg dp : Bool) (h : ρ.gat w l lg dp) :
    Calls Tryz.prog 69 #[ρ.ptr] w (GP ρ w nameP l fun x r v w' => v = .string x ∧ GDid ρ w w' r lg dp) := by
  obtain ⟨t, r, pl, hte, hl, hlt, hsm, hpl, htp, hn0, hn1, hp⟩ := h.peek
  have hnow := gnow_any ρ w l lg dp h
  have hlf := h.left
  have hgg := h.lt_
  have HH := Lib.hid h
  rw [← hte] at hnow
  have HL := Lib.hid hl
  have hrl : r.length + 1 ≤ ρ.n := by have := hlf.2; rw [hl] at this; simpa using this
  have HRL := Lib.hid (show (l.length : Int) = (r.length : Int) + 1 by rw [hl]; rfl)
  clear hte hpl htp hp hlt h hl hlf
  go_enter Tryz.func69, Tryz.ntmps69
  go_wp2_with fail
  refine hnow.mono ?_
  clear hnow
  rintro e w1 ⟨rfl, b1⟩
  have HT := Lib.hid (Blk.new w1 46 (tokB t))
  have hg1 : ρ.g < w1.heap.size := Nat.lt_of_lt_of_le hgg b1.size
  have HB := Lib.hid (Later.then b1 (later_new w1 (.cells (tokB t) 46)))
  clear b1
  unfold tokB at *
  go_upto_region 2 with fail
  generalize (w1.alloc _) = W1 at *
  obtain ⟨u0, u1, u2, u3, v0, v1, v2, v3⟩ := four_facts HT.out
  have HW := Lib.hid (HH.out.later HB.out)
  have hres := fun B hE => Reserved_any (B := B) ⟨t.w.s.toArray⟩ W1 hE
  obtain ⟨B, hB, hE⟩ := HW.out.env
  have hres := hres B hE
  have hsl : (⟨t.w.s.toArray⟩ : ByteArray).data.toList = t.w.s := by simp
  rw [hsl] at hres
  have HE := Lib.hid hE
  have hfail := gfail_any ρ W1 l lg dp HW.out
  have e1 : (ρ.n : Int) - ((r.length : Int) + 1) + 1 = (ρ.n : Int) - r.length := by omega
  clear hE hB hsl
  by_cases hk : t.w.k = 1
  · have HK := Lib.hid hk
    have g1 : ((t.w.k : Int) != 1) = false := by simp; omega
    clear hk
    cases hr : resB t.w.s
    · rw [hr] at hres
      have HR := Lib.hid hr
      clear hr hfail
      go_wp2_with fail
      refine hres.mono ?_
      clear hres
      rintro e w2 ⟨rfl, b2⟩
      obtain ⟨c0, c1, c2, c3, f1, f2, f3⟩ := (HW.out.later b2).facts
      rw [HRL.out] at c1
      have hT2 := (HT.out.later b2).far (p := ⟨ρ.g, 1, none⟩) (by simp; omega) (.int .i64 ((ρ.n : Int) - r.length))
      have z1 := hT2.cell 1
      have hst := Rdr.gat.step (t := t.w) (l := r) (by have := HW.out.later b2; rw [HL.out] at this; exact this) (by have := HK.out; omega)
      have HD := Lib.hid ((GDid.of_later HH.out (Later.then HB.out b2)).trans hst)
      simp only [List.getElem?_toArray, List.getElem?_cons_zero, List.getElem?_cons_succ] at z1
      clear hT2 hst b2 HW HT u0 u1 u2 u3 v0 v1 v2 v3
      unfold Rdr.ptr
      go_wp2_with fail
      go_ret
      refine GP.ok (x := ⟨t.w.s.toArray⟩) (r := r) ?_ ⟨rfl, HD.out⟩
      rw [HL.out]
      simp only [nameP, HK.out, HR.out, and_self, if_true]
    · rw [hr] at hres
      have HR := Lib.hid hr
      clear hr hfail
      go_wp2_with fail
      refine hres.mono ?_
      clear hres
      rintro e w2 ⟨rfl, b2⟩
      have hf := gfail_any ρ w2 l lg dp (HW.out.later b2)
      have HB2 := Lib.hid (Later.then HB.out b2)
      clear b2
      go_wp2_with fail
      refine hf.mono ?_
      rintro e w3 ⟨rfl, hg2⟩
      go_wp2_with fail
      refine body_panic rfl ?_
      refine GP.err (n := l.length) ?_ ⟨rfl, grown_trans (grown_below HB2.out) hg2⟩
      rw [HL.out]
      simp only [nameP, HK.out, HR.out]
      rfl
  · have HK := Lib.hid hk
    have g1 : ((t.w.k : Int) != 1) = true := by simp; omega
    clear hk hres
    go_wp2_with fail
    refine hfail.mono ?_
    rintro e w3 ⟨rfl, hg2⟩
    go_wp2_with fail
    refine body_panic rfl ?_
    refine GP.err (n := l.length) ?_ ⟨rfl, grown_trans (grown_below HB.out) hg2⟩
    rw [HL.out]
    simp only [nameP]
    rw [if_neg (by intro hh; exact HK.out hh.1)]
end Go.Proofs.YtcneefmaghoejaaGreatDoor
