/- Parts of the proof: StA, StF, StG, ParA, Gz0. Put together by slim.py. -/
import Derived.Deep.LoopGhost
import Derived.Test.YtcneefmaghoejaaGreatDoorB13
import Derived.Test.YtcneefmaghoejaaGreatDoorB14
import Derived.Test.YtcneefmaghoejaaGreatDoorB16
import Derived.Test.YtcneefmaghoejaaGreatDoorB21
import Derived.Test.YtcneefmaghoejaaGreatDoorB26
import Derived.Test.YtcneefmaghoejaaGreatDoorB32
import Derived.Test.YtcneefmaghoejaaGreatDoorB38
namespace Go.Proofs.YtcneefmaghoejaaGreatDoor
open Go.ChangeShapes Go.WideShapes Go.ChangeAt Go.RowKit
set_option linter.unusedVariables false
set_option linter.unusedSimpArgs false
def st0 : Array Value := (stC {}).toArray
structure StAt (ρ : Rdr) (w : World) (big : Bool) (P : Ps St) (σ : RSt) (k : Ps St) (q b : Nat) (wr : World) (σ' : RSt) (m : StM) (d : St) : Prop where
  did : Did ρ w wr σ' (big || d.long)
  blk : Blk wr b 35 (stC m).toArray
  res : Blk wr q 35 st0
  at_ : d.at_ wr (Btw (b + 1) wr) m
  todo : PTo P σ k σ'
  qb : w.heap.size ≤ q ∧ q < b
section
variable {ρ : Rdr} {w wr w2 : World} {big : Bool} {P : Ps St} {σ σ' : RSt} {q b : Nat} {m : StM} {d : St}
theorem StAt.later {k : Ps St} (A : StAt ρ w big P σ k q b wr σ' m d) (hb : Below wr.heap.size wr w2) : StAt ρ w big P σ k q b w2 σ' m d :=
  ⟨A.did.later hb, A.blk.later hb, A.res.later hb, St.at_.keep (btw_later hb) A.at_, A.todo, A.qb⟩
theorem StAt.set {k : Ps St} {m' : StM} {d' : St} (A : StAt ρ w big P σ k q b wr σ' m d) (hg : ρ.g < w.heap.size) (i : Nat) (u : Value) (hb : (stC m').toArray = (stC m).toArray.setIfInBounds i u) (hl : d'.long = d.long) (hat : St.at_ wr (Btw (b + 1) wr) d' m') : StAt ρ w big P σ k q b (wr.setCell ⟨b, i, none⟩ u) σ' m' d' := by
  have hq := A.qb
  refine ⟨?_, ?_, A.res.far (p := ⟨b, i, none⟩) (by simp; omega) u, St.at_.keep (btw_set (by omega) i u) hat, A.todo, hq⟩
  · rw [hl]; exact A.did.far hg (by omega) i u
  · rw [hb]; exact A.blk.set_ i u
end
end Go.Proofs.YtcneefmaghoejaaGreatDoor
namespace Go.Proofs.YtcneefmaghoejaaGreatDoor
open Go.ChangeShapes Go.WideShapes Go.ChangeAt Go.RowKit
set_option linter.unusedVariables false
set_option linter.unusedSimpArgs false
def putQ7 (w : World) (b : Nat) (m : QuM) : World := (((((((w.setCell ⟨b, 7, none⟩ (slC m.items)).setCell ⟨b, 8, none⟩ (.string m.frm)).setCell ⟨b, 9, none⟩ (.bool m.only)).setCell ⟨b, 10, none⟩ (slC m.whr)).setCell ⟨b, 11, none⟩ (slC m.group)).setCell ⟨b, 12, none⟩ (slC m.having)).setCell ⟨b, 13, none⟩ (slC m.order)).setCell ⟨b, 14, none⟩ (slC m.limit)
def setQ7 (cs : Array Value) (m : QuM) : Array Value := (((((((cs.setIfInBounds 7 (slC m.items)).setIfInBounds 8 (.string m.frm)).setIfInBounds 9 (.bool m.only)).setIfInBounds 10 (slC m.whr)).setIfInBounds 11 (slC m.group)).setIfInBounds 12 (slC m.having)).setIfInBounds 13 (slC m.order)).setIfInBounds 14 (slC m.limit)
section
variable {ρ : Rdr} {w wr w2 : World} {big : Bool} {P : Ps St} {σ σ' : RSt} {q b : Nat} {m : StM} {d : St}
theorem StAt.query {f : Qu → Ps St} {m' : StM} {d' : St} {qd : Qu} {qy : QuM} (A : StAt ρ w big P σ (queryP >>= f) q b wr σ' m d) (hg : ρ.g < w.heap.size) (dd : Did ρ wr w2 (stepS queryP σ') ((big || d.long) || qd.long)) (hgv : Gives queryP σ' qd) (hb : (stC m').toArray = setQ7 (stC m).toArray qy) (hl : ((big || d.long) || qd.long) = (big || d'.long))
    (hat : St.at_ w2 (Btw (b + 1) w2) d m → St.at_ w2 (Btw (b + 1) w2) d' m') : StAt ρ w big P σ (f qd) q b (putQ7 w2 b qy) (stepS queryP σ') m' d' := by
  have hq := A.qb
  have D := A.did.trans dd
  have hB := dd.blk A.blk (by omega)
  have hR := dd.blk A.res (by omega)
  have hS := hat (St.at_.keep (btw_grown dd.grown (by omega)) A.at_)
  have s := fun (w : World) (h : St.at_ w (Btw (b + 1) w) d' m') (i : Nat) (u : Value) => St.at_.keep (btw_set (w := w) (Nat.lt_succ_self b) i u) h
  have t := fun (w : World) (h : Did ρ _ w (stepS queryP σ') ((big || d.long) || qd.long)) (i : Nat) (u : Value) => h.far (q := b) hg (by omega) i u
  have r := fun (w : World) (h : Blk w q 35 st0) (i : Nat) (u : Value) => h.far (p := ⟨b, i, none⟩) (by simp; omega) u
  refine ⟨?_, ?_, ?_, ?_, A.todo.go hgv, hq⟩
  · rw [← hl]
    exact t _ (t _ (t _ (t _ (t _ (t _ (t _ (t _ D 7 _) 8 _) 9 _) 10 _) 11 _) 12 _) 13 _) 14 _
  · rw [hb]
    exact (((((((hB.set_ 7 _).set_ 8 _).set_ 9 _).set_ 10 _).set_ 11 _).set_ 12 _).set_ 13 _).set_ 14 _
  · exact r _ (r _ (r _ (r _ (r _ (r _ (r _ (r _ hR 7 _) 8 _) 9 _) 10 _) 11 _) 12 _) 13 _) 14 _
  · exact s _ (s _ (s _ (s _ (s _ (s _ (s _ (s _ hS 7 _) 8 _) 9 _) 10 _) 11 _) 12 _) 13 _) 14 _
end
end Go.Proofs.YtcneefmaghoejaaGreatDoor
namespace Go.Proofs.YtcneefmaghoejaaGreatDoor
open Go.ChangeShapes Go.WideShapes Go.ChangeAt Go.RowKit
set_option linter.unusedVariables false
set_option linter.unusedSimpArgs false
theorem Did.row {ρ : Rdr} {W w : World} {σ : RSt} {big : Bool} {q : Nat} (h : Did ρ W w σ big) (hW : ρ.g < W.heap.size) (hq : W.heap.size ≤ q) (cs : Array Value) : Did ρ W (w.setRow q cs) σ big :=
  h.own hW (grown_row w q cs) (fun G e => by injection e with e; omega)
def stPost (ρ : Rdr) (w : World) (big : Bool) (P : Ps St) (σ : RSt) (e : Ending) (w' : World) : Prop := ∃ (d : St) (y : StM), e = .returned (stV y) ∧ d.at_ w' (Btw w.heap.size w') y ∧ Did ρ w w' (stepS P σ) (big || d.long) ∧ Gives P σ d
theorem StAt.post {ρ : Rdr} {w wr : World} {big : Bool} {P : Ps St} {σ σ' : RSt} {q b : Nat} {m : StM} {d : St} (A : StAt ρ w big P σ (pure d) q b wr σ' m d) (hg : ρ.g < w.heap.size) : stPost ρ w big P σ (.returned (stV m)) (wr.setRow q (stC m).toArray) := by
  have hq := A.qb
  have hd := A.todo.done
  refine ⟨d, m, rfl, ?_, ?_, hd.2⟩
  · exact St.at_.keep (btw_more (by omega)) (St.at_.keep (btw_row _ (show q < b + 1 by omega) _) A.at_)
  · rw [hd.1]
    exact A.did.row hg hq.1 _
theorem StAt.bad {ρ : Rdr} {w wr : World} {big : Bool} {P k : Ps St} {σ σ' : RSt} {q b n : Nat} {m : StM} {d : St} (A : StAt ρ w big P σ k q b wr σ' m d) (h : σ' = .bad n) (k' : Ps St) : StAt ρ w big P σ k' q b wr σ' m d := by
  subst h
  exact ⟨A.did, A.blk, A.res, A.at_, A.todo.bad_as k', A.qb⟩
end Go.Proofs.YtcneefmaghoejaaGreatDoor
namespace Go.Proofs.YtcneefmaghoejaaGreatDoor
open Go.ChangeShapes Go.WideShapes Go.ChangeAt Go.RowKit
set_option linter.unusedVariables false
set_option linter.unusedSimpArgs false
def parPost (s : ByteArray) (w : World) (e : Ending) (w' : World) : Prop :=
  match parseL s.data.toList with
  | .error (p, x) => e = .returned (.tuple #[stV {}, .int .i64 p, .int .i64 x]) ∧ Below w.heap.size w w'
  | .ok d => ∃ y : StM, e = .returned (.tuple #[stV y, .int .i64 0, .int .i64 0]) ∧ d.at_ w' (Btw w.heap.size w') y ∧ Below w.heap.size w w'
theorem oneL_errs {r : List UInt8} {x : Nat} (h : oneL r = .error x) : x = 2 ∨ x = 30 := by
  match r with
  | [] => injection h with h; exact .inr h.symm
  | c :: r =>
    simp only [oneL] at h
    split at h
    · split at h
      · cases h
      · injection h with h; exact .inl h.symm
    split at h
    · split at h
      · cases h
      · injection h with h; exact .inr h.symm
    split at h
    · split at h
      · cases h
      · injection h with h; exact .inr h.symm
    · split at h
      · cases h
      · injection h with h; exact .inr h.symm
theorem lexF_errs (n : Nat) : ∀ (f : Nat) (r : List UInt8) (p x : Nat), lexF n f r = .error (p, x) → x = 2 ∨ x = 30
  | 0, r, p, x, h => by injection h with h; injection h with h1 h2; exact .inr h2.symm
  | f + 1, r, p, x, h => by
    simp only [lexF] at h
    split at h
    · cases h
    · split at h
      · rename_i e he
        injection h with h; injection h with h1 h2
        subst h2
        exact oneL_errs he
      · split at h
        · rename_i y hy
          injection h with h
          subst h
          exact lexF_errs n f _ _ _ hy
        · cases h
theorem lexL_errs {s : List UInt8} {p x : Nat} (h : lexL s = .error (p, x)) : x = 2 ∨ x = 30 := by
  unfold lexL at h
  split at h
  · injection h with h; injection h with h1 h2; exact .inl h2.symm
  · exact lexF_errs _ _ _ _ _ h
theorem Rdr.start {w : World} {gl c : Nat} {l : List Tok} (hgl : gl < w.heap.size) (hc : ∀ k t, l[k]? = some t → w.cell? ⟨gl, k * 4, none⟩ = some (.int .u8 t.w.k) ∧ w.cell? ⟨gl, k * 4 + 1, none⟩ = some (.string ⟨t.w.s.toArray⟩) ∧ w.cell? ⟨gl, k * 4 + 2, none⟩ = some (.int .i64 t.w.n) ∧ w.cell? ⟨gl, k * 4 + 3, none⟩ = some (.int .i64 t.p))
    (he : EndsW (l.map (·.w))) (hlen : l.length ≤ 4097) (hwd : ∀ t ∈ l, WdOk t.w) :
    (⟨w.heap.size, gl, c, l⟩ : Rdr).at (w.alloc (.cells #[.slice (some ⟨gl, 0, none⟩) l.length c, .int .i64 0, .int .i64 (-1), .bool false] 65)) (.good (l.map (·.w))) false := by
  have hb := Blk.new w 65 #[.slice (some ⟨gl, 0, none⟩) l.length c, .int .i64 0, .int .i64 (-1), .bool false]
  refine ⟨?_, hgl, ?_, ⟨List.suffix_refl _, he⟩, ?_, fun t ht => (hwd t ht).1⟩
  · have e : (⟨w.heap.size, gl, c, l⟩ : Rdr).cells (.good (l.map (·.w))) false = #[.slice (some ⟨gl, 0, none⟩) l.length c, .int .i64 0, .int .i64 (-1), .bool false] := by
      simp [Rdr.cells, Rdr.n, Rdr.bad, RSt.left]
    rw [e]
    exact hb
  · intro k t hk
    have c := fun o => World.cell?_alloc_lt w (.cells #[.slice (some ⟨gl, 0, none⟩) l.length c, .int .i64 0, .int .i64 (-1), .bool false] 65) ⟨gl, o, none⟩ hgl
    obtain ⟨h1, h2, h3, h4⟩ := hc k t hk
    exact ⟨(c _).trans h1, (c _).trans h2, (c _).trans h3, (c _).trans h4⟩
  · show l.length ≤ 5000
    omega
end Go.Proofs.YtcneefmaghoejaaGreatDoor
namespace Go.Proofs.YtcneefmaghoejaaGreatDoor
open Go.ChangeShapes Go.WideShapes Go.ChangeAt Go.RowKit
set_option linter.unusedVariables false
set_option linter.unusedSimpArgs false
structure Cel3 (w : World) (b : Nat) (cs : Array Value) (x y : Value) : Prop where
  st : Blk w b 35 cs
  at_ : Blk w (b + 1) 3 #[x]
  er : Blk w (b + 2) 36 #[y]
theorem Cel3.later {w w' : World} {b : Nat} {cs : Array Value} {x y : Value} (h : Cel3 w b cs x y) (hb : Below w.heap.size w w') : Cel3 w' b cs x y := ⟨h.st.later hb, h.at_.later hb, h.er.later hb⟩
theorem Cel3.grown {w w' : World} {b g : Nat} {cs : Array Value} {x y : Value} (h : Cel3 w b cs x y) (hb : w.grownBy w' (some g)) (hg : b + 2 < g) : Cel3 w' b cs x y :=
  ⟨h.st.grown hb (fun e => by injection e with e; omega), h.at_.grown hb (fun e => by injection e with e; omega), h.er.grown hb (fun e => by injection e with e; omega)⟩
theorem Cel3.lt {w : World} {b : Nat} {cs : Array Value} {x y : Value} (h : Cel3 w b cs x y) : b + 2 < w.heap.size := h.er.lt
theorem gpar_results (w : World) (b : Nat) (cs : Array Value) (x y : Value) (h : Cel3 w b cs x y) (hs : cs.size = 28) (tmps : Array Value) (h2 : tmps.getD 2 undef = .pointer (some ⟨b, 0, none⟩)) (h3 : tmps.getD 3 undef = .pointer (some ⟨b + 1, 0, none⟩)) (h4 : tmps.getD 4 undef = .pointer (some ⟨b + 2, 0, none⟩)) :
    (results Tryz.f10 tmps).run Tryz.prog w = .ok (.tuple #[.agg cs, x, y]) w := by
  have h2' : tmps[2]?.getD undef = .pointer (some ⟨b, 0, none⟩) := by simpa using h2
  have h3' : tmps[3]?.getD undef = .pointer (some ⟨b + 1, 0, none⟩) := by simpa using h3
  have h4' : tmps[4]?.getD undef = .pointer (some ⟨b + 2, 0, none⟩) := by simpa using h4
  have e1 := h.at_.cell 0
  have e2 := h.er.cell 0
  simp only [List.getElem?_toArray, List.getElem?_cons_zero] at e1 e2
  have l0 := run_loadVar_row (P := Tryz.prog) w b 35 35 cs (0, 0) _ h.st Tryz.underlying35 rfl (by rw [hs]; exact gst_info)
  have l1 : (loadVar 3 ⟨b + 1, 0, none⟩).run Tryz.prog w = .ok x w := by simp [go_sem, e1]
  have l2 : (loadVar 36 ⟨b + 2, 0, none⟩).run Tryz.prog w = .ok y w := by simp [go_sem, e2]
  simp [results, Tryz.results10, h2', h3', h4', asAddr, Sem.run_bind, l0, l1, l2, Result.andThen]
def catchD (b : Nat) : Deferred := { target := .fn (.func 16) (catchA b (b + 1) (b + 2)), args := #[] }
theorem door_fault {R : Ending → World → Prop} {w : World} {N b : Nat} {cs0 : Array Value} {x y : Value} (h : Cel3 w b cs0 x y) (hs : cs0.size = 28) (hN : N ≤ b) (p : Int) {tmps : Array Value} (h2 : tmps.getD 2 undef = .pointer (some ⟨b, 0, none⟩)) (h3 : tmps.getD 3 undef = .pointer (some ⟨b + 1, 0, none⟩)) (h4 : tmps.getD 4 undef = .pointer (some ⟨b + 2, 0, none⟩))
    (hR : ∀ w', Below N w w' → R (.returned (.tuple #[.agg gst0, .int .i64 p, .int .i64 31])) w') :
    bodyPostD Tryz.prog Tryz.f10 R (.panic [{ v := fltI p, recovered := false }]) { tmps := tmps, defers := [catchD b] } w := by
  refine leaves_cons (f := 16) (args := catchA b (b + 1) (b + 2)) (by simp) (by unfold catchA; simp [go_sem]) ?_
  refine (gcatch_fault p N b (b + 1) (b + 2) hN (by omega) (by omega) (by omega) (by omega) (by omega) w cs0 hs h.st x y h.at_ h.er []).mono ?_
  rintro e u' w' ⟨rfl, rfl, B0, B1, B2, hb⟩
  show Leaves _ _ _ _ [] .returning w'
  exact ⟨_, gpar_results w' b gst0 _ _ ⟨B0, B1, B2⟩ rfl tmps h2 h3 h4, hR w' hb⟩
theorem door_idle {R : Ending → World → Prop} {w : World} {b : Nat} {cs : Array Value} {x y : Value} (h : Cel3 w b cs x y) (hs : cs.size = 28) {tmps : Array Value} (h2 : tmps.getD 2 undef = .pointer (some ⟨b, 0, none⟩)) (h3 : tmps.getD 3 undef = .pointer (some ⟨b + 1, 0, none⟩)) (h4 : tmps.getD 4 undef = .pointer (some ⟨b + 2, 0, none⟩))
    (hR : ∀ w', Below w.heap.size w w' → R (.returned (.tuple #[.agg cs, x, y])) w') :
    bodyPostD Tryz.prog Tryz.f10 R .ret { tmps := tmps, defers := [catchD b] } w := by
  refine leaves_cons (f := 16) (args := catchA b (b + 1) (b + 2)) (by simp) (by unfold catchA; simp [go_sem]) ?_
  refine (gcatch_idle b (b + 1) (b + 2) w).mono ?_
  rintro e u' w' ⟨rfl, rfl, hb⟩
  show Leaves _ _ _ _ [] .returning w'
  exact ⟨_, gpar_results w' b cs _ _ (h.later hb) hs tmps h2 h3 h4, hR w' hb⟩
theorem door_plain {R : Ending → World → Prop} {w : World} {b : Nat} {cs : Array Value} {x y : Value} (h : Cel3 w b cs x y) (hs : cs.size = 28) {tmps : Array Value} (h2 : tmps.getD 2 undef = .pointer (some ⟨b, 0, none⟩)) (h3 : tmps.getD 3 undef = .pointer (some ⟨b + 1, 0, none⟩)) (h4 : tmps.getD 4 undef = .pointer (some ⟨b + 2, 0, none⟩))
    (hR : R (.returned (.tuple #[.agg cs, x, y])) w) :
    bodyPostD Tryz.prog Tryz.f10 R .ret { tmps := tmps, defers := [] } w :=
  ⟨_, gpar_results w b cs _ _ h hs tmps h2 h3 h4, hR⟩
theorem Rdr.gstart {w : World} {gl c B : Nat} {l : List Tok} (hgl : gl < w.heap.size) (hc : ∀ k t, l[k]? = some t → w.cell? ⟨gl, k * 4, none⟩ = some (.int .u8 t.w.k) ∧ w.cell? ⟨gl, k * 4 + 1, none⟩ = some (.string ⟨t.w.s.toArray⟩) ∧ w.cell? ⟨gl, k * 4 + 2, none⟩ = some (.int .i64 t.w.n) ∧ w.cell? ⟨gl, k * 4 + 3, none⟩ = some (.int .i64 t.p))
    (he : EndsW (l.map (·.w))) (hlen : l.length ≤ 4097) (hwd : ∀ t ∈ l, WdOk t.w) (hE : Env B w) :
    (⟨w.heap.size, gl, c, l⟩ : Rdr).gat (w.alloc (.cells #[.slice (some ⟨gl, 0, none⟩) l.length c, .int .i64 0, .bool false, .bool false] 60)) (l.map (·.w)) false false := by
  have hb := Blk.new w 60 #[.slice (some ⟨gl, 0, none⟩) l.length c, .int .i64 0, .bool false, .bool false]
  refine ⟨?_, hgl, ?_, ⟨List.suffix_refl _, he⟩, ?_, fun t ht => (hwd t ht).1, B, hE.size, hE.later (later_new w _)⟩
  · have e : (⟨w.heap.size, gl, c, l⟩ : Rdr).gcells (l.map (·.w)) false false = #[.slice (some ⟨gl, 0, none⟩) l.length c, .int .i64 0, .bool false, .bool false] := by
      simp [Rdr.gcells, Rdr.n]
    rw [e]
    exact hb
  · intro k t hk
    have c := fun o => World.cell?_alloc_lt w (.cells #[.slice (some ⟨gl, 0, none⟩) l.length c, .int .i64 0, .bool false, .bool false] 60) ⟨gl, o, none⟩ hgl
    obtain ⟨h1, h2, h3, h4⟩ := hc k t hk
    exact ⟨(c _).trans h1, (c _).trans h2, (c _).trans h3, (c _).trans h4⟩
  · show l.length ≤ 5000
    omega
theorem Rdr.gat.rowOld {ρ : Rdr} {w : World} {l : Wds} {lg dp : Bool} {b : Nat} (h : ρ.gat w l lg dp) (cs : Array Value) (h1 : ρ.g ≠ b) (h2 : ρ.gl ≠ b) (hE : ∃ B, B ≤ ρ.g ∧ Env B (w.setRow b cs)) : ρ.gat (w.setRow b cs) l lg dp :=
  ⟨h.blk.row_far h1 cs, h.lt, fun k t hk => by
    have c := cell_of_heap (setRow_other w b ρ.gl cs h2)
    obtain ⟨h1, h2, h3, h4⟩ := h.cell k t hk
    exact ⟨(c _).trans h1, (c _).trans h2, (c _).trans h3, (c _).trans h4⟩, h.of, h.small, h.nums, hE⟩
theorem glex_ok {s : ByteArray} {l : List Tok} (h : lexL s.data.toList = .ok l) {w : World} (hE : LexEnv w) (hs : s.size ≤ 4294967280) :
    Calls Tryz.prog 13 #[.string s] w fun e w' => ∃ A c, e = .returned (.tuple #[.slice A l.length c, .int .i64 0, .int .i64 0]) ∧ TokS w' w.heap.size (.slice A l.length c) l ∧ Below w.heap.size w w' := by
  refine (lex_any s w hE hs).mono ?_
  intro e w' hp
  unfold lexPost at hp
  rw [h] at hp
  obtain ⟨v, rfl, ho, hb⟩ := hp
  obtain ⟨A, c, rfl⟩ := ho.form
  exact ⟨A, c, rfl, ho, hb⟩
theorem glex_err {s : ByteArray} {p x : Nat} (h : lexL s.data.toList = .error (p, x)) {w : World} (hE : LexEnv w) (hs : s.size ≤ 4294967280) :
    Calls Tryz.prog 13 #[.string s] w fun e w' => e = .returned (.tuple #[.slice none 0 0, .int .i64 p, .int .i64 x]) ∧ Below w.heap.size w w' := by
  refine (lex_any s w hE hs).mono ?_
  intro e w' hp
  unfold lexPost at hp
  rw [h] at hp
  exact hp
end Go.Proofs.YtcneefmaghoejaaGreatDoor
