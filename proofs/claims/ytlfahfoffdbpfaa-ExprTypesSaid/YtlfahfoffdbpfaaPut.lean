/- tidelinelaw15.put of a node: a new tree. Printed by gen_put.py. -/
import Derived.Test.YtlfahfoffdbpfaaWorth
import Derived.Test.YtlfahfoffdbpfaaTree
import Derived.Deep.DeepCutAuto
namespace Go.Proofs.Ytlfahfoffdbpfaa
open Go.ChangeShapes Go.WideShapes Go.ChangeAt Go.RowKit
set_option linter.unusedVariables false
set_option linter.unusedSimpArgs false

theorem wpList_append_two {α : Type} {f : α → List Value} {e : TypeId} {size : Nat} {w : World} {base : Nat} {v : Value} {l : List α} {P : Program} {ops : Array Oper} {rest : List Oper} {o : Oper} {a : Act} {Q : Exit → Act → World → Prop} (hgd : o.guard = none) (s x : Operand) (t : TypeId)
    (ho : o.op = .call { callee := .builtin .append, args := #[s, x], argTypes := #[t, t] })
    (z : Value) (bytes : Nat) (ht : P.underlying t = some (.slice e)) (hinfo : (P.info? e).map (fun i => (i.zero, i.size, i.bytes)) = some (some z, size, bytes)) (hzs : z.cells.size = size) (hsz : 0 < size)
    (y : α) (hf : (f y).length = size) (h1 : ∀ u ∈ f y, u.oneCell' = true)
    (hs : a.eval s = v) (hown : OwnF f e size w base v l)
    (g : Nat) (hx : a.eval x = .slice (some ⟨g, 0, none⟩) 1 1) (hg : Blk w g e (f y).toArray)
    (hlen : (l.length + 1) * bytes ≤ 140737488355328) (hlen2 : l.length + 1 ≤ 140737488355328) (hbase : base ≤ w.heap.size)
    (h : ∀ v' w', OwnF f e size w' base v' (l ++ [y]) → w.grownBy w' v.ownBlock → (v'.ownBlock = v.ownBlock ∨ v'.ownBlock = some w.heap.size) → wpList P ops Q rest (a.put o.dst v') w') : wpList P ops Q (o :: rest) a w := by
  obtain ⟨i0, hi0, hz0, hz1, hz2⟩ := info_parts hinfo
  refine wpList_append_any w hgd s x t ho base e i0 z size bytes ht hi0 hz0 hz1 hz2 hzs hsz v l.length (l.flatMap f) hs hown (g + 1) (some ⟨g, 0, none⟩) 1 1 (f y) hx ⟨by omega, fun _ => ⟨_, rfl, Nat.lt_succ_self _, ?_⟩⟩ h1 (by unfold maxLen; omega) hlen hbase ?_
  · intro j u hu
    have : (Addr.add ⟨g, 0, none⟩ j) = ⟨g, j, none⟩ := by unfold Addr.add; split <;> simp_all
    rw [this, hg.cell]
    simpa using hu
  · intro v' w' h2 h3 h4
    refine h v' w' ?_ h3 h4
    unfold OwnF
    rw [List.length_append, List.flatMap_append]
    simpa using h2

/-- blocks from B on that are there -/
def New (B : Nat) (w : World) : Nat → Prop := fun b => B ≤ b ∧ b < w.heap.size
theorem Tr.at_.new {t : Tr} {y : Ex} {B B' : Nat} {w w' : World} (h : t.at_ w (New B w) y) (hb : Below w.heap.size w w') (hB : B' ≤ B) : t.at_ w' (New B' w') y :=
  Tr.at_.keep (fun b hS => ⟨fun o => hb.cell (p := ⟨b, o, none⟩) hS.2, Nat.le_trans hB hS.1, Nat.lt_of_lt_of_le hS.2 hb.size⟩) t y h
def PutPost (t' : Tr) (w : World) (e : Ending) (w' : World) : Prop := ∃ y' : Ex, e = .returned (.agg #[.int .u8 y'.op, .int .u8 y'.v.k, .int .i64 y'.v.n, .string y'.v.s, .string y'.name, .int .i64 y'.width, .slice y'.A y'.n y'.c]) ∧ t'.at_ w' (New w.heap.size w') y' ∧ Below w.heap.size w w'
def PutIs (w : World) (cV rV : Value) (y : Ex) (t' : Tr) : Prop := ∀ W, Below w.heap.size w W → Calls Try.prog 20 #[.agg #[.int .u8 y.op, .int .u8 y.v.k, .int .i64 y.v.n, .string y.v.s, .string y.name, .int .i64 y.width, .slice y.A y.n y.c], cV, rV] W (PutPost t' W)
/-- what the operations ahead of the append leave -/
def puV (gx gy b off : Nat) (av sv cV rV : Value) (k : Nat) (y : Ex) (t' : Tr) (B0 : Nat) : Nat → World → Value → Prop
  | 0 => fun _ u => u = .pointer (some ⟨gy, 6, none⟩)
  | 1 => fun _ u => u = av
  | 2 => fun _ u => u = .pointer (some ⟨gx, 6, none⟩)
  | 3 => fun _ u => u = sv
  | 4 => fun _ u => u = .int .i64 k
  | 5 => fun _ u => u = .pointer (some ⟨b, off + k * 7, none⟩)
  | 6 => fun _ u => u = .agg #[.int .u8 y.op, .int .u8 y.v.k, .int .i64 y.v.n, .string y.v.s, .string y.name, .int .i64 y.width, .slice y.A y.n y.c]
  | 7 => fun _ u => u = cV
  | 8 => fun _ u => u = rV
  | 9 => fun w u => ∃ y' : Ex, u = .agg #[.int .u8 y'.op, .int .u8 y'.v.k, .int .i64 y'.v.n, .string y'.v.s, .string y'.name, .int .i64 y'.width, .slice y'.A y'.n y'.c] ∧ t'.at_ w (New B0 w) y'
  | 10 => fun w u => ∃ (q : Nat) (y' : Ex), u = .slice (some ⟨q, 0, none⟩) 1 1 ∧ Blk w q 36 (exCells y').toArray ∧ t'.at_ w (New B0 w) y'
  | _ => fun _ _ => True
theorem puV_stays (gx gy b off : Nat) (av sv cV rV : Value) (k : Nat) (y : Ex) (t' : Tr) (B0 : Nat) (i : Nat) (w w' : World) (u : Value) (h : puV gx gy b off av sv cV rV k y t' B0 i w u) (hr : Later w w') : puV gx gy b off av sv cV rV k y t' B0 i w' u := by
  unfold puV at *
  split at h
  all_goals first
    | exact h
    | (obtain ⟨y', h1, h2⟩ := h; exact ⟨y', h1, h2.new hr (Nat.le_refl _)⟩)
    | (obtain ⟨q, y', h1, h2, h3⟩ := h; exact ⟨q, y', h1, h2.later hr, h3.new hr (Nat.le_refl _)⟩)
/-- the trees of which the row's elements are the roots, their own blocks apart from the row's -/
def Roots (w : World) (base : Nat) (av : Value) (ts : List Tr) (ys : List Ex) : Prop := ∃ S : Nat → Prop, Tr.all_ w S ts ys ∧ ∀ b, S b → base ≤ b ∧ b < w.heap.size ∧ av.ownBlock ≠ some b
theorem all_snoc {w : World} {S : Nat → Prop} {t : Tr} {y : Ex} : ∀ {ts : List Tr} {ys : List Ex}, Tr.all_ w S ts ys → t.at_ w S y → Tr.all_ w S (ts ++ [t]) (ys ++ [y])
  | [], ys, h, ht => by
    unfold Tr.all_ at h
    subst h
    show Tr.all_ w S [t] [y]
    unfold Tr.all_
    exact ⟨y, [], rfl, ht, by unfold Tr.all_; rfl⟩
  | x :: ts, ys, h, ht => by
    unfold Tr.all_ at h
    obtain ⟨y', ys', rfl, h2, h3⟩ := h
    show Tr.all_ w S (x :: (ts ++ [t])) (y' :: (ys' ++ [y]))
    unfold Tr.all_
    exact ⟨y', _, rfl, h2, all_snoc h3 ht⟩
theorem cell_same {w w' : World} {b o : Nat} (h : w'.heap[b]? = w.heap[b]?) : w'.cell? ⟨b, o, none⟩ = w.cell? ⟨b, o, none⟩ := by
  unfold World.cell?
  simp only [h]
theorem set7 (w : World) (g : Nat) (u0 u1 u2 u3 u4 u5 u6 : Value) : (∀ b, b ≠ g → (((((((w.setCell ⟨g, 0, none⟩ u0).setCell ⟨g, 1, none⟩ u1).setCell ⟨g, 2, none⟩ u2).setCell ⟨g, 3, none⟩ u3).setCell ⟨g, 4, none⟩ u4).setCell ⟨g, 5, none⟩ u5).setCell ⟨g, 6, none⟩ u6).heap[b]? = w.heap[b]?) ∧
    (((((((w.setCell ⟨g, 0, none⟩ u0).setCell ⟨g, 1, none⟩ u1).setCell ⟨g, 2, none⟩ u2).setCell ⟨g, 3, none⟩ u3).setCell ⟨g, 4, none⟩ u4).setCell ⟨g, 5, none⟩ u5).setCell ⟨g, 6, none⟩ u6).heap.size = w.heap.size := by
  refine ⟨fun b hb => ?_, by simp [World.setCell]⟩
  have k : ∀ (w : World) (i : Nat) (u : Value), (w.setCell ⟨g, i, none⟩ u).heap[b]? = w.heap[b]? := fun w i u => Below.heap_setCell w ⟨g, i, none⟩ u b hb
  simp only [k]
theorem Roots.nil {w : World} {base : Nat} {av : Value} : Roots w base av [] [] := ⟨fun _ => False, by unfold Tr.all_; rfl, fun _ h => h.elim⟩
/-- one more root behind the row -/
theorem Roots.snoc {f : Ex → List Value} {e : TypeId} {size : Nat} {w0 w3 w4 : World} {base : Nat} {av v4 : Value} {ts : List Tr} {ys l : List Ex} {t : Tr} {y : Ex} (h : Roots w0 base av ts ys) (hO : OwnF f e size w0 base av l) (hL : Below w0.heap.size w0 w3) (hbase : base ≤ w0.heap.size) (ht : t.at_ w3 (New w0.heap.size w3) y)
    (hg : w3.grownBy w4 av.ownBlock) (hv : v4.ownBlock = av.ownBlock ∨ v4.ownBlock = some w3.heap.size) : Roots w4 base v4 (ts ++ [t]) (ys ++ [y]) := by
  obtain ⟨S, h1, h2⟩ := h
  refine ⟨fun b => S b ∨ New w0.heap.size w3 b, all_snoc (Tr.all_.keep (fun b hS => ⟨fun o => ?_, .inl hS⟩) ts ys h1) (Tr.at_.keep (fun b hS => ⟨fun o => ?_, .inr hS⟩) t y ht), ?_⟩
  · obtain ⟨_, h4, h5⟩ := h2 b hS
    rw [cell_same (hg.block b (Nat.lt_of_lt_of_le h4 hL.size) fun e => h5 e.symm)]
    exact hL.cell (p := ⟨b, o, none⟩) h4
  · refine cell_same (hg.block b hS.2 fun e => ?_)
    have := (hO.lt e.symm).1
    have := hS.1
    omega
  · intro b hS
    have hs4 := hg.size
    rcases hS with hS | hS
    · obtain ⟨h3, h4, h5⟩ := h2 b hS
      have := hL.size
      refine ⟨h3, by omega, fun e => ?_⟩
      rcases hv with hv | hv
      · exact h5 (by rw [← hv]; exact e)
      · rw [hv] at e; injection e with e; omega
    · have := hS.1
      have := hS.2
      refine ⟨by omega, by omega, fun e => ?_⟩
      rcases hv with hv | hv
      · rw [hv] at e
        have := (hO.lt e).1
        omega
      · rw [hv] at e; injection e with e; omega
theorem Roots.keep {w w' : World} {base : Nat} {av : Value} {ts : List Tr} {ys : List Ex} (h : Roots w base av ts ys) (hk : ∀ b, base ≤ b → w'.heap[b]? = w.heap[b]?) (hs : w'.heap.size = w.heap.size) : Roots w' base av ts ys := by
  obtain ⟨S, h1, h2⟩ := h
  exact ⟨S, Tr.all_.keep (fun b hS => ⟨fun o => cell_same (hk b (h2 b hS).1), hS⟩) ts ys h1, fun b hS => by rw [hs]; exact h2 b hS⟩

set_option maxHeartbeats 4000000 in
set_option maxRecDepth 100000 in
theorem put_node (op : Int) (xv : Val) (name : ByteArray) (width : Int) (A : Option Addr) (c : Nat) (cV rV : Value) (args : List (Ex × Tr)) (hnc : op ≠ 2 ∨ args ≠ []) (w : World) (hl : args.length ≤ 1599289640356) (hA : RE w w.heap.size A (args.map (·.1))) (hE : ∀ a ∈ args, PutIs w cV rV a.1 a.2) :
    Calls Try.prog 20 #[.agg #[.int .u8 op, .int .u8 xv.k, .int .i64 xv.n, .string xv.s, .string name, .int .i64 width, .slice A args.length c], cV, rV] w (PutPost (.mk op xv name width (args.map (·.2))) w) := by
  have HA := Lib.hid hA
  have HE := Lib.hid hE
  have HNC := Lib.hid hnc
  clear hA hE hnc
  go_enter Try.func20, Try.ntmps20
  have hX := (Blk.new w 36 #[.int .u8 op, .int .u8 xv.k, .int .i64 xv.n, .string xv.s, .string name, .int .i64 width, .slice A args.length c]).alloc (.cells #[.int .u8 0, .int .u8 0, .int .i64 0, .string ⟨#[]⟩, .string ⟨#[]⟩, .int .i64 0, .slice none 0 0] 36)
  have hR := Blk.new (w.alloc (.cells #[.int .u8 op, .int .u8 xv.k, .int .i64 xv.n, .string xv.s, .string name, .int .i64 width, .slice A args.length c] 36)) 36 #[.int .u8 0, .int .u8 0, .int .i64 0, .string ⟨#[]⟩, .string ⟨#[]⟩, .int .i64 0, .slice none 0 0]
  rw [World.size_alloc] at hR
  have hB := Later.then (later_new w (.cells #[.int .u8 op, .int .u8 xv.k, .int .i64 xv.n, .string xv.s, .string name, .int .i64 width, .slice A args.length c] 36)) (later_new _ (.cells #[.int .u8 0, .int .u8 0, .int .i64 0, .string ⟨#[]⟩, .string ⟨#[]⟩, .int .i64 0, .slice none 0 0] 36))
  go_upto_region 1 with fail
  generalize (w.alloc (.cells #[.int .u8 op, .int .u8 xv.k, .int .i64 xv.n, .string xv.s, .string name, .int .i64 width, .slice A args.length c] 36)).alloc (.cells #[.int .u8 0, .int .u8 0, .int .i64 0, .string ⟨#[]⟩, .string ⟨#[]⟩, .int .i64 0, .slice none 0 0] 36) = W0 at *
  generalize hgr : w.heap.size + 1 = gr at *
  have hgr2 : w.heap.size ≤ gr := by omega
  have hgr3 : w.heap.size ≠ gr := by omega
  clear hgr
  go_cut [18] (fun cc wx => cc = .bool false ∧ wx = W0)
  case first =>
    have x0 := hX.cell 0
    have x6 := hX.cell 6
    simp only [List.getElem?_toArray, List.getElem?_cons_zero, List.getElem?_cons_succ] at x0 x6
    by_cases ho : op = 2
    · have hne := HNC.out.resolve_left (fun h => h ho)
      have t1 : (op == 2) = true := by simpa using ho
      have hpos : 0 < args.length := List.length_pos_iff.2 hne
      have t2 : ((args.length : Int) == 0) = false := by simp; exact hne
      have t3 : (args.length == 0) = false := by simp; exact hne
      clear ho hne
      go_wp2_with fail
      go_meet
      exact ⟨rfl, rfl⟩
    · have t1 : (op == 2) = false := by simpa using ho
      clear ho
      go_wp2_with fail
      go_meet
      exact ⟨rfl, rfl⟩
  case rest =>
    obtain ⟨rfl, rfl⟩ := hcut
    have hwx := hX.lt
    have hwr := hR.lt
    have x0 := hX.cell 0
    have x1 := hX.cell 1
    have x2 := hX.cell 2
    have x3 := hX.cell 3
    have x4 := hX.cell 4
    have x5 := hX.cell 5
    have x6 := hX.cell 6
    simp only [List.getElem?_toArray, List.getElem?_cons_zero, List.getElem?_cons_succ] at x0 x1 x2 x3 x4 x5 x6
    go_wp2_with fail
    clear x0 x1 x2 x3 x4 x5 x6
    have bb := later_new wc (.cells #[.int .u8 op, .int .u8 xv.k, .int .i64 xv.n, .string xv.s, .string name, .int .i64 width, .slice none 0 0] 36)
    have hY := Blk.new wc 36 #[.int .u8 op, .int .u8 xv.k, .int .i64 xv.n, .string xv.s, .string name, .int .i64 width, .slice none 0 0]
    replace hX := hX.later bb
    replace hR := hR.later bb
    replace hB := Later.then hB bb
    clear bb
    generalize wc.alloc (.cells #[.int .u8 op, .int .u8 xv.k, .int .i64 xv.n, .string xv.s, .string name, .int .i64 width, .slice none 0 0] 36) = W at *
    have hgy := hY.lt
    have hgx := hX.lt
    have hgR := hR.lt
    have hgyw : w.heap.size ≤ wc.heap.size := by omega
    generalize hgyd : wc.heap.size = gy at *
    clear hgyd
    go_loopw [9] (fun i wr => ∃ (k : Nat) (av : Value) (ys : List Ex), k ≤ args.length ∧ i = .int .i64 k ∧ Blk wr gy 36 #[.int .u8 op, .int .u8 xv.k, .int .i64 xv.n, .string xv.s, .string name, .int .i64 width, av] ∧ OwnF exCells 36 7 wr W.heap.size av ys ∧ ys.length = k ∧ Roots wr W.heap.size av ((args.take k).map (·.2)) ys ∧ Blk wr w.heap.size 36 #[.int .u8 op, .int .u8 xv.k, .int .i64 xv.n, .string xv.s, .string name, .int .i64 width, .slice A args.length c] ∧ Blk wr gr 36 #[.int .u8 0, .int .u8 0, .int .i64 0, .string ⟨#[]⟩, .string ⟨#[]⟩, .int .i64 0, .slice none 0 0] ∧ Below w.heap.size w wr ∧ W.heap.size ≤ wr.heap.size) (fun i _ => args.length - (intOf i).toNat)
    case atStart => exact ⟨0, _, [], Nat.zero_le _, rfl, hY, OwnF.nil, rfl, Roots.nil, hX, hR, hB, Nat.le_refl _⟩
    case round =>
      obtain ⟨k, av, ys, hk, rfl, hY1, hO, hyl, hRo, hX1, hR1, hB1, hW1⟩ := hrel
      clear hY hX hR hB
      have HO := Lib.hid hO
      have HYL := Lib.hid hyl
      have HRO := Lib.hid hRo
      clear hO hyl hRo
      by_cases hlt : k < args.length
      · obtain ⟨b, off, rfl, hb, hval⟩ := (HA.out.below hB1).at_ (show k < (args.map (·.1)).length by simpa using hlt)
        have he1 : (args.map (·.1))[k]'(by simpa using hlt) = args[k].1 := by simp
        rw [he1] at hval
        clear he1
        have hev := HE.out args[k] (List.getElem_mem hlt)
        have HT := Lib.hid (show args.take (k + 1) = args.take k ++ [args[k]] by rw [List.take_add_one, List.getElem?_eq_getElem hlt]; rfl)
        generalize args[k] = yt at *
        obtain ⟨y, t'⟩ := yt
        dsimp only at *
        have hlenk : ys.length + 1 ≤ 1599289640356 := by have := HYL.out; omega
        have x6 := hX1.cell 6
        simp only [List.getElem?_toArray, List.getElem?_cons_zero, List.getElem?_cons_succ] at x6
        have hbw : b < wr.heap.size := Nat.lt_of_lt_of_le hb hB1.size
        go_wp2_with fail
        clear x6
        refine region_by 11 (puV w.heap.size gy b off av (.slice (some ⟨b, off, none⟩) args.length c) cV rV k y t' wr.heap.size) (fun i w w' u h hr => puV_stays _ _ _ _ _ _ _ _ _ _ _ _ _ _ _ _ h hr) (by kernel_rfl) (by kernel_rfl) (by kernel_rfl) ?_ ?_
        · simp only [List.take_succ_cons, List.take_zero]
          refine ⟨?_, ?_, ?_, ?_, ?_, ?_, ?_, ?_, ?_, ?_, ?_, trivial⟩
          · intro ρ w3 hc hL hr
            have h1 : ρ (.tmp 8) = .pointer (some ⟨gy, 0, none⟩) := hr.1
            exact opW_run (w' := w3) (by simp [go_sem, h1]) ⟨Later.refl _, rfl⟩
          · intro ρ w3 hc hL hr
            have h1 : ρ (.tmp 53) = .pointer (some ⟨gy, 6, none⟩) := hr.1
            have c6 := (hY1.later hL).cell 6
            simp only [List.getElem?_toArray, List.getElem?_cons_zero, List.getElem?_cons_succ] at c6
            exact opW_run (v := av) (w' := w3) (by simp [go_sem, h1, c6]) ⟨Later.refl _, rfl⟩
          · intro ρ w3 hc hL hr
            have h1 : ρ (.tmp 3) = .pointer (some ⟨w.heap.size, 0, none⟩) := hr.1
            exact opW_run (w' := w3) (by simp [go_sem, h1]) ⟨Later.refl _, rfl⟩
          · intro ρ w3 hc hL hr
            have h1 : ρ (.tmp 55) = .pointer (some ⟨w.heap.size, 6, none⟩) := hr.1
            have c6 := (hX1.later hL).cell 6
            simp only [List.getElem?_toArray, List.getElem?_cons_zero, List.getElem?_cons_succ] at c6
            exact opW_run (w' := w3) (by simp [go_sem, h1, c6]) ⟨Later.refl _, rfl⟩
          · intro ρ w3 hc hL hr
            have h1 : ρ (.tmp 9) = .int .i64 k := hr.1
            exact opW_move (.inl rfl) h1 ⟨Later.refl _, rfl⟩
          · intro ρ w3 hc hL hr
            have h1 : ρ (.tmp 56) = .slice (some ⟨b, off, none⟩) args.length c := hr.1
            have h2 : ρ (.tmp 57) = .int .i64 k := hr.2.1
            refine opW_run (v := .pointer (some ⟨b, off + k * 7, none⟩)) (w' := w3) ?_ ⟨Later.refl _, rfl⟩
            simp [go_sem, h1, h2, hlt]
          · intro ρ w3 hc hL hr
            have h1 : ρ (.tmp 58) = .pointer (some ⟨b, off + k * 7, none⟩) := hr.1
            have c0 := hval.keep (w' := w3) fun o => hL.cell (p := ⟨b, o, none⟩) hbw
            unfold ExAt at c0
            exact opW_run (w' := w3) (by simp [go_sem, h1, c0]) ⟨Later.refl _, rfl⟩
          · intro ρ w3 hc hL hr
            have h1 : ρ (.tmp 1) = cV := hr.1
            exact opW_move (.inl rfl) h1 ⟨Later.refl _, rfl⟩
          · intro ρ w3 hc hL hr
            have h1 : ρ (.tmp 2) = rV := hr.1
            exact opW_move (.inl rfl) h1 ⟨Later.refl _, rfl⟩
          · intro ρ w3 hc hL hr
            have e1 := hc.func 20
            have h1 : ρ (.tmp 59) = .agg #[.int .u8 y.op, .int .u8 y.v.k, .int .i64 y.v.n, .string y.v.s, .string y.name, .int .i64 y.width, .slice y.A y.n y.c] := hr.1
            have h2 : ρ (.tmp 60) = cV := hr.2.1
            have h3 : ρ (.tmp 61) = rV := hr.2.2.1
            refine opW_call (f := 20) (args := #[.agg #[.int .u8 y.op, .int .u8 y.v.k, .int .i64 y.v.n, .string y.v.s, .string y.name, .int .i64 y.width, .slice y.A y.n y.c], cV, rV]) (w' := w3) (by simp [go_sem, e1, h1, h2, h3]) ?_
            refine (hev w3 (Later.then hB1 hL)).mono ?_
            rintro e w4 ⟨y', rfl, hat, b4⟩
            exact ⟨_, rfl, b4, y', rfl, hat.new (Later.refl _) hL.size⟩
          · intro ρ w3 hc hL hr
            obtain ⟨y', h1, hat⟩ : ∃ y' : Ex, ρ (.tmp 62) = .agg #[.int .u8 y'.op, .int .u8 y'.v.k, .int .i64 y'.v.n, .string y'.v.s, .string y'.name, .int .i64 y'.width, .slice y'.A y'.n y'.c] ∧ t'.at_ w3 (New wr.heap.size w3) y' := hr.1
            exact opW_run (v := .slice (some ⟨w3.heap.size, 0, none⟩) 1 1) (w' := w3.alloc (.cells #[.int .u8 y'.op, .int .u8 y'.v.k, .int .i64 y'.v.n, .string y'.v.s, .string y'.name, .int .i64 y'.width, .slice y'.A y'.n y'.c] 36)) (by simp [go_sem, h1]) ⟨later_new w3 _, ⟨_, y', rfl, Blk.new w3 _ _, hat.new (later_new w3 _) (Nat.le_refl _)⟩⟩
        · intro w3 hL
          simp only [List.take_succ_cons, List.take_zero, List.drop_succ_cons, List.drop_zero]
          intro a0 h0 a1 h1 a2 h2 a3 h3 a4 h4 a5 h5 a6 h6 a7 h7 a8 h8 a9 h9 a10 h10
          obtain ⟨y9, h9, _⟩ := h9
          obtain ⟨q, y', h10, hq, hat⟩ := h10
          have h0 : _ = a0 := Eq.symm h0
          have h1 : av = a1 := Eq.symm h1
          have h2 : _ = a2 := Eq.symm h2
          have h3 : _ = a3 := Eq.symm h3
          have h4 : _ = a4 := Eq.symm h4
          have h5 : _ = a5 := Eq.symm h5
          have h6 : _ = a6 := Eq.symm h6
          have h7 : cV = a7 := Eq.symm h7
          have h8 : rV = a8 := Eq.symm h8
          have h9 : _ = a9 := Eq.symm h9
          have h10 : _ = a10 := Eq.symm h10
          subst h0 h1 h2 h3 h4 h5 h6 h7 h8 h9 h10
          have HAT := Lib.hid hat
          have HL := Lib.hid hL
          have HO0 := HO
          have HW0 := Lib.hid hW1
          replace hY1 := hY1.later hL
          replace hX1 := hX1.later hL
          replace hR1 := hR1.later hL
          replace hB1 := Later.then hB1 hL
          replace hW1 := Nat.le_trans hW1 hL.size
          replace HO := Lib.hid (HO.out.later hL)
          have HQ := Lib.hid hq
          have HY1 := Lib.hid hY1
          have HX1 := Lib.hid hX1
          have HR1 := Lib.hid hR1
          clear hq hL hval hX1 hR1 hY1 hat hev
          simp only [FinOf, Act.put, List.setIfInBounds_toArray, List.set_cons_succ, List.set_cons_zero]
          go_wp2_with (first
            | (at_builtin
               refine wpList_append_two rfl (.tmp 54) (.tmp 63) 34 rfl _ 88 Try.underlying34 ex_info rfl (by omega) y' rfl (by simp [exCells, Value.oneCell']) rfl HO.out q rfl HQ.out (by omega) (by omega) hW1 ?_
               intro v4 w4 o4 g4 n4
               obtain ⟨A4, c4, hv4, _, _, _⟩ := o4.reads
               subst hv4
               have hne0 : some gy ≠ av.ownBlock := fun e => by have := (HO.out.lt e.symm).2.1; omega
               have hne1 : some w.heap.size ≠ av.ownBlock := fun e => by have := (HO.out.lt e.symm).2.1; omega
               have hne2 : some gr ≠ av.ownBlock := fun e => by have := (HO.out.lt e.symm).2.1; omega
               have hY4 := HY1.out.grown g4 hne0
               have hX4 := HX1.out.grown g4 hne1
               have hR4 := HR1.out.grown g4 hne2
               have hb4 := below_own HO.out g4 hW1
               have ro4 := HRO.out.snoc HO0.out HL.out HW0.out HAT.out g4 n4
               have c6 := hY4.cell 6
               have f6 := hY4.frozen 6
               simp only [List.getElem?_toArray, List.getElem?_cons_zero, List.getElem?_cons_succ] at c6
               have O4 := Lib.hid o4
               have Y4 := Lib.hid hY4
               have X4 := Lib.hid hX4
               have R4 := Lib.hid hR4
               have B4 := Lib.hid hb4
               have RO4 := Lib.hid ro4
               clear o4 g4 n4 hne0 hne1 hne2 hX4 hR4 hY4 hb4 HO HO0 HX1 HR1 HY1 HQ HAT HL HW0 ro4 HRO))
          go_roundw
          case rel =>
            have hs4 : (w4.setCell ⟨gy, 6, none⟩ (.slice A4 (ys.length + 1) c4)).heap.size = w4.heap.size := by simp [World.setCell]
            refine ⟨k + 1, .slice A4 (ys.length + 1) c4, ys ++ [y'], hlt, by go_num, ?_, ?_, by have := HYL.out; simp; omega, ?_, ?_, ?_, ?_, ?_⟩
            · have := Y4.out.set_ 6 (.slice A4 (ys.length + 1) c4)
              simpa using this
            · have h4 := O4.out
              rw [List.length_append] at h4
              refine OwnF.keep (w := w4) h4 fun g hg => ?_
              have hgB := (OwnF.lt h4 hg).2.1
              exact Below.heap_setCell w4 ⟨gy, 6, none⟩ _ g (by show g ≠ gy; omega)
            · rw [HT.out, List.map_append]
              have h4 := RO4.out
              rw [List.length_append] at h4
              exact h4.keep (fun b hbb => Below.heap_setCell w4 ⟨gy, 6, none⟩ _ b (by show b ≠ gy; omega)) hs4
            · exact X4.out.far (p := ⟨gy, 6, none⟩) (by show w.heap.size ≠ gy; omega) _
            · exact R4.out.far (p := ⟨gy, 6, none⟩) (by show gr ≠ gy; omega) _
            · exact (hB1.trans (B4.out.mono (by omega))).setCell (p := ⟨gy, 6, none⟩) hgyw _
            · have := B4.out.size
              rw [hs4]
              omega
          case measure => simp [intOf]; omega
      · have htk : args.take k = args := List.take_of_length_le (by omega)
        have hyl : ys.length = args.length := by have := HYL.out; omega
        rw [htk] at HRO
        obtain ⟨A5, c5, hav, hce⟩ := own_cells (f := exCells) (size := 7) (fun _ => rfl) HO.out
        rw [hyl] at hav
        subst hav
        have HCE := Lib.hid hce
        clear hce hyl htk
        have x6 := hX1.cell 6
        simp only [List.getElem?_toArray, List.getElem?_cons_zero, List.getElem?_cons_succ] at x6
        have y0 := hY1.cell 0
        have y1 := hY1.cell 1
        have y2 := hY1.cell 2
        have y3 := hY1.cell 3
        have y4 := hY1.cell 4
        have y5 := hY1.cell 5
        have y6 := hY1.cell 6
        simp only [List.getElem?_toArray, List.getElem?_cons_zero, List.getElem?_cons_succ] at y0 y1 y2 y3 y4 y5 y6
        have r0 := hR1.cell
        have r00 := r0 0
        have r01 := r0 1
        have r02 := r0 2
        have r03 := r0 3
        have r04 := r0 4
        have r05 := r0 5
        have r06 := r0 6
        simp only [List.getElem?_toArray, List.getElem?_cons_zero, List.getElem?_cons_succ] at r00 r01 r02 r03 r04 r05 r06
        clear r0
        have fr := Blk.frozen hR1
        go_wp2_with fail
        have s7 := set7 wr gr (.int .u8 op) (.int .u8 xv.k) (.int .i64 xv.n) (.string xv.s) (.string name) (.int .i64 width) (.slice A5 args.length c5)
        refine bodyPost_ret (v := .agg #[.int .u8 op, .int .u8 xv.k, .int .i64 xv.n, .string xv.s, .string name, .int .i64 width, .slice A5 args.length c5]) (by simp [results, Try.results20, go_sem, r00, r01, r02, r03, r04, r05, r06]; try rfl) rfl ⟨⟨op, xv, name, width, A5, args.length, c5⟩, rfl, ?_, ((((((hB1.setCell hgr2 _).setCell hgr2 _).setCell hgr2 _).setCell hgr2 _).setCell hgr2 _).setCell hgr2 _).setCell hgr2 _⟩
        clear x6 r00 r01 r02 r03 r04 r05 r06 fr
        unfold Tr.at_
        refine ⟨rfl, rfl, rfl, rfl, by simp, ys, ?_, ?_⟩
        · rcases HCE.out with h | ⟨g, rfl, hg, hce⟩
          · exact .inl h
          · have hgb := (HO.out.lt (g := g) rfl).2.1
            refine .inr ⟨g, 0, rfl, ⟨by omega, by rw [s7.2]; exact hg⟩, fun i x hx => ?_⟩
            have k := fun j u hj hu => (cell_same (o := i * 7 + j) (s7.1 g (by omega))).trans (hce i x j u hx hj hu)
            exact ⟨by simpa using k 0 _ (by omega) rfl, by simpa using k 1 _ (by omega) rfl, by simpa using k 2 _ (by omega) rfl, by simpa using k 3 _ (by omega) rfl, by simpa using k 4 _ (by omega) rfl, by simpa using k 5 _ (by omega) rfl, by simpa using k 6 _ (by omega) rfl⟩
        · obtain ⟨S, h1, h2⟩ := HRO.out
          exact Tr.all_.keep (fun b hS => ⟨fun o => cell_same (s7.1 b (by have := (h2 b hS).1; omega)), by have := (h2 b hS).1; omega, by rw [s7.2]; exact (h2 b hS).2.1⟩) _ _ h1
end Go.Proofs.Ytlfahfoffdbpfaa
