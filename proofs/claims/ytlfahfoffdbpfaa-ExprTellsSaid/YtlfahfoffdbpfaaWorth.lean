/- The law's worth: of an operation of literals. -/
import Derived.Test.YtlfahfoffdbpfaaEval1
import Derived.Test.YtlfahfoffdbpfaaLits
namespace Go.Proofs.Ytlfahfoffdbpfaa
open Go.ChangeShapes Go.WideShapes Go.ChangeAt Go.RowKit
set_option linter.unusedVariables false
set_option linter.unusedSimpArgs false

def litEx (v : Val) : Ex := ⟨1, v, ByteArray.empty, 0, none, 0, 0⟩
def exCells (y : Ex) : List Value := [.int .u8 y.op, .int .u8 y.v.k, .int .i64 y.v.n, .string y.v.s, .string y.name, .int .i64 y.width, .slice y.A y.n y.c]
theorem ex_info : (Try.prog.info? 36).map (fun i => (i.zero, i.size, i.bytes)) = some (some (.agg #[.int .u8 0, .int .u8 0, .int .i64 0, .string ⟨#[]⟩, .string ⟨#[]⟩, .int .i64 0, .slice none 0 0]), 7, 88) := by kernel_rfl
theorem own_re {w : World} {base : Nat} {v : Value} {l : List Ex} (h : OwnF exCells 36 7 w base v l) : ∃ A c, v = .slice A l.length c ∧ RE w w.heap.size A l := by
  obtain ⟨A, c, rfl, hc⟩ := own_cells (f := exCells) (size := 7) (fun _ => rfl) h
  refine ⟨A, c, rfl, ?_⟩
  rcases hc with hc | ⟨g, rfl, hg, hc⟩
  · exact .inl hc
  · refine .inr ⟨g, 0, rfl, hg, fun i x hx => ?_⟩
    have k := fun j u hj hu => hc i x j u hx hj hu
    exact ⟨by simpa using k 0 _ (by omega) rfl, by simpa using k 1 _ (by omega) rfl, by simpa using k 2 _ (by omega) rfl, by simpa using k 3 _ (by omega) rfl, by simpa using k 4 _ (by omega) rfl, by simpa using k 5 _ (by omega) rfl, by simpa using k 6 _ (by omega) rfl⟩

/-- a good literal is worth its value -/
theorem eval_lit (w : World) (cV rV : Value) (v : Val) (hg : good v = true) : EvalIs w cV rV (litEx v) v 0 := by
  intro W hb
  have h := eval_op 1 (by decide) v ByteArray.empty 0 none 0 cV rV [] (by simp) W (by simp) (.inl rfl) (by simp)
  have e : evalR ⟨1, v, ByteArray.empty, 0, none, 0, 0⟩ [] = (v, 0) := by
    have f : formE ⟨1, v, ByteArray.empty, 0, none, 0, 0⟩ = 0 := by unfold formE; rw [if_pos (by simp [hg])]
    unfold evalR
    rw [if_neg (by rw [f]; simp), if_pos rfl]
  refine h.mono fun en w' hh => ⟨?_, hh.2⟩
  rw [hh.1]
  show Ending.returned (ansV (evalR ⟨1, v, ByteArray.empty, 0, none, 0, 0⟩ []).1 (evalR ⟨1, v, ByteArray.empty, 0, none, 0, 0⟩ []).2) = _
  rw [e]

/-- what the operations ahead of the append leave -/
def woV (gx b off : Nat) (av lv : Value) (k : Nat) (v : Val) : Nat → World → Value → Prop
  | 0 => fun _ u => u = .pointer (some ⟨gx, 6, none⟩)
  | 1 => fun _ u => u = av
  | 2 => fun _ u => u = lv
  | 3 => fun _ u => u = .int .i64 k
  | 4 => fun _ u => u = .pointer (some ⟨b, off + k * 3, none⟩)
  | 5 => fun _ u => u = .agg #[.int .u8 v.k, .int .i64 v.n, .string v.s]
  | 6 => fun _ u => u = litV v
  | 7 => fun w u => ∃ q, u = .slice (some ⟨q, 0, none⟩) 1 1 ∧ Blk w q 36 (exCells (litEx v)).toArray
  | _ => fun _ _ => True
theorem woV_stays (gx b off : Nat) (av lv : Value) (k : Nat) (v : Val) (i : Nat) (w w' : World) (u : Value) (h : woV gx b off av lv k v i w u) (hr : Later w w') : woV gx b off av lv k v i w' u := by
  unfold woV at *
  split at h
  all_goals first
    | exact h
    | (obtain ⟨q, h1, h2⟩ := h; exact ⟨q, h1, h2.later hr⟩)

set_option maxHeartbeats 2000000 in
set_option maxRecDepth 100000 in
theorem worth_any (op : Int) (hop : op ≠ 2) (A : Option Addr) (c : Nat) (l : List Val) (w : World) (h : RV w w.heap.size A l) (hl : l.length ≤ 1000) (hg : ∀ v ∈ l, good v = true) (hok : ∀ v ∈ l, v.Ok) :
    Calls Try.prog 10 #[.int .u8 op, .slice A l.length c] w fun e w' => e = .returned (.tuple #[valV (evalR ⟨op, zeroVal, ByteArray.empty, 0, none, l.length, 0⟩ l).1, .bool ((evalR ⟨op, zeroVal, ByteArray.empty, 0, none, l.length, 0⟩ l).2 == 0)]) ∧ Below w.heap.size w w' := by
  have HH := Lib.hid h
  have HG := Lib.hid hg
  have HOK := Lib.hid hok
  have HOP := Lib.hid hop
  clear h hg hok hop
  go_enter Try.func10, Try.ntmps10
  go_wp2_with fail
  have hR := (Blk.new w 23 #[.int .u8 0, .int .i64 0, .string ⟨#[]⟩]).alloc (.cells #[.int .u8 op, .int .u8 0, .int .i64 0, .string ⟨#[]⟩, .string ⟨#[]⟩, .int .i64 0, .slice none 0 0] 36)
  have hX := Blk.new (w.alloc (.cells #[.int .u8 0, .int .i64 0, .string ⟨#[]⟩] 23)) 36 #[.int .u8 op, .int .u8 0, .int .i64 0, .string ⟨#[]⟩, .string ⟨#[]⟩, .int .i64 0, .slice none 0 0]
  rw [World.size_alloc] at hX
  have hB := Later.then (later_new w (.cells #[.int .u8 0, .int .i64 0, .string ⟨#[]⟩] 23)) (later_new _ (.cells #[.int .u8 op, .int .u8 0, .int .i64 0, .string ⟨#[]⟩, .string ⟨#[]⟩, .int .i64 0, .slice none 0 0] 36))
  generalize (w.alloc (.cells #[.int .u8 0, .int .i64 0, .string ⟨#[]⟩] 23)).alloc (.cells #[.int .u8 op, .int .u8 0, .int .i64 0, .string ⟨#[]⟩, .string ⟨#[]⟩, .int .i64 0, .slice none 0 0] 36) = W at *
  have hgw : w.heap.size ≤ w.heap.size + 1 := by omega
  have hneq : w.heap.size ≠ w.heap.size + 1 := by omega
  have hgx := hX.lt
  have hgR := hR.lt
  generalize w.heap.size + 1 = gx at *
  go_loopw [7] (fun i wr => ∃ (k : Nat) (av : Value), k ≤ l.length ∧ i = .int .i64 k ∧ Blk wr gx 36 #[.int .u8 op, .int .u8 0, .int .i64 0, .string ⟨#[]⟩, .string ⟨#[]⟩, .int .i64 0, av] ∧ OwnF exCells 36 7 wr W.heap.size av ((l.take k).map litEx) ∧ Blk wr w.heap.size 23 #[.int .u8 0, .int .i64 0, .string ⟨#[]⟩] ∧ Below w.heap.size w wr ∧ W.heap.size ≤ wr.heap.size) (fun i _ => l.length - (intOf i).toNat)
  case atStart => exact ⟨0, _, Nat.zero_le _, rfl, hX, OwnF.nil, hR, hB, Nat.le_refl _⟩
  case round =>
    obtain ⟨k, av, hk, rfl, hX1, hO, hR1, hB1, hW1⟩ := hrel
    clear hX hR hB
    have HO := Lib.hid hO
    clear hO
    by_cases hlt : k < l.length
    · obtain ⟨b, off, rfl, hb, hval⟩ := (HH.out.below hB1).at_ hlt
      have HT := Lib.hid (show l.take (k + 1) = l.take k ++ [l[k]] by rw [List.take_add_one, List.getElem?_eq_getElem hlt]; rfl)
      generalize l[k] = v at *
      have hlenk : ((l.take k).map litEx).length ≤ 1000 := by simp; omega
      generalize hvs : (l.take k).map litEx = vs at *
      have HVS := Lib.hid hvs
      clear hvs
      go_wp2_with fail
      refine region_by 8 (woV gx b off av (.slice (some ⟨b, off, none⟩) l.length c) k v) (fun i w w' u h hr => woV_stays _ _ _ _ _ _ _ _ _ _ _ h hr) (by kernel_rfl) (by kernel_rfl) (by kernel_rfl) ?_ ?_
      · simp only [List.take_succ_cons, List.take_zero]
        refine ⟨?_, ?_, ?_, ?_, ?_, ?_, ?_, ?_, trivial⟩
        · intro ρ w3 hc hL hr
          have h1 : ρ (.tmp 6) = .pointer (some ⟨gx, 0, none⟩) := hr.1
          exact opW_run (w' := w3) (by simp [go_sem, h1]) ⟨Later.refl _, rfl⟩
        · intro ρ w3 hc hL hr
          have h1 : ρ (.tmp 18) = .pointer (some ⟨gx, 6, none⟩) := hr.1
          have c6 := (hX1.later hL).cell 6
          simp only [List.getElem?_toArray, List.getElem?_cons_zero, List.getElem?_cons_succ] at c6
          exact opW_run (v := av) (w' := w3) (by simp [go_sem, h1, c6]) ⟨Later.refl _, rfl⟩
        · intro ρ w3 hc hL hr
          have h1 : ρ (.tmp 1) = .slice (some ⟨b, off, none⟩) l.length c := hr.1
          exact opW_move (.inl rfl) h1 ⟨Later.refl _, rfl⟩
        · intro ρ w3 hc hL hr
          have h1 : ρ (.tmp 7) = .int .i64 k := hr.1
          exact opW_move (.inl rfl) h1 ⟨Later.refl _, rfl⟩
        · intro ρ w3 hc hL hr
          have h1 : ρ (.tmp 20) = .slice (some ⟨b, off, none⟩) l.length c := hr.1
          have h2 : ρ (.tmp 21) = .int .i64 k := hr.2.1
          refine opW_run (v := .pointer (some ⟨b, off + k * 3, none⟩)) (w' := w3) ?_ ⟨Later.refl _, rfl⟩
          simp [go_sem, h1, h2, hlt]
        · intro ρ w3 hc hL hr
          have h1 : ρ (.tmp 22) = .pointer (some ⟨b, off + k * 3, none⟩) := hr.1
          have c0 := hval.keep (w' := w3) fun o => hL.cell (p := ⟨b, o, none⟩) (Nat.lt_of_lt_of_le hb hB1.size)
          unfold ValAt at c0
          exact opW_run (w' := w3) (by simp [go_sem, h1, c0]) ⟨Later.refl _, rfl⟩
        · intro ρ w3 hc hL hr
          have e1 := hc.func 15
          have h1 : ρ (.tmp 23) = .agg #[.int .u8 v.k, .int .i64 v.n, .string v.s] := hr.1
          refine opW_call (f := 15) (args := #[.agg #[.int .u8 v.k, .int .i64 v.n, .string v.s]]) (w' := w3) (by simp [go_sem, e1, h1]) ?_
          refine (lit_any v w3).mono ?_
          rintro e w4 ⟨rfl, b4⟩
          exact ⟨_, rfl, b4, rfl⟩
        · intro ρ w3 hc hL hr
          have h1 : ρ (.tmp 24) = litV v := hr.1
          exact opW_run (v := .slice (some ⟨w3.heap.size, 0, none⟩) 1 1) (w' := w3.alloc (.cells #[.int .u8 1, .int .u8 v.k, .int .i64 v.n, .string v.s, .string ByteArray.empty, .int .i64 0, .slice none 0 0] 36)) (by simp [go_sem, h1, litV]) ⟨later_new w3 _, ⟨_, rfl, Blk.new w3 _ _⟩⟩
      · intro w3 hL
        simp only [List.take_succ_cons, List.take_zero, List.drop_succ_cons, List.drop_zero]
        intro a0 h0 a1 h1 a2 h2 a3 h3 a4 h4 a5 h5 a6 h6 a7 h7
        obtain ⟨q7, h7, hq7⟩ := h7
        have h0 : _ = a0 := Eq.symm h0
        have h1 : av = a1 := Eq.symm h1
        have h2 : _ = a2 := Eq.symm h2
        have h3 : _ = a3 := Eq.symm h3
        have h4 : _ = a4 := Eq.symm h4
        have h5 : _ = a5 := Eq.symm h5
        have h6 : _ = a6 := Eq.symm h6
        have h7 : _ = a7 := Eq.symm h7
        subst h0 h1 h2 h3 h4 h5 h6 h7
        replace hX1 := hX1.later hL
        replace hR1 := hR1.later hL
        replace hB1 := Later.then hB1 hL
        replace hW1 := Nat.le_trans hW1 hL.size
        replace HO := Lib.hid (HO.out.later hL)
        have HQ7 := Lib.hid hq7
        have HX1 := Lib.hid hX1
        have HR1 := Lib.hid hR1
        clear hq7 hL hval hX1 hR1
        simp only [FinOf, Act.put, List.setIfInBounds_toArray, List.set_cons_succ, List.set_cons_zero]
        go_wp2_with (first
          | (at_builtin
             refine wpList_append_one rfl (.tmp 19) (.tmp 25) 34 rfl _ 88 Try.underlying34 ex_info rfl (by omega) (litEx v) rfl (by simp [exCells, litEx, Value.oneCell']) rfl HO.out q7 rfl HQ7.out (by omega) (by omega) hW1 ?_
             intro v4 w4 o4 g4
             obtain ⟨A4, c4, rfl, _, _, _⟩ := o4.reads
             have hne1 : some gx ≠ av.ownBlock := fun e => by have := (HO.out.lt e.symm).2.1; omega
             have hne2 : some w.heap.size ≠ av.ownBlock := fun e => by have := (HO.out.lt e.symm).2.1; omega
             have hX4 := HX1.out.grown g4 hne1
             have hR4 := HR1.out.grown g4 hne2
             have hb4 := below_own HO.out g4 hW1
             have c6 := hX4.cell 6
             have f6 := hX4.frozen 6
             simp only [List.getElem?_toArray, List.getElem?_cons_zero, List.getElem?_cons_succ] at c6
             have O4 := Lib.hid o4
             have X4 := Lib.hid hX4
             have R4 := Lib.hid hR4
             have B4 := Lib.hid hb4
             clear o4 g4 hne1 hne2 hX4 hR4 hb4 HO HX1 HR1 HQ7))
        go_roundw
        case rel =>
          have hwW : w.heap.size ≤ W.heap.size := Nat.le_of_lt hgR
          refine ⟨k + 1, .slice A4 (vs.length + 1) c4, hlt, by go_num, ?_, ?_, ?_, ?_, ?_⟩
          · have := X4.out.set_ 6 (.slice A4 (vs.length + 1) c4)
            simpa using this
          · rw [HT.out, List.map_append, HVS.out]
            have h4 := O4.out
            rw [List.length_append] at h4
            refine OwnF.keep (w := w4) h4 fun g hg => ?_
            have hgB := (OwnF.lt h4 hg).2.1
            exact Below.heap_setCell w4 ⟨gx, 6, none⟩ _ g (by show g ≠ gx; omega)
          · exact R4.out.far (p := ⟨gx, 6, none⟩) hneq _
          · exact (hB1.trans (B4.out.mono hwW)).setCell (p := ⟨gx, 6, none⟩) hgw _
          · have := B4.out.size
            simp [World.setCell]
            omega
        case measure => simp [intOf]; omega
    · have htk : l.take k = l := List.take_of_length_le (by omega)
      rw [htk] at HO
      obtain ⟨A5, c5, hav, hRE⟩ := own_re HO.out
      rw [List.length_map] at hav
      subst hav
      have HRE := Lib.hid hRE
      have x0 := hX1.cell 0
      have x1 := hX1.cell 1
      have x2 := hX1.cell 2
      have x3 := hX1.cell 3
      have x4 := hX1.cell 4
      have x5 := hX1.cell 5
      have x6 := hX1.cell 6
      simp only [List.getElem?_toArray, List.getElem?_cons_zero, List.getElem?_cons_succ] at x0 x1 x2 x3 x4 x5 x6
      clear hRE HO htk
      go_wp2_with fail
      have hmap1 : (l.map fun v => (litEx v, v)).map (·.1) = l.map litEx := by simp
      have hmap2 : (l.map fun v => (litEx v, v)).map (·.2) = l := by simp [Function.comp_def]
      have hev := eval_op op HOP.out zeroVal ByteArray.empty 0 A5 c5 (.slice none 0 0) (.slice none 0 0) (l.map fun v => (litEx v, v)) (fun a ha => by obtain ⟨v, hv, rfl⟩ := List.mem_map.1 ha; exact HOK.out v hv) wr (by simp; omega) (by rw [hmap1]; exact HRE.out) (fun a ha => by obtain ⟨v, hv, rfl⟩ := List.mem_map.1 ha; exact eval_lit wr _ _ v (HG.out v hv))
      rw [hmap2, List.length_map] at hev
      clear hmap1 hmap2
      refine hev.mono ?_
      rintro e w5 ⟨rfl, b5⟩
      have HEV : Hid (evalR ⟨op, zeroVal, ByteArray.empty, 0, A5, l.length, c5⟩ l = evalR ⟨op, zeroVal, ByteArray.empty, 0, none, l.length, 0⟩ l) := rfl
      generalize hr : evalR ⟨op, zeroVal, ByteArray.empty, 0, A5, l.length, c5⟩ l = r
      have HR := Lib.hid hr
      clear hr hev x0 x1 x2 x3 x4 x5 x6
      unfold ansV
      have b6 := Later.then b5 (later_new w5 (.cells #[.int .u8 r.1.k, .int .i64 r.1.n, .string r.1.s] 23))
      have hV := val_cells (Blk.new w5 23 #[.int .u8 r.1.k, .int .i64 r.1.n, .string r.1.s])
      replace hR1 := hR1.later b6
      replace hB1 := Later.then hB1 b6
      have r1 := val_cells hR1
      have r3 := Blk.frozen hR1
      clear hR1 b5 b6
      go_wp2_with fail
      refine bodyPost_ret (v := .tuple #[.agg #[.int .u8 r.1.k, .int .i64 r.1.n, .string r.1.s], .bool (r.2 == 0)]) ?_ rfl ?_
      · simp [results, Try.results10, go_sem, r1]
      · refine ⟨?_, ((hB1.setCell (Nat.le_refl _) _).setCell (Nat.le_refl _) _).setCell (Nat.le_refl _) _⟩
        rw [← HEV.out, HR.out]
        rfl
end Go.Proofs.Ytlfahfoffdbpfaa
