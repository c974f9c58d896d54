/- expr.Eval: an argument that goes wrong ends it. Printed by gen_eval2.py. -/
import Derived.Test.YtlfahfoffdbpfaaEval0
namespace Go.Proofs.Ytlfahfoffdbpfaa
open Go.ChangeShapes Go.WideShapes Go.ChangeAt Go.RowKit
set_option linter.unusedVariables false
set_option linter.unusedSimpArgs false

set_option maxHeartbeats 4000000 in
set_option maxRecDepth 100000 in
theorem eval_err (op : Int) (xv : Val) (name : ByteArray) (width : Int) (A : Option Addr) (n c : Nat) (cV rV : Value) (args : List (Ex × Val)) (bad : Ex) (er : Int) (post : List Ex) (hn : args.length + 1 + post.length = n) (w : World) (hl : args.length ≤ 1599289640356) (hn2 : n ≤ 1599289640356) (hA : RE w w.heap.size A (args.map (·.1) ++ bad :: post)) (hE : ∀ a ∈ args, EvalIs w cV rV a.1 a.2 0) (hbad : EvalIs w cV rV bad zeroVal er) (her : er ≠ 0) :
    Calls Try.prog 14 #[.agg #[.int .u8 op, .int .u8 xv.k, .int .i64 xv.n, .string xv.s, .string name, .int .i64 width, .slice A n c], cV, rV] w fun en w' => en = .returned (ansV zeroVal er) ∧ Below w.heap.size w w' := by
  have HN := Lib.hid hn
  have HBAD := Lib.hid hbad
  have HER := Lib.hid her
  clear hn hbad her
  have HA := Lib.hid hA
  have HE := Lib.hid hE
  clear hA hE
  go_enter Try.func14, Try.ntmps14
  have hX := (Blk.new w 36 #[.int .u8 op, .int .u8 xv.k, .int .i64 xv.n, .string xv.s, .string name, .int .i64 width, .slice A n c]).alloc (.cells #[.int .u8 0, .int .i64 0, .string ⟨#[]⟩] 23)
  have x6 := hX.cell 6
  simp only [List.getElem?_toArray, List.getElem?_cons_zero, List.getElem?_cons_succ] at x6
  go_wp2_with fail
  have hR := Blk.new (w.alloc (.cells #[.int .u8 op, .int .u8 xv.k, .int .i64 xv.n, .string xv.s, .string name, .int .i64 width, .slice A n c] 36)) 23 #[.int .u8 0, .int .i64 0, .string ⟨#[]⟩]
  rw [World.size_alloc] at hR
  have hB := Later.then (later_new w (.cells #[.int .u8 op, .int .u8 xv.k, .int .i64 xv.n, .string xv.s, .string name, .int .i64 width, .slice A n c] 36)) (later_new _ (.cells #[.int .u8 0, .int .i64 0, .string ⟨#[]⟩] 23))
  clear x6
  generalize (w.alloc (.cells #[.int .u8 op, .int .u8 xv.k, .int .i64 xv.n, .string xv.s, .string name, .int .i64 width, .slice A n c] 36)).alloc (.cells #[.int .u8 0, .int .i64 0, .string ⟨#[]⟩] 23) = W at *
  have hgw : w.heap.size ≤ w.heap.size + 1 := by omega
  generalize w.heap.size + 1 = gR at *
  go_loopw [8, 9, 20] (fun lv kv i wr => ∃ k : Nat, k ≤ args.length ∧ i = .int .i64 k ∧ OwnF valCells 23 3 wr W.heap.size lv ((args.take k).map (·.2)) ∧ OwnF kindCell 5 1 wr W.heap.size kv ((args.take k).map (·.2.k)) ∧ Below W.heap.size W wr) (fun _ _ i _ => args.length - (intOf i).toNat)
  case atStart => exact ⟨0, Nat.zero_le _, rfl, OwnF.nil, OwnF.nil, Below.refl _ _⟩
  case round =>
    obtain ⟨k, hk, rfl, hO, hK, hb⟩ := hrel
    have HO := Lib.hid hO
    have HK := Lib.hid hK
    clear hO hK
    rcases Nat.lt_or_ge k args.length with hlt | hge
    · have hkn : k < n := by have := HN.out; omega
      obtain ⟨b, off, rfl, hbb, hex⟩ := (HA.out.below (hB.trans (hb.mono hB.size))).at_ (show k < (args.map (·.1) ++ bad :: post).length by simp; omega)
      have he1 : (args.map (·.1) ++ bad :: post)[k]'(by simp; omega) = args[k].1 := by rw [List.getElem_append_left (by simpa using hlt)]; simp
      rw [he1] at hex
      clear he1
      have hev := HE.out args[k] (List.getElem_mem hlt)
      have HT := Lib.hid (show args.take (k + 1) = args.take k ++ [args[k]] by rw [List.take_add_one, List.getElem?_eq_getElem hlt]; rfl)
      generalize args[k] = yv at *
      obtain ⟨y, v⟩ := yv
      dsimp only at *
      unfold ExAt at hex
      go_wp2_with fail
      have bY := later_new wr (.cells #[.int .u8 y.op, .int .u8 y.v.k, .int .i64 y.v.n, .string y.v.s, .string y.name, .int .i64 y.width, .slice y.A y.n y.c] 36)
      refine (hev _ (hB.trans ((Later.then hb bY).mono hB.size))).mono ?_
      rintro e w1 ⟨rfl, b1⟩
      have hb1 := Later.then bY b1
      unfold ansV
      go_wp2_with fail
      have hG := Blk.new w1 23 #[.int .u8 v.k, .int .i64 v.n, .string v.s]
      have bG := later_new w1 (.cells #[.int .u8 v.k, .int .i64 v.n, .string v.s] 23)
      have hb2 := Later.then hb1 bG
      have HO0 := HO
      replace HO := Lib.hid (HO.out.later hb2)
      replace HK := Lib.hid (HK.out.later hb2)
      replace hb := Later.then hb hb2
      have hsz : wr.heap.size ≤ w1.heap.size := hb1.size
      have hne : ∀ u, OwnF valCells 23 3 wr W.heap.size u ((args.take k).map (·.2)) → some w1.heap.size ≠ u.ownBlock := fun u hu e => by have := (hu.lt e.symm).1; omega
      have hne1 := hne _ HO0.out
      clear hne hb2 hb1 b1 bY bG hev hex HO0
      generalize w1.alloc (.cells #[.int .u8 v.k, .int .i64 v.n, .string v.s] 23) = w2 at *
      generalize w1.heap.size = g at *
      have hlenv0 : ((args.take k).map (·.2)).length ≤ 1599289640356 := by simp; omega
      have hlenk : ((args.take k).map (·.2.k)).length ≤ 1599289640356 := by simp; omega
      generalize hvs : (args.take k).map (·.2) = vs at *
      generalize hks : (args.take k).map (·.2.k) = ks at *
      have HVS := Lib.hid hvs
      have HKS := Lib.hid hks
      clear hvs hks
      have hbase : W.heap.size ≤ w2.heap.size := hb.size
      have hlenv : vs.length ≤ 1599289640356 := hlenv0
      refine region_rule _ _ (List.take_append_drop 8 _).symm (AR valCells 23 3 W.heap.size u8 vs v) AR.refl (fun _ _ _ => AR.trans) AR.drew (evV W.heap.size u8 u9 vs v g) (fun i w w' u h hr => evV_stays _ _ _ _ _ _ _ _ _ _ h hr) (by kernel_rfl) (by kernel_rfl) (by kernel_rfl) ?_ ?_
      · simp only [List.take_succ_cons, List.take_zero]
        refine ⟨?_, ?_, ?_, ?_, ?_, ?_, ?_, ?_, trivial⟩
        · intro ρ w3 hc hL hr
          have h1 : ρ (.tmp 8) = u8 := hr.1
          exact opW_move (.inl rfl) h1 ⟨AR.refl _, rfl⟩
        · intro ρ w3 hc hL hr
          have h1 : ρ (.tmp 12) = .pointer (some ⟨g, 0, none⟩) := hr.1
          have c0 := val_cells (hG.grown hL.grown hne1)
          exact opW_run (w' := w3) (by simp [go_sem, h1, c0]) ⟨AR.refl _, rfl⟩
        · intro ρ w3 hc hL hr
          have h1 : ρ (.tmp 36) = .agg #[.int .u8 v.k, .int .i64 v.n, .string v.s] := hr.1
          refine opW_run (v := .slice (some ⟨w3.heap.size, 0, none⟩) 1 1) (w' := w3.alloc (.cells #[.int .u8 v.k, .int .i64 v.n, .string v.s] 23)) (by simp [go_sem, h1]) ⟨AR.later (later_new w3 _), ⟨_, rfl, Blk.new w3 _ _, fun e => ?_⟩⟩
          have := ((hL.old HO.out).lt e.symm).1
          omega
        · intro ρ w3 hc hL hr
          have h1 : ρ (.tmp 35) = u8 := hr.1
          obtain ⟨q, h2, h3, h4⟩ : ∃ q, ρ (.tmp 37) = .slice (some ⟨q, 0, none⟩) 1 1 ∧ Blk w3 q 23 (valCells v).toArray ∧ some q ≠ u8.ownBlock := hr.2.1
          obtain ⟨v', w', hrun, ho, har⟩ := run_append_one (P := Try.prog) (w := w3) 40 40 _ 32 Try.underlying40 val_info rfl (by omega) (fun _ => rfl) (by simp [valCells, Value.oneCell']) (hL.old HO.out) q h3 (by omega) (by omega) (Nat.le_trans hbase hL.grown.size)
          exact opW_run (v := v') (w' := w') (by simp only [execOp, resolve, invoke, builtin, Sem.run_bind, Sem.run_pure, Result.andThen_ok, List.map_toArray, List.map_cons, List.map_nil, h1, h2, hrun]) ⟨har, ho⟩
        · intro ρ w3 hc hL hr
          have h1 : ρ (.tmp 9) = u9 := hr.1
          exact opW_move (.inl rfl) h1 ⟨AR.refl _, rfl⟩
        · intro ρ w3 hc hL hr
          have h1 : ρ (.tmp 12) = .pointer (some ⟨g, 0, none⟩) := hr.1
          exact opW_run (w' := w3) (by simp [go_sem, h1]) ⟨AR.refl _, rfl⟩
        · intro ρ w3 hc hL hr
          have h1 : ρ (.tmp 40) = .pointer (some ⟨g, 0, none⟩) := hr.1
          have c0 := val_cells (hG.grown hL.grown hne1)
          exact opW_run (w' := w3) (by simp [go_sem, h1, c0]) ⟨AR.refl _, rfl⟩
        · intro ρ w3 hc hL hr
          have h1 : ρ (.tmp 41) = .int .u8 v.k := hr.1
          refine opW_run (v := .slice (some ⟨w3.heap.size, 0, none⟩) 1 1) (w' := w3.alloc (.cells #[.int .u8 v.k] 5)) (by simp [go_sem, h1]) ⟨AR.later (later_new w3 _), ⟨_, rfl, Blk.new w3 _ _, fun e => ?_⟩⟩
          have := ((hL.old HO.out).lt e.symm).1
          omega
      · intro w3 hL
        simp only [List.take_succ_cons, List.take_zero, List.drop_succ_cons, List.drop_zero]
        intro a0 h0 a1 h1 a2 h2 v3 hO3 a4 h4 a5 h5 a6 h6 a7 h7
        obtain ⟨q2, h2, _⟩ := h2
        obtain ⟨q7, h7, hq7, _⟩ := h7
        have h0 : u8 = a0 := Eq.symm h0
        have h4 : u9 = a4 := Eq.symm h4
        have h1 : _ = a1 := Eq.symm h1
        have h2 : _ = a2 := Eq.symm h2
        have h5 : _ = a5 := Eq.symm h5
        have h6 : _ = a6 := Eq.symm h6
        have h7 : _ = a7 := Eq.symm h7
        subst h0 h1 h2 h4 h5 h6 h7
        have hO3 : OwnF valCells 23 3 w3 W.heap.size v3 (vs ++ [v]) := hO3
        have hK3 := HK.out.past HO.out (by decide) hL.grown
        have hb3 := hb.trans (below_own HO.out hL.grown hbase)
        have HO3 := Lib.hid hO3
        have HK3 := Lib.hid hK3
        have HQ7 := Lib.hid hq7
        have hbase3 := hb3.size
        clear hO3 hK3 hq7 HO HK hL hG hne1 hb
        simp only [FinOf, Act.put, List.setIfInBounds_toArray, List.set_cons_succ, List.set_cons_zero]
        go_wp2_with (first
          | (at_builtin
             refine wpList_append_one rfl (.tmp 39) (.tmp 42) 57 rfl _ 1 Try.underlying57 u8_info rfl (by omega) v.k rfl (by simp [kindCell, Value.oneCell']) rfl HK3.out q7 rfl HQ7.out (by omega) (by omega) hbase3 ?_
             intro v4 w4 o4 g4
             have b4 := below_own HK3.out g4 hbase3
             have o3 := HO3.out.past HK3.out (by decide) g4
             have O4 := Lib.hid o4
             have O3 := Lib.hid o3
             clear o4 g4 HK3 HO3 HQ7 o3))
        go_roundw
        case rel =>
          refine ⟨k + 1, hlt, by go_num, ?_, ?_, hb3.trans b4⟩
          · rw [HT.out, List.map_append, HVS.out]; exact O3.out
          · rw [HT.out, List.map_append, HKS.out]; exact O4.out
        case measure => simp [intOf]; omega
    · have hkk : k = args.length := by omega
      have hkn : k < n := by have := HN.out; omega
      obtain ⟨b, off, rfl, hbb, hex⟩ := (HA.out.below (hB.trans (hb.mono hB.size))).at_ (show k < (args.map (·.1) ++ bad :: post).length by simp; omega)
      have he1 : (args.map (·.1) ++ bad :: post)[k]'(by simp; omega) = bad := by rw [List.getElem_append_right (by simp; omega)]; simp [hkk]
      rw [he1] at hex
      clear he1 hkk HO HK
      have hev := HBAD.out
      unfold ExAt at hex
      go_wp2_with fail
      have bY := later_new wr (.cells #[.int .u8 bad.op, .int .u8 bad.v.k, .int .i64 bad.v.n, .string bad.v.s, .string bad.name, .int .i64 bad.width, .slice bad.A bad.n bad.c] 36)
      refine (hev _ (hB.trans ((Later.then hb bY).mono hB.size))).mono ?_
      rintro e w1 ⟨rfl, b1⟩
      have bG := later_new w1 (.cells #[.int .u8 0, .int .i64 0, .string ByteArray.empty] 23)
      have hb2 := Later.then hb (Later.then (Later.then bY b1) bG)
      have hR2 := hR.later hb2
      have hB2 := Later.then hB hb2
      have hR1 := val_cells hR2
      have hR3 := Blk.frozen hR2
      have te : (er != 0) = true := by have := HER.out; simpa using this
      clear hev hex bY b1 bG hb2 hR2 hX hR hB hb
      unfold ansV zeroVal
      go_wp2_with fail
      exact bodyPost_ret (v := .tuple #[.agg #[.int .u8 0, .int .i64 0, .string ByteArray.empty], .int .i64 er]) (by simp [results, Try.results14, go_sem, hR1]; try rfl) rfl ⟨rfl, ((hB2.setCell hgw _).setCell hgw _).setCell hgw _⟩
end Go.Proofs.Ytlfahfoffdbpfaa
