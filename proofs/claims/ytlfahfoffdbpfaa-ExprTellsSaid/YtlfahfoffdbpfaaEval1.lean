/- expr.Eval: its arguments' worths, gathered: the statement of two appends; arguments that go right. -/
import Derived.Test.YtlfahfoffdbpfaaEval0
namespace Go.Proofs.Ytlfahfoffdbpfaa
open Go.ChangeShapes Go.WideShapes Go.ChangeAt Go.RowKit
set_option linter.unusedVariables false
set_option linter.unusedSimpArgs false

set_option maxHeartbeats 4000000 in
set_option maxRecDepth 100000 in
theorem eval_op2 (op : Int) (xv : Val) (name : ByteArray) (width : Int) (A : Option Addr) (c : Nat) (cV rV : Value) (args : List (Ex × Val)) (hop2 : op ≠ 2 ∨ args ≠ []) (hok : ∀ a ∈ args, a.2.Ok) (w : World) (hl : args.length ≤ 1599289640356) (hA : RE w w.heap.size A (args.map (·.1))) (hE : ∀ a ∈ args, EvalIs w cV rV a.1 a.2 0) :
    Calls Try.prog 14 #[.agg #[.int .u8 op, .int .u8 xv.k, .int .i64 xv.n, .string xv.s, .string name, .int .i64 width, .slice A args.length c], cV, rV] w fun en w' => en = .returned (ansV (evalR ⟨op, xv, name, width, A, args.length, c⟩ (args.map (·.2))).1 (evalR ⟨op, xv, name, width, A, args.length, c⟩ (args.map (·.2))).2) ∧ Below w.heap.size w w' := by
  have HOP2 := Lib.hid hop2
  have HOKV := Lib.hid hok
  clear hop2 hok
  have HA := Lib.hid hA
  have HE := Lib.hid hE
  clear hA hE
  go_enter Try.func14, Try.ntmps14
  have hX := (Blk.new w 36 #[.int .u8 op, .int .u8 xv.k, .int .i64 xv.n, .string xv.s, .string name, .int .i64 width, .slice A args.length c]).alloc (.cells #[.int .u8 0, .int .i64 0, .string ⟨#[]⟩] 23)
  have x6 := hX.cell 6
  simp only [List.getElem?_toArray, List.getElem?_cons_zero, List.getElem?_cons_succ] at x6
  go_wp2_with fail
  have hR := Blk.new (w.alloc (.cells #[.int .u8 op, .int .u8 xv.k, .int .i64 xv.n, .string xv.s, .string name, .int .i64 width, .slice A args.length c] 36)) 23 #[.int .u8 0, .int .i64 0, .string ⟨#[]⟩]
  rw [World.size_alloc] at hR
  have hB := Later.then (later_new w (.cells #[.int .u8 op, .int .u8 xv.k, .int .i64 xv.n, .string xv.s, .string name, .int .i64 width, .slice A args.length c] 36)) (later_new _ (.cells #[.int .u8 0, .int .i64 0, .string ⟨#[]⟩] 23))
  clear x6
  generalize (w.alloc (.cells #[.int .u8 op, .int .u8 xv.k, .int .i64 xv.n, .string xv.s, .string name, .int .i64 width, .slice A args.length c] 36)).alloc (.cells #[.int .u8 0, .int .i64 0, .string ⟨#[]⟩] 23) = W at *
  have hgw : w.heap.size ≤ w.heap.size + 1 := by omega
  generalize w.heap.size + 1 = gR at *
  go_loopw [8, 9, 20] (fun lv kv i wr => ∃ k : Nat, k ≤ args.length ∧ i = .int .i64 k ∧ OwnF valCells 23 3 wr W.heap.size lv ((args.take k).map (·.2)) ∧ OwnF kindCell 5 1 wr W.heap.size kv ((args.take k).map (·.2.k)) ∧ Below W.heap.size W wr) (fun _ _ i _ => args.length - (intOf i).toNat)
  case atStart => exact ⟨0, Nat.zero_le _, rfl, OwnF.nil, OwnF.nil, Below.refl _ _⟩
  case round =>
    obtain ⟨k, hk, rfl, hO, hK, hb⟩ := hrel
    have HO := Lib.hid hO
    have HK := Lib.hid hK
    clear hO hK
    rcases Nat.lt_or_ge k args.length with hlt | hge
    · obtain ⟨b, off, rfl, hbb, hex⟩ := (HA.out.below (hB.trans (hb.mono hB.size))).at_ (show k < (args.map (·.1)).length by simpa using hlt)
      have he1 : (args.map (·.1))[k]'(by simpa using hlt) = args[k].1 := by simp
      rw [he1] at hex
      clear he1
      have hev := HE.out args[k] (List.getElem_mem hlt)
      have HT := Lib.hid (show args.take (k + 1) = args.take k ++ [args[k]] by rw [List.take_add_one, List.getElem?_eq_getElem hlt]; rfl)
      generalize args[k] = yv at *
      obtain ⟨y, v⟩ := yv
      dsimp only at *
      unfold ExAt at hex
      go_wp2_with fail
      have bY := later_new wr (.cells #[.int .u8 y.op, .int .u8 y.v.k, .int .i64 y.v.n, .string y.v.s, .string y.name, .int .i64 y.width, .slice y.A y.n y.c] 36)
      refine (hev _ (hB.trans ((Later.then hb bY).mono hB.size))).mono ?_
      rintro e w1 ⟨rfl, b1⟩
      have hb1 := Later.then bY b1
      unfold ansV
      go_wp2_with fail
      have hG := Blk.new w1 23 #[.int .u8 v.k, .int .i64 v.n, .string v.s]
      have bG := later_new w1 (.cells #[.int .u8 v.k, .int .i64 v.n, .string v.s] 23)
      have hb2 := Later.then hb1 bG
      have HO0 := HO
      replace HO := Lib.hid (HO.out.later hb2)
      replace HK := Lib.hid (HK.out.later hb2)
      replace hb := Later.then hb hb2
      have hsz : wr.heap.size ≤ w1.heap.size := hb1.size
      have hne : ∀ u, OwnF valCells 23 3 wr W.heap.size u ((args.take k).map (·.2)) → some w1.heap.size ≠ u.ownBlock := fun u hu e => by have := (hu.lt e.symm).1; omega
      have hne1 := hne _ HO0.out
      clear hne hb2 hb1 b1 bY bG hev hex HO0
      generalize w1.alloc (.cells #[.int .u8 v.k, .int .i64 v.n, .string v.s] 23) = w2 at *
      generalize w1.heap.size = g at *
      have hlenv0 : ((args.take k).map (·.2)).length ≤ 1599289640356 := by simp; omega
      have hlenk : ((args.take k).map (·.2.k)).length ≤ 1599289640356 := by simp; omega
      generalize hvs : (args.take k).map (·.2) = vs at *
      generalize hks : (args.take k).map (·.2.k) = ks at *
      have HVS := Lib.hid hvs
      have HKS := Lib.hid hks
      clear hvs hks
      have hbase : W.heap.size ≤ w2.heap.size := hb.size
      have hlenv : vs.length ≤ 1599289640356 := hlenv0
      refine region_rule _ _ (List.take_append_drop 8 _).symm (AR valCells 23 3 W.heap.size u8 vs v) AR.refl (fun _ _ _ => AR.trans) AR.drew (evV W.heap.size u8 u9 vs v g) (fun i w w' u h hr => evV_stays _ _ _ _ _ _ _ _ _ _ h hr) (by kernel_rfl) (by kernel_rfl) (by kernel_rfl) ?_ ?_
      · simp only [List.take_succ_cons, List.take_zero]
        refine ⟨?_, ?_, ?_, ?_, ?_, ?_, ?_, ?_, trivial⟩
        · intro ρ w3 hc hL hr
          have h1 : ρ (.tmp 8) = u8 := hr.1
          exact opW_move (.inl rfl) h1 ⟨AR.refl _, rfl⟩
        · intro ρ w3 hc hL hr
          have h1 : ρ (.tmp 12) = .pointer (some ⟨g, 0, none⟩) := hr.1
          have c0 := val_cells (hG.grown hL.grown hne1)
          exact opW_run (w' := w3) (by simp [go_sem, h1, c0]) ⟨AR.refl _, rfl⟩
        · intro ρ w3 hc hL hr
          have h1 : ρ (.tmp 36) = .agg #[.int .u8 v.k, .int .i64 v.n, .string v.s] := hr.1
          refine opW_run (v := .slice (some ⟨w3.heap.size, 0, none⟩) 1 1) (w' := w3.alloc (.cells #[.int .u8 v.k, .int .i64 v.n, .string v.s] 23)) (by simp [go_sem, h1]) ⟨AR.later (later_new w3 _), ⟨_, rfl, Blk.new w3 _ _, fun e => ?_⟩⟩
          have := ((hL.old HO.out).lt e.symm).1
          omega
        · intro ρ w3 hc hL hr
          have h1 : ρ (.tmp 35) = u8 := hr.1
          obtain ⟨q, h2, h3, h4⟩ : ∃ q, ρ (.tmp 37) = .slice (some ⟨q, 0, none⟩) 1 1 ∧ Blk w3 q 23 (valCells v).toArray ∧ some q ≠ u8.ownBlock := hr.2.1
          obtain ⟨v', w', hrun, ho, har⟩ := run_append_one (P := Try.prog) (w := w3) 40 40 _ 32 Try.underlying40 val_info rfl (by omega) (fun _ => rfl) (by simp [valCells, Value.oneCell']) (hL.old HO.out) q h3 (by omega) (by omega) (Nat.le_trans hbase hL.grown.size)
          exact opW_run (v := v') (w' := w') (by simp only [execOp, resolve, invoke, builtin, Sem.run_bind, Sem.run_pure, Result.andThen_ok, List.map_toArray, List.map_cons, List.map_nil, h1, h2, hrun]) ⟨har, ho⟩
        · intro ρ w3 hc hL hr
          have h1 : ρ (.tmp 9) = u9 := hr.1
          exact opW_move (.inl rfl) h1 ⟨AR.refl _, rfl⟩
        · intro ρ w3 hc hL hr
          have h1 : ρ (.tmp 12) = .pointer (some ⟨g, 0, none⟩) := hr.1
          exact opW_run (w' := w3) (by simp [go_sem, h1]) ⟨AR.refl _, rfl⟩
        · intro ρ w3 hc hL hr
          have h1 : ρ (.tmp 40) = .pointer (some ⟨g, 0, none⟩) := hr.1
          have c0 := val_cells (hG.grown hL.grown hne1)
          exact opW_run (w' := w3) (by simp [go_sem, h1, c0]) ⟨AR.refl _, rfl⟩
        · intro ρ w3 hc hL hr
          have h1 : ρ (.tmp 41) = .int .u8 v.k := hr.1
          refine opW_run (v := .slice (some ⟨w3.heap.size, 0, none⟩) 1 1) (w' := w3.alloc (.cells #[.int .u8 v.k] 5)) (by simp [go_sem, h1]) ⟨AR.later (later_new w3 _), ⟨_, rfl, Blk.new w3 _ _, fun e => ?_⟩⟩
          have := ((hL.old HO.out).lt e.symm).1
          omega
      · intro w3 hL
        simp only [List.take_succ_cons, List.take_zero, List.drop_succ_cons, List.drop_zero]
        intro a0 h0 a1 h1 a2 h2 v3 hO3 a4 h4 a5 h5 a6 h6 a7 h7
        obtain ⟨q2, h2, _⟩ := h2
        obtain ⟨q7, h7, hq7, _⟩ := h7
        have h0 : u8 = a0 := Eq.symm h0
        have h4 : u9 = a4 := Eq.symm h4
        have h1 : _ = a1 := Eq.symm h1
        have h2 : _ = a2 := Eq.symm h2
        have h5 : _ = a5 := Eq.symm h5
        have h6 : _ = a6 := Eq.symm h6
        have h7 : _ = a7 := Eq.symm h7
        subst h0 h1 h2 h4 h5 h6 h7
        have hO3 : OwnF valCells 23 3 w3 W.heap.size v3 (vs ++ [v]) := hO3
        have hK3 := HK.out.past HO.out (by decide) hL.grown
        have hb3 := hb.trans (below_own HO.out hL.grown hbase)
        have HO3 := Lib.hid hO3
        have HK3 := Lib.hid hK3
        have HQ7 := Lib.hid hq7
        have hbase3 := hb3.size
        clear hO3 hK3 hq7 HO HK hL hG hne1 hb
        simp only [FinOf, Act.put, List.setIfInBounds_toArray, List.set_cons_succ, List.set_cons_zero]
        go_wp2_with (first
          | (at_builtin
             refine wpList_append_one rfl (.tmp 39) (.tmp 42) 57 rfl _ 1 Try.underlying57 u8_info rfl (by omega) v.k rfl (by simp [kindCell, Value.oneCell']) rfl HK3.out q7 rfl HQ7.out (by omega) (by omega) hbase3 ?_
             intro v4 w4 o4 g4
             have b4 := below_own HK3.out g4 hbase3
             have o3 := HO3.out.past HK3.out (by decide) g4
             have O4 := Lib.hid o4
             have O3 := Lib.hid o3
             clear o4 g4 HK3 HO3 HQ7 o3))
        go_roundw
        case rel =>
          refine ⟨k + 1, hlt, by go_num, ?_, ?_, hb3.trans b4⟩
          · rw [HT.out, List.map_append, HVS.out]; exact O3.out
          · rw [HT.out, List.map_append, HKS.out]; exact O4.out
        case measure => simp [intOf]; omega
    -- BEHIND
    · have htk : args.take k = args := List.take_of_length_le hge
      rw [htk] at HO HK
      clear htk
      obtain ⟨A8, c8, hu8, hRV⟩ := own_rv HO.out
      obtain ⟨A9, c9, hu9, hKC⟩ := own_cells (f := kindCell) (size := 1) (fun _ => rfl) HK.out
      rw [List.length_map] at hu8 hu9
      subst hu8 hu9
      have hX2 := hX.later hb
      have hR2 := hR.later hb
      have hB2 := Later.then hB hb
      clear HO HK hX hR hB
      have HRV := Lib.hid hRV
      have HKC := Lib.hid hKC
      clear hRV hKC
      have x0 := hX2.cell 0
      have x1 := hX2.cell 1
      have x2 := hX2.cell 2
      have x3 := hX2.cell 3
      have x4 := hX2.cell 4
      have x5 := hX2.cell 5
      have x6 := hX2.cell 6
      simp only [List.getElem?_toArray, List.getElem?_cons_zero, List.getElem?_cons_succ] at x0 x1 x2 x3 x4 x5 x6
      have HEV : Hid (evalR ⟨op, xv, name, width, A, args.length, c⟩ (args.map (·.2)) = evalR ⟨op, xv, name, width, A, args.length, c⟩ (args.map (·.2))) := rfl
      go_wp2_with fail
      refine (form_any ⟨op, xv, name, width, A, args.length, c⟩ _).mono ?_
      rintro e w1 ⟨oo, rfl, hOI, b1⟩
      clear x0 x1 x2 x3 x4 x5 x6
      obtain ⟨a, wa, gi, al, nu, d, rfl, _, hd⟩ := hOI.shape
      have hd1 : d.oneCell' = true := by rcases hd with rfl | ⟨F, C, rfl⟩ <;> rfl
      have hst := fun (u : Addr) (m : Mode) (w : World) => run_store Try.prog w u d m hd1
      unfold opArr
      have b2 := Later.then b1 (later_new w1 (.cells #[.int .i64 a, .int .u8 wa, .int .u8 gi, .bool al, .bool nu, d] 60))
      replace hX2 := hX2.later b2
      replace hR2 := hR2.later b2
      replace hB2 := Later.then hB2 b2
      replace HRV := Lib.hid ((HRV.out.below b2).more b2.size)
      have hO2 := Blk.new w1 60 #[.int .i64 a, .int .u8 wa, .int .u8 gi, .bool al, .bool nu, d]
      have hOI2 := hOI.later (later_new w1 (.cells #[.int .i64 a, .int .u8 wa, .int .u8 gi, .bool al, .bool nu, d] 60))
      have HOI := Lib.hid hOI2
      have HKB := Lib.hid b2
      clear hOI hOI2 b1 b2 hd
      generalize hfe : formE ⟨op, xv, name, width, A, args.length, c⟩ = fe
      have HFE := Lib.hid hfe
      clear hfe
      have x0 := hX2.cell 0
      have x1 := hX2.cell 1
      have x2 := hX2.cell 2
      have x3 := hX2.cell 3
      have x4 := hX2.cell 4
      have x5 := hX2.cell 5
      have x6 := hX2.cell 6
      have o0 := hO2.cell 0
      have o1 := hO2.cell 1
      have o2 := hO2.cell 2
      have o3 := hO2.cell 3
      have o4 := hO2.cell 4
      have o5 := hO2.cell 5
      simp only [List.getElem?_toArray, List.getElem?_cons_zero, List.getElem?_cons_succ] at x0 x1 x2 x3 x4 x5 x6 o0 o1 o2 o3 o4 o5
      have hR1 := val_cells hR2
      have hR3 := Blk.frozen hR2
      by_cases hf : fe = 0
      · subst hf
        by_cases h1 : op = 1
        · have HR := Lib.hid (show evalR ⟨op, xv, name, width, A, args.length, c⟩ (args.map (·.2)) = (xv, 0) by unfold evalR; rw [if_neg (by rw [HFE.out]; simp), if_pos h1])
          have t1 : (op == 1) = true := by simpa using h1
          clear h1
          go_wp2_with fail
          exact bodyPost_ret (v := .tuple #[.agg #[.int .u8 xv.k, .int .i64 xv.n, .string xv.s], .int .i64 0]) (by simp [results, Try.results14, go_sem, hR1]; try rfl) rfl ⟨by rw [HR.out]; rfl, ((hB2.setCell hgw _).setCell hgw _).setCell hgw _⟩
        · have t1 : (op == 1) = false := by simpa using h1
          have hop2' : op ≠ 2 := by
            intro e2
            rcases HOP2.out with h | h
            · exact h e2
            · exact h (formE_two HFE.out e2)
          have t2 : (op == 2) = false := by simpa using hop2'
          obtain ⟨hiso, hnargs, hwd⟩ := formE_zero HFE.out hop2' h1
          clear hop2'
          dsimp only at hiso hnargs hwd
          have hopr : 3 ≤ op ∧ op ≤ 20 := by simpa [isOp] using hiso
          have hcast : ((op.toNat : Nat) : Int) = op := by omega
          have hOp : OpIs (w1.alloc (.cells #[.int .i64 a, .int .u8 wa, .int .u8 gi, .bool al, .bool nu, d] 60)) op.toNat (.agg (opArr a wa gi al nu d)) := by
            rcases HOI.out with ⟨_, h⟩ | ⟨h, _⟩
            · exact h
            · dsimp only at h; rw [hiso] at h; cases h
          have hfl := hOp.fields
          have hna := hOp.args
          rw [hcast] at hfl hna
          obtain ⟨hwa, hgi, hal, hnu⟩ := hfl
          clear hgi
          have HWD := Lib.hid hwd
          have HD := Lib.hid (hOp.does ⟨op, xv, name, width, A, args.length, c⟩ (args.map (·.2)) (by rw [List.length_map, hna]; exact hnargs) (fun u hu => by obtain ⟨z, hz, rfl⟩ := List.mem_map.1 hu; exact HOKV.out z hz) (fun e => HWD.out (by rw [← hcast, e]; rfl)))
          have HD0 := HD
          have HDB := Lib.hid (Below.refl _ _ : Below (w1.alloc (.cells #[.int .i64 a, .int .u8 wa, .int .u8 gi, .bool al, .bool nu, d] 60)).heap.size (w1.alloc (.cells #[.int .i64 a, .int .u8 wa, .int .u8 gi, .bool al, .bool nu, d] 60)) (w1.alloc (.cells #[.int .i64 a, .int .u8 wa, .int .u8 gi, .bool al, .bool nu, d] 60)))
          clear HD
          have HWA := Lib.hid hwa
          have HAL := Lib.hid hal
          have HNU := Lib.hid hnu
          have hn12 : args.length = 1 ∧ al = false ∨ args.length = 2 := by
            rw [hal]
            unfold argsN at hnargs
            split at hnargs
            · left
              refine ⟨by omega, ?_⟩
              simp [alikeB]
              omega
            · right; omega
          have H1 := Lib.hid h1
          have HEQ : Hid (∀ r, nodeT op width (args.map (·.2)) = r → evalR ⟨op, xv, name, width, A, args.length, c⟩ (args.map (·.2)) = r) := fun r hr => by
            unfold evalR
            rw [if_neg (by rw [HFE.out]; simp), if_neg H1.out]
            exact hr
          clear hwa hal hnu hna hnargs hiso hopr hOp HOI HWD hwd h1 HFE HEV
          rcases hn12 with ⟨hlen, rfl⟩ | hlen
          · obtain ⟨⟨y1, v1⟩, rfl⟩ := len1 hlen
            clear hlen
            simp only [List.map_cons, List.map_nil, List.length_cons, List.length_nil, Nat.zero_add, Nat.reduceAdd] at *
            have hkc := HKC.out
            clear HKC
            rcases hkc with hkc | ⟨g9, rfl, hg9, hkc⟩
            · simp at hkc
            have kc1 := (HKB.out.cell (p := ⟨g9, 0, none⟩) hg9).trans (hkc 0 v1.k 0 _ rfl (by omega) rfl)
            have hg9' := Nat.lt_of_lt_of_le hg9 HKB.out.size
            clear hkc HKB
            go_wp2_with fail
            refine (suits_one a wa gi nu d hd1 g9 0 c9 v1.k _ hg9' kc1).mono ?_
            rintro e w3 ⟨rfl, b3⟩
            clear x0 x1 x2 x3 x4 x5 x6 o0 o1 o2 o3 o4 o5 hR1 hR3
            replace hX2 := hX2.later b3
            replace hO2 := hO2.later b3
            replace hR2 := hR2.later b3
            replace hB2 := Later.then hB2 b3
            replace HRV := Lib.hid ((HRV.out.below b3).more (b3).size)
            replace HDB := Lib.hid (Later.then HDB.out b3)
            replace kc1 := (b3.cell (p := ⟨g9, 0, none⟩) hg9').trans kc1
            replace hg9' := Nat.lt_of_lt_of_le hg9' b3.size
            clear b3
            have HSB : Hid (suitsB op [v1.k] = goes2 v1.k wa) := by have z1 := HWA.out; have z2 := HAL.out; show suitsB _ _ = _; simp only [suitsB, ← z1, ← z2]
            cases hs : goes2 v1.k wa
            · have HQ := Lib.hid (HEQ.out (zeroVal, 40) (by unfold nodeT; simp only [List.map_cons, List.map_nil]; rw [HSB.out, hs, if_pos rfl]))
              have x0 := hX2.cell 0
              have x1 := hX2.cell 1
              have x2 := hX2.cell 2
              have x3 := hX2.cell 3
              have x4 := hX2.cell 4
              have x5 := hX2.cell 5
              have x6 := hX2.cell 6
              have o0 := hO2.cell 0
              have o1 := hO2.cell 1
              have o2 := hO2.cell 2
              have o3 := hO2.cell 3
              have o4 := hO2.cell 4
              have o5 := hO2.cell 5
              simp only [List.getElem?_toArray, List.getElem?_cons_zero, List.getElem?_cons_succ] at x0 x1 x2 x3 x4 x5 x6 o0 o1 o2 o3 o4 o5
              have hR1 := val_cells hR2
              have hR3 := Blk.frozen hR2
              go_wp2_with fail
              exact bodyPost_ret (v := .tuple #[.agg #[.int .u8 0, .int .i64 0, .string ByteArray.empty], .int .i64 40]) (by simp [results, Try.results14, go_sem, hR1]; try rfl) rfl ⟨congrArg (fun r : Val × Int => Ending.returned (ansV r.1 r.2)) HQ.out.symm, ((hB2.setCell hgw _).setCell hgw _).setCell hgw _⟩
            · cases hnu : nu
              · subst hnu
                have x0 := hX2.cell 0
                have x1 := hX2.cell 1
                have x2 := hX2.cell 2
                have x3 := hX2.cell 3
                have x4 := hX2.cell 4
                have x5 := hX2.cell 5
                have x6 := hX2.cell 6
                have o0 := hO2.cell 0
                have o1 := hO2.cell 1
                have o2 := hO2.cell 2
                have o3 := hO2.cell 3
                have o4 := hO2.cell 4
                have o5 := hO2.cell 5
                simp only [List.getElem?_toArray, List.getElem?_cons_zero, List.getElem?_cons_succ] at x0 x1 x2 x3 x4 x5 x6 o0 o1 o2 o3 o4 o5
                have hR1 := val_cells hR2
                have hR3 := Blk.frozen hR2
                go_wp2_with fail
                refine (hasNull_one g9 0 c9 v1.k _ kc1).mono ?_
                rintro e w4 ⟨rfl, rfl⟩
                cases hz : (v1.k == 0)
                · have HQ := Lib.hid (HEQ.out _ (show nodeT op width [v1] = doT op.toNat width [v1] by unfold nodeT; simp only [List.map_cons, List.map_nil]; rw [HSB.out, hs, if_neg (by simp), if_neg (by simp_all)]))
                  obtain ⟨f0, caps, rfl, hcaps, hen, hcall⟩ := HD0.out
                  have HCA := Lib.hid (hcall _ A8 c8 HDB.out HRV.out)
                  clear hcall
                  have x0 := hX2.cell 0
                  have x1 := hX2.cell 1
                  have x2 := hX2.cell 2
                  have x3 := hX2.cell 3
                  have x4 := hX2.cell 4
                  have x5 := hX2.cell 5
                  have x6 := hX2.cell 6
                  have o0 := hO2.cell 0
                  have o1 := hO2.cell 1
                  have o2 := hO2.cell 2
                  have o3 := hO2.cell 3
                  have o4 := hO2.cell 4
                  have o5 := hO2.cell 5
                  simp only [List.getElem?_toArray, List.getElem?_cons_zero, List.getElem?_cons_succ] at x0 x1 x2 x3 x4 x5 x6 o0 o1 o2 o3 o4 o5
                  have hR1 := val_cells hR2
                  have hR3 := Blk.frozen hR2
                  rcases hcaps with rfl | ⟨pp, rfl⟩
                  · have HC2 : Hid (Calls Try.prog f0 #[.agg #[.int .u8 op, .int .u8 xv.k, .int .i64 xv.n, .string xv.s, .string name, .int .i64 width, .slice A 1 c], .slice A8 1 c8] _ _) := HCA.out
                    clear HCA
                    go_wp2_with fail
                    refine HC2.out.mono ?_
                    rintro e w5 ⟨rfl, b5⟩
                    generalize hr : doT op.toNat width [v1] = r at *
                    have HR9 := Lib.hid hr
                    clear hr
                    unfold ansV
                    clear x0 x1 x2 x3 x4 x5 x6 o0 o1 o2 o3 o4 o5 hR1 hR3
                    replace hR2 := hR2.later b5
                    replace hB2 := Later.then hB2 b5
                    have hR1 := val_cells hR2
                    have hR3 := Blk.frozen hR2
                    go_wp2_with fail
                    exact bodyPost_ret (v := .tuple #[.agg #[.int .u8 r.1.k, .int .i64 r.1.n, .string r.1.s], .int .i64 r.2]) (by simp [results, Try.results14, go_sem, hR1]; try rfl) rfl ⟨congrArg (fun r : Val × Int => Ending.returned (ansV r.1 r.2)) HQ.out.symm, ((hB2.setCell hgw _).setCell hgw _).setCell hgw _⟩
                  · have HC2 : Hid (Calls Try.prog f0 #[.agg #[.int .u8 op, .int .u8 xv.k, .int .i64 xv.n, .string xv.s, .string name, .int .i64 width, .slice A 1 c], .slice A8 1 c8, pp] _ _) := HCA.out
                    clear HCA
                    go_wp2_with fail
                    refine HC2.out.mono ?_
                    rintro e w5 ⟨rfl, b5⟩
                    generalize hr : doT op.toNat width [v1] = r at *
                    have HR9 := Lib.hid hr
                    clear hr
                    unfold ansV
                    clear x0 x1 x2 x3 x4 x5 x6 o0 o1 o2 o3 o4 o5 hR1 hR3
                    replace hR2 := hR2.later b5
                    replace hB2 := Later.then hB2 b5
                    have hR1 := val_cells hR2
                    have hR3 := Blk.frozen hR2
                    go_wp2_with fail
                    exact bodyPost_ret (v := .tuple #[.agg #[.int .u8 r.1.k, .int .i64 r.1.n, .string r.1.s], .int .i64 r.2]) (by simp [results, Try.results14, go_sem, hR1]; try rfl) rfl ⟨congrArg (fun r : Val × Int => Ending.returned (ansV r.1 r.2)) HQ.out.symm, ((hB2.setCell hgw _).setCell hgw _).setCell hgw _⟩
                · have HQ := Lib.hid (HEQ.out (zeroVal, 0) (by unfold nodeT; simp only [List.map_cons, List.map_nil]; rw [HSB.out, hs, if_neg (by simp), if_pos (by have := HNU.out; simp_all)]))
                  go_wp2_with fail
                  exact bodyPost_ret (v := .tuple #[.agg #[.int .u8 0, .int .i64 0, .string ByteArray.empty], .int .i64 0]) (by simp [results, Try.results14, go_sem, hR1]; try rfl) rfl ⟨congrArg (fun r : Val × Int => Ending.returned (ansV r.1 r.2)) HQ.out.symm, ((hB2.setCell hgw _).setCell hgw _).setCell hgw _⟩
              · subst hnu
                have HQ := Lib.hid (HEQ.out _ (show nodeT op width [v1] = doT op.toNat width [v1] by unfold nodeT; simp only [List.map_cons, List.map_nil]; rw [HSB.out, hs, if_neg (by simp), if_neg (by have := HNU.out; simp [← this])]))
                obtain ⟨f0, caps, rfl, hcaps, hen, hcall⟩ := HD0.out
                have HCA := Lib.hid (hcall _ A8 c8 HDB.out HRV.out)
                clear hcall
                have x0 := hX2.cell 0
                have x1 := hX2.cell 1
                have x2 := hX2.cell 2
                have x3 := hX2.cell 3
                have x4 := hX2.cell 4
                have x5 := hX2.cell 5
                have x6 := hX2.cell 6
                have o0 := hO2.cell 0
                have o1 := hO2.cell 1
                have o2 := hO2.cell 2
                have o3 := hO2.cell 3
                have o4 := hO2.cell 4
                have o5 := hO2.cell 5
                simp only [List.getElem?_toArray, List.getElem?_cons_zero, List.getElem?_cons_succ] at x0 x1 x2 x3 x4 x5 x6 o0 o1 o2 o3 o4 o5
                have hR1 := val_cells hR2
                have hR3 := Blk.frozen hR2
                rcases hcaps with rfl | ⟨pp, rfl⟩
                · have HC2 : Hid (Calls Try.prog f0 #[.agg #[.int .u8 op, .int .u8 xv.k, .int .i64 xv.n, .string xv.s, .string name, .int .i64 width, .slice A 1 c], .slice A8 1 c8] _ _) := HCA.out
                  clear HCA
                  go_wp2_with fail
                  refine HC2.out.mono ?_
                  rintro e w5 ⟨rfl, b5⟩
                  generalize hr : doT op.toNat width [v1] = r at *
                  have HR9 := Lib.hid hr
                  clear hr
                  unfold ansV
                  clear x0 x1 x2 x3 x4 x5 x6 o0 o1 o2 o3 o4 o5 hR1 hR3
                  replace hR2 := hR2.later b5
                  replace hB2 := Later.then hB2 b5
                  have hR1 := val_cells hR2
                  have hR3 := Blk.frozen hR2
                  go_wp2_with fail
                  exact bodyPost_ret (v := .tuple #[.agg #[.int .u8 r.1.k, .int .i64 r.1.n, .string r.1.s], .int .i64 r.2]) (by simp [results, Try.results14, go_sem, hR1]; try rfl) rfl ⟨congrArg (fun r : Val × Int => Ending.returned (ansV r.1 r.2)) HQ.out.symm, ((hB2.setCell hgw _).setCell hgw _).setCell hgw _⟩
                · have HC2 : Hid (Calls Try.prog f0 #[.agg #[.int .u8 op, .int .u8 xv.k, .int .i64 xv.n, .string xv.s, .string name, .int .i64 width, .slice A 1 c], .slice A8 1 c8, pp] _ _) := HCA.out
                  clear HCA
                  go_wp2_with fail
                  refine HC2.out.mono ?_
                  rintro e w5 ⟨rfl, b5⟩
                  generalize hr : doT op.toNat width [v1] = r at *
                  have HR9 := Lib.hid hr
                  clear hr
                  unfold ansV
                  clear x0 x1 x2 x3 x4 x5 x6 o0 o1 o2 o3 o4 o5 hR1 hR3
                  replace hR2 := hR2.later b5
                  replace hB2 := Later.then hB2 b5
                  have hR1 := val_cells hR2
                  have hR3 := Blk.frozen hR2
                  go_wp2_with fail
                  exact bodyPost_ret (v := .tuple #[.agg #[.int .u8 r.1.k, .int .i64 r.1.n, .string r.1.s], .int .i64 r.2]) (by simp [results, Try.results14, go_sem, hR1]; try rfl) rfl ⟨congrArg (fun r : Val × Int => Ending.returned (ansV r.1 r.2)) HQ.out.symm, ((hB2.setCell hgw _).setCell hgw _).setCell hgw _⟩
          · obtain ⟨⟨y1, v1⟩, ⟨y2, v2⟩, rfl⟩ := len2 hlen
            clear hlen
            simp only [List.map_cons, List.map_nil, List.length_cons, List.length_nil, Nat.zero_add, Nat.reduceAdd] at *
            have hkc := HKC.out
            clear HKC
            rcases hkc with hkc | ⟨g9, rfl, hg9, hkc⟩
            · simp at hkc
            have kc1 := (HKB.out.cell (p := ⟨g9, 0, none⟩) hg9).trans (hkc 0 v1.k 0 _ rfl (by omega) rfl)
            have kc2 := (HKB.out.cell (p := ⟨g9, 1, none⟩) hg9).trans (hkc 1 v2.k 0 _ rfl (by omega) rfl)
            have hg9' := Nat.lt_of_lt_of_le hg9 HKB.out.size
            clear hkc HKB
            go_wp2_with fail
            refine (suits_two a wa gi al nu d hd1 g9 0 c9 v1.k v2.k _ hg9' kc1 kc2).mono ?_
            rintro e w3 ⟨rfl, b3⟩
            clear x0 x1 x2 x3 x4 x5 x6 o0 o1 o2 o3 o4 o5 hR1 hR3
            replace hX2 := hX2.later b3
            replace hO2 := hO2.later b3
            replace hR2 := hR2.later b3
            replace hB2 := Later.then hB2 b3
            replace HRV := Lib.hid ((HRV.out.below b3).more (b3).size)
            replace HDB := Lib.hid (Later.then HDB.out b3)
            replace kc1 := (b3.cell (p := ⟨g9, 0, none⟩) hg9').trans kc1
            replace kc2 := (b3.cell (p := ⟨g9, 1, none⟩) hg9').trans kc2
            replace hg9' := Nat.lt_of_lt_of_le hg9' b3.size
            clear b3
            have HSB : Hid (suitsB op [v1.k, v2.k] = (goes2 v1.k wa && (goes2 v2.k wa && (!al || goes2 v1.k v2.k)))) := by have z1 := HWA.out; have z2 := HAL.out; show suitsB _ _ = _; simp only [suitsB, ← z1, ← z2]
            cases hs : (goes2 v1.k wa && (goes2 v2.k wa && (!al || goes2 v1.k v2.k)))
            · have HQ := Lib.hid (HEQ.out (zeroVal, 40) (by unfold nodeT; simp only [List.map_cons, List.map_nil]; rw [HSB.out, hs, if_pos rfl]))
              have x0 := hX2.cell 0
              have x1 := hX2.cell 1
              have x2 := hX2.cell 2
              have x3 := hX2.cell 3
              have x4 := hX2.cell 4
              have x5 := hX2.cell 5
              have x6 := hX2.cell 6
              have o0 := hO2.cell 0
              have o1 := hO2.cell 1
              have o2 := hO2.cell 2
              have o3 := hO2.cell 3
              have o4 := hO2.cell 4
              have o5 := hO2.cell 5
              simp only [List.getElem?_toArray, List.getElem?_cons_zero, List.getElem?_cons_succ] at x0 x1 x2 x3 x4 x5 x6 o0 o1 o2 o3 o4 o5
              have hR1 := val_cells hR2
              have hR3 := Blk.frozen hR2
              go_wp2_with fail
              exact bodyPost_ret (v := .tuple #[.agg #[.int .u8 0, .int .i64 0, .string ByteArray.empty], .int .i64 40]) (by simp [results, Try.results14, go_sem, hR1]; try rfl) rfl ⟨congrArg (fun r : Val × Int => Ending.returned (ansV r.1 r.2)) HQ.out.symm, ((hB2.setCell hgw _).setCell hgw _).setCell hgw _⟩
            · cases hnu : nu
              · subst hnu
                have x0 := hX2.cell 0
                have x1 := hX2.cell 1
                have x2 := hX2.cell 2
                have x3 := hX2.cell 3
                have x4 := hX2.cell 4
                have x5 := hX2.cell 5
                have x6 := hX2.cell 6
                have o0 := hO2.cell 0
                have o1 := hO2.cell 1
                have o2 := hO2.cell 2
                have o3 := hO2.cell 3
                have o4 := hO2.cell 4
                have o5 := hO2.cell 5
                simp only [List.getElem?_toArray, List.getElem?_cons_zero, List.getElem?_cons_succ] at x0 x1 x2 x3 x4 x5 x6 o0 o1 o2 o3 o4 o5
                have hR1 := val_cells hR2
                have hR3 := Blk.frozen hR2
                go_wp2_with fail
                refine (hasNull_two g9 0 c9 v1.k v2.k _ kc1 kc2).mono ?_
                rintro e w4 ⟨rfl, rfl⟩
                cases hz : (v1.k == 0 || v2.k == 0)
                · have HQ := Lib.hid (HEQ.out _ (show nodeT op width [v1, v2] = doT op.toNat width [v1, v2] by unfold nodeT; simp only [List.map_cons, List.map_nil]; rw [HSB.out, hs, if_neg (by simp), if_neg (by simp_all)]))
                  obtain ⟨f0, caps, rfl, hcaps, hen, hcall⟩ := HD0.out
                  have HCA := Lib.hid (hcall _ A8 c8 HDB.out HRV.out)
                  clear hcall
                  have x0 := hX2.cell 0
                  have x1 := hX2.cell 1
                  have x2 := hX2.cell 2
                  have x3 := hX2.cell 3
                  have x4 := hX2.cell 4
                  have x5 := hX2.cell 5
                  have x6 := hX2.cell 6
                  have o0 := hO2.cell 0
                  have o1 := hO2.cell 1
                  have o2 := hO2.cell 2
                  have o3 := hO2.cell 3
                  have o4 := hO2.cell 4
                  have o5 := hO2.cell 5
                  simp only [List.getElem?_toArray, List.getElem?_cons_zero, List.getElem?_cons_succ] at x0 x1 x2 x3 x4 x5 x6 o0 o1 o2 o3 o4 o5
                  have hR1 := val_cells hR2
                  have hR3 := Blk.frozen hR2
                  rcases hcaps with rfl | ⟨pp, rfl⟩
                  · have HC2 : Hid (Calls Try.prog f0 #[.agg #[.int .u8 op, .int .u8 xv.k, .int .i64 xv.n, .string xv.s, .string name, .int .i64 width, .slice A 2 c], .slice A8 2 c8] _ _) := HCA.out
                    clear HCA
                    go_wp2_with fail
                    refine HC2.out.mono ?_
                    rintro e w5 ⟨rfl, b5⟩
                    generalize hr : doT op.toNat width [v1, v2] = r at *
                    have HR9 := Lib.hid hr
                    clear hr
                    unfold ansV
                    clear x0 x1 x2 x3 x4 x5 x6 o0 o1 o2 o3 o4 o5 hR1 hR3
                    replace hR2 := hR2.later b5
                    replace hB2 := Later.then hB2 b5
                    have hR1 := val_cells hR2
                    have hR3 := Blk.frozen hR2
                    go_wp2_with fail
                    exact bodyPost_ret (v := .tuple #[.agg #[.int .u8 r.1.k, .int .i64 r.1.n, .string r.1.s], .int .i64 r.2]) (by simp [results, Try.results14, go_sem, hR1]; try rfl) rfl ⟨congrArg (fun r : Val × Int => Ending.returned (ansV r.1 r.2)) HQ.out.symm, ((hB2.setCell hgw _).setCell hgw _).setCell hgw _⟩
                  · have HC2 : Hid (Calls Try.prog f0 #[.agg #[.int .u8 op, .int .u8 xv.k, .int .i64 xv.n, .string xv.s, .string name, .int .i64 width, .slice A 2 c], .slice A8 2 c8, pp] _ _) := HCA.out
                    clear HCA
                    go_wp2_with fail
                    refine HC2.out.mono ?_
                    rintro e w5 ⟨rfl, b5⟩
                    generalize hr : doT op.toNat width [v1, v2] = r at *
                    have HR9 := Lib.hid hr
                    clear hr
                    unfold ansV
                    clear x0 x1 x2 x3 x4 x5 x6 o0 o1 o2 o3 o4 o5 hR1 hR3
                    replace hR2 := hR2.later b5
                    replace hB2 := Later.then hB2 b5
                    have hR1 := val_cells hR2
                    have hR3 := Blk.frozen hR2
                    go_wp2_with fail
                    exact bodyPost_ret (v := .tuple #[.agg #[.int .u8 r.1.k, .int .i64 r.1.n, .string r.1.s], .int .i64 r.2]) (by simp [results, Try.results14, go_sem, hR1]; try rfl) rfl ⟨congrArg (fun r : Val × Int => Ending.returned (ansV r.1 r.2)) HQ.out.symm, ((hB2.setCell hgw _).setCell hgw _).setCell hgw _⟩
                · have HQ := Lib.hid (HEQ.out (zeroVal, 0) (by unfold nodeT; simp only [List.map_cons, List.map_nil]; rw [HSB.out, hs, if_neg (by simp), if_pos (by have := HNU.out; simp_all)]))
                  go_wp2_with fail
                  exact bodyPost_ret (v := .tuple #[.agg #[.int .u8 0, .int .i64 0, .string ByteArray.empty], .int .i64 0]) (by simp [results, Try.results14, go_sem, hR1]; try rfl) rfl ⟨congrArg (fun r : Val × Int => Ending.returned (ansV r.1 r.2)) HQ.out.symm, ((hB2.setCell hgw _).setCell hgw _).setCell hgw _⟩
              · subst hnu
                have HQ := Lib.hid (HEQ.out _ (show nodeT op width [v1, v2] = doT op.toNat width [v1, v2] by unfold nodeT; simp only [List.map_cons, List.map_nil]; rw [HSB.out, hs, if_neg (by simp), if_neg (by have := HNU.out; simp [← this])]))
                obtain ⟨f0, caps, rfl, hcaps, hen, hcall⟩ := HD0.out
                have HCA := Lib.hid (hcall _ A8 c8 HDB.out HRV.out)
                clear hcall
                have x0 := hX2.cell 0
                have x1 := hX2.cell 1
                have x2 := hX2.cell 2
                have x3 := hX2.cell 3
                have x4 := hX2.cell 4
                have x5 := hX2.cell 5
                have x6 := hX2.cell 6
                have o0 := hO2.cell 0
                have o1 := hO2.cell 1
                have o2 := hO2.cell 2
                have o3 := hO2.cell 3
                have o4 := hO2.cell 4
                have o5 := hO2.cell 5
                simp only [List.getElem?_toArray, List.getElem?_cons_zero, List.getElem?_cons_succ] at x0 x1 x2 x3 x4 x5 x6 o0 o1 o2 o3 o4 o5
                have hR1 := val_cells hR2
                have hR3 := Blk.frozen hR2
                rcases hcaps with rfl | ⟨pp, rfl⟩
                · have HC2 : Hid (Calls Try.prog f0 #[.agg #[.int .u8 op, .int .u8 xv.k, .int .i64 xv.n, .string xv.s, .string name, .int .i64 width, .slice A 2 c], .slice A8 2 c8] _ _) := HCA.out
                  clear HCA
                  go_wp2_with fail
                  refine HC2.out.mono ?_
                  rintro e w5 ⟨rfl, b5⟩
                  generalize hr : doT op.toNat width [v1, v2] = r at *
                  have HR9 := Lib.hid hr
                  clear hr
                  unfold ansV
                  clear x0 x1 x2 x3 x4 x5 x6 o0 o1 o2 o3 o4 o5 hR1 hR3
                  replace hR2 := hR2.later b5
                  replace hB2 := Later.then hB2 b5
                  have hR1 := val_cells hR2
                  have hR3 := Blk.frozen hR2
                  go_wp2_with fail
                  exact bodyPost_ret (v := .tuple #[.agg #[.int .u8 r.1.k, .int .i64 r.1.n, .string r.1.s], .int .i64 r.2]) (by simp [results, Try.results14, go_sem, hR1]; try rfl) rfl ⟨congrArg (fun r : Val × Int => Ending.returned (ansV r.1 r.2)) HQ.out.symm, ((hB2.setCell hgw _).setCell hgw _).setCell hgw _⟩
                · have HC2 : Hid (Calls Try.prog f0 #[.agg #[.int .u8 op, .int .u8 xv.k, .int .i64 xv.n, .string xv.s, .string name, .int .i64 width, .slice A 2 c], .slice A8 2 c8, pp] _ _) := HCA.out
                  clear HCA
                  go_wp2_with fail
                  refine HC2.out.mono ?_
                  rintro e w5 ⟨rfl, b5⟩
                  generalize hr : doT op.toNat width [v1, v2] = r at *
                  have HR9 := Lib.hid hr
                  clear hr
                  unfold ansV
                  clear x0 x1 x2 x3 x4 x5 x6 o0 o1 o2 o3 o4 o5 hR1 hR3
                  replace hR2 := hR2.later b5
                  replace hB2 := Later.then hB2 b5
                  have hR1 := val_cells hR2
                  have hR3 := Blk.frozen hR2
                  go_wp2_with fail
                  exact bodyPost_ret (v := .tuple #[.agg #[.int .u8 r.1.k, .int .i64 r.1.n, .string r.1.s], .int .i64 r.2]) (by simp [results, Try.results14, go_sem, hR1]; try rfl) rfl ⟨congrArg (fun r : Val × Int => Ending.returned (ansV r.1 r.2)) HQ.out.symm, ((hB2.setCell hgw _).setCell hgw _).setCell hgw _⟩
      · have HR := Lib.hid (show evalR ⟨op, xv, name, width, A, args.length, c⟩ (args.map (·.2)) = (zeroVal, fe) by unfold evalR; rw [if_pos (by rw [HFE.out]; exact hf), HFE.out])
        have t1 : (fe != 0) = true := by simpa using hf
        clear hf
        go_wp2_with fail
        exact bodyPost_ret (v := .tuple #[.agg #[.int .u8 0, .int .i64 0, .string ByteArray.empty], .int .i64 fe]) (by simp [results, Try.results14, go_sem, hR1]; try rfl) rfl ⟨by rw [HR.out]; rfl, ((hB2.setCell hgw _).setCell hgw _).setCell hgw _⟩
theorem eval_op (op : Int) (hop2 : op ≠ 2) (xv : Val) (name : ByteArray) (width : Int) (A : Option Addr) (c : Nat) (cV rV : Value) (args : List (Ex × Val)) (hok : ∀ a ∈ args, a.2.Ok) (w : World) (hl : args.length ≤ 1599289640356) (hA : RE w w.heap.size A (args.map (·.1))) (hE : ∀ a ∈ args, EvalIs w cV rV a.1 a.2 0) :
    Calls Try.prog 14 #[.agg #[.int .u8 op, .int .u8 xv.k, .int .i64 xv.n, .string xv.s, .string name, .int .i64 width, .slice A args.length c], cV, rV] w fun en w' => en = .returned (ansV (evalR ⟨op, xv, name, width, A, args.length, c⟩ (args.map (·.2))).1 (evalR ⟨op, xv, name, width, A, args.length, c⟩ (args.map (·.2))).2) ∧ Below w.heap.size w w' :=
  eval_op2 op xv name width A c cV rV args (.inl hop2) hok w hl hA hE
end Go.Proofs.Ytlfahfoffdbpfaa
