/- Parts of the proof: Gz. Put together by slim.py. -/
import Derived.Test.YtcneefmaghoejaaGreatDoorB39
namespace Go.Proofs.YtcneefmaghoejaaGreatDoor
open Go.ChangeShapes Go.WideShapes Go.ChangeAt Go.RowKit
set_option linter.unusedVariables false
set_option linter.unusedSimpArgs false
set_option maxHeartbeats 2000000 in
set_option maxRecDepth 100000 in
theorem gpar_lex (s : ByteArray) (w : World) (hE : LexEnv w) (hs : s.size ≤ 4294967280) {p x : Nat} (h : lexL s.data.toList = .error (p, x)) : Calls Tryz.prog 10 #[.string s] w (parPost s w) := by
  have hx := lexL_errs h
  have hx0 : ((x : Int) != 0) = true := by rcases hx with rfl | rfl <;> rfl
  clear hx
  have HP := Lib.hid (parse_lex h)
  have hmf : ∀ (fn : Fn) (first cap : Array Value) (w : World), (Instr.makeFunc fn first cap).run Tryz.prog w = .ok (.func fn first cap) w := fun _ _ _ _ => rfl
  go_enter_defers Tryz.func10, Tryz.ntmps10
  go_upto_region 1 with fail
  change Code.wp _ _ _ _ (((w.alloc (gstZ {})).alloc (.cells #[.int .i64 0] 3)).alloc (.cells #[.int .i64 0] 36))
  have hb3 : Below w.heap.size w (((w.alloc (gstZ {})).alloc (.cells #[.int .i64 0] 3)).alloc (.cells #[.int .i64 0] 36)) := Later.then (Later.then (later_new w _) (later_new _ _)) (later_new _ _)
  have hC : Cel3 (((w.alloc (gstZ {})).alloc (.cells #[.int .i64 0] 3)).alloc (.cells #[.int .i64 0] 36)) w.heap.size gst0 (.int .i64 0) (.int .i64 0) := by
    refine ⟨((Blk.new w _ _).alloc _).alloc _, ?_, ?_⟩
    · have := (Blk.new (w.alloc (gstZ {})) 3 #[.int .i64 0]).alloc (.cells #[.int .i64 0] 36)
      rwa [World.size_alloc] at this
    · have := Blk.new ((w.alloc (gstZ {})).alloc (.cells #[.int .i64 0] 3)) 36 #[.int .i64 0]
      rwa [World.size_alloc, World.size_alloc] at this
  generalize hW : World.alloc _ _ = W0 at *
  clear hW
  have HL := glex_err h (hE.later hb3) hs
  have hb3' := Lib.hid hb3
  have hC' := Lib.hid hC
  clear hb3 hC h
  go_wp2_with fail
  refine HL.mono ?_
  rintro e w1 ⟨rfl, b1⟩
  have hC1 := hC'.out.later b1
  have HB1 := Lib.hid (Later.then hb3'.out b1)
  have e1 := hC1.at_.cell 0
  have e2 := hC1.er.cell 0
  simp only [List.getElem?_toArray, List.getElem?_cons_zero] at e1 e2
  have f1 := hC1.at_.frozen 0
  have f2 := hC1.er.frozen 0
  have hlt := hC1.lt
  have HC1 := Lib.hid hC1
  clear hC1 b1 HL hC' hb3'
  generalize hq : w.heap.size = q at *
  go_upto_region 3 with fail
  have HC2 : Cel3 ((w1.setCell ⟨q + 1, 0, none⟩ (.int .i64 p)).setCell ⟨q + 2, 0, none⟩ (.int .i64 x)) q gst0 (.int .i64 p) (.int .i64 x) :=
    ⟨(HC1.out.st.far (p := ⟨q + 1, 0, none⟩) (by simp) _).far (p := ⟨q + 2, 0, none⟩) (by simp) _, (HC1.out.at_.set_ 0 _).far (p := ⟨q + 2, 0, none⟩) (by simp) _, (HC1.out.er.far (p := ⟨q + 1, 0, none⟩) (by simp) _).set_ 0 _⟩
  have g1 : w1.grownBy (w1.setCell ⟨q + 1, 0, none⟩ (.int .i64 p)) (some (q + 1)) := grown_set (grown_below (Below.refl _ _)) 0 _
  have g2 : (w1.setCell ⟨q + 1, 0, none⟩ (.int .i64 p)).grownBy ((w1.setCell ⟨q + 1, 0, none⟩ (.int .i64 p)).setCell ⟨q + 2, 0, none⟩ (.int .i64 x)) (some (q + 2)) := grown_set (grown_below (Below.refl _ _)) 0 _
  have hB2 : Below q w ((w1.setCell ⟨q + 1, 0, none⟩ (.int .i64 p)).setCell ⟨q + 2, 0, none⟩ (.int .i64 x)) := (HB1.out.trans (below_grown g1 (by omega) (by omega))).trans (below_grown g2 (by have := g1.size; omega) (by omega))
  clear g1 g2 e1 e2 f1 f2
  change Code.wp _ _ _ _ ((w1.setCell ⟨q + 1, 0, none⟩ (.int .i64 p)).setCell ⟨q + 2, 0, none⟩ (.int .i64 x))
  generalize (w1.setCell _ _).setCell _ _ = W at *
  obtain ⟨z0, hz0⟩ : ∃ z, z = gst0 := ⟨_, rfl⟩
  have HZ := Lib.hid (show Tryz.prog.built 35 [] = some z0 by rw [hz0]; exact gst_zero)
  have HZ1 := Lib.hid (show z0.all (·.oneCell') = true by rw [hz0]; exact gst_one {})
  have HZ2 := Lib.hid (show z0.size = 28 by rw [hz0]; rfl)
  have HZ3 := Lib.hid hz0
  rw [← hz0] at HC2
  clear hz0
  refine region_chain [] [_, _, _, _, _, _] rfl (fun i => if i = 0 then .agg z0 else if i = 1 then .int .i64 p else .int .i64 x) [3, 4, 5] (fun vs w' => Cel3 w' q z0 (.int .i64 p) (.int .i64 x) ∧ Below q w w') (fun vs w' ⟨a, b⟩ => ⟨⟨a.st.drew, a.at_.drew, a.er.drew⟩, b.drew⟩) ⟨HC2, hB2⟩ (by kernel_rfl) (by kernel_rfl) (by kernel_rfl) (by kernel_rfl) (by decide) rfl ?_ ?_
  · refine ⟨?_, ?_, ?_, ?_, ?_, ?_, trivial⟩
    · intro ρ w' vs hcs hG hr
      refine ⟨rfl, ?_⟩
      unfold execOp
      simp only [Sem.run_bind, Array.map_empty, run_build w' 35 #[] z0 HZ.out, Result.andThen_ok]
      rfl
    · intro ρ w' vs hcs hG hr
      have r0 : ρ (.tmp 3) = .pointer (some ⟨q + 1, 0, none⟩) := hr.1
      have hc := hG.1.at_.cell 0
      simp only [List.getElem?_toArray, List.getElem?_cons_zero] at hc
      refine ⟨rfl, ?_⟩
      show (execOp ρ _).run Tryz.prog w' = .ok (.value (.int .i64 p)) w'
      simp [execOp, r0, go_sem, hc]
    · intro ρ w' vs hcs hG hr
      have r0 : ρ (.tmp 4) = .pointer (some ⟨q + 2, 0, none⟩) := hr.1
      have hc := hG.1.er.cell 0
      simp only [List.getElem?_toArray, List.getElem?_cons_zero] at hc
      refine ⟨rfl, ?_⟩
      show (execOp ρ _).run Tryz.prog w' = .ok (.value (.int .i64 x)) w'
      simp [execOp, r0, go_sem, hc]
    · intro ρ w' vs hcs hG hr
      have r0 : ρ (.tmp 2) = .pointer (some ⟨q, 0, none⟩) := hr.1
      have r1 : ρ (.tmp 15) = .agg z0 := hr.2.1
      refine ⟨rfl, ?_⟩
      show vs.length = 0 → _
      intro hl
      obtain ⟨a, b⟩ := hG
      refine opW_skip (w' := w'.setRow q z0) ?_ ?_
      · unfold execOp
        simp only [r0, r1, Instr.storeAt, Instr.sureAddr, Sem.run_bind, Sem.run_pure, Result.andThen_ok, run_storeVar_row w' q 35 35 z0 z0 a.st (by rw [HZ2.out]; exact gst_info) rfl HZ1.out]
      · rw [setRow_same a.st]
        exact ⟨a, b⟩
    · intro ρ w' vs hcs hG hr
      have r0 : ρ (.tmp 3) = .pointer (some ⟨q + 1, 0, none⟩) := hr.1
      have r1 : ρ (.tmp 16) = .int .i64 p := hr.2.1
      refine ⟨rfl, ?_⟩
      show vs.length = 1 → _
      intro hl
      obtain ⟨a, b⟩ := hG
      have hf := a.at_.frozen 0
      have hc := a.at_.cell 0
      simp only [List.getElem?_toArray, List.getElem?_cons_zero] at hc
      have hlt := a.lt
      refine opW_skip (w' := w'.setCell ⟨q + 1, 0, none⟩ (.int .i64 p)) (by simp [execOp, r0, r1, go_sem, hc, hf]) ?_
      exact ⟨⟨a.st.far (p := ⟨q + 1, 0, none⟩) (by simp) _, a.at_.set_ 0 _, a.er.far (p := ⟨q + 1, 0, none⟩) (by simp) _⟩, b.trans (below_grown (p := q + 1) (grown_set (grown_below (Below.refl _ _)) 0 _) (by omega) (by omega))⟩
    · intro ρ w' vs hcs hG hr
      have r0 : ρ (.tmp 4) = .pointer (some ⟨q + 2, 0, none⟩) := hr.1
      have r1 : ρ (.tmp 17) = .int .i64 x := hr.2.1
      refine ⟨rfl, ?_⟩
      show vs.length = 2 → _
      intro hl
      obtain ⟨a, b⟩ := hG
      have hf := a.er.frozen 0
      have hc := a.er.cell 0
      simp only [List.getElem?_toArray, List.getElem?_cons_zero] at hc
      have hlt := a.lt
      refine opW_skip (w' := w'.setCell ⟨q + 2, 0, none⟩ (.int .i64 x)) (by simp [execOp, r0, r1, go_sem, hc, hf]) ?_
      exact ⟨⟨a.st.far (p := ⟨q + 2, 0, none⟩) (by simp) _, a.at_.far (p := ⟨q + 2, 0, none⟩) (by simp) _, a.er.set_ 0 _⟩, b.trans (below_grown (p := q + 2) (grown_set (grown_below (Below.refl _ _)) 0 _) (by omega) (by omega))⟩
  · intro vs w' hl hG
    intro a0 z0' a1 z1 a2 z2
    have z0' : a0 = .agg z0 := z0'
    have z1 : a1 = .int .i64 p := z1
    have z2 : a2 = .int .i64 x := z2
    subst z0' z1 z2
    change wpList _ _ _ _ _ _
    clear z0' z1 z2
    go_wp2_with fail
    refine door_plain hG.1 HZ2.out rfl rfl rfl ?_
    unfold parPost
    rw [HP.out, HZ3.out]
    exact ⟨rfl, hq ▸ hG.2⟩
set_option maxHeartbeats 2000000 in
set_option maxRecDepth 100000 in
theorem gpar_run (s : ByteArray) (w : World) (hE : LexEnv w) (hs : s.size ≤ 4294967280) {l : List Tok} (hl : lexL s.data.toList = .ok l) : Calls Tryz.prog 10 #[.string s] w (parPost s w) := by
  obtain ⟨t0, r0, hl0⟩ := lexL_cons hl
  obtain ⟨_, hlen, hwd⟩ := lexL_ok hl
  have hne : l ≠ [] := by rw [hl0]; simp
  have HEN := Lib.hid (lexL_ends hl)
  have HWD := Lib.hid hwd
  have HLL := Lib.hid hl
  have HE0 := Lib.hid (Env.mk0 hE)
  clear hl0 hwd
  have hmf : ∀ (fn : Fn) (first cap : Array Value) (w : World), (Instr.makeFunc fn first cap).run Tryz.prog w = .ok (.func fn first cap) w := fun _ _ _ _ => rfl
  go_enter_defers Tryz.func10, Tryz.ntmps10
  go_upto_region 1 with fail
  change Code.wp _ _ _ _ (((w.alloc (gstZ {})).alloc (.cells #[.int .i64 0] 3)).alloc (.cells #[.int .i64 0] 36))
  have hb3 : Below w.heap.size w (((w.alloc (gstZ {})).alloc (.cells #[.int .i64 0] 3)).alloc (.cells #[.int .i64 0] 36)) := Later.then (Later.then (later_new w _) (later_new _ _)) (later_new _ _)
  have hC : Cel3 (((w.alloc (gstZ {})).alloc (.cells #[.int .i64 0] 3)).alloc (.cells #[.int .i64 0] 36)) w.heap.size gst0 (.int .i64 0) (.int .i64 0) := by
    refine ⟨((Blk.new w _ _).alloc _).alloc _, ?_, ?_⟩
    · have := (Blk.new (w.alloc (gstZ {})) 3 #[.int .i64 0]).alloc (.cells #[.int .i64 0] 36)
      rwa [World.size_alloc] at this
    · have := Blk.new ((w.alloc (gstZ {})).alloc (.cells #[.int .i64 0] 3)) 36 #[.int .i64 0]
      rwa [World.size_alloc, World.size_alloc] at this
  generalize hW : World.alloc _ _ = W0 at *
  clear hW
  have HL := glex_ok hl (hE.later hb3) hs
  have hb3' := Lib.hid hb3
  have hC' := Lib.hid hC
  clear hb3 hC hl hE
  go_wp2_with fail
  refine HL.mono ?_
  clear HL
  rintro e w1 ⟨A, c, rfl, ht, b1⟩
  obtain ⟨gl, rfl, hgb, hgl, hc⟩ := ht.cells hne
  have hC1 := hC'.out.later b1
  have HB1 := Lib.hid (Later.then hb3'.out b1)
  have e1 := hC1.at_.cell 0
  have e2 := hC1.er.cell 0
  simp only [List.getElem?_toArray, List.getElem?_cons_zero] at e1 e2
  have f1 := hC1.at_.frozen 0
  have f2 := hC1.er.frozen 0
  have hlt := hC1.lt
  have hglq : w.heap.size + 2 < gl := by have := hC'.out.lt; omega
  have HC1 := Lib.hid hC1
  have HTK := Lib.hid hc
  clear hC1 b1 hC' hb3' ht hc hgb
  generalize hq : w.heap.size = q at *
  have hx0 : ((0 : Int) != 0) = false := rfl
  go_upto_region 4 with fail
  have HC2 : Cel3 ((w1.setCell ⟨q + 1, 0, none⟩ (.int .i64 0)).setCell ⟨q + 2, 0, none⟩ (.int .i64 0)) q gst0 (.int .i64 0) (.int .i64 0) :=
    ⟨(HC1.out.st.far (p := ⟨q + 1, 0, none⟩) (by simp) _).far (p := ⟨q + 2, 0, none⟩) (by simp) _, (HC1.out.at_.set_ 0 _).far (p := ⟨q + 2, 0, none⟩) (by simp) _, (HC1.out.er.far (p := ⟨q + 1, 0, none⟩) (by simp) _).set_ 0 _⟩
  have g1 : w1.grownBy (w1.setCell ⟨q + 1, 0, none⟩ (.int .i64 0)) (some (q + 1)) := grown_set (grown_below (Below.refl _ _)) 0 _
  have g2 : (w1.setCell ⟨q + 1, 0, none⟩ (.int .i64 0)).grownBy ((w1.setCell ⟨q + 1, 0, none⟩ (.int .i64 0)).setCell ⟨q + 2, 0, none⟩ (.int .i64 0)) (some (q + 2)) := grown_set (grown_below (Below.refl _ _)) 0 _
  have hB2 : Below q w ((w1.setCell ⟨q + 1, 0, none⟩ (.int .i64 0)).setCell ⟨q + 2, 0, none⟩ (.int .i64 0)) := (HB1.out.trans (below_grown g1 (by omega) (by omega))).trans (below_grown g2 (by have := g1.size; omega) (by omega))
  have hTK2 : ∀ k t, l[k]? = some t → ((w1.setCell ⟨q + 1, 0, none⟩ (.int .i64 0)).setCell ⟨q + 2, 0, none⟩ (.int .i64 0)).cell? ⟨gl, k * 4, none⟩ = some (.int .u8 t.w.k) ∧ ((w1.setCell ⟨q + 1, 0, none⟩ (.int .i64 0)).setCell ⟨q + 2, 0, none⟩ (.int .i64 0)).cell? ⟨gl, k * 4 + 1, none⟩ = some (.string ⟨t.w.s.toArray⟩) ∧ ((w1.setCell ⟨q + 1, 0, none⟩ (.int .i64 0)).setCell ⟨q + 2, 0, none⟩ (.int .i64 0)).cell? ⟨gl, k * 4 + 2, none⟩ = some (.int .i64 t.w.n) ∧ ((w1.setCell ⟨q + 1, 0, none⟩ (.int .i64 0)).setCell ⟨q + 2, 0, none⟩ (.int .i64 0)).cell? ⟨gl, k * 4 + 3, none⟩ = some (.int .i64 t.p) := by
    intro k t hk
    have c := fun o => (cell_of_heap ((g2.block gl (by have := g1.size; omega) (fun e => by injection e with e; omega)).trans (g1.block gl hgl (fun e => by injection e with e; omega))) o : _)
    obtain ⟨h1, h2, h3, h4⟩ := HTK.out k t hk
    exact ⟨(c _).trans h1, (c _).trans h2, (c _).trans h3, (c _).trans h4⟩
  have hgl2 : gl < ((w1.setCell ⟨q + 1, 0, none⟩ (.int .i64 0)).setCell ⟨q + 2, 0, none⟩ (.int .i64 0)).heap.size := by have h1 := g1.size; have h2 := g2.size; omega
  clear g1 g2 e1 e2 f1 f2 HTK hgl HC1 HB1 hlt
  change Code.wp _ _ _ _ ((w1.setCell ⟨q + 1, 0, none⟩ (.int .i64 0)).setCell ⟨q + 2, 0, none⟩ (.int .i64 0))
  generalize (w1.setCell _ _).setCell _ _ = W at *
  have hR := Rdr.gstart (c := c) hgl2 hTK2 HEN.out hlen HWD.out (HE0.out.below hB2)
  have hb4 := later_new W (.cells #[.slice (some ⟨gl, 0, none⟩) l.length c, .int .i64 0, .bool false, .bool false] 60)
  have HR := Lib.hid hR
  have HC3 := Lib.hid (HC2.later hb4)
  have hqW := HC2.lt
  have HB3 := Lib.hid (hB2.trans (hb4.mono (show q ≤ W.heap.size by omega)))
  clear hTK2 hR HC2 hB2 hb4
  go_upto_region 6 with fail
  change Code.wp _ _ _ _ (W.alloc (.cells #[.slice (some ⟨gl, 0, none⟩) l.length c, .int .i64 0, .bool false, .bool false] 60))
  generalize hρ : (⟨W.heap.size, gl, c, l⟩ : Rdr) = ρ at *
  have hρg : ρ.g = W.heap.size := by rw [← hρ]
  have hρl : ρ.gl = gl := by rw [← hρ]
  have hptr : ρ.ptr = .pointer (some ⟨W.heap.size, 0, none⟩) := by rw [← hρ]; rfl
  have HPL := Lib.hid (show ∀ n, ρ.placeOf n = ((l[l.length - n]?).map (·.p)).getD 0 from fun n => by rw [← hρ]; rfl)
  rw [← hptr]
  clear hρ hx0
  generalize hWA : (W.alloc _) = W3 at *
  have hs3 : W3.heap.size = W.heap.size + 1 := by rw [← hWA]; simp
  clear hWA
  generalize W.heap.size = g at *
  have HPT := Lib.hid hptr
  clear hptr
  have HS := Lib.hid (gstatement_any ρ W3 _ false false HR.out)
  go_wp2_with fail
  refine HS.out.mono ?_
  clear HS
  intro e w4 hp
  rcases GP.cases hp with ⟨d, r, v, hok, rfl, m, rfl, hat, dd⟩ | ⟨n, herr, rfl, hgr⟩
  · clear hp
    simp only [Bool.false_or] at dd
    have hc4 := HC3.out.grown dd.grown (by omega)
    have hb4 := HB3.out.trans (below_grown dd.grown (by omega) (by omega))
    obtain ⟨cs, hcs⟩ : ∃ cs, cs = (stC m).toArray := ⟨_, rfl⟩
    have HS1 := Lib.hid (show cs.size = 28 by rw [hcs]; rfl)
    have HS2 := Lib.hid (show cs.all (·.oneCell') = true by rw [hcs]; exact gst_one _)
    have HCS := Lib.hid hcs
    have hcr : Cel3 (w4.setRow q cs) q cs (.int .i64 0) (.int .i64 0) := ⟨hc4.st.row cs, hc4.at_.row_far (by omega) cs, hc4.er.row_far (by omega) cs⟩
    have hbr := hb4.trans (below_grown (grown_row w4 q cs) (by have := hc4.lt; omega) (Nat.le_refl _))
    have hrr := dd.at_.rowOld (b := q) cs (by omega) (by omega) ⟨q, by omega, HE0.out.below hbr⟩
    have har := St.at_.keep (btw_row w4 (show q < W3.heap.size by omega) cs) hat
    have HC4 := Lib.hid hc4
    unfold stV
    rw [← hcs]
    clear hcs hat dd hc4 hb4 HC3 HB3 HR
    go_upto_region 7 with (first
      | (refine wpList_store_row rfl 35 (.tmp 2) (.tmp 23) rfl q cs rfl rfl 35 gst0 HC4.out.st (by rw [HS1.out]; exact gst_info) (by rw [HS1.out]; rfl) HS2.out ?_))
    clear HC4
    generalize w4.setRow q cs = W5 at *
    have HV := Lib.hid (ghave_any ρ W5 r d.long (deepB d.exprs) hrr ⟨#[59]⟩)
    have HC5 := Lib.hid hcr
    have HB5 := Lib.hid hbr
    have HA5 := Lib.hid har
    clear hcr hbr har hrr
    go_wp2_with fail
    refine HV.out.mono ?_
    clear HV
    rintro e w6 ⟨rfl, dd⟩
    replace dd : GDid ρ W5 w6 (afterW s_semi r) d.long (deepB d.exprs) := dd
    have hme := may_eq s_semi r
    have hc6 := HC5.out.grown dd.grown (by omega)
    have hb6 := HB5.out.trans (below_grown dd.grown (by have := HC5.out.lt; omega) (by omega))
    have ha6 := St.at_.keep (btw_grown dd.grown (show ρ.g < W3.heap.size by omega)) HA5.out
    obtain ⟨tk, r6, pl, hte, hl6, hrest⟩ := dd.at_.peek
    clear hrest
    have hnow := gnow_any ρ w6 _ _ _ dd.at_
    have hfail := gfail_any ρ w6 _ _ _ dd.at_
    rw [← hte] at hnow
    rw [hl6] at hme hfail dd
    have HD := Lib.hid dd
    have HN := Lib.hid hnow
    have HFL := Lib.hid hfail
    have HC6 := Lib.hid hc6
    have HB6 := Lib.hid hb6
    have HA6 := Lib.hid ha6
    have HOK := Lib.hid hok
    have HME := Lib.hid hme
    clear dd hnow hfail hc6 hb6 ha6 hme hte hl6 HC5 HB5 HA5 hok
    obtain ⟨⟨k9, s9, n9⟩, p9⟩ := tk
    simp only at HD HFL HME
    unfold tokB at HN
    have hfl := tok_field (.int .u8 k9) (.string ⟨s9.toArray⟩) (.int .i64 n9) (.int .i64 p9)
    by_cases hk : k9 = 0
    · have hok9 : wholeP (l.map (·.w)) = .ok (d, ⟨k9, s9, n9⟩ :: r6) := by
        refine (bind_okP (f := fun s => may s_semi >>= fun _ => lastP >>= fun _ => (pure s : Ps St)) HOK.out).trans ?_
        refine (bind_okP (f := fun _ => lastP >>= fun _ => (pure d : Ps St)) HME.out).trans ?_
        exact (bind_okP (x := ()) (f := fun _ => (pure d : Ps St)) (by simp only [lastP, hk, if_true])).trans rfl
      have HPG := Lib.hid (parse_good HLL.out hok9)
      clear hok9 HFL
      have hk1 : ((k9 : Int) != 0) = false := by simp [hk]
      clear hk
      go_wp2_with fail
      refine HN.out.mono ?_
      clear HN
      rintro e w7 ⟨rfl, b7⟩
      have hptr := HPT.out
      obtain ⟨h70, h71, c2, c3, h72⟩ := (HD.out.at_.later b7).facts
      clear h70 h71 h72
      rw [hρg] at c2 c3
      have hc7 := HC6.out.later b7
      have hb7 := HB6.out.trans (b7.mono (show q ≤ w6.heap.size by have := HC6.out.lt; omega))
      have ha7 := St.at_.keep (btw_later b7) HA6.out
      have hlt7 := hc7.lt
      have HC7 := Lib.hid hc7
      have HB7 := Lib.hid hb7
      have HA7 := Lib.hid ha7
      clear b7 hc7 hb7 ha7 HC6 HB6 HA6 HD
      obtain ⟨z0, hz0⟩ : ∃ z, z = gst0 := ⟨_, rfl⟩
      have HZ := Lib.hid (show Tryz.prog.built 35 [] = some z0 by rw [hz0]; exact gst_zero)
      have HZ1 := Lib.hid (show z0.all (·.oneCell') = true by rw [hz0]; exact gst_one {})
      have HZ2 := Lib.hid (show z0.size = 28 by rw [hz0]; rfl)
      have HZ3 := Lib.hid hz0
      clear hz0
      cases hlg : d.long
      · cases hdp : deepB d.exprs
        · rw [hlg] at c2
          rw [hdp] at c3
          go_upto_region 14 with fail
          refine wp_region_lit ?_
          refine wpList_load_row rfl 35 (.tmp 2) rfl q rfl 35 cs (0, 0) _ HC7.out.st Tryz.underlying35 rfl (by rw [HS1.out]; exact gst_info) ?_
          simp only [Act.put, List.setIfInBounds_toArray, List.set_cons_succ, List.set_cons_zero]
          refine wpList_store_row rfl 35 (.tmp 2) (.tmp 45) rfl q cs rfl rfl 35 cs HC7.out.st (by rw [HS1.out]; exact gst_info) rfl HS2.out ?_
          have HC8 := Lib.hid (show Cel3 (w7.setRow q cs) q cs (.int .i64 0) (.int .i64 0) from ⟨HC7.out.st.row cs, HC7.out.at_.row_far (by omega) cs, HC7.out.er.row_far (by omega) cs⟩)
          have HB8 := Lib.hid (HB7.out.trans (below_grown (grown_row w7 q cs) (by omega) (Nat.le_refl _)))
          have HS8 := Lib.hid (show w7.heap.size = (w7.setRow q cs).heap.size by rw [size_setRow])
          have HA8 := Lib.hid (St.at_.keep (btw_row w7 (show q < W3.heap.size by omega) cs) HA7.out)
          generalize w7.setRow q cs = W8 at *
          have e1 := HC8.out.at_.cell 0
          have e2 := HC8.out.er.cell 0
          simp only [List.getElem?_toArray, List.getElem?_cons_zero] at e1 e2
          have f1 := HC8.out.at_.frozen 0
          have f2 := HC8.out.er.frozen 0
          simp only [Act.put]
          go_wp2_with fail
          have g1 : W8.grownBy (W8.setCell ⟨q + 1, 0, none⟩ (.int .i64 0)) (some (q + 1)) := grown_set (grown_below (Below.refl _ _)) 0 _
          have g2 : (W8.setCell ⟨q + 1, 0, none⟩ (.int .i64 0)).grownBy ((W8.setCell ⟨q + 1, 0, none⟩ (.int .i64 0)).setCell ⟨q + 2, 0, none⟩ (.int .i64 0)) (some (q + 2)) := grown_set (grown_below (Below.refl _ _)) 0 _
          have hc9 : Cel3 ((W8.setCell ⟨q + 1, 0, none⟩ (.int .i64 0)).setCell ⟨q + 2, 0, none⟩ (.int .i64 0)) q cs (.int .i64 0) (.int .i64 0) :=
            ⟨(HC8.out.st.far (p := ⟨q + 1, 0, none⟩) (by simp) _).far (p := ⟨q + 2, 0, none⟩) (by simp) _, (HC8.out.at_.set_ 0 _).far (p := ⟨q + 2, 0, none⟩) (by simp) _, (HC8.out.er.far (p := ⟨q + 1, 0, none⟩) (by simp) _).set_ 0 _⟩
          have hlt8 := HC8.out.lt
          have hb9 := (HB8.out.trans (below_grown g1 (by omega) (by omega))).trans (below_grown g2 (by have := g1.size; omega) (by omega))
          refine door_idle hc9 HS1.out rfl rfl rfl fun w' hb => ?_
          unfold parPost
          rw [HPG.out, if_neg (by rw [hlg]; simp), if_neg (by rw [hdp]; simp)]
          have k1 := St.at_.keep (btw_grown g1 (show q + 1 < W3.heap.size by omega)) HA8.out
          have k2 := St.at_.keep (btw_grown g2 (show q + 2 < W3.heap.size by omega)) k1
          have k3 := St.at_.keep (btw_later hb) k2
          have k4 := St.at_.keep (btw_more (show w.heap.size ≤ W3.heap.size by omega)) k3
          exact ⟨m, by rw [HCS.out]; rfl, k4, hq ▸ hb9.trans (hb.mono (by have := hc9.lt; omega))⟩
        · rw [hlg] at c2
          rw [hdp] at c3
          go_upto_region 13 with fail
          refine wp_region_lit ?_
          refine gbuild_is rfl 35 #[] rfl (cs := z0) (by simpa using HZ.out) ?_
          simp only [Act.put, List.setIfInBounds_toArray, List.set_cons_succ, List.set_cons_zero]
          refine wpList_store_row rfl 35 (.tmp 2) (.tmp 44) rfl q z0 rfl rfl 35 cs HC7.out.st (by rw [HZ2.out]; exact gst_info) (by rw [HS1.out, HZ2.out]) HZ1.out ?_
          have HC8 := Lib.hid (show Cel3 (w7.setRow q z0) q z0 (.int .i64 0) (.int .i64 0) from ⟨HC7.out.st.row z0, HC7.out.at_.row_far (by omega) z0, HC7.out.er.row_far (by omega) z0⟩)
          have HB8 := Lib.hid (HB7.out.trans (below_grown (grown_row w7 q z0) (by omega) (Nat.le_refl _)))
          have HS8 := Lib.hid (show w7.heap.size = (w7.setRow q z0).heap.size by rw [size_setRow])
          have HA8 := Lib.hid (St.at_.keep (btw_row w7 (show q < W3.heap.size by omega) z0) HA7.out)
          generalize w7.setRow q z0 = W8 at *
          have e1 := HC8.out.at_.cell 0
          have e2 := HC8.out.er.cell 0
          simp only [List.getElem?_toArray, List.getElem?_cons_zero] at e1 e2
          have f1 := HC8.out.at_.frozen 0
          have f2 := HC8.out.er.frozen 0
          simp only [Act.put]
          go_wp2_with fail
          have g1 : W8.grownBy (W8.setCell ⟨q + 1, 0, none⟩ (.int .i64 0)) (some (q + 1)) := grown_set (grown_below (Below.refl _ _)) 0 _
          have g2 : (W8.setCell ⟨q + 1, 0, none⟩ (.int .i64 0)).grownBy ((W8.setCell ⟨q + 1, 0, none⟩ (.int .i64 0)).setCell ⟨q + 2, 0, none⟩ (.int .i64 32)) (some (q + 2)) := grown_set (grown_below (Below.refl _ _)) 0 _
          have hc9 : Cel3 ((W8.setCell ⟨q + 1, 0, none⟩ (.int .i64 0)).setCell ⟨q + 2, 0, none⟩ (.int .i64 32)) q z0 (.int .i64 0) (.int .i64 32) :=
            ⟨(HC8.out.st.far (p := ⟨q + 1, 0, none⟩) (by simp) _).far (p := ⟨q + 2, 0, none⟩) (by simp) _, (HC8.out.at_.set_ 0 _).far (p := ⟨q + 2, 0, none⟩) (by simp) _, (HC8.out.er.far (p := ⟨q + 1, 0, none⟩) (by simp) _).set_ 0 _⟩
          have hlt8 := HC8.out.lt
          have hb9 := (HB8.out.trans (below_grown g1 (by omega) (by omega))).trans (below_grown g2 (by have := g1.size; omega) (by omega))
          refine door_idle hc9 HZ2.out rfl rfl rfl fun w' hb => ?_
          unfold parPost
          rw [HPG.out, if_neg (by rw [hlg]; simp), if_pos hdp, HZ3.out]
          exact ⟨rfl, hq ▸ hb9.trans (hb.mono (by have := hc9.lt; omega))⟩
      · rw [hlg] at c2
        go_upto_region 11 with fail
        refine wp_region_lit ?_
        refine gbuild_is rfl 35 #[] rfl (cs := z0) (by simpa using HZ.out) ?_
        simp only [Act.put, List.setIfInBounds_toArray, List.set_cons_succ, List.set_cons_zero]
        refine wpList_store_row rfl 35 (.tmp 2) (.tmp 38) rfl q z0 rfl rfl 35 cs HC7.out.st (by rw [HZ2.out]; exact gst_info) (by rw [HS1.out, HZ2.out]) HZ1.out ?_
        have HC8 := Lib.hid (show Cel3 (w7.setRow q z0) q z0 (.int .i64 0) (.int .i64 0) from ⟨HC7.out.st.row z0, HC7.out.at_.row_far (by omega) z0, HC7.out.er.row_far (by omega) z0⟩)
        have HB8 := Lib.hid (HB7.out.trans (below_grown (grown_row w7 q z0) (by omega) (Nat.le_refl _)))
        have HS8 := Lib.hid (show w7.heap.size = (w7.setRow q z0).heap.size by rw [size_setRow])
        have HA8 := Lib.hid (St.at_.keep (btw_row w7 (show q < W3.heap.size by omega) z0) HA7.out)
        generalize w7.setRow q z0 = W8 at *
        have e1 := HC8.out.at_.cell 0
        have e2 := HC8.out.er.cell 0
        simp only [List.getElem?_toArray, List.getElem?_cons_zero] at e1 e2
        have f1 := HC8.out.at_.frozen 0
        have f2 := HC8.out.er.frozen 0
        simp only [Act.put]
        go_wp2_with fail
        have g1 : W8.grownBy (W8.setCell ⟨q + 1, 0, none⟩ (.int .i64 0)) (some (q + 1)) := grown_set (grown_below (Below.refl _ _)) 0 _
        have g2 : (W8.setCell ⟨q + 1, 0, none⟩ (.int .i64 0)).grownBy ((W8.setCell ⟨q + 1, 0, none⟩ (.int .i64 0)).setCell ⟨q + 2, 0, none⟩ (.int .i64 2)) (some (q + 2)) := grown_set (grown_below (Below.refl _ _)) 0 _
        have hc9 : Cel3 ((W8.setCell ⟨q + 1, 0, none⟩ (.int .i64 0)).setCell ⟨q + 2, 0, none⟩ (.int .i64 2)) q z0 (.int .i64 0) (.int .i64 2) :=
          ⟨(HC8.out.st.far (p := ⟨q + 1, 0, none⟩) (by simp) _).far (p := ⟨q + 2, 0, none⟩) (by simp) _, (HC8.out.at_.set_ 0 _).far (p := ⟨q + 2, 0, none⟩) (by simp) _, (HC8.out.er.far (p := ⟨q + 1, 0, none⟩) (by simp) _).set_ 0 _⟩
        have hlt8 := HC8.out.lt
        have hb9 := (HB8.out.trans (below_grown g1 (by omega) (by omega))).trans (below_grown g2 (by have := g1.size; omega) (by omega))
        refine door_idle hc9 HZ2.out rfl rfl rfl fun w' hb => ?_
        unfold parPost
        rw [HPG.out, if_pos hlg, HZ3.out]
        exact ⟨rfl, hq ▸ hb9.trans (hb.mono (by have := hc9.lt; omega))⟩
    · have hk1 : ((k9 : Int) != 0) = true := by simp; omega
      have hpe : parseL s.data.toList = .error (ρ.placeOf (⟨k9, s9, n9⟩ :: r6 : Wds).length, 31) := by
        rw [parse_bad (n := (⟨k9, s9, n9⟩ :: r6 : Wds).length) HLL.out, ← HPL.out]
        refine (bind_okP (f := fun s => may s_semi >>= fun _ => lastP >>= fun _ => (pure s : Ps St)) HOK.out).trans ?_
        refine (bind_okP (f := fun _ => lastP >>= fun _ => (pure d : Ps St)) HME.out).trans ?_
        exact bind_errP (by simp only [lastP, hk, if_false])
      go_wp2_with fail
      refine HN.out.mono ?_
      clear HN HFL
      rintro e w7 ⟨rfl, b7⟩
      have hc7 := HC6.out.later b7
      have hb7 := HB6.out.trans (b7.mono (show q ≤ w6.heap.size by have := HC6.out.lt; omega))
      have HFL := Lib.hid (gfail_any ρ w7 _ _ _ (HD.out.at_.later b7))
      have HC7 := Lib.hid hc7
      have HB7 := Lib.hid hb7
      clear b7 hc7 hb7 HC6 HB6 HD
      go_wp2_with fail
      refine HFL.out.mono ?_
      rintro e w8 ⟨rfl, hgr⟩
      have hc8 := HC7.out.grown hgr (by omega)
      have hb8 := HB7.out.trans (below_grown hgr (by have := HC7.out.lt; omega) (by omega))
      refine door_fault (N := q) hc8 HS1.out (Nat.le_refl _) (ρ.placeOf (⟨k9, s9, n9⟩ :: r6 : Wds).length) rfl rfl rfl fun w' hb => ?_
      unfold parPost
      rw [hpe]
      exact ⟨rfl, hq ▸ hb8.trans hb⟩
  · have hc4 := HC3.out.grown hgr (by omega)
    have hpe : parseL s.data.toList = .error (ρ.placeOf n, 31) := by
      rw [parse_bad HLL.out (bind_errP herr), ← HPL.out]
    have hb4 := HB3.out.trans (below_grown hgr (by omega) (by omega))
    refine door_fault (N := q) hc4 rfl (Nat.le_refl _) (ρ.placeOf n) rfl rfl rfl fun w' hb => ?_
    unfold parPost
    rw [hpe]
    exact ⟨rfl, hq ▸ hb4.trans hb⟩
theorem gparse_any (s : ByteArray) (w : World) (hE : LexEnv w) (hs : s.size ≤ 4294967280) : Calls Tryz.prog 10 #[.string s] w (parPost s w) := by
  cases hl : lexL s.data.toList with
  | error x => obtain ⟨p, x⟩ := x; exact gpar_lex s w hE hs hl
  | ok l => exact gpar_run s w hE hs hl
end Go.Proofs.YtcneefmaghoejaaGreatDoor
