/- Parts of the proof: Gm, Gn. Put together by slim.py. -/
import Derived.Deep.LoopGhost
import Derived.Test.YtcneefmaghoejaaGreatDoorB15
import Derived.Test.YtcneefmaghoejaaGreatDoorB18
namespace Go.Proofs.YtcneefmaghoejaaGreatDoor
open Go.ChangeShapes Go.WideShapes Go.ChangeAt Go.RowKit
set_option linter.unusedVariables false
set_option linter.unusedSimpArgs false
theorem exec_load_ex {P : Program} {ρ : Operand → Value} {o : Oper} {w : World} {x : Operand} {T : TypeId} {d : TypeDesc} {q : Nat} {y : Ex} (ho : o.op = .load T x) (hx : ρ x = .pointer (some ⟨q, 0, none⟩)) (hb : Blk w q T (exC y).toArray) (hu : P.underlying T = some d) (hd : (match d with | .struct _ | .array _ _ => true | _ => false) = true) (hi : (P.info? T).map (·.size) = some 7) : (execOp ρ o).run P w = .ok (.value (exV y)) w := by
  unfold execOp
  simp only [ho, hx, Instr.loadAt, Instr.sureAddr, Sem.run_bind, Sem.run_pure, Result.andThen_ok, run_loadVar_row w q T T (exC y).toArray (0, 0) d hb hu hd hi]
  rfl
theorem exPost_putq {ρ : Rdr} {w W : World} {lg dp : Bool} {P : Ps Tr} {l r : Wds} {t : Tr} {y : Ex} {q : Nat} (hg : ρ.g < w.heap.size) (hq : w.heap.size ≤ q) (hd : GDid ρ w W r lg dp) (ht : t.at_ W (Btw (q + 1) W) y) (hp : P l = .ok (t, r)) : exPost ρ w lg dp P l (.returned (exV y)) (W.setRow q (exC y).toArray) :=
  GP.ok hp ⟨y, rfl, (Tr.at_.keep (btw_row W (Nat.lt_succ_self _) _) t y ht).more (by omega), hd.own hg (grown_row W q _) (fun G e => by injection e with e; omega)⟩
theorem bx_row {B q : Nat} {w : World} (cs : Array Value) : ∀ b, Bx B q w b → (∀ o, (w.setRow q cs).cell? ⟨b, o, none⟩ = w.cell? ⟨b, o, none⟩) ∧ Bx B q (w.setRow q cs) b := fun b hb =>
  ⟨cell_of_heap (setRow_other w q b cs hb.2.2), hb.1, by rw [size_setRow]; exact hb.2.1, hb.2.2⟩
structure GLeft (ρ : Rdr) (w : World) (lg dp : Bool) (lv : Nat) (l : Wds) (q qx pb b : Nat) (wr : World) (l' : Wds) (t : Tr) (y : Ex) : Prop where
  did : GDid ρ w wr l' lg dp
  blk : Blk wr qx 49 (exC y).toArray
  res : Blk wr q 49 ex0
  pbk : Blk wr pb 58 #[ρ.ptr]
  opk : Blk wr b 142 (opsV (opsL lv))
  tr : t.at_ wr (Bx (q + 1) qx wr) y
  todo : leftP (exprL (lv + 1)) lv l = leftL (exprL (lv + 1)) lv t l'
  le : l'.length ≤ l.length
theorem GLeft.round {ρ : Rdr} {w wr w1 W1 W1' W : World} {lg dp : Bool} {lv : Nat} {l l' r2 : Wds} {q qx pb b g0 : Nat} {t' t2 : Tr} {y' y2 : Ex} {o : Int} (hgg : ρ.g < w.heap.size) (hqw : w.heap.size ≤ q) (hqq : q + 1 ≤ qx) (hpb : pb ≠ qx) (hpg : pb ≠ ρ.g) (hbx : b ≠ qx) (hbg : b ≠ ρ.g) (A : GLeft ρ w lg dp lv l q qx pb b wr l' t' y') (d1 : GDid ρ wr w1 l'.tail lg dp) (h1 : Later w1 W1)
    (ht2 : t2.at_ W1' (Btw W1.heap.size W1') y2) (d2 : GDid ρ W1 W1' r2 lg dp) (h2 : Later W1' W) (hN : Blk W g0 49 (exC y' ++ exC y2).toArray) (hg0 : W1'.heap.size ≤ g0) (hop : opOf (opsL lv) l' = some o) (hok : exprL (lv + 1) l'.tail = .ok (t2, r2)) :
    GLeft ρ w lg dp lv l q qx pb b (W.setRow qx (exC (opY o g0 2)).toArray) r2 (opT o [t', t2]) (opY o g0 2) := by
  have hz1 := d1.size
  have hz2 : w1.heap.size ≤ W1.heap.size := h1.size
  have hz3 := d2.size
  have hz4 : W1'.heap.size ≤ W.heap.size := h2.size
  have hqb := A.blk.lt
  have hgl := hN.lt
  have step : ∀ {k : Nat} {T : TypeId} {cs : Array Value}, Blk wr k T cs → k ≠ ρ.g → Blk W k T cs := fun h hk => (((h.grown d1.grown (by simp; omega)).later h1).grown d2.grown (by simp; omega)).later h2
  have hX := step A.blk (by omega)
  have hD := (((A.did.trans d1).later h1).trans d2).later h2
  have hT : (opT o [t', t2]).at_ W (Bx (q + 1) qx W) (opY o g0 2) := by
    refine op2_at o hN ⟨by omega, by omega, by omega⟩ ?_ ?_
    · exact Tr.at_.keep (bx_later h2) _ _ (Tr.at_.keep (bx_grown d2.grown (by omega)) _ _ (Tr.at_.keep (bx_later h1) _ _ (Tr.at_.keep (bx_grown d1.grown (by omega)) _ _ A.tr)))
    · exact Tr.at_.keep (bx_in (by omega) (by omega)) _ _ (ht2.later h2)
  refine ⟨hD.own hgg (grown_row W qx _) (fun G e => by injection e with e; omega), hX.row _, (step A.res (by omega)).row_far (by omega) _, (step A.pbk hpg).row_far hpb _, (step A.opk hbg).row_far hbx _, Tr.at_.keep (bx_row _) _ _ hT, ?_, ?_⟩
  · rw [A.todo, leftL_eq (sane_exprL _), hop]
    exact bind_okP hok
  · have h3 := (sane_exprL (lv + 1)).len hok
    have h4 := A.le
    have h5 : l'.tail.length ≤ l'.length := by simp
    omega
theorem GLeft.done {ρ : Rdr} {w wr : World} {lg dp : Bool} {lv : Nat} {l l' : Wds} {q qx pb b : Nat} {t : Tr} {y : Ex} (A : GLeft ρ w lg dp lv l q qx pb b wr l' t y) (hop : opOf (opsL lv) l' = none) : leftP (exprL (lv + 1)) lv l = .ok (t, l') := by
  rw [A.todo, leftL_eq (sane_exprL _), hop]
theorem GLeft.fail {ρ : Rdr} {w wr : World} {lg dp : Bool} {lv : Nat} {l l' : Wds} {q qx pb b : Nat} {t : Tr} {y : Ex} {o : Int} {n : Nat} (A : GLeft ρ w lg dp lv l q qx pb b wr l' t y) (hop : opOf (opsL lv) l' = some o) (h : exprL (lv + 1) l'.tail = .error n) : leftP (exprL (lv + 1)) lv l = .error n := by
  rw [A.todo, leftL_eq (sane_exprL _), hop]
  exact bind_errP h
set_option maxHeartbeats 4000000 in
set_option maxRecDepth 100000 in
theorem gleft_any (ρ : Rdr) (w : World) (l : Wds) (lg dp : Bool) (h : ρ.gat w l lg dp) (lv : Nat) (fb : FuncId) (en : ∀ args w, (callFunc fb args).run Tryz.prog w = .ok (.enter fb args) w)
    (IH : ∀ (l' : Wds) (W : World), l'.length ≤ l.length → ρ.gat W l' lg dp → Calls Tryz.prog fb #[ρ.ptr] W (exPost ρ W lg dp (exprL (lv + 1)) l')) (b n : Nat) (hn : (opsL lv).length = n) (hb : Blk w b 142 (opsV (opsL lv))) (hbg : b ≠ ρ.g) (hsm : n ≤ 10) :
    Calls Tryz.prog 118 #[ρ.ptr, .func (.func fb) #[ρ.ptr] #[], .slice (some ⟨b, 0, none⟩) n n] w (exPost ρ w lg dp (leftP (exprL (lv + 1)) lv) l) := by
  have hgg := h.lt_
  have hbl := hb.lt
  have hB2 := Later.then (later_new w (.cells #[ρ.ptr] 58)) (later_new _ (.cells ex0 49))
  have HP := Lib.hid ((Blk.new w 58 #[ρ.ptr]).alloc (.cells ex0 49))
  have hq0 := Blk.new (w.alloc (.cells #[ρ.ptr] 58)) 49 ex0
  rw [show (w.alloc (.cells #[ρ.ptr] 58)).heap.size = w.heap.size + 1 by simp] at hq0
  have HQ := Lib.hid hq0
  have hsz : ((w.alloc (.cells #[ρ.ptr] 58)).alloc (.cells ex0 49)).heap.size = w.heap.size + 2 := by simp
  have HD := Lib.hid (GDid.of_later h hB2)
  have HO := Lib.hid (hb.later hB2)
  have hih := IH l _ (Nat.le_refl _) (h.later hB2)
  have HIH := Lib.hid IH
  clear h hb hB2 hq0 IH
  unfold ex0 at hih hsz
  go_enter Tryz.func118, Tryz.ntmps118
  go_wp2_with fail
  refine hih.mono ?_
  clear hih
  intro e w2 hp
  rcases hp.cases with ⟨t, r, v, hok, rfl, y, rfl, hat, d2⟩ | ⟨m, herr, rfl, hg⟩
  case inr =>
    have HG := Lib.hid HD.out.grown
    have HE := Lib.hid herr
    clear hp HQ HD HO HP HIH hsz herr
    go_wp2_with fail
    exact body_panic rfl (exPost_err (bind_errP HE.out) HG.out hg)
  have hs2 : w.heap.size + 2 ≤ w2.heap.size := by have := d2.size; omega
  have hA : GLeft ρ w lg dp lv l (w.heap.size + 1) w2.heap.size w.heap.size b (w2.alloc (.cells (exC y).toArray 49)) r t y :=
    ⟨(HD.out.trans d2).later (later_new _ _), Blk.new w2 _ _, (d2.blk HQ.out (by omega)).alloc _, (d2.blk HP.out (by omega)).alloc _, (d2.blk HO.out hbg).alloc _, Tr.at_.keep (bx_new _ (by omega)) _ _ hat, by rw [leftP_L]; exact bind_okP hok, (sane_exprL _).len hok⟩
  have HA := Lib.hid hA
  clear hA hp hat d2 hok HQ HD HO HP hsz
  unfold exV exC at *
  go_upto_region 2 with fail
  generalize w2.alloc _ = W at *
  generalize w2.heap.size = qx at *
  go_loopg [] l.length (fun k wr => ∃ l' t' y', l'.length ≤ k ∧ GLeft ρ w lg dp lv l (w.heap.size + 1) qx w.heap.size b wr l' t' y')
  case atStart => exact ⟨_, _, _, HA.out.le, HA.out⟩
  case round =>
    obtain ⟨l', t', y', hk, hA'⟩ := hrel
    have HA' := Lib.hid hA'
    clear hA' HA
    have hqx : w.heap.size + 2 ≤ qx := hs2
    go_wp2_with fail
    refine (gindex_any ρ wr l' lg dp HA'.out.did.at_ (opsL lv) b n w.heap.size hn HA'.out.opk hbg HA'.out.pbk (by omega) hsm).mono ?_
    intro e w1 hp
    rcases hp with ⟨hop, rfl, d1⟩ | ⟨i, s, o, hi, hop, hh, rfl, d1⟩
    · have HX := Lib.hid (d1.blk HA'.out.blk (by omega))
      have HQ := Lib.hid (d1.blk HA'.out.res (by omega))
      have HT := Lib.hid (Tr.at_.keep (bx_out (Nat.le_refl _)) _ _ (Tr.at_.keep (bx_grown d1.grown (by omega)) _ _ HA'.out.tr))
      have HD := Lib.hid (HA'.out.did.trans d1)
      have HOK := Lib.hid (GLeft.done HA'.out hop)
      clear d1 hop HA'
      go_wp2_with (first
        | (refine wpList_load_row rfl 49 (.tmp 7) rfl qx rfl 49 (exC y').toArray (0, 0) _ HX.out Tryz.underlying49 rfl gex_info ?_)
        | (refine wpList_store_row rfl 49 (.tmp 6) (.tmp 16) rfl (w.heap.size + 1) (exC y').toArray rfl rfl 49 ex0 HQ.out gex_info rfl (ex_oneC _) ?_
           have HR := Lib.hid (HQ.out.row (exC y').toArray)))
      refine bodyPost_ret (v := exV y') (results_cell_row Tryz.results118 _ _ (w.heap.size + 1) 49 (exC y').toArray (0, 0) _ rfl HR.out Tryz.underlying49 rfl gex_info) rfl ?_
      exact exPost_putq hgg (by omega) HD.out HT.out HOK.out
    · have hin : i < n := by
        have := (List.getElem?_eq_some_iff.1 hi).1
        omega
      have hneg : decide ((i : Int) < 0) = false := by simp
      have hx1 := d1.blk HA'.out.blk (by omega)
      have hc1 := (ops_cell (d1.blk HA'.out.opk hbg) hi).2
      have hbl1 := cell_lt hc1
      have HX := Lib.hid hx1
      have HC := Lib.hid hc1
      have HOP := Lib.hid hop
      have HD1 := Lib.hid d1
      have hhl := head_len hh
      have hll := HA'.out.le
      clear hop hi hh d1 hx1 hc1
      have hheld : ∀ w' w'', (Blk w' qx 49 (exC y').toArray ∧ w'.cell? ⟨b, i * 2 + 1, none⟩ = some (.int .u8 o)) → Later w' w'' → (Blk w'' qx 49 (exC y').toArray ∧ w''.cell? ⟨b, i * 2 + 1, none⟩ = some (.int .u8 o)) := fun w' w'' hh hl => ⟨hh.1.later hl, (hl.cell (cell_lt hh.2)).trans hh.2⟩
      have HHELD := Lib.hid hheld
      clear hheld
      cases ho2 : exprL (lv + 1) l'.tail with
      | ok x =>
        obtain ⟨t2, r2⟩ := x
        have HO2 := Lib.hid ho2
        clear ho2
        go_wp2_with fail
        refine region_pair11 (P := Tryz.prog) (H := fun W => Blk W qx 49 (exC y').toArray ∧ W.cell? ⟨b, i * 2 + 1, none⟩ = some (.int .u8 o)) (val := exV) (e := 49) (k := 2) (cs := fun z => (exC y' ++ exC z).toArray) (bv := fun _ s => .agg #[.int .u8 o, .int .u8 0, .int .i64 0, .string ⟨#[]⟩, .string ⟨#[]⟩, .int .i64 0, s]) (Post := fun z W W' => t2.at_ W' (Btw W.heap.size W') z ∧ GDid ρ W W' r2 lg dp) (w0 := w1) (s0 := 2) (s1 := 8) (s2 := 7) (s3 := 1) (d0 := 17) (d1 := 18) (d2 := 19) (d3 := 20) (d4 := 21) (d5 := 22) (d6 := 23) (d7 := 24) (d8 := 25) (d9 := 26) (vs0 := .slice (some ⟨b, 0, none⟩) n n) (vs1 := .int .i64 i) (vs2 := .pointer (some ⟨qx, 0, none⟩)) (vs3 := .func (.func fb) #[ρ.ptr] #[]) (u0 := .slice (some ⟨b, 0, none⟩) n n) (u1 := .int .i64 i) (u2 := .pointer (some ⟨b, i * 2, none⟩)) (u3 := .pointer (some ⟨b, i * 2 + 1, none⟩)) (u4 := .int .u8 o) (u5 := exV y') (u6 := .func (.func fb) #[ρ.ptr] #[]) (F := fb) (args := #[ρ.ptr]) (by kernel_rfl) (by kernel_rfl) (by kernel_rfl) (by kernel_rfl) rfl rfl rfl rfl ⟨HX.out, HC.out⟩ HHELD.out ?_ ?_ ?_ ?_ ?_ ?_ ?_ ?_ ?_ ?_ (by kernel_rfl) ?_ ?_ ?_
        · intro ρ' w' hH hc h'; simp [go_sem, h']
        · intro ρ' w' hH hc h'; simp [go_sem, h']
        · intro ρ' w' hH hc h' h2'; simp [go_sem, h', h2', hin]
        · intro ρ' w' hH hc h'; simp [go_sem, h']
        · intro ρ' w' hH hc h'; simp [go_sem, h', hH.2]
        · intro ρ' w' hH hc h'; exact exec_load_ex rfl h' hH.1 Tryz.underlying49 rfl gex_info
        · intro ρ' w' hH hc h'; simp [go_sem, h']
        · intro ρ' w' hc h'; simp [go_sem, h', hc.const, hc.func, en]
        · intro ρ' w' z h' h2'; simp [go_sem, h', h2', exV, exC]
        · intro ρ' w' z g0' h' h2'; simp [go_sem, h', h2']
        · rintro z w' w'' ⟨hh1, hh2⟩ ⟨_, dd⟩
          exact ⟨hh1.grown dd.grown (by simp; omega), (cell_of_heap (dd.grown.block b (cell_lt hh2) (by simp; omega)) _).trans hh2⟩
        · intro w' hw'
          refine (HIH.out l'.tail w' (by omega) (HD1.out.at_.later hw')).mono ?_
          intro e w'' hp
          rcases hp.cases with ⟨t3, r3, v, hok, rfl, z, rfl, hat, d2⟩ | ⟨m, herr, _⟩
          · rw [HO2.out] at hok
            injection hok with hok
            injection hok with h1 h2
            subst h1 h2
            exact ⟨z, rfl, hat, d2⟩
          · rw [HO2.out] at herr; cases herr
        intro z g0 W1 W1' W2 hl1 ⟨ht2, d2⟩ hl2 hN hg0
        have hR := GLeft.round hgg (by omega) (by omega) (by omega) (by omega) (by omega) hbg HA'.out HD1.out hl1 ht2 d2 hl2 hN hg0 HOP.out HO2.out
        have HR := Lib.hid hR
        have hX2 := ((HX.out.later hl1).grown d2.grown (by simp; omega)).later hl2
        have HX2 := Lib.hid hX2
        have hrl := (sane_exprL (lv + 1)).len HO2.out
        clear hR hX2 hl1 ht2 d2 hl2 hN hg0 HOP HHELD HX HC
        simp only [Act.put, List.setIfInBounds_toArray, List.set_cons_succ, List.set_cons_zero]
        go_wp2_with (first
          | (refine wpList_store_row rfl 49 (.tmp 7) (.tmp 26) rfl qx (exC (opY o g0 2)).toArray rfl rfl 49 (exC y').toArray HX2.out gex_info rfl (ex_oneC _) ?_))
        go_roundg (l'.tail.length)
        case measure => omega
        case rel => exact ⟨_, _, _, hrl, HR.out⟩
      | error m =>
        have HO2 := Lib.hid ho2
        clear ho2
        go_wp2_with fail
        refine region_pair11_panic (P := Tryz.prog) (H := fun W => Blk W qx 49 (exC y').toArray ∧ W.cell? ⟨b, i * 2 + 1, none⟩ = some (.int .u8 o)) (E := fun C W => C = [faultE (ρ.placeOf m)] ∧ w.grownBy W (some ρ.g)) (w0 := w1) (s0 := 2) (s1 := 8) (s2 := 7) (s3 := 1) (d0 := 17) (d1 := 18) (d2 := 19) (d3 := 20) (d4 := 21) (d5 := 22) (d6 := 23) (d7 := 24) (d8 := 25) (d9 := 26) (vs0 := .slice (some ⟨b, 0, none⟩) n n) (vs1 := .int .i64 i) (vs2 := .pointer (some ⟨qx, 0, none⟩)) (vs3 := .func (.func fb) #[ρ.ptr] #[]) (u0 := .slice (some ⟨b, 0, none⟩) n n) (u1 := .int .i64 i) (u2 := .pointer (some ⟨b, i * 2, none⟩)) (u3 := .pointer (some ⟨b, i * 2 + 1, none⟩)) (u4 := .int .u8 o) (u5 := exV y') (u6 := .func (.func fb) #[ρ.ptr] #[]) (F := fb) (args := #[ρ.ptr]) (by kernel_rfl) (by kernel_rfl) (by kernel_rfl) (by kernel_rfl) rfl rfl rfl rfl ⟨HX.out, HC.out⟩ HHELD.out ?_ ?_ ?_ ?_ ?_ ?_ ?_ ?_ (by kernel_rfl) ?_ ?_
        · intro ρ' w' hH hc h'; simp [go_sem, h']
        · intro ρ' w' hH hc h'; simp [go_sem, h']
        · intro ρ' w' hH hc h' h2'; simp [go_sem, h', h2', hin]
        · intro ρ' w' hH hc h'; simp [go_sem, h']
        · intro ρ' w' hH hc h'; simp [go_sem, h', hH.2]
        · intro ρ' w' hH hc h'; exact exec_load_ex rfl h' hH.1 Tryz.underlying49 rfl gex_info
        · intro ρ' w' hH hc h'; simp [go_sem, h']
        · intro ρ' w' hc h'; simp [go_sem, h', hc.const, hc.func, en]
        · intro w' hw'
          refine (HIH.out l'.tail w' (by omega) (HD1.out.at_.later hw')).mono ?_
          intro e w'' hp
          rcases hp.cases with ⟨t3, r3, v, hok, _⟩ | ⟨m', herr, rfl, hg⟩
          · rw [HO2.out] at hok; cases hok
          · rw [HO2.out] at herr
            injection herr with herr
            subst herr
            exact ⟨_, rfl, rfl, grown_trans ((HA'.out.did.trans HD1.out).later hw').grown hg⟩
        · rintro C a W hd ⟨rfl, hg⟩
          have hE := exPost_err (lg := lg) (dp := dp) (GLeft.fail HA'.out HOP.out HO2.out) (grown_below (Below.refl _ _)) hg
          simp only [Exit.inBlock, Exit.then]
          exact body_panic hd hE
end Go.Proofs.YtcneefmaghoejaaGreatDoor
namespace Go.Proofs.YtcneefmaghoejaaGreatDoor
open Go.ChangeShapes Go.WideShapes Go.ChangeAt Go.RowKit
set_option linter.unusedVariables false
set_option linter.unusedSimpArgs false
set_option maxHeartbeats 4000000 in
set_option maxRecDepth 100000 in
theorem g_left0 (ρ : Rdr) (w : World) (l : Wds) (lg dp : Bool) (h : ρ.gat w l lg dp) (IH : GIH ρ (8 * l.length + 7)) :
    Calls Tryz.prog 104 #[ρ.ptr] w (exPost ρ w lg dp (exprL 0) l) := by
  have hgg := h.lt_
  have hsz : (w.alloc (.cells ex0 49)).heap.size = w.heap.size + 1 := by simp
  have hb := Later.then (later_new w (.cells ex0 49)) (later_new _ (.cells (opsV (opsL 0)) 142))
  have hnb := Blk.new (w.alloc (.cells ex0 49)) 142 (opsV (opsL 0))
  have HQ := Lib.hid ((Blk.new w 49 ex0).alloc (.cells (opsV (opsL 0)) 142))
  have HD := Lib.hid (GDid.of_later h hb)
  rw [hsz] at hnb
  have hm := gleft_any ρ _ l lg dp (h.later hb) 0 119 (enters_of Tryz.func119 (by kernel_rfl) rfl) (fun l' W hl hW => IH 1 l' W lg dp (by omega) (by omega) hW) (w.heap.size + 1) 1 rfl hnb (by omega) (by omega)
  rw [← exprL_0] at hm
  have hmf : ∀ (fn : Fn) (first cap : Array Value) (w : World), (Instr.makeFunc fn first cap).run Tryz.prog w = .ok (.func fn first cap) w := fun _ _ _ _ => rfl
  have hsz2 : ((w.alloc (.cells ex0 49)).alloc (.cells (opsV (opsL 0)) 142)).heap.size = w.heap.size + 2 := by simp
  rw [show opsV (opsL 0) = #[.string ⟨#[111, 114]⟩, .int .u8 17] from rfl] at hm hsz2
  clear h hb hnb IH hsz
  unfold ex0 at hm hsz2
  go_enter Tryz.func104, Tryz.ntmps104
  go_wp2_with fail
  refine hm.mono ?_
  clear hm
  intro e w2 hp
  rcases hp.cases with ⟨t, r, v, hok, rfl, y, rfl, hat, d2⟩ | ⟨m, herr, rfl, hg⟩
  · have HD2 := Lib.hid (HD.out.trans d2)
    have HQ2 := Lib.hid (d2.blk HQ.out (by omega))
    have HAT := Lib.hid (hat.more (show w.heap.size + 1 ≤ _ by omega))
    have HOK := Lib.hid hok
    clear hp d2 hat hok HQ HD hsz2
    go_wp2_with (first
      | (refine wpList_store_row rfl 49 (.tmp 2) (.tmp 8) rfl w.heap.size (exC y).toArray rfl rfl 49 ex0 HQ2.out gex_info rfl (ex_oneC _) ?_
         have HR := Lib.hid (HQ2.out.row (exC y).toArray)))
    refine bodyPost_ret (v := exV y) (results_cell_row Tryz.results104 _ _ w.heap.size 49 (exC y).toArray (0, 0) _ rfl HR.out Tryz.underlying49 rfl gex_info) rfl ?_
    exact exPost_put hgg HD2.out HAT.out HOK.out
  · have HG := Lib.hid HD.out.grown
    have HE := Lib.hid herr
    clear hp HQ HD hsz2 herr
    go_wp2_with fail
    exact body_panic rfl (exPost_err HE.out HG.out hg)
set_option maxHeartbeats 4000000 in
set_option maxRecDepth 100000 in
theorem g_left1 (ρ : Rdr) (w : World) (l : Wds) (lg dp : Bool) (h : ρ.gat w l lg dp) (IH : GIH ρ (8 * l.length + 6)) :
    Calls Tryz.prog 119 #[ρ.ptr] w (exPost ρ w lg dp (exprL 1) l) := by
  have hgg := h.lt_
  have hsz : (w.alloc (.cells ex0 49)).heap.size = w.heap.size + 1 := by simp
  have hb := Later.then (later_new w (.cells ex0 49)) (later_new _ (.cells (opsV (opsL 1)) 142))
  have hnb := Blk.new (w.alloc (.cells ex0 49)) 142 (opsV (opsL 1))
  have HQ := Lib.hid ((Blk.new w 49 ex0).alloc (.cells (opsV (opsL 1)) 142))
  have HD := Lib.hid (GDid.of_later h hb)
  rw [hsz] at hnb
  have hm := gleft_any ρ _ l lg dp (h.later hb) 1 136 (enters_of Tryz.func136 (by kernel_rfl) rfl) (fun l' W hl hW => IH 2 l' W lg dp (by omega) (by omega) hW) (w.heap.size + 1) 1 rfl hnb (by omega) (by omega)
  rw [← exprL_1] at hm
  have hmf : ∀ (fn : Fn) (first cap : Array Value) (w : World), (Instr.makeFunc fn first cap).run Tryz.prog w = .ok (.func fn first cap) w := fun _ _ _ _ => rfl
  have hsz2 : ((w.alloc (.cells ex0 49)).alloc (.cells (opsV (opsL 1)) 142)).heap.size = w.heap.size + 2 := by simp
  rw [show opsV (opsL 1) = #[.string ⟨#[97, 110, 100]⟩, .int .u8 16] from rfl] at hm hsz2
  clear h hb hnb IH hsz
  unfold ex0 at hm hsz2
  go_enter Tryz.func119, Tryz.ntmps119
  go_wp2_with fail
  refine hm.mono ?_
  clear hm
  intro e w2 hp
  rcases hp.cases with ⟨t, r, v, hok, rfl, y, rfl, hat, d2⟩ | ⟨m, herr, rfl, hg⟩
  · have HD2 := Lib.hid (HD.out.trans d2)
    have HQ2 := Lib.hid (d2.blk HQ.out (by omega))
    have HAT := Lib.hid (hat.more (show w.heap.size + 1 ≤ _ by omega))
    have HOK := Lib.hid hok
    clear hp d2 hat hok HQ HD hsz2
    go_wp2_with (first
      | (refine wpList_store_row rfl 49 (.tmp 2) (.tmp 8) rfl w.heap.size (exC y).toArray rfl rfl 49 ex0 HQ2.out gex_info rfl (ex_oneC _) ?_
         have HR := Lib.hid (HQ2.out.row (exC y).toArray)))
    refine bodyPost_ret (v := exV y) (results_cell_row Tryz.results119 _ _ w.heap.size 49 (exC y).toArray (0, 0) _ rfl HR.out Tryz.underlying49 rfl gex_info) rfl ?_
    exact exPost_put hgg HD2.out HAT.out HOK.out
  · have HG := Lib.hid HD.out.grown
    have HE := Lib.hid herr
    clear hp HQ HD hsz2 herr
    go_wp2_with fail
    exact body_panic rfl (exPost_err HE.out HG.out hg)
set_option maxHeartbeats 4000000 in
set_option maxRecDepth 100000 in
theorem g_left4 (ρ : Rdr) (w : World) (l : Wds) (lg dp : Bool) (h : ρ.gat w l lg dp) (IH : GIH ρ (8 * l.length + 3)) :
    Calls Tryz.prog 153 #[ρ.ptr] w (exPost ρ w lg dp (exprL 4) l) := by
  have hgg := h.lt_
  have hsz : (w.alloc (.cells ex0 49)).heap.size = w.heap.size + 1 := by simp
  have hb := Later.then (later_new w (.cells ex0 49)) (later_new _ (.cells (opsV (opsL 4)) 142))
  have hnb := Blk.new (w.alloc (.cells ex0 49)) 142 (opsV (opsL 4))
  have HQ := Lib.hid ((Blk.new w 49 ex0).alloc (.cells (opsV (opsL 4)) 142))
  have HD := Lib.hid (GDid.of_later h hb)
  rw [hsz] at hnb
  have hm := gleft_any ρ _ l lg dp (h.later hb) 4 155 (enters_of Tryz.func155 (by kernel_rfl) rfl) (fun l' W hl hW => IH 5 l' W lg dp (by omega) (by omega) hW) (w.heap.size + 1) 2 rfl hnb (by omega) (by omega)
  rw [← exprL_4] at hm
  have hmf : ∀ (fn : Fn) (first cap : Array Value) (w : World), (Instr.makeFunc fn first cap).run Tryz.prog w = .ok (.func fn first cap) w := fun _ _ _ _ => rfl
  have hsz2 : ((w.alloc (.cells ex0 49)).alloc (.cells (opsV (opsL 4)) 142)).heap.size = w.heap.size + 2 := by simp
  rw [show opsV (opsL 4) = #[.string ⟨#[43]⟩, .int .u8 5, .string ⟨#[45]⟩, .int .u8 6] from rfl] at hm hsz2
  clear h hb hnb IH hsz
  unfold ex0 at hm hsz2
  go_enter Tryz.func153, Tryz.ntmps153
  go_wp2_with fail
  refine hm.mono ?_
  clear hm
  intro e w2 hp
  rcases hp.cases with ⟨t, r, v, hok, rfl, y, rfl, hat, d2⟩ | ⟨m, herr, rfl, hg⟩
  · have HD2 := Lib.hid (HD.out.trans d2)
    have HQ2 := Lib.hid (d2.blk HQ.out (by omega))
    have HAT := Lib.hid (hat.more (show w.heap.size + 1 ≤ _ by omega))
    have HOK := Lib.hid hok
    clear hp d2 hat hok HQ HD hsz2
    go_wp2_with (first
      | (refine wpList_store_row rfl 49 (.tmp 2) (.tmp 9) rfl w.heap.size (exC y).toArray rfl rfl 49 ex0 HQ2.out gex_info rfl (ex_oneC _) ?_
         have HR := Lib.hid (HQ2.out.row (exC y).toArray)))
    refine bodyPost_ret (v := exV y) (results_cell_row Tryz.results153 _ _ w.heap.size 49 (exC y).toArray (0, 0) _ rfl HR.out Tryz.underlying49 rfl gex_info) rfl ?_
    exact exPost_put hgg HD2.out HAT.out HOK.out
  · have HG := Lib.hid HD.out.grown
    have HE := Lib.hid herr
    clear hp HQ HD hsz2 herr
    go_wp2_with fail
    exact body_panic rfl (exPost_err HE.out HG.out hg)
set_option maxHeartbeats 4000000 in
set_option maxRecDepth 100000 in
theorem g_left5 (ρ : Rdr) (w : World) (l : Wds) (lg dp : Bool) (h : ρ.gat w l lg dp) (IH : GIH ρ (8 * l.length + 2)) :
    Calls Tryz.prog 155 #[ρ.ptr] w (exPost ρ w lg dp (exprL 5) l) := by
  have hgg := h.lt_
  have hsz : (w.alloc (.cells ex0 49)).heap.size = w.heap.size + 1 := by simp
  have hb := Later.then (later_new w (.cells ex0 49)) (later_new _ (.cells (opsV (opsL 5)) 142))
  have hnb := Blk.new (w.alloc (.cells ex0 49)) 142 (opsV (opsL 5))
  have HQ := Lib.hid ((Blk.new w 49 ex0).alloc (.cells (opsV (opsL 5)) 142))
  have HD := Lib.hid (GDid.of_later h hb)
  rw [hsz] at hnb
  have hm := gleft_any ρ _ l lg dp (h.later hb) 5 160 (enters_of Tryz.func160 (by kernel_rfl) rfl) (fun l' W hl hW => IH 6 l' W lg dp (by omega) (by omega) hW) (w.heap.size + 1) 3 rfl hnb (by omega) (by omega)
  rw [← exprL_5] at hm
  have hmf : ∀ (fn : Fn) (first cap : Array Value) (w : World), (Instr.makeFunc fn first cap).run Tryz.prog w = .ok (.func fn first cap) w := fun _ _ _ _ => rfl
  have hsz2 : ((w.alloc (.cells ex0 49)).alloc (.cells (opsV (opsL 5)) 142)).heap.size = w.heap.size + 2 := by simp
  rw [show opsV (opsL 5) = #[.string ⟨#[42]⟩, .int .u8 7, .string ⟨#[47]⟩, .int .u8 8, .string ⟨#[37]⟩, .int .u8 9] from rfl] at hm hsz2
  clear h hb hnb IH hsz
  unfold ex0 at hm hsz2
  go_enter Tryz.func155, Tryz.ntmps155
  go_wp2_with fail
  refine hm.mono ?_
  clear hm
  intro e w2 hp
  rcases hp.cases with ⟨t, r, v, hok, rfl, y, rfl, hat, d2⟩ | ⟨m, herr, rfl, hg⟩
  · have HD2 := Lib.hid (HD.out.trans d2)
    have HQ2 := Lib.hid (d2.blk HQ.out (by omega))
    have HAT := Lib.hid (hat.more (show w.heap.size + 1 ≤ _ by omega))
    have HOK := Lib.hid hok
    clear hp d2 hat hok HQ HD hsz2
    go_wp2_with (first
      | (refine wpList_store_row rfl 49 (.tmp 2) (.tmp 10) rfl w.heap.size (exC y).toArray rfl rfl 49 ex0 HQ2.out gex_info rfl (ex_oneC _) ?_
         have HR := Lib.hid (HQ2.out.row (exC y).toArray)))
    refine bodyPost_ret (v := exV y) (results_cell_row Tryz.results155 _ _ w.heap.size 49 (exC y).toArray (0, 0) _ rfl HR.out Tryz.underlying49 rfl gex_info) rfl ?_
    exact exPost_put hgg HD2.out HAT.out HOK.out
  · have HG := Lib.hid HD.out.grown
    have HE := Lib.hid herr
    clear hp HQ HD hsz2 herr
    go_wp2_with fail
    exact body_panic rfl (exPost_err HE.out HG.out hg)
end Go.Proofs.YtcneefmaghoejaaGreatDoor
