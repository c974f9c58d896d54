/- Parts of the proof: Gc, MapS. Put together by slim.py. -/
import Derived.Test.YtcneefmaghoejaaGreatDoorB12
import Derived.Test.YtcneefmaghoejaaGreatDoorB19
namespace Go.Proofs.YtcneefmaghoejaaGreatDoor
open Go.ChangeShapes Go.WideShapes Go.ChangeAt Go.RowKit
set_option linter.unusedVariables false
set_option linter.unusedSimpArgs false
theorem musts_one (s : List UInt8) (l : Wds) : musts [s] l = must s l := by
  show (must s >>= fun _ => pure ()) l = must s l
  rw [bind_at]
  cases must s l with
  | error n => rfl
  | ok x => rfl
theorem cmp_is {x : Tr} {b : Bool} {l r r1 r2 : Wds} (h : exprL 4 l = .ok (x, r)) (h1 : may w_is r = .ok (true, r1)) (h2 : may w_not r1 = .ok (b, r2)) : (∀ r3, must w_null r2 = .ok ((), r3) → cmpP (exprL 4) l = .ok (opT (if b then 19 else 18) [x], r3)) ∧ (∀ n, must w_null r2 = .error n → cmpP (exprL 4) l = .error n) := by
  unfold cmpP
  rw [bind_okP h, bind_okP h1]
  simp only [if_true]
  rw [bind_okP h2]
  exact ⟨fun r3 h3 => by rw [bind_okP h3]; rfl, fun n h3 => bind_errP h3⟩
theorem cmp_no {x : Tr} {l r r1 : Wds} (h : exprL 4 l = .ok (x, r)) (h1 : may w_is r = .ok (false, r1)) : cmpP (exprL 4) l = cmpF (exprL 4) x r1 := by
  unfold cmpP
  rw [bind_okP h, bind_okP h1]
  rfl
structure GCmp (ρ : Rdr) (w : World) (lg dp : Bool) (q qx : Nat) (wr : World) (l' : Wds) (t : Tr) (y : Ex) : Prop where
  did : GDid ρ w wr l' lg dp
  blk : Blk wr qx 49 (exC y).toArray
  res : Blk wr q 49 ex0
  tr : t.at_ wr (Bx (q + 1) qx wr) y
section
variable {ρ : Rdr} {w wr w' : World} {lg dp : Bool} {q qx : Nat} {l' l2 : Wds} {t : Tr} {y : Ex}
theorem GCmp.later (A : GCmp ρ w lg dp q qx wr l' t y) (h : Below wr.heap.size wr w') : GCmp ρ w lg dp q qx w' l' t y := ⟨A.did.later h, A.blk.later h, A.res.later h, Tr.at_.keep (bx_later h) _ _ A.tr⟩
theorem GCmp.go (A : GCmp ρ w lg dp q qx wr l' t y) (d : GDid ρ wr w' l2 lg dp) (hq : ρ.g < q) (hqx : ρ.g < qx) : GCmp ρ w lg dp q qx w' l2 t y := ⟨A.did.trans d, d.blk A.blk (by omega), d.blk A.res (by omega), Tr.at_.keep (bx_grown d.grown (by omega)) _ _ A.tr⟩
end
set_option maxHeartbeats 4000000 in
set_option maxRecDepth 100000 in
theorem g_cmp (ρ : Rdr) (w : World) (l : Wds) (lg dp : Bool) (h : ρ.gat w l lg dp) (IH : GIH ρ (8 * l.length + 4)) :
    Calls Tryz.prog 148 #[ρ.ptr] w (exPost ρ w lg dp (exprL 3) l) := by
  have hgg := h.lt_
  have hb := later_new w (.cells ex0 49)
  have HQ := Lib.hid (Blk.new w 49 ex0)
  have HD := Lib.hid (GDid.of_later h hb)
  have hsz : (w.alloc (.cells ex0 49)).heap.size = w.heap.size + 1 := by simp
  have hm := IH 4 l _ lg dp (by omega) (by omega) (h.later hb)
  rw [exprL_3]
  clear h hb
  unfold ex0 at hm hsz
  go_enter Tryz.func148, Tryz.ntmps148
  go_wp2_with fail
  refine hm.mono ?_
  clear hm
  intro e w2 hp
  rcases hp.cases with ⟨t, r, v, hok, rfl, y, rfl, hat, d2⟩ | ⟨m, herr, rfl, hg⟩
  case inr =>
    have HG := Lib.hid HD.out.grown
    have HE := Lib.hid herr
    clear hp HQ HD IH hsz herr
    go_wp2_with fail
    exact body_panic rfl (exPost_err (bind_errP HE.out) HG.out hg)
  have hs2 : w.heap.size + 1 ≤ w2.heap.size := by have := d2.size; omega
  have hA : GCmp ρ w lg dp w.heap.size w2.heap.size (w2.alloc (.cells (exC y).toArray 49)) r t y :=
    ⟨(HD.out.trans d2).later (later_new _ _), Blk.new w2 _ _, (d2.blk HQ.out (by omega)).alloc _, Tr.at_.keep (bx_new _ (by omega)) _ _ hat⟩
  have HA := Lib.hid hA
  have HOK := Lib.hid hok
  have hrl := (sane_exprL 4).len hok
  clear hA hp hat d2 hok HQ HD hsz
  unfold exV exC at *
  go_upto_region 2 with fail
  generalize w2.alloc _ = W at *
  generalize w2.heap.size = qx at *
  have hm := ghave_any ρ W r lg dp HA.out.did.at_ ⟨#[105, 115]⟩
  rw [show (⟨#[105, 115]⟩ : ByteArray).data.toList = w_is from rfl] at hm
  cases hh : headIs w_is r
  · rw [hh, after_no hh] at hm
    have HNO := Lib.hid (cmp_no HOK.out (by rw [may_eq, hh, after_no hh]))
    clear hh
    go_wp2_with fail
    refine hm.mono ?_
    clear hm
    rintro e w3 ⟨rfl, d3⟩
    have hA3 := (HA.out.go d3 (by omega) (by omega)).later (later_new w3 (.cells (opsV (opsL 3)) 142))
    have HA3 := Lib.hid hA3
    have hs3 : w.heap.size + 1 ≤ w3.heap.size := by have := HA.out.did.size; have := HA.out.blk.lt; have := d3.size; omega
    have hqo : qx < w3.heap.size := Nat.lt_of_lt_of_le HA.out.blk.lt d3.size
    have HO := Lib.hid (Blk.new w3 142 (opsV (opsL 3)))
    rw [show opsV (opsL 3) = #[.string ⟨#[61]⟩, .int .u8 10, .string ⟨#[60, 62]⟩, .int .u8 11, .string ⟨#[60]⟩, .int .u8 12, .string ⟨#[60, 61]⟩, .int .u8 13, .string ⟨#[62]⟩, .int .u8 14, .string ⟨#[62, 61]⟩, .int .u8 15] from rfl] at HA3 HO
    clear hA3 d3 HA
    go_upto_region 9 with fail
    generalize w3.alloc _ = W3 at *
    generalize w3.heap.size = ob at *
    go_loopw [28] (fun u wr => ∃ i : Nat, i ≤ 6 ∧ u = .int .i64 i ∧ GCmp ρ w lg dp w.heap.size qx wr r t y ∧ Blk wr ob 142 (opsV (opsL 3)) ∧ opOf (opsL 3) r = opOf ((opsL 3).drop i) r) (fun u _ => 6 - (intOf u).toNat)
    case atStart => exact ⟨0, Nat.zero_le _, rfl, HA3.out, HO.out, rfl⟩
    case round =>
      obtain ⟨i, hi, rfl, hA4, hO4, hst⟩ := hrel
      have HA4 := Lib.hid hA4
      have HO4 := Lib.hid hO4
      have HS := Lib.hid hst
      clear hA4 hO4 hst HA3 HO
      have hqw := HA4.out.blk.lt
      have how := HO4.out.lt
      by_cases hlt : i < 6
      · obtain ⟨⟨s, o⟩, hs⟩ : ∃ x, (opsL 3)[i]? = some x := ⟨_, List.getElem?_eq_getElem (show i < (opsL 3).length from hlt)⟩
        obtain ⟨c0, c1⟩ := ops_cell HO4.out hs
        have HDR := Lib.hid (drop_get hs)
        clear hs
        have hb6 := later_new wr (.cells #[.string ⟨s.toArray⟩, .int .u8 o] 142)
        have HN := Lib.hid (Blk.new wr 142 #[.string ⟨s.toArray⟩, .int .u8 o])
        have HA6 := Lib.hid (HA4.out.later hb6)
        have HO6 := Lib.hid (HO4.out.later hb6)
        have hm := ghave_any ρ _ r lg dp (HA4.out.did.at_.later hb6) ⟨s.toArray⟩
        rw [show (⟨s.toArray⟩ : ByteArray).data.toList = s by simp] at hm
        clear hb6
        cases hh : headIs s r
        · have HHD := Lib.hid hh
          rw [hh, after_no hh] at hm
          clear hh
          go_wp2_with fail
          refine hm.mono ?_
          clear hm
          rintro e w4 ⟨rfl, d4⟩
          go_wp2_with fail
          go_roundw
          case rel => exact ⟨i + 1, by omega, by go_num, HA6.out.go d4 (by omega) (by omega), d4.blk HO6.out (by omega), by rw [HS.out, HDR.out, opOf_no HHD.out]⟩
          case measure => simp [intOf]; omega
        · have HOP := Lib.hid (show opOf (opsL 3) r = some o by rw [HS.out, HDR.out, opOf_yes hh])
          have hhl := head_len hh
          rw [hh, after_yes hh] at hm
          clear hh
          go_wp2_with fail
          refine hm.mono ?_
          clear hm
          rintro e w4 ⟨rfl, d4⟩
          have hnw : wr.heap.size ≠ ρ.g := by omega
          have HA8 := Lib.hid (HA6.out.go d4 (by omega) (by omega))
          have HN8 := Lib.hid (d4.blk HN.out hnw)
          have hnx : wr.heap.size ≠ qx := by omega
          clear HA6 HO6 HN HA4 HO4 HS HDR d4 c0 c1
          generalize wr.heap.size = nb at *
          have HHELD := Lib.hid (show ∀ w' w'', (Blk w' qx 49 (exC y).toArray ∧ w'.cell? ⟨nb, 1, none⟩ = some (.int .u8 o)) → Later w' w'' → (Blk w'' qx 49 (exC y).toArray ∧ w''.cell? ⟨nb, 1, none⟩ = some (.int .u8 o)) from fun w' w'' hh hl => ⟨hh.1.later hl, (hl.cell (cell_lt hh.2)).trans hh.2⟩)
          have HC := Lib.hid (show w4.cell? ⟨nb, 1, none⟩ = some (.int .u8 o) from HN8.out.cell 1)
          cases ho2 : exprL 4 r.tail with
          | ok x =>
            obtain ⟨t2, r2⟩ := x
            have HO2 := Lib.hid ho2
            have HRES := Lib.hid (show cmpP (exprL 4) l = .ok (opT o [t, t2], r2) by rw [HNO.out]; unfold cmpF; rw [HOP.out]; simp only; rw [bind_okP ho2]; rfl)
            clear ho2
            go_wp2_with fail
            refine region_pair8 (P := Tryz.prog) (H := fun W => Blk W qx 49 (exC y).toArray ∧ W.cell? ⟨nb, 1, none⟩ = some (.int .u8 o)) (val := exV) (e := 49) (k := 2) (cs := fun z => (exC y ++ exC z).toArray) (bv := fun _ s => .agg #[.int .u8 o, .int .u8 0, .int .i64 0, .string ⟨#[]⟩, .string ⟨#[]⟩, .int .i64 0, s]) (Post := fun z W W' => t2.at_ W' (Btw W.heap.size W') z ∧ GDid ρ W W' r2 lg dp) (w0 := w4) (s0 := 6) (s1 := 3) (s2 := 0) (d0 := 36) (d1 := 37) (d2 := 38) (d3 := 39) (d4 := 40) (d5 := 41) (d6 := 42) (vs0 := .pointer (some ⟨nb, 0, none⟩)) (vs1 := .pointer (some ⟨qx, 0, none⟩)) (vs2 := ρ.ptr) (u0 := .pointer (some ⟨nb, 1, none⟩)) (u1 := .int .u8 o) (u2 := exV y) (u3 := ρ.ptr) (F := 153) (args := #[ρ.ptr]) (by kernel_rfl) (by kernel_rfl) (by kernel_rfl) (by kernel_rfl) rfl rfl rfl ⟨HA8.out.blk, HC.out⟩ HHELD.out ?_ ?_ ?_ ?_ ?_ ?_ ?_ (by kernel_rfl) ?_ ?_ ?_
            · intro ρ' w' hH hc h'; simp [go_sem, h']
            · intro ρ' w' hH hc h'; simp [go_sem, h', hH.2]
            · intro ρ' w' hH hc h'; exact exec_load_ex rfl h' hH.1 Tryz.underlying49 rfl gex_info
            · intro ρ' w' hH hc h'; simp [go_sem, h']
            · intro ρ' w' hc h'; simp [go_sem, h', hc.const, hc.func]
            · intro ρ' w' z h' h2'; simp [go_sem, h', h2', exV, exC]
            · intro ρ' w' z g0' h' h2'; simp [go_sem, h', h2']
            · rintro z w' w'' ⟨hh1, hh2⟩ ⟨_, dd⟩
              exact ⟨hh1.grown dd.grown (by simp; omega), (cell_of_heap (dd.grown.block nb (cell_lt hh2) (by simp; omega)) _).trans hh2⟩
            · intro w' hw'
              refine (IH 4 r.tail w' lg dp (by omega) (by omega) (HA8.out.did.at_.later hw')).mono ?_
              intro e w'' hp
              rcases hp.cases with ⟨t3, r3, v, hok, rfl, z, rfl, hat, d2⟩ | ⟨m, herr, _⟩
              · rw [HO2.out] at hok
                injection hok with hok
                injection hok with h1 h2
                subst h1 h2
                exact ⟨z, rfl, hat, d2⟩
              · rw [HO2.out] at herr; cases herr
            intro z g0 W1 W1' W2 hl1 ⟨ht2, d2⟩ hl2 hN hg0
            have hA9 := ((HA8.out.later hl1).go d2 (by omega) (by omega)).later hl2
            have hgl := hN.lt
            have hz3 := d2.size
            have hz2 : w4.heap.size ≤ W1.heap.size := hl1.size
            have hz4 : W1'.heap.size ≤ W2.heap.size := hl2.size
            have hq4 := HA8.out.blk.lt
            have hQ4 := HA8.out.res.lt
            have hT := op2_at (S := Bx (w.heap.size + 1) qx W2) o hN ⟨by omega, hgl, by omega⟩ hA9.tr (Tr.at_.keep (bx_in (by omega) (by omega)) _ _ (ht2.later hl2))
            have HT := Lib.hid (Tr.at_.keep (bx_out (Nat.le_refl _)) _ _ hT)
            have HA9 := Lib.hid hA9
            clear hA9 hT hl1 ht2 d2 hl2 hN hg0 HOP HHELD HC HN8 HA8 hgl hz3 hz2 hz4
            simp only [Act.put, List.setIfInBounds_toArray, List.set_cons_succ, List.set_cons_zero]
            go_wp2_with (first
              | (refine wpList_store_row rfl 49 (.tmp 2) (.tmp 42) rfl w.heap.size (exC (opY o g0 2)).toArray rfl rfl 49 ex0 HA9.out.res gex_info rfl (ex_oneC _) ?_
                 have HR := Lib.hid (HA9.out.res.row (exC (opY o g0 2)).toArray)))
            refine bodyPost_ret (v := exV (opY o g0 2)) (results_cell_row Tryz.results148 _ _ w.heap.size 49 (exC (opY o g0 2)).toArray (0, 0) _ rfl HR.out Tryz.underlying49 rfl gex_info) rfl ?_
            exact exPost_put hgg HA9.out.did HT.out HRES.out
          | error m =>
            have HO2 := Lib.hid ho2
            have HRES := Lib.hid (show cmpP (exprL 4) l = .error m by rw [HNO.out]; unfold cmpF; rw [HOP.out]; simp only; rw [bind_errP ho2])
            clear ho2
            go_wp2_with fail
            refine region_pair8_panic (P := Tryz.prog) (H := fun W => Blk W qx 49 (exC y).toArray ∧ W.cell? ⟨nb, 1, none⟩ = some (.int .u8 o)) (E := fun C W => C = [faultE (ρ.placeOf m)] ∧ w.grownBy W (some ρ.g)) (w0 := w4) (s0 := 6) (s1 := 3) (s2 := 0) (d0 := 36) (d1 := 37) (d2 := 38) (d3 := 39) (d4 := 40) (d5 := 41) (d6 := 42) (vs0 := .pointer (some ⟨nb, 0, none⟩)) (vs1 := .pointer (some ⟨qx, 0, none⟩)) (vs2 := ρ.ptr) (u0 := .pointer (some ⟨nb, 1, none⟩)) (u1 := .int .u8 o) (u2 := exV y) (u3 := ρ.ptr) (F := 153) (args := #[ρ.ptr]) (by kernel_rfl) (by kernel_rfl) (by kernel_rfl) (by kernel_rfl) rfl rfl rfl ⟨HA8.out.blk, HC.out⟩ HHELD.out ?_ ?_ ?_ ?_ ?_ (by kernel_rfl) ?_ ?_
            · intro ρ' w' hH hc h'; simp [go_sem, h']
            · intro ρ' w' hH hc h'; simp [go_sem, h', hH.2]
            · intro ρ' w' hH hc h'; exact exec_load_ex rfl h' hH.1 Tryz.underlying49 rfl gex_info
            · intro ρ' w' hH hc h'; simp [go_sem, h']
            · intro ρ' w' hc h'; simp [go_sem, h', hc.const, hc.func]
            · intro w' hw'
              refine (IH 4 r.tail w' lg dp (by omega) (by omega) (HA8.out.did.at_.later hw')).mono ?_
              intro e w'' hp
              rcases hp.cases with ⟨t3, r3, v, hok, _⟩ | ⟨m', herr, rfl, hg⟩
              · rw [HO2.out] at hok; cases hok
              · rw [HO2.out] at herr
                injection herr with herr
                subst herr
                exact ⟨_, rfl, rfl, grown_trans (HA8.out.did.later hw').grown hg⟩
            · rintro C a W hd ⟨rfl, hg⟩
              have hE := exPost_err (lg := lg) (dp := dp) HRES.out (grown_below (Below.refl _ _)) hg
              simp only [Exit.inBlock, Exit.then]
              exact body_panic (P := Tryz.prog) (fn := Tryz.f148) hd hE
      · obtain rfl : i = 6 := by omega
        have HRES := Lib.hid (show cmpP (exprL 4) l = .ok (t, r) by rw [HNO.out]; unfold cmpF; rw [HS.out]; rfl)
        have HT := Lib.hid (Tr.at_.keep (bx_out (Nat.le_refl _)) _ _ HA4.out.tr)
        go_wp2_with (first
          | (refine wpList_load_row rfl 49 (.tmp 3) rfl qx rfl 49 (exC y).toArray (0, 0) _ HA4.out.blk Tryz.underlying49 rfl gex_info ?_)
          | (refine wpList_store_row rfl 49 (.tmp 2) (.tmp 44) rfl w.heap.size (exC y).toArray rfl rfl 49 ex0 HA4.out.res gex_info rfl (ex_oneC _) ?_
             have HR := Lib.hid (HA4.out.res.row (exC y).toArray)))
        refine bodyPost_ret (v := exV y) (results_cell_row Tryz.results148 _ _ w.heap.size 49 (exC y).toArray (0, 0) _ rfl HR.out Tryz.underlying49 rfl gex_info) rfl ?_
        exact exPost_put hgg HA4.out.did HT.out HRES.out
  · rw [hh, after_yes hh] at hm
    have HI := Lib.hid (show may w_is r = .ok (true, r.tail) by rw [may_eq, hh, after_yes hh])
    clear hh IH
    go_wp2_with fail
    refine hm.mono ?_
    clear hm
    rintro e w3 ⟨rfl, d3⟩
    have HA3 := Lib.hid (HA.out.go d3 (by omega) (by omega))
    clear HA d3
    generalize r.tail = r1 at *
    have hm := ghave_any ρ w3 r1 lg dp HA3.out.did.at_ ⟨#[110, 111, 116]⟩
    rw [show (⟨#[110, 111, 116]⟩ : ByteArray).data.toList = w_not from rfl] at hm
    cases hh : headIs w_not r1
    · rw [hh, after_no hh] at hm
      have HC := Lib.hid (cmp_is HOK.out HI.out (show may w_not r1 = .ok (false, r1) by rw [may_eq, hh, after_no hh]))
      clear hh
      go_wp2_with fail
      refine hm.mono ?_
      clear hm
      rintro e w4 ⟨rfl, d4⟩
      have hb4 := later_new w4 (.cells (strsC [w_null]) 9)
      have HA4 := Lib.hid ((HA3.out.go d4 (by omega) (by omega)).later hb4)
      have hw4 : ρ.g < w4.heap.size := (HA3.out.go d4 (by omega) (by omega)).did.lt
      clear HA3 d4 hb4
      have hm := gmust_any ρ _ _ lg dp HA4.out.did.at_ [w_null] w4.heap.size 1 rfl (Blk.new w4 _ _) (by omega) (by omega)
      unfold strsC strOf at hm
      simp only [List.map_cons, List.map_nil] at hm
      have hwn : w_null.toArray = #[110, 117, 108, 108] := rfl
      rw [hwn] at hm
      go_wp2_with fail
      refine hm.mono ?_
      clear hm
      intro e w5 hp
      rcases hp.cases with ⟨_, r3, v, hok, rfl, rfl, d5⟩ | ⟨m, herr, rfl, hg⟩
      · have hmt : must w_null r1 = .ok ((), r3) := by rw [← musts_one]; exact hok
        have HRES := Lib.hid (HC.out.1 r3 hmt)
        have hb5 := later_new w5 (.cells (exC y).toArray 49)
        have hA5 := HA4.out.go d5 (by omega) (by omega)
        have HA5 := Lib.hid hA5
        have hA6 := hA5.later hb5
        have hs6 := hA5.blk.lt
        have hq6 := hA5.res.lt
        have hT := op1_at (S := Bx (w.heap.size + 1) qx (w5.alloc (.cells (exC y).toArray 49))) 18 (Blk.new w5 49 (exC y).toArray) ⟨by omega, by simp, by omega⟩ hA6.tr
        have HT := Lib.hid (Tr.at_.keep (bx_out (Nat.le_refl _)) _ _ hT)
        have HA6 := Lib.hid hA6
        clear hp hok hmt hb5 hA5 hA6 hT HA4 d5 HC
        unfold exC at HT HA6 HA5
        go_wp2_with (first
          | (refine wpList_load_row rfl 49 (.tmp 3) rfl qx rfl 49 (exC y).toArray (0, 0) _ HA5.out.blk Tryz.underlying49 rfl gex_info ?_
             unfold exC)
          | (refine wpList_store_row rfl 49 (.tmp 2) (.tmp 19) rfl w.heap.size (exC (opY 18 w5.heap.size 1)).toArray rfl rfl 49 ex0 HA6.out.res gex_info rfl (ex_oneC _) ?_
             have HR := Lib.hid (HA6.out.res.row (exC (opY 18 w5.heap.size 1)).toArray)))
        refine bodyPost_ret (v := exV (opY 18 w5.heap.size 1)) (results_cell_row Tryz.results148 _ _ w.heap.size 49 (exC (opY 18 w5.heap.size 1)).toArray (0, 0) _ rfl HR.out Tryz.underlying49 rfl gex_info) rfl ?_
        exact exPost_put hgg HA6.out.did HT.out HRES.out
      · have hmt : must w_null r1 = .error m := by rw [← musts_one]; exact herr
        have HRES := Lib.hid (HC.out.2 m hmt)
        have HG := Lib.hid HA4.out.did.grown
        clear hp herr hmt HA4 HC
        go_wp2_with fail
        exact body_panic rfl (exPost_err HRES.out HG.out hg)
    · rw [hh, after_yes hh] at hm
      have HC := Lib.hid (cmp_is HOK.out HI.out (show may w_not r1 = .ok (true, r1.tail) by rw [may_eq, hh, after_yes hh]))
      clear hh
      go_wp2_with fail
      refine hm.mono ?_
      clear hm
      rintro e w4 ⟨rfl, d4⟩
      have hb4 := later_new w4 (.cells (strsC [w_null]) 9)
      have HA4 := Lib.hid ((HA3.out.go d4 (by omega) (by omega)).later hb4)
      have hw4 : ρ.g < w4.heap.size := (HA3.out.go d4 (by omega) (by omega)).did.lt
      clear HA3 d4 hb4
      have hm := gmust_any ρ _ _ lg dp HA4.out.did.at_ [w_null] w4.heap.size 1 rfl (Blk.new w4 _ _) (by omega) (by omega)
      unfold strsC strOf at hm
      simp only [List.map_cons, List.map_nil] at hm
      have hwn : w_null.toArray = #[110, 117, 108, 108] := rfl
      rw [hwn] at hm
      go_wp2_with fail
      refine hm.mono ?_
      clear hm
      intro e w5 hp
      rcases hp.cases with ⟨_, r3, v, hok, rfl, rfl, d5⟩ | ⟨m, herr, rfl, hg⟩
      · have hmt : must w_null r1.tail = .ok ((), r3) := by rw [← musts_one]; exact hok
        have HRES := Lib.hid (HC.out.1 r3 hmt)
        have hb5 := later_new w5 (.cells (exC y).toArray 49)
        have hA5 := HA4.out.go d5 (by omega) (by omega)
        have HA5 := Lib.hid hA5
        have hA6 := hA5.later hb5
        have hs6 := hA5.blk.lt
        have hq6 := hA5.res.lt
        have hT := op1_at (S := Bx (w.heap.size + 1) qx (w5.alloc (.cells (exC y).toArray 49))) 19 (Blk.new w5 49 (exC y).toArray) ⟨by omega, by simp, by omega⟩ hA6.tr
        have HT := Lib.hid (Tr.at_.keep (bx_out (Nat.le_refl _)) _ _ hT)
        have HA6 := Lib.hid hA6
        clear hp hok hmt hb5 hA5 hA6 hT HA4 d5 HC
        unfold exC at HT HA6 HA5
        go_wp2_with (first
          | (refine wpList_load_row rfl 49 (.tmp 3) rfl qx rfl 49 (exC y).toArray (0, 0) _ HA5.out.blk Tryz.underlying49 rfl gex_info ?_
             unfold exC)
          | (refine wpList_store_row rfl 49 (.tmp 2) (.tmp 19) rfl w.heap.size (exC (opY 19 w5.heap.size 1)).toArray rfl rfl 49 ex0 HA6.out.res gex_info rfl (ex_oneC _) ?_
             have HR := Lib.hid (HA6.out.res.row (exC (opY 19 w5.heap.size 1)).toArray)))
        refine bodyPost_ret (v := exV (opY 19 w5.heap.size 1)) (results_cell_row Tryz.results148 _ _ w.heap.size 49 (exC (opY 19 w5.heap.size 1)).toArray (0, 0) _ rfl HR.out Tryz.underlying49 rfl gex_info) rfl ?_
        exact exPost_put hgg HA6.out.did HT.out HRES.out
      · have hmt : must w_null r1.tail = .error m := by rw [← musts_one]; exact herr
        have HRES := Lib.hid (HC.out.2 m hmt)
        have HG := Lib.hid HA4.out.did.grown
        clear hp herr hmt HA4 HC
        go_wp2_with fail
        exact body_panic rfl (exPost_err HRES.out HG.out hg)
end Go.Proofs.YtcneefmaghoejaaGreatDoor
namespace Go.Proofs.YtcneefmaghoejaaGreatDoor
open Go.ChangeShapes Go.WideShapes Go.ChangeAt Go.RowKit Go.Shelf
set_option linter.unusedVariables false
set_option linter.unusedSimpArgs false
def entsV : List (List UInt8 × Value) → Nat → List MapEntry
  | [], _ => []
  | x :: l, i => ⟨.string ⟨x.1.toArray⟩, x.2, i⟩ :: entsV l (i + 1)
theorem entsV_snoc (x : List UInt8 × Value) : ∀ (l : List (List UInt8 × Value)) (i : Nat), entsV (l ++ [x]) i = entsV l i ++ [⟨.string ⟨x.1.toArray⟩, x.2, i + l.length⟩]
  | [], i => rfl
  | y :: l, i => by
    simp only [List.cons_append, entsV, entsV_snoc x l (i + 1), List.length_cons]
    rw [show i + 1 + l.length = i + (l.length + 1) by omega]
theorem find_v (k : ByteArray) : ∀ (l : List (List UInt8 × Value)) (i j : Nat), match l.lookup k.data.toList with
    | some v => ∃ n, Instr.findNow .string (.string k) (entsV l i) j = some (some (n, v))
    | none => Instr.findNow .string (.string k) (entsV l i) j = some none
  | [], i, j => by simp [entsV, Instr.findNow]
  | (x, v) :: l, i, j => by
    have ih := find_v k l (i + 1) (j + 1)
    have e : Instr.sameNow .string (.string k) (.string ⟨x.toArray⟩) = some (k.data.toList == x) := by
      show some (k == (⟨x.toArray⟩ : ByteArray)) = _
      rw [bytes_beq]
    rw [List.lookup_cons]
    cases hx : (k.data.toList == x)
    · have e2 : Instr.findNow .string (.string k) (entsV ((x, v) :: l) i) j = Instr.findNow .string (.string k) (entsV l (i + 1)) (j + 1) := by
        simp only [entsV, Instr.findNow, e, hx]
      simp only [e2]
      exact ih
    · simp only
      exact ⟨j, by simp only [entsV, Instr.findNow, e, hx]⟩
def MapV (w : World) (g : Nat) (l : List (List UInt8 × Value)) : Prop := w.heap[g]? = some (.map (entsV l 0).toArray l.length)
section
variable {P : Program} {T K V : TypeId} (hT : P.underlying T = some (.map K V)) (hK : P.underlying K = some .string)
include hT hK
theorem run_put_v {w : World} {g : Nat} {l : List (List UInt8 × Value)} (hg : MapV w g l) {x : List UInt8} {v : Value} (hx : l.lookup x = none) :
    (Instr.mapUpdate T (.map (some g)) (.string ⟨x.toArray⟩) v).run P w = .ok () (setMap w g (entsV (l ++ [(x, v)]) 0).toArray (l.length + 1)) := by
  have hf := find_v ⟨x.toArray⟩ l 0 0
  rw [show (⟨x.toArray⟩ : ByteArray).data.toList = x by simp, hx] at hf
  have hk : ∀ e (k : ByteArray) (w : World), (Instr.checkKey e 10000 K (.string k)).run P w = .ok () w := fun e k w => MapKept.run_checkKey hK (by simp [MapKept.IsKey]) e 9999
  unfold Instr.mapUpdate
  simp only [Sem.run_bind, run_underlying hT, Result.andThen_ok, MapKept.run_getObj_map hg, hk, Instr.findKey, run_underlying hK, hf, Sem.run_pure, MapKept.run_setObj_map _ hg]
  rw [entsV_snoc]
  simp [setMap]
theorem run_look_v {w : World} {g : Nat} {l : List (List UInt8 × Value)} (hg : MapV w g l) (k : ByteArray) {z : Value} (hz : ∀ w : World, (zeroValue V).run P w = .ok z w) :
    (Instr.lookup T (.map (some g)) (.string k) false).run P w = .ok ((l.lookup k.data.toList).getD z) w := by
  have hf := find_v k l 0 0
  have hk : ∀ e (k : ByteArray) (w : World), (Instr.checkKey e 10000 K (.string k)).run P w = .ok () w := fun e k w => MapKept.run_checkKey hK (by simp [MapKept.IsKey]) e 9999
  unfold Instr.lookup
  cases hc : l.lookup k.data.toList with
  | none =>
    rw [hc] at hf
    simp only [Sem.run_bind, run_underlying hT, Result.andThen_ok, MapKept.run_getObj_map hg, hk, Instr.findKey, run_underlying hK, hf, Sem.run_pure, hz]
    rfl
  | some v =>
    rw [hc] at hf
    obtain ⟨n, hf⟩ := hf
    simp only [Sem.run_bind, run_underlying hT, Result.andThen_ok, MapKept.run_getObj_map hg, hk, Instr.findKey, run_underlying hK, hf, Sem.run_pure]
    rfl
omit hT hK in
theorem setMap_grown (w : World) (g : Nat) (es : Array MapEntry) (c : Nat) : w.grownBy (setMap w g es c) (some g) :=
  ⟨rfl, rfl, rfl, by simp [setMap], fun i hi hne => setMap_far es c (fun e => hne (by rw [e]))⟩
omit hT hK in
theorem MapV.new (w : World) : MapV (w.alloc (.map #[] 0)) w.heap.size [] := heap_alloc_new w _
variable {ops : Array Oper} {rest : List Oper} {o : Oper} {a : Act} {w : World} {Q : Exit → Act → World → Prop}
theorem wpList_put_v (hgd : o.guard = none) (m x y : Operand) (ho : o.op = .insert T m x y) (g : Nat) (hm : a.eval m = .map (some g)) (k : List UInt8) (hx : a.eval x = .string ⟨k.toArray⟩) (v : Value) (hv : a.eval y = v) {l : List (List UInt8 × Value)} (hM : MapV w g l) (hl : l.lookup k = none)
    (h : ∀ w', MapV w' g (l ++ [(k, v)]) → w.grownBy w' (some g) → wpList P ops Q rest (a.put o.dst undef) w') : wpList P ops Q (o :: rest) a w :=
  wpList_plain hgd fun K hKK => by
    unfold Oper.wp execOp
    simp only [ho, hm, hx, hv, Sem.run_bind, run_put_v hT hK hM hl, Result.andThen_ok]
    have hM2 : MapV (setMap w g (entsV (l ++ [(k, v)]) 0).toArray (l.length + 1)) g (l ++ [(k, v)]) := by
      have := setMap_at (es' := (entsV (l ++ [(k, v)]) 0).toArray) (c' := l.length + 1) hM
      unfold MapV
      rw [List.length_append, List.length_singleton]
      exact this
    exact hKK _ _ (h _ hM2 (setMap_grown _ _ _ _))
omit hT hK in
theorem wpList_make_map (hgd : o.guard = none) (T : TypeId) (ho : o.op = .makeMap T none) (h : wpList P ops Q rest (a.put o.dst (.map (some w.heap.size))) (w.alloc (.map #[] 0))) : wpList P ops Q (o :: rest) a w :=
  wpList_plain hgd fun K hKK => by
    unfold Oper.wp execOp
    simp only [ho, Option.map_none, Sem.run_bind, run_makeMap, Result.andThen_ok]
    exact hKK _ _ h
theorem wpList_look_v (hgd : o.guard = none) (m x : Operand) (ho : o.op = .lookup T m x false) (g : Nat) (hm : a.eval m = .map (some g)) (k : ByteArray) (hx : a.eval x = .string k) {l : List (List UInt8 × Value)} (hM : MapV w g l) {z : Value} (hz : ∀ w : World, (zeroValue V).run P w = .ok z w)
    (h : wpList P ops Q rest (a.put o.dst ((l.lookup k.data.toList).getD z)) w) : wpList P ops Q (o :: rest) a w :=
  wpList_plain hgd fun K hKK => by
    unfold Oper.wp execOp
    simp only [ho, hm, hx, Sem.run_bind, run_look_v hT hK hM k hz, Result.andThen_ok]
    exact hKK _ _ h
end
end Go.Proofs.YtcneefmaghoejaaGreatDoor
