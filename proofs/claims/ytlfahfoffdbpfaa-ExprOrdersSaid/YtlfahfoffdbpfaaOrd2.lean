/- ExprOrders: the walk, of any values that answer so. Printed by gen_ord2.py. -/
import Derived.Test.YtlfahfoffdbpfaaOrd
import Derived.Deep.DeepCutAuto
namespace Go.Proofs.Ytlfahfoffdbpfaa
open Go.ChangeShapes Go.WideShapes Go.ChangeAt Go.RowKit
set_option linter.unusedVariables false
set_option linter.unusedSimpArgs false

set_option maxHeartbeats 4000000 in
set_option maxRecDepth 100000 in
theorem orders_core (a b : Val) (c : Int) (R : Nat → Val) (hgo : skipB a b = false → (∀ k : Nat, k < 6 → W2 (10 + k) a b (R k) true) ∧ ((a.k = 0 ∨ b.k = 0) ∧ (∀ k, k < 6 → R k = zeroVal) ∨ a.k ≠ 0 ∧ b.k ≠ 0 ∧ (∀ k, k < 6 → R k = boolV (ordB k c)))) (hc3 : c = -1 ∨ c = 0 ∨ c = 1) (hcmp : vcmp a b = c) (w : World) :
    Calls Try.prog 5 #[.agg #[.int .u8 a.k, .int .i64 a.n, .string a.s], .agg #[.int .u8 b.k, .int .i64 b.n, .string b.s]] w fun e w' => e = .returned (.bool true) ∧ Below w.heap.size w w' := by
  have HGO := Lib.hid hgo
  have HC3 := Lib.hid hc3
  have HCM := Lib.hid hcmp
  clear hgo hc3 hcmp
  go_enter Try.func5, Try.ntmps5
  go_upto_region 1 with fail
  have hA := (Blk.new w 23 #[.int .u8 a.k, .int .i64 a.n, .string a.s]).alloc (.cells #[.int .u8 b.k, .int .i64 b.n, .string b.s] 23)
  have hY := Blk.new (w.alloc (.cells #[.int .u8 a.k, .int .i64 a.n, .string a.s] 23)) 23 #[.int .u8 b.k, .int .i64 b.n, .string b.s]
  rw [World.size_alloc] at hY
  have hB := Later.then (later_new w (.cells #[.int .u8 a.k, .int .i64 a.n, .string a.s] 23)) (later_new _ (.cells #[.int .u8 b.k, .int .i64 b.n, .string b.s] 23))
  generalize (w.alloc (.cells #[.int .u8 a.k, .int .i64 a.n, .string a.s] 23)).alloc (.cells #[.int .u8 b.k, .int .i64 b.n, .string b.s] 23) = W0 at *
  generalize w.heap.size + 1 = gy at *
  go_cut [45] (fun cc wx => cc = .bool (skipB a b) ∧ Below w.heap.size w wx ∧ Blk wx w.heap.size 23 #[.int .u8 a.k, .int .i64 a.n, .string a.s] ∧ Blk wx gy 23 #[.int .u8 b.k, .int .i64 b.n, .string b.s])
  case first => as_aux_lemma =>
    have cA := val_cells hA
    have cY := val_cells hY
    by_cases h1 : 5000 < wrap64 (↑a.s.size + ↑b.s.size)
    · have t1 : decide (5000 < wrap64 (↑a.s.size + ↑b.s.size)) = true := decide_eq_true h1
      go_wp2_with fail
      go_meet
      exact ⟨by simp [skipB, t1], hB, hA, hY⟩
    · have t1 : decide (5000 < wrap64 (↑a.s.size + ↑b.s.size)) = false := decide_eq_false h1
      go_wp2_with fail
      refine (good_any a _).mono ?_
      rintro e_ w1 ⟨rfl, b1⟩
      replace hB := Later.then hB b1
      replace hA := hA.later b1
      replace hY := hY.later b1
      clear b1 cA cY
      have cA := val_cells hA
      have cY := val_cells hY
      cases hg : good a
      · go_wp2_with fail
        go_meet
        exact ⟨by simp [skipB, hg], hB, hA, hY⟩
      · have HG := Lib.hid hg
        clear hg
        go_wp2_with fail
        refine (good_any b _).mono ?_
        rintro e_ w2 ⟨rfl, b1⟩
        replace hB := Later.then hB b1
        replace hA := hA.later b1
        replace hY := hY.later b1
        clear b1 cA cY
        have cA := val_cells hA
        have cY := val_cells hY
        cases hg : good b
        · go_wp2_with fail
          go_meet
          exact ⟨by simp [skipB, hg], hB, hA, hY⟩
        · have HG2 := Lib.hid hg
          clear hg
          have hsk : skipB a b = (a.k != b.k && (a.k != 0 && b.k != 0)) := by simp [skipB, t1, HG.out, HG2.out]
          have HSK := Lib.hid hsk
          clear hsk t1 h1
          cases e1 : (a.k != b.k)
          · go_wp2_with fail
            go_meet
            exact ⟨by rw [HSK.out, e1]; rfl, hB, hA, hY⟩
          · cases e2 : (a.k != 0)
            · go_wp2_with fail
              go_meet
              exact ⟨by rw [HSK.out, e1, e2]; rfl, hB, hA, hY⟩
            · cases e3 : (b.k != 0)
              · go_wp2_with fail
                go_meet
                exact ⟨by rw [HSK.out, e1, e2, e3]; rfl, hB, hA, hY⟩
              · go_wp2_with fail
                go_meet
                exact ⟨by rw [HSK.out, e1, e2, e3]; rfl, hB, hA, hY⟩
  case rest =>
    clear hB hA hY
    obtain ⟨rfl, hB, hA, hY⟩ := hcut
    cases hs : skipB a b
    · obtain ⟨hW, hF⟩ := HGO.out hs
      have HW := Lib.hid hW
      have HF := Lib.hid hF
      clear hW hF hs HGO
      go_wp2_with fail
      go_loopw [5, 6] (fun lv ov wr => ∃ k : Nat, k ≤ 6 ∧ ov = .int .u8 (10 + k) ∧ OwnF valCells 23 3 wr wc.heap.size lv ((List.range k).map R) ∧ Below wc.heap.size wc wr) (fun _ ov _ => 16 - (intOf ov).toNat)
      case atStart => exact ⟨0, by omega, rfl, OwnF.nil, Below.refl _ _⟩
      case round =>
        obtain ⟨k, hk, rfl, hO, hb⟩ := hrel
        have HO := Lib.hid hO
        clear hO
        replace hA := hA.later hb
        replace hY := hY.later hb
        by_cases hlt : k < 6
        · have hW1 := HW.out k hlt
          have cA := val_cells hA
          have cY := val_cells hY
          have hb6 : (k : Int) ≤ 5 := by omega
          go_wp2_with fail
          clear cA cY
          have b1 := later_new wr (.cells #[.int .u8 a.k, .int .i64 a.n, .string a.s, .int .u8 b.k, .int .i64 b.n, .string b.s] 23)
          have hS := Blk.new wr 23 #[.int .u8 a.k, .int .i64 a.n, .string a.s, .int .u8 b.k, .int .i64 b.n, .string b.s]
          refine (hW1 _ _ hS).mono ?_
          rintro e_ w1 ⟨rfl, b2⟩
          have b3 := Later.then b1 b2
          clear b1 b2 hS hW1
          generalize hr : R k = r at *
          have HR := Lib.hid hr
          clear hr
          have bb := later_new w1 (.cells #[.int .u8 r.k, .int .i64 r.n, .string r.s] 23)
          have b4 := Later.then b3 (Later.then bb (later_new _ (.cells #[.int .u8 r.k, .int .i64 r.n, .string r.s] 23)))
          have hQ := Blk.new (w1.alloc (.cells #[.int .u8 r.k, .int .i64 r.n, .string r.s] 23)) 23 #[.int .u8 r.k, .int .i64 r.n, .string r.s]
          rw [World.size_alloc] at hQ
          have HQ := Lib.hid hQ
          replace HO := Lib.hid (HO.out.later b4)
          replace hb := Later.then hb b4
          have hbase := hb.size
          clear bb b3 b4 hQ
          have hlenv : ((List.range k).map R).length ≤ 6 := by simp; omega
          go_wp2_with (first
            | (at_builtin
               refine wpList_append_one rfl (.tmp 61) (.tmp 63) 40 rfl _ 32 Try.underlying40 val_info rfl (by omega) r rfl (by simp [valCells, Value.oneCell']) rfl HO.out (w1.heap.size + 1) rfl HQ.out (by omega) (by omega) hbase ?_
               intro v4 w4 o4 g4
               have b5 := below_own HO.out g4 hbase
               have O4 := Lib.hid o4
               clear o4 g4 HQ HO))
          go_roundw
          case rel =>
            refine ⟨k + 1, by omega, by go_num, ?_, hb.trans b5⟩
            have h := O4.out
            rw [← HR.out] at h
            rw [List.range_succ, List.map_append]
            exact h
          case measure => simp [intOf]; omega
        · obtain rfl : k = 6 := by omega
          clear hlt hk
          obtain ⟨A8, c8, hu8, hcells⟩ := own_cells (f := valCells) (size := 3) (fun _ => rfl) HO.out
          have HCE := Lib.hid hcells
          clear hcells HO
          have hu8' : _ = Value.slice A8 6 c8 := hu8
          clear hu8
          subst hu8'
          replace hB := Later.then hB hb
          clear hb
          rcases HF.out with ⟨h0, hz⟩ | ⟨h0, h1, hz⟩
          · rcases HCE.out with h | ⟨g, rfl, hg, hce⟩
            · exact absurd h (by simp)
            · clear HCE HF HW
              have hl : ∀ i : Nat, i < 6 → ValAt wr g (i * 3) zeroVal := fun i hi => by
                have hi' : ((List.range 6).map R)[i]? = some zeroVal := by
                  rw [List.getElem?_map, List.getElem?_range hi]
                  simp [hz i hi]
                have k := fun j u hj hu => hce i zeroVal j u hi' hj hu
                exact ⟨by simpa using k 0 _ (by omega) rfl, by simpa using k 1 _ (by omega) rfl, by simpa using k 2 _ (by omega) rfl⟩
              have HL := Lib.hid hl
              clear hl hce hz
              have cA := val_cells hA
              have cY := val_cells hY
              go_upto_region 11 with fail
              go_cut [72] (fun cc wx => cc = .bool true ∧ wx = wr)
              case first =>
                cases e1 : (a.k == 0)
                · have e2 : (b.k == 0) = true := by
                    have e1' : a.k ≠ 0 := by simpa using e1
                    have := h0.resolve_left e1'
                    simpa using this
                  clear h0
                  go_wp2_with fail
                  go_meet
                  exact ⟨rfl, rfl⟩
                · clear h0
                  go_wp2_with fail
                  go_meet
                  exact ⟨rfl, rfl⟩
              case rest =>
                obtain ⟨rfl, rfl⟩ := hcut
                clear cA cY h0 hA hY
                go_wp2_with fail
                go_loop [9] (fun i => ∃ j : Nat, j ≤ 6 ∧ i = .int .i64 j) (fun i => 6 - (intOf i).toNat)
                case atStart => exact ⟨0, by omega, rfl⟩
                case round =>
                  obtain ⟨j, hj, rfl⟩ := hrel
                  by_cases hlt : j < 6
                  · have v := HL.out j hlt
                    unfold ValAt zeroVal at v
                    go_wp2_with fail
                    go_round
                    case rel => exact ⟨j + 1, by omega, by go_num⟩
                    case measure => simp [intOf]; omega
                  · go_wp2_with fail
                    refine (wakes_any _).mono ?_
                    rintro e_ w9 ⟨rfl, b9⟩
                    go_wp2_with fail
                    go_ret
                    exact ⟨rfl, Later.then hB b9⟩
          · rcases HCE.out with h | ⟨g, rfl, hg, hce⟩
            · exact absurd h (by simp)
            · clear HCE HF HW
              have hl : ∀ i : Nat, i < 6 → wr.cell? ⟨g, i * 3 + 1, none⟩ = some (.int .i64 (if ordB i c then 1 else 0)) := fun i hi => by
                have hi' : ((List.range 6).map R)[i]? = some (boolV (ordB i c)) := by
                  rw [List.getElem?_map, List.getElem?_range hi]
                  simp [hz i hi]
                exact hce i _ 1 _ hi' (by omega) rfl
              have l0 := hl 0 (by omega)
              have l1 := hl 1 (by omega)
              have l2 := hl 2 (by omega)
              have l3 := hl 3 (by omega)
              have l4 := hl 4 (by omega)
              have l5 := hl 5 (by omega)
              clear hl hce hz
              have t1 : (a.k == 0) = false := by simpa using h0
              have t2 : (b.k == 0) = false := by simpa using h1
              clear h0 h1
              have hcm := compare_any a b
              rw [HCM.out] at hcm
              have cA := val_cells hA
              have cY := val_cells hY
              go_wp2_with fail
              refine (hcm _).mono ?_
              rintro e_ w5 ⟨rfl, b5⟩
              replace l0 := (b5.cell (p := ⟨g, 0 * 3 + 1, none⟩) hg).trans l0
              replace l1 := (b5.cell (p := ⟨g, 1 * 3 + 1, none⟩) hg).trans l1
              replace l2 := (b5.cell (p := ⟨g, 2 * 3 + 1, none⟩) hg).trans l2
              replace l3 := (b5.cell (p := ⟨g, 3 * 3 + 1, none⟩) hg).trans l3
              replace l4 := (b5.cell (p := ⟨g, 4 * 3 + 1, none⟩) hg).trans l4
              replace l5 := (b5.cell (p := ⟨g, 5 * 3 + 1, none⟩) hg).trans l5
              have hg5 := Nat.lt_of_lt_of_le hg b5.size
              replace hB := Later.then hB b5
              clear hcm cA cY b5 t1 t2 hA hY
              rcases HC3.out with hc | hc | hc
              all_goals
                subst hc
                simp only [ordB] at l0 l1 l2 l3 l4 l5
                simp at l0 l1 l2 l3 l4 l5
                go_wp2_with fail
                have m0 := fun x : Ext w5.heap.size w5 => (x.h.cell (p := ⟨g, 1, none⟩) hg5).trans l0
                have m1 := fun x : Ext w5.heap.size w5 => (x.h.cell (p := ⟨g, 4, none⟩) hg5).trans l1
                have m2 := fun x : Ext w5.heap.size w5 => (x.h.cell (p := ⟨g, 7, none⟩) hg5).trans l2
                have m3 := fun x : Ext w5.heap.size w5 => (x.h.cell (p := ⟨g, 10, none⟩) hg5).trans l3
                have m4 := fun x : Ext w5.heap.size w5 => (x.h.cell (p := ⟨g, 13, none⟩) hg5).trans l4
                have m5 := fun x : Ext w5.heap.size w5 => (x.h.cell (p := ⟨g, 16, none⟩) hg5).trans l5
                clear l0 l1 l2 l3 l4 l5
                refine region_cut 74 w5.heap.size w5 (Below.refl _ _) (by kernel_rfl) (by kernel_rfl) (by kernel_rfl) (by kernel_rfl) ?_
                simp only [List.append, List.take_succ_cons, List.take_zero, List.drop_succ_cons, List.drop_zero]
                repeat (go_big_quiet_step (fail))
                go_big_quiet_step ((go_at_call 12; exact calls_later (Nat.le_refl _) (wakes_any _)))
                repeat (go_big_quiet_step (fail))
                refine wpQuiet_nil ?_
                rintro V4 ⟨x2, hx2⟩
                have hW := x2.h
                rw [← hx2] at hW
                clear hx2 x2
                go_wp2_with fail
                go_ret
                exact ⟨rfl, Later.then hB hW⟩
    · go_wp2_with fail
      refine (wakes_any _).mono ?_
      rintro e_ w9 ⟨rfl, b9⟩
      go_wp2_with fail
      go_ret
      exact ⟨rfl, Later.then hB b9⟩
end Go.Proofs.Ytlfahfoffdbpfaa
