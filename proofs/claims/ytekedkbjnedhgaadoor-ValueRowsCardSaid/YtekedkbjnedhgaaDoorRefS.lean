/- The document's Sort. -/
import Derived.Test.YtekedkbjnedhgaaDoorRefR
import Derived.Deep.RegionLaw
namespace Go.Proofs.YtekedkbjnedhgaaDoor
open Go.ChangeShapes Go.WideShapes Go.ChangeAt Go.RowKit
set_option linter.unusedVariables false
set_option linter.unusedSimpArgs false
set_option maxRecDepth 100000

theorem put_sorted {cl : List RowS} {r : RowS} {k : Nat} (h : cl.Pairwise le) (hk : k ≤ cl.length) (h1 : ∀ j (hj : j < cl.length), k ≤ j → lt r cl[j]) (h2 : k = 0 ∨ ∃ hj : k - 1 < cl.length, le cl[k - 1] r) : (cl.take k ++ r :: cl.drop k).Pairwise le := by
  rw [List.pairwise_append]
  refine ⟨h.sublist (List.take_sublist _ _), ?_, ?_⟩
  · rw [List.pairwise_cons]
    refine ⟨fun x hx => ?_, h.sublist (List.drop_sublist _ _)⟩
    obtain ⟨j, hj, rfl⟩ := List.getElem_of_mem hx
    rw [List.getElem_drop]
    exact le_of_lt (h1 _ _ (by omega))
  · intro x hx y hy
    obtain ⟨i, hi, rfl⟩ := List.getElem_of_mem hx
    rw [List.getElem_take]
    have hi2 : i < k := by simp at hi; omega
    rcases h2 with h2 | ⟨hj, h2⟩
    · omega
    · have e1 : le (cl[i]'(by omega)) cl[k - 1] := by
        rcases Nat.lt_or_ge i (k - 1) with h3 | h3
        · exact List.pairwise_iff_getElem.1 h i (k - 1) (by omega) hj h3
        · have : i = k - 1 := by omega
          subst this; exact le_refl _
      have e2 := le_trans e1 h2
      rcases List.mem_cons.1 hy with rfl | hy
      · exact e2
      · obtain ⟨j, hj2, rfl⟩ := List.getElem_of_mem hy
        rw [List.getElem_drop]
        exact le_trans e2 (le_of_lt (h1 _ _ (by omega)))
theorem put_perm {cl : List RowS} {r : RowS} {k : Nat} {X : List (List Val)} (h : (cl.map (·.l)).Perm X) : ((cl.take k ++ r :: cl.drop k).map (·.l)).Perm (X ++ [r.l]) := by
  have h1 : (cl.take k ++ r :: cl.drop k).Perm (r :: cl) := (List.perm_middle).trans (by rw [List.take_append_drop])
  exact ((h1.map (·.l)).trans (List.Perm.cons _ h)).trans (List.perm_append_singleton _ _).symm
theorem OwnF.take {w : World} {base : Nat} {g cap : Nat} {l : List RowS} (h : OwnF rowCell 29 1 w base (.slice (some ⟨g, 0, none⟩) l.length cap) l) (k : Nat) (hk : k ≤ l.length) : OwnF rowCell 29 1 w base (.slice (some ⟨g, 0, none⟩) k cap) (l.take k) := by
  rcases h.2 with ⟨h0, _⟩ | ⟨g', cap', cur, h1, hb, hg, hn, hm, hs, ht⟩
  · cases h0
  · injection h1 with h1 _ h2
    injection h1 with h1
    injection h1 with h1
    subst h1 h2
    have hkl : (l.take k).length = k := by simp; omega
    refine ⟨by rw [row_flat]; simp, .inr ⟨g, cap, cur, by rw [hkl], hb, hg, by omega, hm, hs, ?_⟩⟩
    rw [hkl]
    have := congrArg (List.take (k * 1)) ht
    rw [List.take_take, Nat.min_eq_left (by omega), row_flat, ← List.map_take] at this
    rw [this, row_flat]
    simp

theorem own_cell {w : World} {base c1 : Nat} {A1 : Option Addr} {cl : List RowS} (h : OwnF rowCell 29 1 w base (.slice A1 cl.length c1) cl) : cl = [] ∨ ∃ g, A1 = some ⟨g, 0, none⟩ ∧ g < w.heap.size ∧ base ≤ g ∧ cl.length ≤ c1 ∧ ∀ j (hj : j < cl.length), w.cell? ⟨g, j, none⟩ = some (.slice cl[j].A cl[j].l.length cl[j].c) := by
  rcases h.2 with ⟨h1, h2⟩ | ⟨g', cap', cur, h1, hb, hg, hn, hm2, hsz, ht⟩
  · exact .inl (List.eq_nil_of_length_eq_zero h2)
  · injection h1 with h1 _ h3
    subst h1 h3
    refine .inr ⟨g', rfl, Blk.lt (show Blk _ g' 29 cur from hg), hb, hn, fun j hj => ?_⟩
    have e := congrArg (fun l => l[j]?) ht
    rw [row_flat] at e
    simp only [List.getElem?_take, List.getElem?_map] at e
    rw [if_pos (by omega), List.getElem?_eq_getElem hj] at e
    rw [(show Blk _ g' 29 cur from hg).cell j]
    show cur[j]? = some cl[j].v
    simpa using e

theorem own_lies {w : World} {base c1 : Nat} {A1 : Option Addr} {cl : List RowS} (h : OwnF rowCell 29 1 w base (.slice A1 cl.length c1) cl) : Lies w A1 cl := by
  rcases h.2 with ⟨_, h2⟩ | ⟨g', cap', cur, h1, _, hg, _⟩
  · exact .inl (List.eq_nil_of_length_eq_zero h2)
  · injection h1 with h1
    exact .inr ⟨g', cur, h1, hg⟩
theorem own_reads {f : RowS → List Value} {e : TypeId} {size base n c : Nat} {w : World} {A : Option Addr} {l : List RowS} (h : OwnF f e size w base (.slice A n c) l) : Reads w w.heap.size size A l.length (l.flatMap f) := by
  obtain ⟨A', c', e1, h2, _⟩ := h.reads
  injection e1 with e1
  subst e1
  exact h2
theorem new_reads (w : World) (v : Value) : Reads (w.alloc (.cells #[v] 29)) (w.heap.size + 1) 1 (some ⟨w.heap.size, 0, none⟩) 1 [v] := by
  refine ⟨rfl, fun _ => ⟨_, rfl, Nat.lt_succ_self _, fun j u hu => ?_⟩⟩
  rw [add_none, Nat.zero_add, (Blk.new w 29 #[v]).cell j]
  simpa using hu
theorem row_one (l : List RowS) : ∀ u ∈ l.flatMap rowCell, u.oneCell' = true := by
  intro u hu
  obtain ⟨v, _, hv⟩ := List.mem_flatMap.1 hu
  simp [rowCell] at hv
  subst hv
  rfl
theorem size_row (u : World) : (sizeOf (Tryd.prog.elem 35)).run Tryd.prog u = .ok 1 u := by kernel_rfl
def dropA (A1 : Option Addr) (c1 k : Nat) : Option Addr := if c1 = k then A1 else A1.map (·.add k)
theorem lo_run (A1 : Option Addr) (n c1 k : Nat) (hk : k ≤ n) (u : World) : (Instr.slice 35 (.slice A1 n c1) (some (.int .i64 k)) none none).run Tryd.prog u = .ok (.slice (dropA A1 c1 k) (n - k) (c1 - k)) u := by
  unfold dropA
  rw [run_slice_l u 35 A1 n c1 Tryd.underlying35 .i64 k (by omega) (by omega), size_row]
  simp [sliced]
theorem hi_run (g : Nat) (n c1 k : Nat) (hk : k ≤ c1) (u : World) : (Instr.slice 35 (.slice (some ⟨g, 0, none⟩) n c1) none (some (.int .i64 k)) none).run Tryd.prog u = .ok (.slice (some ⟨g, 0, none⟩) k c1) u := by
  rw [run_slice_h u 35 (some ⟨g, 0, none⟩) n c1 Tryd.underlying35 .i64 k (by omega) (by omega), size_row]
  simp [sliced, add_none]
theorem hi_nil (n c1 k : Nat) (hk : k ≤ c1) (u : World) : (Instr.slice 35 (.slice none n c1) none (some (.int .i64 k)) none).run Tryd.prog u = .ok (.slice none k c1) u := by
  rw [run_slice_h u 35 none n c1 Tryd.underlying35 .i64 k (by omega) (by omega), size_row]
  simp [sliced]
theorem hi_none (n c1 : Nat) (u : World) : (Instr.slice 35 (.slice none n c1) none (some (.int .i64 (0 : Nat))) none).run Tryd.prog u = .ok (.slice none 0 c1) u := by
  rw [run_slice_h u 35 none n c1 Tryd.underlying35 .i64 (0 : Nat) (by omega) (by omega), size_row]
  simp [sliced]
theorem drop_reads {w : World} {base c1 : Nat} {A1 : Option Addr} {cl : List RowS} (h : OwnF rowCell 29 1 w base (.slice A1 cl.length c1) cl) (k : Nat) (hk : k ≤ cl.length) : Reads w w.heap.size 1 (dropA A1 c1 k) (cl.length - k) ((cl.drop k).flatMap rowCell) := by
  unfold dropA
  refine ⟨by rw [row_flat]; simp, fun hn => ?_⟩
  rcases own_cell h with h0 | ⟨g, rfl, hg, hb, hc, hcell⟩
  · subst h0; simp at hn
  · rw [if_neg (by omega)]
    refine ⟨⟨g, 0 + k, none⟩, by simp [add_none], hg, fun j u hu => ?_⟩
    rw [row_flat, List.getElem?_map, List.getElem?_drop] at hu
    rw [add_none]
    cases hx : cl[k + j]? with
    | none => rw [hx] at hu; cases hu
    | some r =>
      rw [hx] at hu
      obtain ⟨h1, h2⟩ := List.getElem?_eq_some_iff.1 hx
      simp only [Option.map_some, Option.some.injEq] at hu
      subst hu
      rw [← h2, Nat.zero_add]
      exact hcell (k + j) h1

set_option maxHeartbeats 4000000 in
theorem sortR_any (A : Option Addr) (c : Nat) (rs : List RowS) (w : World) (h : RR w w.heap.size A rs) (hm : rs.length ≤ 1000) (hl : ∀ r ∈ rs, r.l.length ≤ 1000) :
    Calls Tryd.prog 22 #[.slice A rs.length c] w (sortedPost rs w) := by
  have HR := Lib.hid h
  have HL := Lib.hid hl
  clear h hl
  go_enter Tryd.func22, Tryd.ntmps22
  go_wp2_with fail
  go_loopw [3, 4] (fun ov iv wr => ∃ (i : Nat) (cl : List RowS), i ≤ rs.length ∧ cl.length = i ∧ iv = .int .i64 i ∧ (cl.map (·.l)).Perm ((rs.take i).map (·.l)) ∧ cl.Pairwise le ∧ OwnF rowCell 29 1 wr w.heap.size ov cl ∧ Mine wr w.heap.size cl ∧ Below w.heap.size w wr) (fun _ iv _ => rs.length - (intOf iv).toNat)
  case atStart => exact ⟨0, [], Nat.zero_le _, rfl, rfl, .refl _, .nil, OwnF.nil, fun r hr => by simp at hr, Below.refl _ _⟩
  case round =>
    obtain ⟨i, cl, hi, hci, rfl, hp, hs, hO, hM, hB⟩ := hrel
    have HP := Lib.hid hp
    have HS := Lib.hid hs
    have HO := Lib.hid hO
    have HM := Lib.hid hM
    have HCI := Lib.hid hci
    have HLC := Lib.hid (show ∀ r ∈ cl, r.l.length ≤ 1000 from fun r hr => by
      have h1 : r.l ∈ (rs.take i).map (·.l) := hp.mem_iff.1 (List.mem_map.2 ⟨r, hr, rfl⟩)
      obtain ⟨r', h2, h3⟩ := List.mem_map.1 h1
      rw [← h3]; exact HL.out r' (List.mem_of_mem_take h2))
    clear hp hs hO hM hci
    by_cases hlt : i < rs.length
    · obtain ⟨b, off, rfl, hb, hcell, hrv⟩ := (HR.out.below hB).at_ hlt
      have HT := Lib.hid (show (rs.take (i + 1)).map (·.l) = (rs.take i).map (·.l) ++ [rs[i].l] by rw [List.take_add_one, List.getElem?_eq_getElem hlt, List.map_append]; rfl)
      have hlr := HL.out rs[i] (List.getElem_mem hlt)
      have HV := Lib.hid (hrv.more hB.size)
      have hbw : b < wr.heap.size := Nat.lt_of_lt_of_le hb hB.size
      clear hrv
      generalize rs[i] = r at *
      obtain ⟨rA, l, rc⟩ := r
      dsimp only at *
      obtain ⟨A1, c1, e1, _⟩ := HO.out.reads
      subst e1
      have hcl9 : cl.length ≤ 1000 := by rw [HCI.out]; omega
      have HCC := Lib.hid (own_cell HO.out)
      go_wp2_with fail
      go_loopw [5] (fun kv wr2 => ∃ k : Nat, k ≤ cl.length ∧ kv = .int .i64 k ∧ (∀ j (hj : j < cl.length), k ≤ j → rcmp l cl[j].l < 0) ∧ Below wr.heap.size wr wr2) (fun kv _ => (intOf kv).toNat)
      case atStart => exact ⟨cl.length, Nat.le_refl _, rfl, fun j hj h => by omega, Below.refl _ _⟩
      case round =>
        obtain ⟨k, hk, rfl, hkl, b2⟩ := hrel
        have HK := Lib.hid hkl
        clear hkl
        replace HO := Lib.hid (HO.out.later b2)
        replace HM := Lib.hid (HM.out.later b2)
        replace HV := Lib.hid (HV.out.later b2)
        replace hB := Later.then hB b2
        replace hcell := (b2.cell (p := ⟨b, off + i, none⟩) hbw).trans hcell
        replace hbw := Nat.lt_of_lt_of_le hbw b2.size
        replace HCC := Lib.hid (own_cell HO.out)
        have x1 := fun q : Ext wr.heap.size wr => (q.h.cell (p := ⟨b, off + i, none⟩) hbw).trans hcell
        by_cases hk0 : 0 < k
        · obtain ⟨kp, rfl⟩ : ∃ q, k = q + 1 := ⟨k - 1, by omega⟩
          have hkp : kp < cl.length := by omega
          rcases HCC.out with h0 | ⟨g, rfl, hg, hgb, hcap, hcells⟩
          · subst h0; simp at hkp
          have y1 := fun q : Ext wr.heap.size wr => (q.h.cell (p := ⟨g, kp, none⟩) hg).trans (hcells kp hkp)
          have hc1 := fun q : Ext wr.heap.size wr => rowsR_any cl[kp].A cl[kp].c cl[kp].l rA rc l q.w (by
            obtain ⟨A2, c2, e2, e3, _⟩ := rv_own (HM.out cl[kp] (List.getElem_mem hkp))
            unfold RowS.v at e2
            injection e2 with e2
            subst e2
            exact e3.later q.h) (HV.out.later q.h) (HLC.out _ (List.getElem_mem hkp)) hlr
          have t1 : decide ((0 : Int) < (kp : Int) + 1) = true := decide_eq_true (by omega)
          clear hcells
          by_cases hl : 0 < rcmp cl[kp].l l
          · have t2 := decide_eq_true hl
            have HX := Lib.hid (show rcmp l cl[kp].l < 0 by have := rcmp_anti l cl[kp].l; omega)
            clear hl
            go_upto_region 6 with fail
            refine region_cut 15 wr.heap.size wr (Below.refl _ _) (by kernel_rfl) (by kernel_rfl) (by kernel_rfl) (by kernel_rfl) ?_
            simp only [List.append, List.take_succ_cons, List.take_zero, List.drop_succ_cons, List.drop_zero]
            repeat (go_big_quiet_step (fail))
            go_big_quiet_step ((go_at_call 18; exact calls_later (Nat.le_refl _) (hc1 _)))
            repeat (go_big_quiet_step (fail))
            refine wpQuiet_nil ?_
            rintro W4 ⟨x9, hx9⟩
            have hW := x9.h
            rw [← hx9] at hW
            clear hx9 x9
            have HK2 := Lib.hid (show ∀ j (hj : j < cl.length), kp ≤ j → rcmp l cl[j].l < 0 from fun j hj h => by
              rcases Nat.lt_or_ge kp j with h1 | h1
              · exact HK.out j hj h1
              · have : j = kp := by omega
                subst this; exact HX.out)
            go_wp2_with fail
            exact ⟨⟨kp, by omega, by go_num, HK2.out, Later.then b2 hW⟩, by simp [intOf]⟩
          · have t2 := decide_eq_false hl
            have HX := Lib.hid (show kp + 1 = 0 ∨ ∃ hj : kp + 1 - 1 < cl.length, le cl[kp + 1 - 1] ⟨rA, l, rc⟩ from .inr ⟨hkp, by unfold le; simp; omega⟩)
            clear hl
            go_upto_region 6 with fail
            refine region_cut 15 wr.heap.size wr (Below.refl _ _) (by kernel_rfl) (by kernel_rfl) (by kernel_rfl) (by kernel_rfl) ?_
            simp only [List.append, List.take_succ_cons, List.take_zero, List.drop_succ_cons, List.drop_zero]
            repeat (go_big_quiet_step (fail))
            go_big_quiet_step ((go_at_call 18; exact calls_later (Nat.le_refl _) (hc1 _)))
            repeat (go_big_quiet_step (fail))
            refine wpQuiet_nil ?_
            rintro W4 ⟨x9, hx9⟩
            have hW := x9.h
            rw [← hx9] at hW
            clear hx9 x9 x1 y1 hc1 t1 t2
            generalize hkk : kp + 1 = k at *
            have hkpos : k ≤ cl.length := hk
            clear hkk HCC
            have HCC := Lib.hid trivial
            obtain ⟨i0, hi0, hz0, hz1, hz2⟩ := info_parts row_info
            obtain ⟨j0, hj0, hy0, hy1, hy2⟩ := info_parts val_info
            have HI := Lib.hid (And.intro hi0 (And.intro hz0 (And.intro hz1 hz2)))
            have HJ := Lib.hid (And.intro hj0 (And.intro hy0 (And.intro hy1 hy2)))
            clear hi0 hz0 hz1 hz2 hj0 hy0 hy1 hy2
            replace HO := Lib.hid (HO.out.later hW)
            replace HM := Lib.hid (HM.out.later hW)
            replace HV := Lib.hid (HV.out.later hW)
            replace hB := Later.then hB hW
            replace hcell := (hW.cell (p := ⟨b, off + i, none⟩) hbw).trans hcell
            replace hbw := Nat.lt_of_lt_of_le hbw hW.size
            have hgW : g < W4.heap.size := Nat.lt_of_lt_of_le hg hW.size
            clear b2 hW HCC
            have hlo := lo_run (some ⟨g, 0, none⟩) cl.length c1 k hk
            have HRd := Lib.hid (drop_reads HO.out k hk)
            generalize hA2 : dropA (some ⟨g, 0, none⟩) c1 k = A2 at hlo HRd
            clear hA2
            have hhi := hi_run g cl.length c1 k (by omega)
            have HT2 := Lib.hid (HO.out.take k hk)
            go_upto_region 9 with (first
              | (at_builtin
                 refine wpList_append_any _ rfl (.const (.slice none 0 0)) (.tmp 34) 35 rfl W4.heap.size 29 i0 _ 1 24 Tryd.underlying35 HI.out.1 HI.out.2.1 HI.out.2.2.1 HI.out.2.2.2 rfl (by omega) (.slice none 0 0) 0 [] rfl ⟨by simp, .inl ⟨rfl, rfl⟩⟩ _ A2 (cl.length - k) (c1 - k) ((cl.drop k).flatMap rowCell) rfl HRd.out (row_one _) (by unfold maxLen; omega) (by omega) (Nat.le_refl _) ?_
                 intro v2 w5 o2 g2 _
                 have b5 := later_grown g2
                 have O2 := Lib.hid o2
                 clear o2 g2))
            clear hlo HRd
            have O2' : OwnF rowCell 29 1 w5 W4.heap.size v2 (cl.drop k) := by
              have := O2.out
              unfold OwnF
              simpa using this
            obtain ⟨A6, c6, e6, _⟩ := O2'.reads
            subst e6
            have HD := Lib.hid O2'
            clear O2 O2'
            have HT5 := Lib.hid (HT2.out.later b5)
            have HM5 := Lib.hid (HM.out.later b5)
            have RV5 := Lib.hid (HV.out.later b5).reads
            have hB5 := Later.then hB b5
            have hs5 := b5.size
            have hkl : (cl.take k).length = k := by simp; omega
            have hdl : (cl.drop k).length = cl.length - k := by simp
            have HKL := Lib.hid hkl
            have HDL := Lib.hid hdl
            clear hkl hdl HT2 HV HM HO
            replace hcell := (b5.cell (p := ⟨b, off + i, none⟩) hbw).trans hcell
            go_region_law (first
              | (refine step_append_any _ rfl (.const (.slice none 0 0)) (.tmp 42) 29 rfl w5.heap.size 23 j0 _ 3 32 Tryd.underlying29 HJ.out.1 HJ.out.2.1 HJ.out.2.2.1 HJ.out.2.2.2 rfl (by omega) (.slice none 0 0) 0 [] rfl ⟨by simp, .inl ⟨rfl, rfl⟩⟩ w5.heap.size rA l.length rc (l.flatMap valCells) (by simp [Act.eval]) (RV5.out.drewN 1) (val_one l) (by unfold maxLen; omega) (by omega) (Nat.le_refl _) ?_
                 intro v3 w6 o3 g3 _
                 have b6 : Below w5.heap.size w5 w6 := Below.trans (Later.drew w5) (later_grown g3)
                 have O3 : OwnF valCells 23 3 w6 w5.heap.size v3 l := by
                   unfold OwnF
                   simpa using o3
                 obtain ⟨A3, c3, e3, _⟩ := O3.reads
                 subst e3
                 have T6 := (HT5.out.later b6).later (later_new w6 (.cells #[.slice A3 l.length c3] 29))
                 have D6 := (HD.out.later b6).later (later_new w6 (.cells #[.slice A3 l.length c3] 29))
                 have M6 : Mine (w6.alloc (.cells #[.slice A3 l.length c3] 29)) w.heap.size (cl ++ [⟨A3, l, c3⟩]) := by
                   intro r hr
                   rcases List.mem_append.1 hr with hr | hr
                   · exact ((HM5.out r hr).later b6).later (later_new w6 _)
                   · simp at hr
                     subst hr
                     exact (O3.down hB5.size).later (later_new w6 _)
                 have hB6 := Later.then (Later.then hB5 b6) (later_new w6 (.cells #[.slice A3 l.length c3] 29))
                 have R6 := new_reads w6 (.slice A3 l.length c3)
                 clear o3 g3 O3)
              | (refine step_append_any _ rfl (.tmp 38) (.tmp 44) 35 rfl w.heap.size 29 i0 _ 1 24 Tryd.underlying35 HI.out.1 HI.out.2.1 HI.out.2.2.1 HI.out.2.2.2 rfl (by omega) (.slice (some ⟨g, 0, none⟩) k c1) (cl.take k).length ((cl.take k).flatMap rowCell) (by simp [Act.eval]) T6 (w6.heap.size + 1) (some ⟨w6.heap.size, 0, none⟩) 1 1 [.slice A3 l.length c3] (by simp [Act.eval]) R6 (by simp [Value.oneCell']) (by rw [HKL.out]; unfold maxLen; omega) (by rw [HKL.out]; omega) hB6.size ?_
                 intro v4 w7 o4 g4 _
                 have O4 : OwnF rowCell 29 1 w7 w.heap.size v4 (cl.take k ++ [⟨A3, l, c3⟩]) := by
                   unfold OwnF
                   rw [List.length_append, List.flatMap_append]
                   exact o4
                 have D7 := D6.keep (w' := w7) fun q hq => g4.block q (D6.lt hq).1 (fun e => by have h9 := (D6.lt hq).2.1; have e9 : some q = some g := e; injection e9 with e9; rw [e9] at h9; exact absurd hgW (Nat.not_lt.2 h9))
                 have R7 := own_reads D7
                 rw [HDL.out] at R7
                 have M7 := M6.grown T6 g4
                 have hB7 := hB6.trans (below_own T6 g4 hB6.size)
                 clear o4 g4 D6 D7 T6 M6 R6)
              | (refine step_append_any _ rfl (.tmp 45) (.tmp 46) 35 rfl w.heap.size 29 i0 _ 1 24 Tryd.underlying35 HI.out.1 HI.out.2.1 HI.out.2.2.1 HI.out.2.2.2 rfl (by omega) v4 (cl.take k ++ [(⟨A3, l, c3⟩ : RowS)]).length ((cl.take k ++ [(⟨A3, l, c3⟩ : RowS)]).flatMap rowCell) (by simp [Act.eval]) O4 w7.heap.size A6 (cl.length - k) c6 ((cl.drop k).flatMap rowCell) (by simp [Act.eval]) R7 (row_one _) (by rw [List.length_append, HKL.out]; simp; unfold maxLen; omega) (by rw [List.length_append, HKL.out]; simp; omega) hB7.size ?_
                 intro v5 w8 o5 g5 _
                 have O5 : OwnF rowCell 29 1 w8 w.heap.size v5 (cl.take k ++ ⟨A3, l, c3⟩ :: cl.drop k) := by
                   have e : cl.take k ++ (⟨A3, l, c3⟩ : RowS) :: cl.drop k = (cl.take k ++ [⟨A3, l, c3⟩]) ++ cl.drop k := by simp
                   rw [e]
                   unfold OwnF
                   rw [List.length_append, List.flatMap_append, HDL.out]
                   exact o5
                 have M8 := M7.grown O4 g5
                 have hB8 := hB7.trans (below_own O4 g5 hB7.size)
                 clear o5 g5 O4 R7 M7))
            have MF : Mine w8 w.heap.size (cl.take k ++ ⟨A3, l, c3⟩ :: cl.drop k) := fun r hr => M8 r (by
              have h1 : (cl.take k ++ (⟨A3, l, c3⟩ : RowS) :: cl.drop k).Perm (⟨A3, l, c3⟩ :: cl) := (List.perm_middle).trans (by rw [List.take_append_drop])
              have := h1.mem_iff.1 hr
              rcases List.mem_cons.1 this with e | e
              · subst e; simp
              · simp [e])
            have SF : (cl.take k ++ (⟨A3, l, c3⟩ : RowS) :: cl.drop k).Pairwise le := put_sorted HS.out hk (fun j hj h => HK.out j hj h) (by
              rcases HX.out with e | ⟨hj, e⟩
              · exact .inl e
              · exact .inr ⟨hj, e⟩)
            have PF := put_perm (r := ⟨A3, l, c3⟩) (k := k) HP.out
            rw [← HT.out] at PF
            have LF : (cl.take k ++ (⟨A3, l, c3⟩ : RowS) :: cl.drop k).length = i + 1 := by
              rw [List.length_append, HKL.out, List.length_cons, HDL.out, ← HCI.out]
              omega
            have HQ := Lib.hid (And.intro MF (And.intro SF (And.intro PF (And.intro LF (And.intro O5 hB8)))))
            clear MF SF PF LF O5 hB8 M8
            go_wp2_with fail
            exact ⟨⟨i + 1, _, hlt, HQ.out.2.2.2.1, by go_num, HQ.out.2.2.1, HQ.out.2.1, HQ.out.2.2.2.2.1, HQ.out.1, HQ.out.2.2.2.2.2⟩, by simp [intOf]; omega⟩
        · have hke : k = 0 := by omega
          have HX := Lib.hid (show k = 0 ∨ ∃ hj : k - 1 < cl.length, le cl[k - 1] ⟨rA, l, rc⟩ from .inl hke)
          have HKE := Lib.hid hke
          clear hke
          have t1 : decide ((0 : Int) < (k : Int)) = false := decide_eq_false (by omega)
          go_upto_region 6 with fail
          refine region_cut 15 wr.heap.size wr (Below.refl _ _) (by kernel_rfl) (by kernel_rfl) (by kernel_rfl) (by kernel_rfl) ?_
          simp only [List.append, List.take_succ_cons, List.take_zero, List.drop_succ_cons, List.drop_zero]
          repeat (go_big_quiet_step (fail))
          refine wpQuiet_nil ?_
          rintro W4 ⟨x9, hx9⟩
          have hW := x9.h
          rw [← hx9] at hW
          clear hx9 x9 x1 t1
          rcases (show (A1 = none ∧ c1 = 0) ∨ ∃ g, A1 = some ⟨g, 0, none⟩ ∧ g < wr.heap.size from by
            rcases HO.out.2 with ⟨h1, _⟩ | ⟨g', cap', cur, h1, _, hg', _⟩
            · injection h1 with h1 _ h2
              exact .inl ⟨h1, h2⟩
            · injection h1 with h1
              exact .inr ⟨g', h1, Blk.lt (show Blk _ g' 29 cur from hg')⟩) with ⟨rfl, rfl⟩ | ⟨g, rfl, hg⟩
          · obtain ⟨i0, hi0, hz0, hz1, hz2⟩ := info_parts row_info
            obtain ⟨j0, hj0, hy0, hy1, hy2⟩ := info_parts val_info
            have HI := Lib.hid (And.intro hi0 (And.intro hz0 (And.intro hz1 hz2)))
            have HJ := Lib.hid (And.intro hj0 (And.intro hy0 (And.intro hy1 hy2)))
            clear hi0 hz0 hz1 hz2 hj0 hy0 hy1 hy2
            replace HO := Lib.hid (HO.out.later hW)
            replace HM := Lib.hid (HM.out.later hW)
            replace HV := Lib.hid (HV.out.later hW)
            replace hB := Later.then hB hW
            replace hcell := (hW.cell (p := ⟨b, off + i, none⟩) hbw).trans hcell
            replace hbw := Nat.lt_of_lt_of_le hbw hW.size
            clear b2 hW HCC
            have hlo := lo_run (none) cl.length 0 k hk
            have HRd := Lib.hid (drop_reads HO.out k hk)
            generalize hA2 : dropA (none) 0 k = A2 at hlo HRd
            clear hA2
            have hhi := hi_nil cl.length 0 k (by omega)
            have HT2 := Lib.hid (show OwnF rowCell 29 1 W4 w.heap.size (.slice none k 0) (cl.take k) by rw [HKE.out]; exact OwnF.nil)
            go_upto_region 9 with (first
              | (at_builtin
                 refine wpList_append_any _ rfl (.const (.slice none 0 0)) (.tmp 34) 35 rfl W4.heap.size 29 i0 _ 1 24 Tryd.underlying35 HI.out.1 HI.out.2.1 HI.out.2.2.1 HI.out.2.2.2 rfl (by omega) (.slice none 0 0) 0 [] rfl ⟨by simp, .inl ⟨rfl, rfl⟩⟩ _ A2 (cl.length - k) 0 ((cl.drop k).flatMap rowCell) rfl HRd.out (row_one _) (by unfold maxLen; omega) (by omega) (Nat.le_refl _) ?_
                 intro v2 w5 o2 g2 _
                 have b5 := later_grown g2
                 have O2 := Lib.hid o2
                 clear o2 g2))
            clear hlo HRd
            have O2' : OwnF rowCell 29 1 w5 W4.heap.size v2 (cl.drop k) := by
              have := O2.out
              unfold OwnF
              simpa using this
            obtain ⟨A6, c6, e6, _⟩ := O2'.reads
            subst e6
            have HD := Lib.hid O2'
            clear O2 O2'
            have HT5 := Lib.hid (HT2.out.later b5)
            have HM5 := Lib.hid (HM.out.later b5)
            have RV5 := Lib.hid (HV.out.later b5).reads
            have hB5 := Later.then hB b5
            have hs5 := b5.size
            have hkl : (cl.take k).length = k := by simp; omega
            have hdl : (cl.drop k).length = cl.length - k := by simp
            have HKL := Lib.hid hkl
            have HDL := Lib.hid hdl
            clear hkl hdl HT2 HV HM HO
            replace hcell := (b5.cell (p := ⟨b, off + i, none⟩) hbw).trans hcell
            go_region_law (first
              | (refine step_append_any _ rfl (.const (.slice none 0 0)) (.tmp 42) 29 rfl w5.heap.size 23 j0 _ 3 32 Tryd.underlying29 HJ.out.1 HJ.out.2.1 HJ.out.2.2.1 HJ.out.2.2.2 rfl (by omega) (.slice none 0 0) 0 [] rfl ⟨by simp, .inl ⟨rfl, rfl⟩⟩ w5.heap.size rA l.length rc (l.flatMap valCells) (by simp [Act.eval]) (RV5.out.drewN 1) (val_one l) (by unfold maxLen; omega) (by omega) (Nat.le_refl _) ?_
                 intro v3 w6 o3 g3 _
                 have b6 : Below w5.heap.size w5 w6 := Below.trans (Later.drew w5) (later_grown g3)
                 have O3 : OwnF valCells 23 3 w6 w5.heap.size v3 l := by
                   unfold OwnF
                   simpa using o3
                 obtain ⟨A3, c3, e3, _⟩ := O3.reads
                 subst e3
                 have T6 := (HT5.out.later b6).later (later_new w6 (.cells #[.slice A3 l.length c3] 29))
                 have D6 := (HD.out.later b6).later (later_new w6 (.cells #[.slice A3 l.length c3] 29))
                 have M6 : Mine (w6.alloc (.cells #[.slice A3 l.length c3] 29)) w.heap.size (cl ++ [⟨A3, l, c3⟩]) := by
                   intro r hr
                   rcases List.mem_append.1 hr with hr | hr
                   · exact ((HM5.out r hr).later b6).later (later_new w6 _)
                   · simp at hr
                     subst hr
                     exact (O3.down hB5.size).later (later_new w6 _)
                 have hB6 := Later.then (Later.then hB5 b6) (later_new w6 (.cells #[.slice A3 l.length c3] 29))
                 have R6 := new_reads w6 (.slice A3 l.length c3)
                 clear o3 g3 O3)
              | (refine step_append_any _ rfl (.tmp 38) (.tmp 44) 35 rfl w.heap.size 29 i0 _ 1 24 Tryd.underlying35 HI.out.1 HI.out.2.1 HI.out.2.2.1 HI.out.2.2.2 rfl (by omega) (.slice (none) k 0) (cl.take k).length ((cl.take k).flatMap rowCell) (by simp [Act.eval]) T6 (w6.heap.size + 1) (some ⟨w6.heap.size, 0, none⟩) 1 1 [.slice A3 l.length c3] (by simp [Act.eval]) R6 (by simp [Value.oneCell']) (by rw [HKL.out]; unfold maxLen; omega) (by rw [HKL.out]; omega) hB6.size ?_
                 intro v4 w7 o4 g4 _
                 have O4 : OwnF rowCell 29 1 w7 w.heap.size v4 (cl.take k ++ [⟨A3, l, c3⟩]) := by
                   unfold OwnF
                   rw [List.length_append, List.flatMap_append]
                   exact o4
                 have D7 := D6.keep (w' := w7) fun q hq => g4.block q (D6.lt hq).1 (fun e => by cases e)
                 have R7 := own_reads D7
                 rw [HDL.out] at R7
                 have M7 := M6.grown T6 g4
                 have hB7 := hB6.trans (below_own T6 g4 hB6.size)
                 clear o4 g4 D6 D7 T6 M6 R6)
              | (refine step_append_any _ rfl (.tmp 45) (.tmp 46) 35 rfl w.heap.size 29 i0 _ 1 24 Tryd.underlying35 HI.out.1 HI.out.2.1 HI.out.2.2.1 HI.out.2.2.2 rfl (by omega) v4 (cl.take k ++ [(⟨A3, l, c3⟩ : RowS)]).length ((cl.take k ++ [(⟨A3, l, c3⟩ : RowS)]).flatMap rowCell) (by simp [Act.eval]) O4 w7.heap.size A6 (cl.length - k) c6 ((cl.drop k).flatMap rowCell) (by simp [Act.eval]) R7 (row_one _) (by rw [List.length_append, HKL.out]; simp; unfold maxLen; omega) (by rw [List.length_append, HKL.out]; simp; omega) hB7.size ?_
                 intro v5 w8 o5 g5 _
                 have O5 : OwnF rowCell 29 1 w8 w.heap.size v5 (cl.take k ++ ⟨A3, l, c3⟩ :: cl.drop k) := by
                   have e : cl.take k ++ (⟨A3, l, c3⟩ : RowS) :: cl.drop k = (cl.take k ++ [⟨A3, l, c3⟩]) ++ cl.drop k := by simp
                   rw [e]
                   unfold OwnF
                   rw [List.length_append, List.flatMap_append, HDL.out]
                   exact o5
                 have M8 := M7.grown O4 g5
                 have hB8 := hB7.trans (below_own O4 g5 hB7.size)
                 clear o5 g5 O4 R7 M7))
            have MF : Mine w8 w.heap.size (cl.take k ++ ⟨A3, l, c3⟩ :: cl.drop k) := fun r hr => M8 r (by
              have h1 : (cl.take k ++ (⟨A3, l, c3⟩ : RowS) :: cl.drop k).Perm (⟨A3, l, c3⟩ :: cl) := (List.perm_middle).trans (by rw [List.take_append_drop])
              have := h1.mem_iff.1 hr
              rcases List.mem_cons.1 this with e | e
              · subst e; simp
              · simp [e])
            have SF : (cl.take k ++ (⟨A3, l, c3⟩ : RowS) :: cl.drop k).Pairwise le := put_sorted HS.out hk (fun j hj h => HK.out j hj h) (by
              rcases HX.out with e | ⟨hj, e⟩
              · exact .inl e
              · exact .inr ⟨hj, e⟩)
            have PF := put_perm (r := ⟨A3, l, c3⟩) (k := k) HP.out
            rw [← HT.out] at PF
            have LF : (cl.take k ++ (⟨A3, l, c3⟩ : RowS) :: cl.drop k).length = i + 1 := by
              rw [List.length_append, HKL.out, List.length_cons, HDL.out, ← HCI.out]
              omega
            have HQ := Lib.hid (And.intro MF (And.intro SF (And.intro PF (And.intro LF (And.intro O5 hB8)))))
            clear MF SF PF LF O5 hB8 M8
            go_wp2_with fail
            exact ⟨⟨i + 1, _, hlt, HQ.out.2.2.2.1, by go_num, HQ.out.2.2.1, HQ.out.2.1, HQ.out.2.2.2.2.1, HQ.out.1, HQ.out.2.2.2.2.2⟩, by simp [intOf]; omega⟩
          · obtain ⟨i0, hi0, hz0, hz1, hz2⟩ := info_parts row_info
            obtain ⟨j0, hj0, hy0, hy1, hy2⟩ := info_parts val_info
            have HI := Lib.hid (And.intro hi0 (And.intro hz0 (And.intro hz1 hz2)))
            have HJ := Lib.hid (And.intro hj0 (And.intro hy0 (And.intro hy1 hy2)))
            clear hi0 hz0 hz1 hz2 hj0 hy0 hy1 hy2
            replace HO := Lib.hid (HO.out.later hW)
            replace HM := Lib.hid (HM.out.later hW)
            replace HV := Lib.hid (HV.out.later hW)
            replace hB := Later.then hB hW
            replace hcell := (hW.cell (p := ⟨b, off + i, none⟩) hbw).trans hcell
            replace hbw := Nat.lt_of_lt_of_le hbw hW.size
            have hgW : g < W4.heap.size := Nat.lt_of_lt_of_le hg hW.size
            clear b2 hW HCC
            have hlo := lo_run (some ⟨g, 0, none⟩) cl.length c1 k hk
            have HRd := Lib.hid (drop_reads HO.out k hk)
            generalize hA2 : dropA (some ⟨g, 0, none⟩) c1 k = A2 at hlo HRd
            clear hA2
            have hhi := hi_run g cl.length c1 k (by omega)
            have HT2 := Lib.hid (HO.out.take k hk)
            go_upto_region 9 with (first
              | (at_builtin
                 refine wpList_append_any _ rfl (.const (.slice none 0 0)) (.tmp 34) 35 rfl W4.heap.size 29 i0 _ 1 24 Tryd.underlying35 HI.out.1 HI.out.2.1 HI.out.2.2.1 HI.out.2.2.2 rfl (by omega) (.slice none 0 0) 0 [] rfl ⟨by simp, .inl ⟨rfl, rfl⟩⟩ _ A2 (cl.length - k) (c1 - k) ((cl.drop k).flatMap rowCell) rfl HRd.out (row_one _) (by unfold maxLen; omega) (by omega) (Nat.le_refl _) ?_
                 intro v2 w5 o2 g2 _
                 have b5 := later_grown g2
                 have O2 := Lib.hid o2
                 clear o2 g2))
            clear hlo HRd
            have O2' : OwnF rowCell 29 1 w5 W4.heap.size v2 (cl.drop k) := by
              have := O2.out
              unfold OwnF
              simpa using this
            obtain ⟨A6, c6, e6, _⟩ := O2'.reads
            subst e6
            have HD := Lib.hid O2'
            clear O2 O2'
            have HT5 := Lib.hid (HT2.out.later b5)
            have HM5 := Lib.hid (HM.out.later b5)
            have RV5 := Lib.hid (HV.out.later b5).reads
            have hB5 := Later.then hB b5
            have hs5 := b5.size
            have hkl : (cl.take k).length = k := by simp; omega
            have hdl : (cl.drop k).length = cl.length - k := by simp
            have HKL := Lib.hid hkl
            have HDL := Lib.hid hdl
            clear hkl hdl HT2 HV HM HO
            replace hcell := (b5.cell (p := ⟨b, off + i, none⟩) hbw).trans hcell
            go_region_law (first
              | (refine step_append_any _ rfl (.const (.slice none 0 0)) (.tmp 42) 29 rfl w5.heap.size 23 j0 _ 3 32 Tryd.underlying29 HJ.out.1 HJ.out.2.1 HJ.out.2.2.1 HJ.out.2.2.2 rfl (by omega) (.slice none 0 0) 0 [] rfl ⟨by simp, .inl ⟨rfl, rfl⟩⟩ w5.heap.size rA l.length rc (l.flatMap valCells) (by simp [Act.eval]) (RV5.out.drewN 1) (val_one l) (by unfold maxLen; omega) (by omega) (Nat.le_refl _) ?_
                 intro v3 w6 o3 g3 _
                 have b6 : Below w5.heap.size w5 w6 := Below.trans (Later.drew w5) (later_grown g3)
                 have O3 : OwnF valCells 23 3 w6 w5.heap.size v3 l := by
                   unfold OwnF
                   simpa using o3
                 obtain ⟨A3, c3, e3, _⟩ := O3.reads
                 subst e3
                 have T6 := (HT5.out.later b6).later (later_new w6 (.cells #[.slice A3 l.length c3] 29))
                 have D6 := (HD.out.later b6).later (later_new w6 (.cells #[.slice A3 l.length c3] 29))
                 have M6 : Mine (w6.alloc (.cells #[.slice A3 l.length c3] 29)) w.heap.size (cl ++ [⟨A3, l, c3⟩]) := by
                   intro r hr
                   rcases List.mem_append.1 hr with hr | hr
                   · exact ((HM5.out r hr).later b6).later (later_new w6 _)
                   · simp at hr
                     subst hr
                     exact (O3.down hB5.size).later (later_new w6 _)
                 have hB6 := Later.then (Later.then hB5 b6) (later_new w6 (.cells #[.slice A3 l.length c3] 29))
                 have R6 := new_reads w6 (.slice A3 l.length c3)
                 clear o3 g3 O3)
              | (refine step_append_any _ rfl (.tmp 38) (.tmp 44) 35 rfl w.heap.size 29 i0 _ 1 24 Tryd.underlying35 HI.out.1 HI.out.2.1 HI.out.2.2.1 HI.out.2.2.2 rfl (by omega) (.slice (some ⟨g, 0, none⟩) k c1) (cl.take k).length ((cl.take k).flatMap rowCell) (by simp [Act.eval]) T6 (w6.heap.size + 1) (some ⟨w6.heap.size, 0, none⟩) 1 1 [.slice A3 l.length c3] (by simp [Act.eval]) R6 (by simp [Value.oneCell']) (by rw [HKL.out]; unfold maxLen; omega) (by rw [HKL.out]; omega) hB6.size ?_
                 intro v4 w7 o4 g4 _
                 have O4 : OwnF rowCell 29 1 w7 w.heap.size v4 (cl.take k ++ [⟨A3, l, c3⟩]) := by
                   unfold OwnF
                   rw [List.length_append, List.flatMap_append]
                   exact o4
                 have D7 := D6.keep (w' := w7) fun q hq => g4.block q (D6.lt hq).1 (fun e => by have h9 := (D6.lt hq).2.1; have e9 : some q = some g := e; injection e9 with e9; rw [e9] at h9; exact absurd hgW (Nat.not_lt.2 h9))
                 have R7 := own_reads D7
                 rw [HDL.out] at R7
                 have M7 := M6.grown T6 g4
                 have hB7 := hB6.trans (below_own T6 g4 hB6.size)
                 clear o4 g4 D6 D7 T6 M6 R6)
              | (refine step_append_any _ rfl (.tmp 45) (.tmp 46) 35 rfl w.heap.size 29 i0 _ 1 24 Tryd.underlying35 HI.out.1 HI.out.2.1 HI.out.2.2.1 HI.out.2.2.2 rfl (by omega) v4 (cl.take k ++ [(⟨A3, l, c3⟩ : RowS)]).length ((cl.take k ++ [(⟨A3, l, c3⟩ : RowS)]).flatMap rowCell) (by simp [Act.eval]) O4 w7.heap.size A6 (cl.length - k) c6 ((cl.drop k).flatMap rowCell) (by simp [Act.eval]) R7 (row_one _) (by rw [List.length_append, HKL.out]; simp; unfold maxLen; omega) (by rw [List.length_append, HKL.out]; simp; omega) hB7.size ?_
                 intro v5 w8 o5 g5 _
                 have O5 : OwnF rowCell 29 1 w8 w.heap.size v5 (cl.take k ++ ⟨A3, l, c3⟩ :: cl.drop k) := by
                   have e : cl.take k ++ (⟨A3, l, c3⟩ : RowS) :: cl.drop k = (cl.take k ++ [⟨A3, l, c3⟩]) ++ cl.drop k := by simp
                   rw [e]
                   unfold OwnF
                   rw [List.length_append, List.flatMap_append, HDL.out]
                   exact o5
                 have M8 := M7.grown O4 g5
                 have hB8 := hB7.trans (below_own O4 g5 hB7.size)
                 clear o5 g5 O4 R7 M7))
            have MF : Mine w8 w.heap.size (cl.take k ++ ⟨A3, l, c3⟩ :: cl.drop k) := fun r hr => M8 r (by
              have h1 : (cl.take k ++ (⟨A3, l, c3⟩ : RowS) :: cl.drop k).Perm (⟨A3, l, c3⟩ :: cl) := (List.perm_middle).trans (by rw [List.take_append_drop])
              have := h1.mem_iff.1 hr
              rcases List.mem_cons.1 this with e | e
              · subst e; simp
              · simp [e])
            have SF : (cl.take k ++ (⟨A3, l, c3⟩ : RowS) :: cl.drop k).Pairwise le := put_sorted HS.out hk (fun j hj h => HK.out j hj h) (by
              rcases HX.out with e | ⟨hj, e⟩
              · exact .inl e
              · exact .inr ⟨hj, e⟩)
            have PF := put_perm (r := ⟨A3, l, c3⟩) (k := k) HP.out
            rw [← HT.out] at PF
            have LF : (cl.take k ++ (⟨A3, l, c3⟩ : RowS) :: cl.drop k).length = i + 1 := by
              rw [List.length_append, HKL.out, List.length_cons, HDL.out, ← HCI.out]
              omega
            have HQ := Lib.hid (And.intro MF (And.intro SF (And.intro PF (And.intro LF (And.intro O5 hB8)))))
            clear MF SF PF LF O5 hB8 M8
            go_wp2_with fail
            exact ⟨⟨i + 1, _, hlt, HQ.out.2.2.2.1, by go_num, HQ.out.2.2.1, HQ.out.2.1, HQ.out.2.2.2.2.1, HQ.out.1, HQ.out.2.2.2.2.2⟩, by simp [intOf]; omega⟩
    · have hie : i = rs.length := by omega
      subst hie
      obtain ⟨A1, c1, e1, _⟩ := HO.out.reads
      subst e1
      go_wp2_with fail
      go_ret
      refine ⟨A1, c1, cl, rfl, by have := HP.out; rwa [List.take_length] at this, HS.out, ?_, ⟨HM.out, own_lies HO.out⟩, hB⟩
      rcases HO.out.2 with ⟨h1, h2⟩ | ⟨g', cap', cur, h1, hb, hg, hn, hm2, hsz, ht⟩
      · exact .inl (List.eq_nil_of_length_eq_zero h2)
      · injection h1 with h1
        subst h1
        have hgl : g' < _ := Blk.lt (show Blk _ g' 29 cur from hg)
        refine .inr ⟨g', 0, rfl, hgl, fun j r hr => ⟨?_, ?_⟩⟩
        · obtain ⟨hj, rfl⟩ := List.getElem?_eq_some_iff.1 hr
          have e := congrArg (fun l => l[j]?) ht
          rw [row_flat] at e
          simp only [List.getElem?_take, List.getElem?_map] at e
          rw [if_pos (by omega), List.getElem?_eq_getElem hj] at e
          rw [Nat.zero_add, (show Blk _ g' 29 cur from hg).cell j]
          show cur[j]? = some cl[j].v
          simpa using e
        · obtain ⟨A2, c2, e2, e3, _⟩ := rv_own (HM.out r (List.mem_of_getElem? hr))
          unfold RowS.v at e2
          injection e2 with e2
          subst e2
          exact e3
end Go.Proofs.YtekedkbjnedhgaaDoor
