/- ValueSorts: the walk. Printed by gen_sorts.py. -/
import Derived.Test.YtekedkbjnedhgaaDoorSorts1
namespace Go.Proofs.YtekedkbjnedhgaaDoor
open Go.ChangeShapes Go.WideShapes Go.ChangeAt Go.RowKit
set_option linter.unusedVariables false
set_option linter.unusedSimpArgs false
set_option maxRecDepth 100000

theorem RR.more {w : World} {B B' : Nat} {A : Option Addr} {rs : List RowS} (h : RR w B A rs) (hB : B ≤ B') : RR w B' A rs := by
  rcases h with h | ⟨b, off, h1, h2, h3⟩
  · exact .inl h
  · exact .inr ⟨b, off, h1, by omega, fun i x hx => ⟨(h3 i x hx).1, (h3 i x hx).2.more hB⟩⟩
theorem RR.later {w w' : World} {A : Option Addr} {rs : List RowS} (h : RR w w.heap.size A rs) (hb : Below w.heap.size w w') : RR w' w'.heap.size A rs := (h.below hb).more hb.size
/-- rows i of one, j of another: the cells, the comparison -/
theorem RR.cmp {w : World} {A B : Option Addr} {rs ss : List RowS} (h : RR w w.heap.size A rs) (k : RR w w.heap.size B ss) (i j : Nat) (hi : i < rs.length) (hj : j < ss.length) (hr : rs[i].l.length ≤ 1000) (hs : ss[j].l.length ≤ 1000) {W : World} (hW : Below w.heap.size w W) :
    Calls Tryd.prog 16 #[.slice rs[i].A rs[i].l.length rs[i].c, .slice ss[j].A ss[j].l.length ss[j].c] W fun e w' => e = .returned (.int .i64 (rcmp rs[i].l ss[j].l)) ∧ Below W.heap.size W w' := by
  obtain ⟨_, _, _, _, _, h2⟩ := (h.later hW).at_ hi
  obtain ⟨_, _, _, _, _, k2⟩ := (k.later hW).at_ hj
  exact rows_any _ _ _ _ _ _ W h2 k2 hr hs

set_option maxHeartbeats 16000000 in
theorem valueSorts_any (A : Option Addr) (c : Nat) (rs : List RowS) (w : World) (h : RR w w.heap.size A rs) (hm : rs.length ≤ 140737488355328) (hl : ∀ r ∈ rs, r.l.length ≤ 140737488355328) (hE : Env w) :
    Calls Tryd.prog 7 #[.slice A rs.length c] w fun e w' => e = .returned (.bool true) ∧ Below w.heap.size w w' := by
  have HR := Lib.hid h
  have HE := Lib.hid hE
  have HL := Lib.hid hl
  clear h hE hl
  go_enter Tryd.func7, Tryd.ntmps7
  go_wp2_with fail
  refine (great_any A c rs w HR.out (by omega) (fun r hr => by have := HL.out r hr; omega)).mono ?_
  rintro e_ w1 ⟨rfl, rfl⟩
  cases hg : greatL rs
  · have hm2 : rs.length ≤ 200 := by
      unfold greatL at hg
      simp only [Bool.or_eq_false_iff, decide_eq_false_iff_not] at hg
      omega
    have HL2 := Lib.hid (show ∀ r ∈ rs, r.l.length ≤ 1000 from fun r hr => by have := (not_great hg hr).1; omega)
    clear hg HL hm
    go_wp2_with fail
    refine (sort_any A c rs _ HR.out (by omega) HL2.out).mono ?_
    rintro e_ w2 ⟨A2, c2, out, rfl, hp, hso, hRR, _, hB⟩
    have HP := Lib.hid hp
    have HSO := Lib.hid hso
    have hlen : out.length = rs.length := by simpa using hp.length_eq
    have HLE := Lib.hid hlen
    have HL3 := Lib.hid (show ∀ r ∈ out, r.l.length ≤ 1000 from fun r hr => by
      have h1 : r.l ∈ rs.map (·.l) := hp.mem_iff.1 (List.mem_map.2 ⟨r, hr, rfl⟩)
      obtain ⟨r', h2, h3⟩ := List.mem_map.1 h1
      rw [← h3]; exact HL2.out r' h2)
    have HRO := Lib.hid hRR
    replace HR := Lib.hid (HR.out.later hB)
    replace HE := Lib.hid (HE.out.later hB)
    have hb0 := hB
    clear hp hso hRR
    rw [hlen]
    have hlo : out.length ≤ 200 := by omega
    clear hlen
    have hB := Below.refl w2.heap.size w2
    go_wp2_with fail
    go_loopw [4] (fun iv wr => ∃ i : Nat, i ≤ rs.length ∧ iv = .int .i64 i ∧ Below w2.heap.size w2 wr) (fun iv _ => rs.length - (intOf iv).toNat)
    case atStart => exact ⟨0, Nat.zero_le _, rfl, Below.refl _ _⟩
    case round =>
      clear hB
      obtain ⟨i, hi, rfl, hB⟩ := hrel
      by_cases hlt : i < rs.length
      · have hio : i < out.length := by rw [HLE.out]; exact hlt
        obtain ⟨b1, o1, rfl, _, _, _⟩ := (HR.out.later hB).at_ hlt
        obtain ⟨b2, o2, rfl, _, _, _⟩ := (HRO.out.later hB).at_ hio
        go_wp2_with fail
        go_loopw [5, 6, 7] (fun nv mv kv wr2 => ∃ k : Nat, k ≤ rs.length ∧ nv = .int .i64 (cnt (rs.take k) out[i].l) ∧ mv = .int .i64 (cnt (out.take k) out[i].l) ∧ kv = .int .i64 k ∧ Below w2.heap.size w2 wr2) (fun _ _ kv _ => rs.length - (intOf kv).toNat)
        case atStart => exact ⟨0, Nat.zero_le _, rfl, rfl, rfl, hB⟩
        case round =>
          clear hB
          obtain ⟨k, hk, rfl, rfl, rfl, hB⟩ := hrel
          have bn : cnt (rs.take k) out[i].l ≤ 200 := by
            have := cnt_le (rs.take k) out[i].l
            simp at this
            omega
          have bm : cnt (out.take k) out[i].l ≤ 200 := by
            have := cnt_le (out.take k) out[i].l
            simp at this
            omega
          by_cases hlk : k < rs.length
          · have hko : k < out.length := by rw [HLE.out]; exact hlk
            have HS1 := Lib.hid (cnt_step rs out[i].l k hlk)
            have HS2 := Lib.hid (cnt_step out out[i].l k hko)
            obtain ⟨b1', o1', e1, l1, c1, _⟩ := (HR.out.later hB).at_ hlk
            obtain ⟨b2', o2', e2, l2, c2_, _⟩ := (HRO.out.later hB).at_ hio
            obtain ⟨b3, o3, e3, l3, c3, _⟩ := (HRO.out.later hB).at_ hko
            injection e1 with e1
            injection e1 with e1a e1b _
            injection e2 with e2
            injection e2 with e2a e2b _
            injection e3 with e3
            injection e3 with e4 e5 _
            subst e1a e1b e2a e2b e4 e5
            have k1 := fun q : Ext wr.heap.size wr => (q.h.cell (p := ⟨b1, o1 + k, none⟩) l1).trans c1
            have k2 := fun q : Ext wr.heap.size wr => (q.h.cell (p := ⟨b2, o2 + i, none⟩) l2).trans c2_
            have k3 := fun q : Ext wr.heap.size wr => (q.h.cell (p := ⟨b2, o2 + k, none⟩) l3).trans c3
            have hc1 := fun q : Ext wr.heap.size wr => RR.cmp (HR.out.later hB) (HRO.out.later hB) k i hlk hio (HL2.out _ (List.getElem_mem hlk)) (HL3.out _ (List.getElem_mem hio)) q.h
            have hc2 := fun q : Ext wr.heap.size wr => RR.cmp (HRO.out.later hB) (HRO.out.later hB) k i hko hio (HL3.out _ (List.getElem_mem hko)) (HL3.out _ (List.getElem_mem hio)) q.h
            clear c1 c2_ c3 l1 l2 l3
            by_cases z1 : rcmp rs[k].l out[i].l = 0
            · have t1 : (rcmp rs[k].l out[i].l == 0) = true := by simpa using z1
              have HN1 := Lib.hid (HS1.out.trans (by rw [if_pos z1]))
              clear z1
              go_upto_region 13 with fail
              refine region_cut 10 wr.heap.size wr (Below.refl _ _) (by kernel_rfl) (by kernel_rfl) (by kernel_rfl) (by kernel_rfl) ?_
              simp only [List.append, List.take_succ_cons, List.take_zero, List.drop_succ_cons, List.drop_zero]
              repeat (go_big_quiet_step (fail))
              go_big_quiet_step ((go_at_call 16; exact calls_later (Nat.le_refl _) (hc1 _)))
              repeat (go_big_quiet_step (fail))
              refine wpQuiet_nil ?_
              rintro W4 ⟨x9, hx9⟩
              have hW := x9.h
              rw [← hx9] at hW
              clear hx9 x9
              go_upto_region 15 with fail
              by_cases z2 : rcmp out[k].l out[i].l = 0
              · have t2 : (rcmp out[k].l out[i].l == 0) = true := by simpa using z2
                have HN2 := Lib.hid (HS2.out.trans (by rw [if_pos z2]))
                clear z2
                refine region_cut 10 wr.heap.size wr (hW) (by kernel_rfl) (by kernel_rfl) (by kernel_rfl) (by kernel_rfl) ?_
                simp only [List.append, List.take_succ_cons, List.take_zero, List.drop_succ_cons, List.drop_zero]
                repeat (go_big_quiet_step (fail))
                go_big_quiet_step ((go_at_call 16; exact calls_later (Nat.le_refl _) (hc2 _)))
                repeat (go_big_quiet_step (fail))
                refine wpQuiet_nil ?_
                rintro W5 ⟨x9, hx9⟩
                have hW5 := x9.h
                rw [← hx9] at hW5
                clear hx9 x9
                go_wp2_with fail
                go_roundw
                case rel => exact ⟨k + 1, hlk, by rw [HN1.out]; go_num, by rw [HN2.out]; go_num, by go_num, Later.then hB hW5⟩
                case measure => simp [intOf]; omega
              · have t2 : (rcmp out[k].l out[i].l == 0) = false := by simpa using z2
                have HN2 := Lib.hid (HS2.out.trans (by rw [if_neg z2]))
                clear z2
                refine region_cut 10 wr.heap.size wr (hW) (by kernel_rfl) (by kernel_rfl) (by kernel_rfl) (by kernel_rfl) ?_
                simp only [List.append, List.take_succ_cons, List.take_zero, List.drop_succ_cons, List.drop_zero]
                repeat (go_big_quiet_step (fail))
                go_big_quiet_step ((go_at_call 16; exact calls_later (Nat.le_refl _) (hc2 _)))
                repeat (go_big_quiet_step (fail))
                refine wpQuiet_nil ?_
                rintro W5 ⟨x9, hx9⟩
                have hW5 := x9.h
                rw [← hx9] at hW5
                clear hx9 x9
                go_wp2_with fail
                go_roundw
                case rel => exact ⟨k + 1, hlk, by rw [HN1.out]; go_num, by rw [HN2.out]; go_num, by go_num, Later.then hB hW5⟩
                case measure => simp [intOf]; omega
            · have t1 : (rcmp rs[k].l out[i].l == 0) = false := by simpa using z1
              have HN1 := Lib.hid (HS1.out.trans (by rw [if_neg z1]))
              clear z1
              go_upto_region 13 with fail
              refine region_cut 10 wr.heap.size wr (Below.refl _ _) (by kernel_rfl) (by kernel_rfl) (by kernel_rfl) (by kernel_rfl) ?_
              simp only [List.append, List.take_succ_cons, List.take_zero, List.drop_succ_cons, List.drop_zero]
              repeat (go_big_quiet_step (fail))
              go_big_quiet_step ((go_at_call 16; exact calls_later (Nat.le_refl _) (hc1 _)))
              repeat (go_big_quiet_step (fail))
              refine wpQuiet_nil ?_
              rintro W4 ⟨x9, hx9⟩
              have hW := x9.h
              rw [← hx9] at hW
              clear hx9 x9
              go_upto_region 15 with fail
              by_cases z2 : rcmp out[k].l out[i].l = 0
              · have t2 : (rcmp out[k].l out[i].l == 0) = true := by simpa using z2
                have HN2 := Lib.hid (HS2.out.trans (by rw [if_pos z2]))
                clear z2
                refine region_cut 10 wr.heap.size wr (hW) (by kernel_rfl) (by kernel_rfl) (by kernel_rfl) (by kernel_rfl) ?_
                simp only [List.append, List.take_succ_cons, List.take_zero, List.drop_succ_cons, List.drop_zero]
                repeat (go_big_quiet_step (fail))
                go_big_quiet_step ((go_at_call 16; exact calls_later (Nat.le_refl _) (hc2 _)))
                repeat (go_big_quiet_step (fail))
                refine wpQuiet_nil ?_
                rintro W5 ⟨x9, hx9⟩
                have hW5 := x9.h
                rw [← hx9] at hW5
                clear hx9 x9
                go_wp2_with fail
                go_roundw
                case rel => exact ⟨k + 1, hlk, by rw [HN1.out]; go_num, by rw [HN2.out]; go_num, by go_num, Later.then hB hW5⟩
                case measure => simp [intOf]; omega
              · have t2 : (rcmp out[k].l out[i].l == 0) = false := by simpa using z2
                have HN2 := Lib.hid (HS2.out.trans (by rw [if_neg z2]))
                clear z2
                refine region_cut 10 wr.heap.size wr (hW) (by kernel_rfl) (by kernel_rfl) (by kernel_rfl) (by kernel_rfl) ?_
                simp only [List.append, List.take_succ_cons, List.take_zero, List.drop_succ_cons, List.drop_zero]
                repeat (go_big_quiet_step (fail))
                go_big_quiet_step ((go_at_call 16; exact calls_later (Nat.le_refl _) (hc2 _)))
                repeat (go_big_quiet_step (fail))
                refine wpQuiet_nil ?_
                rintro W5 ⟨x9, hx9⟩
                have hW5 := x9.h
                rw [← hx9] at hW5
                clear hx9 x9
                go_wp2_with fail
                go_roundw
                case rel => exact ⟨k + 1, hlk, by rw [HN1.out]; go_num, by rw [HN2.out]; go_num, by go_num, Later.then hB hW5⟩
                case measure => simp [intOf]; omega
          · have hke : k = rs.length := by omega
            subst hke
            have hN := cnt_perm HP.out out[i].l
            have hN0 := cnt_pos i hio
            rw [List.take_length] at bn
            have hto : out.take rs.length = out := List.take_of_length_le (by rw [HLE.out]; omega)
            simp only [List.take_length, hto, hN]
            rw [hN] at hN0
            clear hN bm hto
            generalize hNd : cnt rs out[i].l = N at *
            clear hNd
            have t1 : ((N : Int) == 0) = false := by simp; omega
            by_cases hi0 : i = 0
            · subst hi0
              go_upto_region 17 with fail
              refine region_cut 24 wr.heap.size wr (Below.refl _ _) (by kernel_rfl) (by kernel_rfl) (by kernel_rfl) (by kernel_rfl) ?_
              simp only [List.append, List.take_succ_cons, List.take_zero, List.drop_succ_cons, List.drop_zero]
              repeat (go_big_quiet_step (fail))
              refine wpQuiet_nil ?_
              rintro W4 ⟨x9, hx9⟩
              have hW := x9.h
              rw [← hx9] at hW
              clear hx9 x9
              go_wp2_with fail
              go_roundw
              case rel => exact ⟨1, hlt, by go_num, Later.then hB hW⟩
              case measure => simp [intOf]; omega
            · obtain ⟨ip, rfl⟩ : ∃ q, i = q + 1 := ⟨i - 1, by omega⟩
              have hipo : ip < out.length := by omega
              obtain ⟨b2', o2', e2, l2, c2_, _⟩ := (HRO.out.later hB).at_ hio
              obtain ⟨b3, o3, e3, l3, c3, _⟩ := (HRO.out.later hB).at_ hipo
              injection e2 with e2
              injection e2 with e2a e2b _
              injection e3 with e3
              injection e3 with e4 e5 _
              subst e2a e2b e4 e5
              have k2 := fun q : Ext wr.heap.size wr => (q.h.cell (p := ⟨b2, o2 + (ip + 1), none⟩) l2).trans c2_
              have k3 := fun q : Ext wr.heap.size wr => (q.h.cell (p := ⟨b2, o2 + ip, none⟩) l3).trans c3
              have hc1 := fun q : Ext wr.heap.size wr => RR.cmp (HRO.out.later hB) (HRO.out.later hB) ip (ip + 1) hipo hio (HL3.out _ (List.getElem_mem hipo)) (HL3.out _ (List.getElem_mem hio)) q.h
              have t2 := decide_eq_false (show ¬ 0 < rcmp out[ip].l out[ip + 1].l from by
                have := List.pairwise_iff_getElem.1 HSO.out ip (ip + 1) hipo hio (by omega)
                unfold le at this
                omega)
              have t3 : decide ((0 : Int) < (ip : Int) + 1) = true := decide_eq_true (by omega)
              clear c2_ c3 l2 l3
              go_upto_region 17 with fail
              refine region_cut 24 wr.heap.size wr (Below.refl _ _) (by kernel_rfl) (by kernel_rfl) (by kernel_rfl) (by kernel_rfl) ?_
              simp only [List.append, List.take_succ_cons, List.take_zero, List.drop_succ_cons, List.drop_zero]
              repeat (go_big_quiet_step (fail))
              go_big_quiet_step ((go_at_call 16; exact calls_later (Nat.le_refl _) (hc1 _)))
              repeat (go_big_quiet_step (fail))
              refine wpQuiet_nil ?_
              rintro W4 ⟨x9, hx9⟩
              have hW := x9.h
              rw [← hx9] at hW
              clear hx9 x9
              go_wp2_with fail
              go_roundw
              case rel => exact ⟨ip + 1 + 1, hlt, by go_num, Later.then hB hW⟩
              case measure => simp [intOf]; omega
      · go_wp2_with fail
        have hsl : Value.slice A2 rs.length c2 = Value.slice A2 out.length c2 := by rw [HLE.out]
        refine (hsl ▸ sort_any A2 c2 out _ (HRO.out.later hB) (by omega) HL3.out).mono ?_
        clear hsl
        rintro e_ w5 ⟨A3, c3, out2, rfl, hp2, hso2, hRR2, _, b5⟩
        have heq := perm_sorted (map_pairwise hso2) (map_pairwise HSO.out) hp2
        have hl2 : out2.length = rs.length := by rw [← HLE.out]; simpa using congrArg List.length heq
        have HL4 := Lib.hid (show ∀ r ∈ out2, r.l.length ≤ 1000 from fun r hr => by
          have h1 : r.l ∈ out.map (·.l) := hp2.mem_iff.1 (List.mem_map.2 ⟨r, hr, rfl⟩)
          obtain ⟨r', h2, h3⟩ := List.mem_map.1 h1
          rw [← h3]; exact HL3.out r' h2)
        have HEQ := Lib.hid (show ∀ j (h1 : j < out.length) (h2 : j < out2.length), out2[j].l = out[j].l from fun j h1 h2 => by
          have := congrArg (fun l => l[j]?) heq
          simp only [List.getElem?_map, List.getElem?_eq_getElem h1, List.getElem?_eq_getElem h2, Option.map_some, Option.some.injEq] at this
          exact this)
        rw [hl2]
        have HL2' := Lib.hid hl2
        have HR2 := Lib.hid hRR2
        replace HRO := Lib.hid ((HRO.out.later hB).later b5)
        replace HE := Lib.hid ((HE.out.later hB).later b5)
        have hB0 := Later.then hb0 (Later.then hB b5)
        clear hp2 hso2 hRR2 heq hl2 hb0 hB b5
        go_wp2_with fail
        go_loopw [9] (fun iv wr2 => ∃ j : Nat, j ≤ rs.length ∧ iv = .int .i64 j ∧ Below w5.heap.size w5 wr2) (fun iv _ => rs.length - (intOf iv).toNat)
        case atStart => exact ⟨0, Nat.zero_le _, rfl, Below.refl _ _⟩
        case round =>
          obtain ⟨j, hj, rfl, hB⟩ := hrel
          by_cases hlj : j < rs.length
          · have hjo : j < out.length := by rw [HLE.out]; exact hlj
            have hjo2 : j < out2.length := by rw [HL2'.out]; exact hlj
            obtain ⟨b1, o1, rfl, l1, c1, _⟩ := (HRO.out.later hB).at_ hjo
            obtain ⟨b2, o2, rfl, l2, c2_, _⟩ := (HR2.out.later hB).at_ hjo2
            have k1 := fun q : Ext wr.heap.size wr => (q.h.cell (p := ⟨b1, o1 + j, none⟩) l1).trans c1
            have k2 := fun q : Ext wr.heap.size wr => (q.h.cell (p := ⟨b2, o2 + j, none⟩) l2).trans c2_
            have hc1 := fun q : Ext wr.heap.size wr => RR.cmp (HRO.out.later hB) (HR2.out.later hB) j j hjo hjo2 (HL3.out _ (List.getElem_mem hjo)) (HL4.out _ (List.getElem_mem hjo2)) q.h
            have t1 : (rcmp out[j].l out2[j].l != 0) = false := by rw [HEQ.out j hjo hjo2, rcmp_refl]; rfl
            clear c1 c2_ l1 l2
            go_upto_region 23 with fail
            refine region_cut 10 wr.heap.size wr (Below.refl _ _) (by kernel_rfl) (by kernel_rfl) (by kernel_rfl) (by kernel_rfl) ?_
            simp only [List.append, List.take_succ_cons, List.take_zero, List.drop_succ_cons, List.drop_zero]
            repeat (go_big_quiet_step (fail))
            go_big_quiet_step ((go_at_call 16; exact calls_later (Nat.le_refl _) (hc1 _)))
            repeat (go_big_quiet_step (fail))
            refine wpQuiet_nil ?_
            rintro W4 ⟨x9, hx9⟩
            have hW := x9.h
            rw [← hx9] at hW
            clear hx9 x9
            go_wp2_with fail
            go_roundw
            case rel => exact ⟨j + 1, hlj, by go_num, Later.then hB hW⟩
            case measure => simp [intOf]; omega
          · go_wp2_with fail
            refine (wakes_any _ (HE.out.later hB)).mono ?_
            rintro e_ w9 ⟨rfl, b9⟩
            go_wp2_with fail
            go_ret
            exact ⟨rfl, Later.then hB0 (Later.then hB b9)⟩
  · clear hg
    go_wp2_with fail
    refine (wakes_any _ HE.out).mono ?_
    rintro e_ w9 ⟨rfl, b9⟩
    go_wp2_with fail
    go_ret
    exact ⟨rfl, b9⟩
end Go.Proofs.YtekedkbjnedhgaaDoor
