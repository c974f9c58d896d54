/- The document's Rows, Same, All, Line. -/
import Derived.Test.YtekedkbjnedhgaaDoorSorts2
import Derived.Test.YtekedkbjnedhgaaDoorWordR
namespace Go.Proofs.YtekedkbjnedhgaaDoor
open Go.ChangeShapes Go.WideShapes Go.ChangeAt Go.RowKit
set_option linter.unusedVariables false
set_option linter.unusedSimpArgs false
set_option maxRecDepth 100000

set_option maxHeartbeats 4000000 in
theorem rowsR_any (A : Option Addr) (c : Nat) (l : List Val) (A' : Option Addr) (c' : Nat) (l' : List Val) (w : World) (h : RV w w.heap.size A l) (h' : RV w w.heap.size A' l') (hm : l.length ≤ 1000) (hm' : l'.length ≤ 1000) :
    Calls Tryd.prog 18 #[.slice A l.length c, .slice A' l'.length c'] w fun e w' => e = .returned (.int .i64 (rcmp l l')) ∧ Below w.heap.size w w' := by
  have HR := Lib.hid h
  have HR' := Lib.hid h'
  clear h h'
  go_enter Tryd.func18, Tryd.ntmps18
  go_wp2_with fail
  go_loopw [5] (fun i wr => ∃ k : Nat, k ≤ l.length ∧ k ≤ l'.length ∧ i = .int .i64 k ∧ rcmp (l.drop k) (l'.drop k) = rcmp l l' ∧ Below w.heap.size w wr) (fun i _ => l.length - (intOf i).toNat)
  case atStart => exact ⟨0, Nat.zero_le _, Nat.zero_le _, rfl, rfl, Below.refl _ _⟩
  case round =>
    obtain ⟨k, hk, hk', rfl, hd, hB⟩ := hrel
    have HD := Lib.hid hd
    clear hd
    by_cases hlt : k < l.length
    · by_cases hlt' : k < l'.length
      · obtain ⟨b, off, rfl, hb, c0, c1, c2⟩ := (HR.out.later hB).at_ hlt
        obtain ⟨b', off', rfl, hb', d0, d1, d2⟩ := (HR'.out.later hB).at_ hlt'
        have HS := Lib.hid (rcmp_drop l l' k hlt hlt')
        generalize l[k] = v at *
        generalize l'[k] = v' at *
        have x0 := fun q : Ext wr.heap.size wr => (q.h.cell (p := ⟨b, off + k * 3, none⟩) hb).trans c0
        have x1 := fun q : Ext wr.heap.size wr => (q.h.cell (p := ⟨b, off + k * 3 + 1, none⟩) hb).trans c1
        have x2 := fun q : Ext wr.heap.size wr => (q.h.cell (p := ⟨b, off + k * 3 + 2, none⟩) hb).trans c2
        have y0 := fun q : Ext wr.heap.size wr => (q.h.cell (p := ⟨b', off' + k * 3, none⟩) hb').trans d0
        have y1 := fun q : Ext wr.heap.size wr => (q.h.cell (p := ⟨b', off' + k * 3 + 1, none⟩) hb').trans d1
        have y2 := fun q : Ext wr.heap.size wr => (q.h.cell (p := ⟨b', off' + k * 3 + 2, none⟩) hb').trans d2
        clear c0 c1 c2 d0 d1 d2
        go_upto_region 4 with fail
        refine region_cut 9 wr.heap.size wr (Below.refl _ _) (by kernel_rfl) (by kernel_rfl) (by kernel_rfl) (by kernel_rfl) ?_
        simp only [List.append, List.take_succ_cons, List.take_zero, List.drop_succ_cons, List.drop_zero]
        repeat (go_big_quiet_step (fail))
        go_big_quiet_step ((go_at_call 12; exact calls_later (Nat.le_refl _) (compareR_any v v' _)))
        repeat (go_big_quiet_step (fail))
        refine wpQuiet_nil ?_
        rintro W4 ⟨x9, hx9⟩
        have hW := x9.h
        rw [← hx9] at hW
        clear hx9 x9 x0 x1 x2 y0 y1 y2
        replace hB := Later.then hB hW
        clear hW
        by_cases h0 : vcmp v v' = 0
        · have t0 : (vcmp v v' != 0) = false := by simpa using h0
          have HD' := Lib.hid ((HS.out.trans (if_pos h0)).symm.trans HD.out)
          clear h0
          go_wp2_with fail
          go_roundw
          case rel => exact ⟨k + 1, hlt, hlt', by go_num, HD'.out, hB⟩
          case measure => simp [intOf]; omega
        · have t0 : (vcmp v v' != 0) = true := by simpa using h0
          have HD' := Lib.hid ((HS.out.trans (if_neg h0)).symm.trans HD.out)
          clear h0
          go_wp2_with fail
          go_ret
          exact ⟨by rw [HD'.out]; rfl, hB⟩
      · have HS := Lib.hid (rcmp_more l l' k hlt (by omega))
        have n1 : ¬ l.length < l'.length := by omega
        have n2 : l'.length < l.length := by omega
        go_wp2_with fail
        go_ret
        exact ⟨by rw [← HD.out, HS.out]; rfl, hB⟩
    · by_cases hlt' : k < l'.length
      · have HS := Lib.hid (rcmp_less l l' k (by omega) hlt')
        have n1 : l.length < l'.length := by omega
        go_wp2_with fail
        go_ret
        exact ⟨by rw [← HD.out, HS.out]; rfl, hB⟩
      · have HS := Lib.hid (rcmp_end l l' k (by omega) (by omega))
        have n1 : ¬ l.length < l'.length := by omega
        have n2 : ¬ l'.length < l.length := by omega
        go_wp2_with fail
        go_ret
        exact ⟨by rw [← HD.out, HS.out]; rfl, hB⟩
theorem same_any (A : Option Addr) (c : Nat) (l : List Val) (A' : Option Addr) (c' : Nat) (l' : List Val) (w : World) (h : RV w w.heap.size A l) (h' : RV w w.heap.size A' l') (hm : l.length ≤ 1000) (hm' : l'.length ≤ 1000) :
    Calls Tryd.prog 35 #[.slice A l.length c, .slice A' l'.length c'] w fun e w' => e = .returned (.bool (rcmp l l' == 0)) ∧ Below w.heap.size w w' := by
  have HL := rowsR_any A c l A' c' l' w h h' hm hm'
  clear h h'
  go_enter Tryd.func35, Tryd.ntmps35
  go_wp2_with fail
  refine HL.mono ?_
  rintro e w1 ⟨rfl, b1⟩
  go_wp2_with fail
  go_ret
  exact ⟨rfl, b1⟩

set_option maxHeartbeats 4000000 in
theorem all_yes (A : Option Addr) (c : Nat) (rs : List RowS) (A' : Option Addr) (c' : Nat) (ss : List RowS) (w : World) (h : RR w w.heap.size A rs) (h' : RR w w.heap.size A' ss) (he : rs.map (·.l) = ss.map (·.l)) (hm : rs.length ≤ 1000) (hl : ∀ r ∈ rs, r.l.length ≤ 1000) :
    Calls Tryd.prog 21 #[.slice A rs.length c, .slice A' ss.length c'] w fun e w' => e = .returned (.bool true) ∧ Below w.heap.size w w' := by
  have hlen : ss.length = rs.length := by simpa using (congrArg List.length he).symm
  have HEQ := Lib.hid (show ∀ j (h1 : j < rs.length) (h2 : j < ss.length), ss[j].l = rs[j].l from fun j h1 h2 => by
    have := congrArg (fun l => l[j]?) he
    simp only [List.getElem?_map, List.getElem?_eq_getElem h1, List.getElem?_eq_getElem h2, Option.map_some, Option.some.injEq] at this
    exact this.symm)
  have HLE := Lib.hid hlen
  have HR := Lib.hid h
  have HR' := Lib.hid h'
  have HL := Lib.hid hl
  rw [hlen]
  clear he h h' hl hlen
  go_enter Tryd.func21, Tryd.ntmps21
  go_wp2_with fail
  go_loopw [5] (fun i wr => ∃ k : Nat, k ≤ rs.length ∧ i = .int .i64 k ∧ Below w.heap.size w wr) (fun i _ => rs.length - (intOf i).toNat)
  case atStart => exact ⟨0, Nat.zero_le _, rfl, Below.refl _ _⟩
  case round =>
    obtain ⟨j, hj, rfl, hB⟩ := hrel
    by_cases hlj : j < rs.length
    · have hjs : j < ss.length := by rw [HLE.out]; exact hlj
      obtain ⟨b1, o1, rfl, l1, c1, r1⟩ := (HR.out.later hB).at_ hlj
      obtain ⟨b2, o2, rfl, l2, c2_, r2⟩ := (HR'.out.later hB).at_ hjs
      have k1 := fun q : Ext wr.heap.size wr => (q.h.cell (p := ⟨b1, o1 + j, none⟩) l1).trans c1
      have k2 := fun q : Ext wr.heap.size wr => (q.h.cell (p := ⟨b2, o2 + j, none⟩) l2).trans c2_
      have hc1 := fun q : Ext wr.heap.size wr => same_any rs[j].A rs[j].c rs[j].l ss[j].A ss[j].c ss[j].l q.w (r1.later q.h) (r2.later q.h) (HL.out _ (List.getElem_mem hlj)) (by rw [HEQ.out j hlj hjs]; exact HL.out _ (List.getElem_mem hlj))
      have t1 : (rcmp rs[j].l ss[j].l == 0) = true := by rw [HEQ.out j hlj hjs, rcmp_refl]; rfl
      clear c1 c2_ l1 l2 r1 r2
      go_upto_region 6 with fail
      refine region_cut 10 wr.heap.size wr (Below.refl _ _) (by kernel_rfl) (by kernel_rfl) (by kernel_rfl) (by kernel_rfl) ?_
      simp only [List.append, List.take_succ_cons, List.take_zero, List.drop_succ_cons, List.drop_zero]
      repeat (go_big_quiet_step (fail))
      go_big_quiet_step ((go_at_call 35; exact calls_later (Nat.le_refl _) (hc1 _)))
      repeat (go_big_quiet_step (fail))
      refine wpQuiet_nil ?_
      rintro W4 ⟨x9, hx9⟩
      have hW := x9.h
      rw [← hx9] at hW
      clear hx9 x9
      go_wp2_with fail
      go_roundw
      case rel => exact ⟨j + 1, hlj, by go_num, Later.then hB hW⟩
      case measure => simp [intOf]; omega
    · go_wp2_with fail
      go_ret
      exact ⟨rfl, hB⟩

theorem line_snoc (l : List Val) (k : Nat) (hk : k < l.length) : lineL (l.take (k + 1)) = (if k = 0 then [] else lineL (l.take k) ++ [44, 32]) ++ wordL l[k] := by
  rw [List.take_add_one, List.getElem?_eq_getElem hk]
  show lineL (l.take k ++ [l[k]]) = _
  by_cases h0 : k = 0
  · subst h0
    simp [lineL, Lib.join, List.intercalate]
  · rw [if_neg h0]
    have hne : l.take k ≠ [] := by
      intro e
      have := congrArg List.length e
      simp at this
      rcases this with h | h
      · exact h0 h
      · subst h; simp at hk
    generalize l.take k = x at *
    generalize l[k] = v
    unfold lineL
    induction x with
    | nil => exact absurd rfl hne
    | cons a x ih =>
      cases x with
      | nil => simp [Lib.join, List.intercalate]
      | cons b x =>
        have := ih (by simp)
        simp only [List.map_cons, List.cons_append, Lib.join, List.intercalate, List.intersperse, List.flatten_cons] at this ⊢
        simp only [List.append_assoc] at this ⊢
        rw [this]
        simp
theorem line_len (l : List Val) (hs : ∀ v ∈ l, v.Small) : (lineL l).length ≤ l.length * 702 := by
  have := join_len [44, 32] rfl 700 (l.map wordL) (fun x hx => by obtain ⟨v, hv, rfl⟩ := List.mem_map.1 hx; exact word_len (hs v hv))
  unfold lineL
  simpa using this
theorem cat_two (s t : List UInt8) : (⟨s.toArray⟩ : ByteArray) ++ ⟨t.toArray⟩ = ⟨(s ++ t).toArray⟩ := by
  apply ByteArray.ext
  simp

set_option maxHeartbeats 4000000 in
theorem lineR_any (A : Option Addr) (c : Nat) (l : List Val) (w : World) (h : RV w w.heap.size A l) (hm : l.length ≤ 1000) (hs : ∀ v ∈ l, v.Small) :
    Calls Tryd.prog 19 #[.slice A l.length c] w (wordPost (lineL l) w) := by
  have HR := Lib.hid h
  have HS := Lib.hid hs
  clear h hs
  go_enter Tryd.func19, Tryd.ntmps19
  go_wp2_with fail
  go_loopw [3, 4] (fun sv i wr => ∃ k : Nat, k ≤ l.length ∧ i = .int .i64 k ∧ sv = .string ⟨(lineL (l.take k)).toArray⟩ ∧ Below w.heap.size w wr) (fun _ i _ => l.length - (intOf i).toNat)
  case atStart => exact ⟨0, Nat.zero_le _, rfl, rfl, Below.refl _ _⟩
  case round =>
    obtain ⟨k, hk, rfl, rfl, hB⟩ := hrel
    by_cases hlt : k < l.length
    · obtain ⟨b, off, rfl, hb, hval⟩ := (HR.out.later hB).at_ hlt
      have HT := Lib.hid (line_snoc l k hlt)
      have hsm := HS.out l[k] (List.getElem_mem hlt)
      have hl1 := line_len (l.take k) (fun v hv => HS.out v (List.mem_of_mem_take hv))
      have hl2 : (l.take k).length = k := by simp; omega
      rw [hl2] at hl1
      have hwl := word_len hsm
      have hL0 : k = 0 → lineL (l.take k) = [] := by rintro rfl; rfl
      clear hl2
      generalize l[k] = v at *
      generalize lineL (l.take k) = L at *
      obtain ⟨c0, c1, c2⟩ := hval
      have bl : L.length ≤ 702000 := by omega
      clear hl1
      by_cases h0 : k = 0
      · have HT2 := Lib.hid (HT.out.trans (by rw [if_pos h0, List.nil_append]))
        have hLe := hL0 h0
        subst hLe
        subst h0
        simp only [Nat.zero_mul, Nat.add_zero] at c0 c1 c2
        clear HT hL0
        have n2 : ¬ 9223372036854775807 < (wordL v).length := by omega
        go_wp2_with fail
        refine (wordR_any v hsm.1 (by have := hsm.2; omega) _).mono ?_
        rintro e_ w3 ⟨rfl, b3⟩
        replace hB := Later.then hB b3
        clear b3 c0 c1 c2
        unfold strOf
        generalize wordL v = Wd at *
        go_wp2_with fail
        refine ⟨⟨1, hlt, rfl, ?_, hB⟩, by simp [intOf]; omega⟩
        rw [show (⟨#[]⟩ : ByteArray) = ⟨([] : List UInt8).toArray⟩ from rfl, cat_two, List.nil_append]
        rw [show lineL (l.take 1) = Wd from HT2.out]
      · have HT2 := Lib.hid (HT.out.trans (by rw [if_neg h0]))
        have t0 : decide ((0 : Int) < (k : Int)) = true := decide_eq_true (by omega)
        have n1 : ¬ 9223372036854775807 < L.length + 2 := by omega
        have n2 : ¬ 9223372036854775807 < L.length + 2 + (wordL v).length := by omega
        clear HT hL0
        go_wp2_with (rw [show (⟨#[44, 32]⟩ : ByteArray) = ⟨([44, 32] : List UInt8).toArray⟩ from rfl, cat_two])
        refine (wordR_any v hsm.1 (by have := hsm.2; omega) _).mono ?_
        rintro e_ w3 ⟨rfl, b3⟩
        replace hB := Later.then hB b3
        clear b3 c0 c1 c2
        unfold strOf
        generalize wordL v = Wd at *
        go_wp2_with fail
        refine ⟨⟨k + 1, hlt, by go_num, by rw [cat_two, HT2.out], hB⟩, by simp [intOf]; omega⟩
    · have hke : k = l.length := by omega
      subst hke
      rw [List.take_length]
      go_wp2_with fail
      go_ret
      exact ⟨rfl, hB⟩
end Go.Proofs.YtekedkbjnedhgaaDoor
