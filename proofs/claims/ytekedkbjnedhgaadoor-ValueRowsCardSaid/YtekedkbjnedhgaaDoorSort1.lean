/- slices.Clone at values; value.Sort. -/
import Derived.Test.YtekedkbjnedhgaaDoorSortT
import Derived.Test.YtekedkbjnedhgaaDoorOrder1
import Derived.Lib.SliceRun
namespace Go.Proofs.YtekedkbjnedhgaaDoor
open Go.ChangeShapes Go.WideShapes Go.ChangeAt Go.RowKit
set_option linter.unusedVariables false
set_option linter.unusedSimpArgs false
set_option maxRecDepth 100000

def clonePost (base : Nat) (l : List Val) (w : World) (e : Ending) (w' : World) : Prop := ∃ v, e = .returned v ∧ OwnF valCells 23 3 w' base v l ∧ Below w.heap.size w w'
theorem val_one (l : List Val) : ∀ u ∈ l.flatMap valCells, u.oneCell' = true := by
  intro u hu
  obtain ⟨v, _, hv⟩ := List.mem_flatMap.1 hu
  simp [valCells] at hv
  rcases hv with rfl | rfl | rfl <;> rfl
theorem own_empty (w : World) (base : Nat) (hb : base ≤ w.heap.size) : OwnF valCells 23 3 (w.alloc (.cells #[] 23)) base (.slice (some ⟨w.heap.size, 0, none⟩) 0 0) [] :=
  ⟨by simp, .inr ⟨w.heap.size, 0, #[], rfl, hb, heap_alloc_new w _, Nat.le_refl _, by simp, by simp, by simp⟩⟩
set_option maxHeartbeats 2000000 in
theorem clone_any (A : Option Addr) (c : Nat) (l : List Val) (w : World) (h : RV w w.heap.size A l) (hl : l.length ≤ 1000) :
    Calls Tryd.prog 33 #[.slice A l.length c] w (clonePost w.heap.size l w) := by
  have HR := Lib.hid h
  clear h
  cases A with
  | none =>
    have hl0 : l = [] := by
      rcases HR.out with h | ⟨b, off, h, _⟩
      · exact h
      · cases h
    subst hl0
    have hnil : (binOp .eql 29 (.slice none 0 c) (.slice none 0 0)).run Tryd.prog w = .ok (.bool true) w := Go.Lib.run_eql_slice_nil w 29 23 none 0 c 0 0 Tryd.underlying29
    go_enter Tryd.func33, Tryd.ntmps33
    go_wp2_with fail
    go_ret
    exact ⟨_, rfl, OwnF.nil, Below.refl _ _⟩
  | some ad =>
    have hnil : (binOp .eql 29 (.slice (some ad) l.length c) (.slice none 0 0)).run Tryd.prog w = .ok (.bool false) w := Go.Lib.run_eql_slice_nil w 29 23 (some ad) l.length c 0 0 Tryd.underlying29
    obtain ⟨i0, hi0, hz0, hz1, hz2⟩ := info_parts val_info
    have bb := later_new w (.cells #[] 23)
    have HO := Lib.hid (own_empty w w.heap.size (Nat.le_refl _))
    have HR2 := Lib.hid (HR.out.later bb).reads
    have hsz : w.heap.size ≤ (w.alloc (.cells #[] 23)).heap.size := bb.size
    have HI := Lib.hid hi0
    have HZ0 := Lib.hid hz0
    have HZ1 := Lib.hid hz1
    have HZ2 := Lib.hid hz2
    clear hi0 hz0 hz1 hz2
    go_enter Tryd.func33, Tryd.ntmps33
    go_wp2_with (first
      | (at_builtin
         refine wpList_append_any _ rfl (.tmp 5) (.tmp 6) 29 rfl w.heap.size 23 i0 _ 3 32 Tryd.underlying29 HI.out HZ0.out HZ1.out HZ2.out rfl (by omega) _ 0 [] rfl HO.out _ (some ad) l.length c (l.flatMap valCells) rfl HR2.out (val_one l) (by unfold maxLen; omega) (by omega) hsz ?_
         intro v2 w2 o2 g2 _
         have O2 := Lib.hid o2
         have G2 := Lib.hid g2
         clear o2 g2))
    have b2 := below_own HO.out G2.out hsz
    have O3 : OwnF valCells 23 3 w2 w.heap.size v2 l := by
      have := O2.out
      unfold OwnF
      simpa using this
    go_ret
    exact ⟨_, rfl, O3, bb.trans b2⟩

theorem OwnF.down {α : Type} {f : α → List Value} {e : TypeId} {size : Nat} {w : World} {base base' : Nat} {v : Value} {l : List α} (h : OwnF f e size w base v l) (hb : base' ≤ base) : OwnF f e size w base' v l := by
  refine ⟨h.1, ?_⟩
  rcases h.2 with h0 | ⟨g, cap, cur, h1, h2, h3⟩
  · exact .inl h0
  · exact .inr ⟨g, cap, cur, h1, by omega, h3⟩
def rowCell (r : RowS) : List Value := [.slice r.A r.l.length r.c]
theorem row_info : (Tryd.prog.info? 29).map (fun i => (i.zero, i.size, i.bytes)) = some (some (.slice none 0 0), 1, 24) := by kernel_rfl
theorem row_flat (l : List RowS) : l.flatMap rowCell = l.map RowS.v := by
  induction l with
  | nil => rfl
  | cons x l ih => simp only [List.flatMap_cons, List.map_cons, ih]; rfl
/-- rows of the call's own -/
def Mine (w : World) (base : Nat) (cl : List RowS) : Prop := ∀ r ∈ cl, OwnF valCells 23 3 w base r.v r.l
theorem Mine.later {w w' : World} {base : Nat} {cl : List RowS} (h : Mine w base cl) (hb : Below w.heap.size w w') : Mine w' base cl := fun r hr => (h r hr).later hb
theorem Mine.grown {w w' : World} {base base' : Nat} {cl cl' : List RowS} {ov : Value} (h : Mine w base cl) (ho : OwnF rowCell 29 1 w base' ov cl') (hg : w.grownBy w' ov.ownBlock) : Mine w' base cl := fun r hr => by
  refine (h r hr).keep fun q hq => ?_
  obtain ⟨h1, h2, cur, h3⟩ := (h r hr).lt hq
  exact hg.block q h1 fun e => ho.other (show Blk w q 23 cur from h3) (by decide) e.symm
theorem own_rows {w : World} {base : Nat} {ov : Value} {cl : List RowS} (h : OwnF rowCell 29 1 w base ov cl) (hm : Mine w base cl) (hne : cl ≠ []) (hl : ∀ r ∈ cl, r.l.length ≤ 1000) :
    ∃ g cap, ov = .slice (some ⟨g, 0, none⟩) cl.length cap ∧ base ≤ g ∧ SS w g cl.length w (fun i => cl.getD i ⟨none, [], 0⟩) := by
  rcases h.2 with ⟨rfl, h0⟩ | ⟨g, cap, cur, rfl, hb, hg, hn, hm2, hs, ht⟩
  · exact absurd (List.eq_nil_of_length_eq_zero h0) hne
  · have hsz : cl.length ≤ cur.size := by rw [hs]; omega
    have hget : ∀ i, (hi : i < cl.length) → cl.getD i ⟨none, [], 0⟩ = cl[i] := fun i hi => by simp [hi]
    refine ⟨g, cap, rfl, hb, ⟨⟨cur, hg, hsz, fun i hi => ?_⟩, ⟨rfl, rfl, rfl, Nat.le_refl _, fun _ _ _ => rfl⟩, fun k hk => ?_⟩⟩
    · have e := congrArg (fun l => l[i]?) ht
      rw [row_flat] at e
      simp only [List.getElem?_take, List.getElem?_map] at e
      rw [if_pos (by omega), List.getElem?_eq_getElem hi] at e
      show cur[i]? = some (cl.getD i ⟨none, [], 0⟩).v
      rw [hget i hi]
      simpa using e
    · show RN w g (cl.getD k ⟨none, [], 0⟩) ∧ (cl.getD k ⟨none, [], 0⟩).l.length ≤ 1000
      rw [hget k hk]
      have hr := List.getElem_mem hk
      refine ⟨?_, hl _ hr⟩
      obtain ⟨A, c, e1, e2, _⟩ := rv_own (hm _ hr)
      have hA : cl[k].A = A := by
        unfold RowS.v at e1
        injection e1
      subst hA
      rcases e2 with e2 | ⟨b, off, h1, h2, h3⟩
      · exact .inl e2
      · refine .inr ⟨b, off, h1, h2, fun e => ?_, h3⟩
        subst e
        have hq : (cl[k].v).ownBlock = some b := by
          rcases (hm _ hr).2 with ⟨h4, _⟩ | ⟨g', cap', cur', h4, _⟩
          · unfold RowS.v at h4
            injection h4 with h4
            rw [h1] at h4
            cases h4
          · rw [h4]
            unfold RowS.v at h4
            injection h4 with h4
            rw [h1] at h4
            injection h4 with h4
            injection h4 with h4
            rw [← h4]
            rfl
        obtain ⟨_, _, cur', h5⟩ := (hm _ hr).lt hq
        rw [hg] at h5
        injection h5 with h5
        injection h5 with _ h5 _
        exact absurd h5 (by decide)

/-- a block of rows -/
def Lies (w : World) (A : Option Addr) (out : List RowS) : Prop := out = [] ∨ ∃ g cs, A = some ⟨g, 0, none⟩ ∧ Blk w g 29 cs
def sortedPost (rs : List RowS) (w : World) (e : Ending) (w' : World) : Prop :=
  ∃ (A' : Option Addr) (c' : Nat) (out : List RowS), e = .returned (.slice A' out.length c') ∧ (out.map (·.l)).Perm (rs.map (·.l)) ∧ out.Pairwise le ∧ RR w' w'.heap.size A' out ∧ (Mine w' w.heap.size out ∧ Lies w' A' out) ∧ Below w.heap.size w w'
theorem list_getD (cl : List RowS) (d : RowS) : (List.range cl.length).map (fun i => cl.getD i d) = cl := by
  apply List.ext_getElem
  · simp
  · intro i h1 h2
    simp at h1
    simp [h1]
theorem pairwise_srt {E : Nat → RowS} {n : Nat} (h : Srt E 0 n) : ((List.range n).map E).Pairwise le := by
  rw [List.pairwise_iff_getElem]
  intro i j hi hj hij
  simp at hi hj
  simp only [List.getElem_map, List.getElem_range]
  exact h i j (by omega) hij hj

set_option maxHeartbeats 4000000 in
theorem sort_any (A : Option Addr) (c : Nat) (rs : List RowS) (w : World) (h : RR w w.heap.size A rs) (hm : rs.length ≤ 1000) (hl : ∀ r ∈ rs, r.l.length ≤ 1000) :
    Calls Tryd.prog 20 #[.slice A rs.length c] w (sortedPost rs w) := by
  have HR := Lib.hid h
  have HL := Lib.hid hl
  clear h hl
  go_enter Tryd.func20, Tryd.ntmps20
  go_wp2_with fail
  go_loopw [3, 8] (fun ov iv wr => ∃ (k : Nat) (cl : List RowS), k ≤ rs.length ∧ iv = .int .i64 k ∧ cl.map (·.l) = (rs.take k).map (·.l) ∧ OwnF rowCell 29 1 wr w.heap.size ov cl ∧ Mine wr w.heap.size cl ∧ Below w.heap.size w wr) (fun _ iv _ => rs.length - (intOf iv).toNat)
  case atStart => exact ⟨0, [], Nat.zero_le _, rfl, rfl, OwnF.nil, fun r hr => by simp at hr, Below.refl _ _⟩
  case round =>
    obtain ⟨k, cl, hk, rfl, hcl, hO, hM, hB⟩ := hrel
    have HC := Lib.hid hcl
    have HO := Lib.hid hO
    have HM := Lib.hid hM
    clear hcl hO hM
    by_cases hlt : k < rs.length
    · obtain ⟨b, off, rfl, hb, hcell, hrv⟩ := (HR.out.below hB).at_ hlt
      have HT := Lib.hid (show (rs.take (k + 1)).map (·.l) = (rs.take k).map (·.l) ++ [rs[k].l] by rw [List.take_add_one, List.getElem?_eq_getElem hlt, List.map_append]; rfl)
      have hlk := HL.out rs[k] (List.getElem_mem hlt)
      have HV := Lib.hid hrv
      clear hrv
      generalize rs[k] = r at *
      obtain ⟨rA, l, rc⟩ := r
      dsimp only at *
      go_wp2_with fail
      refine (clone_any rA rc l _ ((HV.out.more hB.size)) hlk).mono ?_
      rintro e_ w1 ⟨v, rfl, hO1, b1⟩
      obtain ⟨A1, c1, rfl, _⟩ := hO1.reads
      have hM1 : Mine w1 w.heap.size (cl ++ [⟨A1, l, c1⟩]) := by
        intro r hr
        rcases List.mem_append.1 hr with hr | hr
        · exact (HM.out r hr).later b1
        · simp at hr
          subst hr
          exact hO1.down hB.size
      have b2 := later_new w1 (.cells #[.slice A1 l.length c1] 29)
      have HG := Lib.hid (Blk.new w1 29 #[.slice A1 l.length c1])
      replace HM := Lib.hid (hM1.later b2)
      replace HO := Lib.hid ((HO.out.later b1).later b2)
      have hB2 := Later.then (Later.then hB b1) b2
      have hcl : cl.length = k := by
        have := congrArg List.length HC.out
        simp at this
        omega
      clear hO1 b1 b2 hM1 hcell HV hB
      go_wp2_with (first
        | (at_builtin
           refine wpList_append_one (f := rowCell) rfl (.tmp 12) (.tmp 15) 35 rfl _ 24 Tryd.underlying35 row_info rfl (by omega) (⟨A1, l, c1⟩ : RowS) rfl (by simp [rowCell, Value.oneCell']) rfl HO.out w1.heap.size rfl HG.out (by omega) (by omega) hB2.size ?_
           intro v2 w2 o2 g2
           have b3 := below_own HO.out g2 hB2.size
           have HM2 := Lib.hid (HM.out.grown HO.out g2)
           have O2 := Lib.hid o2
           clear o2 g2))
      clear HO HG HM
      go_wp2_with fail
      go_roundw
      case rel =>
        refine ⟨k + 1, _, hlt, by go_num, ?_, O2.out, HM2.out, hB2.trans b3⟩
        rw [HT.out, ← HC.out, List.map_append]
        rfl
      case measure => simp [intOf]; omega
    · have hke : k = rs.length := by omega
      subst hke
      rw [List.take_length] at HC
      have hll : ∀ r ∈ cl, r.l.length ≤ 1000 := by
        intro r hr
        have h1 : r.l ∈ cl.map (·.l) := List.mem_map.2 ⟨r, hr, rfl⟩
        rw [HC.out] at h1
        obtain ⟨r', h2, h3⟩ := List.mem_map.1 h1
        rw [← h3]
        exact HL.out r' h2
      have hcl : cl.length = rs.length := by
        have := congrArg List.length HC.out
        simpa using this
      have hcl2 : cl.length ≤ 1000 := by omega
      clear hcl
      by_cases h0 : cl = []
      · subst h0
        obtain ⟨A1, c1, rfl, _⟩ := HO.out.reads
        go_wp2_with fail
        refine (sortStable_none A1 c1 _).mono ?_
        rintro e_ w1 ⟨rfl, rfl⟩
        go_wp2_with fail
        go_ret
        exact ⟨A1, c1, [], rfl, by rw [← HC.out], .nil, .inl rfl, ⟨fun r hr => by simp at hr, .inl rfl⟩, hB⟩
      · obtain ⟨g, cap, rfl, hbg, hSS⟩ := own_rows HO.out HM.out h0 hll
        have HSS := Lib.hid hSS
        clear hSS
        go_wp2_with fail
        refine (sortStable_any _ g cl.length cap _ _ HSS.out (by omega)).mono ?_
        rintro e_ w1 ⟨rfl, E, hs, hw, ho⟩
        have hp := hw.perm (Nat.le_refl cl.length)
        rw [list_getD] at hp
        have hlen : ((List.range cl.length).map E).length = cl.length := by simp
        have hP := Lib.hid (show sortedPost rs w (.returned (.slice (some ⟨g, 0, none⟩) cl.length cap)) w1 from by
          refine ⟨some ⟨g, 0, none⟩, cap, (List.range cl.length).map E, by rw [hlen], ?_, pairwise_srt ho, ?_, ?_, hB.trans (below_grown hs.grown hB.size hbg)⟩
          · rw [← HC.out]
            exact hp.map _
          · obtain ⟨cs, hblk, _⟩ := hs.at_
            refine .inr ⟨g, 0, rfl, hblk.lt, fun i r hr => ?_⟩
            rw [List.getElem?_map] at hr
            cases hi : (List.range cl.length)[i]? with
            | none => rw [hi] at hr; cases hr
            | some j =>
              have hj := List.getElem?_eq_some_iff.1 hi
              obtain ⟨h1, h2⟩ := hj
              simp at h1 h2
              subst h2
              rw [hi] at hr
              simp only [Option.map_some, Option.some.injEq] at hr
              subst hr
              rw [Nat.zero_add]
              exact ⟨hs.at_.cell i h1, hs.rv i h1⟩
          · have hmine := HM.out.grown HO.out (show World.grownBy _ w1 _ from hs.grown)
            obtain ⟨cs, hblk, _⟩ := hs.at_
            exact ⟨fun r hr => hmine r (hp.mem_iff.1 hr), .inr ⟨g, cs, rfl, hblk⟩⟩)
        clear hp hlen hs hw ho
        go_wp2_with fail
        go_ret
        exact hP.out
end Go.Proofs.YtekedkbjnedhgaaDoor
