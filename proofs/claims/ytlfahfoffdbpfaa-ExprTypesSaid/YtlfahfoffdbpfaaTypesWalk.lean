/- ExprTypes: the walk. Printed by gen_types.py. -/
import Derived.Test.YtlfahfoffdbpfaaTypesLaw
import Derived.Test.YtlfahfoffdbpfaaTrue
import Derived.Test.YtlfahfoffdbpfaaLitWalk
namespace Go.Proofs.Ytlfahfoffdbpfaa
open Go.ChangeShapes Go.WideShapes Go.ChangeAt Go.RowKit
set_option linter.unusedVariables false
set_option linter.unusedSimpArgs false

theorem good_null {v : Val} (h : good v = true) (h0 : v.k = 0) : v.n = 0 ∧ (v.s.toList == []) = true := by
  unfold good at h
  rw [if_pos h0, Bool.and_eq_true] at h
  exact ⟨by simpa using h.1, h.2⟩
theorem good_truth {v : Val} (h : good v = true) (h1 : v.k = 1) : (v.s.toList == []) = true ∧ (v.n = 0 ∨ v.n = 1) := by
  unfold good at h
  rw [if_neg (by omega), if_pos h1, Bool.and_eq_true, Bool.or_eq_true] at h
  exact ⟨h.1, by simpa using h.2⟩

set_option maxHeartbeats 4000000 in
set_option maxRecDepth 100000 in
theorem types_any (y : Ex) (t : Tr) (cols : List Col) (CA : Option Addr) (cc : Nat) (row : List Val) (RA : Option Addr) (rc : Nat) (w : World) (hok : t.ok) (hat : t.at_ w (Old w) y) (hC : RC w w.heap.size CA cols) (hcl : cols.length ≤ 140737488355328) (hV : RV w w.heap.size RA row) (hrl : row.length ≤ 140737488355328) (hro : ∀ v ∈ row, v.Ok ∧ 0 ≤ v.k ∧ v.k ≤ 255) :
    Calls Try.prog 7 #[.agg #[.int .u8 y.op, .int .u8 y.v.k, .int .i64 y.v.n, .string y.v.s, .string y.name, .int .i64 y.width, .slice y.A y.n y.c], .slice CA cols.length cc, .slice RA row.length rc] w fun e w' => e = .returned (.bool true) ∧ Below w.heap.size w w' := by
  have HOK := Lib.hid hok
  have HAT := Lib.hid hat
  have HC := Lib.hid hC
  have HV := Lib.hid hV
  have HRO := Lib.hid hro
  clear hok hat hC hV hro
  go_enter Try.func7, Try.ntmps7
  have hX := Blk.new w 36 #[.int .u8 y.op, .int .u8 y.v.k, .int .i64 y.v.n, .string y.v.s, .string y.name, .int .i64 y.width, .slice y.A y.n y.c]
  have hB := later_new w (.cells #[.int .u8 y.op, .int .u8 y.v.k, .int .i64 y.v.n, .string y.v.s, .string y.name, .int .i64 y.width, .slice y.A y.n y.c] 36)
  have x0 := hX.cell 0
  have x1 := hX.cell 1
  have x2 := hX.cell 2
  have x3 := hX.cell 3
  have x4 := hX.cell 4
  have x5 := hX.cell 5
  have x6 := hX.cell 6
  simp only [List.getElem?_toArray, List.getElem?_cons_zero, List.getElem?_cons_succ] at x0 x1 x2 x3 x4 x5 x6
  go_wp2_with fail
  clear x0 x1 x2 x3 x4 x5 x6
  have hS := Blk.new (w.alloc (.cells #[.int .u8 y.op, .int .u8 y.v.k, .int .i64 y.v.n, .string y.v.s, .string y.name, .int .i64 y.width, .slice y.A y.n y.c] 36)) 36 #[.int .u8 y.op, .int .u8 y.v.k, .int .i64 y.v.n, .string y.v.s, .string y.name, .int .i64 y.width, .slice y.A y.n y.c]
  rw [World.size_alloc] at hS
  have bb := later_new (w.alloc (.cells #[.int .u8 y.op, .int .u8 y.v.k, .int .i64 y.v.n, .string y.v.s, .string y.name, .int .i64 y.width, .slice y.A y.n y.c] 36)) (.cells #[.int .u8 y.op, .int .u8 y.v.k, .int .i64 y.v.n, .string y.v.s, .string y.name, .int .i64 y.width, .slice y.A y.n y.c] 36)
  replace hX := hX.later bb
  replace hB := Later.then hB bb
  clear bb
  generalize (w.alloc (.cells #[.int .u8 y.op, .int .u8 y.v.k, .int .i64 y.v.n, .string y.v.s, .string y.name, .int .i64 y.width, .slice y.A y.n y.c] 36)).alloc (.cells #[.int .u8 y.op, .int .u8 y.v.k, .int .i64 y.v.n, .string y.v.s, .string y.name, .int .i64 y.width, .slice y.A y.n y.c] 36) = V0 at *
  refine (great_any (some ⟨w.heap.size + 1, 0, none⟩) 1 [t] [y] cols CA cc row RA rc V0 (by simp) (one_oks HOK.out) (one_all (HAT.out.later hB)) (re_one hS) (HV.out.later hB) hcl hrl).mono ?_
  rintro e_ w1 ⟨bg, rfl, b1⟩
  replace hX := hX.later b1
  replace hB := Later.then hB b1
  clear b1 hS
  cases bg
  · go_wp2_with fail
    refine (fits_any cols CA cc row RA rc w1 (HC.out.later hB) hcl (HV.out.later hB) hrl).mono ?_
    rintro e_ w2 ⟨rfl, b1⟩
    replace hX := hX.later b1
    replace hB := Later.then hB b1
    clear b1
    cases hfit : fitsB cols row
    · go_wp2_with fail
      refine (wakes_any _).mono ?_
      rintro e_ w9 ⟨rfl, b9⟩
      go_wp2_with fail
      go_ret
      exact ⟨rfl, Later.then hB b9⟩
    · have HT := Lib.hid (Tr.type_is cols CA cc hcl t y w HOK.out HAT.out HC.out)
      have HE := Lib.hid (Tr.eval_is cols CA cc row RA rc hcl hrl (fun v hv => (HRO.out v hv).1) t y w HOK.out HAT.out HC.out HV.out)
      have HS := Lib.hid (Tr.safe_is t y w HOK.out HAT.out)
      have HZ := Lib.hid (Tr.eval_zero cols row t)
      have HTZ := Lib.hid (Tr.type_zero cols t)
      have HSO := Lib.hid (Tr.sound cols row hfit t)
      clear hfit
      generalize t.type cols = ty at *
      generalize t.eval cols row = r at *
      generalize t.safe = sb at *
      obtain ⟨tt, te⟩ := ty
      obtain ⟨v, f⟩ := r
      dsimp only at *
      clear HOK HAT HC HV HRO
      have x0 := hX.cell 0
      have x1 := hX.cell 1
      have x2 := hX.cell 2
      have x3 := hX.cell 3
      have x4 := hX.cell 4
      have x5 := hX.cell 5
      have x6 := hX.cell 6
      simp only [List.getElem?_toArray, List.getElem?_cons_zero, List.getElem?_cons_succ] at x0 x1 x2 x3 x4 x5 x6
      go_wp2_with fail
      clear x0 x1 x2 x3 x4 x5 x6
      refine (HT.out _ hB).mono ?_
      rintro e_ w3 ⟨rfl, b1⟩
      replace hX := hX.later b1
      replace hB := Later.then hB b1
      clear b1 HT
      have x0 := hX.cell 0
      have x1 := hX.cell 1
      have x2 := hX.cell 2
      have x3 := hX.cell 3
      have x4 := hX.cell 4
      have x5 := hX.cell 5
      have x6 := hX.cell 6
      simp only [List.getElem?_toArray, List.getElem?_cons_zero, List.getElem?_cons_succ] at x0 x1 x2 x3 x4 x5 x6
      go_wp2_with fail
      clear x0 x1 x2 x3 x4 x5 x6
      refine (HE.out _ hB).mono ?_
      rintro e_ w4 ⟨rfl, b1⟩
      unfold ansV
      have bb := later_new w4 (.cells #[.int .u8 v.k, .int .i64 v.n, .string v.s] 23)
      have hv1 := Blk.new w4 23 #[.int .u8 v.k, .int .i64 v.n, .string v.s]
      replace hX := (hX.later b1).later bb
      replace hB := Later.then (Later.then hB b1) bb
      clear b1 bb
      by_cases hte : te = 0
      · rcases HSO.out hte with ⟨hf0, hg, hk⟩ | ⟨hf0, hs⟩
        · dsimp only at hf0 hg hk
          subst hte hf0
          have c1 := val_cells hv1
          have HGD := Lib.hid hg
          have hgd := good_any v
          rw [hg] at hgd
          clear hg
          have t1 : (v.k != 0) = false ∨ ((v.k != 0) = true ∧ (v.k != tt) = false) := by
            rcases hk with h | h
            · left; simpa using h
            · by_cases h0 : v.k = 0
              · left; simpa using h0
              · right; exact ⟨by simpa using h0, by simpa using h⟩
          have HK := Lib.hid hk
          clear hk
          go_wp2_with fail
          refine (hgd _).mono ?_
          rintro e_ w5 ⟨rfl, b5⟩
          replace hv1 := hv1.later b5
          replace hX := hX.later b5
          replace hB := Later.then hB b5
          clear b5 c1 hgd
          have c1 := val_cells hv1
          have x0 := hX.cell 0
          have x1 := hX.cell 1
          have x2 := hX.cell 2
          have x3 := hX.cell 3
          have x4 := hX.cell 4
          have x5 := hX.cell 5
          have x6 := hX.cell 6
          simp only [List.getElem?_toArray, List.getElem?_cons_zero, List.getElem?_cons_succ] at x0 x1 x2 x3 x4 x5 x6
          have HTR : Hid (∀ (W : World) (g : Nat), Below w.heap.size w W → Blk W g 36 #[.int .u8 y.op, .int .u8 y.v.k, .int .i64 y.v.n, .string y.v.s, .string y.name, .int .i64 y.width, .slice y.A y.n y.c] → Calls Try.prog 23 #[.slice (some ⟨g, 0, none⟩) 1 1, .slice CA cols.length cc, .slice RA row.length rc] W fun e w' => e = .returned (.tuple #[.bool (trueV (v, 0)).1, .int .i64 (trueV (v, 0)).2]) ∧ Below W.heap.size W w') := fun W g hW hg => true_any (some ⟨g, 0, none⟩) 1 1 (by omega) (by omega) y [] _ _ (v, 0) W (re_one hg) (fun W' hW' => HE.out W' (Later.then hW hW'))
          rcases t1 with t1 | ⟨t1, t2⟩
          · have hk0 : v.k = 0 := by simpa using t1
            have hgn := good_null HGD.out hk0
            have HTV := Lib.hid (show trueV (v, 0) = (false, 0) by
              unfold trueV
              rw [if_neg (by simp), if_neg (by rw [hk0]; decide), hgn.1]
              rfl)
            have t3 : (v.k == 1) = false := by rw [hk0]; decide
            clear hk0 hgn
            go_wp2_with fail
            clear x0 x1 x2 x3 x4 x5 x6 c1
            have bb := later_new w5 (.cells #[.int .u8 y.op, .int .u8 y.v.k, .int .i64 y.v.n, .string y.v.s, .string y.name, .int .i64 y.width, .slice y.A y.n y.c] 36)
            have hS := Blk.new w5 36 #[.int .u8 y.op, .int .u8 y.v.k, .int .i64 y.v.n, .string y.v.s, .string y.name, .int .i64 y.width, .slice y.A y.n y.c]
            replace hv1 := hv1.later bb
            replace hB := Later.then hB bb
            clear bb
            refine (HTR.out _ _ hB hS).mono ?_
            rintro e_ w6 ⟨rfl, b6⟩
            replace hv1 := hv1.later b6
            replace hB := Later.then hB b6
            clear b6 hS
            rw [HTV.out]
            have c1 := val_cells hv1
            cases e1 : (tt != 1)
            · go_wp2_with fail
              refine (wakes_any _).mono ?_
              rintro e_ w9 ⟨rfl, b9⟩
              go_wp2_with fail
              go_ret
              exact ⟨rfl, Later.then hB b9⟩
            · cases e2 : (tt != 0)
              · go_wp2_with fail
                refine (wakes_any _).mono ?_
                rintro e_ w9 ⟨rfl, b9⟩
                go_wp2_with fail
                go_ret
                exact ⟨rfl, Later.then hB b9⟩
              · go_wp2_with fail
                refine (wakes_any _).mono ?_
                rintro e_ w9 ⟨rfl, b9⟩
                go_wp2_with fail
                go_ret
                exact ⟨rfl, Later.then hB b9⟩
          · have hkt : v.k = tt := by simpa using t2
            have hk0 : v.k ≠ 0 := by simpa using t1
            cases e1 : (tt != 1)
            · have hk1 : v.k = 1 := by rw [hkt]; simpa using e1
              obtain ⟨hs, hn⟩ := good_truth HGD.out hk1
              have t3 : (v.k == 1) = true := by simpa using hk1
              have HTV := Lib.hid (show trueV (v, 0) = (v.n == 1, 0) by
                unfold trueV
                rw [if_neg (by simp), if_neg (by rw [hk1]; decide)])
              clear hkt hk0 hk1
              go_wp2_with fail
              clear x0 x1 x2 x3 x4 x5 x6 c1
              have bb := later_new w5 (.cells #[.int .u8 y.op, .int .u8 y.v.k, .int .i64 y.v.n, .string y.v.s, .string y.name, .int .i64 y.width, .slice y.A y.n y.c] 36)
              have hS := Blk.new w5 36 #[.int .u8 y.op, .int .u8 y.v.k, .int .i64 y.v.n, .string y.v.s, .string y.name, .int .i64 y.width, .slice y.A y.n y.c]
              replace hv1 := hv1.later bb
              replace hB := Later.then hB bb
              clear bb
              refine (HTR.out _ _ hB hS).mono ?_
              rintro e_ w6 ⟨rfl, b6⟩
              replace hv1 := hv1.later b6
              replace hB := Later.then hB b6
              clear b6 hS
              rw [HTV.out]
              have c1 := val_cells hv1
              rcases hn with hn | hn
              · have t4 : (v.n == 1) = false := by rw [hn]; decide
                clear hn
                go_wp2_with fail
                refine (wakes_any _).mono ?_
                rintro e_ w9 ⟨rfl, b9⟩
                go_wp2_with fail
                go_ret
                exact ⟨rfl, Later.then hB b9⟩
              · have t4 : (v.n == 1) = true := by rw [hn]; decide
                clear hn
                go_wp2_with fail
                refine (wakes_any _).mono ?_
                rintro e_ w9 ⟨rfl, b9⟩
                go_wp2_with fail
                go_ret
                exact ⟨rfl, Later.then hB b9⟩
            · have hk1 : v.k ≠ 1 := by rw [hkt]; simpa using e1
              have e2 : (tt != 0) = true := by rw [← hkt]; exact t1
              have HTV := Lib.hid (show trueV (v, 0) = (false, 40) by
                unfold trueV
                rw [if_neg (by simp), if_pos]
                simp [goes2, hk0, hk1])
              clear hkt hk0 hk1
              go_wp2_with fail
              clear x0 x1 x2 x3 x4 x5 x6 c1
              have bb := later_new w5 (.cells #[.int .u8 y.op, .int .u8 y.v.k, .int .i64 y.v.n, .string y.v.s, .string y.name, .int .i64 y.width, .slice y.A y.n y.c] 36)
              have hS := Blk.new w5 36 #[.int .u8 y.op, .int .u8 y.v.k, .int .i64 y.v.n, .string y.v.s, .string y.name, .int .i64 y.width, .slice y.A y.n y.c]
              replace hv1 := hv1.later bb
              replace hB := Later.then hB bb
              clear bb
              refine (HTR.out _ _ hB hS).mono ?_
              rintro e_ w6 ⟨rfl, b6⟩
              replace hv1 := hv1.later b6
              replace hB := Later.then hB b6
              clear b6 hS
              rw [HTV.out]
              have c1 := val_cells hv1
              go_wp2_with fail
              refine (wakes_any _).mono ?_
              rintro e_ w9 ⟨rfl, b9⟩
              go_wp2_with fail
              go_ret
              exact ⟨rfl, Later.then hB b9⟩
        · dsimp only at hf0 hs
          subst hte
          have hvz : v = zeroVal := HZ.out (by omega)
          have z1 : (v.k == 0) = true := by rw [hvz]; rfl
          have z2 : (v.n == 0) = true := by rw [hvz]; rfl
          have z3 : (v.s.toList == []) = true := by rw [hvz]; kernel_rfl
          clear hvz
          have hsb : sb = false := by simpa using hs
          subst hsb
          clear hs
          have c1 := val_cells hv1
          have x0 := hX.cell 0
          have x1 := hX.cell 1
          have x2 := hX.cell 2
          have x3 := hX.cell 3
          have x4 := hX.cell 4
          have x5 := hX.cell 5
          have x6 := hX.cell 6
          simp only [List.getElem?_toArray, List.getElem?_cons_zero, List.getElem?_cons_succ] at x0 x1 x2 x3 x4 x5 x6
          rcases hf0 with hf0 | hf0
          · subst hf0
            go_wp2_with fail
            refine (HS.out _ hB).mono ?_
            rintro e_ w6 ⟨rfl, b6⟩
            replace hv1 := hv1.later b6
            replace hB := Later.then hB b6
            clear b6 x0 x1 x2 x3 x4 x5 x6 c1
            have c1 := val_cells hv1
            go_wp2_with fail
            refine (wakes_any _).mono ?_
            rintro e_ w9 ⟨rfl, b9⟩
            go_wp2_with fail
            go_ret
            exact ⟨rfl, Later.then hB b9⟩
          · subst hf0
            go_wp2_with fail
            refine (HS.out _ hB).mono ?_
            rintro e_ w6 ⟨rfl, b6⟩
            replace hv1 := hv1.later b6
            replace hB := Later.then hB b6
            clear b6 x0 x1 x2 x3 x4 x5 x6 c1
            have c1 := val_cells hv1
            go_wp2_with fail
            refine (wakes_any _).mono ?_
            rintro e_ w9 ⟨rfl, b9⟩
            go_wp2_with fail
            go_ret
            exact ⟨rfl, Later.then hB b9⟩
      · have htt : tt = 0 := HTZ.out hte
        subst htt
        have t0 : (te != 0) = true := by simpa using hte
        clear hte
        by_cases hf0 : f = 0
        · subst hf0
          have c1 := val_cells hv1
          go_wp2_with fail
          refine (wakes_any _).mono ?_
          rintro e_ w9 ⟨rfl, b9⟩
          go_wp2_with fail
          go_ret
          exact ⟨rfl, Later.then hB b9⟩
        · have hvz : v = zeroVal := HZ.out hf0
          have z1 : (v.k == 0) = true := by rw [hvz]; rfl
          have z2 : (v.n == 0) = true := by rw [hvz]; rfl
          have z3 : (v.s.toList == []) = true := by rw [hvz]; kernel_rfl
          clear hvz
          have t1 : (f == 0) = false := by simpa using hf0
          clear hf0
          have c1 := val_cells hv1
          go_wp2_with fail
          refine (wakes_any _).mono ?_
          rintro e_ w9 ⟨rfl, b9⟩
          go_wp2_with fail
          go_ret
          exact ⟨rfl, Later.then hB b9⟩
  · go_wp2_with fail
    refine (wakes_any _).mono ?_
    rintro e_ w9 ⟨rfl, b9⟩
    go_wp2_with fail
    go_ret
    exact ⟨rfl, Later.then hB b9⟩
end Go.Proofs.Ytlfahfoffdbpfaa
