/- ExprLiterals: the walk. -/
import Derived.Test.YtlfahfoffdbpfaaLitLaw
import Derived.Test.YtlfahfoffdbpfaaSize
import Derived.Test.YtlfahfoffdbpfaaWakes15
namespace Go.Proofs.Ytlfahfoffdbpfaa
open Go.ChangeShapes Go.WideShapes Go.ChangeAt Go.RowKit
set_option linter.unusedVariables false
set_option linter.unusedSimpArgs false

theorem one_all {w : World} {S : Nat → Prop} {t : Tr} {y : Ex} (h : t.at_ w S y) : Tr.all_ w S [t] [y] := by
  unfold Tr.all_
  exact ⟨y, [], rfl, h, by unfold Tr.all_; rfl⟩
theorem one_oks {t : Tr} (h : t.ok) : Tr.oks [t] := by
  unfold Tr.oks
  exact ⟨h, by unfold Tr.oks; trivial⟩
theorem nil_rc (w : World) : RC w w.heap.size none [] := .inl rfl
theorem nil_rv (w : World) : RV w w.heap.size none [] := .inl rfl

set_option maxHeartbeats 4000000 in
set_option maxRecDepth 100000 in
theorem literals_any (y : Ex) (t : Tr) (cols : List Col) (CA : Option Addr) (cc : Nat) (row : List Val) (RA : Option Addr) (rc : Nat) (w : World) (hok : t.ok) (hat : t.at_ w (Old w) y) (hC : RC w w.heap.size CA cols) (hcl : cols.length ≤ 140737488355328) (hV : RV w w.heap.size RA row) (hrl : row.length ≤ 140737488355328) (hro : ∀ v ∈ row, v.Ok ∧ 0 ≤ v.k ∧ v.k ≤ 255) :
    Calls Try.prog 6 #[.agg #[.int .u8 y.op, .int .u8 y.v.k, .int .i64 y.v.n, .string y.v.s, .string y.name, .int .i64 y.width, .slice y.A y.n y.c], .slice CA cols.length cc, .slice RA row.length rc] w fun e w' => e = .returned (.bool true) ∧ Below w.heap.size w w' := by
  have HOK := Lib.hid hok
  have HAT := Lib.hid hat
  have HC := Lib.hid hC
  have HV := Lib.hid hV
  have HRO := Lib.hid hro
  clear hok hat hC hV hro
  go_enter Try.func6, Try.ntmps6
  have hX := Blk.new w 36 #[.int .u8 y.op, .int .u8 y.v.k, .int .i64 y.v.n, .string y.v.s, .string y.name, .int .i64 y.width, .slice y.A y.n y.c]
  have hB := later_new w (.cells #[.int .u8 y.op, .int .u8 y.v.k, .int .i64 y.v.n, .string y.v.s, .string y.name, .int .i64 y.width, .slice y.A y.n y.c] 36)
  have x0 := hX.cell 0
  have x1 := hX.cell 1
  have x2 := hX.cell 2
  have x3 := hX.cell 3
  have x4 := hX.cell 4
  have x5 := hX.cell 5
  have x6 := hX.cell 6
  simp only [List.getElem?_toArray, List.getElem?_cons_zero, List.getElem?_cons_succ] at x0 x1 x2 x3 x4 x5 x6
  go_wp2_with fail
  clear x0 x1 x2 x3 x4 x5 x6
  have hS := Blk.new (w.alloc (.cells #[.int .u8 y.op, .int .u8 y.v.k, .int .i64 y.v.n, .string y.v.s, .string y.name, .int .i64 y.width, .slice y.A y.n y.c] 36)) 36 #[.int .u8 y.op, .int .u8 y.v.k, .int .i64 y.v.n, .string y.v.s, .string y.name, .int .i64 y.width, .slice y.A y.n y.c]
  rw [World.size_alloc] at hS
  have bb := later_new (w.alloc (.cells #[.int .u8 y.op, .int .u8 y.v.k, .int .i64 y.v.n, .string y.v.s, .string y.name, .int .i64 y.width, .slice y.A y.n y.c] 36)) (.cells #[.int .u8 y.op, .int .u8 y.v.k, .int .i64 y.v.n, .string y.v.s, .string y.name, .int .i64 y.width, .slice y.A y.n y.c] 36)
  replace hX := hX.later bb
  replace hB := Later.then hB bb
  clear bb
  generalize (w.alloc (.cells #[.int .u8 y.op, .int .u8 y.v.k, .int .i64 y.v.n, .string y.v.s, .string y.name, .int .i64 y.width, .slice y.A y.n y.c] 36)).alloc (.cells #[.int .u8 y.op, .int .u8 y.v.k, .int .i64 y.v.n, .string y.v.s, .string y.name, .int .i64 y.width, .slice y.A y.n y.c] 36) = V0 at *
  refine (great_any (some ⟨w.heap.size + 1, 0, none⟩) 1 [t] [y] cols CA cc row RA rc V0 (by simp) (one_oks HOK.out) (one_all (HAT.out.later hB)) (re_one hS) (HV.out.later hB) hcl hrl).mono ?_
  rintro e_ w1 ⟨bg, rfl, b1⟩
  replace hX := hX.later b1
  replace hB := Later.then hB b1
  clear b1 hS
  cases bg
  · go_wp2_with fail
    refine (fits_any cols CA cc row RA rc w1 (HC.out.later hB) hcl (HV.out.later hB) hrl).mono ?_
    rintro e_ w2 ⟨rfl, b1⟩
    replace hX := hX.later b1
    replace hB := Later.then hB b1
    clear b1
    cases hfit : fitsB cols row
    · go_wp2_with fail
      refine (wakes_any _).mono ?_
      rintro e_ w9 ⟨rfl, b9⟩
      go_wp2_with fail
      go_ret
      exact ⟨rfl, Later.then hB b9⟩
    · have HFIT := Lib.hid hfit
      clear hfit
      have x0 := hX.cell 0
      have x1 := hX.cell 1
      have x2 := hX.cell 2
      have x3 := hX.cell 3
      have x4 := hX.cell 4
      have x5 := hX.cell 5
      have x6 := hX.cell 6
      simp only [List.getElem?_toArray, List.getElem?_cons_zero, List.getElem?_cons_succ] at x0 x1 x2 x3 x4 x5 x6
      go_wp2_with fail
      clear x0 x1 x2 x3 x4 x5 x6
      refine (Tr.eval_is cols CA cc row RA rc hcl hrl (fun v hv => (HRO.out v hv).1) t y w2 HOK.out (HAT.out.later hB) (HC.out.later hB) (HV.out.later hB) w2 (Below.refl _ _)).mono ?_
      rintro e_ w3 ⟨rfl, b1⟩
      have hlaw := Tr.put_eval cols row HFIT.out t
      generalize t.eval cols row = r at *
      have HLAW := Lib.hid hlaw
      clear hlaw
      unfold ansV
      have bb := later_new w3 (.cells #[.int .u8 r.1.k, .int .i64 r.1.n, .string r.1.s] 23)
      have hv1 := Blk.new w3 23 #[.int .u8 r.1.k, .int .i64 r.1.n, .string r.1.s]
      replace hX := (hX.later b1).later bb
      replace hB := Later.then (Later.then hB b1) bb
      clear b1 bb
      have x0 := hX.cell 0
      have x1 := hX.cell 1
      have x2 := hX.cell 2
      have x3 := hX.cell 3
      have x4 := hX.cell 4
      have x5 := hX.cell 5
      have x6 := hX.cell 6
      simp only [List.getElem?_toArray, List.getElem?_cons_zero, List.getElem?_cons_succ] at x0 x1 x2 x3 x4 x5 x6
      go_wp2_with fail
      clear x0 x1 x2 x3 x4 x5 x6
      generalize w3.alloc (.cells #[.int .u8 r.1.k, .int .i64 r.1.n, .string r.1.s] 23) = V3 at *
      generalize w3.heap.size = gv at *
      refine (Tr.put_is cols CA cc row RA rc hcl hrl t y V3 HOK.out (HAT.out.later hB) (HC.out.later hB) (HV.out.later hB) V3 (Below.refl _ _)).mono ?_
      rintro e_ w4 ⟨y', rfl, hat', b1⟩
      have HAT' := Lib.hid (show (t.put cols row).at_ w4 (Old w4) y' from Tr.at_.keep (fun b hS => ⟨fun _ => rfl, hS.2⟩) _ _ hat')
      have hok' := Lib.hid (Tr.put_ok cols row HRO.out t HOK.out)
      replace hX := hX.later b1
      replace hv1 := hv1.later b1
      replace hB := Later.then hB b1
      clear b1 hat'
      go_wp2_with fail
      refine (Tr.eval_is [] none 0 [] none 0 (by simp) (by simp) (by simp) (t.put cols row) y' w4 hok'.out HAT'.out (nil_rc _) (nil_rv _) w4 (Below.refl _ _)).mono ?_
      rintro e_ w5 ⟨rfl, b1⟩
      generalize (t.put cols row).eval [] [] = r' at *
      have bb := later_new w5 (.cells #[.int .u8 r'.1.k, .int .i64 r'.1.n, .string r'.1.s] 23)
      have hv2 := Blk.new w5 23 #[.int .u8 r'.1.k, .int .i64 r'.1.n, .string r'.1.s]
      replace hv1 := (hv1.later b1).later bb
      replace hB := Later.then (Later.then hB b1) bb
      clear b1 bb hX
      unfold ansV
      have c1 := val_cells hv1
      have c2 := val_cells hv2
      by_cases h41 : r.2 = 41
      · have t1 : (r.2 == 41) = true := by simpa using h41
        clear h41
        go_wp2_with fail
        refine (wakes_any _).mono ?_
        rintro e_ w9 ⟨rfl, b9⟩
        go_wp2_with fail
        go_ret
        exact ⟨rfl, Later.then hB b9⟩
      · have t1 : (r.2 == 41) = false := by simpa using h41
        by_cases h21 : r.2 = 21
        · have t2 : (r.2 == 21) = true := by simpa using h21
          clear h41 h21
          go_wp2_with fail
          refine (wakes_any _).mono ?_
          rintro e_ w9 ⟨rfl, b9⟩
          go_wp2_with fail
          go_ret
          exact ⟨rfl, Later.then hB b9⟩
        · have t2 : (r.2 == 21) = false := by simpa using h21
          have hrr := HLAW.out h41 h21
          clear h41 h21 HLAW
          subst hrr
          go_wp2_with fail
          refine (wakes_any _).mono ?_
          rintro e_ w9 ⟨rfl, b9⟩
          go_wp2_with fail
          go_ret
          exact ⟨rfl, Later.then hB b9⟩
  · go_wp2_with fail
    refine (wakes_any _).mono ?_
    rintro e_ w9 ⟨rfl, b9⟩
    go_wp2_with fail
    go_ret
    exact ⟨rfl, Later.then hB b9⟩
end Go.Proofs.Ytlfahfoffdbpfaa
