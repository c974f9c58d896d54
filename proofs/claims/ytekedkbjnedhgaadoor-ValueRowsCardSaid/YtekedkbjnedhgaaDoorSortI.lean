/- slices.insertionSortCmpFunc at rows. -/
import Derived.Test.YtekedkbjnedhgaaDoorSortP
namespace Go.Proofs.YtekedkbjnedhgaaDoor
open Go.ChangeShapes Go.WideShapes Go.ChangeAt Go.RowKit
set_option linter.unusedVariables false
set_option linter.unusedSimpArgs false
set_option maxRecDepth 100000

def mergePost (w0 : World) (g n a b : Nat) (D : Nat → RowS) (e : Ending) (w' : World) : Prop := e = .returned (.tuple #[]) ∧ ∃ E, SS w0 g n w' E ∧ Sw a b D E ∧ Srt E a b
theorem SS.cmp {w0 w W : World} {g n : Nat} {D : Nat → RowS} (h : SS w0 g n w D) (i j : Nat) (hi : i < n) (hj : j < n) (hW : Below w.heap.size w W) :
    Calls Tryd.prog 16 #[.slice (D i).A (D i).l.length (D i).c, .slice (D j).A (D j).l.length (D j).c] W fun e w' => e = .returned (.int .i64 (rcmp (D i).l (D j).l)) ∧ Below W.heap.size W w' :=
  rows_any _ _ _ _ _ _ W ((h.later hW).rv i hi) ((h.later hW).rv j hj) (h.rows i hi).2 (h.rows j hj).2

set_option maxHeartbeats 8000000 in
theorem insertion_any (w0 : World) (g n cap a b : Nat) (D : Nat → RowS) (w : World) (h : SS w0 g n w D) (hn : n ≤ 1000) (hab : a ≤ b) (hb : b ≤ n) :
    Calls Tryd.prog 52 #[.slice (some ⟨g, 0, none⟩) n cap, .int .i64 a, .int .i64 b, .func (.func 16) #[] #[]] w (mergePost w0 g n a b D) := by
  have HS := Lib.hid h
  have mixed : Tryd.prog.follows .mixedOrders = true := by kernel_rfl
  clear h
  go_enter Tryd.func52, Tryd.ntmps52
  go_wp2_with fail
  go_loopw [8] (fun iv wr => ∃ (i : Nat) (E : Nat → RowS), a < i ∧ (i ≤ b ∨ i = a + 1) ∧ iv = .int .i64 i ∧ SS w0 g n wr E ∧ Sw a b D E ∧ Srt E a i) (fun iv _ => b - (intOf iv).toNat)
  case atStart => exact ⟨a + 1, D, by omega, .inr rfl, by go_num, HS.out, .refl, .none (by omega)⟩
  case round =>
    clear HS
    obtain ⟨i, E, hi0, hi, rfl, hs, hw, ho⟩ := hrel
    have H2 := Lib.hid hs
    have HW := Lib.hid hw
    have HO := Lib.hid ho
    clear hs hw ho
    by_cases hlt : i < b
    · go_wp2_with fail
      go_loopw [9] (fun jv wr2 => ∃ (j : Nat) (F : Nat → RowS), a ≤ j ∧ j ≤ i ∧ jv = .int .i64 j ∧ SS w0 g n wr2 F ∧ Sw a b D F ∧ Ins F a i j) (fun jv _ => (intOf jv).toNat)
      case atStart => exact ⟨i, E, by omega, Nat.le_refl _, rfl, H2.out, HW.out, .start HO.out⟩
      case round =>
        clear H2 HW HO
        obtain ⟨j, F, hj0, hj, rfl, hs, hw, ho⟩ := hrel
        have H2 := Lib.hid hs
        have HW := Lib.hid hw
        have HO := Lib.hid ho
        clear hs hw ho
        by_cases hja : a < j
        · obtain ⟨jp, rfl⟩ : ∃ q, j = q + 1 := ⟨j - 1, by omega⟩
          have t1 : decide ((a : Int) < (jp : Int) + 1) = true := decide_eq_true (by omega)
          have t1' : decide ((a : Int) < ((jp + 1 : Nat) : Int)) = true := decide_eq_true (by omega)
          go_upto_region 4 with fail
          have c1 := fun q : Ext wr.heap.size wr => (H2.out.at_.later q.h).cell (jp + 1) (by omega)
          have c2 := fun q : Ext wr.heap.size wr => (H2.out.at_.later q.h).cell jp (by omega)
          have hc := fun q : Ext wr.heap.size wr => H2.out.cmp (jp + 1) jp (by omega) (by omega) q.h
          by_cases hl : rcmp (F (jp + 1)).l (F jp).l < 0
          · have t2 := decide_eq_true hl
            have HL := Lib.hid (show lt (F (jp + 1)) (F jp) from hl)
            clear hl
            refine region_cut 17 wr.heap.size wr (Below.refl _ _) (by kernel_rfl) (by kernel_rfl) (by kernel_rfl) (by kernel_rfl) ?_
            simp only [List.append, List.take_succ_cons, List.take_zero, List.drop_succ_cons, List.drop_zero]
            repeat (go_big_quiet_step (fail))
            go_big_quiet_step ((go_at_call 16; exact calls_later (Nat.le_refl _) (hc _)))
            repeat (go_big_quiet_step (fail))
            refine wpQuiet_nil ?_
            rintro W4 ⟨x9, hx9⟩
            have hW := x9.h
            rw [← hx9] at hW
            clear hx9 x9 c1 c2 hc
            have H3 := Lib.hid (H2.out.later hW)
            clear H2 hW
            have c1 := H3.out.at_.cell (jp + 1) (by omega)
            have c2 := H3.out.at_.cell jp (by omega)
            have f1 := H3.out.at_.frozen (jp + 1)
            have f2 := H3.out.at_.frozen jp
            obtain ⟨u, c3⟩ := H3.out.second (jp + 1) jp (by omega) (by omega) (F jp).v
            have S3 := Lib.hid (H3.out.swap (jp + 1) jp (by omega) (by omega))
            unfold RowS.v at c3 S3
            go_upto_region 6 with fail
            go_big_region_o
            clear c1 c2 c3 f1 f2
            generalize hW3 : World.drew _ = W3 at S3 ⊢
            clear hW3
            have SI := Lib.hid (HO.out.step hja hj (by simpa using HL.out))
            have SW := Lib.hid (Sw.step (i := jp + 1) (j := jp) HW.out (by omega) (by omega) (by omega) (by omega))
            clear HO HW HL
            go_wp2_with fail
            go_roundw
            case rel => exact ⟨jp, _, by omega, by omega, by go_num, S3.out, SW.out, SI.out⟩
            case measure => simp [intOf]
          · have t2 := decide_eq_false hl
            have HL := Lib.hid (show ¬ lt (F (jp + 1)) (F jp) from hl)
            clear hl
            refine region_cut 17 wr.heap.size wr (Below.refl _ _) (by kernel_rfl) (by kernel_rfl) (by kernel_rfl) (by kernel_rfl) ?_
            simp only [List.append, List.take_succ_cons, List.take_zero, List.drop_succ_cons, List.drop_zero]
            repeat (go_big_quiet_step (fail))
            go_big_quiet_step ((go_at_call 16; exact calls_later (Nat.le_refl _) (hc _)))
            repeat (go_big_quiet_step (fail))
            refine wpQuiet_nil ?_
            rintro W4 ⟨x9, hx9⟩
            have hW := x9.h
            rw [← hx9] at hW
            clear hx9 x9 c1 c2 hc
            have H3 := Lib.hid (H2.out.later hW)
            clear H2 hW
            have SO := Lib.hid (HO.out.stop hj0 (.inr (by simpa using HL.out)))
            go_wp2_with fail
            go_roundw
            case rel => exact ⟨i + 1, F, by omega, .inl (by omega), by go_num, H3.out, HW.out, SO.out⟩
            case measure => simp [intOf]; omega
        · have t1 : decide ((a : Int) < (j : Int)) = false := decide_eq_false (by omega)
          have SO := Lib.hid (HO.out.stop hj0 (.inl (by omega)))
          go_upto_region 4 with fail
          refine region_cut 17 wr.heap.size wr (Below.refl _ _) (by kernel_rfl) (by kernel_rfl) (by kernel_rfl) (by kernel_rfl) ?_
          simp only [List.append, List.take_succ_cons, List.take_zero, List.drop_succ_cons, List.drop_zero]
          repeat (go_big_quiet_step (fail))
          refine wpQuiet_nil ?_
          rintro W4 ⟨x9, hx9⟩
          have hW := x9.h
          rw [← hx9] at hW
          clear hx9 x9
          have H3 := Lib.hid (H2.out.later hW)
          clear H2 hW
          go_wp2_with fail
          go_roundw
          case rel => exact ⟨i + 1, F, by omega, .inl (by omega), by go_num, H3.out, HW.out, SO.out⟩
          case measure => simp [intOf]; omega
    · have HE := Lib.hid (HO.out.mono (Nat.le_refl a) (show b ≤ i by omega))
      go_wp2_with fail
      exact bodyPost_ret (v := .tuple #[]) (by simp [results, Tryd.results52, go_sem]) rfl ⟨rfl, E, H2.out, HW.out, HE.out⟩
end Go.Proofs.YtekedkbjnedhgaaDoor
