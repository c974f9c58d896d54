/- expr.goes on two kinds. -/
import Derived.Test.YtlfahfoffdbpfaaGoes
namespace Go.Proofs.Ytlfahfoffdbpfaa
open Go.ChangeShapes Go.WideShapes Go.ChangeAt Go.RowKit
set_option linter.unusedVariables false
set_option linter.unusedSimpArgs false

set_option maxHeartbeats 1000000 in
set_option maxRecDepth 100000 in
theorem compact_two (g c : Nat) (a b : Int) (cs : Array Value) (w : World) (h : Blk w g 5 cs) (hsz : 2 ≤ cs.size) (h0 : cs[0]? = some (.int .u8 a)) (h1 : cs[1]? = some (.int .u8 b)) (hc : 2 ≤ c) :
    Calls Try.prog 90 #[.slice (some ⟨g, 0, none⟩) 2 c] w fun e w' => e = .returned (.slice (some ⟨g, 0, none⟩) (if a = b then 1 else 2) c) ∧ Below g w w' := by
  have c0 := fun y : Ext w.heap.size w => ((h.later y.h).cell 0).trans h0
  have c1 := fun y : Ext w.heap.size w => ((h.later y.h).cell 1).trans h1
  cases hab : (b == a)
  · have hab' : ¬ a = b := fun e => by simp [e] at hab
    rw [if_neg hab']
    clear hab'
    go_enter Try.func90, Try.ntmps90
    go_wp2_with fail
    refine wp_loop_rounds 3 ?_
    rw [rounds_succ]
    go_wp2_with fail
    refine region_cut 10 w.heap.size w (Below.refl _ _) (by kernel_rfl) (by kernel_rfl) (by kernel_rfl) (by kernel_rfl) ?_
    simp only [List.take_succ_cons, List.take_zero, List.drop_succ_cons, List.drop_zero]
    repeat (go_big_quiet_step (fail))
    refine wpQuiet_nil ?_
    rintro W2 ⟨y2, hy2⟩
    have hW := y2.h
    rw [← hy2] at hW
    clear hy2 y2 c0 c1
    go_wp2_with fail
    rw [rounds_succ]
    go_wp2_with fail
    go_ret
    exact ⟨rfl, hW.mono (Nat.le_of_lt h.lt)⟩
  · have hab' : a = b := by have := hab; simp at this; exact this.symm
    rw [if_pos hab']
    clear hab'
    go_enter Try.func90, Try.ntmps90
    go_wp2_with fail
    refine wp_loop_rounds 3 ?_
    rw [rounds_succ]
    go_wp2_with fail
    refine region_cut 10 w.heap.size w (Below.refl _ _) (by kernel_rfl) (by kernel_rfl) (by kernel_rfl) (by kernel_rfl) ?_
    simp only [List.take_succ_cons, List.take_zero, List.drop_succ_cons, List.drop_zero]
    repeat (go_big_quiet_step (fail))
    refine wpQuiet_nil ?_
    rintro W2 ⟨y2, hy2⟩
    have hW := y2.h
    rw [← hy2] at hW
    clear hy2 y2 c0 c1
    have h2 := h.later hW
    have hcl := clear_run W2 g 1 1 (c - 1) cs h2 (by omega) (by omega)
    have hB := setCells_below g (Nat.le_refl g) (List.replicate 1 (.int .u8 0)) 1 W2 (hW.mono (Nat.le_of_lt h.lt))
    generalize W2.setCells g 1 (List.replicate 1 (.int .u8 0)) = W3 at *
    go_wp2_with fail
    refine wp_loop_rounds 3 ?_
    rw [rounds_succ]
    go_wp2_with fail
    go_ret
    exact ⟨rfl, hB⟩

theorem u8_info : (Try.prog.info? 5).map (fun i => (i.zero, i.size, i.bytes)) = some (some (.int .u8 0), 1, 1) := by kernel_rfl
def ClonePost (a b : Int) (w : World) (e : Ending) (w' : World) : Prop := ∃ g c cs, e = .returned (.slice (some ⟨g, 0, none⟩) 2 c) ∧ w.heap.size ≤ g ∧ Blk w' g 5 cs ∧ cs[0]? = some (.int .u8 a) ∧ cs[1]? = some (.int .u8 b) ∧ 2 ≤ cs.size ∧ 2 ≤ c ∧ Below w.heap.size w w'
set_option maxHeartbeats 1000000 in
set_option maxRecDepth 100000 in
theorem clone_any (p off c : Nat) (a b : Int) (w : World) (hp : p < w.heap.size) (h0 : w.cell? ⟨p, off, none⟩ = some (.int .u8 a)) (h1 : w.cell? ⟨p, off + 1, none⟩ = some (.int .u8 b)) :
    Calls Try.prog 88 #[.slice (some ⟨p, off, none⟩) 2 c] w (ClonePost a b w) := by
  obtain ⟨i0, hi0, hz0, hz1, hz2⟩ := info_parts u8_info
  have hB := later_new w (.cells #[] 5)
  have hown : (w.alloc (.cells #[] 5)).ownsRow w.heap.size 5 1 (.slice (some ⟨w.heap.size, 0, none⟩) 0 0) 0 [] := ⟨by simp, .inr ⟨w.heap.size, 0, #[], rfl, Nat.le_refl _, heap_alloc_new w _, Nat.le_refl _, by unfold maxLen; omega, rfl, rfl⟩⟩
  have hrd : Reads (w.alloc (.cells #[] 5)) w.heap.size 1 (some ⟨p, off, none⟩) 2 [.int .u8 a, .int .u8 b] := by
    refine ⟨rfl, fun _ => ⟨_, rfl, hp, fun j u hu => ?_⟩⟩
    match j, hu with
    | 0, hu => simp at hu; subst hu; exact (hB.cell (p := ⟨p, off, none⟩) hp).trans h0
    | 1, hu => simp at hu; subst hu; exact (hB.cell (p := ⟨p, off + 1, none⟩) hp).trans h1
    | (n + 2), hu => simp at hu
  have HW := Lib.hid hown
  have HR := Lib.hid hrd
  clear hown hrd
  have hnil : (binOp .eql 57 (.slice (some ⟨p, off, none⟩) 2 c) (.slice none 0 0)).run Try.prog w = .ok (.bool false) w := Go.Lib.run_eql_slice_nil w 57 5 (some ⟨p, off, none⟩) 2 c 0 0 Try.underlying57
  go_enter Try.func88, Try.ntmps88
  go_wp2_with (first
    | (at_builtin
       refine wpList_append_any _ rfl (.tmp 5) (.tmp 6) 57 rfl w.heap.size 5 i0 (.int .u8 0) 1 1 Try.underlying57 hi0 hz0 hz1 hz2 rfl (by omega) (.slice (some ⟨w.heap.size, 0, none⟩) 0 0) 0 [] rfl HW.out w.heap.size (some ⟨p, off, none⟩) 2 c [.int .u8 a, .int .u8 b] rfl HR.out (by simp [Value.oneCell']) (by unfold maxLen; omega) (by omega) (by simp) ?_
       intro v2 w2 o2 g2 _
       have O2 := Lib.hid o2
       have G2 := Lib.hid g2
       clear o2 g2 HW HR))
  go_ret
  rcases O2.out.2 with ⟨_, hz⟩ | ⟨g, cap, cur, rfl, hb, hg, hn, hm, hs, ht⟩
  · omega
  · refine ⟨g, cap, cur, rfl, hb, hg, ?_, ?_, by omega, hn, ?_⟩
    · have := congrArg (fun l => l[0]?) ht
      simp at this
      simpa using this
    · have := congrArg (fun l => l[1]?) ht
      simp at this
      simpa using this
    · refine hB.trans ⟨G2.out.os, G2.out.tape, G2.out.output, G2.out.size, fun k hk => G2.out.block k (by simp; omega) fun e => ?_⟩
      simp [Value.ownBlock] at e
      omega

/-- whether two kinds go with one another -/
def goes2 (a b : Int) : Bool := a == 0 || b == 0 || a == b
set_option maxHeartbeats 1000000 in
set_option maxRecDepth 100000 in
theorem goes_any (p off c : Nat) (a b : Int) (w : World) (hp : p < w.heap.size) (h0 : w.cell? ⟨p, off, none⟩ = some (.int .u8 a)) (h1 : w.cell? ⟨p, off + 1, none⟩ = some (.int .u8 b)) :
    Calls Try.prog 45 #[.slice (some ⟨p, off, none⟩) 2 c] w fun e w' => e = .returned (.bool (goes2 a b)) ∧ Below w.heap.size w w' := by
  go_enter Try.func45, Try.ntmps45
  go_wp2_with fail
  refine (clone_any p off c a b _ hp h0 h1).mono ?_
  rintro e w1 ⟨g, c1, cs, rfl, hg, hb, e0, e1, hs, hc1, b1⟩
  clear h0 h1
  by_cases hz : a = 0 ∨ b = 0
  · go_wp2_with fail
    refine (delete_any g c1 a b cs _ hb hs e0 e1 hc1 hz).mono ?_
    rintro e w2 ⟨n, hn, rfl, b2⟩
    go_wp2_with fail
    refine (compact_short g c1 n hn _).mono ?_
    rintro e w3 ⟨rfl, rfl⟩
    have d1 : decide ((n : Int) ≤ 1) = true := by simp; omega
    have HG := Lib.hid (show goes2 a b = true by rcases hz with rfl | rfl <;> simp [goes2])
    clear hz
    go_wp2_with fail
    go_ret
    exact ⟨by rw [HG.out]; rfl, b1.trans (b2.mono hg)⟩
  · have ha : a ≠ 0 := fun e => hz (.inl e)
    have hb0 : b ≠ 0 := fun e => hz (.inr e)
    have c0' := (hb.cell 0).trans e0
    have c1' := (hb.cell 1).trans e1
    go_wp2_with fail
    refine (delete_none g c1 a b _ c0' c1' ha hb0).mono ?_
    rintro e w2 ⟨rfl, rfl⟩
    clear c0' c1'
    go_wp2_with fail
    refine (compact_two g c1 a b cs _ hb hs e0 e1 hc1).mono ?_
    rintro e w3 ⟨rfl, b3⟩
    have HG := Lib.hid (show goes2 a b = decide (a = b) by rw [Bool.eq_iff_iff]; simp [goes2, ha, hb0])
    by_cases hab : a = b
    · have HA := Lib.hid hab
      rw [if_pos hab]
      clear hab
      go_wp2_with fail
      go_ret
      exact ⟨by rw [HG.out, decide_eq_true HA.out]; rfl, b1.trans (b3.mono hg)⟩
    · have HA := Lib.hid hab
      rw [if_neg hab]
      clear hab
      go_wp2_with fail
      go_ret
      exact ⟨by rw [HG.out, decide_eq_false HA.out]; rfl, b1.trans (b3.mono hg)⟩
end Go.Proofs.Ytlfahfoffdbpfaa
