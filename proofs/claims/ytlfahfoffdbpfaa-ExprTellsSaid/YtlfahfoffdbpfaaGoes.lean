/- expr.goes on two kinds; slices.Clone, IndexFunc, DeleteFunc, Compact where it calls them. -/
import Derived.Test.YtlfahfoffdbpfaaForm2
import Derived.Lib.SliceRun
namespace Go.Proofs.Ytlfahfoffdbpfaa
open Go.ChangeShapes Go.WideShapes Go.ChangeAt Go.RowKit
set_option linter.unusedVariables false
set_option linter.unusedSimpArgs false

theorem is_null (t : Int) (w : World) : Calls Try.prog 89 #[.int .u8 t] w fun e w' => e = .returned (.bool (t == 0)) ∧ w = w' := by
  go_enter Try.func89, Try.ntmps89
  go_wp2
  go_ret
  exact ⟨rfl, rfl⟩
theorem enter_null (args : Array Value) (w : World) : (callFunc 89 args).run Try.prog w = .ok (.enter 89 args) w := by kernel_rfl

/-- where the first Null of two is -/
def firstNull (a b : Int) : Int := if a = 0 then 0 else if b = 0 then 1 else -1
set_option maxHeartbeats 1000000 in
set_option maxRecDepth 100000 in
theorem indexNull_any (g c : Nat) (a b : Int) (w : World) (h0 : w.cell? ⟨g, 0, none⟩ = some (.int .u8 a)) (h1 : w.cell? ⟨g, 1, none⟩ = some (.int .u8 b)) :
    Calls Try.prog 101 #[.slice (some ⟨g, 0, none⟩) 2 c, .func (.func 89) #[] #[]] w fun e w' => e = .returned (.int .i64 (firstNull a b)) ∧ w = w' := by
  unfold firstNull
  cases ha : (a == 0)
  · have ha' : ¬ a = 0 := by simpa using ha
    rw [if_neg ha']
    cases hb : (b == 0)
    · have hb' : ¬ b = 0 := by simpa using hb
      rw [if_neg hb']
      have k1 := is_null a
      have k2 := is_null b
      rw [ha] at k1
      rw [hb] at k2
      have K1 := Lib.hid k1
      have K2 := Lib.hid k2
      clear k1 k2 ha' hb'
      go_enter Try.func101, Try.ntmps101
      go_wp2_with fail
      refine wp_loop_rounds 3 ?_
      rw [rounds_succ]
      go_wp2_with fail
      refine (K1.out _).mono ?_
      rintro e w1 ⟨rfl, rfl⟩
      go_wp2_with fail
      rw [rounds_succ]
      go_wp2_with fail
      refine (K2.out _).mono ?_
      rintro e w1 ⟨rfl, rfl⟩
      go_wp2_with fail
      rw [rounds_succ]
      go_wp2_with fail
      go_ret
      exact ⟨rfl, rfl⟩
    · have hb' : b = 0 := by simpa using hb
      rw [if_pos hb']
      have k1 := is_null a
      have k2 := is_null b
      rw [ha] at k1
      rw [hb] at k2
      have K1 := Lib.hid k1
      have K2 := Lib.hid k2
      clear k1 k2 ha' hb'
      go_enter Try.func101, Try.ntmps101
      go_wp2_with fail
      refine wp_loop_rounds 3 ?_
      rw [rounds_succ]
      go_wp2_with fail
      refine (K1.out _).mono ?_
      rintro e w1 ⟨rfl, rfl⟩
      go_wp2_with fail
      rw [rounds_succ]
      go_wp2_with fail
      refine (K2.out _).mono ?_
      rintro e w1 ⟨rfl, rfl⟩
      go_wp2_with fail
      go_ret
      exact ⟨rfl, rfl⟩
  · have ha' : a = 0 := by simpa using ha
    rw [if_pos ha']
    have k1 := is_null a
    rw [ha] at k1
    have K1 := Lib.hid k1
    clear k1 ha'
    go_enter Try.func101, Try.ntmps101
    go_wp2_with fail
    refine wp_loop_rounds 3 ?_
    rw [rounds_succ]
    go_wp2_with fail
    refine (K1.out _).mono ?_
    rintro e w1 ⟨rfl, rfl⟩
    go_wp2_with fail
    go_ret
    exact ⟨rfl, rfl⟩

theorem zero_u8 (w : World) : (zeroValue 5).run Try.prog w = .ok (.int .u8 0) w := by kernel_rfl
theorem clear_run (w : World) (g o n c : Nat) (cs : Array Value) (h : Blk w g 5 cs) (hn : 0 < n) (hs : o + n ≤ cs.size) :
    (Builtin.clear_ #[57] 0 #[.slice (some ⟨g, o, none⟩) n c]).run Try.prog w = .ok (.tuple #[]) (w.setCells g o (List.replicate n (.int .u8 0))) :=
  Go.Lib.run_clear_slice w 57 5 0 (.int .u8 0) Try.underlying57 zero_u8 rfl rfl g o n c hn (fun j hj => by rw [h.cell, Array.getElem?_eq_getElem (by omega)]; rfl) (fun j hj => h.frozen _)
theorem setCells_below {B : Nat} {w0 : World} (g : Nat) (hg : B ≤ g) : ∀ (vs : List Value) (o : Nat) (w : World), Below B w0 w → Below B w0 (w.setCells g o vs)
  | [], o, w, h => h
  | v :: vs, o, w, h => by
    rw [World.setCells]
    exact setCells_below g hg vs (o + 1) _ (h.setCell (p := ⟨g, o, none⟩) hg v)

def DelPost (g c : Nat) (w : World) (e : Ending) (w' : World) : Prop := ∃ n, n ≤ 1 ∧ e = .returned (.slice (some ⟨g, 0, none⟩) n c) ∧ Below g w w'
set_option maxHeartbeats 2000000 in
set_option maxRecDepth 100000 in
theorem delete_any (g c : Nat) (a b : Int) (cs : Array Value) (w : World) (h : Blk w g 5 cs) (hsz : 2 ≤ cs.size) (h0 : cs[0]? = some (.int .u8 a)) (h1 : cs[1]? = some (.int .u8 b)) (hc : 2 ≤ c) (hab : a = 0 ∨ b = 0) :
    Calls Try.prog 87 #[.slice (some ⟨g, 0, none⟩) 2 c, .func (.func 89) #[] #[]] w (DelPost g c w) := by
  have c0 := (h.cell 0).trans h0
  have c1 := (h.cell 1).trans h1
  have fz := h.frozen
  have ki := indexNull_any g c a b w c0 c1
  have k2 := is_null b
  cases ha : (a == 0)
  · have ha' : ¬ a = 0 := by simpa using ha
    have hb' : b = 0 := by omega
    have e0 : firstNull a b = 1 := by simp [firstNull, ha', hb']
    rw [e0] at ki
    have KI := Lib.hid ki
    have hcl := clear_run w g 1 1 (c - 1) cs h (by omega) (by omega)
    have hB := setCells_below g (Nat.le_refl g) (List.replicate 1 (.int .u8 0)) 1 w (Below.refl g w)
    clear ki k2 e0 ha' hb' hab
    generalize w.setCells g 1 (List.replicate 1 (.int .u8 0)) = W at *
    go_enter Try.func87, Try.ntmps87
    go_wp2_with fail
    refine KI.out.mono ?_
    rintro e w1 ⟨rfl, rfl⟩
    go_wp2_with fail
    refine wp_loop_rounds 3 ?_
    rw [rounds_succ]
    go_wp2_with fail
    go_ret
    exact ⟨1, Nat.le_refl _, rfl, hB⟩
  · have ha' : a = 0 := by simpa using ha
    have e0 : firstNull a b = 0 := by simp [firstNull, ha']
    rw [e0] at ki
    have KI := Lib.hid ki
    clear ki e0 ha' hab
    cases hb : (b == 0)
    · rw [hb] at k2
      have K2 := Lib.hid k2
      clear k2
      have hs := h.set_ 0 (.int .u8 b)
      have hcl := clear_run (w.setCell ⟨g, 0, none⟩ (.int .u8 b)) g 1 1 (c - 1) _ hs (by omega) (by simp; omega)
      have hB := setCells_below g (Nat.le_refl g) (List.replicate 1 (.int .u8 0)) 1 _ ((Below.refl g w).setCell (p := ⟨g, 0, none⟩) (Nat.le_refl g) (.int .u8 b))
      generalize (w.setCell ⟨g, 0, none⟩ (.int .u8 b)).setCells g 1 (List.replicate 1 (.int .u8 0)) = W at *
      go_enter Try.func87, Try.ntmps87
      go_wp2_with fail
      refine KI.out.mono ?_
      rintro e w1 ⟨rfl, rfl⟩
      go_wp2_with fail
      refine wp_loop_rounds 3 ?_
      rw [rounds_succ]
      go_wp2_with fail
      refine (K2.out _).mono ?_
      rintro e w1 ⟨rfl, rfl⟩
      go_wp2_with fail
      rw [rounds_succ]
      go_wp2_with fail
      go_ret
      exact ⟨1, Nat.le_refl _, rfl, hB⟩
    · rw [hb] at k2
      have K2 := Lib.hid k2
      clear k2
      have hcl := clear_run w g 0 2 c cs h (by omega) (by omega)
      have hB := setCells_below g (Nat.le_refl g) (List.replicate 2 (.int .u8 0)) 0 w (Below.refl g w)
      generalize w.setCells g 0 (List.replicate 2 (.int .u8 0)) = W at *
      go_enter Try.func87, Try.ntmps87
      go_wp2_with fail
      refine KI.out.mono ?_
      rintro e w1 ⟨rfl, rfl⟩
      go_wp2_with fail
      refine wp_loop_rounds 3 ?_
      rw [rounds_succ]
      go_wp2_with fail
      refine (K2.out _).mono ?_
      rintro e w1 ⟨rfl, rfl⟩
      go_wp2_with fail
      rw [rounds_succ]
      go_wp2_with fail
      go_ret
      exact ⟨0, by omega, rfl, hB⟩

set_option maxHeartbeats 1000000 in
set_option maxRecDepth 100000 in
theorem delete_none (g c : Nat) (a b : Int) (w : World) (c0 : w.cell? ⟨g, 0, none⟩ = some (.int .u8 a)) (c1 : w.cell? ⟨g, 1, none⟩ = some (.int .u8 b)) (ha : a ≠ 0) (hb : b ≠ 0) :
    Calls Try.prog 87 #[.slice (some ⟨g, 0, none⟩) 2 c, .func (.func 89) #[] #[]] w fun e w' => e = .returned (.slice (some ⟨g, 0, none⟩) 2 c) ∧ w = w' := by
  have ki := indexNull_any g c a b w c0 c1
  have e0 : firstNull a b = -1 := by simp [firstNull, ha, hb]
  rw [e0] at ki
  have KI := Lib.hid ki
  clear ki e0
  go_enter Try.func87, Try.ntmps87
  go_wp2_with fail
  refine KI.out.mono ?_
  rintro e w1 ⟨rfl, rfl⟩
  go_wp2_with fail
  go_ret
  exact ⟨rfl, rfl⟩

set_option maxHeartbeats 1000000 in
set_option maxRecDepth 100000 in
theorem compact_short (g c n : Nat) (hn : n ≤ 1) (w : World) : Calls Try.prog 90 #[.slice (some ⟨g, 0, none⟩) n c] w fun e w' => e = .returned (.slice (some ⟨g, 0, none⟩) n c) ∧ w = w' := by
  have d1 : decide ((n : Int) < 2) = true := by simp; omega
  go_enter Try.func90, Try.ntmps90
  go_wp2_with fail
  go_ret
  exact ⟨rfl, rfl⟩
end Go.Proofs.Ytlfahfoffdbpfaa
