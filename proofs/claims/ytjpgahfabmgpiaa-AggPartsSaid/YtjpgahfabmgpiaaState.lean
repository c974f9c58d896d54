/- agg.State: what its methods do. -/
import Derived.Test.YtjpgahfabmgpiaaOver
import Derived.Test.YtjpgahfabmgpiaaBlk
import Derived.BigRegion
import Derived.Deep.RegionWith
import Derived.Maps.Own
namespace Go.Proofs.Ytjpgahfabmgpiaa
open Go.ChangeShapes Go.WideShapes Go.ChangeAt Go.RowKit
set_option linter.unusedVariables false

/-- what was fed to an aggregate -/
structure St where
  op : Int
  all : Int
  count : Int
  sum : Int
  a : Val
  b : Val
  found : Bool

def St.cells (s : St) : Array Value := #[.int .u8 s.op, .int .i64 s.all, .int .i64 s.count, .int .u64 (hi s.sum), .int .u64 (lo s.sum), .int .u8 s.a.k, .int .i64 s.a.n, .string s.a.s, .int .u8 s.b.k, .int .i64 s.b.n, .string s.b.s, .bool s.found]

/-- the state lies at block p -/
def StAt (w : World) (p : Nat) (s : St) : Prop := Blk w p 60 s.cells

set_option maxHeartbeats 1000000 in
theorem or_two (x y : Int) (w : World) : Calls Try.prog 20 #[.slice (some ⟨w.heap.size, 0, none⟩) 2 2] (w.alloc (.cells #[.int .i64 x, .int .i64 y] 3)) fun e w' =>
    e = .returned (.int .i64 (or2 x y)) ∧ w' = w.alloc (.cells #[.int .i64 x, .int .i64 y] 3) := by
  unfold or2
  have q1 : ∀ u : Int, u ≠ 0 → ((u != 0) = true) := fun u h => by simp [h]
  by_cases h1 : x = 0
  · subst h1
    by_cases h2 : y = 0
    · subst h2
      go_enter Try.func20, Try.ntmps20
      go_wp2
      refine wp_loop_rounds 3 ?_
      iterate 3 (rw [rounds_succ]; go_wp2)
      go_ret
      exact ⟨rfl, rfl⟩
    · have := q1 y h2
      go_enter Try.func20, Try.ntmps20
      go_wp2
      refine wp_loop_rounds 3 ?_
      iterate 2 (rw [rounds_succ]; go_wp2)
      go_ret
      exact ⟨rfl, rfl⟩
  · have := q1 x h1
    go_enter Try.func20, Try.ntmps20
    go_wp2
    refine wp_loop_rounds 3 ?_
    rw [rounds_succ]
    go_wp2
    go_ret
    exact ⟨rfl, rfl⟩

theorem cmpI_bd (a b : Int) : -1 ≤ cmpI a b ∧ cmpI a b ≤ 1 := by unfold cmpI; split <;> (try split) <;> omega
theorem cmpS_bd (a b : ByteArray) : -1 ≤ cmpS a b ∧ cmpS a b ≤ 1 := by unfold cmpS; split <;> (try split) <;> omega
theorem vcmp_bd (a b : Val) : -1 ≤ vcmp a b ∧ vcmp a b ≤ 1 := by
  have h1 := cmpI_bd a.k b.k
  have h2 := cmpI_bd a.n b.n
  have h3 := cmpS_bd a.s b.s
  unfold vcmp or3; split <;> (try split) <;> assumption

/-- which of two pairs is better, for the state s: below 0: the new one -/
def St.rank (s : St) (a b : Val) : Int := or2 (vcmp b s.b) (vcmp a s.a)
def St.better (s : St) (a b : Val) : Bool := !s.found || decide ((if s.op = 25 ∨ s.op = 28 then -(s.rank a b) else s.rank a b) < 0)
def St.take (s : St) (a b : Val) : St := if s.better a b then { s with a := a, b := b, found := true } else s

theorem Blk.ext {W : World} {g : Nat} {t : TypeId} {cs : Array Value} (h : Blk W g t cs) (x : Ext W.heap.size W) (i : Nat) : x.w.cell? ⟨g, i, none⟩ = cs[i]? := (x.cell (p := ⟨g, i, none⟩) h.lt).trans (h.cell i)

/-- the cells of a state -/
theorem StAt.cells_ {w : World} {p : Nat} {s : St} (h : StAt w p s) : w.cell? ⟨p, 0, none⟩ = some (.int .u8 s.op) ∧ w.cell? ⟨p, 1, none⟩ = some (.int .i64 s.all) ∧ w.cell? ⟨p, 2, none⟩ = some (.int .i64 s.count) ∧ w.cell? ⟨p, 3, none⟩ = some (.int .u64 (hi s.sum)) ∧ w.cell? ⟨p, 4, none⟩ = some (.int .u64 (lo s.sum)) ∧
    w.cell? ⟨p, 5, none⟩ = some (.int .u8 s.a.k) ∧ w.cell? ⟨p, 6, none⟩ = some (.int .i64 s.a.n) ∧ w.cell? ⟨p, 7, none⟩ = some (.string s.a.s) ∧ w.cell? ⟨p, 8, none⟩ = some (.int .u8 s.b.k) ∧ w.cell? ⟨p, 9, none⟩ = some (.int .i64 s.b.n) ∧ w.cell? ⟨p, 10, none⟩ = some (.string s.b.s) ∧ w.cell? ⟨p, 11, none⟩ = some (.bool s.found) :=
  ⟨h.cell 0, h.cell 1, h.cell 2, h.cell 3, h.cell 4, h.cell 5, h.cell 6, h.cell 7, h.cell 8, h.cell 9, h.cell 10, h.cell 11⟩
theorem StAt.free {w : World} {p : Nat} {s : St} (h : StAt w p s) (i : Nat) : w.frozen? ⟨p, i, none⟩ = false := Blk.frozen h i
theorem val_cells {w : World} {g : Nat} {t : TypeId} {k n : Int} {s : ByteArray} (h : Blk w g t #[.int .u8 k, .int .i64 n, .string s]) : w.cell? ⟨g, 0, none⟩ = some (.int .u8 k) ∧ w.cell? ⟨g, 1, none⟩ = some (.int .i64 n) ∧ w.cell? ⟨g, 2, none⟩ = some (.string s) := ⟨h.cell 0, h.cell 1, h.cell 2⟩

theorem take_done {W : World} {p : Nat} {s : St} {a b : Val} (h : StAt W p s) : StAt ((((((((W.setCell ⟨p, 5, none⟩ (.int .u8 a.k)).setCell ⟨p, 6, none⟩ (.int .i64 a.n)).setCell ⟨p, 7, none⟩ (.string a.s)).setCell ⟨p, 8, none⟩ (.int .u8 b.k)).setCell ⟨p, 9, none⟩ (.int .i64 b.n)).setCell ⟨p, 10, none⟩ (.string b.s)).setCell ⟨p, 11, none⟩ (.bool true)).drew) p { s with a := a, b := b, found := true } := by
  have h1 := (((((((Blk.set_ h 5 (.int .u8 a.k)).set_ 6 (.int .i64 a.n)).set_ 7 (.string a.s)).set_ 8 (.int .u8 b.k)).set_ 9 (.int .i64 b.n)).set_ 10 (.string b.s)).set_ 11 (.bool true)).drew
  have e : (((((((s.cells.setIfInBounds 5 (.int .u8 a.k)).setIfInBounds 6 (.int .i64 a.n)).setIfInBounds 7 (.string a.s)).setIfInBounds 8 (.int .u8 b.k)).setIfInBounds 9 (.int .i64 b.n)).setIfInBounds 10 (.string b.s)).setIfInBounds 11 (.bool true)) = St.cells { s with a := a, b := b, found := true } := by
    simp [St.cells]
  rw [e] at h1
  exact h1
theorem take_grown {w W : World} {p : Nat} {v5 v6 v7 v8 v9 v10 v11 : Value} (h : w.grownBy W (some p)) : w.grownBy (((((((W.setCell ⟨p, 5, none⟩ v5).setCell ⟨p, 6, none⟩ v6).setCell ⟨p, 7, none⟩ v7).setCell ⟨p, 8, none⟩ v8).setCell ⟨p, 9, none⟩ v9).setCell ⟨p, 10, none⟩ v10).setCell ⟨p, 11, none⟩ v11) (some p) :=
  grown_set (grown_set (grown_set (grown_set (grown_set (grown_set (grown_set h 5 _) 6 _) 7 _) 8 _) 9 _) 10 _) 11 _

set_option maxHeartbeats 2000000 in
set_option maxRecDepth 100000 in
theorem take_any (p : Nat) (s : St) (a b : Val) (w : World) (h : StAt w p s) :
    Calls Try.prog 25 #[.pointer (some ⟨p, 0, none⟩), .agg #[.int .u8 a.k, .int .i64 a.n, .string a.s], .agg #[.int .u8 b.k, .int .i64 b.n, .string b.s]] w fun e w' =>
      e = .returned (.tuple #[]) ∧ StAt w' p (s.take a b) ∧ w.grownBy w' (some p) := by
  have HT : Hid (s.take a b = if s.better a b then { s with a := a, b := b, found := true } else s) := rfl
  have hr := vcmp_bd b s.b
  have hr2 := vcmp_bd a s.a
  have hcv : -1 ≤ s.rank a b ∧ s.rank a b ≤ 1 := by unfold St.rank or2; split <;> assumption
  obtain ⟨op, all, count, sum, sa, sb, found⟩ := s
  go_enter Try.func25, Try.ntmps25
  go_wp2_with fail
  have hS : StAt ((w.alloc (.cells #[.int .u8 a.k, .int .i64 a.n, .string a.s] 26)).alloc (.cells #[.int .u8 b.k, .int .i64 b.n, .string b.s] 26)) p _ := (Blk.alloc h _).alloc _
  have hA := (Blk.new w 26 #[.int .u8 a.k, .int .i64 a.n, .string a.s]).alloc (.cells #[.int .u8 b.k, .int .i64 b.n, .string b.s] 26)
  have hB := Blk.new (w.alloc (.cells #[.int .u8 a.k, .int .i64 a.n, .string a.s] 26)) 26 #[.int .u8 b.k, .int .i64 b.n, .string b.s]
  have hg : w.grownBy ((w.alloc (.cells #[.int .u8 a.k, .int .i64 a.n, .string a.s] 26)).alloc (.cells #[.int .u8 b.k, .int .i64 b.n, .string b.s] 26)) (some p) := grown_alloc (grown_alloc (grown_below (Below.refl _ _)) _) _
  rw [World.size_alloc] at hB
  have hp1 : p ≠ w.heap.size := by have := Blk.lt h; omega
  have hp2 : p ≠ w.heap.size + 1 := by have := Blk.lt h; omega
  clear h
  generalize (w.alloc (.cells #[.int .u8 a.k, .int .i64 a.n, .string a.s] 26)).alloc (.cells #[.int .u8 b.k, .int .i64 b.n, .string b.s] 26) = W at *
  have cS := fun x : Ext W.heap.size W => StAt.cells_ (Blk.later hS x.h)
  have cA := fun x : Ext W.heap.size W => val_cells (hA.later x.h)
  have cB := fun x : Ext W.heap.size W => val_cells (hB.later x.h)
  refine region_cut 12 W.heap.size W (Below.refl _ _) (by kernel_rfl) (by kernel_rfl) (by kernel_rfl) (by kernel_rfl) ?_
  simp only [List.take_succ_cons, List.take_zero, List.drop_succ_cons, List.drop_zero]
  repeat (go_big_quiet_step (first
    | (go_at_call_of 11 b.k; exact calls_later (Nat.le_refl _) (compare_any b sb _))
    | (go_at_call_of 11 a.k; exact calls_later (Nat.le_refl _) (compare_any a sa _))))
  refine wpQuiet_nil ?_
  rintro W2 ⟨x, hx⟩
  have hW := x.h
  rw [← hx] at hW
  clear cS cA cB hx x
  have hS2 := Blk.later hS hW
  have hA2 := hA.later hW
  have hB2 := hB.later hW
  have hg2 := grown_trans hg (grown_below (p := p) hW)
  clear hS hA hB hg hW
  go_wp2_with fail
  refine (or_two _ _ _).mono ?_
  rintro e w' ⟨rfl, rfl⟩
  have hS := Blk.alloc hS2 (.cells #[.int .i64 (vcmp b sb), .int .i64 (vcmp a sa)] 3)
  have hA := Blk.alloc hA2 (.cells #[.int .i64 (vcmp b sb), .int .i64 (vcmp a sa)] 3)
  have hB := Blk.alloc hB2 (.cells #[.int .i64 (vcmp b sb), .int .i64 (vcmp a sa)] 3)
  have hg := grown_alloc hg2 (.cells #[.int .i64 (vcmp b sb), .int .i64 (vcmp a sa)] 3)
  clear hS2 hA2 hB2 hg2
  have HR := Lib.hid (show St.rank ⟨op, all, count, sum, sa, sb, found⟩ a b = or2 (vcmp b sb) (vcmp a sa) from rfl)
  rw [HR.out] at hcv
  generalize W2.alloc (.cells #[.int .i64 (vcmp b sb), .int .i64 (vcmp a sa)] 3) = W3 at *
  generalize or2 (vcmp b sb) (vcmp a sa) = rk at *
  have cS := StAt.cells_ hS
  have cA := val_cells hA
  have cB := val_cells hB
  have fr := StAt.free hS
  have HB := Lib.hid (show St.better ⟨op, all, count, sum, sa, sb, found⟩ a b = (!found || decide ((if op = 25 ∨ op = 28 then -(St.rank ⟨op, all, count, sum, sa, sb, found⟩ a b) else St.rank ⟨op, all, count, sum, sa, sb, found⟩ a b) < 0)) from rfl)
  by_cases hop : op = 25 ∨ op = 28
  · have hor : ((op == 25) = true) ∨ ((op == 25) = false ∧ (op == 28) = true) := by
      by_cases h25 : op = 25
      · exact .inl (by rw [h25]; rfl)
      · exact .inr ⟨by rw [beq_eq_false_iff_ne]; exact h25, by rw [beq_iff_eq]; omega⟩
    cases found
    · rcases hor with o1 | ⟨o1, o2⟩
      all_goals
        go_wp2_with fail
        go_region
        go_wp2_with fail
        go_end0
        rw [HT.out, if_pos (by rw [HB.out]; rfl)]
        exact ⟨rfl, take_done hS, grown_drew (take_grown hg)⟩
    · by_cases hlt : -rk < 0
      · have q1 : decide (-rk < 0) = true := by simpa using hlt
        rcases hor with o1 | ⟨o1, o2⟩
        all_goals
          go_wp2_with fail
          go_region
          go_wp2_with fail
          go_end0
          rw [HT.out, if_pos (by rw [HB.out, HR.out, if_pos hop, q1]; rfl)]
          exact ⟨rfl, take_done hS, grown_drew (take_grown hg)⟩
      · have q1 : decide (-rk < 0) = false := by simpa using hlt
        rcases hor with o1 | ⟨o1, o2⟩
        all_goals
          go_wp2_with fail
          go_end0
          rw [HT.out, if_neg (by rw [HB.out, HR.out, if_pos hop, q1]; decide)]
          exact ⟨rfl, hS, hg⟩
  · have o1 : (op == 25) = false := by rw [beq_eq_false_iff_ne]; omega
    have o2 : (op == 28) = false := by rw [beq_eq_false_iff_ne]; omega
    cases found
    · go_wp2_with fail
      go_region
      go_wp2_with fail
      go_end0
      rw [HT.out, if_pos (by rw [HB.out]; rfl)]
      exact ⟨rfl, take_done hS, grown_drew (take_grown hg)⟩
    · by_cases hlt : rk < 0
      · have q1 : decide (rk < 0) = true := by simpa using hlt
        go_wp2_with fail
        go_region
        go_wp2_with fail
        go_end0
        rw [HT.out, if_pos (by rw [HB.out, HR.out, if_neg hop, q1]; rfl)]
        exact ⟨rfl, take_done hS, grown_drew (take_grown hg)⟩
      · have q1 : decide (rk < 0) = false := by simpa using hlt
        go_wp2_with fail
        go_end0
        rw [HT.out, if_neg (by rw [HB.out, HR.out, if_neg hop, q1]; decide)]
        exact ⟨rfl, hS, hg⟩
end Go.Proofs.Ytjpgahfabmgpiaa
