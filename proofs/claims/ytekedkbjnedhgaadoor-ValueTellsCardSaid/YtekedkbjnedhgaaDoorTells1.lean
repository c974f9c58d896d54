/- ValueTells: the walk. -/
import Derived.Test.YtekedkbjnedhgaaDoorWordR
import Derived.Test.YtekedkbjnedhgaaDoorOpen1
import Derived.Test.YtekedkbjnedhgaaDoorLaid
import Derived.Deep.DeepCutAuto
namespace Go.Proofs.YtekedkbjnedhgaaDoor
open Go.ChangeShapes Go.WideShapes Go.ChangeAt Go.RowKit
set_option linter.unusedVariables false
set_option linter.unusedSimpArgs false
set_option maxRecDepth 100000

set_option maxHeartbeats 4000000 in
theorem valueTells_any (a b : Val) (ha : a.Ok) (hb : b.Ok) (w : World) (hE : Env w) : Calls Tryd.prog 3 #[.agg #[.int .u8 a.k, .int .i64 a.n, .string a.s], .agg #[.int .u8 b.k, .int .i64 b.n, .string b.s]] w fun e w' => e = .returned (.bool true) ∧ Below w.heap.size w w' := by
  have hX := (Blk.new w 23 #[.int .u8 a.k, .int .i64 a.n, .string a.s]).alloc (.cells #[.int .u8 b.k, .int .i64 b.n, .string b.s] 23)
  have hY := Blk.new (w.alloc (.cells #[.int .u8 a.k, .int .i64 a.n, .string a.s] 23)) 23 #[.int .u8 b.k, .int .i64 b.n, .string b.s]
  rw [World.size_alloc] at hY
  have hB := Later.then (later_new w (.cells #[.int .u8 a.k, .int .i64 a.n, .string a.s] 23)) (later_new _ (.cells #[.int .u8 b.k, .int .i64 b.n, .string b.s] 23))
  have HE := Lib.hid hE
  clear hE
  go_enter Tryd.func3, Tryd.ntmps3
  go_upto_region 1 with fail
  generalize (w.alloc (.cells #[.int .u8 a.k, .int .i64 a.n, .string a.s] 23)).alloc (.cells #[.int .u8 b.k, .int .i64 b.n, .string b.s] 23) = W at *
  generalize w.heap.size + 1 = gy at *
  obtain ⟨x0, x1, x2⟩ := val_cells hX
  obtain ⟨y0, y1, y2⟩ := val_cells hY
  have fin : a.s.size ≤ 300 → b.s.size ≤ 300 → True := fun _ _ => trivial
  by_cases h1 : 300 < a.s.size
  · have t1 : decide ((300 : Int) < a.s.size) = true := by simp; omega
    clear h1
    go_wp2_with fail
    refine (wakes_any _ (HE.out.later hB)).mono ?_
    rintro e_ w9 ⟨rfl, b9⟩
    go_wp2_with fail
    go_ret
    exact ⟨rfl, Later.then hB b9⟩
  have t1 : decide ((300 : Int) < a.s.size) = false := by simp; omega
  by_cases h2 : 300 < b.s.size
  · have t2 : decide ((300 : Int) < b.s.size) = true := by simp; omega
    clear h2 h1
    go_wp2_with fail
    refine (wakes_any _ (HE.out.later hB)).mono ?_
    rintro e_ w9 ⟨rfl, b9⟩
    go_wp2_with fail
    go_ret
    exact ⟨rfl, Later.then hB b9⟩
  have t2 : decide ((300 : Int) < b.s.size) = false := by simp; omega
  have hsz : a.s.size < 4294967281 := by omega
  go_upto_region 3 with fail
  clear t1 t2 x0 x1 x2 y0 y1 y2
  have x0 := fun q : Ext W.heap.size W => val_cells (hX.later q.h)
  have y0 := fun q : Ext W.heap.size W => val_cells (hY.later q.h)
  have hs1 := fun q : Ext W.heap.size W => (HE.out.later (Later.then hB q.h))
  refine region_cut 24 W.heap.size W (Below.refl _ _) (by kernel_rfl) (by kernel_rfl) (by kernel_rfl) (by kernel_rfl) ?_
  simp only [List.append, List.take_succ_cons, List.take_zero, List.drop_succ_cons, List.drop_zero]
  repeat (go_big_quiet_step (fail))
  go_big_quiet_step ((go_at_call 9; exact calls_later (Nat.le_refl _) (good_any a _)))
  repeat (go_big_quiet_step (fail))
  go_big_quiet_step ((go_at_call 10; exact calls_later (Nat.le_refl _) (goodR_any a _)))
  repeat (go_big_quiet_step (fail))
  go_big_quiet_step ((go_at_call 11; exact calls_later (Nat.le_refl _) (compare_any a b _)))
  repeat (go_big_quiet_step (fail))
  go_big_quiet_step ((go_at_call 12; exact calls_later (Nat.le_refl _) (compareR_any a b _)))
  repeat (go_big_quiet_step (fail))
  go_big_quiet_step ((go_at_call 13; exact calls_later (v := .string ⟨(wordL a).toArray⟩) (Nat.le_refl _) (word_any a ha hsz _ (hs1 _))))
  repeat (go_big_quiet_step (fail))
  go_big_quiet_step ((go_at_call 14; exact calls_later (v := .string ⟨(wordL a).toArray⟩) (Nat.le_refl _) (wordR_any a ha hsz _)))
  repeat (go_big_quiet_step (fail))
  go_big_quiet_step ((go_at_call 8; exact calls_later (Nat.le_refl _) (wakes_any _ (hs1 _))))
  repeat (go_big_quiet_step (fail))
  refine wpQuiet_nil ?_
  rintro V4 ⟨x9, hx9⟩
  have hW := x9.h
  rw [← hx9] at hW
  clear hx9 x9
  go_wp2_with fail
  go_ret
  exact ⟨rfl, Later.then hB hW⟩

theorem valueTells_walk {H : Type} (enc : TypeId × Value → H) (W : World) (base : Nat) (v0 v1 : Value) (d0 d1 : DataW H) (p0 p1 : List MemPlace)
    (ok0 : Value.okWide Tryd.prog W .any base 23 v0) (ok1 : Value.okWide Tryd.prog W .any base 23 v1)
    (k0 : DataW.Trod enc Tryd.prog W 0 (fun _ => true) true 23 v0 d0 p0) (k1 : DataW.Trod enc Tryd.prog W 0 (fun _ => true) true 23 v1 d1 p1) (hE : Env W) :
    Calls Tryd.prog 3 #[v0, v1] W fun e w' => e = .returned (.bool true) ∧ Below W.heap.size W w' := by
  obtain ⟨a, rfl, ha, _⟩ := val_open ok0 k0
  obtain ⟨b, rfl, hb, _⟩ := val_open ok1 k1
  exact valueTells_any a b ha hb W hE
end Go.Proofs.YtekedkbjnedhgaaDoor
