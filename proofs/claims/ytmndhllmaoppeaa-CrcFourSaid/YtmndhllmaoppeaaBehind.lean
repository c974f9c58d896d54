/- CrcBehind: the walk. -/
import Derived.Test.YtmndhllmaoppeaaRef
import Derived.Test.YtmndhllmaoppeaaBytes
namespace Go.Proofs.Ytmndhllmaoppeaa
open Go.ChangeShapes Go.WideShapes Go.ChangeAt Go.RowKit
set_option linter.unusedVariables false

/-- the sum of an argument, whatever has been made since -/
theorem sum_at (A : Option Addr) (c n : Nat) (l : List Nat) (w : World) (B : Nat) (hn : n = l.length) (h : RB w B A l) (hB : B ≤ w.heap.size) (hl : l.length ≤ 4611686018427387904) :
    Calls Try.prog 9 #[.slice A n c] w fun e w' => e = .returned (.int .u32 (Crc.sum l : Nat)) ∧ Below w.heap.size w w' := by
  subst hn
  exact sum_any A c l w (h.more hB) hl

theorem behind_test (a b l : List Nat) (hl : ∀ c ∈ l, c < 256) : (((Crc.sum a : Nat) : Int) == ((Crc.sum b : Nat) : Int)) = (((Crc.sum (a ++ l) : Nat) : Int) == ((Crc.sum (b ++ l) : Nat) : Int)) := by
  rw [Bool.eq_iff_iff]
  simp only [beq_iff_eq, Int.ofNat_inj]
  exact (Crc.behind a b l hl).symm

set_option maxHeartbeats 1000000 in
set_option maxRecDepth 100000 in
theorem behind_any (A0 A1 A2 : Option Addr) (c0 c1 c2 : Nat) (l0 l1 l2 : List Nat) (w : World) (h0 : RB w w.heap.size A0 l0) (h1 : RB w w.heap.size A1 l1) (h2 : RB w w.heap.size A2 l2)
    (hm0 : l0.length ≤ 9223372036854775807) (hm1 : l1.length ≤ 9223372036854775807) (hm2 : l2.length ≤ 9223372036854775807) :
    Calls Try.prog 5 #[.slice A0 l0.length c0, .slice A1 l1.length c1, .slice A2 l2.length c2] w fun e w' => e = .returned (.bool true) ∧ Below w.heap.size w w' := by
  by_cases g : l0.length ≤ 2000 ∧ l1.length ≤ 2000 ∧ l2.length ≤ 2000
  · obtain ⟨g0, g1, g2⟩ := g
    have d0 : decide ((2000 : Int) < (l0.length : Int)) = false := by simp; omega
    have d1 : decide ((2000 : Int) < (l1.length : Int)) = false := by simp; omega
    have d2 : decide ((2000 : Int) < (l2.length : Int)) = false := by simp; omega
    go_enter Try.func5, Try.ntmps5
    go_wp2_with (first
      | (at_builtin
         refine wpList_append_bytes rfl _ (.tmp 23) (.tmp 24) rfl w.heap.size _ [] rfl (Own.new w [] _ 0 rfl rfl (by simp) (by simp)) w.heap.size A0 c0 _ l0 rfl rfl (h0.alloc (Nat.le_refl _) _) (by simp; omega) (by simp) ?_
         intro v1 w1 o1 b1)
      | (at_builtin
         refine wpList_append_bytes rfl _ (.tmp 25) (.tmp 26) rfl w.heap.size _ ([] ++ l0) rfl o1 w.heap.size A2 c2 _ l2 rfl rfl ((h2.alloc (Nat.le_refl _) _).below b1) (by simp; omega) (Nat.le_trans (by simp) b1.size) ?_
         intro v2 w2 o2 b2)
      | (at_builtin
         have bb2 : Below w.heap.size w w2 := ((Below.refl _ _).alloc (Nat.le_refl _) _).trans (b1.trans b2)
         refine wpList_append_bytes rfl _ (.tmp 28) (.tmp 29) rfl w2.heap.size _ [] rfl (Own.new w2 [] _ 0 rfl rfl (by simp) (by simp)) w.heap.size A1 c1 _ l1 rfl rfl ((h1.below bb2).alloc bb2.size _) (by simp; omega) (by simp) ?_
         intro v3 w3 o3 b3)
      | (at_builtin
         refine wpList_append_bytes rfl _ (.tmp 30) (.tmp 31) rfl w2.heap.size _ ([] ++ l1) rfl o3 w.heap.size A2 c2 _ l2 rfl rfl (((h2.below bb2).alloc bb2.size _).below (b3.mono bb2.size)) (by simp; omega) (Nat.le_trans (by simp) b3.size) ?_
         intro v4 w4 o4 b4))
    have bb4 : Below w2.heap.size w2 w4 := ((Below.refl _ _).alloc (Nat.le_refl _) _).trans (b3.trans b4)
    have bb : Below w.heap.size w w4 := bb2.trans (bb4.mono bb2.size)
    simp only [List.nil_append] at o2 o4
    obtain ⟨B2, k2, rfl, r2, _⟩ := (o2.below bb4 (Nat.le_refl _)).reads
    obtain ⟨B4, k4, rfl, r4, _⟩ := o4.reads
    clear o2 o4 o1 o3
    have T := Lib.hid (behind_test l0 l1 l2 h2.lt)
    refine (sum_at A0 c0 _ l0 _ w.heap.size rfl (h0.below bb) bb.size (by omega)).mono ?_
    rintro e w5 ⟨rfl, b5⟩
    go_wp2_with fail
    have e5 : Below w.heap.size w w5 := bb.trans (b5.mono bb.size)
    refine (sum_at A1 c1 _ l1 _ w.heap.size rfl (h1.below e5) e5.size (by omega)).mono ?_
    rintro e w6 ⟨rfl, b6⟩
    have e6 : Below w.heap.size w w6 := e5.trans (b6.mono e5.size)
    have f6 : Below w4.heap.size w4 w6 := b5.trans (b6.mono b5.size)
    go_wp2_with fail
    refine (sum_at B2 k2 _ (l0 ++ l2) _ w4.heap.size (by simp) (r2.below f6) f6.size (by simp; omega)).mono ?_
    rintro e w7 ⟨rfl, b7⟩
    have f7 : Below w4.heap.size w4 w7 := f6.trans (b7.mono f6.size)
    go_wp2_with fail
    refine (sum_at B4 k4 _ (l1 ++ l2) _ w4.heap.size (by simp) (r4.below f7) f7.size (by simp; omega)).mono ?_
    rintro e w8 ⟨rfl, b8⟩
    have f8 : Below w4.heap.size w4 w8 := f7.trans (b8.mono f7.size)
    have e8 : Below w.heap.size w w8 := bb.trans (f8.mono bb.size)
    rw [T.out]
    have t8 := fun (b : Bool) => (show (b == b) = true from by simp)
    go_wp2_with fail
    refine (told_any _).mono ?_
    rintro e w9 ⟨rfl, b9⟩
    go_wp2_with fail
    go_ret
    exact ⟨rfl, e8.trans (b9.mono e8.size)⟩
  · by_cases g0 : l0.length ≤ 2000
    · have d0 : decide ((2000 : Int) < (l0.length : Int)) = false := by simp; omega
      by_cases g1 : l1.length ≤ 2000
      · have d1 : decide ((2000 : Int) < (l1.length : Int)) = false := by simp; omega
        have d2 : decide ((2000 : Int) < (l2.length : Int)) = true := by simp; omega
        go_enter Try.func5, Try.ntmps5
        go_wp2_with fail
        refine (told_any _).mono ?_
        rintro e w9 ⟨rfl, b9⟩
        go_wp2_with fail
        go_ret
        exact ⟨rfl, b9⟩
      · have d1 : decide ((2000 : Int) < (l1.length : Int)) = true := by simp; omega
        go_enter Try.func5, Try.ntmps5
        go_wp2_with fail
        refine (told_any _).mono ?_
        rintro e w9 ⟨rfl, b9⟩
        go_wp2_with fail
        go_ret
        exact ⟨rfl, b9⟩
    · have d0 : decide ((2000 : Int) < (l0.length : Int)) = true := by simp; omega
      go_enter Try.func5, Try.ntmps5
      go_wp2_with fail
      refine (told_any _).mono ?_
      rintro e w9 ⟨rfl, b9⟩
      go_wp2_with fail
      go_ret
      exact ⟨rfl, b9⟩
end Go.Proofs.Ytmndhllmaoppeaa
