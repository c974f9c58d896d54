/- CrcRows: the walk. -/
import Derived.Test.YtmndhllmaoppeaaOpen
import Derived.Deep.RegionWith
import Derived.Deep.DeepMust
import Derived.Outline
namespace Go.Proofs.Ytmndhllmaoppeaa
open Go.ChangeShapes Go.WideShapes Go.ChangeAt Go.RowKit
set_option linter.unusedVariables false

theorem ref_at (A : Option Addr) (c n : Nat) (l : List Nat) (w : World) (B : Nat) (hn : n = l.length) (h : RB w B A l) (hB : B ≤ w.heap.size) (hl : l.length ≤ 1152921504606846975) :
    Calls Try.prog 10 #[.slice A n c] w fun e w' => e = .returned (.int .u32 (Crc.sum l : Nat)) ∧ Below w.heap.size w w' := by
  subst hn
  exact ref_any A c l w (h.more hB) hl

/-- a beginning of a slice of bytes -/
theorem RB.take {w : World} {B : Nat} {A : Option Addr} {l : List Nat} (h : RB w B A l) (k : Nat) : RB w B A (l.take k) := by
  refine ⟨⟨by simp [cellsOf], fun h0 => ?_⟩, fun c hc => h.2 c (List.mem_of_mem_take hc)⟩
  obtain ⟨ad, e, hb, hc⟩ := h.1.2 (by simp at h0; omega)
  refine ⟨ad, e, hb, fun j u hu => hc j u ?_⟩
  simp only [cellsOf, List.getElem?_map, List.getElem?_take] at hu ⊢
  split at hu
  · exact hu
  · cases hu

theorem sum_in (A : Option Addr) (c n : Nat) (l : List Nat) (w W : World) (hb : Below w.heap.size w W) (hn : n = l.length) (h : RB w w.heap.size A l) (hl : l.length ≤ 4611686018427387904) :
    Calls Try.prog 9 #[.slice A n c] W fun e w' => e = .returned (.int .u32 (Crc.sum l : Nat)) ∧ Below w.heap.size w w' :=
  (sum_at A c n l W w.heap.size hn (h.below hb) hb.size hl).mono fun e w' ⟨he, hb'⟩ => ⟨he, hb.trans (hb'.mono hb.size)⟩
theorem ref_in (A : Option Addr) (c n : Nat) (l : List Nat) (w W : World) (hb : Below w.heap.size w W) (hn : n = l.length) (h : RB w w.heap.size A l) (hl : l.length ≤ 1152921504606846975) :
    Calls Try.prog 10 #[.slice A n c] W fun e w' => e = .returned (.int .u32 (Crc.sum l : Nat)) ∧ Below w.heap.size w w' :=
  (ref_at A c n l W w.heap.size hn (h.below hb) hb.size hl).mono fun e w' ⟨he, hb'⟩ => ⟨he, hb.trans (hb'.mono hb.size)⟩

set_option maxHeartbeats 1000000 in
set_option maxRecDepth 100000 in
theorem rows_any (A : Option Addr) (c : Nat) (l : List Nat) (w : World) (h : RB w w.heap.size A l) (hc : l.length ≤ c) (hm : c ≤ 9223372036854775807) :
    Calls Try.prog 3 #[.slice A l.length c] w fun e w' => e = .returned (.bool true) ∧ Below w.heap.size w w' := by
  by_cases g : l.length ≤ 300
  · have d : decide ((300 : Int) < (l.length : Int)) = false := by simp; omega
    have s0 := run_str w w.heap.size A l l.length c rfl h
    go_enter Try.func3, Try.ntmps3
    go_wp2_with fail
    clear s0
    have HH := Lib.hid h
    clear h
    go_loopw [4] (fun i wr => ∃ k : Nat, k ≤ 700 ∧ i = .int .i64 k ∧ Below w.heap.size w wr) (fun i _ => 1000 - (intOf i).toNat)
    case atStart => exact ⟨0, by omega, rfl, Below.refl _ _⟩
    case round =>
      obtain ⟨k, hk, rfl, hbw⟩ := hrel
      by_cases hlt : k ≤ l.length
      · go_wp2_with fail
        have hkc : (k : Int) ≤ (c : Int) := by omega
        have hk0 : (0 : Int) ≤ (k : Int) := by omega
        go_region_with (first
          | (go_at_call 9; refine (sum_in A c k (l.take k) w _ (by exact hbw.drew) (by simp; omega) (HH.out.take k) (by simp; omega)).mono ?_; rintro e w1 ⟨rfl, b1⟩)
          | (go_at_call 10; refine (ref_in A c k (l.take k) w _ b1 (by simp; omega) (HH.out.take k) (by simp; omega)).mono ?_; rintro e w2 ⟨rfl, b2⟩; have s2 := run_str w2 w.heap.size A l l.length c rfl (HH.out.below b2)))
        all_goals
          go_wp2_with fail
          go_roundw
          case rel => exact ⟨k + 1 + k / 8, by omega, by go_num, b2⟩
          case measure => simp [intOf]; omega
      · go_wp2_with (first
          | (go_at_call 9; refine (sum_in A c l.length l w _ hbw rfl HH.out (by omega)).mono ?_; rintro e w1 ⟨rfl, b1⟩)
          | (go_at_call 10; refine (ref_in A c l.length l w _ b1 rfl HH.out (by omega)).mono ?_; rintro e w2 ⟨rfl, b2⟩)
          | (go_at_call 8; refine (told_any _).mono ?_; rintro e w9 ⟨rfl, b9⟩))
        go_ret
        exact ⟨rfl, b2.trans (b9.mono b2.size)⟩
  · have d : decide ((300 : Int) < (l.length : Int)) = true := by simp; omega
    go_enter Try.func3, Try.ntmps3
    go_wp2_with fail
    refine (told_any _).mono ?_
    rintro e w9 ⟨rfl, b9⟩
    go_wp2_with fail
    go_ret
    exact ⟨rfl, b9⟩

theorem rows_walk {H : Type} (enc : TypeId × Value → H) (W : World) (base : Nat) (v0 : Value) (d0 : DataW H) (p0 : List MemPlace)
    (ok0 : Value.okWide Try.prog W .any base 22 v0) (k0 : DataW.Trod enc Try.prog W 0 (fun _ => true) true 22 v0 d0 p0) :
    Calls Try.prog 3 #[v0] W fun e w' => e = .returned (.bool true) ∧ Below W.heap.size W w' := by
  obtain ⟨A0, l0, c0, rfl, r0, m0, n0⟩ := bytes_open ok0 k0
  exact rows_any A0 c0 l0 W r0 m0 n0
end Go.Proofs.Ytmndhllmaoppeaa
