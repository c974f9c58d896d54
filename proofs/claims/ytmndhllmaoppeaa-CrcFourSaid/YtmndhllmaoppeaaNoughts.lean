/- CrcNoughts: the walk. -/
import Derived.Test.YtmndhllmaoppeaaRowsWalk
namespace Go.Proofs.Ytmndhllmaoppeaa
open Go.ChangeShapes Go.WideShapes Go.ChangeAt Go.RowKit
set_option linter.unusedVariables false

theorem made_bytes (n : Nat) : (madeCells (Value.cells (.int .u8 0)) (n * 1)).toList = cellsOf (List.replicate n 0) := by
  rw [show Value.cells (.int .u8 0) = #[.int .u8 0] from rfl, toList_madeCells_one, Nat.mul_one]
  simp [cellsOf]

theorem wpList_make_bytes {ops : Array Oper} {rest : List Oper} {o : Oper} {a : Act} {Q : Exit → Act → World → Prop} (hg : o.guard = none) (w : World) (x y : Operand) (hop : o.op = Op.makeSlice 22 x y)
    (N : Int) (n : Nat) (hx : a.eval x = .int .i64 N) (hy : a.eval y = .int .i64 N) (hN : N = (n : Int)) (hn : n ≤ 140737488355328)
    (hK : ∀ w', Own w' w.heap.size (.slice (some ⟨w.heap.size, 0, none⟩) n n) (List.replicate n 0) → Below w.heap.size w w' → wpList Try.prog ops Q rest (a.put o.dst (.slice (some ⟨w.heap.size, 0, none⟩) n n)) w') :
    wpList Try.prog ops Q (o :: rest) a w := by
  obtain ⟨i0, hi0, hz0, hz1, hz2⟩ := info_parts byte_info
  refine wpList_make_full w hg x y 22 hop w.heap.size 5 i0 _ 1 Try.underlying22 hi0 hz0 hz1 .i64 .i64 N N n hx hy hN hN (by rw [hz2]; omega) (by unfold maxLen; omega) (Nat.le_refl _) ?_
  intro w' h1 h2
  refine hK w' ⟨?_, fun c hc => by rw [List.eq_of_mem_replicate hc]; omega⟩ ((Below.refl _ _).grown h2 (Nat.le_refl _) (by simp))
  rw [made_bytes] at h1
  rw [List.length_replicate]
  exact h1

theorem noughts_test (n m : Nat) (hn : n ≤ 3000) (hm : m ≤ 3000) (b : List Nat) (hb : ∀ c ∈ b, c < 256) :
    (((Crc.sum (List.replicate n 0 ++ b) : Nat) : Int) == ((Crc.sum (List.replicate m 0 ++ b) : Nat) : Int)) = ((n : Int) + (b.length : Int) == (m : Int) + (b.length : Int)) := by
  rw [Bool.eq_iff_iff]
  simp only [beq_iff_eq, Int.ofNat_inj]
  rw [Crc.noughts n m hn hm b hb]
  omega

set_option maxHeartbeats 1000000 in
set_option maxRecDepth 100000 in
theorem noughts_any (A : Option Addr) (c : Nat) (l : List Nat) (n m : Int) (w : World) (h : RB w w.heap.size A l) (hc : l.length ≤ 9223372036854775807) (hn0 : 0 ≤ n) (hn : n ≤ 65535) (hm0 : 0 ≤ m) (hm : m ≤ 65535) :
    Calls Try.prog 6 #[.slice A l.length c, .int .u16 n, .int .u16 m] w fun e w' => e = .returned (.bool true) ∧ Below w.heap.size w w' := by
  by_cases g : l.length ≤ 1000
  · have d : decide ((1000 : Int) < (l.length : Int)) = false := by simp; omega
    obtain ⟨n', hn'⟩ : ∃ k : Nat, n % 3001 = (k : Int) := ⟨(n % 3001).toNat, by omega⟩
    obtain ⟨m', hm'⟩ : ∃ k : Nat, m % 3001 = (k : Int) := ⟨(m % 3001).toNat, by omega⟩
    have bn : n' ≤ 3000 := by omega
    have bm : m' ≤ 3000 := by omega
    have T := Lib.hid (noughts_test n' m' bn bm l h.lt)
    go_enter Try.func6, Try.ntmps6
    go_wp2_with (first
      | (at_make
         refine wpList_make_bytes rfl _ (.tmp 15) (.tmp 15) rfl _ n' rfl rfl (by first | rfl | exact hn') (by omega) ?_
         intro w1 o1 b1)
      | (at_builtin
         refine wpList_append_bytes rfl _ (.tmp 16) (.tmp 17) rfl w.heap.size _ (List.replicate n' 0) rfl o1 w.heap.size A c _ l rfl rfl (h.below b1) (by simp; omega) b1.size ?_
         intro v2 w2 o2 b2
         have e2 : Below w.heap.size w w2 := b1.trans b2)
      | (at_make
         refine wpList_make_bytes rfl _ (.tmp 21) (.tmp 21) rfl _ m' rfl rfl (by first | rfl | exact hm') (by omega) ?_
         intro w3 o3 b3)
      | (at_builtin
         refine wpList_append_bytes rfl _ (.tmp 22) (.tmp 23) rfl w2.heap.size _ (List.replicate m' 0) rfl o3 w.heap.size A c _ l rfl rfl ((h.below e2).below (b3.mono e2.size)) (by simp; omega) b3.size ?_
         intro v4 w4 o4 b4))
    have bb4 : Below w2.heap.size w2 w4 := b3.trans b4
    have e4 : Below w.heap.size w w4 := e2.trans (bb4.mono e2.size)
    obtain ⟨B2, k2, rfl, r2, _⟩ := (o2.below bb4 (Nat.le_refl _)).reads
    obtain ⟨B4, k4, rfl, r4, _⟩ := o4.reads
    clear o2 o4 o1 o3
    refine (sum_at B2 k2 _ (List.replicate n' 0 ++ l) _ w4.heap.size (by simp) r2 (Nat.le_refl _) (by simp; omega)).mono ?_
    rintro e w7 ⟨rfl, b7⟩
    go_wp2_with fail
    refine (sum_at B4 k4 _ (List.replicate m' 0 ++ l) _ w4.heap.size (by simp) (r4.below b7) b7.size (by simp; omega)).mono ?_
    rintro e w8 ⟨rfl, b8⟩
    have f8 : Below w4.heap.size w4 w8 := b7.trans (b8.mono b7.size)
    have e8 : Below w.heap.size w w8 := e4.trans (f8.mono e4.size)
    have t1 := T.out
    go_wp2_with fail
    refine (told_any _).mono ?_
    rintro e w9 ⟨rfl, b9⟩
    go_wp2_with fail
    go_ret
    exact ⟨rfl, e8.trans (b9.mono e8.size)⟩
  · have d : decide ((1000 : Int) < (l.length : Int)) = true := by simp; omega
    go_enter Try.func6, Try.ntmps6
    go_wp2_with fail
    refine (told_any _).mono ?_
    rintro e w9 ⟨rfl, b9⟩
    go_wp2_with fail
    go_ret
    exact ⟨rfl, b9⟩

theorem noughts_walk {H : Type} (enc : TypeId × Value → H) (W : World) (base : Nat) (v0 v1 v2 : Value) (d0 d1 d2 : DataW H) (p0 p1 p2 : List MemPlace)
    (ok0 : Value.okWide Try.prog W .any base 22 v0) (ok1 : Value.okWide Try.prog W .any base 27 v1) (ok2 : Value.okWide Try.prog W .any base 27 v2)
    (k0 : DataW.Trod enc Try.prog W 0 (fun _ => true) true 22 v0 d0 p0) (k1 : DataW.Trod enc Try.prog W 0 (fun _ => true) true 27 v1 d1 p1) (k2 : DataW.Trod enc Try.prog W 0 (fun _ => true) true 27 v2 d2 p2) :
    Calls Try.prog 6 #[v0, v1, v2] W fun e w' => e = .returned (.bool true) ∧ Below W.heap.size W w' := by
  obtain ⟨A0, l0, c0, rfl, r0, m0, n0⟩ := bytes_open ok0 k0
  obtain ⟨n, rfl, rfl, rfl, wn⟩ := open_int Try.underlying27 ok1 k1
  obtain ⟨m, rfl, rfl, rfl, wm⟩ := open_int Try.underlying27 ok2 k2
  have hn : 0 ≤ n ∧ n ≤ 65535 := by simpa [Lit.wf, IntKind.min, IntKind.max, IntKind.signed, IntKind.bits] using wn
  have hm : 0 ≤ m ∧ m ≤ 65535 := by simpa [Lit.wf, IntKind.min, IntKind.max, IntKind.signed, IntKind.bits] using wm
  exact noughts_any A0 c0 l0 n m W r0 (by omega) hn.1 hn.2 hm.1 hm.2
end Go.Proofs.Ytmndhllmaoppeaa
