/- CrcFour: the walk. -/
import Derived.Test.YtmndhllmaoppeaaNoughts
import Derived.Deep.RegionLaw
import Derived.Test.YtmndhllmaoppeaaExt
import Derived.IntWalk
import Derived.WalkSmall
import Derived.Laws.StructEq
import Derived.MapKept
namespace Go.Proofs.Ytmndhllmaoppeaa
open Go.ChangeShapes Go.WideShapes Go.ChangeAt Go.RowKit
set_option linter.unusedVariables false

/-- the end of a slice of bytes -/
theorem RB.drop {w : World} {B : Nat} {A : Option Addr} {l : List Nat} (h : RB w B A l) (k c : Nat) (hk : k ≤ l.length) (hc : l.length ≤ c) : RB w B (if c = k then A else A.map (·.add k)) (l.drop k) := by
  refine ⟨⟨by simp [cellsOf], fun h0 => ?_⟩, fun c hc => h.2 c (List.mem_of_mem_drop hc)⟩
  simp only [List.length_drop] at h0
  obtain ⟨ad, rfl, hb, hcell⟩ := h.1.2 (by omega)
  rw [if_neg (by omega)]
  refine ⟨ad.add k, rfl, by rw [block_of_add]; exact hb, fun j u hu => ?_⟩
  rw [add_of_add]
  refine hcell _ u ?_
  rw [← hu]
  simp only [cellsOf, List.getElem?_map, List.getElem?_drop]

theorem RB.drop4 {w : World} {B : Nat} {A : Option Addr} {l : List Nat} (h : RB w B A l) (k c : Nat) (hk : k + 4 ≤ l.length) (hc : l.length ≤ c) :
    RB w B (if c = k + 4 then A else Option.map (fun x => { block := x.block, off := x.off + (k + 3 + 1) }) A) (l.drop (k + 4)) := by
  have := h.drop (k + 4) c hk hc
  have e : (fun x : Addr => x.add (k + 4)) = (fun x => { block := x.block, off := x.off + (k + 3 + 1) }) := by
    funext x
    unfold Addr.add
    rw [if_neg (by omega)]
  rw [e] at this
  exact this

theorem beq_str (a b : ByteArray) : (a.toList == b.toList) = true ↔ a = b := by
  rw [← beq_toListBytes]
  exact MapKept.bytes_beq a b

theorem four_test (k : Nat) (l : List Nat) (b0 b1 b2 b3 : Nat) (hk : k + 4 ≤ l.length) (hl : ∀ c ∈ l, c < 256) (h0 : b0 < 256) (h1 : b1 < 256) (h2 : b2 < 256) (h3 : b3 < 256) :
    (((Crc.sum ([] ++ List.take k l ++ [b0, b1, b2, b3] ++ List.drop (k + 4) l) : Nat) : Int) == ((Crc.sum l : Nat) : Int)) = ((strOf ([] ++ List.take k l ++ [b0, b1, b2, b3] ++ List.drop (k + 4) l)).toList == (strOf l).toList) := by
  have e : l = List.take k l ++ (l.drop k).take 4 ++ List.drop (k + 4) l := by
    conv => lhs; rw [← List.take_append_drop k l, ← List.take_append_drop 4 (l.drop k)]
    rw [List.drop_drop, List.append_assoc]
  have hf : ∀ x ∈ [b0, b1, b2, b3], x < 256 := by intro c hc; simp at hc; omega
  have key := Crc.four (l.take k) (l.drop (k + 4)) [b0, b1, b2, b3] ((l.drop k).take 4) rfl (by simp; omega) hf (fun x hx => hl x (List.mem_of_mem_drop (List.mem_of_mem_take hx))) (fun x hx => hl x (List.mem_of_mem_drop hx))
  rw [List.nil_append, Bool.eq_iff_iff]
  simp only [beq_iff_eq, Int.ofNat_inj]
  rw [← e] at key
  rw [key]
  constructor
  · intro hh
    rw [hh, ← e]
  · intro hh0
    have hh := (beq_str _ _).1 (beq_iff_eq.2 hh0)
    have := strOf_inj (fun x hx => by
      rcases List.mem_append.1 hx with hx | hx
      · rcases List.mem_append.1 hx with hx | hx
        · exact hl x (List.mem_of_mem_take hx)
        · exact hf x hx
      · exact hl x (List.mem_of_mem_drop hx)) hl hh
    have h5 : List.take k l ++ [b0, b1, b2, b3] ++ List.drop (k + 4) l = List.take k l ++ (l.drop k).take 4 ++ List.drop (k + 4) l := this.trans e
    exact List.append_cancel_left (List.append_cancel_right h5)

set_option maxHeartbeats 1000000 in
set_option maxRecDepth 100000 in
theorem four_any (A : Option Addr) (c : Nat) (l : List Nat) (n : Int) (b0 b1 b2 b3 : Nat) (w : World) (h : RB w w.heap.size A l) (hc : l.length ≤ c) (hm : c ≤ 9223372036854775807) (hn0 : 0 ≤ n) (hn : n ≤ 65535)
    (h0 : b0 < 256) (h1 : b1 < 256) (h2 : b2 < 256) (h3 : b3 < 256) :
    Calls Try.prog 4 #[.slice A l.length c, .int .u16 n, .agg #[.int .u8 b0, .int .u8 b1, .int .u8 b2, .int .u8 b3]] w fun e w' => e = .returned (.bool true) ∧ Below w.heap.size w w' := by
  by_cases g4 : 4 ≤ l.length
  · have d4 : decide ((l.length : Int) < 4) = false := by simp; omega
    by_cases g : l.length ≤ 4200
    · have d : decide ((4200 : Int) < (l.length : Int)) = false := by simp; omega
      have hpos : (0 : Int) < (l.length : Int) - 3 := by omega
      go_enter Try.func4, Try.ntmps4
      go_wp2_with fail
      obtain ⟨k, hk⟩ : ∃ k : Nat, n % ((l.length : Int) - 3) = (k : Int) := ⟨(n % ((l.length : Int) - 3)).toNat, by have := Int.emod_nonneg n (show (l.length : Int) - 3 ≠ 0 by omega); omega⟩
      have hk4 : k + 4 ≤ l.length := by have := Int.emod_lt_of_pos n hpos; omega
      rw [hk]
      clear hk
      have w1 : IntKind.i64.wrap ((k : Int) + 4) = (k : Int) + 4 := IntWalk.i64_in _ (by omega)
      have w2 : ((k : Int) + 4).toNat = k + 4 := by omega
      have w3 : (k : Int) ≤ (c : Int) := by omega
      have w4 : (k : Int) + 4 ≤ (l.length : Int) := by omega
      have w5 : (0 : Int) ≤ (k : Int) + 4 := by omega
      generalize n % ((l.length : Int) - 3) = k0 at *
      go_quiet (fail)
      obtain ⟨A2, hA2, r2⟩ : ∃ A2, (if c = k + 4 then A else Option.map (fun x => { block := x.block, off := x.off + (k + 3 + 1) }) A) = A2 ∧ RB w w.heap.size A2 (l.drop (k + 4)) := ⟨_, rfl, h.drop4 k c hk4 hc⟩
      rw [hA2]
      clear hA2
      have bb : Below w.heap.size w ((w.alloc (.cells #[.int .u8 b0, .int .u8 b1, .int .u8 b2, .int .u8 b3] 28)).drewN nq) := below_drewN ((Below.refl _ _).alloc (Nat.le_refl _) _) nq
      have r4 : RB ((w.alloc (.cells #[.int .u8 b0, .int .u8 b1, .int .u8 b2, .int .u8 b3] 28)).drewN nq) (w.heap.size + 1) (some ⟨w.heap.size, 0, none⟩) [b0, b1, b2, b3] := by
        have := RB.new w [b0, b1, b2, b3] 28 (0, 0) (by intro c hc; simp at hc; omega)
        simp [cellsOf] at this
        exact this.drewN nq
      have hsz : ((w.alloc (.cells #[.int .u8 b0, .int .u8 b1, .int .u8 b2, .int .u8 b3] 28)).drewN nq).heap.size = w.heap.size + 1 := by simp
      have HZ := Lib.hid hsz
      clear hsz
      generalize (w.alloc (.cells #[.int .u8 b0, .int .u8 b1, .int .u8 b2, .int .u8 b3] 28)).drewN nq = W at *
      clear w1 w2
      go_wp2_with fail
      have rt : RB W w.heap.size A (l.take k) := (h.below bb).take k
      have rd : RB W w.heap.size A2 (l.drop (k + 4)) := r2.below bb
      have hW : w.heap.size + 1 ≤ W.heap.size := by rw [HZ.out]; exact Nat.le_refl _
      have HW : w.heap.size ≤ W.heap.size := by omega
      have lt : (l.take k).length = k := by simp; omega
      have ld : (l.drop (k + 4)).length = l.length - (k + 4) := by simp
      have RT := Lib.hid rt
      have RD := Lib.hid rd
      have LT := Lib.hid lt
      have LD := Lib.hid ld
      have R4 := Lib.hid r4
      have HW2 := Lib.hid hW
      clear rt rd lt ld r4 hW r2
      go_region_law (first
        | (refine step_append_bytes rfl _ (.tmp 33) (.tmp 34) rfl W.heap.size (.slice (some ⟨W.heap.size, 0, none⟩) 0 0) [] (by simp [Act.eval]) (Own.new W.drew [] _ 0 rfl rfl (by simp) (by simp)) w.heap.size A c k (l.take k) (by simp [Act.eval]) LT.out.symm ((RT.out.drewN 1).alloc HW _) (by simp; omega) (by simp) ?_
           intro v1 w1 o1 q1
           have B1 : Below W.heap.size W w1 := (((Below.refl _ _).drew).alloc (Nat.le_refl _) _).trans q1)
        | (refine step_append_bytes rfl _ (.tmp 35) (.tmp 36) rfl W.heap.size v1 ([] ++ l.take k) (by simp [Act.eval]) o1 (w.heap.size + 1) _ 4 4 [b0, b1, b2, b3] (by simp [Act.eval]) rfl (R4.out.below (B1.mono HW2.out)) (by simp; omega) B1.size ?_
           intro v2 w2 o2 q2
           have B2 : Below W.heap.size W w2 := B1.trans q2)
        | (refine step_append_bytes rfl _ (.tmp 37) (.tmp 38) rfl W.heap.size v2 ([] ++ l.take k ++ [b0, b1, b2, b3]) (by simp [Act.eval]) o2 w.heap.size A2 (c - (k + 4)) (l.length - (k + 4)) (l.drop (k + 4)) (by simp [Act.eval]) LD.out.symm (RD.out.below (B2.mono HW)) (by simp; omega) B2.size ?_
           intro v3 w3 o3 q3
           have B3 : Below W.heap.size W w3 := B2.trans q3))
      obtain ⟨A3, c3, rfl, r3, _⟩ := o3.reads
      clear o3
      have hl := (h.below (bb.trans (B3.mono HW))).more (bb.trans (B3.mono HW)).size
      have e3 : Below w.heap.size w w3 := bb.trans (B3.mono HW)
      have RL := LD.out
      have LTo := LT.out
      obtain ⟨R, hR⟩ : ∃ R, R = [] ++ List.take k l ++ [b0, b1, b2, b3] ++ List.drop (k + 4) l := ⟨_, rfl⟩
      rw [← hR] at r3 ⊢
      have RR := Lib.hid hR
      have hRl : R.length = l.length := by rw [hR]; simp; omega
      rw [hRl]
      have HL := Lib.hid hRl
      clear RL LTo hRl hR RT RD LT LD R4 HW2 HZ B3 q3 B2 q2 B1 q1 o1 o2
      have sR := fun x : Ext w3.heap.size w3 => run_str x.w _ A3 R l.length c3 HL.out.symm (r3.below x.h)
      have sL := fun x : Ext w3.heap.size w3 => run_str x.w _ A l l.length c rfl (hl.below x.h)
      have HR := Lib.hid r3
      have HLL := Lib.hid hl
      have TT := four_test k l b0 b1 b2 b3 hk4 h.lt h0 h1 h2 h3
      rw [← RR.out] at TT
      have TI := Lib.hid TT
      clear r3 hl TT
      go_wp2_with fail
      have TT := TI.out
      simp only [List.getElem_toArray, List.getElem_cons_succ, List.getElem_cons_zero, Act.put, List.setIfInBounds_toArray, List.set_cons_succ, List.set_cons_zero]
      refine wp_region_ext w3.heap.size w3 (Below.refl _ _) (by kernel_rfl) (by kernel_rfl) ?_
      repeat (go_big_quiet_step (first
        | (go_at_call_of 9 A3; exact calls_ext (sum_in A3 c3 l.length R w3 _ (Ext.h _) HL.out.symm HR.out (by rw [HL.out]; omega)))
        | (go_at_call_of 9 A; exact calls_ext (sum_in A c l.length l w3 _ (Ext.h _) rfl HLL.out (by omega)))
        | (go_at_call 8; exact calls_ext ((told_any _).mono fun e w' ⟨he, hb⟩ => ⟨he, (Ext.h _).trans (hb.mono (Ext.h _).size)⟩))))
      refine wpQuiet_nil ?_
      rintro _ ⟨x, rfl⟩
      go_wp2_with fail
      go_ret
      exact ⟨rfl, e3.trans (x.h.mono e3.size)⟩
    · have d : decide ((4200 : Int) < (l.length : Int)) = true := by simp; omega
      go_enter Try.func4, Try.ntmps4
      go_wp2_with fail
      refine (told_any _).mono ?_
      rintro e w9 ⟨rfl, b9⟩
      go_wp2_with fail
      go_ret
      exact ⟨rfl, ((Below.refl _ _).alloc (Nat.le_refl _) _).trans (b9.mono (by simp))⟩
  · have d4 : decide ((l.length : Int) < 4) = true := by simp; omega
    go_enter Try.func4, Try.ntmps4
    go_wp2_with fail
    refine (told_any _).mono ?_
    rintro e w9 ⟨rfl, b9⟩
    go_wp2_with fail
    go_ret
    exact ⟨rfl, ((Below.refl _ _).alloc (Nat.le_refl _) _).trans (b9.mono (by simp))⟩
end Go.Proofs.Ytmndhllmaoppeaa
