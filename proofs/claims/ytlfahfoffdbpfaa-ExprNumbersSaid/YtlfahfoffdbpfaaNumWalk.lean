/- ExprNumbers: the plain law and the walk, joined, as the frame wants it. -/
import Derived.Test.YtlfahfoffdbpfaaNumA
import Derived.Test.YtlfahfoffdbpfaaNumB
import Derived.Test.YtlfahfoffdbpfaaNumC1
import Derived.Test.YtlfahfoffdbpfaaNumC2
import Derived.Test.YtlfahfoffdbpfaaNumC3
import Derived.Test.YtlfahfoffdbpfaaNumC4
import Derived.Test.YtlfahfoffdbpfaaOrd
import Derived.Test.YtlfahfoffdbpfaaOpen15
namespace Go.Proofs.Ytlfahfoffdbpfaa
open Go.ChangeShapes Go.WideShapes Go.ChangeAt Go.RowKit
set_option linter.unusedVariables false
set_option maxRecDepth 100000

theorem num_good (a : Int) : good (num a) = true := by kernel_rfl
theorem num_if {n : Int} {c : Bool} (h : ((numIf n c).2 == 0) = true) : c = true := by
  cases c
  · exact absurd h (by simp [numIf])
  · rfl
theorem num_if2 (n : Int) (c : Bool) : ((numIf n c).2 == 0) = c := by cases c <;> simp [numIf]
theorem bk_of (a width : Int) (ha : In6 a) : Bk width a (evalR ⟨20, zeroVal, ByteArray.empty, width, none, 1, 0⟩ [num a]).1 (evalR ⟨20, zeroVal, ByteArray.empty, width, none, 1, 0⟩ [num a]).2 := by
  intro g w h
  have k := eval_op 20 (by decide) zeroVal ByteArray.empty width (some ⟨g, 0, none⟩) 1 (.slice none 0 0) (.slice none 0 0) [(litEx (num a), num a)] (by intro x hx; simp at hx; subst hx; exact ha) w (by simp) (re_one (y := litEx (num a)) h) (by intro x hx; simp at hx; subst hx; exact eval_lit w _ _ _ (num_good a))
  exact k
theorem bucket_is (a width : Int) (ha : In6 a) : ((evalR ⟨20, zeroVal, ByteArray.empty, width, none, 1, 0⟩ [num a]).2 = 0 ∧ 1 ≤ width ∧ (evalR ⟨20, zeroVal, ByteArray.empty, width, none, 1, 0⟩ [num a]).1.n ≤ a ∧ wrap64 (a - (evalR ⟨20, zeroVal, ByteArray.empty, width, none, 1, 0⟩ [num a]).1.n) < width ∧ Int.tmod (evalR ⟨20, zeroVal, ByteArray.empty, width, none, 1, 0⟩ [num a]).1.n width = 0) ∨ (evalR ⟨20, zeroVal, ByteArray.empty, width, none, 1, 0⟩ [num a]).2 = 21 ∨ (evalR ⟨20, zeroVal, ByteArray.empty, width, none, 1, 0⟩ [num a]).2 = 43 := by
  by_cases hw : 1 ≤ width ∧ width ≤ 1099511627776
  · have e : evalR ⟨20, zeroVal, ByteArray.empty, width, none, 1, 0⟩ [num a] = bucketT a width := by
      have f : formE ⟨20, zeroVal, ByteArray.empty, width, none, 1, 0⟩ = 0 := by
        unfold formE
        rw [if_neg (by simp), if_pos]
        exact ⟨by kernel_rfl, by kernel_rfl, .inr hw⟩
      unfold evalR
      rw [if_neg (by rw [f]; decide), if_neg (by show ¬ ((20 : Int) = 1); decide)]
      show nodeT 20 width [num a] = bucketT a width
      kernel_rfl
    rw [e]
    unfold bucketT
    have hr := rest_eq a width hw.1
    by_cases hc : -9223372036854775808 + restT a width ≤ a
    · left
      have hin : In6 (a - restT a width) := by unfold In6 at *; omega
      have e2 : numIf (wrap64 (a - restT a width)) (decide (-9223372036854775808 + restT a width ≤ a)) = (num (a - restT a width), 0) := by
        rw [decide_eq_true hc, w6 hin]; rfl
      rw [e2]
      refine ⟨rfl, hw.1, ?_, ?_, ?_⟩
      · show a - restT a width ≤ a; omega
      · show wrap64 (a - (a - restT a width)) < width
        rw [w6 (by unfold In6; omega)]; omega
      · show Int.tmod (a - restT a width) width = 0
        unfold restT
        have h := Int.emod_add_mul_ediv a width
        have : a - a % width = width * (a / width) := by omega
        rw [this]
        exact Int.mul_tmod_right _ _
    · right; right
      rw [decide_eq_false hc]; rfl
  · right; left
    have f : formE ⟨20, zeroVal, ByteArray.empty, width, none, 1, 0⟩ = 21 := by
      unfold formE
      rw [if_neg (by simp), if_neg, if_neg]
      · show ¬ (((1 : Nat) : Int) = aggN 20); decide
      · intro h; rcases h.2.2 with h | h
        · exact h rfl
        · exact hw h
    unfold evalR
    rw [if_pos (by rw [f]; decide), f]

theorem num_core (a b width : Int) (s m d rest kk : Val) (p r ok also : Bool) (e fl : Int) (ha : In6 a) (hb : In6 b) (hw : In6 width)
    (h1 : W2 5 (num a) (num b) s p) (h2 : W2 5 (num b) (num a) s p) (h3 : W2 7 (num a) (num b) m r) (h4 : W2 7 (num b) (num a) m r) (h5 : p = true → W2 6 s (num b) (num a) true)
    (hfl : floatV a b = fl) (hpf : (fl == 0) = p) (h6 : W2 8 (num a) (num b) d ok) (h7 : W2 9 (num a) (num b) rest also)
    (hcase : (b = 0 ∧ also = false ∧ ok = false) ∨ (b = -1 ∧ a = -9223372036854775808 ∧ also = true ∧ ok = false ∧ rest.n = 0) ∨ (b ≠ 0 ∧ (b ≠ -1 ∨ a ≠ -9223372036854775808) ∧ also = true ∧ ok = true ∧ wrap64 (wrap64 (d.n * b) + rest.n) = a ∧ rest.n.natAbs < b.natAbs))
    (h8 : Bk width a kk e) (he : (e = 0 ∧ 1 ≤ width ∧ kk.n ≤ a ∧ wrap64 (a - kk.n) < width ∧ Int.tmod kk.n width = 0) ∨ e = 21 ∨ e = 43) (w : World) :
    Calls Try.prog 4 #[.int .i64 a, .int .i64 b, .int .i64 width] w fun e w' => e = .returned (.bool true) ∧ Below w.heap.size w w' := by
  rcases hcase with ⟨hb0, rfl, rfl⟩ | ⟨hb1, ha1, rfl, rfl, hr⟩ | ⟨hb0, hba, rfl, rfl, hm, hr⟩
  · exact num_A a b width s m d rest kk p r e fl ha.1 ha.2 hb.1 hb.2 hw.1 hw.2 h1 h2 h3 h4 h5 hfl hpf h6 h7 (by simpa using hb0) h8 he w
  · exact num_B a b width s m d rest kk p r e fl ha.1 ha.2 hb.1 hb.2 hw.1 hw.2 h1 h2 h3 h4 h5 hfl hpf h6 h7 (by simp; omega) (by simpa using hb1) (by simpa using ha1) (by simp; omega) (by omega) (by omega) (by omega) (by simp; omega) (by simp; omega) (by simp; omega) h8 he w
  · have t8 : (wrap64 (wrap64 (d.n * b) + rest.n) != a) = false := by simpa using hm
    have t1 : (b != 0) = true := by simpa using hb0
    by_cases hb1 : b = -1
    · exact num_C1 a b width s m d rest kk p r e fl ha.1 ha.2 hb.1 hb.2 hw.1 hw.2 h1 h2 h3 h4 h5 hfl hpf h6 h7 t1 (by simpa using hb1) (by simp; omega) (by simp; omega) (by omega) (by omega) (by omega) (by simp; omega) (by simp; omega) (by simp; omega) t8 h8 he w
    · have t2 : (b != -1) = true := by simpa using hb1
      by_cases hb2 : b = -9223372036854775808
      · exact num_C2 a b width s m d rest kk p r e fl ha.1 ha.2 hb.1 hb.2 hw.1 hw.2 h1 h2 h3 h4 h5 hfl hpf h6 h7 t1 t2 (by simpa using hb2) t8 h8 he w
      · have t4 : (b != -9223372036854775808) = true := by simpa using hb2
        unfold In6 at hb
        by_cases hb3 : 0 ≤ b
        · exact num_C3 a b width s m d rest kk p r e fl ha.1 ha.2 hb.1 hb.2 hw.1 hw.2 h1 h2 h3 h4 h5 hfl hpf h6 h7 t1 t2 t4 (by omega) (by omega) (by simp; omega) (by simp; omega) (by simp; omega) t8 h8 he w
        · exact num_C4 a b width s m d rest kk p r e fl ha.1 ha.2 hb.1 hb.2 hw.1 hw.2 h1 h2 h3 h4 h5 hfl hpf h6 h7 t1 t2 t4 (by omega) (by omega) (by omega) (by simp; omega) (by simp; omega) (by simp; omega) t8 h8 he w
theorem exprNumbers_any (a b width : Int) (ha : In6 a) (hb : In6 b) (hw : In6 width) (w : World) :
    Calls Try.prog 4 #[.int .i64 a, .int .i64 b, .int .i64 width] w fun e w' => e = .returned (.bool true) ∧ Below w.heap.size w w' := by
  have e5 : ∀ x y, evalR ⟨5, zeroVal, ByteArray.empty, 0, none, 2, 0⟩ [num x, num y] = addT x y := fun x y => by kernel_rfl
  have e6 : ∀ x y, evalR ⟨6, zeroVal, ByteArray.empty, 0, none, 2, 0⟩ [num x, num y] = subT x y := fun x y => by kernel_rfl
  have e7 : ∀ x y, evalR ⟨7, zeroVal, ByteArray.empty, 0, none, 2, 0⟩ [num x, num y] = mulT x y := fun x y => by kernel_rfl
  have e8 : ∀ x y, evalR ⟨8, zeroVal, ByteArray.empty, 0, none, 2, 0⟩ [num x, num y] = divZ x y := fun x y => by kernel_rfl
  have e9 : ∀ x y, evalR ⟨9, zeroVal, ByteArray.empty, 0, none, 2, 0⟩ [num x, num y] = modZ x y := fun x y => by kernel_rfl
  have k : ∀ (op : Int) (hop : op ≠ 2) (x y : Int) (r : Val × Int), In6 x → In6 y → evalR ⟨op, zeroVal, ByteArray.empty, 0, none, 2, 0⟩ [num x, num y] = r → W2 op (num x) (num y) r.1 (r.2 == 0) := fun op hop x y r hx hy hr => w2_of op hop (num x) (num y) (num_good x) (num_good y) hx hy r hr
  refine num_core a b width (addT a b).1 (mulT a b).1 (divZ a b).1 (modZ a b).1 _ ((addT a b).2 == 0) ((mulT a b).2 == 0) ((divZ a b).2 == 0) ((modZ a b).2 == 0) _ (floatV a b) ha hb hw
    (k 5 (by decide) a b _ ha hb (e5 a b)) (k 5 (by decide) b a _ hb ha ((e5 b a).trans (add_comm' hb ha))) (k 7 (by decide) a b _ ha hb (e7 a b)) (k 7 (by decide) b a _ hb ha ((e7 b a).trans (mul_comm' hb ha))) ?_ rfl ?_
    (k 8 (by decide) a b _ ha hb (e8 a b)) (k 9 (by decide) a b _ ha hb (e9 a b)) ?_ (bk_of a width ha) (bucket_is a width ha) w
  · intro hp
    rw [add_is ha hb] at hp
    have hin : In6 (a + b) := of_decide_eq_true (num_if hp)
    have : (addT a b).1 = num (a + b) := by rw [add_is ha hb, decide_eq_true hin, w6 hin]; rfl
    rw [this]
    exact k 6 (by decide) (a + b) b (num a, 0) hin hb ((e6 _ _).trans (sub_back ha hb hin))
  · rw [float_is ha hb, add_is ha hb, num_if2]
  · by_cases h0 : b = 0
    · left
      obtain ⟨e, h1, h2⟩ := div_no (a := a) (b := b) (.inl h0)
      refine ⟨h0, ?_, ?_⟩
      · rw [mod_no h0]; rfl
      · rw [h1]; simpa using h2
    · right
      have hm := mod_ok (a := a) h0
      have hr := rest_lt (a := a) h0
      by_cases h1 : b = -1 ∧ a = -9223372036854775808
      · left
        obtain ⟨e, h3, h4⟩ := div_no (a := a) (b := b) (.inr h1)
        refine ⟨h1.1, h1.2, ?_, ?_, ?_⟩
        · rw [hm]; rfl
        · rw [h3]; simpa using h4
        · rw [hm, h1.1, h1.2]; rfl
      · right
        obtain ⟨h3, h4⟩ := div_ok ha h0 (by omega)
        refine ⟨h0, by omega, ?_, ?_, ?_, ?_⟩
        · rw [hm]; rfl
        · rw [h3]; rfl
        · rw [h3, hm]; exact makes_up ha
        · rw [hm]; exact hr
theorem numbers_walk {H : Type} (enc : TypeId × Value → H) (W : World) (base : Nat) (v0 v1 v2 : Value) (d0 d1 d2 : DataW H) (p0 p1 p2 : List MemPlace)
    (ok0 : Value.okWide Try.prog W .any base 2 v0) (ok1 : Value.okWide Try.prog W .any base 2 v1) (ok2 : Value.okWide Try.prog W .any base 2 v2)
    (k0 : DataW.Trod enc Try.prog W 0 (fun _ => true) true 2 v0 d0 p0) (k1 : DataW.Trod enc Try.prog W 0 (fun _ => true) true 2 v1 d1 p1) (k2 : DataW.Trod enc Try.prog W 0 (fun _ => true) true 2 v2 d2 p2) :
    Calls Try.prog 4 #[v0, v1, v2] W fun e w' => e = .returned (.bool true) ∧ Below W.heap.size W w' := by
  obtain ⟨a, rfl, ha⟩ := i64_open ok0 k0
  obtain ⟨b, rfl, hb⟩ := i64_open ok1 k1
  obtain ⟨c, rfl, hc⟩ := i64_open ok2 k2
  exact exprNumbers_any a b c ha hb hc W
end Go.Proofs.Ytlfahfoffdbpfaa
