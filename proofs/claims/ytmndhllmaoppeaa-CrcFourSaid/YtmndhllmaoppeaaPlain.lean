/- The plain laws of the sum: four bits at a time is one bit at a time; a step is one to one; four bytes are told by the sum. No program is named here. -/
import Derived.Below
namespace Go.Proofs.Ytmndhllmaoppeaa.Crc

/-- what four bits that fall out add -/
def T : List Nat := [0, 79764919, 159529838, 222504665, 319059676, 398814059, 445009330, 507990021, 638119352, 583659535, 797628118, 726387553, 890018660, 835552979, 1015980042, 944750013]
def t (i : Nat) : Nat := T.getD i 0

/-- four bits more -/
def step (v f : Nat) : Nat := (v * 16 % 4294967296) ^^^ t ((v / 268435456) ^^^ f)
/-- one byte more -/
def byte (v c : Nat) : Nat := step (step v (c / 16)) (c % 16)
def run (v : Nat) (l : List Nat) : Nat := l.foldl byte v
def sum (l : List Nat) : Nat := 4294967295 - run 4294967295 l

/-- one bit more, as the document has it -/
def bit (v : Nat) (b : Bool) : Nat := (v * 2 % 4294967296) ^^^ (if b != decide (2147483648 ≤ v) then 79764919 else 0)

theorem t_lt (i : Nat) : t i < 4294967296 := by
  unfold t
  by_cases h : i < 16
  · have : ∀ i, i < 16 → T.getD i 0 < 4294967296 := by decide
    exact this i h
  · rw [List.getD_eq_getElem?_getD, List.getElem?_eq_none (by simp [T]; omega)]; decide

theorem xor_lt32 {a b : Nat} (ha : a < 4294967296) (hb : b < 4294967296) : a ^^^ b < 4294967296 :=
  Nat.xor_lt_two_pow (n := 32) ha hb

theorem step_lt (v f : Nat) : step v f < 4294967296 := xor_lt32 (Nat.mod_lt _ (by decide)) (t_lt _)
theorem byte_lt (v c : Nat) : byte v c < 4294967296 := step_lt _ _
theorem run_lt (v : Nat) (l : List Nat) (h : v < 4294967296) : run v l < 4294967296 := by
  induction l generalizing v with
  | nil => exact h
  | cons c l ih => exact ih _ (byte_lt v c)
theorem run_append (v : Nat) (a b : List Nat) : run v (a ++ b) = run (run v a) b := List.foldl_append
theorem sum_lt (l : List Nat) : sum l < 4294967296 := by unfold sum; omega
theorem sum_iff (a b : List Nat) : sum a = sum b ↔ run 4294967295 a = run 4294967295 b := by
  have h1 := run_lt 4294967295 a (by decide)
  have h2 := run_lt 4294967295 b (by decide)
  unfold sum
  omega

/-! ### a step is one to one -/
theorem xor_low {a b k : Nat} : (a ^^^ b) % 2 ^ k = (a % 2 ^ k) ^^^ (b % 2 ^ k) := Nat.xor_mod_two_pow

theorem xor_cancel {a b c : Nat} (h : a ^^^ c = b ^^^ c) : a = b := by
  have : (a ^^^ c) ^^^ c = (b ^^^ c) ^^^ c := by rw [h]
  simpa [Nat.xor_assoc] using this

theorem t_low : ∀ i, i < 16 → ∀ j, j < 16 → t i % 16 = t j % 16 → i = j := by decide

theorem idx_lt {v f : Nat} (hv : v < 4294967296) (hf : f < 16) : (v / 268435456) ^^^ f < 16 :=
  Nat.xor_lt_two_pow (n := 4) (by omega) hf

theorem step_mod (v f k : Nat) (hk : k ≤ 28) : step v f % 2 ^ (k + 4) = (16 * (v % 2 ^ k)) ^^^ (t ((v / 268435456) ^^^ f) % 2 ^ (k + 4)) := by
  unfold step
  rw [xor_low]
  congr 1
  have e : (4294967296 : Nat) = 2 ^ (k + 4) * 2 ^ (28 - k) := by
    rw [← Nat.pow_add, show k + 4 + (28 - k) = 32 by omega]
  rw [e, Nat.mod_mul_right_mod, Nat.pow_add, Nat.mul_comm v 16, Nat.mul_comm (2 ^ k) (2 ^ 4)]
  exact Nat.mul_mod_mul_left _ _ _

/-- of the low bits of what comes out: which place of the table was taken, and the low bits of what went in -/
theorem step_back {v v' f f' k : Nat} (hk : k ≤ 28) (hv : v < 4294967296) (hv' : v' < 4294967296) (hf : f < 16) (hf' : f' < 16)
    (h : step v f % 2 ^ (k + 4) = step v' f' % 2 ^ (k + 4)) :
    (v / 268435456) ^^^ f = (v' / 268435456) ^^^ f' ∧ v % 2 ^ k = v' % 2 ^ k := by
  rw [step_mod v f k hk, step_mod v' f' k hk] at h
  have hi : (v / 268435456) ^^^ f = (v' / 268435456) ^^^ f' := by
    apply t_low _ (idx_lt hv hf) _ (idx_lt hv' hf')
    have h4 : ∀ x y : Nat, ((16 * x) ^^^ (y % 2 ^ (k + 4))) % 16 = y % 16 := by
      intro x y
      have : ((16 * x) ^^^ (y % 2 ^ (k + 4))) % 2 ^ 4 = y % 2 ^ 4 := by
        rw [xor_low]
        have e0 : 16 * x % 2 ^ 4 = 0 := by omega
        rw [e0, Nat.zero_xor, Nat.pow_add, Nat.mul_comm, Nat.mod_mul_right_mod]
      simpa using this
    have e1 := h4 (v % 2 ^ k) (t ((v / 268435456) ^^^ f))
    rw [h, h4] at e1
    exact e1.symm
  refine ⟨hi, ?_⟩
  rw [hi] at h
  have := xor_cancel h
  omega

theorem step_inj {v v' f : Nat} (hv : v < 4294967296) (hv' : v' < 4294967296) (hf : f < 16) (h : step v f = step v' f) : v = v' := by
  obtain ⟨h1, h2⟩ := step_back (k := 28) (Nat.le_refl _) hv hv' hf hf (by rw [h])
  have := xor_cancel h1
  omega

theorem byte_inj {v v' c : Nat} (hv : v < 4294967296) (hv' : v' < 4294967296) (hc : c < 256) (h : byte v c = byte v' c) : v = v' :=
  step_inj hv hv' (f := c / 16) (by omega) (step_inj (step_lt _ _) (step_lt _ _) (by omega) h)

theorem run_inj {v v' : Nat} (l : List Nat) (hl : ∀ c ∈ l, c < 256) (hv : v < 4294967296) (hv' : v' < 4294967296) (h : run v l = run v' l) : v = v' := by
  induction l generalizing v v' with
  | nil => exact h
  | cons c l ih =>
    exact byte_inj hv hv' (hl c (by simp)) (ih (fun d hd => hl d (by simp [hd])) (byte_lt _ _) (byte_lt _ _) h)

/-- P8.3 -/
theorem behind (a b l : List Nat) (hl : ∀ c ∈ l, c < 256) : sum (a ++ l) = sum (b ++ l) ↔ sum a = sum b := by
  rw [sum_iff, sum_iff, run_append, run_append]
  exact ⟨run_inj l hl (run_lt _ _ (by decide)) (run_lt _ _ (by decide)), fun h => by rw [h]⟩

/-! ### four bytes -/
theorem step_from {v f f' : Nat} (h : (v / 268435456) ^^^ f = (v / 268435456) ^^^ f') : f = f' := by
  rw [Nat.xor_comm _ f, Nat.xor_comm _ f'] at h
  exact xor_cancel h

theorem eight (v a0 a1 a2 a3 a4 a5 a6 a7 b0 b1 b2 b3 b4 b5 b6 b7 : Nat) (hv : v < 4294967296)
    (ha0 : a0 < 16) (ha1 : a1 < 16) (ha2 : a2 < 16) (ha3 : a3 < 16) (ha4 : a4 < 16) (ha5 : a5 < 16) (ha6 : a6 < 16) (ha7 : a7 < 16)
    (hb0 : b0 < 16) (hb1 : b1 < 16) (hb2 : b2 < 16) (hb3 : b3 < 16) (hb4 : b4 < 16) (hb5 : b5 < 16) (hb6 : b6 < 16) (hb7 : b7 < 16)
    (h : step (step (step (step (step (step (step (step v a0) a1) a2) a3) a4) a5) a6) a7 = step (step (step (step (step (step (step (step v b0) b1) b2) b3) b4) b5) b6) b7) :
    a0 = b0 ∧ a1 = b1 ∧ a2 = b2 ∧ a3 = b3 ∧ a4 = b4 ∧ a5 = b5 ∧ a6 = b6 ∧ a7 = b7 := by
  obtain ⟨i7, l7⟩ := step_back (k := 28) (by omega) (step_lt _ _) (step_lt _ _) ha7 hb7 (congrArg (· % 2 ^ 32) h)
  obtain ⟨i6, l6⟩ := step_back (k := 24) (by omega) (step_lt _ _) (step_lt _ _) ha6 hb6 l7
  obtain ⟨i5, l5⟩ := step_back (k := 20) (by omega) (step_lt _ _) (step_lt _ _) ha5 hb5 l6
  obtain ⟨i4, l4⟩ := step_back (k := 16) (by omega) (step_lt _ _) (step_lt _ _) ha4 hb4 l5
  obtain ⟨i3, l3⟩ := step_back (k := 12) (by omega) (step_lt _ _) (step_lt _ _) ha3 hb3 l4
  obtain ⟨i2, l2⟩ := step_back (k := 8) (by omega) (step_lt _ _) (step_lt _ _) ha2 hb2 l3
  obtain ⟨i1, l1⟩ := step_back (k := 4) (by omega) (step_lt _ _) (step_lt _ _) ha1 hb1 l2
  obtain ⟨i0, l0⟩ := step_back (k := 0) (by omega) hv hv ha0 hb0 l1
  have e0 := step_from i0
  subst e0
  have e1 := step_from i1
  subst e1
  have e2 := step_from i2
  subst e2
  have e3 := step_from i3
  subst e3
  have e4 := step_from i4
  subst e4
  have e5 := step_from i5
  subst e5
  have e6 := step_from i6
  subst e6
  exact ⟨rfl, rfl, rfl, rfl, rfl, rfl, rfl, step_from i7⟩

theorem four_bytes (v c0 c1 c2 c3 d0 d1 d2 d3 : Nat) (hv : v < 4294967296) (hc0 : c0 < 256) (hc1 : c1 < 256) (hc2 : c2 < 256) (hc3 : c3 < 256)
    (hd0 : d0 < 256) (hd1 : d1 < 256) (hd2 : d2 < 256) (hd3 : d3 < 256) (h : run v [c0, c1, c2, c3] = run v [d0, d1, d2, d3]) :
    c0 = d0 ∧ c1 = d1 ∧ c2 = d2 ∧ c3 = d3 := by
  simp only [run, List.foldl_cons, List.foldl_nil, byte] at h
  have := eight v _ _ _ _ _ _ _ _ _ _ _ _ _ _ _ _ hv (by omega) (by omega) (by omega) (by omega) (by omega) (by omega) (by omega) (by omega)
    (by omega) (by omega) (by omega) (by omega) (by omega) (by omega) (by omega) (by omega) h
  omega

/-- P8.2 -/
theorem four (a b : List Nat) (c d : List Nat) (hc : c.length = 4) (hd : d.length = 4) (hc' : ∀ x ∈ c, x < 256) (hd' : ∀ x ∈ d, x < 256) (hb' : ∀ x ∈ b, x < 256) :
    sum (a ++ c ++ b) = sum (a ++ d ++ b) ↔ c = d := by
  rw [behind _ _ b hb', sum_iff, run_append, run_append]
  refine ⟨fun h => ?_, fun h => by rw [h]⟩
  match c, d, hc, hd with
  | [c0, c1, c2, c3], [d0, d1, d2, d3], _, _ =>
    simp only [List.mem_cons, List.not_mem_nil, or_false, forall_eq_or_imp, forall_eq] at hc' hd'
    obtain ⟨rfl, rfl, rfl, rfl⟩ := four_bytes _ c0 c1 c2 c3 d0 d1 d2 d3 (run_lt _ a (by decide)) hc'.1 hc'.2.1 hc'.2.2.1 hc'.2.2.2 hd'.1 hd'.2.1 hd'.2.2.1 hd'.2.2.2 h
    rfl

/-! ### bytes 0 ahead -/
def zeros (v : Nat) : Nat → Nat
  | 0 => v
  | n + 1 => zeros (byte v 0) n
theorem run_zeros (v n : Nat) : run v (List.replicate n 0) = zeros v n := by
  induction n generalizing v with
  | zero => rfl
  | succ n ih => exact ih _
theorem zeros_add (v n m : Nat) : zeros v (n + m) = zeros (zeros v m) n := by
  induction m generalizing v with
  | zero => rfl
  | succ m ih => exact ih _
theorem zeros_lt (v n : Nat) (h : v < 4294967296) : zeros v n < 4294967296 := by
  rw [← run_zeros]; exact run_lt _ _ h
theorem zeros_inj (v v' n : Nat) (hv : v < 4294967296) (hv' : v' < 4294967296) (h : zeros v n = zeros v' n) : v = v' := by
  rw [← run_zeros, ← run_zeros] at h
  exact run_inj _ (fun c hc => by rw [List.eq_of_mem_replicate hc]; omega) hv hv' h
/-- none of the next n is u -/
def noneIs (u : Nat) : Nat → Nat → Bool
  | _, 0 => true
  | v, n + 1 => (byte v 0 != u) && noneIs u (byte v 0) n
theorem noneIs_spec (u : Nat) : ∀ (n v : Nat), noneIs u v n = true → ∀ k, 0 < k → k ≤ n → zeros v k ≠ u
  | 0, v, _, k, h1, h2 => by omega
  | n + 1, v, h, k, h1, h2 => by
    simp only [noneIs, Bool.and_eq_true, bne_iff_ne] at h
    match k, h1 with
    | 1, _ => exact h.1
    | k + 2, _ => exact noneIs_spec u n _ h.2 (k + 1) (by omega) (by omega)
set_option maxRecDepth 100000 in
theorem none_is : noneIs 4294967295 4294967295 3000 = true := by decide +kernel
theorem zeros_ne {n m : Nat} (h : n < m) (hm : m ≤ 3000) : zeros 4294967295 n ≠ zeros 4294967295 m := by
  intro e
  have e' : m = n + (m - n) := by omega
  rw [e', zeros_add] at e
  exact noneIs_spec _ _ _ none_is (m - n) (by omega) (by omega) (zeros_inj _ _ n (zeros_lt _ _ (by decide)) (by decide) e.symm)
theorem noughts (n m : Nat) (hn : n ≤ 3000) (hm : m ≤ 3000) (b : List Nat) (hb : ∀ c ∈ b, c < 256) :
    sum (List.replicate n 0 ++ b) = sum (List.replicate m 0 ++ b) ↔ n = m := by
  rw [behind _ _ b hb, sum_iff, run_zeros, run_zeros]
  refine ⟨fun h => ?_, fun h => by rw [h]⟩
  rcases Nat.lt_trichotomy n m with hl | he | hl
  · exact absurd h (zeros_ne hl hm)
  · exact he
  · exact absurd h.symm (zeros_ne hl hn)

/-! ### one bit at a time -/
theorem bit_lin (x c : Nat) (b : Bool) (hx : x < 4294967296) (hc : c < 2147483648) :
    bit (x ^^^ c) b = (x * 2 % 4294967296) ^^^ ((c * 2) ^^^ (if b != decide (2147483648 ≤ x) then 79764919 else 0)) := by
  have hm : decide (2147483648 ≤ x ^^^ c) = decide (2147483648 ≤ x) := by
    have key : ∀ y : Nat, y < 4294967296 → decide (2147483648 ≤ y) = y.testBit 31 := by
      intro y hy
      rw [Nat.testBit_eq_decide_div_mod_eq]
      exact decide_eq_decide.2 (by omega)
    rw [key _ (xor_lt32 hx (by omega)), key x hx, Nat.testBit_xor, Nat.testBit_lt_two_pow (x := c) (i := 31) hc, Bool.xor_false]
  unfold bit
  rw [hm, ← Nat.xor_assoc]
  congr 1
  have e1 : ∀ y : Nat, y * 2 = y <<< 1 := fun y => by rw [Nat.shiftLeft_eq]
  rw [e1, e1, e1, Nat.shiftLeft_xor_distrib, show (4294967296 : Nat) = 2 ^ 32 from rfl, xor_low, ← e1 c, Nat.mod_eq_of_lt (a := c * 2) (by omega)]

/-- the four bits of a number below 16, the greatest first -/
def bitOf (c j : Nat) : Bool := decide (c / 2 ^ j % 2 = 1)

theorem bit_top (v j : Nat) (hv : v < 4294967296) (hj : j ≤ 3) : decide (2147483648 ≤ v * 2 ^ j % 4294967296) = bitOf (v / 268435456) (3 - j) := by
  unfold bitOf
  apply decide_eq_decide.2
  match j, hj with
  | 0, _ => simp; omega
  | 1, _ => simp; omega
  | 2, _ => simp; omega
  | 3, _ => simp; omega

theorem table : ∀ h, h < 16 → ∀ f, f < 16 →
    (((((((if bitOf f 3 != bitOf h 3 then 79764919 else 0) * 2) ^^^ (if bitOf f 2 != bitOf h 2 then 79764919 else 0)) * 2) ^^^ (if bitOf f 1 != bitOf h 1 then 79764919 else 0)) * 2) ^^^ (if bitOf f 0 != bitOf h 0 then 79764919 else 0)) = t (h ^^^ f) := by
  decide

theorem ite_lt (b : Bool) : (if b then 79764919 else 0 : Nat) < 134217728 := by split <;> omega

theorem four_bits (v f : Nat) (hv : v < 4294967296) (hf : f < 16) :
    bit (bit (bit (bit v (bitOf f 3)) (bitOf f 2)) (bitOf f 1)) (bitOf f 0) = step v f := by
  have c1 := ite_lt (bitOf f 3 != bitOf (v / 268435456) 3)
  have c2 := ite_lt (bitOf f 2 != bitOf (v / 268435456) 2)
  have c3 := ite_lt (bitOf f 1 != bitOf (v / 268435456) 1)
  have ht := table (v / 268435456) (by omega) f hf
  have t0 := bit_top v 0 hv (by omega)
  have t1 := bit_top v 1 hv (by omega)
  have t2 := bit_top v 2 hv (by omega)
  have t3 := bit_top v 3 hv (by omega)
  have e0 : v * 2 ^ 0 % 4294967296 = v := by omega
  rw [e0] at t0
  have s1 := bit_lin v 0 (bitOf f 3) hv (by omega)
  rw [Nat.xor_zero, Nat.zero_mul, Nat.zero_xor, t0] at s1
  rw [s1]
  generalize (if bitOf f 3 != bitOf (v / 268435456) 3 then 79764919 else 0) = d1 at *
  have e1 : v * 2 % 4294967296 * 2 % 4294967296 = v * 2 ^ 2 % 4294967296 := by omega
  have s2 := bit_lin (v * 2 % 4294967296) d1 (bitOf f 2) (Nat.mod_lt _ (by decide)) (by omega)
  rw [show v * 2 = v * 2 ^ 1 from by omega] at s2
  rw [t1] at s2
  rw [show v * 2 ^ 1 = v * 2 from by omega, e1] at s2
  rw [s2]
  generalize (if bitOf f 2 != bitOf (v / 268435456) 2 then 79764919 else 0) = d2 at *
  have x2 : d1 * 2 ^^^ d2 < 268435456 := Nat.xor_lt_two_pow (n := 28) (by omega) (by omega)
  generalize d1 * 2 ^^^ d2 = D2 at *
  have e2 : v * 2 ^ 2 % 4294967296 * 2 % 4294967296 = v * 2 ^ 3 % 4294967296 := by omega
  have s3 := bit_lin (v * 2 ^ 2 % 4294967296) D2 (bitOf f 1) (Nat.mod_lt _ (by decide)) (by omega)
  rw [t2, e2] at s3
  rw [s3]
  generalize (if bitOf f 1 != bitOf (v / 268435456) 1 then 79764919 else 0) = d3 at *
  have x3 : D2 * 2 ^^^ d3 < 536870912 := Nat.xor_lt_two_pow (n := 29) (by omega) (by omega)
  generalize D2 * 2 ^^^ d3 = D3 at *
  have e3 : v * 2 ^ 3 % 4294967296 * 2 % 4294967296 = v * 16 % 4294967296 := by omega
  have s4 := bit_lin (v * 2 ^ 3 % 4294967296) D3 (bitOf f 0) (Nat.mod_lt _ (by decide)) (by omega)
  rw [t3, e3] at s4
  rw [s4, ht]
  rfl

/-- the sum by single bits, behind i of them -/
def bits (l : List Nat) : Nat → Nat
  | 0 => 4294967295
  | i + 1 => bit (bits l i) (bitOf (l.getD (i / 8) 0) (7 - i % 8))

theorem bits_lt (l : List Nat) : ∀ i, bits l i < 4294967296
  | 0 => by unfold bits; omega
  | i + 1 => by
    unfold bits bit
    exact xor_lt32 (Nat.mod_lt _ (by decide)) (by split <;> omega)

theorem bits_byte (l : List Nat) (k : Nat) (hl : ∀ c ∈ l, c < 256) (hk : k < l.length) : bits l (8 * (k + 1)) = byte (bits l (8 * k)) (l.getD k 0) := by
  have hc : l.getD k 0 < 256 := by rw [List.getD_eq_getElem?_getD, List.getElem?_eq_getElem hk]; exact hl _ (List.getElem_mem hk)
  have hb : ∀ j, j < 8 → bits l (8 * k + (j + 1)) = bit (bits l (8 * k + j)) (bitOf (l.getD k 0) (7 - j)) := by
    intro j hj
    show bit (bits l (8 * k + j)) (bitOf (l.getD ((8 * k + j) / 8) 0) (7 - (8 * k + j) % 8)) = _
    rw [show (8 * k + j) / 8 = k by omega, show (8 * k + j) % 8 = j by omega]
  have hv := bits_lt l (8 * k)
  generalize l.getD k 0 = c at *
  have hi : ∀ j, j < 4 → bitOf c (4 + j) = bitOf (c / 16) j := by
    intro j hj
    unfold bitOf
    rw [Nat.div_div_eq_div_mul, show (16 : Nat) = 2 ^ 4 from rfl, ← Nat.pow_add]
  have lo : ∀ j, j < 4 → bitOf c j = bitOf (c % 16) j := by
    intro j hj
    unfold bitOf
    apply decide_eq_decide.2
    match j, hj with
    | 0, _ => simp
    | 1, _ => simp; omega
    | 2, _ => simp; omega
    | 3, _ => simp; omega
  rw [show 8 * (k + 1) = 8 * k + (7 + 1) by omega, hb 7 (by omega), show 8 * k + 7 = 8 * k + (6 + 1) by omega, hb 6 (by omega), show 8 * k + 6 = 8 * k + (5 + 1) by omega, hb 5 (by omega),
    show 8 * k + 5 = 8 * k + (4 + 1) by omega, hb 4 (by omega), show 8 * k + 4 = 8 * k + (3 + 1) by omega, hb 3 (by omega), show 8 * k + 3 = 8 * k + (2 + 1) by omega, hb 2 (by omega),
    show 8 * k + 2 = 8 * k + (1 + 1) by omega, hb 1 (by omega), show 8 * k + 1 = 8 * k + (0 + 1) by omega, hb 0 (by omega)]
  show bit (bit (bit (bit (bit (bit (bit (bit (bits l (8 * k)) (bitOf c (4 + 3))) (bitOf c (4 + 2))) (bitOf c (4 + 1))) (bitOf c (4 + 0))) (bitOf c 3)) (bitOf c 2)) (bitOf c 1)) (bitOf c 0) = _
  rw [hi 3 (by omega), hi 2 (by omega), hi 1 (by omega), hi 0 (by omega), four_bits _ (c / 16) hv (by omega), lo 3 (by omega), lo 2 (by omega), lo 1 (by omega), lo 0 (by omega), four_bits _ (c % 16) (step_lt _ _) (by omega)]
  rfl

theorem bits_run (l : List Nat) (hl : ∀ c ∈ l, c < 256) : ∀ k, k ≤ l.length → bits l (8 * k) = run 4294967295 (l.take k)
  | 0, _ => rfl
  | k + 1, hk => by
    rw [bits_byte l k hl (by omega), bits_run l hl k (by omega), List.take_add_one, run_append, List.getD_eq_getElem?_getD, List.getElem?_eq_getElem (by omega)]
    rfl
theorem bits_sum (l : List Nat) (hl : ∀ c ∈ l, c < 256) : 4294967295 - bits l (8 * l.length) = sum l := by
  rw [bits_run l hl _ (Nat.le_refl _), List.take_length]; rfl
end Go.Proofs.Ytmndhllmaoppeaa.Crc
