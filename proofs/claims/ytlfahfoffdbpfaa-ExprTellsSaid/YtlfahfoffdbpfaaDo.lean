/- What the operations of layer 15 do: each one's contract. Printed by gen_do.py. -/
import Derived.Test.YtlfahfoffdbpfaaLeaf
namespace Go.Proofs.Ytlfahfoffdbpfaa
open Go.ChangeShapes Go.WideShapes Go.ChangeAt Go.RowKit
set_option linter.unusedVariables false
set_option linter.unusedSimpArgs false

def addT (a b : Int) : Val × Int := numIf (wrap64 (a + b)) (decide (a < wrap64 (a + b)) == decide (0 < b))
def subT (a b : Int) : Val × Int := numIf (wrap64 (a - b)) (decide (wrap64 (a - b) < a) == decide (0 < b))
def mulT (a b : Int) : Val × Int := numIf (wrap64 (a * b)) (a == 0 || (wrap64 (Int.tdiv (wrap64 (a * b)) a) == b && (a != -1 || b != -9223372036854775808)))
def divT (a b : Int) : Val × Int := numIf (wrap64 (Int.tdiv a b)) (a != -9223372036854775808 || b != -1)
def modT (a b : Int) : Val × Int := numIf (Int.tmod a b) true
def negT (a : Int) : Val × Int := numIf (wrap64 (-a)) (a != -9223372036854775808)

set_option maxHeartbeats 2000000 in
theorem add_any (a b : Int) (w : World) : Calls Try.prog 70 #[.int .i64 a, .int .i64 b] w fun e w' => e = .returned (ansV (addT a b).1 (addT a b).2) ∧ Below w.heap.size w w' := by
  go_enter Try.func70, Try.ntmps70
  go_wp2_with fail
  all_goals
    refine (number_any _ _ _).mono ?_
    rintro e w' ⟨rfl, b1⟩
    generalize hr : numIf _ _ = r
    have he : addT a b = r := by rw [← hr]; unfold addT; first | (simp_all; done) | (congr 1; rw [Bool.eq_iff_iff]; simp_all; done) | (congr 1; simp_all; done)
    have HE := Lib.hid he
    clear he hr
    unfold ansV
    have hR := (Blk.new w 23 #[.int .u8 0, .int .i64 0, .string ⟨#[]⟩]).later b1
    have hB := Later.then (later_new w (.cells #[.int .u8 0, .int .i64 0, .string ⟨#[]⟩] 23)) b1
    clear b1
    have hR1 := val_cells hR
    have hR3 := Blk.frozen hR
    clear hR
    go_wp2_with fail
    exact bodyPost_ret (v := .tuple #[.agg #[.int .u8 r.1.k, .int .i64 r.1.n, .string r.1.s], .int .i64 r.2]) (by simp [results, Try.results70, go_sem, hR1]) rfl ⟨by rw [HE.out]; rfl, ((hB.setCell (Nat.le_refl _) _).setCell (Nat.le_refl _) _).setCell (Nat.le_refl _) _⟩

set_option maxHeartbeats 2000000 in
theorem sub_any (a b : Int) (w : World) : Calls Try.prog 71 #[.int .i64 a, .int .i64 b] w fun e w' => e = .returned (ansV (subT a b).1 (subT a b).2) ∧ Below w.heap.size w w' := by
  go_enter Try.func71, Try.ntmps71
  go_wp2_with fail
  all_goals
    refine (number_any _ _ _).mono ?_
    rintro e w' ⟨rfl, b1⟩
    generalize hr : numIf _ _ = r
    have he : subT a b = r := by rw [← hr]; unfold subT; first | (simp_all; done) | (congr 1; rw [Bool.eq_iff_iff]; simp_all; done) | (congr 1; simp_all; done)
    have HE := Lib.hid he
    clear he hr
    unfold ansV
    have hR := (Blk.new w 23 #[.int .u8 0, .int .i64 0, .string ⟨#[]⟩]).later b1
    have hB := Later.then (later_new w (.cells #[.int .u8 0, .int .i64 0, .string ⟨#[]⟩] 23)) b1
    clear b1
    have hR1 := val_cells hR
    have hR3 := Blk.frozen hR
    clear hR
    go_wp2_with fail
    exact bodyPost_ret (v := .tuple #[.agg #[.int .u8 r.1.k, .int .i64 r.1.n, .string r.1.s], .int .i64 r.2]) (by simp [results, Try.results71, go_sem, hR1]) rfl ⟨by rw [HE.out]; rfl, ((hB.setCell (Nat.le_refl _) _).setCell (Nat.le_refl _) _).setCell (Nat.le_refl _) _⟩

set_option maxHeartbeats 2000000 in
theorem times_any (a b : Int) (w : World) : Calls Try.prog 72 #[.int .i64 a, .int .i64 b] w fun e w' => e = .returned (ansV (mulT a b).1 (mulT a b).2) ∧ Below w.heap.size w w' := by
  go_enter Try.func72, Try.ntmps72
  go_wp2_with fail
  all_goals
    refine (number_any _ _ _).mono ?_
    rintro e w' ⟨rfl, b1⟩
    generalize hr : numIf _ _ = r
    have he : mulT a b = r := by rw [← hr]; unfold mulT; first | (simp_all; done) | (congr 1; rw [Bool.eq_iff_iff]; simp_all; done) | (congr 1; simp_all; done)
    have HE := Lib.hid he
    clear he hr
    unfold ansV
    have hR := (Blk.new w 23 #[.int .u8 0, .int .i64 0, .string ⟨#[]⟩]).later b1
    have hB := Later.then (later_new w (.cells #[.int .u8 0, .int .i64 0, .string ⟨#[]⟩] 23)) b1
    clear b1
    have hR1 := val_cells hR
    have hR3 := Blk.frozen hR
    clear hR
    go_wp2_with fail
    exact bodyPost_ret (v := .tuple #[.agg #[.int .u8 r.1.k, .int .i64 r.1.n, .string r.1.s], .int .i64 r.2]) (by simp [results, Try.results72, go_sem, hR1]) rfl ⟨by rw [HE.out]; rfl, ((hB.setCell (Nat.le_refl _) _).setCell (Nat.le_refl _) _).setCell (Nat.le_refl _) _⟩

set_option maxHeartbeats 2000000 in
theorem div_any (a b : Int) (hb : b ≠ 0) (w : World) : Calls Try.prog 74 #[.int .i64 a, .int .i64 b] w fun e w' => e = .returned (ansV (divT a b).1 (divT a b).2) ∧ Below w.heap.size w w' := by
  go_enter Try.func74, Try.ntmps74
  go_wp2_with fail
  all_goals
    refine (number_any _ _ _).mono ?_
    rintro e w' ⟨rfl, b1⟩
    generalize hr : numIf _ _ = r
    have he : divT a b = r := by rw [← hr]; unfold divT; first | (simp_all; done) | (congr 1; rw [Bool.eq_iff_iff]; simp_all; done) | (congr 1; simp_all; done)
    have HE := Lib.hid he
    clear he hr
    unfold ansV
    have hR := (Blk.new w 23 #[.int .u8 0, .int .i64 0, .string ⟨#[]⟩]).later b1
    have hB := Later.then (later_new w (.cells #[.int .u8 0, .int .i64 0, .string ⟨#[]⟩] 23)) b1
    clear b1
    have hR1 := val_cells hR
    have hR3 := Blk.frozen hR
    clear hR
    go_wp2_with fail
    exact bodyPost_ret (v := .tuple #[.agg #[.int .u8 r.1.k, .int .i64 r.1.n, .string r.1.s], .int .i64 r.2]) (by simp [results, Try.results74, go_sem, hR1]) rfl ⟨by rw [HE.out]; rfl, ((hB.setCell (Nat.le_refl _) _).setCell (Nat.le_refl _) _).setCell (Nat.le_refl _) _⟩

set_option maxHeartbeats 2000000 in
theorem mod_any (a b : Int) (hb : b ≠ 0) (w : World) : Calls Try.prog 75 #[.int .i64 a, .int .i64 b] w fun e w' => e = .returned (ansV (modT a b).1 (modT a b).2) ∧ Below w.heap.size w w' := by
  go_enter Try.func75, Try.ntmps75
  go_wp2_with fail
  all_goals
    refine (number_any _ _ _).mono ?_
    rintro e w' ⟨rfl, b1⟩
    generalize hr : numIf _ _ = r
    have he : modT a b = r := by rw [← hr]; unfold modT; first | (simp_all; done) | (congr 1; rw [Bool.eq_iff_iff]; simp_all; done) | (congr 1; simp_all; done)
    have HE := Lib.hid he
    clear he hr
    unfold ansV
    have hR := (Blk.new w 23 #[.int .u8 0, .int .i64 0, .string ⟨#[]⟩]).later b1
    have hB := Later.then (later_new w (.cells #[.int .u8 0, .int .i64 0, .string ⟨#[]⟩] 23)) b1
    clear b1
    have hR1 := val_cells hR
    have hR3 := Blk.frozen hR
    clear hR
    go_wp2_with fail
    exact bodyPost_ret (v := .tuple #[.agg #[.int .u8 r.1.k, .int .i64 r.1.n, .string r.1.s], .int .i64 r.2]) (by simp [results, Try.results75, go_sem, hR1]) rfl ⟨by rw [HE.out]; rfl, ((hB.setCell (Nat.le_refl _) _).setCell (Nat.le_refl _) _).setCell (Nat.le_refl _) _⟩

theorem is_eq (c : Int) (w : World) : Calls Try.prog 77 #[.int .i64 c] w fun e w' => e = .returned (.bool (decide (c = 0))) ∧ w = w' := by
  go_enter Try.func77, Try.ntmps77
  go_wp2_with fail
  all_goals
    go_ret
    refine ⟨?_, rfl⟩
    try simp_all
    try rfl

theorem is_ne (c : Int) (w : World) : Calls Try.prog 78 #[.int .i64 c] w fun e w' => e = .returned (.bool (!decide (c = 0))) ∧ w = w' := by
  go_enter Try.func78, Try.ntmps78
  go_wp2_with fail
  all_goals
    go_ret
    refine ⟨?_, rfl⟩
    try simp_all
    try rfl

theorem is_lt (c : Int) (w : World) : Calls Try.prog 79 #[.int .i64 c] w fun e w' => e = .returned (.bool (decide (c < 0))) ∧ w = w' := by
  go_enter Try.func79, Try.ntmps79
  go_wp2_with fail
  all_goals
    go_ret
    refine ⟨?_, rfl⟩
    try simp_all
    try rfl

theorem is_le (c : Int) (w : World) : Calls Try.prog 80 #[.int .i64 c] w fun e w' => e = .returned (.bool (decide (c ≤ 0))) ∧ w = w' := by
  go_enter Try.func80, Try.ntmps80
  go_wp2_with fail
  all_goals
    go_ret
    refine ⟨?_, rfl⟩
    try simp_all
    try rfl

theorem is_gt (c : Int) (w : World) : Calls Try.prog 81 #[.int .i64 c] w fun e w' => e = .returned (.bool (decide (0 < c))) ∧ w = w' := by
  go_enter Try.func81, Try.ntmps81
  go_wp2_with fail
  all_goals
    go_ret
    refine ⟨?_, rfl⟩
    try simp_all
    try rfl

theorem is_ge (c : Int) (w : World) : Calls Try.prog 82 #[.int .i64 c] w fun e w' => e = .returned (.bool (decide (0 ≤ c))) ∧ w = w' := by
  go_enter Try.func82, Try.ntmps82
  go_wp2_with fail
  all_goals
    go_ret
    refine ⟨?_, rfl⟩
    try simp_all
    try rfl

/-- an expression's own cells -/
structure Ex where
  op : Int
  v : Val
  name : ByteArray
  width : Int
  A : Option Addr
  n : Nat
  c : Nat
/-- the cells of a value -/
def ValAt (w : World) (b off : Nat) (x : Val) : Prop :=
  w.cell? ⟨b, off, none⟩ = some (.int .u8 x.k) ∧ w.cell? ⟨b, off + 1, none⟩ = some (.int .i64 x.n) ∧ w.cell? ⟨b, off + 2, none⟩ = some (.string x.s)
/-- a slice that reads as values -/
def RV (w : World) (B : Nat) (A : Option Addr) (l : List Val) : Prop :=
  l = [] ∨ ∃ b off, A = some ⟨b, off, none⟩ ∧ b < B ∧ ∀ i x, l[i]? = some x → ValAt w b (off + i * 3) x
theorem ValAt.keep {w w' : World} {b off : Nat} {x : Val} (h : ValAt w b off x) (hk : ∀ o, w'.cell? ⟨b, o, none⟩ = w.cell? ⟨b, o, none⟩) : ValAt w' b off x := by
  unfold ValAt at *
  simp only [hk]
  exact h
theorem RV.below {w w' : World} {B : Nat} {A : Option Addr} {l : List Val} (h : RV w B A l) (hb : Below B w w') : RV w' B A l := by
  rcases h with h | ⟨b, off, h1, h2, h3⟩
  · exact .inl h
  · exact .inr ⟨b, off, h1, h2, fun i x hx => (h3 i x hx).keep fun o => hb.cell (p := ⟨b, o, none⟩) h2⟩
theorem RV.more {w : World} {B B' : Nat} {A : Option Addr} {l : List Val} (h : RV w B A l) (hB : B ≤ B') : RV w B' A l := by
  rcases h with h | ⟨b, off, h1, h2, h3⟩
  · exact .inl h
  · exact .inr ⟨b, off, h1, by omega, h3⟩
theorem RV.at_ {w : World} {B : Nat} {A : Option Addr} {l : List Val} (h : RV w B A l) {k : Nat} (hk : k < l.length) : ∃ b off, A = some ⟨b, off, none⟩ ∧ b < B ∧ ValAt w b (off + k * 3) l[k] := by
  rcases h with h | ⟨b, off, h1, h2, h3⟩
  · subst h; simp at hk
  · exact ⟨b, off, h1, h2, h3 k _ (List.getElem?_eq_getElem hk)⟩
theorem RV.one {w : World} {B : Nat} {A : Option Addr} {x : Val} (h : RV w B A [x]) : ∃ b off, A = some ⟨b, off, none⟩ ∧ b < B ∧ ValAt w b off x := by
  obtain ⟨b, off, h1, h2, h3⟩ := h.at_ (k := 0) (by simp)
  exact ⟨b, off, h1, h2, by simpa using h3⟩
theorem RV.two {w : World} {B : Nat} {A : Option Addr} {x y : Val} (h : RV w B A [x, y]) : ∃ b off, A = some ⟨b, off, none⟩ ∧ b < B ∧ ValAt w b off x ∧ ValAt w b (off + 3) y := by
  rcases h with h | ⟨b, off, h1, h2, h3⟩
  · simp at h
  · exact ⟨b, off, h1, h2, by simpa using h3 0 x rfl, by simpa using h3 1 y rfl⟩

theorem number_tup (n : Int) (ok : Bool) (w : World) : Calls Try.prog 66 #[.int .i64 n, .bool ok] w fun e w' => e = .returned (.tuple #[.agg #[.int .u8 (numIf n ok).1.k, .int .i64 (numIf n ok).1.n, .string (numIf n ok).1.s], .int .i64 (numIf n ok).2]) ∧ Below w.heap.size w w' := number_any n ok w
theorem truth_tup (b : Bool) (w : World) : Calls Try.prog 68 #[.bool b] w fun e w' => e = .returned (.tuple #[.agg #[.int .u8 (boolV b).k, .int .i64 (boolV b).n, .string (boolV b).s], .int .i64 0]) ∧ Below w.heap.size w w' := truth_any b w

set_option maxHeartbeats 2000000 in
set_option maxRecDepth 100000 in
theorem neg_any (x : Ex) (A : Option Addr) (c : Nat) (a : Val) (w : World) (h : RV w w.heap.size A [a]) : Calls Try.prog 65 #[.agg #[.int .u8 x.op, .int .u8 x.v.k, .int .i64 x.v.n, .string x.v.s, .string x.name, .int .i64 x.width, .slice x.A x.n x.c], .slice A 1 c] w fun e w' => e = .returned (ansV (negT a.n).1 (negT a.n).2) ∧ Below w.heap.size w w' := by
  obtain ⟨b, off, rfl, hb, hv⟩ := h.one
  go_enter Try.func65, Try.ntmps65
  go_wp2_with fail
  have hB := Later.then (later_new w (.cells #[.int .u8 x.op, .int .u8 x.v.k, .int .i64 x.v.n, .string x.v.s, .string x.name, .int .i64 x.width, .slice x.A x.n x.c] 36)) (later_new _ (.cells #[.int .u8 0, .int .i64 0, .string ⟨#[]⟩] 23))
  have hR := Blk.new (w.alloc (.cells #[.int .u8 x.op, .int .u8 x.v.k, .int .i64 x.v.n, .string x.v.s, .string x.name, .int .i64 x.width, .slice x.A x.n x.c] 36)) 23 #[.int .u8 0, .int .i64 0, .string ⟨#[]⟩]
  have hX := (Blk.new w 36 #[.int .u8 x.op, .int .u8 x.v.k, .int .i64 x.v.n, .string x.v.s, .string x.name, .int .i64 x.width, .slice x.A x.n x.c]).alloc (.cells #[.int .u8 0, .int .i64 0, .string ⟨#[]⟩] 23)
  rw [World.size_alloc] at hR
  generalize hWW : (w.alloc (.cells #[.int .u8 x.op, .int .u8 x.v.k, .int .i64 x.v.n, .string x.v.s, .string x.name, .int .i64 x.width, .slice x.A x.n x.c] 36)).alloc (.cells #[.int .u8 0, .int .i64 0, .string ⟨#[]⟩] 23) = W at *
  clear hWW
  replace hv := hv.keep (w' := W) fun o => hB.cell (p := ⟨b, o, none⟩) hb
  have hb2 : b < W.heap.size := Nat.lt_of_lt_of_le hb hB.size
  have cV := fun y : Ext W.heap.size W => hv.keep (w' := y.w) fun o => y.cell (p := ⟨b, o, none⟩) hb2
  unfold ValAt at cV
  have hgw : w.heap.size ≤ w.heap.size + 1 := by omega
  generalize w.heap.size + 1 = g at *
  refine region_cut 13 W.heap.size W (Below.refl _ _) (by kernel_rfl) (by kernel_rfl) (by kernel_rfl) (by kernel_rfl) ?_
  simp only [List.take_succ_cons, List.take_zero, List.drop_succ_cons, List.drop_zero]
  repeat (go_big_quiet_step (first
    | (go_at_call 66; exact calls_later (Nat.le_refl _) (number_tup _ _ _))))
  refine wpQuiet_nil ?_
  rintro W2 ⟨y2, hy2⟩
  have hW := y2.h
  rw [← hy2] at hW
  clear hy2 y2 cV
  replace hR := hR.later hW
  replace hB := Later.then hB hW
  generalize hr : numIf _ _ = r
  have he : negT a.n = r := by rw [← hr]; unfold negT; rfl
  have HE := Lib.hid he
  clear he hr
  have hR1 := val_cells hR
  have hR3 := Blk.frozen hR
  clear hR
  go_wp2_with fail
  exact bodyPost_ret (v := .tuple #[.agg #[.int .u8 r.1.k, .int .i64 r.1.n, .string r.1.s], .int .i64 r.2]) (by simp [results, Try.results65, go_sem, hR1]) rfl ⟨by rw [HE.out]; rfl, ((hB.setCell (hgw) _).setCell (hgw) _).setCell (hgw) _⟩

set_option maxHeartbeats 2000000 in
set_option maxRecDepth 100000 in
theorem not_any (x : Ex) (A : Option Addr) (c : Nat) (a : Val) (w : World) (h : RV w w.heap.size A [a]) : Calls Try.prog 67 #[.agg #[.int .u8 x.op, .int .u8 x.v.k, .int .i64 x.v.n, .string x.v.s, .string x.name, .int .i64 x.width, .slice x.A x.n x.c], .slice A 1 c] w fun e w' => e = .returned (ansV (boolV (a.n == 0)) 0) ∧ Below w.heap.size w w' := by
  obtain ⟨b, off, rfl, hb, hv⟩ := h.one
  have hv' := hv.keep (w' := (w.alloc (.cells #[.int .u8 x.op, .int .u8 x.v.k, .int .i64 x.v.n, .string x.v.s, .string x.name, .int .i64 x.width, .slice x.A x.n x.c] 36)).alloc (.cells #[.int .u8 0, .int .i64 0, .string ⟨#[]⟩] 23)) fun o => (Later.then (later_new w (.cells #[.int .u8 x.op, .int .u8 x.v.k, .int .i64 x.v.n, .string x.v.s, .string x.name, .int .i64 x.width, .slice x.A x.n x.c] 36)) (later_new _ (.cells #[.int .u8 0, .int .i64 0, .string ⟨#[]⟩] 23))).cell (p := ⟨b, o, none⟩) hb
  unfold ValAt at hv'
  go_enter Try.func67, Try.ntmps67
  go_wp2_with fail
  have hB := Later.then (later_new w (.cells #[.int .u8 x.op, .int .u8 x.v.k, .int .i64 x.v.n, .string x.v.s, .string x.name, .int .i64 x.width, .slice x.A x.n x.c] 36)) (later_new _ (.cells #[.int .u8 0, .int .i64 0, .string ⟨#[]⟩] 23))
  have hR := Blk.new (w.alloc (.cells #[.int .u8 x.op, .int .u8 x.v.k, .int .i64 x.v.n, .string x.v.s, .string x.name, .int .i64 x.width, .slice x.A x.n x.c] 36)) 23 #[.int .u8 0, .int .i64 0, .string ⟨#[]⟩]
  have hX := (Blk.new w 36 #[.int .u8 x.op, .int .u8 x.v.k, .int .i64 x.v.n, .string x.v.s, .string x.name, .int .i64 x.width, .slice x.A x.n x.c]).alloc (.cells #[.int .u8 0, .int .i64 0, .string ⟨#[]⟩] 23)
  rw [World.size_alloc] at hR
  generalize hWW : (w.alloc (.cells #[.int .u8 x.op, .int .u8 x.v.k, .int .i64 x.v.n, .string x.v.s, .string x.name, .int .i64 x.width, .slice x.A x.n x.c] 36)).alloc (.cells #[.int .u8 0, .int .i64 0, .string ⟨#[]⟩] 23) = W at *
  clear hWW
  have hgw : w.heap.size ≤ w.heap.size + 1 := by omega
  generalize w.heap.size + 1 = g at *
  refine (truth_any _ _).mono ?_
  rintro e w' ⟨rfl, b1⟩
  replace hR := hR.later b1
  replace hB := Later.then hB b1
  clear b1 hv' hv
  generalize hr : boolV _ = r
  have he : (r, (0 : Int)) = (boolV (a.n == 0), 0) := by rw [← hr]
  have HE := Lib.hid he
  clear he hr
  unfold ansV
  have hR1 := val_cells hR
  have hR3 := Blk.frozen hR
  clear hR
  go_wp2_with fail
  exact bodyPost_ret (v := .tuple #[.agg #[.int .u8 (r, (0 : Int)).1.k, .int .i64 (r, (0 : Int)).1.n, .string (r, (0 : Int)).1.s], .int .i64 (r, (0 : Int)).2]) (by simp [results, Try.results67, go_sem, hR1]) rfl ⟨by have := HE.out; injection this with h1 h2; rw [← h1]; rfl, ((hB.setCell (hgw) _).setCell (hgw) _).setCell (hgw) _⟩

/-- a function value of two numbers answers T -/
def Fn2 (w : World) (f : Value) (a b : Int) (r : Val × Int) : Prop :=
  (∃ k, f = .func (.func k) #[] #[] ∧ (∀ args w, (callFunc k args).run Try.prog w = .ok (.enter k args) w) ∧ ∀ w, Calls Try.prog k #[.int .i64 a, .int .i64 b] w fun e w' => e = .returned (ansV r.1 r.2) ∧ Below w.heap.size w w') ∨
  (∃ g k, f = .func (.func 96) #[] #[.pointer (some ⟨g, 0, none⟩)] ∧ Blk w g 96 #[.func (.func k) #[] #[]] ∧ (∀ args w, (callFunc k args).run Try.prog w = .ok (.enter k args) w) ∧ ((b = 0 ∧ r = (zeroVal, 44)) ∨ (b ≠ 0 ∧ ∀ w, Calls Try.prog k #[.int .i64 a, .int .i64 b] w fun e w' => e = .returned (ansV r.1 r.2) ∧ Below w.heap.size w w')))

set_option maxHeartbeats 2000000 in
set_option maxRecDepth 100000 in
theorem by_zero (a : Int) (g : Nat) (w : World) : Calls Try.prog 96 #[.int .i64 a, .int .i64 0, .pointer (some ⟨g, 0, none⟩)] w fun e w' => e = .returned (ansV zeroVal 44) ∧ Below w.heap.size w w' := by
  go_enter Try.func96, Try.ntmps96
  go_wp2_with fail
  exact bodyPost_ret (v := .tuple #[.agg #[.int .u8 0, .int .i64 0, .string ByteArray.empty], .int .i64 44]) (by simp [results, Try.results96, go_sem]; try rfl) rfl ⟨rfl, by go_grown⟩
set_option maxHeartbeats 2000000 in
set_option maxRecDepth 100000 in
theorem by_any (a b : Int) (hb : b ≠ 0) (g k : Nat) (r : Val × Int) (w : World) (hg : Blk w g 96 #[.func (.func k) #[] #[]]) (he : ∀ args w, (callFunc k args).run Try.prog w = .ok (.enter k args) w)
    (hk : ∀ w, Calls Try.prog k #[.int .i64 a, .int .i64 b] w fun e w' => e = .returned (ansV r.1 r.2) ∧ Below w.heap.size w w') : Calls Try.prog 96 #[.int .i64 a, .int .i64 b, .pointer (some ⟨g, 0, none⟩)] w fun e w' => e = .returned (ansV r.1 r.2) ∧ Below w.heap.size w w' := by
  have HK := Lib.hid hk
  clear hk
  have e1 : (b == 0) = false := by simpa using hb
  have cG := (hg.alloc (.cells #[.int .u8 0, .int .i64 0, .string ⟨#[]⟩] 23)).cell 0
  simp only [List.getElem?_toArray, List.getElem?_cons_zero] at cG
  go_enter Try.func96, Try.ntmps96
  go_wp2_with fail
  refine (HK.out _).mono ?_
  rintro e w' ⟨rfl, b1⟩
  unfold ansV
  have hR := (Blk.new w 23 #[.int .u8 0, .int .i64 0, .string ⟨#[]⟩]).later b1
  have hB := Later.then (later_new w (.cells #[.int .u8 0, .int .i64 0, .string ⟨#[]⟩] 23)) b1
  clear b1 cG
  have hR1 := val_cells hR
  have hR3 := Blk.frozen hR
  clear hR
  go_wp2_with fail
  exact bodyPost_ret (v := .tuple #[.agg #[.int .u8 r.1.k, .int .i64 r.1.n, .string r.1.s], .int .i64 r.2]) (by simp [results, Try.results96, go_sem, hR1]) rfl ⟨rfl, ((hB.setCell (Nat.le_refl _) _).setCell (Nat.le_refl _) _).setCell (Nat.le_refl _) _⟩

end Go.Proofs.Ytlfahfoffdbpfaa
