/- value.Good and value.Compare, the document's too; slices of values. -/
import Derived.Test.YtekedkbjnedhgaaDoorCmp
import Derived.Test.YtekedkbjnedhgaaDoorOwn
import Derived.BigRegion
import Derived.Deep.RegionWith
namespace Go.Proofs.YtekedkbjnedhgaaDoor
open Go.ChangeShapes Go.WideShapes Go.ChangeAt Go.RowKit
set_option linter.unusedVariables false
set_option linter.unusedSimpArgs false

def zeroVal : Val := ⟨0, 0, ByteArray.empty⟩
def num (n : Int) : Val := ⟨2, n, ByteArray.empty⟩
def boolV (b : Bool) : Val := ⟨1, if b then 1 else 0, ByteArray.empty⟩
def valV (v : Val) : Value := .agg #[.int .u8 v.k, .int .i64 v.n, .string v.s]
/-- a value, and an error's number -/
def ansV (v : Val) (err : Int) : Value := .tuple #[.agg #[.int .u8 v.k, .int .i64 v.n, .string v.s], .int .i64 err]
def Val.Ok (a : Val) : Prop := -9223372036854775808 ≤ a.n ∧ a.n ≤ 9223372036854775807

theorem Below.then {B : Nat} {a b c : World} (h : Below B a b) (hB : B ≤ a.heap.size) (k : Below b.heap.size b c) : Below B a c := h.trans (k.mono (Nat.le_trans hB h.size))
theorem Later.then {a b c : World} (h : Below a.heap.size a b) (k : Below b.heap.size b c) : Below a.heap.size a c := h.trans (k.mono h.size)
theorem later_new (w : World) (o : Obj) : Below w.heap.size w (w.alloc o) := (Below.refl _ _).alloc (Nat.le_refl _) o
theorem val_cells {w : World} {g : Nat} {t : TypeId} {k n : Int} {s : ByteArray} (h : Blk w g t #[.int .u8 k, .int .i64 n, .string s]) : w.cell? ⟨g, 0, none⟩ = some (.int .u8 k) ∧ w.cell? ⟨g, 1, none⟩ = some (.int .i64 n) ∧ w.cell? ⟨g, 2, none⟩ = some (.string s) := ⟨h.cell 0, h.cell 1, h.cell 2⟩

def emptyS (s : ByteArray) : Bool := s.toList == []
/-- a good value -/
def good (v : Val) : Bool :=
  if v.k = 0 then (v.n == 0 && emptyS v.s) else if v.k = 1 then (emptyS v.s && (v.n == 0 || v.n == 1)) else if v.k = 2 then emptyS v.s else if v.k = 3 then v.n == 0 else false

set_option maxHeartbeats 2000000 in
theorem good_any (v : Val) (w : World) : Calls Tryd.prog 9 #[.agg #[.int .u8 v.k, .int .i64 v.n, .string v.s]] w fun e w' => e = .returned (.bool (good v)) ∧ Below w.heap.size w w' := by
  obtain ⟨k, n, s⟩ := v
  unfold good emptyS
  dsimp only
  by_cases h0 : k = 0
  · subst h0
    go_enter Tryd.func9, Tryd.ntmps9
    go_wp2
    all_goals
      go_ret
      refine ⟨?_, by go_grown⟩
      simp_all
  · have e0 : (k == 0) = false := by simpa using h0
    by_cases h1 : k = 1
    · subst h1
      cases hs : (s.toList == [])
      · go_enter Tryd.func9, Tryd.ntmps9
        go_wp2
        all_goals
          go_ret
          refine ⟨?_, by go_grown⟩
          simp_all
      · cases hn : (n == 0)
        · go_enter Tryd.func9, Tryd.ntmps9
          go_wp2
          all_goals
            go_ret
            refine ⟨?_, by go_grown⟩
            simp_all
        · go_enter Tryd.func9, Tryd.ntmps9
          go_wp2
          all_goals
            go_ret
            refine ⟨?_, by go_grown⟩
            simp_all
    · have e1 : (k == 1) = false := by simpa using h1
      by_cases h2 : k = 2
      · subst h2
        go_enter Tryd.func9, Tryd.ntmps9
        go_wp2
        all_goals
          go_ret
          refine ⟨?_, by go_grown⟩
          simp_all
      · have e2 : (k == 2) = false := by simpa using h2
        by_cases h3 : k = 3
        · subst h3
          go_enter Tryd.func9, Tryd.ntmps9
          go_wp2
          all_goals
            go_ret
            refine ⟨?_, by go_grown⟩
            simp_all
        · have e3 : (k == 3) = false := by simpa using h3
          go_enter Tryd.func9, Tryd.ntmps9
          go_wp2
          all_goals
            go_ret
            refine ⟨?_, by go_grown⟩
            simp_all

set_option maxHeartbeats 2000000 in
theorem goodR_any (v : Val) (w : World) : Calls Tryd.prog 10 #[.agg #[.int .u8 v.k, .int .i64 v.n, .string v.s]] w fun e w' => e = .returned (.bool (good v)) ∧ Below w.heap.size w w' := by
  obtain ⟨k, n, s⟩ := v
  unfold good emptyS
  dsimp only
  by_cases h0 : k = 0
  · subst h0
    cases hn : (n == 0)
    · go_enter Tryd.func10, Tryd.ntmps10
      go_wp2_with fail
      go_ret
      refine ⟨?_, by go_grown⟩
      simp_all
    · go_enter Tryd.func10, Tryd.ntmps10
      go_wp2_with fail
      go_ret
      refine ⟨?_, by go_grown⟩
      simp_all
  · have e0 : (k == 0) = false := by simpa using h0
    by_cases h1 : k = 1
    · subst h1
      cases hn : (n == 0)
      · cases hn1 : (n == 1)
        · go_enter Tryd.func10, Tryd.ntmps10
          go_wp2_with fail
          go_ret
          refine ⟨?_, by go_grown⟩
          simp_all
        · go_enter Tryd.func10, Tryd.ntmps10
          go_wp2_with fail
          go_ret
          refine ⟨?_, by go_grown⟩
          simp_all
      · go_enter Tryd.func10, Tryd.ntmps10
        go_wp2_with fail
        go_ret
        refine ⟨?_, by go_grown⟩
        simp_all
    · have e1 : (k == 1) = false := by simpa using h1
      by_cases h2 : k = 2
      · subst h2
        go_enter Tryd.func10, Tryd.ntmps10
        go_wp2_with fail
        go_ret
        refine ⟨?_, by go_grown⟩
        simp_all
      · have e2 : (k == 2) = false := by simpa using h2
        by_cases h3 : k = 3
        · subst h3
          go_enter Tryd.func10, Tryd.ntmps10
          go_wp2_with fail
          go_ret
          refine ⟨?_, by go_grown⟩
          simp_all
        · have e3 : (k == 3) = false := by simpa using h3
          go_enter Tryd.func10, Tryd.ntmps10
          go_wp2_with fail
          go_ret
          refine ⟨?_, by go_grown⟩
          simp_all

theorem less_irrefl : ∀ l : List UInt8, Op.bytesLess l l = false
  | [] => by simp [Op.bytesLess]
  | a :: l => by simp [Op.bytesLess, less_irrefl l]
set_option maxHeartbeats 2000000 in
theorem compareR_any (a b : Val) (w : World) : Calls Tryd.prog 12 #[.agg #[.int .u8 a.k, .int .i64 a.n, .string a.s], .agg #[.int .u8 b.k, .int .i64 b.n, .string b.s]] w fun e w' => e = .returned (.int .i64 (vcmp a b)) ∧ Below w.heap.size w w' := by
  by_cases hk : a.k = b.k
  · have t1 : (a.k != b.k) = false := by simpa using hk
    by_cases hn : a.n = b.n
    · have t2 : (a.n != b.n) = false := by simpa using hn
      have hv : vcmp a b = cmpS a.s b.s := by
        unfold vcmp or3 cmpI
        rw [if_neg (show ¬ a.k < b.k by omega), if_neg (show ¬ b.k < a.k by omega), if_pos rfl, if_neg (show ¬ a.n < b.n by omega), if_neg (show ¬ b.n < a.n by omega), if_pos rfl]
      have HV := Lib.hid hv
      clear hv hk hn
      cases he : (a.s.toList == b.s.toList)
      · cases hl : Op.bytesLess a.s.toList b.s.toList
        · have HQ := Lib.hid (show vcmp a b = 1 by rw [HV.out]; unfold cmpS; rw [if_neg (by rw [hl]; simp), if_neg (by rw [he]; simp)])
          go_enter Tryd.func12, Tryd.ntmps12
          go_wp2_with fail
          go_ret
          exact ⟨by rw [HQ.out]; rfl, by go_grown⟩
        · have HQ := Lib.hid (show vcmp a b = -1 by rw [HV.out]; unfold cmpS; rw [if_pos hl])
          go_enter Tryd.func12, Tryd.ntmps12
          go_wp2_with fail
          go_ret
          exact ⟨by rw [HQ.out]; rfl, by go_grown⟩
      · have hl : Op.bytesLess a.s.toList b.s.toList = false := by
          have : a.s.toList = b.s.toList := by simpa using he
          rw [this]
          exact less_irrefl _
        have HQ := Lib.hid (show vcmp a b = 0 by rw [HV.out]; unfold cmpS; rw [if_neg (by rw [hl]; simp), if_pos he])
        go_enter Tryd.func12, Tryd.ntmps12
        go_wp2_with fail
        go_ret
        exact ⟨by rw [HQ.out]; rfl, by go_grown⟩
    · have t2 : (a.n != b.n) = true := by simpa using hn
      by_cases hl : a.n < b.n
      · have t3 := decide_eq_true hl
        have HQ := Lib.hid (show vcmp a b = -1 by unfold vcmp or3 cmpI; rw [if_neg (show ¬ a.k < b.k by omega), if_neg (show ¬ b.k < a.k by omega), if_pos rfl, if_pos hl, if_neg (by decide)])
        clear hk hn
        go_enter Tryd.func12, Tryd.ntmps12
        go_wp2_with fail
        go_ret
        exact ⟨by rw [HQ.out]; rfl, by go_grown⟩
      · have t3 := decide_eq_false hl
        have HQ := Lib.hid (show vcmp a b = 1 by unfold vcmp or3 cmpI; rw [if_neg (show ¬ a.k < b.k by omega), if_neg (show ¬ b.k < a.k by omega), if_pos rfl, if_neg hl, if_pos (show b.n < a.n by omega), if_neg (by decide)])
        clear hk hn
        go_enter Tryd.func12, Tryd.ntmps12
        go_wp2_with fail
        go_ret
        exact ⟨by rw [HQ.out]; rfl, by go_grown⟩
  · have t1 : (a.k != b.k) = true := by simpa using hk
    by_cases hl : a.k < b.k
    · have t3 := decide_eq_true hl
      have HQ := Lib.hid (show vcmp a b = -1 by unfold vcmp or3 cmpI; rw [if_pos hl, if_neg (by decide)])
      clear hk
      go_enter Tryd.func12, Tryd.ntmps12
      go_wp2_with fail
      go_ret
      exact ⟨by rw [HQ.out]; rfl, by go_grown⟩
    · have t3 := decide_eq_false hl
      have HQ := Lib.hid (show vcmp a b = 1 by unfold vcmp or3 cmpI; rw [if_neg hl, if_pos (show b.k < a.k by omega), if_neg (by decide)])
      clear hk
      go_enter Tryd.func12, Tryd.ntmps12
      go_wp2_with fail
      go_ret
      exact ⟨by rw [HQ.out]; rfl, by go_grown⟩

def ValAt (w : World) (b off : Nat) (x : Val) : Prop :=
  w.cell? ⟨b, off, none⟩ = some (.int .u8 x.k) ∧ w.cell? ⟨b, off + 1, none⟩ = some (.int .i64 x.n) ∧ w.cell? ⟨b, off + 2, none⟩ = some (.string x.s)
/-- a slice that reads as values -/
def RV (w : World) (B : Nat) (A : Option Addr) (l : List Val) : Prop :=
  l = [] ∨ ∃ b off, A = some ⟨b, off, none⟩ ∧ b < B ∧ ∀ i x, l[i]? = some x → ValAt w b (off + i * 3) x
theorem ValAt.keep {w w' : World} {b off : Nat} {x : Val} (h : ValAt w b off x) (hk : ∀ o, w'.cell? ⟨b, o, none⟩ = w.cell? ⟨b, o, none⟩) : ValAt w' b off x := by
  unfold ValAt at *
  simp only [hk]
  exact h
theorem RV.below {w w' : World} {B : Nat} {A : Option Addr} {l : List Val} (h : RV w B A l) (hb : Below B w w') : RV w' B A l := by
  rcases h with h | ⟨b, off, h1, h2, h3⟩
  · exact .inl h
  · exact .inr ⟨b, off, h1, h2, fun i x hx => (h3 i x hx).keep fun o => hb.cell (p := ⟨b, o, none⟩) h2⟩
theorem RV.more {w : World} {B B' : Nat} {A : Option Addr} {l : List Val} (h : RV w B A l) (hB : B ≤ B') : RV w B' A l := by
  rcases h with h | ⟨b, off, h1, h2, h3⟩
  · exact .inl h
  · exact .inr ⟨b, off, h1, by omega, h3⟩
theorem RV.at_ {w : World} {B : Nat} {A : Option Addr} {l : List Val} (h : RV w B A l) {k : Nat} (hk : k < l.length) : ∃ b off, A = some ⟨b, off, none⟩ ∧ b < B ∧ ValAt w b (off + k * 3) l[k] := by
  rcases h with h | ⟨b, off, h1, h2, h3⟩
  · subst h; simp at hk
  · exact ⟨b, off, h1, h2, h3 k _ (List.getElem?_eq_getElem hk)⟩
theorem RV.one {w : World} {B : Nat} {A : Option Addr} {x : Val} (h : RV w B A [x]) : ∃ b off, A = some ⟨b, off, none⟩ ∧ b < B ∧ ValAt w b off x := by
  obtain ⟨b, off, h1, h2, h3⟩ := h.at_ (k := 0) (by simp)
  exact ⟨b, off, h1, h2, by simpa using h3⟩
theorem RV.two {w : World} {B : Nat} {A : Option Addr} {x y : Val} (h : RV w B A [x, y]) : ∃ b off, A = some ⟨b, off, none⟩ ∧ b < B ∧ ValAt w b off x ∧ ValAt w b (off + 3) y := by
  rcases h with h | ⟨b, off, h1, h2, h3⟩
  · simp at h
  · exact ⟨b, off, h1, h2, by simpa using h3 0 x rfl, by simpa using h3 1 y rfl⟩

end Go.Proofs.YtekedkbjnedhgaaDoor
