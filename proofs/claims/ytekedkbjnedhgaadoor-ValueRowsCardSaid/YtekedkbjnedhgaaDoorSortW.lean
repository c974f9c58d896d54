/- The array that is sorted: rows in a block of the call's own; slices.swapRangeCmpFunc. -/
import Derived.Test.YtekedkbjnedhgaaDoorOwnV
import Derived.Deep.DeepCutAuto
import Derived.BigRegion
namespace Go.Proofs.YtekedkbjnedhgaaDoor
open Go.ChangeShapes Go.WideShapes Go.ChangeAt Go.RowKit
set_option linter.unusedVariables false
set_option linter.unusedSimpArgs false
set_option maxRecDepth 100000

/-- a row that does not lie in block g -/
def RN (w : World) (g : Nat) (r : RowS) : Prop :=
  r.l = [] ∨ ∃ b off, r.A = some ⟨b, off, none⟩ ∧ b < w.heap.size ∧ b ≠ g ∧ ∀ i x, r.l[i]? = some x → ValAt w b (off + i * 3) x
theorem RN.rv {w w' : World} {g : Nat} {r : RowS} (h : RN w g r) (hg : w.grownBy w' (some g)) : RV w' w'.heap.size r.A r.l := by
  rcases h with h | ⟨b, off, h1, h2, h3, h4⟩
  · exact .inl h
  · refine .inr ⟨b, off, h1, Nat.lt_of_lt_of_le h2 hg.size, fun i x hx => (h4 i x hx).keep fun o => ?_⟩
    have hb := hg.block b h2 (fun e => h3 (by injection e))
    unfold World.cell?
    simp only [hb]
/-- block g holds the rows D 0 .. D (n-1) -/
def At (w : World) (g n : Nat) (D : Nat → RowS) : Prop := ∃ cs, Blk w g 29 cs ∧ n ≤ cs.size ∧ ∀ i, i < n → cs[i]? = some (D i).v
theorem At.cell {w : World} {g n : Nat} {D : Nat → RowS} (h : At w g n D) (i : Nat) (hi : i < n) : w.cell? ⟨g, i, none⟩ = some (.slice (D i).A (D i).l.length (D i).c) := by
  obtain ⟨cs, hb, _, hc⟩ := h
  rw [hb.cell, hc i hi]
  rfl
theorem At.frozen {w : World} {g n : Nat} {D : Nat → RowS} (h : At w g n D) (i : Nat) : w.frozen? ⟨g, i, none⟩ = false := by
  obtain ⟨cs, hb, _, hc⟩ := h
  exact hb.frozen i
theorem At.later {w w' : World} {g n : Nat} {D : Nat → RowS} (h : At w g n D) (hb : Below w.heap.size w w') : At w' g n D := by
  obtain ⟨cs, h1, h2, h3⟩ := h
  exact ⟨cs, h1.later hb, h2, h3⟩
theorem At.congr {w : World} {g n : Nat} {D E : Nat → RowS} (h : At w g n D) (he : ∀ i, i < n → D i = E i) : At w g n E := by
  obtain ⟨cs, h1, h2, h3⟩ := h
  exact ⟨cs, h1, h2, fun i hi => by rw [← he i hi]; exact h3 i hi⟩
def swp (D : Nat → RowS) (i j : Nat) : Nat → RowS := fun k => if k = j then D i else if k = i then D j else D k
theorem At.swap {w : World} {g n : Nat} {D : Nat → RowS} (h : At w g n D) (i j : Nat) (hi : i < n) (hj : j < n) : At (((w.setCell ⟨g, i, none⟩ (D j).v).setCell ⟨g, j, none⟩ (D i).v).drew) g n (swp D i j) := by
  obtain ⟨cs, h1, h2, h3⟩ := h
  refine ⟨(cs.setIfInBounds i (D j).v).setIfInBounds j (D i).v, ((h1.set_ i _).set_ j _).drew, by simpa using h2, fun k hk => ?_⟩
  have e0 := h3 k hk
  unfold swp
  rw [Array.getElem?_setIfInBounds, Array.getElem?_setIfInBounds]
  have s1 : (cs.setIfInBounds i (D j).v).size = cs.size := by simp
  rw [s1]
  repeat' split
  all_goals first
    | (exfalso; omega)
    | rfl
    | exact e0

/-- from w0 on only block g has turned, and holds D -/
structure SS (w0 : World) (g n : Nat) (w : World) (D : Nat → RowS) : Prop where
  at_ : At w g n D
  grown : w0.grownBy w (some g)
  rows : ∀ k, k < n → RN w0 g (D k) ∧ (D k).l.length ≤ 1000
theorem SS.later {w0 w w' : World} {g n : Nat} {D : Nat → RowS} (h : SS w0 g n w D) (hb : Below w.heap.size w w') : SS w0 g n w' D := ⟨h.at_.later hb, grown_trans h.grown (grown_below hb), h.rows⟩
theorem SS.congr {w0 w : World} {g n : Nat} {D E : Nat → RowS} (h : SS w0 g n w D) (he : ∀ i, i < n → D i = E i) : SS w0 g n w E := ⟨h.at_.congr he, h.grown, fun k hk => by rw [← he k hk]; exact h.rows k hk⟩
theorem SS.rv {w0 w : World} {g n : Nat} {D : Nat → RowS} (h : SS w0 g n w D) (i : Nat) (hi : i < n) : RV w w.heap.size (D i).A (D i).l := (h.rows i hi).1.rv h.grown
theorem SS.swap {w0 w : World} {g n : Nat} {D : Nat → RowS} (h : SS w0 g n w D) (i j : Nat) (hi : i < n) (hj : j < n) : SS w0 g n (((w.setCell ⟨g, i, none⟩ (D j).v).setCell ⟨g, j, none⟩ (D i).v).drew) (swp D i j) := by
  refine ⟨h.at_.swap i j hi hj, grown_drew (grown_set (grown_set h.grown i _) j _), fun k hk => ?_⟩
  unfold swp
  split
  · exact h.rows i hi
  · split
    · exact h.rows j hj
    · exact h.rows k hk
theorem SS.second {w0 w : World} {g n : Nat} {D : Nat → RowS} (h : SS w0 g n w D) (i j : Nat) (hi : i < n) (hj : j < n) (u : Value) : ∃ v, (w.setCell ⟨g, i, none⟩ u).cell? ⟨g, j, none⟩ = some v := by
  obtain ⟨cs, h1, h2, h3⟩ := h.at_
  rw [(h1.set_ i u).cell j, Array.getElem?_setIfInBounds]
  split
  · rw [if_pos (by omega)]; exact ⟨_, rfl⟩
  · exact ⟨_, h3 j hj⟩

def swapR (D : Nat → RowS) (a b c : Nat) : Nat → RowS := fun k => if a ≤ k ∧ k < a + c then D (k - a + b) else if b ≤ k ∧ k < b + c then D (k - b + a) else D k
theorem swapR_zero (D : Nat → RowS) (a b : Nat) : swapR D a b 0 = D := by
  funext k
  unfold swapR
  rw [if_neg (by omega), if_neg (by omega)]
theorem swapR_step (D : Nat → RowS) (a b i : Nat) (h : a + i < b) : swp (swapR D a b i) (a + i) (b + i) = swapR D a b (i + 1) := by
  funext k
  unfold swp swapR
  repeat' split
  all_goals first
    | (exfalso; omega)
    | rfl
    | (congr 1; omega)

def rowsF : Value := .func (.func 16) #[] #[]
def sortPost (w0 : World) (g n : Nat) (D : Nat → RowS) (e : Ending) (w' : World) : Prop := e = .returned (.tuple #[]) ∧ SS w0 g n w' D

set_option maxHeartbeats 4000000 in
theorem swapRange_any (w0 : World) (g n cap a b c : Nat) (D : Nat → RowS) (w : World) (h : SS w0 g n w D) (hn : n ≤ 1000) (hab : a + c ≤ b) (hb : b + c ≤ n) :
    Calls Tryd.prog 75 #[.slice (some ⟨g, 0, none⟩) n cap, .int .i64 a, .int .i64 b, .int .i64 c, .func (.func 16) #[] #[]] w (sortPost w0 g n (swapR D a b c)) := by
  have HS := Lib.hid h
  clear h
  have mixed : Tryd.prog.follows .mixedOrders = true := by kernel_rfl
  go_enter Tryd.func75, Tryd.ntmps75
  go_wp2_with fail
  go_loopw [10] (fun iv wr => ∃ i : Nat, i ≤ c ∧ iv = .int .i64 i ∧ SS w0 g n wr (swapR D a b i)) (fun iv _ => c - (intOf iv).toNat)
  case atStart => exact ⟨0, Nat.zero_le _, rfl, by rw [swapR_zero]; exact HS.out⟩
  case round =>
    obtain ⟨i, hi, rfl, hs⟩ := hrel
    have H2 := Lib.hid hs
    clear hs
    by_cases hlt : i < c
    · have c1 := H2.out.at_.cell (a + i) (by omega)
      have c2 := H2.out.at_.cell (b + i) (by omega)
      have f1 := H2.out.at_.frozen (a + i)
      have f2 := H2.out.at_.frozen (b + i)
      obtain ⟨u, c3⟩ := H2.out.second (a + i) (b + i) (by omega) (by omega) (swapR D a b i (b + i)).v
      have S3 := Lib.hid (H2.out.swap (a + i) (b + i) (by omega) (by omega))
      unfold RowS.v at c3 S3
      go_upto_region 3 with fail
      go_big_region_o
      clear c1 c2 c3 f1 f2
      rw [swapR_step D a b i (by omega)] at S3
      generalize hW3 : World.drew _ = W3 at S3 ⊢
      clear hW3
      go_wp2_with fail
      go_roundw
      case rel => exact ⟨i + 1, hlt, by go_num, S3.out⟩
      case measure => simp [intOf]; omega
    · have hke : i = c := by omega
      subst hke
      go_wp2_with fail
      exact bodyPost_ret (v := .tuple #[]) (by simp [results, Tryd.results75, go_sem]) rfl ⟨rfl, H2.out⟩

/-- the two pieces [s, m) and [m, e), one for the other -/
def rotF (D : Nat → RowS) (s m e : Nat) : Nat → RowS := fun k => if s ≤ k ∧ k < e then (if k < s + (e - m) then D (k + (m - s)) else D (k - (e - m))) else D k
theorem rot_more (D : Nat → RowS) (m i j : Nat) (hi : i ≤ m) (hij : j < i) : rotF (swapR D (m - i) m j) (m - (i - j)) m (m + j) = rotF D (m - i) m (m + j) := by
  funext k
  unfold rotF swapR
  repeat' split
  all_goals first
    | (exfalso; omega)
    | rfl
    | (congr 1; omega)
theorem rot_less (D : Nat → RowS) (m i j : Nat) (hi : i ≤ m) (hij : i < j) : rotF (swapR D (m - i) (m + j - i) i) (m - i) m (m + (j - i)) = rotF D (m - i) m (m + j) := by
  funext k
  unfold rotF swapR
  repeat' split
  all_goals first
    | (exfalso; omega)
    | rfl
    | (congr 1; omega)
theorem rot_same (D : Nat → RowS) (m i : Nat) (hi : i ≤ m) : swapR D (m - i) m i = rotF D (m - i) m (m + i) := by
  funext k
  unfold rotF swapR
  repeat' split
  all_goals first
    | (exfalso; omega)
    | rfl
    | (congr 1; omega)

set_option maxHeartbeats 4000000 in
theorem rotate_any (w0 : World) (g n cap a m b : Nat) (D : Nat → RowS) (w : World) (h : SS w0 g n w D) (hn : n ≤ 1000) (ham : a < m) (hmb : m < b) (hb : b ≤ n) :
    Calls Tryd.prog 63 #[.slice (some ⟨g, 0, none⟩) n cap, .int .i64 a, .int .i64 m, .int .i64 b, .func (.func 16) #[] #[]] w (sortPost w0 g n (rotF D a m b)) := by
  have HS := Lib.hid h
  clear h
  go_enter Tryd.func63, Tryd.ntmps63
  go_wp2_with fail
  go_loopw [10, 11] (fun iv jv wr => ∃ (i j : Nat) (E : Nat → RowS), 0 < i ∧ 0 < j ∧ a + i ≤ m ∧ m + j ≤ b ∧ iv = .int .i64 i ∧ jv = .int .i64 j ∧ SS w0 g n wr E ∧ rotF E (m - i) m (m + j) = rotF D a m b) (fun iv jv _ => (intOf iv).toNat + (intOf jv).toNat)
  case atStart =>
    refine ⟨m - a, b - m, D, by omega, by omega, by omega, by omega, by go_num, by go_num, HS.out, ?_⟩
    rw [show m - (m - a) = a by omega, show m + (b - m) = b by omega]
  case round =>
    obtain ⟨i, j, E, hi0, hj0, hi, hj, rfl, rfl, hs, hr⟩ := hrel
    have H2 := Lib.hid hs
    have HR := Lib.hid hr
    clear hs hr
    by_cases heq : i = j
    · subst heq
      have t1 : ((i : Int) != (i : Int)) = false := by simp
      have z1 : (m : Int) - (i : Int) = ((m - i : Nat) : Int) := by omega
      go_wp2_with fail
      refine (swapRange_any w0 g n cap (m - i) m i E wr H2.out hn (by omega) (by omega)).mono ?_
      rintro e_ w1 ⟨rfl, hs⟩
      rw [rot_same E m i (by omega), HR.out] at hs
      have H3 := Lib.hid hs
      clear hs H2 HR z1 t1
      go_wp2_with fail
      exact bodyPost_ret (v := .tuple #[]) (by simp [results, Tryd.results63, go_sem]) rfl ⟨rfl, H3.out⟩
    · have t1 : ((i : Int) != (j : Int)) = true := by simp; omega
      have z1 : (m : Int) - (i : Int) = ((m - i : Nat) : Int) := by omega
      by_cases hlt : j < i
      · have t2 : decide ((j : Int) < (i : Int)) = true := by simp; omega
        go_wp2_with fail
        refine (swapRange_any w0 g n cap (m - i) m j E wr H2.out hn (by omega) (by omega)).mono ?_
        rintro e_ w1 ⟨rfl, hs⟩
        have H3 := Lib.hid hs
        have HR3 := Lib.hid ((rot_more E m i j (by omega) hlt).trans HR.out)
        clear hs H2 HR z1 t1
        go_wp2_with fail
        go_roundw
        case rel => exact ⟨i - j, j, _, by omega, by omega, by omega, by omega, by go_num, rfl, H3.out, HR3.out⟩
        case measure => simp [intOf]; omega
      · have t2 : decide ((j : Int) < (i : Int)) = false := by simp; omega
        have z2 : (m : Int) + (j : Int) - (i : Int) = ((m + j - i : Nat) : Int) := by omega
        go_wp2_with fail
        refine (swapRange_any w0 g n cap (m - i) (m + j - i) i E wr H2.out hn (by omega) (by omega)).mono ?_
        rintro e_ w1 ⟨rfl, hs⟩
        have H3 := Lib.hid hs
        have HR3 := Lib.hid ((rot_less E m i j (by omega) (by omega)).trans HR.out)
        clear hs H2 HR z1 t1 z2
        go_wp2_with fail
        go_roundw
        case rel => exact ⟨i, j - i, _, by omega, by omega, by omega, by omega, rfl, by go_num, H3.out, HR3.out⟩
        case measure => simp [intOf]; omega
end Go.Proofs.YtekedkbjnedhgaaDoor
