/- value.Rows, slices.CompareFunc at values, the document's Rows; great. -/
import Derived.Test.YtekedkbjnedhgaaDoorWakes
import Derived.Deep.DeepCutAuto
namespace Go.Proofs.YtekedkbjnedhgaaDoor
open Go.ChangeShapes Go.WideShapes Go.ChangeAt Go.RowKit
set_option linter.unusedVariables false
set_option linter.unusedSimpArgs false
set_option maxRecDepth 100000

/-- which row stands ahead -/
def rcmp : List Val → List Val → Int
  | [], [] => 0
  | [], _ :: _ => -1
  | _ :: _, [] => 1
  | a :: l, b :: m => if vcmp a b = 0 then rcmp l m else vcmp a b
theorem rcmp_drop (l m : List Val) (k : Nat) (h1 : k < l.length) (h2 : k < m.length) : rcmp (l.drop k) (m.drop k) = if vcmp l[k] m[k] = 0 then rcmp (l.drop (k + 1)) (m.drop (k + 1)) else vcmp l[k] m[k] := by
  rw [List.drop_eq_getElem_cons h1, List.drop_eq_getElem_cons h2]
  rfl
theorem rcmp_more (l m : List Val) (k : Nat) (h1 : k < l.length) (h2 : m.length ≤ k) : rcmp (l.drop k) (m.drop k) = 1 := by
  rw [List.drop_eq_getElem_cons h1, List.drop_eq_nil_of_le h2]
  rfl
theorem rcmp_less (l m : List Val) (k : Nat) (h1 : l.length ≤ k) (h2 : k < m.length) : rcmp (l.drop k) (m.drop k) = -1 := by
  rw [List.drop_eq_getElem_cons h2, List.drop_eq_nil_of_le h1]
  rfl
theorem rcmp_end (l m : List Val) (k : Nat) (h1 : l.length ≤ k) (h2 : m.length ≤ k) : rcmp (l.drop k) (m.drop k) = 0 := by
  rw [List.drop_eq_nil_of_le h1, List.drop_eq_nil_of_le h2]
  rfl

set_option maxHeartbeats 4000000 in
theorem compareFunc_any (A : Option Addr) (c : Nat) (l : List Val) (A' : Option Addr) (c' : Nat) (l' : List Val) (w : World) (h : RV w w.heap.size A l) (h' : RV w w.heap.size A' l') (hm : l.length ≤ 1000) (hm' : l'.length ≤ 1000) :
    Calls Tryd.prog 31 #[.slice A l.length c, .slice A' l'.length c', .func (.func 11) #[] #[]] w fun e w' => e = .returned (.int .i64 (rcmp l l')) ∧ Below w.heap.size w w' := by
  have HR := Lib.hid h
  have HR' := Lib.hid h'
  clear h h'
  go_enter Tryd.func31, Tryd.ntmps31
  go_wp2_with fail
  go_loopw [13] (fun i wr => ∃ k : Nat, k ≤ l.length ∧ k ≤ l'.length ∧ i = .int .i64 k ∧ rcmp (l.drop k) (l'.drop k) = rcmp l l' ∧ Below w.heap.size w wr) (fun i _ => l.length - (intOf i).toNat)
  case atStart => exact ⟨0, Nat.zero_le _, Nat.zero_le _, rfl, rfl, Below.refl _ _⟩
  case round =>
    obtain ⟨k, hk, hk', rfl, hd, hB⟩ := hrel
    have HD := Lib.hid hd
    clear hd
    by_cases hlt : k < l.length
    · obtain ⟨b, off, rfl, hb, c0, c1, c2⟩ := (HR.out.below hB).at_ hlt
      by_cases hlt' : k < l'.length
      · have HS := Lib.hid (rcmp_drop l l' k hlt hlt')
        have b1 := later_new wr (.cells #[.int .u8 l[k].k, .int .i64 l[k].n, .string l[k].s] 23)
        have hV := Blk.new wr 23 #[.int .u8 l[k].k, .int .i64 l[k].n, .string l[k].s]
        generalize l[k] = v at *
        go_upto_region 6 with fail
        clear c0 c1 c2
        replace hB := Later.then hB b1
        generalize wr.alloc (.cells #[.int .u8 v.k, .int .i64 v.n, .string v.s] 23) = W1 at *
        obtain ⟨b', off', rfl, hb', c0', c1', c2'⟩ := (HR'.out.below hB).at_ hlt'
        have b2 := later_new W1 (.cells #[.int .u8 l'[k].k, .int .i64 l'[k].n, .string l'[k].s] 23)
        have hV' := Blk.new W1 23 #[.int .u8 l'[k].k, .int .i64 l'[k].n, .string l'[k].s]
        generalize l'[k] = v' at *
        go_upto_region 7 with fail
        clear c0' c1' c2'
        replace hB := Later.then hB b2
        replace hV := hV.later b2
        generalize W1.alloc (.cells #[.int .u8 v'.k, .int .i64 v'.n, .string v'.s] 23) = W2 at *
        obtain ⟨x0, x1, x2⟩ := val_cells hV
        obtain ⟨y0, y1, y2⟩ := val_cells hV'
        go_wp2_with fail
        refine (compare_any v v' _).mono ?_
        rintro e w3 ⟨rfl, b3⟩
        replace hB := Later.then hB b3
        clear x0 x1 x2 y0 y1 y2 hV hV' b1 b2 b3
        by_cases h0 : vcmp v v' = 0
        · have t0 : (vcmp v v' != 0) = false := by simpa using h0
          have HD' := Lib.hid ((HS.out.trans (if_pos h0)).symm.trans HD.out)
          clear h0
          go_wp2_with fail
          go_roundw
          case rel => exact ⟨k + 1, hlt, hlt', by go_num, HD'.out, hB⟩
          case measure => simp [intOf]; omega
        · have t0 : (vcmp v v' != 0) = true := by simpa using h0
          have HD' := Lib.hid ((HS.out.trans (if_neg h0)).symm.trans HD.out)
          clear h0
          go_wp2_with fail
          go_ret
          exact ⟨by rw [HD'.out]; rfl, hB⟩
      · have HS := Lib.hid (rcmp_more l l' k hlt (by omega))
        have b1 := later_new wr (.cells #[.int .u8 l[k].k, .int .i64 l[k].n, .string l[k].s] 23)
        generalize l[k] = v at *
        go_wp2_with fail
        go_ret
        exact ⟨by rw [← HD.out, HS.out]; rfl, Later.then hB b1⟩
    · by_cases hlt' : k < l'.length
      · have HS := Lib.hid (rcmp_less l l' k (by omega) hlt')
        go_wp2_with fail
        go_ret
        exact ⟨by rw [← HD.out, HS.out]; rfl, hB⟩
      · have HS := Lib.hid (rcmp_end l l' k (by omega) (by omega))
        go_wp2_with fail
        go_ret
        exact ⟨by rw [← HD.out, HS.out]; rfl, hB⟩
theorem rows_any (A : Option Addr) (c : Nat) (l : List Val) (A' : Option Addr) (c' : Nat) (l' : List Val) (w : World) (h : RV w w.heap.size A l) (h' : RV w w.heap.size A' l') (hm : l.length ≤ 1000) (hm' : l'.length ≤ 1000) :
    Calls Tryd.prog 16 #[.slice A l.length c, .slice A' l'.length c'] w fun e w' => e = .returned (.int .i64 (rcmp l l')) ∧ Below w.heap.size w w' := by
  have HL := compareFunc_any A c l A' c' l' w h h' hm hm'
  clear h h'
  go_enter Tryd.func16, Tryd.ntmps16
  go_wp2_with fail
  refine HL.mono ?_
  rintro e w1 ⟨rfl, b1⟩
  go_wp2_with fail
  go_ret
  exact ⟨rfl, b1⟩

/-- a row as it lies: where, how long, the room -/
structure RowS where
  A : Option Addr
  l : List Val
  c : Nat
def RowS.v (r : RowS) : Value := .slice r.A r.l.length r.c
/-- a slice that reads as rows -/
def RR (w : World) (B : Nat) (A : Option Addr) (rs : List RowS) : Prop :=
  rs = [] ∨ ∃ b off, A = some ⟨b, off, none⟩ ∧ b < B ∧ ∀ i r, rs[i]? = some r → w.cell? ⟨b, off + i, none⟩ = some (.slice r.A r.l.length r.c) ∧ RV w B r.A r.l
theorem RR.below {w w' : World} {B : Nat} {A : Option Addr} {rs : List RowS} (h : RR w B A rs) (hb : Below B w w') : RR w' B A rs := by
  rcases h with h | ⟨b, off, h1, h2, h3⟩
  · exact .inl h
  · exact .inr ⟨b, off, h1, h2, fun i x hx => ⟨(hb.cell (p := ⟨b, off + i, none⟩) h2).trans (h3 i x hx).1, (h3 i x hx).2.below hb⟩⟩
theorem RR.at_ {w : World} {B : Nat} {A : Option Addr} {rs : List RowS} (h : RR w B A rs) {k : Nat} (hk : k < rs.length) : ∃ b off, A = some ⟨b, off, none⟩ ∧ b < B ∧ w.cell? ⟨b, off + k, none⟩ = some (.slice rs[k].A rs[k].l.length rs[k].c) ∧ RV w B rs[k].A rs[k].l := by
  rcases h with h | ⟨b, off, h1, h2, h3⟩
  · subst h; simp at hk
  · obtain ⟨h4, h5⟩ := h3 k _ (List.getElem?_eq_getElem hk)
    exact ⟨b, off, h1, h2, h4, h5⟩
def valGreat (v : Val) : Bool := decide (300 < v.s.size)
def rowGreat (l : List Val) : Bool := decide (40 < l.length) || l.any valGreat
def greatL (rs : List RowS) : Bool := decide (200 < rs.length) || rs.any fun r => rowGreat r.l
theorem any_step {α : Type} {p : α → Bool} (l : List α) (k : Nat) (hk : k < l.length) (h : (l.take k).any p = false) (hp : p l[k] = false) : (l.take (k + 1)).any p = false := by
  rw [List.take_add_one, List.getElem?_eq_getElem hk, List.any_append, h]
  simpa using hp
theorem any_at {α : Type} {p : α → Bool} (l : List α) (k : Nat) (hk : k < l.length) (hp : p l[k] = true) : l.any p = true := List.any_eq_true.2 ⟨_, List.getElem_mem hk, hp⟩

set_option maxHeartbeats 4000000 in
theorem great_any (A : Option Addr) (c : Nat) (rs : List RowS) (w : World) (h : RR w w.heap.size A rs) (hm : rs.length < 9223372036854775808) (hl : ∀ r ∈ rs, r.l.length < 9223372036854775808) :
    Calls Tryd.prog 15 #[.slice A rs.length c] w fun e w' => e = .returned (.bool (greatL rs)) ∧ w' = w := by
  have HR := Lib.hid h
  have HL := Lib.hid hl
  clear h hl
  by_cases hbig : 200 < rs.length
  · have t1 : decide ((200 : Int) < rs.length) = true := by simp; omega
    have HQ := Lib.hid (show greatL rs = true by unfold greatL; rw [decide_eq_true hbig]; rfl)
    clear hbig
    go_enter Tryd.func15, Tryd.ntmps15
    go_wp2_with fail
    go_ret
    exact ⟨by rw [HQ.out]; rfl, rfl⟩
  have t1 : decide ((200 : Int) < rs.length) = false := by simp; omega
  have HQ := Lib.hid (show greatL rs = rs.any fun r => rowGreat r.l by unfold greatL; rw [decide_eq_false hbig]; rfl)
  clear hbig
  go_enter Tryd.func15, Tryd.ntmps15
  go_wp2_with fail
  clear t1
  go_loopw [3] (fun i wr => ∃ k : Nat, k ≤ rs.length ∧ i = .int .i64 k ∧ ((rs.take k).any fun r => rowGreat r.l) = false ∧ wr = w) (fun i _ => rs.length - (intOf i).toNat)
  case atStart => exact ⟨0, Nat.zero_le _, rfl, rfl, rfl⟩
  case round =>
    obtain ⟨k, hk, rfl, hd, rfl⟩ := hrel
    have HD := Lib.hid hd
    clear hd
    by_cases hlt : k < rs.length
    · obtain ⟨b, off, rfl, hb, hc, hrv⟩ := HR.out.at_ hlt
      have HV := Lib.hid hrv
      have hlr := HL.out rs[k] (List.getElem_mem hlt)
      have HS := Lib.hid (any_step (p := fun r => rowGreat r.l) rs k hlt HD.out)
      have HA := Lib.hid (any_at (p := fun r : RowS => rowGreat r.l) rs k hlt)
      clear hrv
      generalize rs[k] = r at *
      obtain ⟨rA, l, rc⟩ := r
      dsimp only at *
      by_cases h40 : 40 < l.length
      · have t1 : decide ((40 : Int) < l.length) = true := by simp; omega
        have HG := Lib.hid (HA.out (by unfold rowGreat; rw [decide_eq_true h40]; rfl))
        clear h40
        go_wp2_with fail
        go_ret
        exact ⟨by rw [HQ.out, HG.out]; rfl, rfl⟩
      have t1 : decide ((40 : Int) < l.length) = false := by simp; omega
      have HG := Lib.hid (show rowGreat l = l.any valGreat by unfold rowGreat; rw [decide_eq_false h40]; rfl)
      go_wp2_with fail
      clear t1
      go_loopw [4] (fun j wr2 => ∃ m : Nat, m ≤ l.length ∧ j = .int .i64 m ∧ ((l.take m).any valGreat) = false ∧ wr2 = wr) (fun j _ => l.length - (intOf j).toNat)
      case atStart => exact ⟨0, Nat.zero_le _, rfl, rfl, rfl⟩
      case round =>
        obtain ⟨m, hmm, rfl, hd2, rfl⟩ := hrel
        have HD2 := Lib.hid hd2
        clear hd2
        by_cases hlt2 : m < l.length
        · obtain ⟨b2, off2, rfl, hb2, c0, c1, c2⟩ := HV.out.at_ hlt2
          have HS2 := Lib.hid (any_step (p := valGreat) l m hlt2 HD2.out)
          have HA2 := Lib.hid (any_at (p := valGreat) l m hlt2)
          generalize l[m] = v at *
          by_cases h300 : 300 < v.s.size
          · have t1 : decide ((300 : Int) < v.s.size) = true := by simp; omega
            have HG2 := Lib.hid (HG.out.trans (HA2.out (by unfold valGreat; rw [decide_eq_true h300])))
            clear h300
            go_wp2_with fail
            go_ret
            exact ⟨by rw [HQ.out, HA.out HG2.out]; rfl, rfl⟩
          · have t1 : decide ((300 : Int) < v.s.size) = false := by simp; omega
            have HG2 := Lib.hid (HS2.out (by unfold valGreat; rw [decide_eq_false h300]))
            clear h300
            go_wp2_with fail
            go_roundw
            case rel => exact ⟨m + 1, hlt2, by go_num, HG2.out, trivial⟩
            case measure => simp [intOf]; omega
        · have hme : m = l.length := by omega
          subst hme
          have HG2 := Lib.hid (HS.out (HG.out.trans (by have := HD2.out; rwa [List.take_length] at this)))
          go_wp2_with fail
          go_roundw
          case rel => exact ⟨k + 1, hlt, by go_num, HG2.out, trivial⟩
          case measure => simp [intOf]; omega
    · have hke : k = rs.length := by omega
      subst hke
      have HG := Lib.hid (show (rs.any fun r => rowGreat r.l) = false by have := HD.out; rwa [List.take_length] at this)
      go_wp2_with fail
      go_ret
      exact ⟨by rw [HQ.out, HG.out]; rfl, rfl⟩
end Go.Proofs.YtekedkbjnedhgaaDoor
