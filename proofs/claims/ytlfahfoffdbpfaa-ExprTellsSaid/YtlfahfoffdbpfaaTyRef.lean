/- tidelineref15.Type. Printed by gen_tyref.py. -/
import Derived.Test.YtlfahfoffdbpfaaRef2
import Derived.Test.YtlfahfoffdbpfaaType2
namespace Go.Proofs.Ytlfahfoffdbpfaa
open Go.ChangeShapes Go.WideShapes Go.ChangeAt Go.RowKit
set_option linter.unusedVariables false
set_option linter.unusedSimpArgs false

def TyRefIs (w : World) (cV : Value) (y : Ex) (t e : Int) : Prop := ∀ W, Below w.heap.size w W → Calls Try.prog 24 #[.agg #[.int .u8 y.op, .int .u8 y.v.k, .int .i64 y.v.n, .string y.v.s, .string y.name, .int .i64 y.width, .slice y.A y.n y.c], cV] W fun en w' => en = .returned (.tuple #[.int .u8 t, .int .i64 e]) ∧ Below W.heap.size W w'
def givesR (op : Int) : Int := if wantsR op = 2 then 2 else 1
/-- a slice that reads as kinds -/
def RK (w : World) (B : Nat) (A : Option Addr) (l : List Int) : Prop := l = [] ∨ ∃ g, A = some ⟨g, 0, none⟩ ∧ g < B ∧ ∀ (i : Nat) x, l[i]? = some x → w.cell? ⟨g, i, none⟩ = some (.int .u8 x)
theorem kinds_of {w : World} {A : Option Addr} {l : List Int} (h : l = [] ∨ ∃ g, A = some ⟨g, 0, none⟩ ∧ g < w.heap.size ∧ ∀ i x j u, l[i]? = some x → j < 1 → (kindCell x)[j]? = some u → w.cell? ⟨g, i * 1 + j, none⟩ = some u) : RK w w.heap.size A l := by
  rcases h with h | ⟨g, h1, h2, h3⟩
  · exact .inl h
  · exact .inr ⟨g, h1, h2, fun i x hx => by have := h3 i x 0 _ hx (by omega) rfl; simpa using this⟩
theorem RK.later {w w' : World} {A : Option Addr} {l : List Int} (h : RK w w.heap.size A l) (hb : Below w.heap.size w w') : RK w' w'.heap.size A l := by
  rcases h with h | ⟨g, h1, h2, h3⟩
  · exact .inl h
  · exact .inr ⟨g, h1, Nat.lt_of_lt_of_le h2 hb.size, fun i x hx => (hb.cell (p := ⟨g, i, none⟩) h2).trans (h3 i x hx)⟩
theorem RK.at_ {w : World} {B : Nat} {A : Option Addr} {l : List Int} (h : RK w B A l) {k : Nat} (hk : k < l.length) : ∃ g, A = some ⟨g, 0, none⟩ ∧ g < B ∧ w.cell? ⟨g, k, none⟩ = some (.int .u8 l[k]) := by
  rcases h with h | ⟨g, h1, h2, h3⟩
  · subst h; simp at hk
  · exact ⟨g, h1, h2, h3 k _ (List.getElem?_eq_getElem hk)⟩
set_option maxHeartbeats 4000000 in
set_option maxRecDepth 100000 in
theorem tyref_err (op : Int) (xv : Val) (name : ByteArray) (width : Int) (A : Option Addr) (n c : Nat) (cV : Value) (args : List (Ex × Int)) (bad : Ex) (bt er : Int) (post : List Ex) (hn : args.length + 1 + post.length = n) (w : World) (hl : args.length ≤ 1599289640356) (hn2 : n ≤ 1599289640356) (hA : RE w w.heap.size A (args.map (·.1) ++ bad :: post)) (hE : ∀ a ∈ args, TyRefIs w cV a.1 a.2 0) (hbad : TyRefIs w cV bad bt er) (her : er ≠ 0) :
    Calls Try.prog 24 #[.agg #[.int .u8 op, .int .u8 xv.k, .int .i64 xv.n, .string xv.s, .string name, .int .i64 width, .slice A n c], cV] w fun en w' => en = .returned (.tuple #[.int .u8 (0), .int .i64 (er)]) ∧ Below w.heap.size w w' := by
  have HN := Lib.hid hn
  have HBAD := Lib.hid hbad
  have HER := Lib.hid her
  have HA := Lib.hid hA
  have HE := Lib.hid hE
  clear hA hE hn hbad her
  go_enter Try.func24, Try.ntmps24
  have hX := Blk.new w 36 #[.int .u8 op, .int .u8 xv.k, .int .i64 xv.n, .string xv.s, .string name, .int .i64 width, .slice A n c]
  have hB := later_new w (.cells #[.int .u8 op, .int .u8 xv.k, .int .i64 xv.n, .string xv.s, .string name, .int .i64 width, .slice A n c] 36)
  go_wp2_with fail
  generalize w.alloc (.cells #[.int .u8 op, .int .u8 xv.k, .int .i64 xv.n, .string xv.s, .string name, .int .i64 width, .slice A n c] 36) = W at *
  go_loopw [6, 7] (fun lv i wr => ∃ k : Nat, k ≤ args.length ∧ i = .int .i64 k ∧ OwnF kindCell 5 1 wr W.heap.size lv ((args.take k).map (·.2)) ∧ Below W.heap.size W wr) (fun _ i _ => args.length - (intOf i).toNat)
  case atStart => exact ⟨0, Nat.zero_le _, rfl, OwnF.nil, Below.refl _ _⟩
  case round =>
    obtain ⟨k, hk, rfl, hO, hb⟩ := hrel
    have HO := Lib.hid hO
    clear hO
    rcases Nat.lt_or_ge k args.length with hlt | hge
    · have hkn : k < n := by have := HN.out; omega
      obtain ⟨b, off, rfl, hbb, hex⟩ := (HA.out.below (hB.trans (hb.mono hB.size))).at_ (show k < (args.map (·.1) ++ bad :: post).length by simp; omega)
      have he1 : (args.map (·.1) ++ bad :: post)[k]'(by simp; omega) = args[k].1 := by rw [List.getElem_append_left (by simpa using hlt)]; simp
      rw [he1] at hex
      clear he1
      have hev := HE.out args[k] (List.getElem_mem hlt)
      have HT := Lib.hid (show args.take (k + 1) = args.take k ++ [args[k]] by rw [List.take_add_one, List.getElem?_eq_getElem hlt]; rfl)
      generalize args[k] = yv at *
      obtain ⟨y, v⟩ := yv
      dsimp only at *
      unfold ExAt at hex
      have x6 := (hX.later hb).cell 6
      simp only [List.getElem?_toArray, List.getElem?_cons_zero, List.getElem?_cons_succ] at x6
      go_wp2_with fail
      clear x6
      refine (hev wr (hB.trans (hb.mono hB.size))).mono ?_
      rintro e w1 ⟨rfl, b1⟩
      have b4 := Later.then b1 (later_new w1 (.cells #[.int .u8 v] 5))
      have hQ := Blk.new w1 5 #[.int .u8 v]
      have HQ := Lib.hid hQ
      replace HO := Lib.hid (HO.out.later b4)
      replace hb := Later.then hb b4
      have hbase := hb.size
      have hlenv : ((args.take k).map (·.2)).length ≤ 1599289640356 := by simp; omega
      clear b1 b4 hQ hex hev
      go_wp2_with (first
        | (at_builtin
           refine wpList_append_one rfl (.tmp 33) (.tmp 35) 57 rfl _ 1 Try.underlying57 u8_info rfl (by omega) v rfl (by simp [kindCell, Value.oneCell']) rfl HO.out w1.heap.size rfl HQ.out (by omega) (by omega) hbase ?_
           intro v4 w4 o4 g4
           have b5 := below_own HO.out g4 hbase
           have O4 := Lib.hid o4
           clear o4 g4 HQ HO))
      go_roundw
      case rel =>
        refine ⟨k + 1, by omega, by go_num, ?_, hb.trans b5⟩
        rw [HT.out, List.map_append]; exact O4.out
      case measure => simp [intOf]; omega
    · have htk : args.take k = args := List.take_of_length_le hge
      rw [htk] at HO
      clear htk
      have hkk : k = args.length := by omega
      have hkn : k < n := by have := HN.out; omega
      obtain ⟨b, off, rfl, hbb, hex⟩ := (HA.out.below (hB.trans (hb.mono hB.size))).at_ (show k < (args.map (·.1) ++ bad :: post).length by simp; omega)
      have he1 : (args.map (·.1) ++ bad :: post)[k]'(by simp; omega) = bad := by rw [List.getElem_append_right (by simp; omega)]; simp [hkk]
      rw [he1] at hex
      clear he1 hkk HO
      have hev := HBAD.out
      unfold ExAt at hex
      have x6 := (hX.later hb).cell 6
      simp only [List.getElem?_toArray, List.getElem?_cons_zero, List.getElem?_cons_succ] at x6
      go_wp2_with fail
      clear x6
      refine (hev wr (hB.trans (hb.mono hB.size))).mono ?_
      rintro e w1 ⟨rfl, b1⟩
      have hB2 := Later.then hB (Later.then hb b1)
      have te : (er != 0) = true := by have := HER.out; simpa using this
      clear hev hex b1 hX hB hb
      go_wp2_with fail
      exact bodyPost_ret (v := .tuple #[.int .u8 (0), .int .i64 (er)]) (by simp [results, Try.results24, go_sem]) rfl ⟨rfl, hB2⟩
set_option maxHeartbeats 4000000 in
set_option maxRecDepth 100000 in
theorem tyref_form (op : Int) (xv : Val) (name : ByteArray) (width : Int) (A : Option Addr) (c : Nat) (cV : Value) (args : List (Ex × Int)) (hop : 0 ≤ op ∧ op ≤ 255) (hfb : formB ⟨op, xv, name, width, A, args.length, c⟩ = false) (w : World) (hl : args.length ≤ 1599289640356) (hA : RE w w.heap.size A (args.map (·.1))) (hE : ∀ a ∈ args, TyRefIs w cV a.1 a.2 0) :
    Calls Try.prog 24 #[.agg #[.int .u8 op, .int .u8 xv.k, .int .i64 xv.n, .string xv.s, .string name, .int .i64 width, .slice A args.length c], cV] w fun en w' => en = .returned (.tuple #[.int .u8 (0), .int .i64 (21)]) ∧ Below w.heap.size w w' := by
  have HOP := Lib.hid hop
  have HA := Lib.hid hA
  have HE := Lib.hid hE
  clear hA hE hop
  have HFB := Lib.hid hfb
  clear hfb
  go_enter Try.func24, Try.ntmps24
  have hX := Blk.new w 36 #[.int .u8 op, .int .u8 xv.k, .int .i64 xv.n, .string xv.s, .string name, .int .i64 width, .slice A args.length c]
  have hB := later_new w (.cells #[.int .u8 op, .int .u8 xv.k, .int .i64 xv.n, .string xv.s, .string name, .int .i64 width, .slice A args.length c] 36)
  go_wp2_with fail
  generalize w.alloc (.cells #[.int .u8 op, .int .u8 xv.k, .int .i64 xv.n, .string xv.s, .string name, .int .i64 width, .slice A args.length c] 36) = W at *
  go_loopw [6, 7] (fun lv i wr => ∃ k : Nat, k ≤ args.length ∧ i = .int .i64 k ∧ OwnF kindCell 5 1 wr W.heap.size lv ((args.take k).map (·.2)) ∧ Below W.heap.size W wr) (fun _ i _ => args.length - (intOf i).toNat)
  case atStart => exact ⟨0, Nat.zero_le _, rfl, OwnF.nil, Below.refl _ _⟩
  case round =>
    obtain ⟨k, hk, rfl, hO, hb⟩ := hrel
    have HO := Lib.hid hO
    clear hO
    rcases Nat.lt_or_ge k args.length with hlt | hge
    · obtain ⟨b, off, rfl, hbb, hex⟩ := (HA.out.below (hB.trans (hb.mono hB.size))).at_ (show k < (args.map (·.1)).length by simpa using hlt)
      have he1 : (args.map (·.1))[k]'(by simpa using hlt) = args[k].1 := by simp
      rw [he1] at hex
      clear he1
      have hev := HE.out args[k] (List.getElem_mem hlt)
      have HT := Lib.hid (show args.take (k + 1) = args.take k ++ [args[k]] by rw [List.take_add_one, List.getElem?_eq_getElem hlt]; rfl)
      generalize args[k] = yv at *
      obtain ⟨y, v⟩ := yv
      dsimp only at *
      unfold ExAt at hex
      have x6 := (hX.later hb).cell 6
      simp only [List.getElem?_toArray, List.getElem?_cons_zero, List.getElem?_cons_succ] at x6
      go_wp2_with fail
      clear x6
      refine (hev wr (hB.trans (hb.mono hB.size))).mono ?_
      rintro e w1 ⟨rfl, b1⟩
      have b4 := Later.then b1 (later_new w1 (.cells #[.int .u8 v] 5))
      have hQ := Blk.new w1 5 #[.int .u8 v]
      have HQ := Lib.hid hQ
      replace HO := Lib.hid (HO.out.later b4)
      replace hb := Later.then hb b4
      have hbase := hb.size
      have hlenv : ((args.take k).map (·.2)).length ≤ 1599289640356 := by simp; omega
      clear b1 b4 hQ hex hev
      go_wp2_with (first
        | (at_builtin
           refine wpList_append_one rfl (.tmp 33) (.tmp 35) 57 rfl _ 1 Try.underlying57 u8_info rfl (by omega) v rfl (by simp [kindCell, Value.oneCell']) rfl HO.out w1.heap.size rfl HQ.out (by omega) (by omega) hbase ?_
           intro v4 w4 o4 g4
           have b5 := below_own HO.out g4 hbase
           have O4 := Lib.hid o4
           clear o4 g4 HQ HO))
      go_roundw
      case rel =>
        refine ⟨k + 1, by omega, by go_num, ?_, hb.trans b5⟩
        rw [HT.out, List.map_append]; exact O4.out
      case measure => simp [intOf]; omega
    · have htk : args.take k = args := List.take_of_length_le hge
      rw [htk] at HO
      clear htk
      obtain ⟨A8, c8, hu8, hKC⟩ := own_cells (f := kindCell) (size := 1) (fun _ => rfl) HO.out
      rw [List.length_map] at hu8
      subst hu8
      have hX2 := hX.later hb
      have hB2 := Later.then hB hb
      have HKC := Lib.hid (kinds_of hKC)
      clear HO hX hB hKC hb
      have x0 := hX2.cell 0
      have x1 := hX2.cell 1
      have x2 := hX2.cell 2
      have x3 := hX2.cell 3
      have x4 := hX2.cell 4
      have x5 := hX2.cell 5
      have x6 := hX2.cell 6
      simp only [List.getElem?_toArray, List.getElem?_cons_zero, List.getElem?_cons_succ] at x0 x1 x2 x3 x4 x5 x6
      go_wp2_with fail
      clear x0 x1 x2 x3 x4 x5 x6
      refine (formR_any ⟨op, xv, name, width, A, args.length, c⟩ HOP.out.1 HOP.out.2 _).mono ?_
      rintro e w1 ⟨rfl, b1⟩
      rw [HFB.out]
      replace HKC := Lib.hid (HKC.out.later b1)
      replace hX2 := hX2.later b1
      replace hB2 := Later.then hB2 b1
      clear b1
      go_wp2_with fail
      exact bodyPost_ret (v := .tuple #[.int .u8 (0), .int .i64 (21)]) (by simp [results, Try.results24, go_sem]) rfl ⟨rfl, hB2⟩
set_option maxHeartbeats 4000000 in
set_option maxRecDepth 100000 in
theorem tyref_agg (op : Int) (xv : Val) (name : ByteArray) (width : Int) (A : Option Addr) (c : Nat) (cV : Value) (args : List (Ex × Int)) (hop : 0 ≤ op ∧ op ≤ 255) (hfb : formB ⟨op, xv, name, width, A, args.length, c⟩ = true) (hag : isAgg op = true) (w : World) (hl : args.length ≤ 1599289640356) (hA : RE w w.heap.size A (args.map (·.1))) (hE : ∀ a ∈ args, TyRefIs w cV a.1 a.2 0) :
    Calls Try.prog 24 #[.agg #[.int .u8 op, .int .u8 xv.k, .int .i64 xv.n, .string xv.s, .string name, .int .i64 width, .slice A args.length c], cV] w fun en w' => en = .returned (.tuple #[.int .u8 (0), .int .i64 (42)]) ∧ Below w.heap.size w w' := by
  have HOP := Lib.hid hop
  have HA := Lib.hid hA
  have HE := Lib.hid hE
  clear hA hE hop
  have HFB := Lib.hid hfb
  clear hfb
  have HAG := Lib.hid hag
  clear hag
  go_enter Try.func24, Try.ntmps24
  have hX := Blk.new w 36 #[.int .u8 op, .int .u8 xv.k, .int .i64 xv.n, .string xv.s, .string name, .int .i64 width, .slice A args.length c]
  have hB := later_new w (.cells #[.int .u8 op, .int .u8 xv.k, .int .i64 xv.n, .string xv.s, .string name, .int .i64 width, .slice A args.length c] 36)
  go_wp2_with fail
  generalize w.alloc (.cells #[.int .u8 op, .int .u8 xv.k, .int .i64 xv.n, .string xv.s, .string name, .int .i64 width, .slice A args.length c] 36) = W at *
  go_loopw [6, 7] (fun lv i wr => ∃ k : Nat, k ≤ args.length ∧ i = .int .i64 k ∧ OwnF kindCell 5 1 wr W.heap.size lv ((args.take k).map (·.2)) ∧ Below W.heap.size W wr) (fun _ i _ => args.length - (intOf i).toNat)
  case atStart => exact ⟨0, Nat.zero_le _, rfl, OwnF.nil, Below.refl _ _⟩
  case round =>
    obtain ⟨k, hk, rfl, hO, hb⟩ := hrel
    have HO := Lib.hid hO
    clear hO
    rcases Nat.lt_or_ge k args.length with hlt | hge
    · obtain ⟨b, off, rfl, hbb, hex⟩ := (HA.out.below (hB.trans (hb.mono hB.size))).at_ (show k < (args.map (·.1)).length by simpa using hlt)
      have he1 : (args.map (·.1))[k]'(by simpa using hlt) = args[k].1 := by simp
      rw [he1] at hex
      clear he1
      have hev := HE.out args[k] (List.getElem_mem hlt)
      have HT := Lib.hid (show args.take (k + 1) = args.take k ++ [args[k]] by rw [List.take_add_one, List.getElem?_eq_getElem hlt]; rfl)
      generalize args[k] = yv at *
      obtain ⟨y, v⟩ := yv
      dsimp only at *
      unfold ExAt at hex
      have x6 := (hX.later hb).cell 6
      simp only [List.getElem?_toArray, List.getElem?_cons_zero, List.getElem?_cons_succ] at x6
      go_wp2_with fail
      clear x6
      refine (hev wr (hB.trans (hb.mono hB.size))).mono ?_
      rintro e w1 ⟨rfl, b1⟩
      have b4 := Later.then b1 (later_new w1 (.cells #[.int .u8 v] 5))
      have hQ := Blk.new w1 5 #[.int .u8 v]
      have HQ := Lib.hid hQ
      replace HO := Lib.hid (HO.out.later b4)
      replace hb := Later.then hb b4
      have hbase := hb.size
      have hlenv : ((args.take k).map (·.2)).length ≤ 1599289640356 := by simp; omega
      clear b1 b4 hQ hex hev
      go_wp2_with (first
        | (at_builtin
           refine wpList_append_one rfl (.tmp 33) (.tmp 35) 57 rfl _ 1 Try.underlying57 u8_info rfl (by omega) v rfl (by simp [kindCell, Value.oneCell']) rfl HO.out w1.heap.size rfl HQ.out (by omega) (by omega) hbase ?_
           intro v4 w4 o4 g4
           have b5 := below_own HO.out g4 hbase
           have O4 := Lib.hid o4
           clear o4 g4 HQ HO))
      go_roundw
      case rel =>
        refine ⟨k + 1, by omega, by go_num, ?_, hb.trans b5⟩
        rw [HT.out, List.map_append]; exact O4.out
      case measure => simp [intOf]; omega
    · have htk : args.take k = args := List.take_of_length_le hge
      rw [htk] at HO
      clear htk
      obtain ⟨A8, c8, hu8, hKC⟩ := own_cells (f := kindCell) (size := 1) (fun _ => rfl) HO.out
      rw [List.length_map] at hu8
      subst hu8
      have hX2 := hX.later hb
      have hB2 := Later.then hB hb
      have HKC := Lib.hid (kinds_of hKC)
      clear HO hX hB hKC hb
      have x0 := hX2.cell 0
      have x1 := hX2.cell 1
      have x2 := hX2.cell 2
      have x3 := hX2.cell 3
      have x4 := hX2.cell 4
      have x5 := hX2.cell 5
      have x6 := hX2.cell 6
      simp only [List.getElem?_toArray, List.getElem?_cons_zero, List.getElem?_cons_succ] at x0 x1 x2 x3 x4 x5 x6
      go_wp2_with fail
      clear x0 x1 x2 x3 x4 x5 x6
      refine (formR_any ⟨op, xv, name, width, A, args.length, c⟩ HOP.out.1 HOP.out.2 _).mono ?_
      rintro e w1 ⟨rfl, b1⟩
      rw [HFB.out]
      replace HKC := Lib.hid (HKC.out.later b1)
      replace hX2 := hX2.later b1
      replace hB2 := Later.then hB2 b1
      clear b1
      have x0 := hX2.cell 0
      have x1 := hX2.cell 1
      have x2 := hX2.cell 2
      have x3 := hX2.cell 3
      have x4 := hX2.cell 4
      have x5 := hX2.cell 5
      have x6 := hX2.cell 6
      simp only [List.getElem?_toArray, List.getElem?_cons_zero, List.getElem?_cons_succ] at x0 x1 x2 x3 x4 x5 x6
      go_wp2_with fail
      refine (isR_any op HOP.out.1 HOP.out.2 _).mono ?_
      rintro e w2 ⟨rfl, rfl⟩
      rw [HAG.out]
      go_wp2_with fail
      exact bodyPost_ret (v := .tuple #[.int .u8 (0), .int .i64 (42)]) (by simp [results, Try.results24, go_sem]) rfl ⟨rfl, hB2⟩
set_option maxHeartbeats 4000000 in
set_option maxRecDepth 100000 in
theorem tyref_lit (op : Int) (xv : Val) (name : ByteArray) (width : Int) (A : Option Addr) (c : Nat) (cV : Value) (args : List (Ex × Int)) (hop : 0 ≤ op ∧ op ≤ 255) (hfb : formB ⟨op, xv, name, width, A, args.length, c⟩ = true) (hag : isAgg op = false) (h1 : (op == 1) = true) (w : World) (hl : args.length ≤ 1599289640356) (hA : RE w w.heap.size A (args.map (·.1))) (hE : ∀ a ∈ args, TyRefIs w cV a.1 a.2 0) :
    Calls Try.prog 24 #[.agg #[.int .u8 op, .int .u8 xv.k, .int .i64 xv.n, .string xv.s, .string name, .int .i64 width, .slice A args.length c], cV] w fun en w' => en = .returned (.tuple #[.int .u8 (xv.k), .int .i64 (0)]) ∧ Below w.heap.size w w' := by
  have HOP := Lib.hid hop
  have HA := Lib.hid hA
  have HE := Lib.hid hE
  clear hA hE hop
  have HFB := Lib.hid hfb
  clear hfb
  have HAG := Lib.hid hag
  clear hag
  have H1 := Lib.hid h1
  clear h1
  go_enter Try.func24, Try.ntmps24
  have hX := Blk.new w 36 #[.int .u8 op, .int .u8 xv.k, .int .i64 xv.n, .string xv.s, .string name, .int .i64 width, .slice A args.length c]
  have hB := later_new w (.cells #[.int .u8 op, .int .u8 xv.k, .int .i64 xv.n, .string xv.s, .string name, .int .i64 width, .slice A args.length c] 36)
  go_wp2_with fail
  generalize w.alloc (.cells #[.int .u8 op, .int .u8 xv.k, .int .i64 xv.n, .string xv.s, .string name, .int .i64 width, .slice A args.length c] 36) = W at *
  go_loopw [6, 7] (fun lv i wr => ∃ k : Nat, k ≤ args.length ∧ i = .int .i64 k ∧ OwnF kindCell 5 1 wr W.heap.size lv ((args.take k).map (·.2)) ∧ Below W.heap.size W wr) (fun _ i _ => args.length - (intOf i).toNat)
  case atStart => exact ⟨0, Nat.zero_le _, rfl, OwnF.nil, Below.refl _ _⟩
  case round =>
    obtain ⟨k, hk, rfl, hO, hb⟩ := hrel
    have HO := Lib.hid hO
    clear hO
    rcases Nat.lt_or_ge k args.length with hlt | hge
    · obtain ⟨b, off, rfl, hbb, hex⟩ := (HA.out.below (hB.trans (hb.mono hB.size))).at_ (show k < (args.map (·.1)).length by simpa using hlt)
      have he1 : (args.map (·.1))[k]'(by simpa using hlt) = args[k].1 := by simp
      rw [he1] at hex
      clear he1
      have hev := HE.out args[k] (List.getElem_mem hlt)
      have HT := Lib.hid (show args.take (k + 1) = args.take k ++ [args[k]] by rw [List.take_add_one, List.getElem?_eq_getElem hlt]; rfl)
      generalize args[k] = yv at *
      obtain ⟨y, v⟩ := yv
      dsimp only at *
      unfold ExAt at hex
      have x6 := (hX.later hb).cell 6
      simp only [List.getElem?_toArray, List.getElem?_cons_zero, List.getElem?_cons_succ] at x6
      go_wp2_with fail
      clear x6
      refine (hev wr (hB.trans (hb.mono hB.size))).mono ?_
      rintro e w1 ⟨rfl, b1⟩
      have b4 := Later.then b1 (later_new w1 (.cells #[.int .u8 v] 5))
      have hQ := Blk.new w1 5 #[.int .u8 v]
      have HQ := Lib.hid hQ
      replace HO := Lib.hid (HO.out.later b4)
      replace hb := Later.then hb b4
      have hbase := hb.size
      have hlenv : ((args.take k).map (·.2)).length ≤ 1599289640356 := by simp; omega
      clear b1 b4 hQ hex hev
      go_wp2_with (first
        | (at_builtin
           refine wpList_append_one rfl (.tmp 33) (.tmp 35) 57 rfl _ 1 Try.underlying57 u8_info rfl (by omega) v rfl (by simp [kindCell, Value.oneCell']) rfl HO.out w1.heap.size rfl HQ.out (by omega) (by omega) hbase ?_
           intro v4 w4 o4 g4
           have b5 := below_own HO.out g4 hbase
           have O4 := Lib.hid o4
           clear o4 g4 HQ HO))
      go_roundw
      case rel =>
        refine ⟨k + 1, by omega, by go_num, ?_, hb.trans b5⟩
        rw [HT.out, List.map_append]; exact O4.out
      case measure => simp [intOf]; omega
    · have htk : args.take k = args := List.take_of_length_le hge
      rw [htk] at HO
      clear htk
      obtain ⟨A8, c8, hu8, hKC⟩ := own_cells (f := kindCell) (size := 1) (fun _ => rfl) HO.out
      rw [List.length_map] at hu8
      subst hu8
      have hX2 := hX.later hb
      have hB2 := Later.then hB hb
      have HKC := Lib.hid (kinds_of hKC)
      clear HO hX hB hKC hb
      have x0 := hX2.cell 0
      have x1 := hX2.cell 1
      have x2 := hX2.cell 2
      have x3 := hX2.cell 3
      have x4 := hX2.cell 4
      have x5 := hX2.cell 5
      have x6 := hX2.cell 6
      simp only [List.getElem?_toArray, List.getElem?_cons_zero, List.getElem?_cons_succ] at x0 x1 x2 x3 x4 x5 x6
      go_wp2_with fail
      clear x0 x1 x2 x3 x4 x5 x6
      refine (formR_any ⟨op, xv, name, width, A, args.length, c⟩ HOP.out.1 HOP.out.2 _).mono ?_
      rintro e w1 ⟨rfl, b1⟩
      rw [HFB.out]
      replace HKC := Lib.hid (HKC.out.later b1)
      replace hX2 := hX2.later b1
      replace hB2 := Later.then hB2 b1
      clear b1
      have x0 := hX2.cell 0
      have x1 := hX2.cell 1
      have x2 := hX2.cell 2
      have x3 := hX2.cell 3
      have x4 := hX2.cell 4
      have x5 := hX2.cell 5
      have x6 := hX2.cell 6
      simp only [List.getElem?_toArray, List.getElem?_cons_zero, List.getElem?_cons_succ] at x0 x1 x2 x3 x4 x5 x6
      go_wp2_with fail
      refine (isR_any op HOP.out.1 HOP.out.2 _).mono ?_
      rintro e w2 ⟨rfl, rfl⟩
      rw [HAG.out]
      have t1 := H1.out
      go_wp2_with fail
      exact bodyPost_ret (v := .tuple #[.int .u8 (xv.k), .int .i64 (0)]) (by simp [results, Try.results24, go_sem]) rfl ⟨rfl, hB2⟩
set_option maxHeartbeats 4000000 in
set_option maxRecDepth 100000 in
theorem tyref_col (op : Int) (xv : Val) (name : ByteArray) (width : Int) (A : Option Addr) (c : Nat) (cV : Value) (args : List (Ex × Int)) (hop : 0 ≤ op ∧ op ≤ 255) (hfb : formB ⟨op, xv, name, width, A, args.length, c⟩ = true) (hag : isAgg op = false) (h1 : (op == 1) = false) (h2 : (op == 2) = true) (cols : List Col) (CA : Option Addr) (cc : Nat) (hcV : cV = .slice CA cols.length cc) (hcl : cols.length ≤ 140737488355328) (w : World) (hl : args.length ≤ 1599289640356) (hA : RE w w.heap.size A (args.map (·.1))) (hE : ∀ a ∈ args, TyRefIs w cV a.1 a.2 0) (hC : RC w w.heap.size CA cols) :
    Calls Try.prog 24 #[.agg #[.int .u8 op, .int .u8 xv.k, .int .i64 xv.n, .string xv.s, .string name, .int .i64 width, .slice A args.length c], cV] w fun en w' => en = .returned (.tuple #[.int .u8 ((typeCol cols name).1), .int .i64 ((typeCol cols name).2)]) ∧ Below w.heap.size w w' := by
  subst hcV
  have HFB := Lib.hid hfb
  have HAG := Lib.hid hag
  have H1 := Lib.hid h1
  have H2 := Lib.hid h2
  have HC := Lib.hid hC
  clear hfb hag h1 h2 hC
  have HOP := Lib.hid hop
  have HA := Lib.hid hA
  have HE := Lib.hid hE
  clear hA hE hop
  go_enter Try.func24, Try.ntmps24
  have hX := Blk.new w 36 #[.int .u8 op, .int .u8 xv.k, .int .i64 xv.n, .string xv.s, .string name, .int .i64 width, .slice A args.length c]
  have hB := later_new w (.cells #[.int .u8 op, .int .u8 xv.k, .int .i64 xv.n, .string xv.s, .string name, .int .i64 width, .slice A args.length c] 36)
  go_wp2_with fail
  generalize w.alloc (.cells #[.int .u8 op, .int .u8 xv.k, .int .i64 xv.n, .string xv.s, .string name, .int .i64 width, .slice A args.length c] 36) = W at *
  go_loopw [6, 7] (fun lv i wr => ∃ k : Nat, k ≤ args.length ∧ i = .int .i64 k ∧ OwnF kindCell 5 1 wr W.heap.size lv ((args.take k).map (·.2)) ∧ Below W.heap.size W wr) (fun _ i _ => args.length - (intOf i).toNat)
  case atStart => exact ⟨0, Nat.zero_le _, rfl, OwnF.nil, Below.refl _ _⟩
  case round =>
    obtain ⟨k, hk, rfl, hO, hb⟩ := hrel
    have HO := Lib.hid hO
    clear hO
    rcases Nat.lt_or_ge k args.length with hlt | hge
    · obtain ⟨b, off, rfl, hbb, hex⟩ := (HA.out.below (hB.trans (hb.mono hB.size))).at_ (show k < (args.map (·.1)).length by simpa using hlt)
      have he1 : (args.map (·.1))[k]'(by simpa using hlt) = args[k].1 := by simp
      rw [he1] at hex
      clear he1
      have hev := HE.out args[k] (List.getElem_mem hlt)
      have HT := Lib.hid (show args.take (k + 1) = args.take k ++ [args[k]] by rw [List.take_add_one, List.getElem?_eq_getElem hlt]; rfl)
      generalize args[k] = yv at *
      obtain ⟨y, v⟩ := yv
      dsimp only at *
      unfold ExAt at hex
      have x6 := (hX.later hb).cell 6
      simp only [List.getElem?_toArray, List.getElem?_cons_zero, List.getElem?_cons_succ] at x6
      go_wp2_with fail
      clear x6
      refine (hev wr (hB.trans (hb.mono hB.size))).mono ?_
      rintro e w1 ⟨rfl, b1⟩
      have b4 := Later.then b1 (later_new w1 (.cells #[.int .u8 v] 5))
      have hQ := Blk.new w1 5 #[.int .u8 v]
      have HQ := Lib.hid hQ
      replace HO := Lib.hid (HO.out.later b4)
      replace hb := Later.then hb b4
      have hbase := hb.size
      have hlenv : ((args.take k).map (·.2)).length ≤ 1599289640356 := by simp; omega
      clear b1 b4 hQ hex hev
      go_wp2_with (first
        | (at_builtin
           refine wpList_append_one rfl (.tmp 33) (.tmp 35) 57 rfl _ 1 Try.underlying57 u8_info rfl (by omega) v rfl (by simp [kindCell, Value.oneCell']) rfl HO.out w1.heap.size rfl HQ.out (by omega) (by omega) hbase ?_
           intro v4 w4 o4 g4
           have b5 := below_own HO.out g4 hbase
           have O4 := Lib.hid o4
           clear o4 g4 HQ HO))
      go_roundw
      case rel =>
        refine ⟨k + 1, by omega, by go_num, ?_, hb.trans b5⟩
        rw [HT.out, List.map_append]; exact O4.out
      case measure => simp [intOf]; omega
    · have htk : args.take k = args := List.take_of_length_le hge
      rw [htk] at HO
      clear htk
      obtain ⟨A8, c8, hu8, hKC⟩ := own_cells (f := kindCell) (size := 1) (fun _ => rfl) HO.out
      rw [List.length_map] at hu8
      subst hu8
      have hX2 := hX.later hb
      have hB2 := Later.then hB hb
      have HKC := Lib.hid (kinds_of hKC)
      clear HO hX hB hKC hb
      have x0 := hX2.cell 0
      have x1 := hX2.cell 1
      have x2 := hX2.cell 2
      have x3 := hX2.cell 3
      have x4 := hX2.cell 4
      have x5 := hX2.cell 5
      have x6 := hX2.cell 6
      simp only [List.getElem?_toArray, List.getElem?_cons_zero, List.getElem?_cons_succ] at x0 x1 x2 x3 x4 x5 x6
      go_wp2_with fail
      clear x0 x1 x2 x3 x4 x5 x6
      refine (formR_any ⟨op, xv, name, width, A, args.length, c⟩ HOP.out.1 HOP.out.2 _).mono ?_
      rintro e w1 ⟨rfl, b1⟩
      rw [HFB.out]
      replace HKC := Lib.hid (HKC.out.later b1)
      replace hX2 := hX2.later b1
      replace hB2 := Later.then hB2 b1
      clear b1
      have x0 := hX2.cell 0
      have x1 := hX2.cell 1
      have x2 := hX2.cell 2
      have x3 := hX2.cell 3
      have x4 := hX2.cell 4
      have x5 := hX2.cell 5
      have x6 := hX2.cell 6
      simp only [List.getElem?_toArray, List.getElem?_cons_zero, List.getElem?_cons_succ] at x0 x1 x2 x3 x4 x5 x6
      go_wp2_with fail
      refine (isR_any op HOP.out.1 HOP.out.2 _).mono ?_
      rintro e w2 ⟨rfl, rfl⟩
      rw [HAG.out]
      have t1 := H1.out
      have t2 := H2.out
      go_wp2_with fail
      replace HC := Lib.hid (HC.out.later hB2)
      clear x0 x1 x2 x3 x4 x5 x6
      refine (colR_any cols CA cc name _ HC.out hcl).mono ?_
      rintro e w2 ⟨rfl, rfl⟩
      by_cases hp : placeK name cols < cols.length
      · have HP := Lib.hid (show placeI name cols = (placeK name cols : Int) by unfold placeI; rw [if_pos hp])
        rw [HP.out]
        have HQ0 := Lib.hid (show typeCol cols name = ((cols.getD (placeK name cols) ⟨ByteArray.empty, 0⟩).t, 0) by unfold typeCol; rw [if_pos hp])
        clear HP
        generalize placeK name cols = kk at *
        have hk2 : (kk : Int) ≤ 140737488355328 := by omega
        have t0 : decide ((kk : Int) < 0) = false := decide_eq_false (by omega)
        obtain ⟨b, off, rfl, hbb, hcol⟩ := HC.out.at_ hp
        have HG := Lib.hid (show cols.getD kk ⟨ByteArray.empty, 0⟩ = cols[kk] by rw [List.getD_eq_getElem?_getD, List.getElem?_eq_getElem hp]; rfl)
        have HQ := HQ0
        rw [HG.out] at HQ
        clear HQ0
        generalize cols[kk] = x at *
        unfold ColAt at hcol
        go_wp2_with fail
        exact bodyPost_ret (v := .tuple #[.int .u8 (x.t), .int .i64 (0)]) (by simp [results, Try.results24, go_sem]) rfl ⟨by rw [HQ.out], hB2⟩
      · have HP := Lib.hid (show placeI name cols = -1 by unfold placeI; rw [if_neg hp])
        rw [HP.out]
        have HQ := Lib.hid (show typeCol cols name = (0, 41) by unfold typeCol; rw [if_neg hp])
        clear hp
        go_wp2_with fail
        exact bodyPost_ret (v := .tuple #[.int .u8 (0), .int .i64 (41)]) (by simp [results, Try.results24, go_sem]) rfl ⟨by rw [HQ.out], hB2⟩
set_option maxHeartbeats 4000000 in
set_option maxRecDepth 100000 in
theorem tyref_suit (op : Int) (xv : Val) (name : ByteArray) (width : Int) (A : Option Addr) (c : Nat) (cV : Value) (args : List (Ex × Int)) (hop : 0 ≤ op ∧ op ≤ 255) (hfb : formB ⟨op, xv, name, width, A, args.length, c⟩ = true) (hag : isAgg op = false) (h1 : (op == 1) = false) (h2 : (op == 2) = false) (hal : (args.all fun a => goesR a.2 (wantsR op)) = false) (w : World) (hl : args.length ≤ 1599289640356) (hA : RE w w.heap.size A (args.map (·.1))) (hE : ∀ a ∈ args, TyRefIs w cV a.1 a.2 0) :
    Calls Try.prog 24 #[.agg #[.int .u8 op, .int .u8 xv.k, .int .i64 xv.n, .string xv.s, .string name, .int .i64 width, .slice A args.length c], cV] w fun en w' => en = .returned (.tuple #[.int .u8 (0), .int .i64 (40)]) ∧ Below w.heap.size w w' := by
  have HOP := Lib.hid hop
  have HA := Lib.hid hA
  have HE := Lib.hid hE
  clear hA hE hop
  have HFB := Lib.hid hfb
  clear hfb
  have HAG := Lib.hid hag
  clear hag
  have H1 := Lib.hid h1
  have H2 := Lib.hid h2
  clear h1 h2
  have HAL := Lib.hid hal
  clear hal
  go_enter Try.func24, Try.ntmps24
  have hX := Blk.new w 36 #[.int .u8 op, .int .u8 xv.k, .int .i64 xv.n, .string xv.s, .string name, .int .i64 width, .slice A args.length c]
  have hB := later_new w (.cells #[.int .u8 op, .int .u8 xv.k, .int .i64 xv.n, .string xv.s, .string name, .int .i64 width, .slice A args.length c] 36)
  go_wp2_with fail
  generalize w.alloc (.cells #[.int .u8 op, .int .u8 xv.k, .int .i64 xv.n, .string xv.s, .string name, .int .i64 width, .slice A args.length c] 36) = W at *
  go_loopw [6, 7] (fun lv i wr => ∃ k : Nat, k ≤ args.length ∧ i = .int .i64 k ∧ OwnF kindCell 5 1 wr W.heap.size lv ((args.take k).map (·.2)) ∧ Below W.heap.size W wr) (fun _ i _ => args.length - (intOf i).toNat)
  case atStart => exact ⟨0, Nat.zero_le _, rfl, OwnF.nil, Below.refl _ _⟩
  case round =>
    obtain ⟨k, hk, rfl, hO, hb⟩ := hrel
    have HO := Lib.hid hO
    clear hO
    rcases Nat.lt_or_ge k args.length with hlt | hge
    · obtain ⟨b, off, rfl, hbb, hex⟩ := (HA.out.below (hB.trans (hb.mono hB.size))).at_ (show k < (args.map (·.1)).length by simpa using hlt)
      have he1 : (args.map (·.1))[k]'(by simpa using hlt) = args[k].1 := by simp
      rw [he1] at hex
      clear he1
      have hev := HE.out args[k] (List.getElem_mem hlt)
      have HT := Lib.hid (show args.take (k + 1) = args.take k ++ [args[k]] by rw [List.take_add_one, List.getElem?_eq_getElem hlt]; rfl)
      generalize args[k] = yv at *
      obtain ⟨y, v⟩ := yv
      dsimp only at *
      unfold ExAt at hex
      have x6 := (hX.later hb).cell 6
      simp only [List.getElem?_toArray, List.getElem?_cons_zero, List.getElem?_cons_succ] at x6
      go_wp2_with fail
      clear x6
      refine (hev wr (hB.trans (hb.mono hB.size))).mono ?_
      rintro e w1 ⟨rfl, b1⟩
      have b4 := Later.then b1 (later_new w1 (.cells #[.int .u8 v] 5))
      have hQ := Blk.new w1 5 #[.int .u8 v]
      have HQ := Lib.hid hQ
      replace HO := Lib.hid (HO.out.later b4)
      replace hb := Later.then hb b4
      have hbase := hb.size
      have hlenv : ((args.take k).map (·.2)).length ≤ 1599289640356 := by simp; omega
      clear b1 b4 hQ hex hev
      go_wp2_with (first
        | (at_builtin
           refine wpList_append_one rfl (.tmp 33) (.tmp 35) 57 rfl _ 1 Try.underlying57 u8_info rfl (by omega) v rfl (by simp [kindCell, Value.oneCell']) rfl HO.out w1.heap.size rfl HQ.out (by omega) (by omega) hbase ?_
           intro v4 w4 o4 g4
           have b5 := below_own HO.out g4 hbase
           have O4 := Lib.hid o4
           clear o4 g4 HQ HO))
      go_roundw
      case rel =>
        refine ⟨k + 1, by omega, by go_num, ?_, hb.trans b5⟩
        rw [HT.out, List.map_append]; exact O4.out
      case measure => simp [intOf]; omega
    · have htk : args.take k = args := List.take_of_length_le hge
      rw [htk] at HO
      clear htk
      obtain ⟨A8, c8, hu8, hKC⟩ := own_cells (f := kindCell) (size := 1) (fun _ => rfl) HO.out
      rw [List.length_map] at hu8
      subst hu8
      have hX2 := hX.later hb
      have hB2 := Later.then hB hb
      have HKC := Lib.hid (kinds_of hKC)
      clear HO hX hB hKC hb
      have x0 := hX2.cell 0
      have x1 := hX2.cell 1
      have x2 := hX2.cell 2
      have x3 := hX2.cell 3
      have x4 := hX2.cell 4
      have x5 := hX2.cell 5
      have x6 := hX2.cell 6
      simp only [List.getElem?_toArray, List.getElem?_cons_zero, List.getElem?_cons_succ] at x0 x1 x2 x3 x4 x5 x6
      go_wp2_with fail
      clear x0 x1 x2 x3 x4 x5 x6
      refine (formR_any ⟨op, xv, name, width, A, args.length, c⟩ HOP.out.1 HOP.out.2 _).mono ?_
      rintro e w1 ⟨rfl, b1⟩
      rw [HFB.out]
      replace HKC := Lib.hid (HKC.out.later b1)
      replace hX2 := hX2.later b1
      replace hB2 := Later.then hB2 b1
      clear b1
      have x0 := hX2.cell 0
      have x1 := hX2.cell 1
      have x2 := hX2.cell 2
      have x3 := hX2.cell 3
      have x4 := hX2.cell 4
      have x5 := hX2.cell 5
      have x6 := hX2.cell 6
      simp only [List.getElem?_toArray, List.getElem?_cons_zero, List.getElem?_cons_succ] at x0 x1 x2 x3 x4 x5 x6
      go_wp2_with fail
      refine (isR_any op HOP.out.1 HOP.out.2 _).mono ?_
      rintro e w2 ⟨rfl, rfl⟩
      rw [HAG.out]
      have t1 := H1.out
      have t2 := H2.out
      go_wp2_with fail
      clear t1 t2
      clear x0 x1 x2 x3 x4 x5 x6
      refine (wantsR_any op HOP.out.1 HOP.out.2 _).mono ?_
      rintro e w2 ⟨rfl, rfl⟩
      go_wp2_with fail
      go_loop [12] (fun i => ∃ j : Nat, j ≤ args.length ∧ i = .int .i64 j ∧ (args.all fun a => goesR a.2 (wantsR op)) = ((args.drop j).all fun a => goesR a.2 (wantsR op))) (fun i => args.length - (intOf i).toNat)
      case atStart => exact ⟨0, Nat.zero_le _, rfl, rfl⟩
      case round =>
        obtain ⟨j, hj, rfl, hall⟩ := hrel
        have HALL := Lib.hid hall
        clear hall
        rcases Nat.lt_or_ge j args.length with hlt | hge2
        · obtain ⟨b, rfl, hbb, hval⟩ := HKC.out.at_ (show j < (args.map (·.2)).length by simpa using hlt)
          have he1 : (args.map (·.2))[j]'(by simpa using hlt) = args[j].2 := by simp
          rw [he1] at hval
          clear he1
          have HD := Lib.hid (show args.drop j = args[j] :: args.drop (j + 1) from List.drop_eq_getElem_cons hlt)
          generalize args[j] = yv at *
          obtain ⟨y, v⟩ := yv
          dsimp only at *
          have hgo := goesR_any v (wantsR op)
          cases hg : goesR v (wantsR op)
          · rw [hg] at hgo
            go_wp2_with fail
            refine (hgo _).mono ?_
            rintro e w3 ⟨rfl, rfl⟩
            clear hval hgo
            go_wp2_with fail
            exact bodyPost_ret (v := .tuple #[.int .u8 (0), .int .i64 (40)]) (by simp [results, Try.results24, go_sem]) rfl ⟨rfl, hB2⟩
          · rw [hg] at hgo
            go_wp2_with fail
            refine (hgo _).mono ?_
            rintro e w3 ⟨rfl, rfl⟩
            go_wp2_with fail
            go_round
            case rel =>
              refine ⟨j + 1, hlt, by go_num, ?_⟩
              rw [HALL.out, HD.out]
              simp [hg]
            case measure => simp [intOf]; omega
        · exfalso
          have h9 := HAL.out
          rw [HALL.out, List.drop_eq_nil_of_le hge2] at h9
          simp at h9
set_option maxHeartbeats 4000000 in
set_option maxRecDepth 100000 in
theorem tyref_ok1 (op : Int) (xv : Val) (name : ByteArray) (width : Int) (A : Option Addr) (c : Nat) (cV : Value) (args : List (Ex × Int)) (hop : 0 ≤ op ∧ op ≤ 255) (hfb : formB ⟨op, xv, name, width, A, args.length, c⟩ = true) (hag : isAgg op = false) (h1 : (op == 1) = false) (h2 : (op == 2) = false) (hor : isOrder op = false) (hal : (args.all fun a => goesR a.2 (wantsR op)) = true) (w : World) (hl : args.length ≤ 1599289640356) (hA : RE w w.heap.size A (args.map (·.1))) (hE : ∀ a ∈ args, TyRefIs w cV a.1 a.2 0) :
    Calls Try.prog 24 #[.agg #[.int .u8 op, .int .u8 xv.k, .int .i64 xv.n, .string xv.s, .string name, .int .i64 width, .slice A args.length c], cV] w fun en w' => en = .returned (.tuple #[.int .u8 (givesR op), .int .i64 (0)]) ∧ Below w.heap.size w w' := by
  have HOP := Lib.hid hop
  have HA := Lib.hid hA
  have HE := Lib.hid hE
  clear hA hE hop
  have HFB := Lib.hid hfb
  clear hfb
  have HAG := Lib.hid hag
  clear hag
  have H1 := Lib.hid h1
  have H2 := Lib.hid h2
  clear h1 h2
  have HAL := Lib.hid hal
  clear hal
  have HOR := Lib.hid hor
  clear hor
  go_enter Try.func24, Try.ntmps24
  have hX := Blk.new w 36 #[.int .u8 op, .int .u8 xv.k, .int .i64 xv.n, .string xv.s, .string name, .int .i64 width, .slice A args.length c]
  have hB := later_new w (.cells #[.int .u8 op, .int .u8 xv.k, .int .i64 xv.n, .string xv.s, .string name, .int .i64 width, .slice A args.length c] 36)
  go_wp2_with fail
  generalize w.alloc (.cells #[.int .u8 op, .int .u8 xv.k, .int .i64 xv.n, .string xv.s, .string name, .int .i64 width, .slice A args.length c] 36) = W at *
  go_loopw [6, 7] (fun lv i wr => ∃ k : Nat, k ≤ args.length ∧ i = .int .i64 k ∧ OwnF kindCell 5 1 wr W.heap.size lv ((args.take k).map (·.2)) ∧ Below W.heap.size W wr) (fun _ i _ => args.length - (intOf i).toNat)
  case atStart => exact ⟨0, Nat.zero_le _, rfl, OwnF.nil, Below.refl _ _⟩
  case round =>
    obtain ⟨k, hk, rfl, hO, hb⟩ := hrel
    have HO := Lib.hid hO
    clear hO
    rcases Nat.lt_or_ge k args.length with hlt | hge
    · obtain ⟨b, off, rfl, hbb, hex⟩ := (HA.out.below (hB.trans (hb.mono hB.size))).at_ (show k < (args.map (·.1)).length by simpa using hlt)
      have he1 : (args.map (·.1))[k]'(by simpa using hlt) = args[k].1 := by simp
      rw [he1] at hex
      clear he1
      have hev := HE.out args[k] (List.getElem_mem hlt)
      have HT := Lib.hid (show args.take (k + 1) = args.take k ++ [args[k]] by rw [List.take_add_one, List.getElem?_eq_getElem hlt]; rfl)
      generalize args[k] = yv at *
      obtain ⟨y, v⟩ := yv
      dsimp only at *
      unfold ExAt at hex
      have x6 := (hX.later hb).cell 6
      simp only [List.getElem?_toArray, List.getElem?_cons_zero, List.getElem?_cons_succ] at x6
      go_wp2_with fail
      clear x6
      refine (hev wr (hB.trans (hb.mono hB.size))).mono ?_
      rintro e w1 ⟨rfl, b1⟩
      have b4 := Later.then b1 (later_new w1 (.cells #[.int .u8 v] 5))
      have hQ := Blk.new w1 5 #[.int .u8 v]
      have HQ := Lib.hid hQ
      replace HO := Lib.hid (HO.out.later b4)
      replace hb := Later.then hb b4
      have hbase := hb.size
      have hlenv : ((args.take k).map (·.2)).length ≤ 1599289640356 := by simp; omega
      clear b1 b4 hQ hex hev
      go_wp2_with (first
        | (at_builtin
           refine wpList_append_one rfl (.tmp 33) (.tmp 35) 57 rfl _ 1 Try.underlying57 u8_info rfl (by omega) v rfl (by simp [kindCell, Value.oneCell']) rfl HO.out w1.heap.size rfl HQ.out (by omega) (by omega) hbase ?_
           intro v4 w4 o4 g4
           have b5 := below_own HO.out g4 hbase
           have O4 := Lib.hid o4
           clear o4 g4 HQ HO))
      go_roundw
      case rel =>
        refine ⟨k + 1, by omega, by go_num, ?_, hb.trans b5⟩
        rw [HT.out, List.map_append]; exact O4.out
      case measure => simp [intOf]; omega
    · have htk : args.take k = args := List.take_of_length_le hge
      rw [htk] at HO
      clear htk
      obtain ⟨A8, c8, hu8, hKC⟩ := own_cells (f := kindCell) (size := 1) (fun _ => rfl) HO.out
      rw [List.length_map] at hu8
      subst hu8
      have hX2 := hX.later hb
      have hB2 := Later.then hB hb
      have HKC := Lib.hid (kinds_of hKC)
      clear HO hX hB hKC hb
      have x0 := hX2.cell 0
      have x1 := hX2.cell 1
      have x2 := hX2.cell 2
      have x3 := hX2.cell 3
      have x4 := hX2.cell 4
      have x5 := hX2.cell 5
      have x6 := hX2.cell 6
      simp only [List.getElem?_toArray, List.getElem?_cons_zero, List.getElem?_cons_succ] at x0 x1 x2 x3 x4 x5 x6
      go_wp2_with fail
      clear x0 x1 x2 x3 x4 x5 x6
      refine (formR_any ⟨op, xv, name, width, A, args.length, c⟩ HOP.out.1 HOP.out.2 _).mono ?_
      rintro e w1 ⟨rfl, b1⟩
      rw [HFB.out]
      replace HKC := Lib.hid (HKC.out.later b1)
      replace hX2 := hX2.later b1
      replace hB2 := Later.then hB2 b1
      clear b1
      have x0 := hX2.cell 0
      have x1 := hX2.cell 1
      have x2 := hX2.cell 2
      have x3 := hX2.cell 3
      have x4 := hX2.cell 4
      have x5 := hX2.cell 5
      have x6 := hX2.cell 6
      simp only [List.getElem?_toArray, List.getElem?_cons_zero, List.getElem?_cons_succ] at x0 x1 x2 x3 x4 x5 x6
      go_wp2_with fail
      refine (isR_any op HOP.out.1 HOP.out.2 _).mono ?_
      rintro e w2 ⟨rfl, rfl⟩
      rw [HAG.out]
      have t1 := H1.out
      have t2 := H2.out
      go_wp2_with fail
      clear t1 t2
      clear x0 x1 x2 x3 x4 x5 x6
      refine (wantsR_any op HOP.out.1 HOP.out.2 _).mono ?_
      rintro e w2 ⟨rfl, rfl⟩
      go_wp2_with fail
      go_loop [12] (fun i => ∃ j : Nat, j ≤ args.length ∧ i = .int .i64 j ∧ (args.all fun a => goesR a.2 (wantsR op)) = ((args.drop j).all fun a => goesR a.2 (wantsR op))) (fun i => args.length - (intOf i).toNat)
      case atStart => exact ⟨0, Nat.zero_le _, rfl, rfl⟩
      case round =>
        obtain ⟨j, hj, rfl, hall⟩ := hrel
        have HALL := Lib.hid hall
        clear hall
        rcases Nat.lt_or_ge j args.length with hlt | hge2
        · obtain ⟨b, rfl, hbb, hval⟩ := HKC.out.at_ (show j < (args.map (·.2)).length by simpa using hlt)
          have he1 : (args.map (·.2))[j]'(by simpa using hlt) = args[j].2 := by simp
          rw [he1] at hval
          clear he1
          have HD := Lib.hid (show args.drop j = args[j] :: args.drop (j + 1) from List.drop_eq_getElem_cons hlt)
          generalize args[j] = yv at *
          obtain ⟨y, v⟩ := yv
          dsimp only at *
          have hgo := goesR_any v (wantsR op)
          cases hg : goesR v (wantsR op)
          · exfalso
            have h9 := HAL.out
            rw [HALL.out, HD.out] at h9
            simp [hg] at h9
          · rw [hg] at hgo
            go_wp2_with fail
            refine (hgo _).mono ?_
            rintro e w3 ⟨rfl, rfl⟩
            go_wp2_with fail
            go_round
            case rel =>
              refine ⟨j + 1, hlt, by go_num, ?_⟩
              rw [HALL.out, HD.out]
              simp [hg]
            case measure => simp [intOf]; omega
        · have xz0 := fun z : Ext w1.heap.size w1 => (hX2.later z.h).cell 0
          have xz1 := fun z : Ext w1.heap.size w1 => (hX2.later z.h).cell 1
          have xz2 := fun z : Ext w1.heap.size w1 => (hX2.later z.h).cell 2
          have xz3 := fun z : Ext w1.heap.size w1 => (hX2.later z.h).cell 3
          have xz4 := fun z : Ext w1.heap.size w1 => (hX2.later z.h).cell 4
          have xz5 := fun z : Ext w1.heap.size w1 => (hX2.later z.h).cell 5
          have xz6 := fun z : Ext w1.heap.size w1 => (hX2.later z.h).cell 6
          simp only [List.getElem?_toArray, List.getElem?_cons_zero, List.getElem?_cons_succ] at xz0 xz1 xz2 xz3 xz4 xz5 xz6
          have hor := fun z : Ext w1.heap.size w1 => orderR_any op HOP.out.1 HOP.out.2 z.w
          simp only [HOR.out] at hor
          go_wp2_with fail
          refine region_cut 13 w1.heap.size w1 (Below.refl _ _) (by kernel_rfl) (by kernel_rfl) (by kernel_rfl) (by kernel_rfl) ?_
          simp only [List.take_succ_cons, List.take_zero, List.drop_succ_cons, List.drop_zero]
          repeat (go_big_quiet_step (fail))
          go_big_quiet_step ((go_at_call 51; exact calls_ext_same (hor _)))
          repeat (go_big_quiet_step (fail))
          refine wpQuiet_nil ?_
          rintro V4 ⟨x9, hx9⟩
          have hW := x9.h
          rw [← hx9] at hW
          clear hx9 x9
          clear xz0 xz1 xz2 xz3 xz4 xz5 xz6 hor
          replace hX2 := hX2.later hW
          replace hB2 := Later.then hB2 hW
          clear hW
          by_cases hw2 : wantsR op = 2
          · have t5 : (wantsR op == 2) = true := by simpa using hw2
            have HQ := Lib.hid (show givesR op = 2 from if_pos hw2)
            clear hw2
            go_wp2_with fail
            exact bodyPost_ret (v := .tuple #[.int .u8 (2), .int .i64 (0)]) (by simp [results, Try.results24, go_sem]) rfl ⟨by rw [HQ.out], hB2⟩
          · have t5 : (wantsR op == 2) = false := by simpa using hw2
            have HQ := Lib.hid (show givesR op = 1 from if_neg hw2)
            clear hw2
            go_wp2_with fail
            exact bodyPost_ret (v := .tuple #[.int .u8 (1), .int .i64 (0)]) (by simp [results, Try.results24, go_sem]) rfl ⟨by rw [HQ.out], hB2⟩
set_option maxHeartbeats 4000000 in
set_option maxRecDepth 100000 in
theorem tyref_ordbad (op : Int) (xv : Val) (name : ByteArray) (width : Int) (A : Option Addr) (c : Nat) (cV : Value) (args : List (Ex × Int)) (hop : 0 ≤ op ∧ op ≤ 255) (hfb : formB ⟨op, xv, name, width, A, args.length, c⟩ = true) (hag : isAgg op = false) (h1 : (op == 1) = false) (h2 : (op == 2) = false) (hor : isOrder op = true) (hgs : ∀ ts, args.map (·.2) = ts → goesR (ts.headD 0) (ts.getD 1 0) = false) (hlen : args.length = 2) (hal : (args.all fun a => goesR a.2 (wantsR op)) = true) (w : World) (hl : args.length ≤ 1599289640356) (hA : RE w w.heap.size A (args.map (·.1))) (hE : ∀ a ∈ args, TyRefIs w cV a.1 a.2 0) :
    Calls Try.prog 24 #[.agg #[.int .u8 op, .int .u8 xv.k, .int .i64 xv.n, .string xv.s, .string name, .int .i64 width, .slice A args.length c], cV] w fun en w' => en = .returned (.tuple #[.int .u8 (0), .int .i64 (40)]) ∧ Below w.heap.size w w' := by
  have HOP := Lib.hid hop
  have HA := Lib.hid hA
  have HE := Lib.hid hE
  clear hA hE hop
  have HFB := Lib.hid hfb
  clear hfb
  have HAG := Lib.hid hag
  clear hag
  have H1 := Lib.hid h1
  have H2 := Lib.hid h2
  clear h1 h2
  have HAL := Lib.hid hal
  clear hal
  have HOR := Lib.hid hor
  clear hor
  have HGS0 := Lib.hid hgs
  clear hgs
  have HLEN := Lib.hid hlen
  clear hlen
  go_enter Try.func24, Try.ntmps24
  have hX := Blk.new w 36 #[.int .u8 op, .int .u8 xv.k, .int .i64 xv.n, .string xv.s, .string name, .int .i64 width, .slice A args.length c]
  have hB := later_new w (.cells #[.int .u8 op, .int .u8 xv.k, .int .i64 xv.n, .string xv.s, .string name, .int .i64 width, .slice A args.length c] 36)
  go_wp2_with fail
  generalize w.alloc (.cells #[.int .u8 op, .int .u8 xv.k, .int .i64 xv.n, .string xv.s, .string name, .int .i64 width, .slice A args.length c] 36) = W at *
  go_loopw [6, 7] (fun lv i wr => ∃ k : Nat, k ≤ args.length ∧ i = .int .i64 k ∧ OwnF kindCell 5 1 wr W.heap.size lv ((args.take k).map (·.2)) ∧ Below W.heap.size W wr) (fun _ i _ => args.length - (intOf i).toNat)
  case atStart => exact ⟨0, Nat.zero_le _, rfl, OwnF.nil, Below.refl _ _⟩
  case round =>
    obtain ⟨k, hk, rfl, hO, hb⟩ := hrel
    have HO := Lib.hid hO
    clear hO
    rcases Nat.lt_or_ge k args.length with hlt | hge
    · obtain ⟨b, off, rfl, hbb, hex⟩ := (HA.out.below (hB.trans (hb.mono hB.size))).at_ (show k < (args.map (·.1)).length by simpa using hlt)
      have he1 : (args.map (·.1))[k]'(by simpa using hlt) = args[k].1 := by simp
      rw [he1] at hex
      clear he1
      have hev := HE.out args[k] (List.getElem_mem hlt)
      have HT := Lib.hid (show args.take (k + 1) = args.take k ++ [args[k]] by rw [List.take_add_one, List.getElem?_eq_getElem hlt]; rfl)
      generalize args[k] = yv at *
      obtain ⟨y, v⟩ := yv
      dsimp only at *
      unfold ExAt at hex
      have x6 := (hX.later hb).cell 6
      simp only [List.getElem?_toArray, List.getElem?_cons_zero, List.getElem?_cons_succ] at x6
      go_wp2_with fail
      clear x6
      refine (hev wr (hB.trans (hb.mono hB.size))).mono ?_
      rintro e w1 ⟨rfl, b1⟩
      have b4 := Later.then b1 (later_new w1 (.cells #[.int .u8 v] 5))
      have hQ := Blk.new w1 5 #[.int .u8 v]
      have HQ := Lib.hid hQ
      replace HO := Lib.hid (HO.out.later b4)
      replace hb := Later.then hb b4
      have hbase := hb.size
      have hlenv : ((args.take k).map (·.2)).length ≤ 1599289640356 := by simp; omega
      clear b1 b4 hQ hex hev
      go_wp2_with (first
        | (at_builtin
           refine wpList_append_one rfl (.tmp 33) (.tmp 35) 57 rfl _ 1 Try.underlying57 u8_info rfl (by omega) v rfl (by simp [kindCell, Value.oneCell']) rfl HO.out w1.heap.size rfl HQ.out (by omega) (by omega) hbase ?_
           intro v4 w4 o4 g4
           have b5 := below_own HO.out g4 hbase
           have O4 := Lib.hid o4
           clear o4 g4 HQ HO))
      go_roundw
      case rel =>
        refine ⟨k + 1, by omega, by go_num, ?_, hb.trans b5⟩
        rw [HT.out, List.map_append]; exact O4.out
      case measure => simp [intOf]; omega
    · have htk : args.take k = args := List.take_of_length_le hge
      rw [htk] at HO
      clear htk
      obtain ⟨A8, c8, hu8, hKC⟩ := own_cells (f := kindCell) (size := 1) (fun _ => rfl) HO.out
      rw [List.length_map] at hu8
      subst hu8
      have hX2 := hX.later hb
      have hB2 := Later.then hB hb
      have HKC := Lib.hid (kinds_of hKC)
      clear HO hX hB hKC hb
      have x0 := hX2.cell 0
      have x1 := hX2.cell 1
      have x2 := hX2.cell 2
      have x3 := hX2.cell 3
      have x4 := hX2.cell 4
      have x5 := hX2.cell 5
      have x6 := hX2.cell 6
      simp only [List.getElem?_toArray, List.getElem?_cons_zero, List.getElem?_cons_succ] at x0 x1 x2 x3 x4 x5 x6
      go_wp2_with fail
      clear x0 x1 x2 x3 x4 x5 x6
      refine (formR_any ⟨op, xv, name, width, A, args.length, c⟩ HOP.out.1 HOP.out.2 _).mono ?_
      rintro e w1 ⟨rfl, b1⟩
      rw [HFB.out]
      replace HKC := Lib.hid (HKC.out.later b1)
      replace hX2 := hX2.later b1
      replace hB2 := Later.then hB2 b1
      clear b1
      have x0 := hX2.cell 0
      have x1 := hX2.cell 1
      have x2 := hX2.cell 2
      have x3 := hX2.cell 3
      have x4 := hX2.cell 4
      have x5 := hX2.cell 5
      have x6 := hX2.cell 6
      simp only [List.getElem?_toArray, List.getElem?_cons_zero, List.getElem?_cons_succ] at x0 x1 x2 x3 x4 x5 x6
      go_wp2_with fail
      refine (isR_any op HOP.out.1 HOP.out.2 _).mono ?_
      rintro e w2 ⟨rfl, rfl⟩
      rw [HAG.out]
      have t1 := H1.out
      have t2 := H2.out
      go_wp2_with fail
      clear t1 t2
      clear x0 x1 x2 x3 x4 x5 x6
      refine (wantsR_any op HOP.out.1 HOP.out.2 _).mono ?_
      rintro e w2 ⟨rfl, rfl⟩
      go_wp2_with fail
      go_loop [12] (fun i => ∃ j : Nat, j ≤ args.length ∧ i = .int .i64 j ∧ (args.all fun a => goesR a.2 (wantsR op)) = ((args.drop j).all fun a => goesR a.2 (wantsR op))) (fun i => args.length - (intOf i).toNat)
      case atStart => exact ⟨0, Nat.zero_le _, rfl, rfl⟩
      case round =>
        obtain ⟨j, hj, rfl, hall⟩ := hrel
        have HALL := Lib.hid hall
        clear hall
        rcases Nat.lt_or_ge j args.length with hlt | hge2
        · obtain ⟨b, rfl, hbb, hval⟩ := HKC.out.at_ (show j < (args.map (·.2)).length by simpa using hlt)
          have he1 : (args.map (·.2))[j]'(by simpa using hlt) = args[j].2 := by simp
          rw [he1] at hval
          clear he1
          have HD := Lib.hid (show args.drop j = args[j] :: args.drop (j + 1) from List.drop_eq_getElem_cons hlt)
          generalize args[j] = yv at *
          obtain ⟨y, v⟩ := yv
          dsimp only at *
          have hgo := goesR_any v (wantsR op)
          cases hg : goesR v (wantsR op)
          · exfalso
            have h9 := HAL.out
            rw [HALL.out, HD.out] at h9
            simp [hg] at h9
          · rw [hg] at hgo
            go_wp2_with fail
            refine (hgo _).mono ?_
            rintro e w3 ⟨rfl, rfl⟩
            go_wp2_with fail
            go_round
            case rel =>
              refine ⟨j + 1, hlt, by go_num, ?_⟩
              rw [HALL.out, HD.out]
              simp [hg]
            case measure => simp [intOf]; omega
        · obtain ⟨⟨y1, v1⟩, ⟨y2, v2⟩, rfl⟩ := len2 HLEN.out
          have HGS := Lib.hid (show goesR v1 v2 = false from HGS0.out _ rfl)
          obtain ⟨b, rfl, hbb, hc0⟩ := HKC.out.at_ (k := 0) (by simp)
          obtain ⟨b', hb', _, hc1⟩ := HKC.out.at_ (k := 1) (by simp)
          injection hb' with hb'
          injection hb' with hb' _ _
          subst hb'
          simp only [List.map_cons, List.map_nil, List.getElem_cons_zero, List.getElem_cons_succ] at hc0 hc1
          have hj2 : 2 ≤ j := by simpa using hge2
          clear hge2 hge hk
          have xz0 := fun z : Ext w1.heap.size w1 => (hX2.later z.h).cell 0
          have xz1 := fun z : Ext w1.heap.size w1 => (hX2.later z.h).cell 1
          have xz2 := fun z : Ext w1.heap.size w1 => (hX2.later z.h).cell 2
          have xz3 := fun z : Ext w1.heap.size w1 => (hX2.later z.h).cell 3
          have xz4 := fun z : Ext w1.heap.size w1 => (hX2.later z.h).cell 4
          have xz5 := fun z : Ext w1.heap.size w1 => (hX2.later z.h).cell 5
          have xz6 := fun z : Ext w1.heap.size w1 => (hX2.later z.h).cell 6
          simp only [List.getElem?_toArray, List.getElem?_cons_zero, List.getElem?_cons_succ] at xz0 xz1 xz2 xz3 xz4 xz5 xz6
          have hor := fun z : Ext w1.heap.size w1 => orderR_any op HOP.out.1 HOP.out.2 z.w
          simp only [HOR.out] at hor
          have z1 := fun z : Ext w1.heap.size w1 => (z.h.cell (p := ⟨b, 0, none⟩) hbb).trans hc0
          have z2 := fun z : Ext w1.heap.size w1 => (z.h.cell (p := ⟨b, 1, none⟩) hbb).trans hc1
          have hgo := fun z : Ext w1.heap.size w1 => goesR_any v1 v2 z.w
          simp only [HGS.out] at hgo
          go_wp2_with fail
          refine region_cut 13 w1.heap.size w1 (Below.refl _ _) (by kernel_rfl) (by kernel_rfl) (by kernel_rfl) (by kernel_rfl) ?_
          simp only [List.take_succ_cons, List.take_zero, List.drop_succ_cons, List.drop_zero]
          repeat (go_big_quiet_step (fail))
          go_big_quiet_step ((go_at_call 51; exact calls_ext_same (hor _)))
          repeat (go_big_quiet_step (fail))
          go_big_quiet_step ((go_at_call 50; exact calls_ext_same (hgo _)))
          repeat (go_big_quiet_step (fail))
          refine wpQuiet_nil ?_
          rintro V4 ⟨x9, hx9⟩
          have hW := x9.h
          rw [← hx9] at hW
          clear hx9 x9
          clear xz0 xz1 xz2 xz3 xz4 xz5 xz6 hor
          clear z1 z2 hgo hc0 hc1
          replace hX2 := hX2.later hW
          replace hB2 := Later.then hB2 hW
          clear hW
          go_wp2_with fail
          exact bodyPost_ret (v := .tuple #[.int .u8 (0), .int .i64 (40)]) (by simp [results, Try.results24, go_sem]) rfl ⟨rfl, hB2⟩
set_option maxHeartbeats 4000000 in
set_option maxRecDepth 100000 in
theorem tyref_ok2 (op : Int) (xv : Val) (name : ByteArray) (width : Int) (A : Option Addr) (c : Nat) (cV : Value) (args : List (Ex × Int)) (hop : 0 ≤ op ∧ op ≤ 255) (hfb : formB ⟨op, xv, name, width, A, args.length, c⟩ = true) (hag : isAgg op = false) (h1 : (op == 1) = false) (h2 : (op == 2) = false) (hor : isOrder op = true) (hgs : ∀ ts, args.map (·.2) = ts → goesR (ts.headD 0) (ts.getD 1 0) = true) (hlen : args.length = 2) (hal : (args.all fun a => goesR a.2 (wantsR op)) = true) (w : World) (hl : args.length ≤ 1599289640356) (hA : RE w w.heap.size A (args.map (·.1))) (hE : ∀ a ∈ args, TyRefIs w cV a.1 a.2 0) :
    Calls Try.prog 24 #[.agg #[.int .u8 op, .int .u8 xv.k, .int .i64 xv.n, .string xv.s, .string name, .int .i64 width, .slice A args.length c], cV] w fun en w' => en = .returned (.tuple #[.int .u8 (givesR op), .int .i64 (0)]) ∧ Below w.heap.size w w' := by
  have HOP := Lib.hid hop
  have HA := Lib.hid hA
  have HE := Lib.hid hE
  clear hA hE hop
  have HFB := Lib.hid hfb
  clear hfb
  have HAG := Lib.hid hag
  clear hag
  have H1 := Lib.hid h1
  have H2 := Lib.hid h2
  clear h1 h2
  have HAL := Lib.hid hal
  clear hal
  have HOR := Lib.hid hor
  clear hor
  have HGS0 := Lib.hid hgs
  clear hgs
  have HLEN := Lib.hid hlen
  clear hlen
  go_enter Try.func24, Try.ntmps24
  have hX := Blk.new w 36 #[.int .u8 op, .int .u8 xv.k, .int .i64 xv.n, .string xv.s, .string name, .int .i64 width, .slice A args.length c]
  have hB := later_new w (.cells #[.int .u8 op, .int .u8 xv.k, .int .i64 xv.n, .string xv.s, .string name, .int .i64 width, .slice A args.length c] 36)
  go_wp2_with fail
  generalize w.alloc (.cells #[.int .u8 op, .int .u8 xv.k, .int .i64 xv.n, .string xv.s, .string name, .int .i64 width, .slice A args.length c] 36) = W at *
  go_loopw [6, 7] (fun lv i wr => ∃ k : Nat, k ≤ args.length ∧ i = .int .i64 k ∧ OwnF kindCell 5 1 wr W.heap.size lv ((args.take k).map (·.2)) ∧ Below W.heap.size W wr) (fun _ i _ => args.length - (intOf i).toNat)
  case atStart => exact ⟨0, Nat.zero_le _, rfl, OwnF.nil, Below.refl _ _⟩
  case round =>
    obtain ⟨k, hk, rfl, hO, hb⟩ := hrel
    have HO := Lib.hid hO
    clear hO
    rcases Nat.lt_or_ge k args.length with hlt | hge
    · obtain ⟨b, off, rfl, hbb, hex⟩ := (HA.out.below (hB.trans (hb.mono hB.size))).at_ (show k < (args.map (·.1)).length by simpa using hlt)
      have he1 : (args.map (·.1))[k]'(by simpa using hlt) = args[k].1 := by simp
      rw [he1] at hex
      clear he1
      have hev := HE.out args[k] (List.getElem_mem hlt)
      have HT := Lib.hid (show args.take (k + 1) = args.take k ++ [args[k]] by rw [List.take_add_one, List.getElem?_eq_getElem hlt]; rfl)
      generalize args[k] = yv at *
      obtain ⟨y, v⟩ := yv
      dsimp only at *
      unfold ExAt at hex
      have x6 := (hX.later hb).cell 6
      simp only [List.getElem?_toArray, List.getElem?_cons_zero, List.getElem?_cons_succ] at x6
      go_wp2_with fail
      clear x6
      refine (hev wr (hB.trans (hb.mono hB.size))).mono ?_
      rintro e w1 ⟨rfl, b1⟩
      have b4 := Later.then b1 (later_new w1 (.cells #[.int .u8 v] 5))
      have hQ := Blk.new w1 5 #[.int .u8 v]
      have HQ := Lib.hid hQ
      replace HO := Lib.hid (HO.out.later b4)
      replace hb := Later.then hb b4
      have hbase := hb.size
      have hlenv : ((args.take k).map (·.2)).length ≤ 1599289640356 := by simp; omega
      clear b1 b4 hQ hex hev
      go_wp2_with (first
        | (at_builtin
           refine wpList_append_one rfl (.tmp 33) (.tmp 35) 57 rfl _ 1 Try.underlying57 u8_info rfl (by omega) v rfl (by simp [kindCell, Value.oneCell']) rfl HO.out w1.heap.size rfl HQ.out (by omega) (by omega) hbase ?_
           intro v4 w4 o4 g4
           have b5 := below_own HO.out g4 hbase
           have O4 := Lib.hid o4
           clear o4 g4 HQ HO))
      go_roundw
      case rel =>
        refine ⟨k + 1, by omega, by go_num, ?_, hb.trans b5⟩
        rw [HT.out, List.map_append]; exact O4.out
      case measure => simp [intOf]; omega
    · have htk : args.take k = args := List.take_of_length_le hge
      rw [htk] at HO
      clear htk
      obtain ⟨A8, c8, hu8, hKC⟩ := own_cells (f := kindCell) (size := 1) (fun _ => rfl) HO.out
      rw [List.length_map] at hu8
      subst hu8
      have hX2 := hX.later hb
      have hB2 := Later.then hB hb
      have HKC := Lib.hid (kinds_of hKC)
      clear HO hX hB hKC hb
      have x0 := hX2.cell 0
      have x1 := hX2.cell 1
      have x2 := hX2.cell 2
      have x3 := hX2.cell 3
      have x4 := hX2.cell 4
      have x5 := hX2.cell 5
      have x6 := hX2.cell 6
      simp only [List.getElem?_toArray, List.getElem?_cons_zero, List.getElem?_cons_succ] at x0 x1 x2 x3 x4 x5 x6
      go_wp2_with fail
      clear x0 x1 x2 x3 x4 x5 x6
      refine (formR_any ⟨op, xv, name, width, A, args.length, c⟩ HOP.out.1 HOP.out.2 _).mono ?_
      rintro e w1 ⟨rfl, b1⟩
      rw [HFB.out]
      replace HKC := Lib.hid (HKC.out.later b1)
      replace hX2 := hX2.later b1
      replace hB2 := Later.then hB2 b1
      clear b1
      have x0 := hX2.cell 0
      have x1 := hX2.cell 1
      have x2 := hX2.cell 2
      have x3 := hX2.cell 3
      have x4 := hX2.cell 4
      have x5 := hX2.cell 5
      have x6 := hX2.cell 6
      simp only [List.getElem?_toArray, List.getElem?_cons_zero, List.getElem?_cons_succ] at x0 x1 x2 x3 x4 x5 x6
      go_wp2_with fail
      refine (isR_any op HOP.out.1 HOP.out.2 _).mono ?_
      rintro e w2 ⟨rfl, rfl⟩
      rw [HAG.out]
      have t1 := H1.out
      have t2 := H2.out
      go_wp2_with fail
      clear t1 t2
      clear x0 x1 x2 x3 x4 x5 x6
      refine (wantsR_any op HOP.out.1 HOP.out.2 _).mono ?_
      rintro e w2 ⟨rfl, rfl⟩
      go_wp2_with fail
      go_loop [12] (fun i => ∃ j : Nat, j ≤ args.length ∧ i = .int .i64 j ∧ (args.all fun a => goesR a.2 (wantsR op)) = ((args.drop j).all fun a => goesR a.2 (wantsR op))) (fun i => args.length - (intOf i).toNat)
      case atStart => exact ⟨0, Nat.zero_le _, rfl, rfl⟩
      case round =>
        obtain ⟨j, hj, rfl, hall⟩ := hrel
        have HALL := Lib.hid hall
        clear hall
        rcases Nat.lt_or_ge j args.length with hlt | hge2
        · obtain ⟨b, rfl, hbb, hval⟩ := HKC.out.at_ (show j < (args.map (·.2)).length by simpa using hlt)
          have he1 : (args.map (·.2))[j]'(by simpa using hlt) = args[j].2 := by simp
          rw [he1] at hval
          clear he1
          have HD := Lib.hid (show args.drop j = args[j] :: args.drop (j + 1) from List.drop_eq_getElem_cons hlt)
          generalize args[j] = yv at *
          obtain ⟨y, v⟩ := yv
          dsimp only at *
          have hgo := goesR_any v (wantsR op)
          cases hg : goesR v (wantsR op)
          · exfalso
            have h9 := HAL.out
            rw [HALL.out, HD.out] at h9
            simp [hg] at h9
          · rw [hg] at hgo
            go_wp2_with fail
            refine (hgo _).mono ?_
            rintro e w3 ⟨rfl, rfl⟩
            go_wp2_with fail
            go_round
            case rel =>
              refine ⟨j + 1, hlt, by go_num, ?_⟩
              rw [HALL.out, HD.out]
              simp [hg]
            case measure => simp [intOf]; omega
        · obtain ⟨⟨y1, v1⟩, ⟨y2, v2⟩, rfl⟩ := len2 HLEN.out
          have HGS := Lib.hid (show goesR v1 v2 = true from HGS0.out _ rfl)
          obtain ⟨b, rfl, hbb, hc0⟩ := HKC.out.at_ (k := 0) (by simp)
          obtain ⟨b', hb', _, hc1⟩ := HKC.out.at_ (k := 1) (by simp)
          injection hb' with hb'
          injection hb' with hb' _ _
          subst hb'
          simp only [List.map_cons, List.map_nil, List.getElem_cons_zero, List.getElem_cons_succ] at hc0 hc1
          have hj2 : 2 ≤ j := by simpa using hge2
          clear hge2 hge hk
          have xz0 := fun z : Ext w1.heap.size w1 => (hX2.later z.h).cell 0
          have xz1 := fun z : Ext w1.heap.size w1 => (hX2.later z.h).cell 1
          have xz2 := fun z : Ext w1.heap.size w1 => (hX2.later z.h).cell 2
          have xz3 := fun z : Ext w1.heap.size w1 => (hX2.later z.h).cell 3
          have xz4 := fun z : Ext w1.heap.size w1 => (hX2.later z.h).cell 4
          have xz5 := fun z : Ext w1.heap.size w1 => (hX2.later z.h).cell 5
          have xz6 := fun z : Ext w1.heap.size w1 => (hX2.later z.h).cell 6
          simp only [List.getElem?_toArray, List.getElem?_cons_zero, List.getElem?_cons_succ] at xz0 xz1 xz2 xz3 xz4 xz5 xz6
          have hor := fun z : Ext w1.heap.size w1 => orderR_any op HOP.out.1 HOP.out.2 z.w
          simp only [HOR.out] at hor
          have z1 := fun z : Ext w1.heap.size w1 => (z.h.cell (p := ⟨b, 0, none⟩) hbb).trans hc0
          have z2 := fun z : Ext w1.heap.size w1 => (z.h.cell (p := ⟨b, 1, none⟩) hbb).trans hc1
          have hgo := fun z : Ext w1.heap.size w1 => goesR_any v1 v2 z.w
          simp only [HGS.out] at hgo
          go_wp2_with fail
          refine region_cut 13 w1.heap.size w1 (Below.refl _ _) (by kernel_rfl) (by kernel_rfl) (by kernel_rfl) (by kernel_rfl) ?_
          simp only [List.take_succ_cons, List.take_zero, List.drop_succ_cons, List.drop_zero]
          repeat (go_big_quiet_step (fail))
          go_big_quiet_step ((go_at_call 51; exact calls_ext_same (hor _)))
          repeat (go_big_quiet_step (fail))
          go_big_quiet_step ((go_at_call 50; exact calls_ext_same (hgo _)))
          repeat (go_big_quiet_step (fail))
          refine wpQuiet_nil ?_
          rintro V4 ⟨x9, hx9⟩
          have hW := x9.h
          rw [← hx9] at hW
          clear hx9 x9
          clear xz0 xz1 xz2 xz3 xz4 xz5 xz6 hor
          clear z1 z2 hgo hc0 hc1
          replace hX2 := hX2.later hW
          replace hB2 := Later.then hB2 hW
          clear hW
          by_cases hw2 : wantsR op = 2
          · have t5 : (wantsR op == 2) = true := by simpa using hw2
            have HQ := Lib.hid (show givesR op = 2 from if_pos hw2)
            clear hw2
            go_wp2_with fail
            exact bodyPost_ret (v := .tuple #[.int .u8 (2), .int .i64 (0)]) (by simp [results, Try.results24, go_sem]) rfl ⟨by rw [HQ.out], hB2⟩
          · have t5 : (wantsR op == 2) = false := by simpa using hw2
            have HQ := Lib.hid (show givesR op = 1 from if_neg hw2)
            clear hw2
            go_wp2_with fail
            exact bodyPost_ret (v := .tuple #[.int .u8 (1), .int .i64 (0)]) (by simp [results, Try.results24, go_sem]) rfl ⟨by rw [HQ.out], hB2⟩
end Go.Proofs.Ytlfahfoffdbpfaa
