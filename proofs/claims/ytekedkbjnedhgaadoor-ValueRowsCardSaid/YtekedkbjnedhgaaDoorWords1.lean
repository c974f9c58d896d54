/- ValueWords: the walk. Printed by gen_words.py. -/
import Derived.Test.YtekedkbjnedhgaaDoorOrder1
import Derived.Test.YtekedkbjnedhgaaDoorWordsP
namespace Go.Proofs.YtekedkbjnedhgaaDoor
open Go.ChangeShapes Go.WideShapes Go.ChangeAt Go.RowKit
set_option linter.unusedVariables false
set_option linter.unusedSimpArgs false
set_option maxRecDepth 100000

theorem rv_two {w : World} {g : Nat} {a b : Val} (h : Blk w g 23 #[.int .u8 a.k, .int .i64 a.n, .string a.s, .int .u8 b.k, .int .i64 b.n, .string b.s]) : RV w w.heap.size (some ⟨g, 0, none⟩) [a, b] := by
  refine .inr ⟨g, 0, rfl, h.lt, fun i x hx => ?_⟩
  match i with
  | 0 => simp at hx; subst hx; exact ⟨h.cell 0, h.cell 1, h.cell 2⟩
  | 1 => simp at hx; subst hx; exact ⟨h.cell 3, h.cell 4, h.cell 5⟩
  | i + 2 => simp at hx
theorem rr_three {w : World} {g : Nat} {x y z : RowS} (h : Blk w g 29 #[.slice x.A x.l.length x.c, .slice y.A y.l.length y.c, .slice z.A z.l.length z.c])
    (hx : RV w w.heap.size x.A x.l) (hy : RV w w.heap.size y.A y.l) (hz : RV w w.heap.size z.A z.l) : RR w w.heap.size (some ⟨g, 0, none⟩) [x, y, z] := by
  refine .inr ⟨g, 0, rfl, h.lt, fun i r hr => ?_⟩
  match i with
  | 0 => simp at hr; subst hr; exact ⟨h.cell 0, hx⟩
  | 1 => simp at hr; subst hr; exact ⟨h.cell 1, hy⟩
  | 2 => simp at hr; subst hr; exact ⟨h.cell 2, hz⟩
  | i + 3 => simp at hr
theorem words_eq {a b : Val} (ha : good a = true) (hb : good b = true) : (wordL a == wordL b) = (vcmp a b == 0) := by
  rw [Bool.eq_iff_iff, beq_iff_eq, beq_iff_eq, word_inj ha hb, vcmp_eq]
theorem word_yes {a : Val} (ha : good a = true) : (wordL a == [63]) = false := by
  have := word_mark a
  rw [ha] at this
  simpa using this
theorem word_no {a : Val} (ha : good a = false) : wordL a = [63] := (word_mark a).2 ha
theorem lines_eq {x y : List Val} (hx : ∀ v ∈ x, good v = true) (hy : ∀ v ∈ y, good v = true) (h0 : x ≠ []) (h1 : y ≠ []) : (lineL x == lineL y) = (rcmp x y == 0) := by
  rw [Bool.eq_iff_iff, beq_iff_eq, beq_iff_eq, line_inj hx hy h0 h1, rcmp_eq]
theorem all_step (l : List Val) (k : Nat) (hk : k < l.length) (h : ∀ v ∈ l.take k, good v = true) (hp : good l[k] = true) : ∀ v ∈ l.take (k + 1), good v = true := by
  intro v hv
  rw [List.take_add_one, List.getElem?_eq_getElem hk, List.mem_append] at hv
  rcases hv with hv | hv
  · exact h v hv
  · simp at hv; subst hv; exact hp

set_option maxHeartbeats 4000000 in
theorem valueWords_any (a b : Val) (XA YA : Option Addr) (x y : List Val) (xc yc : Nat) (ha : a.Ok) (hb : b.Ok) (w : World) (hx : RV w w.heap.size XA x) (hy : RV w w.heap.size YA y) (hxl : x.length ≤ 140737488355328) (hyl : y.length ≤ 140737488355328) (hxo : ∀ v ∈ x, v.Ok) (hyo : ∀ v ∈ y, v.Ok) (hE : Env w) :
    Calls Tryd.prog 5 #[.agg #[.int .u8 a.k, .int .i64 a.n, .string a.s], .agg #[.int .u8 b.k, .int .i64 b.n, .string b.s], .slice XA x.length xc, .slice YA y.length yc] w fun e w' => e = .returned (.bool true) ∧ Below w.heap.size w w' := by
  have hA := (Blk.new w 23 #[.int .u8 a.k, .int .i64 a.n, .string a.s]).alloc (.cells #[.int .u8 b.k, .int .i64 b.n, .string b.s] 23)
  have hBB := Blk.new (w.alloc (.cells #[.int .u8 a.k, .int .i64 a.n, .string a.s] 23)) 23 #[.int .u8 b.k, .int .i64 b.n, .string b.s]
  simp only [World.size_alloc] at hBB
  have hB := Later.then (later_new w (.cells #[.int .u8 a.k, .int .i64 a.n, .string a.s] 23)) (later_new _ (.cells #[.int .u8 b.k, .int .i64 b.n, .string b.s] 23))
  have HE := Lib.hid hE
  have HX := Lib.hid hx
  have HY := Lib.hid hy
  have HXO := Lib.hid hxo
  have HYO := Lib.hid hyo
  clear hE hx hy hxo hyo
  go_enter Tryd.func5, Tryd.ntmps5
  go_upto_region 1 with fail
  generalize (w.alloc (.cells #[.int .u8 a.k, .int .i64 a.n, .string a.s] 23)).alloc (.cells #[.int .u8 b.k, .int .i64 b.n, .string b.s] 23) = W at *
  generalize w.heap.size + 1 = gb at *
  obtain ⟨a0, a1, a2⟩ := val_cells hA
  obtain ⟨b0, b1, b2⟩ := val_cells hBB
  go_wp2_with fail
  clear a0 a1 a2 b0 b1 b2
  have hS := (Blk.new W 23 #[.int .u8 a.k, .int .i64 a.n, .string a.s, .int .u8 b.k, .int .i64 b.n, .string b.s]).alloc (.cells #[.slice XA x.length xc, .slice YA y.length yc, .slice (some ⟨W.heap.size, 0, none⟩) 2 2] 29)
  have hT := Blk.new (W.alloc (.cells #[.int .u8 a.k, .int .i64 a.n, .string a.s, .int .u8 b.k, .int .i64 b.n, .string b.s] 23)) 29 #[.slice XA x.length xc, .slice YA y.length yc, .slice (some ⟨W.heap.size, 0, none⟩) 2 2]
  have bb := Later.then (later_new W (.cells #[.int .u8 a.k, .int .i64 a.n, .string a.s, .int .u8 b.k, .int .i64 b.n, .string b.s] 23)) (later_new (W.alloc (.cells #[.int .u8 a.k, .int .i64 a.n, .string a.s, .int .u8 b.k, .int .i64 b.n, .string b.s] 23)) (.cells #[.slice XA x.length xc, .slice YA y.length yc, .slice (some ⟨W.heap.size, 0, none⟩) 2 2] 29))
  rw [World.size_alloc] at hT
  replace hA := hA.later bb
  replace hBB := hBB.later bb
  replace hB := Later.then hB bb
  generalize (W.alloc (.cells #[.int .u8 a.k, .int .i64 a.n, .string a.s, .int .u8 b.k, .int .i64 b.n, .string b.s] 23)).alloc (.cells #[.slice XA x.length xc, .slice YA y.length yc, .slice (some ⟨W.heap.size, 0, none⟩) 2 2] 29) = W2 at *
  have hS3 := rv_two hS
  refine (great_any (some ⟨W.heap.size + 1, 0, none⟩) 3 [⟨XA, x, xc⟩, ⟨YA, y, yc⟩, ⟨some ⟨W.heap.size, 0, none⟩, [a, b], 2⟩] W2 (rr_three hT (HX.out.later hB) (HY.out.later hB) hS3) (by simp) ?_).mono ?_
  · intro r hr
    simp at hr
    rcases hr with rfl | rfl | rfl <;> simp <;> omega
  clear hS hT hS3 bb
  rintro e_ w2 ⟨rfl, rfl⟩
  cases hg : greatL [⟨XA, x, xc⟩, ⟨YA, y, yc⟩, ⟨some ⟨W.heap.size, 0, none⟩, [a, b], 2⟩]
  · have gx := not_great hg (r := ⟨XA, x, xc⟩) (by simp)
    have gy := not_great hg (r := ⟨YA, y, yc⟩) (by simp)
    have gz := not_great hg (r := ⟨some ⟨W.heap.size, 0, none⟩, [a, b], 2⟩) (by simp)
    clear hg
    dsimp only at gx gy gz
    have sa : a.s.size < 4294967281 := by have := gz.2 a (by simp); omega
    have sb : b.s.size < 4294967281 := by have := gz.2 b (by simp); omega
    clear gz
    have HXS := Lib.hid (show ∀ v ∈ x, v.Small from fun v hv => ⟨HXO.out v hv, gx.2 v hv⟩)
    have HYS := Lib.hid (show ∀ v ∈ y, v.Small from fun v hv => ⟨HYO.out v hv, gy.2 v hv⟩)
    replace gx := gx.1
    replace gy := gy.1
    clear HXO HYO hxl hyl
    replace HX := Lib.hid (HX.out.later hB)
    replace HY := Lib.hid (HY.out.later hB)
    replace HE := Lib.hid (HE.out.later hB)
    generalize hWW : W.heap.size + 1 = gt at *
    clear hWW
    go_upto_region 3 with fail
    go_cut [43] (fun s wr => s = .bool false ∧ Below w2.heap.size w2 wr)
    case first =>
      have x0 := fun q : Ext w2.heap.size w2 => val_cells (hA.later q.h)
      have y0 := fun q : Ext w2.heap.size w2 => val_cells (hBB.later q.h)
      have hE2 := fun q : Ext w2.heap.size w2 => HE.out.later q.h
      have he := eqv_run a b
      cases ga : good a
      · have wn := word_no ga
        refine region_cut 25 w2.heap.size w2 (Below.refl _ _) (by kernel_rfl) (by kernel_rfl) (by kernel_rfl) (by kernel_rfl) ?_
        simp only [List.append, List.take_succ_cons, List.take_zero, List.drop_succ_cons, List.drop_zero]
        repeat (go_big_quiet_step (fail))
        go_big_quiet_step ((go_at_call 9; exact calls_later (v := .bool false) (Nat.le_refl _) ((good_any a _).mono fun _ _ h => by rw [ga] at h; exact h)))
        repeat (go_big_quiet_step (fail))
        go_big_quiet_step ((go_at_call 13; exact calls_later (v := .string ⟨#[63]⟩) (Nat.le_refl _) ((word_any a ha sa _ (hE2 _)).mono fun _ _ h => by rw [wn] at h; exact h)))
        repeat (go_big_quiet_step (fail))
        go_big_quiet_step ((go_at_call 9; exact calls_later (v := .bool false) (Nat.le_refl _) ((good_any a _).mono fun _ _ h => by rw [ga] at h; exact h)))
        repeat (go_big_quiet_step (fail))
        refine wpQuiet_nil ?_
        rintro V4 ⟨x9, hx9⟩
        have hW := x9.h
        rw [← hx9] at hW
        clear hx9 x9
        go_wp2_with fail
        go_meet
        case rel => exact ⟨rfl, hW⟩
      · cases hgb : good b
        · have wy := word_yes ga
          refine region_cut 25 w2.heap.size w2 (Below.refl _ _) (by kernel_rfl) (by kernel_rfl) (by kernel_rfl) (by kernel_rfl) ?_
          simp only [List.append, List.take_succ_cons, List.take_zero, List.drop_succ_cons, List.drop_zero]
          repeat (go_big_quiet_step (fail))
          go_big_quiet_step ((go_at_call 9; exact calls_later (v := .bool true) (Nat.le_refl _) ((good_any a _).mono fun _ _ h => by rw [ga] at h; exact h)))
          repeat (go_big_quiet_step (fail))
          go_big_quiet_step ((go_at_call 9; exact calls_later (v := .bool false) (Nat.le_refl _) ((good_any b _).mono fun _ _ h => by rw [hgb] at h; exact h)))
          repeat (go_big_quiet_step (fail))
          go_big_quiet_step ((go_at_call 13; exact calls_later (v := .string ⟨(wordL a).toArray⟩) (Nat.le_refl _) (word_any a ha sa _ (hE2 _))))
          repeat (go_big_quiet_step (fail))
          go_big_quiet_step ((go_at_call 9; exact calls_later (v := .bool true) (Nat.le_refl _) ((good_any a _).mono fun _ _ h => by rw [ga] at h; exact h)))
          repeat (go_big_quiet_step (fail))
          refine wpQuiet_nil ?_
          rintro V4 ⟨x9, hx9⟩
          have hW := x9.h
          rw [← hx9] at hW
          clear hx9 x9
          go_wp2_with fail
          go_meet
          case rel => exact ⟨rfl, hW⟩
        · have wy := word_yes ga
          have we := words_eq ga hgb
          refine region_cut 25 w2.heap.size w2 (Below.refl _ _) (by kernel_rfl) (by kernel_rfl) (by kernel_rfl) (by kernel_rfl) ?_
          simp only [List.append, List.take_succ_cons, List.take_zero, List.drop_succ_cons, List.drop_zero]
          repeat (go_big_quiet_step (fail))
          go_big_quiet_step ((go_at_call 9; exact calls_later (v := .bool true) (Nat.le_refl _) ((good_any a _).mono fun _ _ h => by rw [ga] at h; exact h)))
          repeat (go_big_quiet_step (fail))
          go_big_quiet_step ((go_at_call 9; exact calls_later (v := .bool true) (Nat.le_refl _) ((good_any b _).mono fun _ _ h => by rw [hgb] at h; exact h)))
          repeat (go_big_quiet_step (fail))
          go_big_quiet_step ((go_at_call 13; exact calls_later (v := .string ⟨(wordL a).toArray⟩) (Nat.le_refl _) (word_any a ha sa _ (hE2 _))))
          repeat (go_big_quiet_step (fail))
          go_big_quiet_step ((go_at_call 13; exact calls_later (v := .string ⟨(wordL b).toArray⟩) (Nat.le_refl _) (word_any b hb sb _ (hE2 _))))
          repeat (go_big_quiet_step (fail))
          go_big_quiet_step ((go_at_call 13; exact calls_later (v := .string ⟨(wordL a).toArray⟩) (Nat.le_refl _) (word_any a ha sa _ (hE2 _))))
          repeat (go_big_quiet_step (fail))
          go_big_quiet_step ((go_at_call 9; exact calls_later (v := .bool true) (Nat.le_refl _) ((good_any a _).mono fun _ _ h => by rw [ga] at h; exact h)))
          repeat (go_big_quiet_step (fail))
          refine wpQuiet_nil ?_
          rintro V4 ⟨x9, hx9⟩
          have hW := x9.h
          rw [← hx9] at hW
          clear hx9 x9
          go_wp2_with fail
          go_meet
          case rel => exact ⟨rfl, hW⟩
    case rest =>
      obtain ⟨rfl, b1⟩ := hcut
      replace hA := hA.later b1
      replace hBB := hBB.later b1
      replace hB := Later.then hB b1
      replace HX := Lib.hid (HX.out.later b1)
      replace HY := Lib.hid (HY.out.later b1)
      replace HE := Lib.hid (HE.out.later b1)
      clear b1
      by_cases hx0 : x = []
      · subst hx0
        go_wp2_with fail
        refine (Line_any none 0 [] _ (.inl rfl) (by simp) (by simp) HE.out).mono ?_
        rintro e_ w3 ⟨rfl, b3⟩
        have hl0 : strOf (lineL []) = .string ⟨#[]⟩ := rfl
        rw [hl0]
        go_wp2_with fail
        refine (wakes_any _ (HE.out.later b3)).mono ?_
        rintro e_ w9 ⟨rfl, b9⟩
        go_wp2_with fail
        go_ret
        exact ⟨rfl, Later.then hB (Later.then b3 b9)⟩
      by_cases hy0 : y = []
      · subst hy0
        have hxn : ((x.length : Int) == 0) = false := by
          have := List.length_pos_iff.2 hx0
          simp
          omega
        go_wp2_with fail
        refine (Line_any none 0 [] _ (.inl rfl) (by simp) (by simp) HE.out).mono ?_
        rintro e_ w3 ⟨rfl, b3⟩
        have hl0 : strOf (lineL []) = .string ⟨#[]⟩ := rfl
        rw [hl0]
        go_wp2_with fail
        refine (wakes_any _ (HE.out.later b3)).mono ?_
        rintro e_ w9 ⟨rfl, b9⟩
        go_wp2_with fail
        go_ret
        exact ⟨rfl, Later.then hB (Later.then b3 b9)⟩
      have hxn : ((x.length : Int) == 0) = false := by
        have := List.length_pos_iff.2 hx0
        simp
        omega
      have hyn : ((y.length : Int) == 0) = false := by
        have := List.length_pos_iff.2 hy0
        simp
        omega
      have HN := Lib.hid hx0
      have HN2 := Lib.hid hy0
      clear hx0 hy0
      go_wp2_with fail
      clear hxn hyn
      go_loopw [9] (fun i wr => ∃ k : Nat, k ≤ x.length ∧ i = .int .i64 k ∧ (∀ v ∈ x.take k, good v = true) ∧ Below wc.heap.size wc wr) (fun i _ => x.length - (intOf i).toNat)
      case atStart => exact ⟨0, Nat.zero_le _, rfl, by simp, Below.refl _ _⟩
      case round =>
        obtain ⟨k, hk, rfl, hd, bw⟩ := hrel
        have HD := Lib.hid hd
        clear hd
        by_cases hlt : k < x.length
        · obtain ⟨b_, off_, rfl, hb_, c0, c1, c2⟩ := (HX.out.later bw).at_ hlt
          have HS := Lib.hid (all_step x k hlt HD.out)
          generalize x[k] = v at *
          go_wp2_with fail
          refine (good_any v _).mono ?_
          rintro e_ w3 ⟨rfl, b3⟩
          replace bw := Later.then bw b3
          clear b3 c0 c1 c2
          cases hgv : good v
          · go_wp2_with fail
            refine (wakes_any _ (HE.out.later bw)).mono ?_
            rintro e_ w9 ⟨rfl, b9⟩
            go_wp2_with fail
            go_ret
            exact ⟨rfl, Later.then hB (Later.then bw b9)⟩
          · have HS2 := Lib.hid (HS.out hgv)
            clear hgv
            go_wp2_with fail
            go_roundw
            case rel => exact ⟨k + 1, hlt, by go_num, HS2.out, bw⟩
            case measure => simp [intOf]; omega
        · have hke : k = x.length := by omega
          subst hke
          have HXG := Lib.hid (show ∀ v ∈ x, good v = true by have := HD.out; rwa [List.take_length] at this)
          clear HD hk hlt
          go_wp2_with fail
          go_loopw [10] (fun i wr2 => ∃ k : Nat, k ≤ y.length ∧ i = .int .i64 k ∧ (∀ v ∈ y.take k, good v = true) ∧ Below wc.heap.size wc wr2) (fun i _ => y.length - (intOf i).toNat)
          case atStart => exact ⟨0, Nat.zero_le _, rfl, by simp, bw⟩
          case round =>
            clear bw
            obtain ⟨k, hk, rfl, hd, bw⟩ := hrel
            have HD := Lib.hid hd
            clear hd
            by_cases hlt : k < y.length
            · obtain ⟨b_, off_, rfl, hb_, c0, c1, c2⟩ := (HY.out.later bw).at_ hlt
              have HS := Lib.hid (all_step y k hlt HD.out)
              generalize y[k] = v at *
              go_wp2_with fail
              refine (good_any v _).mono ?_
              rintro e_ w3 ⟨rfl, b3⟩
              replace bw := Later.then bw b3
              clear b3 c0 c1 c2
              cases hgv : good v
              · go_wp2_with fail
                refine (wakes_any _ (HE.out.later bw)).mono ?_
                rintro e_ w9 ⟨rfl, b9⟩
                go_wp2_with fail
                go_ret
                exact ⟨rfl, Later.then hB (Later.then bw b9)⟩
              · have HS2 := Lib.hid (HS.out hgv)
                clear hgv
                go_wp2_with fail
                go_roundw
                case rel => exact ⟨k + 1, hlt, by go_num, HS2.out, bw⟩
                case measure => simp [intOf]; omega
            · have hke : k = y.length := by omega
              subst hke
              have HYG := Lib.hid (show ∀ v ∈ y, good v = true by have := HD.out; rwa [List.take_length] at this)
              have le := lines_eq HXG.out HYG.out HN.out HN2.out
              clear HD hk hlt
              go_wp2_with fail
              refine (Line_any XA xc x _ (HX.out.later bw) (by omega) HXS.out (HE.out.later bw)).mono ?_
              rintro e_ w3 ⟨rfl, b3⟩
              replace bw := Later.then bw b3
              clear b3
              unfold strOf
              go_wp2_with fail
              refine (Line_any YA yc y _ (HY.out.later bw) (by omega) HYS.out (HE.out.later bw)).mono ?_
              rintro e_ w4 ⟨rfl, b3⟩
              replace bw := Later.then bw b3
              clear b3
              unfold strOf
              go_wp2_with fail
              refine (rows_any XA xc x YA yc y _ (HX.out.later bw) (HY.out.later bw) (by omega) (by omega)).mono ?_
              rintro e_ w5 ⟨rfl, b3⟩
              replace bw := Later.then bw b3
              clear b3
              go_wp2_with fail
              refine (wakes_any _ (HE.out.later bw)).mono ?_
              rintro e_ w9 ⟨rfl, b9⟩
              go_wp2_with fail
              go_ret
              exact ⟨rfl, Later.then hB (Later.then bw b9)⟩
  · clear hg
    go_wp2_with fail
    refine (wakes_any _ (HE.out.later hB)).mono ?_
    rintro e_ w9 ⟨rfl, b9⟩
    go_wp2_with fail
    go_ret
    exact ⟨rfl, Later.then hB b9⟩
end Go.Proofs.YtekedkbjnedhgaaDoor
