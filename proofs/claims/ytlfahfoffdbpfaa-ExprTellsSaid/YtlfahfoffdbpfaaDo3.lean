/- What the operations of layer 15 do: nulls, buckets, the words of three values. Printed by gen_do3.py. -/
import Derived.Test.YtlfahfoffdbpfaaDo2
namespace Go.Proofs.Ytlfahfoffdbpfaa
open Go.ChangeShapes Go.WideShapes Go.ChangeAt Go.RowKit
set_option linter.unusedVariables false
set_option linter.unusedSimpArgs false

set_option maxHeartbeats 2000000 in
set_option maxRecDepth 100000 in
theorem do_nulls (x : Ex) (A : Option Addr) (c q : Nat) (is : Bool) (a : Val) (w : World) (h : RV w w.heap.size A [a]) (hq : Blk w q 4 #[.bool is]) : Calls Try.prog 100 #[.agg #[.int .u8 x.op, .int .u8 x.v.k, .int .i64 x.v.n, .string x.v.s, .string x.name, .int .i64 x.width, .slice x.A x.n x.c], .slice A 1 c, .pointer (some ⟨q, 0, none⟩)] w fun e w' => e = .returned (ansV (boolV ((a.k == 0) == is)) 0) ∧ Below w.heap.size w w' := by
  obtain ⟨b, off, rfl, hb, hv⟩ := h.one
  go_enter Try.func100, Try.ntmps100
  go_wp2_with fail
  have hB := Later.then (later_new w (.cells #[.int .u8 x.op, .int .u8 x.v.k, .int .i64 x.v.n, .string x.v.s, .string x.name, .int .i64 x.width, .slice x.A x.n x.c] 36)) (later_new _ (.cells #[.int .u8 0, .int .i64 0, .string ⟨#[]⟩] 23))
  have hR := Blk.new (w.alloc (.cells #[.int .u8 x.op, .int .u8 x.v.k, .int .i64 x.v.n, .string x.v.s, .string x.name, .int .i64 x.width, .slice x.A x.n x.c] 36)) 23 #[.int .u8 0, .int .i64 0, .string ⟨#[]⟩]
  have hX := (Blk.new w 36 #[.int .u8 x.op, .int .u8 x.v.k, .int .i64 x.v.n, .string x.v.s, .string x.name, .int .i64 x.width, .slice x.A x.n x.c]).alloc (.cells #[.int .u8 0, .int .i64 0, .string ⟨#[]⟩] 23)
  rw [World.size_alloc] at hR
  generalize hWW : (w.alloc (.cells #[.int .u8 x.op, .int .u8 x.v.k, .int .i64 x.v.n, .string x.v.s, .string x.name, .int .i64 x.width, .slice x.A x.n x.c] 36)).alloc (.cells #[.int .u8 0, .int .i64 0, .string ⟨#[]⟩] 23) = W at *
  clear hWW
  replace hv := hv.keep (w' := W) fun o => hB.cell (p := ⟨b, o, none⟩) hb
  have hb2 : b < W.heap.size := Nat.lt_of_lt_of_le hb hB.size
  have cV := fun y : Ext W.heap.size W => hv.keep (w' := y.w) fun o => y.cell (p := ⟨b, o, none⟩) hb2
  unfold ValAt at cV
  have hq2 : Blk W q 4 #[.bool is] := hq.later hB
  have cQ := fun y : Ext W.heap.size W => (hq2.later y.h).cell 0
  simp only [List.getElem?_toArray, List.getElem?_cons_zero] at cQ
  have hgw : w.heap.size ≤ w.heap.size + 1 := by omega
  generalize w.heap.size + 1 = g at *
  refine region_cut 10 W.heap.size W (Below.refl _ _) (by kernel_rfl) (by kernel_rfl) (by kernel_rfl) (by kernel_rfl) ?_
  simp only [List.take_succ_cons, List.take_zero, List.drop_succ_cons, List.drop_zero]
  repeat (go_big_quiet_step (first
    | (go_at_call 68; exact calls_later (Nat.le_refl _) (truth_tup _ _))))
  refine wpQuiet_nil ?_
  rintro W2 ⟨y2, hy2⟩
  have hW := y2.h
  rw [← hy2] at hW
  clear hy2 y2 cV cQ
  replace hR := hR.later hW
  replace hB := Later.then hB hW
  generalize hr : boolV _ = r at *
  have HE : Hid ((r, (0 : Int)) = (boolV ((a.k == 0) == is), 0)) := by rw [← hr]; exact rfl
  clear hr
  have hR1 := val_cells hR
  have hR3 := Blk.frozen hR
  clear hR
  go_wp2_with fail
  exact bodyPost_ret (v := .tuple #[.agg #[.int .u8 (r, (0 : Int)).1.k, .int .i64 (r, (0 : Int)).1.n, .string (r, (0 : Int)).1.s], .int .i64 (r, (0 : Int)).2]) (by simp [results, Try.results100, go_sem, hR1]) rfl ⟨by have := HE.out; injection this with h1 h2; rw [← h1]; rfl, ((hB.setCell (hgw) _).setCell (hgw) _).setCell (hgw) _⟩

/-- a number's bucket -/
def restT (n wd : Int) : Int := n % wd
def bucketT (n wd : Int) : Val × Int := numIf (wrap64 (n - restT n wd)) (decide (-9223372036854775808 + restT n wd ≤ n))
theorem rest_eq (n wd : Int) (h1 : 1 ≤ wd) : Int.tmod (Int.tmod n wd + wd) wd = restT n wd ∧ -wd < Int.tmod n wd ∧ Int.tmod n wd < wd ∧ 0 ≤ restT n wd ∧ restT n wd < wd := by
  have b1 := Int.tmod_lt_of_pos n (show 0 < wd by omega)
  have b2 := Int.lt_tmod_of_pos n (show 0 < wd by omega)
  have b3 := Int.emod_nonneg n (show wd ≠ 0 by omega)
  have b4 := Int.emod_lt_of_pos n (show 0 < wd by omega)
  refine ⟨?_, b2, b1, b3, b4⟩
  rw [Int.tmod_eq_emod_of_nonneg (show 0 ≤ Int.tmod n wd + wd by omega)]
  unfold restT
  rw [Int.add_emod_right]
  have e := Int.tmod_add_mul_tdiv n wd
  have h2 : (Int.tmod n wd + wd * Int.tdiv n wd) % wd = Int.tmod n wd % wd := Int.add_mul_emod_self_left _ _ _
  rw [e] at h2
  exact h2.symm
set_option maxHeartbeats 2000000 in
set_option maxRecDepth 100000 in
theorem do_bucket (x : Ex) (A : Option Addr) (c : Nat) (a : Val) (w : World) (h : RV w w.heap.size A [a]) (hw1 : 1 ≤ x.width) (hw2 : x.width ≤ 1099511627776) (hn : a.Ok) : Calls Try.prog 85 #[.agg #[.int .u8 x.op, .int .u8 x.v.k, .int .i64 x.v.n, .string x.v.s, .string x.name, .int .i64 x.width, .slice x.A x.n x.c], .slice A 1 c] w fun e w' => e = .returned (ansV (bucketT a.n x.width).1 (bucketT a.n x.width).2) ∧ Below w.heap.size w w' := by
  obtain ⟨b, off, rfl, hb, hv⟩ := h.one
  obtain ⟨n1, n2⟩ := hn
  obtain ⟨r1, r2, r3, r4, r5⟩ := rest_eq a.n x.width hw1
  have HBT : Hid (bucketT a.n x.width = numIf (wrap64 (a.n - restT a.n x.width)) (decide (-9223372036854775808 + restT a.n x.width ≤ a.n))) := rfl
  have hz : (x.width == 0) = false := by rw [beq_eq_false_iff_ne]; omega
  generalize restT a.n x.width = rs at *
  have hv' := hv.keep (w' := (w.alloc (.cells #[.int .u8 x.op, .int .u8 x.v.k, .int .i64 x.v.n, .string x.v.s, .string x.name, .int .i64 x.width, .slice x.A x.n x.c] 36)).alloc (.cells #[.int .u8 0, .int .i64 0, .string ⟨#[]⟩] 23)) fun o => (Later.then (later_new w (.cells #[.int .u8 x.op, .int .u8 x.v.k, .int .i64 x.v.n, .string x.v.s, .string x.name, .int .i64 x.width, .slice x.A x.n x.c] 36)) (later_new _ (.cells #[.int .u8 0, .int .i64 0, .string ⟨#[]⟩] 23))).cell (p := ⟨b, o, none⟩) hb
  unfold ValAt at hv'
  go_enter Try.func85, Try.ntmps85
  go_wp2_with fail
  have hB := Later.then (later_new w (.cells #[.int .u8 x.op, .int .u8 x.v.k, .int .i64 x.v.n, .string x.v.s, .string x.name, .int .i64 x.width, .slice x.A x.n x.c] 36)) (later_new _ (.cells #[.int .u8 0, .int .i64 0, .string ⟨#[]⟩] 23))
  have hR := Blk.new (w.alloc (.cells #[.int .u8 x.op, .int .u8 x.v.k, .int .i64 x.v.n, .string x.v.s, .string x.name, .int .i64 x.width, .slice x.A x.n x.c] 36)) 23 #[.int .u8 0, .int .i64 0, .string ⟨#[]⟩]
  have hX := (Blk.new w 36 #[.int .u8 x.op, .int .u8 x.v.k, .int .i64 x.v.n, .string x.v.s, .string x.name, .int .i64 x.width, .slice x.A x.n x.c]).alloc (.cells #[.int .u8 0, .int .i64 0, .string ⟨#[]⟩] 23)
  rw [World.size_alloc] at hR
  generalize hWW : (w.alloc (.cells #[.int .u8 x.op, .int .u8 x.v.k, .int .i64 x.v.n, .string x.v.s, .string x.name, .int .i64 x.width, .slice x.A x.n x.c] 36)).alloc (.cells #[.int .u8 0, .int .i64 0, .string ⟨#[]⟩] 23) = W at *
  clear hWW
  have hgw : w.heap.size ≤ w.heap.size + 1 := by omega
  generalize w.heap.size + 1 = g at *
  have cX := fun y : Ext W.heap.size W => (hX.later y.h).cell 5
  simp only [List.getElem?_toArray, List.getElem?_cons_zero, List.getElem?_cons_succ] at cX
  refine region_cut 11 W.heap.size W (Below.refl _ _) (by kernel_rfl) (by kernel_rfl) (by kernel_rfl) (by kernel_rfl) ?_
  simp only [List.take_succ_cons, List.take_zero, List.drop_succ_cons, List.drop_zero]
  repeat (go_big_quiet_step (fail))
  refine wpQuiet_nil ?_
  rintro W2 ⟨y2, hy2⟩
  have hW := y2.h
  rw [← hy2] at hW
  clear hy2 y2 cX
  replace hR := hR.later hW
  replace hB := Later.then hB hW
  go_wp2_with fail
  refine (number_any _ _ _).mono ?_
  rintro e w' ⟨rfl, b1⟩
  replace hR := hR.later b1
  replace hB := Later.then hB b1
  clear b1 hv'
  generalize hr : numIf _ _ = r
  have he : bucketT a.n x.width = r := by rw [← hr, HBT.out]
  have HE := Lib.hid he
  clear he hr HBT
  unfold ansV
  have hR1 := val_cells hR
  have hR3 := Blk.frozen hR
  clear hR
  go_wp2_with fail
  exact bodyPost_ret (v := .tuple #[.agg #[.int .u8 r.1.k, .int .i64 r.1.n, .string r.1.s], .int .i64 r.2]) (by simp [results, Try.results85, go_sem, hR1]) rfl ⟨by rw [HE.out]; rfl, ((hB.setCell (hgw) _).setCell (hgw) _).setCell (hgw) _⟩

/-- whether two values are alike -/
def valEq (v x : Val) : Bool := v.k == x.k && v.n == x.n && v.s.toList == x.s.toList
def hasV (v : Val) (l : List Val) : Bool := l.any (valEq v)
def IdxPost (l : List Val) (v : Val) (w : World) (e : Ending) (w' : World) : Prop := ∃ i : Int, e = .returned (.int .i64 i) ∧ decide (0 ≤ i) = hasV v l ∧ Below w.heap.size w w'

set_option maxHeartbeats 2000000 in
set_option maxRecDepth 100000 in
theorem index_any (A : Option Addr) (c : Nat) (l : List Val) (v : Val) (w : World) (h : RV w w.heap.size A l) (hl : l.length ≤ 1000000) : Calls Try.prog 103 #[.slice A l.length c, .agg #[.int .u8 v.k, .int .i64 v.n, .string v.s]] w (IdxPost l v w) := by
  have HH := Lib.hid h
  clear h
  go_enter Try.func103, Try.ntmps103
  go_wp2_with fail
  have hV := Blk.new w 23 #[.int .u8 v.k, .int .i64 v.n, .string v.s]
  have hB := later_new w (.cells #[.int .u8 v.k, .int .i64 v.n, .string v.s] 23)
  generalize w.alloc (.cells #[.int .u8 v.k, .int .i64 v.n, .string v.s] 23) = W at *
  go_loopw [8] (fun i wr => ∃ k : Nat, k ≤ l.length ∧ i = .int .i64 k ∧ (∀ x ∈ l.take k, valEq v x = false) ∧ Below W.heap.size W wr) (fun i _ => l.length - (intOf i).toNat)
  case atStart => exact ⟨0, Nat.zero_le _, rfl, by simp, Below.refl _ _⟩
  case round =>
    obtain ⟨k, hk, rfl, hno, hB1⟩ := hrel
    have HNO := Lib.hid hno
    clear hno
    by_cases hlt : k < l.length
    · obtain ⟨b, off, rfl, hb, hval⟩ := ((HH.out.below hB).more hB.size |>.below hB1).at_ hlt
      have HT := Lib.hid (show l.take (k + 1) = l.take k ++ [l[k]] by rw [List.take_add_one, List.getElem?_eq_getElem hlt]; rfl)
      have HM := Lib.hid (List.getElem_mem hlt)
      generalize l[k] = x at *
      go_wp2_with fail
      have cS := fun y : Ext wr.heap.size wr => hval.keep (w' := y.w) fun o => y.cell (p := ⟨b, o, none⟩) (Nat.lt_of_lt_of_le hb hB1.size)
      have cV := fun y : Ext wr.heap.size wr => val_cells (hV.later (Later.then hB1 y.h))
      unfold ValAt at cS
      refine region_cut 5 wr.heap.size wr (Below.refl _ _) (by kernel_rfl) (by kernel_rfl) (by kernel_rfl) (by kernel_rfl) ?_
      simp only [List.take_succ_cons, List.take_zero, List.drop_succ_cons, List.drop_zero]
      repeat (go_big_quiet_step (fail))
      refine wpQuiet_nil ?_
      rintro W2 ⟨x2, hx2⟩
      have hW := x2.h
      rw [← hx2] at hW
      clear hx2 x2 cS cV hval
      have bW := Later.then hB (Later.then hB1 hW)
      have hno2 : valEq v x = false → ∀ y ∈ l.take (k + 1), valEq v y = false := by
        intro heq y hy
        rw [HT.out] at hy
        rcases List.mem_append.1 hy with hy | hy
        · exact HNO.out y hy
        · simp at hy; subst hy; exact heq
      have HN2 := Lib.hid hno2
      clear hno2 HT
      obtain ⟨xk, xn, xs⟩ := x
      dsimp only
      by_cases h1 : v.k = xk
      · subst h1
        by_cases h2 : v.n = xn
        · subst h2
          by_cases h3 : v.s.toList = xs.toList
          · have hv1 : valEq v ⟨v.k, v.n, xs⟩ = true := by simp [valEq, h3]
            have HV1 := Lib.hid hv1
            clear hv1
            go_wp2_with fail
            go_ret
            exact ⟨_, rfl, by rw [show hasV v l = true from List.any_eq_true.2 ⟨_, HM.out, HV1.out⟩]; simp, bW⟩
          · have hv1 : valEq v ⟨v.k, v.n, xs⟩ = false := by simp [valEq, h3]
            have HV1 := Lib.hid hv1
            clear hv1
            go_wp2_with fail
            go_roundw
            case rel => exact ⟨k + 1, hlt, by go_num, HN2.out HV1.out, Later.then hB1 hW⟩
            case measure => simp [intOf]; omega
        · have hv1 : valEq v ⟨v.k, xn, xs⟩ = false := by simp [valEq, h2]
          have HV1 := Lib.hid hv1
          clear hv1
          go_wp2_with fail
          go_roundw
          case rel => exact ⟨k + 1, hlt, by go_num, HN2.out HV1.out, Later.then hB1 hW⟩
          case measure => simp [intOf]; omega
      · have hv1 : valEq v ⟨xk, xn, xs⟩ = false := by simp [valEq, h1]
        have HV1 := Lib.hid hv1
        clear hv1
        go_wp2_with fail
        go_roundw
        case rel => exact ⟨k + 1, hlt, by go_num, HN2.out HV1.out, Later.then hB1 hW⟩
        case measure => simp [intOf]; omega
    · have hall : hasV v l = false := by
        have := HNO.out
        rw [List.take_of_length_le (by omega)] at this
        unfold hasV
        rw [List.any_eq_false]
        intro x hx
        rw [this x hx]; simp
      have HAL := Lib.hid hall
      clear hall
      go_wp2_with fail
      go_ret
      exact ⟨_, rfl, by rw [HAL.out]; rfl, Later.then hB hB1⟩

set_option maxHeartbeats 2000000 in
set_option maxRecDepth 100000 in
theorem contains_any (A : Option Addr) (c : Nat) (l : List Val) (v : Val) (w : World) (h : RV w w.heap.size A l) (hl : l.length ≤ 1000000) : Calls Try.prog 99 #[.slice A l.length c, .agg #[.int .u8 v.k, .int .i64 v.n, .string v.s]] w fun e w' => e = .returned (.bool (hasV v l)) ∧ Below w.heap.size w w' := by
  have HH := Lib.hid h
  clear h
  go_enter Try.func99, Try.ntmps99
  have hB := later_new w (.cells #[.int .u8 v.k, .int .i64 v.n, .string v.s] 23)
  go_wp2_with fail
  refine (index_any A c l v _ ((HH.out.below hB).more hB.size) hl).mono ?_
  rintro e w' ⟨i, rfl, hi, b1⟩
  go_wp2_with fail
  go_ret
  exact ⟨rfl, Later.then hB b1⟩

/-- a word of three values -/
def logicT (short : Bool) (l : List Val) : Val := if hasV (boolV short) l then boolV short else if hasV zeroVal l then zeroVal else boolV (!short)
set_option maxHeartbeats 4000000 in
set_option maxRecDepth 100000 in
theorem do_logic (x : Ex) (A : Option Addr) (c q : Nat) (short : Bool) (l : List Val) (w : World) (h : RV w w.heap.size A l) (hl : l.length ≤ 1000000) (hq : Blk w q 4 #[.bool short]) : Calls Try.prog 98 #[.agg #[.int .u8 x.op, .int .u8 x.v.k, .int .i64 x.v.n, .string x.v.s, .string x.name, .int .i64 x.width, .slice x.A x.n x.c], .slice A l.length c, .pointer (some ⟨q, 0, none⟩)] w fun e w' => e = .returned (ansV (logicT short l) 0) ∧ Below w.heap.size w w' := by
  have HH := Lib.hid h
  clear h
  have hB := Later.then (later_new w (.cells #[.int .u8 x.op, .int .u8 x.v.k, .int .i64 x.v.n, .string x.v.s, .string x.name, .int .i64 x.width, .slice x.A x.n x.c] 36)) (later_new _ (.cells #[.int .u8 0, .int .i64 0, .string ⟨#[]⟩] 23))
  have hR := Blk.new (w.alloc (.cells #[.int .u8 x.op, .int .u8 x.v.k, .int .i64 x.v.n, .string x.v.s, .string x.name, .int .i64 x.width, .slice x.A x.n x.c] 36)) 23 #[.int .u8 0, .int .i64 0, .string ⟨#[]⟩]
  rw [World.size_alloc] at hR
  replace hq := hq.later hB
  have cQ := hq.cell 0
  simp only [List.getElem?_toArray, List.getElem?_cons_zero] at cQ
  go_enter Try.func98, Try.ntmps98
  go_wp2_with fail
  clear cQ
  generalize (w.alloc (.cells #[.int .u8 x.op, .int .u8 x.v.k, .int .i64 x.v.n, .string x.v.s, .string x.name, .int .i64 x.width, .slice x.A x.n x.c] 36)).alloc (.cells #[.int .u8 0, .int .i64 0, .string ⟨#[]⟩] 23) = W at *
  have hgw : w.heap.size ≤ w.heap.size + 1 := by omega
  generalize w.heap.size + 1 = g at *
  refine (truth_any short _).mono ?_
  rintro e w1 ⟨rfl, b1⟩
  unfold ansV
  replace hR := hR.later (Later.then b1 (later_new w1 (.cells #[.int .u8 (boolV short).k, .int .i64 (boolV short).n, .string (boolV short).s] 23)))
  replace hq := hq.later (Later.then b1 (later_new w1 (.cells #[.int .u8 (boolV short).k, .int .i64 (boolV short).n, .string (boolV short).s] 23)))
  replace hB := Later.then hB (Later.then b1 (later_new w1 (.cells #[.int .u8 (boolV short).k, .int .i64 (boolV short).n, .string (boolV short).s] 23)))
  have hV := Blk.new w1 23 #[.int .u8 (boolV short).k, .int .i64 (boolV short).n, .string (boolV short).s]
  clear b1
  have cV := val_cells hV
  go_wp2_with fail
  clear cV
  generalize w1.alloc (.cells #[.int .u8 (boolV short).k, .int .i64 (boolV short).n, .string (boolV short).s] 23) = W1 at *
  generalize w1.heap.size = g1 at *
  refine (contains_any A c l (boolV short) _ ((HH.out.below hB).more hB.size) hl).mono ?_
  rintro e w2 ⟨rfl, b2⟩
  replace hR := hR.later b2
  replace hq := hq.later b2
  replace hB := Later.then hB b2
  replace hV := hV.later b2
  clear b2
  cases h1 : hasV (boolV short) l
  · go_wp2_with fail
    refine (contains_any A c l zeroVal _ ((HH.out.below hB).more hB.size) hl).mono ?_
    rintro e w3 ⟨rfl, b3⟩
    replace hR := hR.later b3
    replace hq := hq.later b3
    replace hB := Later.then hB b3
    clear b3 hV
    have hR1 := val_cells hR
    have hR3 := Blk.frozen hR
    cases h2 : hasV zeroVal l
    · have cQ := hq.cell 0
      simp only [List.getElem?_toArray, List.getElem?_cons_zero] at cQ
      have HL := Lib.hid (show logicT short l = boolV (!short) by simp [logicT, h1, h2])
      go_wp2_with fail
      refine (truth_any _ _).mono ?_
      rintro e w4 ⟨rfl, b4⟩
      unfold ansV
      replace hR := hR.later b4
      replace hB := Later.then hB b4
      clear b4 hR1 hR3 cQ
      have hR1 := val_cells hR
      have hR3 := Blk.frozen hR
      clear hR
      generalize hr : boolV (!short) = r at *
      go_wp2_with fail
      exact bodyPost_ret (v := .tuple #[.agg #[.int .u8 r.k, .int .i64 r.n, .string r.s], .int .i64 0]) (by simp [results, Try.results98, go_sem, hR1]) rfl ⟨by rw [HL.out]; rfl, ((hB.setCell hgw _).setCell hgw _).setCell hgw _⟩
    · have HL := Lib.hid (show logicT short l = zeroVal by simp [logicT, h1, h2])
      clear hR
      go_wp2_with fail
      exact bodyPost_ret (v := .tuple #[.agg #[.int .u8 0, .int .i64 0, .string ByteArray.empty], .int .i64 0]) (by simp [results, Try.results98, go_sem, hR1]; try rfl) rfl ⟨by rw [HL.out]; rfl, ((hB.setCell hgw _).setCell hgw _).setCell hgw _⟩
  · have HL := Lib.hid (show logicT short l = boolV short by simp [logicT, h1])
    have hR1 := val_cells hR
    have hR3 := Blk.frozen hR
    have cV := val_cells hV
    clear hR hV
    generalize hr : boolV short = r at *
    go_wp2_with fail
    exact bodyPost_ret (v := .tuple #[.agg #[.int .u8 r.k, .int .i64 r.n, .string r.s], .int .i64 0]) (by simp [results, Try.results98, go_sem, hR1]) rfl ⟨by rw [HL.out]; rfl, ((hB.setCell hgw _).setCell hgw _).setCell hgw _⟩

end Go.Proofs.Ytlfahfoffdbpfaa
