/- ExprNumbers: the walk, of any values that answer so. Printed by gen_num2.py. -/
import Derived.Test.YtlfahfoffdbpfaaNum0
import Derived.Deep.DeepCutAuto
namespace Go.Proofs.Ytlfahfoffdbpfaa
open Go.ChangeShapes Go.WideShapes Go.ChangeAt Go.RowKit
set_option linter.unusedVariables false
set_option linter.unusedSimpArgs false


set_option maxHeartbeats 4000000 in
set_option maxRecDepth 100000 in
theorem num_C3 (a b width : Int) (s m d rest kk : Val) (p r : Bool) (e fl : Int) (ba0 : -9223372036854775808 ≤ a) (ba1 : a ≤ 9223372036854775807) (bb0 : -9223372036854775808 ≤ b) (bb1 : b ≤ 9223372036854775807)
    (bw0 : -9223372036854775808 ≤ width) (bw1 : width ≤ 9223372036854775807)
    (h1 : W2 5 (num a) (num b) s p) (h2 : W2 5 (num b) (num a) s p) (h3 : W2 7 (num a) (num b) m r) (h4 : W2 7 (num b) (num a) m r) (h5 : p = true → W2 6 s (num b) (num a) true)
    (hfl : floatV a b = fl) (hpf : (fl == 0) = p) (h6 : W2 8 (num a) (num b) d true) (h7 : W2 9 (num a) (num b) rest true)
    (t1 : (b != 0) = true) (t2 : (b != -1) = true) (t4 : (b != -9223372036854775808) = true) (r2 : rest.n < b) (r3 : -b < rest.n) (t5 : decide (b < -b) = false) (t6 : decide (b ≤ rest.n) = false) (t7 : decide (rest.n ≤ -b) = false) (t8 : (wrap64 (wrap64 (d.n * b) + rest.n) != a) = false)
    (h8 : Bk width a kk e) (he : (e = 0 ∧ 1 ≤ width ∧ kk.n ≤ a ∧ wrap64 (a - kk.n) < width ∧ Int.tmod kk.n width = 0) ∨ e = 21 ∨ e = 43) (w : World) :
    Calls Try.prog 4 #[.int .i64 a, .int .i64 b, .int .i64 width] w fun e w' => e = .returned (.bool true) ∧ Below w.heap.size w w' := by
  have HF := Lib.hid hfl
  have HPF := Lib.hid hpf
  have HE := Lib.hid he
  have H5 := Lib.hid h5
  have Kt1 := Lib.hid t1
  have Kt2 := Lib.hid t2
  have Kt4 := Lib.hid t4
  have Kr2 := Lib.hid r2
  have Kr3 := Lib.hid r3
  have Kt5 := Lib.hid t5
  have Kt6 := Lib.hid t6
  have Kt7 := Lib.hid t7
  have Kt8 := Lib.hid t8
  clear hfl hpf he h5 t1 t2 t4 r2 r3 t5 t6 t7 t8
  go_enter Try.func4, Try.ntmps4
  go_wp2_with fail
  have bb := later_new w (.cells #[.int .u8 2, .int .i64 a, .string ⟨#[]⟩] 23)
  have hB := bb
  have hX := Blk.new w 23 #[.int .u8 2, .int .i64 a, .string ⟨#[]⟩]
  clear bb
  have bb := later_new (w.alloc (.cells #[.int .u8 2, .int .i64 a, .string ⟨#[]⟩] 23)) (.cells #[.int .u8 2, .int .i64 b, .string ⟨#[]⟩] 23)
  replace hB := Later.then hB bb
  replace hX := hX.later bb
  have hY := Blk.new (w.alloc (.cells #[.int .u8 2, .int .i64 a, .string ⟨#[]⟩] 23)) 23 #[.int .u8 2, .int .i64 b, .string ⟨#[]⟩]
  clear bb
  have bb := later_new ((w.alloc (.cells #[.int .u8 2, .int .i64 a, .string ⟨#[]⟩] 23)).alloc (.cells #[.int .u8 2, .int .i64 b, .string ⟨#[]⟩] 23)) (.cells #[.int .u8 2, .int .i64 a, .string ⟨#[]⟩, .int .u8 2, .int .i64 b, .string ⟨#[]⟩] 23)
  replace hB := Later.then hB bb
  replace hX := hX.later bb
  replace hY := hY.later bb
  have hS := Blk.new ((w.alloc (.cells #[.int .u8 2, .int .i64 a, .string ⟨#[]⟩] 23)).alloc (.cells #[.int .u8 2, .int .i64 b, .string ⟨#[]⟩] 23)) 23 #[.int .u8 2, .int .i64 a, .string ⟨#[]⟩, .int .u8 2, .int .i64 b, .string ⟨#[]⟩]
  clear bb
  simp only [World.size_alloc] at hY hS
  generalize (((w.alloc (.cells #[.int .u8 2, .int .i64 a, .string ⟨#[]⟩] 23)).alloc (.cells #[.int .u8 2, .int .i64 b, .string ⟨#[]⟩] 23)).alloc (.cells #[.int .u8 2, .int .i64 a, .string ⟨#[]⟩, .int .u8 2, .int .i64 b, .string ⟨#[]⟩] 23)) = V0 at *
  generalize w.heap.size + 1 + 1 = gs at *
  generalize w.heap.size + 1 = gy at *
  refine (h1 _ _ hS).mono ?_
  clear hS h1
  rintro e_ vw1 ⟨rfl, bq⟩
  replace hB := Later.then hB bq
  replace hX := hX.later bq
  replace hY := hY.later bq
  clear bq
  have bb := later_new vw1 (.cells #[.int .u8 s.k, .int .i64 s.n, .string s.s] 23)
  replace hB := Later.then hB bb
  replace hX := hX.later bb
  replace hY := hY.later bb
  have hs1 := Blk.new vw1 23 #[.int .u8 s.k, .int .i64 s.n, .string s.s]
  clear bb
  have c_hY := val_cells hY
  have c_hX := val_cells hX
  go_wp2_with fail
  clear c_hY c_hX
  have bb := later_new (vw1.alloc (.cells #[.int .u8 s.k, .int .i64 s.n, .string s.s] 23)) (.cells #[.int .u8 2, .int .i64 b, .string ⟨#[]⟩, .int .u8 2, .int .i64 a, .string ⟨#[]⟩] 23)
  replace hB := Later.then hB bb
  replace hX := hX.later bb
  replace hY := hY.later bb
  replace hs1 := hs1.later bb
  have hS := Blk.new (vw1.alloc (.cells #[.int .u8 s.k, .int .i64 s.n, .string s.s] 23)) 23 #[.int .u8 2, .int .i64 b, .string ⟨#[]⟩, .int .u8 2, .int .i64 a, .string ⟨#[]⟩]
  clear bb
  simp only [World.size_alloc] at hS
  generalize ((vw1.alloc (.cells #[.int .u8 s.k, .int .i64 s.n, .string s.s] 23)).alloc (.cells #[.int .u8 2, .int .i64 b, .string ⟨#[]⟩, .int .u8 2, .int .i64 a, .string ⟨#[]⟩] 23)) = V1 at *
  generalize vw1.heap.size + 1 = gs1 at *
  generalize vw1.heap.size = gr1 at *
  refine (h2 _ _ hS).mono ?_
  clear hS h2
  rintro e_ vw2 ⟨rfl, bq⟩
  replace hB := Later.then hB bq
  replace hX := hX.later bq
  replace hY := hY.later bq
  replace hs1 := hs1.later bq
  clear bq
  have bb := later_new vw2 (.cells #[.int .u8 s.k, .int .i64 s.n, .string s.s] 23)
  replace hB := Later.then hB bb
  replace hX := hX.later bb
  replace hY := hY.later bb
  replace hs1 := hs1.later bb
  have hs2 := Blk.new vw2 23 #[.int .u8 s.k, .int .i64 s.n, .string s.s]
  clear bb
  have c_hX := val_cells hX
  have c_hY := val_cells hY
  go_wp2_with fail
  clear c_hX c_hY
  have bb := later_new (vw2.alloc (.cells #[.int .u8 s.k, .int .i64 s.n, .string s.s] 23)) (.cells #[.int .u8 2, .int .i64 a, .string ⟨#[]⟩, .int .u8 2, .int .i64 b, .string ⟨#[]⟩] 23)
  replace hB := Later.then hB bb
  replace hX := hX.later bb
  replace hY := hY.later bb
  replace hs1 := hs1.later bb
  replace hs2 := hs2.later bb
  have hS := Blk.new (vw2.alloc (.cells #[.int .u8 s.k, .int .i64 s.n, .string s.s] 23)) 23 #[.int .u8 2, .int .i64 a, .string ⟨#[]⟩, .int .u8 2, .int .i64 b, .string ⟨#[]⟩]
  clear bb
  simp only [World.size_alloc] at hS
  generalize ((vw2.alloc (.cells #[.int .u8 s.k, .int .i64 s.n, .string s.s] 23)).alloc (.cells #[.int .u8 2, .int .i64 a, .string ⟨#[]⟩, .int .u8 2, .int .i64 b, .string ⟨#[]⟩] 23)) = V2 at *
  generalize vw2.heap.size + 1 = gs2 at *
  generalize vw2.heap.size = gr2 at *
  refine (h3 _ _ hS).mono ?_
  clear hS h3
  rintro e_ vw3 ⟨rfl, bq⟩
  replace hB := Later.then hB bq
  replace hX := hX.later bq
  replace hY := hY.later bq
  replace hs1 := hs1.later bq
  replace hs2 := hs2.later bq
  clear bq
  have bb := later_new vw3 (.cells #[.int .u8 m.k, .int .i64 m.n, .string m.s] 23)
  replace hB := Later.then hB bb
  replace hX := hX.later bb
  replace hY := hY.later bb
  replace hs1 := hs1.later bb
  replace hs2 := hs2.later bb
  have hm1 := Blk.new vw3 23 #[.int .u8 m.k, .int .i64 m.n, .string m.s]
  clear bb
  have c_hY := val_cells hY
  have c_hX := val_cells hX
  go_wp2_with fail
  clear c_hY c_hX
  have bb := later_new (vw3.alloc (.cells #[.int .u8 m.k, .int .i64 m.n, .string m.s] 23)) (.cells #[.int .u8 2, .int .i64 b, .string ⟨#[]⟩, .int .u8 2, .int .i64 a, .string ⟨#[]⟩] 23)
  replace hB := Later.then hB bb
  replace hX := hX.later bb
  replace hY := hY.later bb
  replace hs1 := hs1.later bb
  replace hs2 := hs2.later bb
  replace hm1 := hm1.later bb
  have hS := Blk.new (vw3.alloc (.cells #[.int .u8 m.k, .int .i64 m.n, .string m.s] 23)) 23 #[.int .u8 2, .int .i64 b, .string ⟨#[]⟩, .int .u8 2, .int .i64 a, .string ⟨#[]⟩]
  clear bb
  simp only [World.size_alloc] at hS
  generalize ((vw3.alloc (.cells #[.int .u8 m.k, .int .i64 m.n, .string m.s] 23)).alloc (.cells #[.int .u8 2, .int .i64 b, .string ⟨#[]⟩, .int .u8 2, .int .i64 a, .string ⟨#[]⟩] 23)) = V3 at *
  generalize vw3.heap.size + 1 = gs3 at *
  generalize vw3.heap.size = gr3 at *
  refine (h4 _ _ hS).mono ?_
  clear hS h4
  rintro e_ vw4 ⟨rfl, bq⟩
  replace hB := Later.then hB bq
  replace hX := hX.later bq
  replace hY := hY.later bq
  replace hs1 := hs1.later bq
  replace hs2 := hs2.later bq
  replace hm1 := hm1.later bq
  clear bq
  have bb := later_new vw4 (.cells #[.int .u8 m.k, .int .i64 m.n, .string m.s] 23)
  replace hB := Later.then hB bb
  replace hX := hX.later bb
  replace hY := hY.later bb
  replace hs1 := hs1.later bb
  replace hs2 := hs2.later bb
  replace hm1 := hm1.later bb
  have hm2 := Blk.new vw4 23 #[.int .u8 m.k, .int .i64 m.n, .string m.s]
  clear bb
  have c_hs1 := val_cells hs1
  have c_hs2 := val_cells hs2
  have c_hm1 := val_cells hm1
  have c_hm2 := val_cells hm2
  go_upto_if 75 with fail
  clear c_hs1 c_hs2 c_hm1 c_hm2
  generalize (vw4.alloc (.cells #[.int .u8 m.k, .int .i64 m.n, .string m.s] 23)) = V4 at *
  generalize vw4.heap.size = gr4 at *
  go_cut [] (fun wx => Below w.heap.size w wx ∧ Blk wx w.heap.size 23 #[.int .u8 2, .int .i64 a, .string ⟨#[]⟩] ∧ Blk wx gy 23 #[.int .u8 2, .int .i64 b, .string ⟨#[]⟩])
  case first =>
    cases p
    · go_wp2_with fail
      go_meet
      exact ⟨hB, hX, hY⟩
    · have h5 := H5.out rfl
      clear hm1 hm2 hs2
      have c_hs1 := val_cells hs1
      have c_hY := val_cells hY
      go_wp2_with fail
      clear c_hs1 c_hY
      have bb := later_new V4 (.cells #[.int .u8 s.k, .int .i64 s.n, .string s.s, .int .u8 2, .int .i64 b, .string ⟨#[]⟩] 23)
      replace hB := Later.then hB bb
      replace hX := hX.later bb
      replace hY := hY.later bb
      replace hs1 := hs1.later bb
      have hS := Blk.new V4 23 #[.int .u8 s.k, .int .i64 s.n, .string s.s, .int .u8 2, .int .i64 b, .string ⟨#[]⟩]
      clear bb
      generalize (V4.alloc (.cells #[.int .u8 s.k, .int .i64 s.n, .string s.s, .int .u8 2, .int .i64 b, .string ⟨#[]⟩] 23)) = V5 at *
      generalize V4.heap.size = gs5 at *
      refine (h5 _ _ hS).mono ?_
      clear hS h5
      rintro e_ vw6 ⟨rfl, bq⟩
      replace hB := Later.then hB bq
      replace hX := hX.later bq
      replace hY := hY.later bq
      replace hs1 := hs1.later bq
      clear bq
      have bb := later_new vw6 (.cells #[.int .u8 2, .int .i64 a, .string ByteArray.empty] 23)
      replace hB := Later.then hB bb
      replace hX := hX.later bb
      replace hY := hY.later bb
      replace hs1 := hs1.later bb
      have hd5 := Blk.new vw6 23 #[.int .u8 2, .int .i64 a, .string ByteArray.empty]
      clear bb
      unfold num
      have c_hd := val_cells hd5
      have c_hX := val_cells hX
      go_wp2_with fail
      clear c_hd c_hX
      go_meet
      exact ⟨hB, hX, hY⟩
  case rest =>
    clear hB hX hY hs1 hs2 hm1 hm2
    obtain ⟨hB, hX, hY⟩ := hcut
    have hpf := HPF.out
    have hf := float_any a b
    rw [HF.out] at hf
    go_wp2_with fail
    refine (hf _).mono ?_
    rintro e_ vw7 ⟨rfl, bq⟩
    replace hB := Later.then hB bq
    replace hX := hX.later bq
    replace hY := hY.later bq
    clear bq hf
    have c_hX := val_cells hX
    have c_hY := val_cells hY
    go_wp2_with fail
    clear hpf c_hX c_hY
    have bb := later_new vw7 (.cells #[.int .u8 2, .int .i64 a, .string ⟨#[]⟩, .int .u8 2, .int .i64 b, .string ⟨#[]⟩] 23)
    replace hB := Later.then hB bb
    replace hX := hX.later bb
    replace hY := hY.later bb
    have hS := Blk.new vw7 23 #[.int .u8 2, .int .i64 a, .string ⟨#[]⟩, .int .u8 2, .int .i64 b, .string ⟨#[]⟩]
    clear bb
    generalize (vw7.alloc (.cells #[.int .u8 2, .int .i64 a, .string ⟨#[]⟩, .int .u8 2, .int .i64 b, .string ⟨#[]⟩] 23)) = V7 at *
    generalize vw7.heap.size = gs7 at *
    refine (h6 _ _ hS).mono ?_
    clear hS h6
    rintro e_ vw8 ⟨rfl, bq⟩
    replace hB := Later.then hB bq
    replace hX := hX.later bq
    replace hY := hY.later bq
    clear bq
    have bb := later_new vw8 (.cells #[.int .u8 d.k, .int .i64 d.n, .string d.s] 23)
    replace hB := Later.then hB bb
    replace hX := hX.later bb
    replace hY := hY.later bb
    have hd := Blk.new vw8 23 #[.int .u8 d.k, .int .i64 d.n, .string d.s]
    clear bb
    have c_hX := val_cells hX
    have c_hY := val_cells hY
    go_wp2_with fail
    clear c_hX c_hY
    have bb := later_new (vw8.alloc (.cells #[.int .u8 d.k, .int .i64 d.n, .string d.s] 23)) (.cells #[.int .u8 2, .int .i64 a, .string ⟨#[]⟩, .int .u8 2, .int .i64 b, .string ⟨#[]⟩] 23)
    replace hB := Later.then hB bb
    replace hX := hX.later bb
    replace hY := hY.later bb
    replace hd := hd.later bb
    have hS := Blk.new (vw8.alloc (.cells #[.int .u8 d.k, .int .i64 d.n, .string d.s] 23)) 23 #[.int .u8 2, .int .i64 a, .string ⟨#[]⟩, .int .u8 2, .int .i64 b, .string ⟨#[]⟩]
    clear bb
    simp only [World.size_alloc] at hS
    generalize ((vw8.alloc (.cells #[.int .u8 d.k, .int .i64 d.n, .string d.s] 23)).alloc (.cells #[.int .u8 2, .int .i64 a, .string ⟨#[]⟩, .int .u8 2, .int .i64 b, .string ⟨#[]⟩] 23)) = V8 at *
    generalize vw8.heap.size + 1 = gs8 at *
    generalize vw8.heap.size = gr8 at *
    refine (h7 _ _ hS).mono ?_
    clear hS h7
    rintro e_ vw9 ⟨rfl, bq⟩
    replace hB := Later.then hB bq
    replace hX := hX.later bq
    replace hY := hY.later bq
    replace hd := hd.later bq
    clear bq
    have bb := later_new vw9 (.cells #[.int .u8 rest.k, .int .i64 rest.n, .string rest.s] 23)
    replace hB := Later.then hB bb
    replace hX := hX.later bb
    replace hY := hY.later bb
    replace hd := hd.later bb
    have hr := Blk.new vw9 23 #[.int .u8 rest.k, .int .i64 rest.n, .string rest.s]
    clear bb
    go_upto_region 16 with fail
    generalize (vw9.alloc (.cells #[.int .u8 rest.k, .int .i64 rest.n, .string rest.s] 23)) = V9 at *
    generalize vw9.heap.size = gr9 at *
    have t1 := Kt1.out
    have t2 := Kt2.out
    have t4 := Kt4.out
    have r2 := Kr2.out
    have r3 := Kr3.out
    have t5 := Kt5.out
    have t6 := Kt6.out
    have t7 := Kt7.out
    have t8 := Kt8.out
    have c_hd := val_cells hd
    have c_hr := val_cells hr
    have c_hX := val_cells hX
    go_wp2_with fail
    clear t1 t2 t4 r2 r3 t5 t6 t7 t8 c_hd c_hr c_hX hd hr hY
    refine (lit_any (num a) _).mono ?_
    rintro e_ vw10 ⟨rfl, bq⟩
    replace hB := Later.then hB bq
    clear bq
    unfold litV num
    go_wp2_with fail
    have hg := Blk.new vw10 36 #[.int .u8 1, .int .u8 2, .int .i64 a, .string ByteArray.empty, .string ByteArray.empty, .int .i64 0, .slice none 0 0]
    replace hB := Later.then hB (later_new vw10 (.cells #[.int .u8 1, .int .u8 2, .int .i64 a, .string ByteArray.empty, .string ByteArray.empty, .int .i64 0, .slice none 0 0] 36))
    refine (h8 _ _ hg).mono ?_
    clear hg h8
    rintro e_ vw11 ⟨rfl, bq⟩
    replace hB := Later.then hB bq
    clear bq
    have hk := Blk.new vw11 23 #[.int .u8 kk.k, .int .i64 kk.n, .string kk.s]
    replace hB := Later.then hB (later_new vw11 (.cells #[.int .u8 kk.k, .int .i64 kk.n, .string kk.s] 23))
    go_upto_region 21 with fail
    generalize (vw11.alloc (.cells #[.int .u8 kk.k, .int .i64 kk.n, .string kk.s] 23)) = V11 at *
    generalize vw11.heap.size = gk at *
    have c_k := val_cells hk
    rcases HE.out with ⟨h0, hw1, hk1, hk2, hk3⟩ | h0 | h0
    · subst h0
      have t1 : decide (width < 1) = false := decide_eq_false (by omega)
      have t2 : decide (a < kk.n) = false := decide_eq_false (by omega)
      have t3 : decide (width ≤ wrap64 (a - kk.n)) = false := decide_eq_false (by omega)
      have t4 : (width == 0) = false := by simp; omega
      clear hk2
      go_wp2_with fail
      refine (wakes_any _).mono ?_
      rintro e_ w9 ⟨rfl, b9⟩
      go_wp2_with fail
      go_ret
      exact ⟨rfl, Later.then hB b9⟩
    · subst h0
      go_wp2_with fail
      refine (wakes_any _).mono ?_
      rintro e_ w9 ⟨rfl, b9⟩
      go_wp2_with fail
      go_ret
      exact ⟨rfl, Later.then hB b9⟩
    · subst h0
      go_wp2_with fail
      refine (wakes_any _).mono ?_
      rintro e_ w9 ⟨rfl, b9⟩
      go_wp2_with fail
      go_ret
      exact ⟨rfl, Later.then hB b9⟩
end Go.Proofs.Ytlfahfoffdbpfaa
