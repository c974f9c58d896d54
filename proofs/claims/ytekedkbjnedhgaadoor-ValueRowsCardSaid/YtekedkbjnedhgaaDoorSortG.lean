/- slices.symMergeCmpFunc at rows. Printed by gen_sym2.py. -/
import Derived.Test.YtekedkbjnedhgaaDoorSortQ
namespace Go.Proofs.YtekedkbjnedhgaaDoor
open Go.ChangeShapes Go.WideShapes Go.ChangeAt Go.RowKit
set_option linter.unusedVariables false
set_option linter.unusedSimpArgs false
set_option maxRecDepth 100000

set_option maxHeartbeats 16000000 in
theorem sym_1_A11 (w0 : World) (g n cap a m b mid p s f s0 r0 : Nat) (D : Nat → RowS) (w : World) (h : SS w0 g n w D) (hn : n ≤ 1000) (ham : a + 1 < m) (hmb : m + 1 < b) (hb : b ≤ n) (hmid : mid = (a + b) / 2) (hp : p = mid + m - 1) (hf : f = mid + m - s) (hsd : s0 = mid + m - b) (hrd : r0 = mid) (hmm : mid < m)
    (hs0 : s0 ≤ s) (hr0 : s ≤ r0) (hF : Found D p s0 r0 s s) (q1 : Srt (rotF D s m f) a s) (q2 : Srt (rotF D s m f) s mid) (q3 : Srt (rotF D s m f) mid f) (q4 : Srt (rotF D s m f) f b) (q5 : ∀ x y, a ≤ x → x < mid → mid ≤ y → y < b → le (rotF D s m f x) (rotF D s m f y)) (k0 : s < m) (k1 : m < f) (k2 : a < s) (k3 : s < mid) (k4 : mid < f) (k5 : f < b)
    (ih : ∀ a' m' b' E W, a' < m' → m' < b' → b' ≤ n → b' - a' < b - a → SS w0 g n W E → Srt E a' m' → Srt E m' b' → Calls Tryd.prog 53 #[.slice (some ⟨g, 0, none⟩) n cap, .int .i64 (a' : Nat), .int .i64 (m' : Nat), .int .i64 (b' : Nat), .func (.func 16) #[] #[]] W (mergePost w0 g n a' b' E)) :
    Calls Tryd.prog 53 #[.slice (some ⟨g, 0, none⟩) n cap, .int .i64 a, .int .i64 m, .int .i64 b, .func (.func 16) #[] #[]] w (mergePost w0 g n a b D) := by
  have HS := Lib.hid h
  have HF := Lib.hid hF
  have IH := Lib.hid ih
  have Q1 := Lib.hid q1
  have Q2 := Lib.hid q2
  have Q3 := Lib.hid q3
  have Q4 := Lib.hid q4
  have Q5 := Lib.hid q5
  have mixed : Tryd.prog.follows .mixedOrders = true := by kernel_rfl
  have t0 : ((m : Int) - (a : Int) == 1) = false := by simp; omega
  have t1 : ((b : Int) - (m : Int) == 1) = false := by simp; omega
  have zm : ((a : Int) + (b : Int)) / 2 = (mid : Int) := by omega
  have zp : (mid : Int) + (m : Int) - 1 = (p : Int) := by omega
  have bm : a < mid ∧ mid < b := by omega
  have bs : a ≤ s0 ∧ s0 ≤ r0 ∧ r0 ≤ m ∧ r0 ≤ mid ∧ mid + m ≤ s0 + b := by omega
  have bp : p + 1 = mid + m := by omega
  have bf : m ≤ f ∧ f ≤ b ∧ mid ≤ f := by omega
  have zf : (mid : Int) + (m : Int) - (s : Int) = (f : Int) := by omega
  have zs : (mid : Int) + (m : Int) - (b : Int) = (s0 : Int) := by omega
  have HSD := Lib.hid hsd
  have HRD := Lib.hid hrd
  clear h hF ih q1 q2 q3 q4 q5 hmid hp hf hsd hrd
  go_enter Tryd.func53, Tryd.ntmps53
  go_wp2_with fail
  clear t0 t1 zm zp zs
  go_loopw [20, 21] (fun sv rv wr => ∃ i j : Nat, s0 ≤ i ∧ i ≤ s ∧ s ≤ j ∧ j ≤ r0 ∧ sv = .int .i64 i ∧ rv = .int .i64 j ∧ SS w0 g n wr D) (fun sv rv _ => (intOf rv).toNat - (intOf sv).toNat)
  case atStart => exact ⟨s0, r0, by omega, by omega, by omega, by omega, by rfl, by rw [HRD.out], HS.out⟩
  case round =>
    clear HS
    obtain ⟨i, j, his, hi, hj, hjr, rfl, rfl, hs⟩ := hrel
    have H2 := Lib.hid hs
    clear hs
    by_cases hlt : i < j
    · go_upto_region 35 with fail
      obtain ⟨c, hcd⟩ : ∃ c : Nat, c = (i + j) / 2 := ⟨_, rfl⟩
      have zc : ((i : Int) + (j : Int)) / 2 = (c : Int) := by omega
      simp only [zc]
      have hcl : i ≤ c := by omega
      have hcr : c < j := by omega
      clear zc hcd
      have zpc : (p : Int) - (c : Int) = ((p - c : Nat) : Int) := by omega
      have c1 := fun q : Ext wr.heap.size wr => (H2.out.at_.later q.h).cell (p - c) (by omega)
      have c2 := fun q : Ext wr.heap.size wr => (H2.out.at_.later q.h).cell c (by omega)
      have hc := fun q : Ext wr.heap.size wr => H2.out.cmp (p - c) c (by omega) (by omega) q.h
      by_cases hcs : c < s
      · have t2 := decide_eq_false (show ¬ rcmp (D (p - c)).l (D c).l < 0 from HF.out.low c (by omega) hcs)
        refine region_cut 14 wr.heap.size wr (Below.refl _ _) (by kernel_rfl) (by kernel_rfl) (by kernel_rfl) (by kernel_rfl) ?_
        simp only [List.append, List.take_succ_cons, List.take_zero, List.drop_succ_cons, List.drop_zero]
        repeat (go_big_quiet_step (fail))
        go_big_quiet_step ((go_at_call 16; exact calls_later (Nat.le_refl _) (hc _)))
        repeat (go_big_quiet_step (fail))
        refine wpQuiet_nil ?_
        rintro W4 ⟨x9, hx9⟩
        have hW := x9.h
        rw [← hx9] at hW
        clear hx9 x9 c1 c2 hc
        have H3 := Lib.hid (H2.out.later hW)
        clear H2 hW
        go_wp2_with fail
        go_roundw
        case rel => exact ⟨c + 1, j, by omega, by omega, by omega, by omega, by go_num, rfl, H3.out⟩
        case measure => simp [intOf]; omega
      · have t2 := decide_eq_true (show rcmp (D (p - c)).l (D c).l < 0 from HF.out.high c (by omega) (by omega))
        refine region_cut 14 wr.heap.size wr (Below.refl _ _) (by kernel_rfl) (by kernel_rfl) (by kernel_rfl) (by kernel_rfl) ?_
        simp only [List.append, List.take_succ_cons, List.take_zero, List.drop_succ_cons, List.drop_zero]
        repeat (go_big_quiet_step (fail))
        go_big_quiet_step ((go_at_call 16; exact calls_later (Nat.le_refl _) (hc _)))
        repeat (go_big_quiet_step (fail))
        refine wpQuiet_nil ?_
        rintro W4 ⟨x9, hx9⟩
        have hW := x9.h
        rw [← hx9] at hW
        clear hx9 x9 c1 c2 hc
        have H3 := Lib.hid (H2.out.later hW)
        clear H2 hW
        go_wp2_with fail
        go_roundw
        case rel => exact ⟨i, c, by omega, by omega, by omega, by omega, rfl, rfl, H3.out⟩
        case measure => simp [intOf]; omega
    · have hie : s = i := by omega
      have hje : s = j := by omega
      subst hie hje
      clear hlt hi hj his hjr HF
      have u0_ : decide (s < m) = true := decide_eq_true k0
      have u1_ : decide (m < f) = true := decide_eq_true k1
      have u2_ : decide (a < s) = true := decide_eq_true k2
      have u3_ : decide (s < mid) = true := decide_eq_true k3
      have u4_ : decide (mid < f) = true := decide_eq_true k4
      have u5_ : decide (f < b) = true := decide_eq_true k5
      go_wp2_with fail
      refine (rotate_any w0 g n cap s m f D _ H2.out hn (by omega) (by omega) (by omega)).mono ?_
      rintro e_ w5 ⟨rfl, h5⟩
      have H3 := Lib.hid h5
      clear h5 H2
      have HRS := Lib.hid (rotF_sw D s m f (by omega) (by omega))
      generalize rotF D s m f = R at *
      go_wp2_with fail
      refine (IH.out a s mid R _ (by omega) (by omega) (by omega) (by omega) H3.out Q1.out Q2.out).mono ?_
      rintro e_ w6 ⟨rfl, E, hs, hw, ho⟩
      have H4 := Lib.hid hs
      have HW := Lib.hid hw
      have HO := Lib.hid ho
      clear hs hw ho H3
      go_wp2_with fail
      have Q3' := Lib.hid (Q3.out.congr (E := E) fun x h1 h2 => HW.out.out x (.inr h1))
      have Q4' := Lib.hid (Q4.out.congr (E := E) fun x h1 h2 => HW.out.out x (.inr (by omega)))
      refine (IH.out mid f b E _ (by omega) (by omega) hb (by omega) H4.out Q3'.out Q4'.out).mono ?_
      rintro e_ w7 ⟨rfl, T, h5, h6, h7⟩
      have HF := sym_end ⟨by omega, by omega⟩ Q5.out HW.out h6 HO.out h7
      have HT := Lib.hid h5
      have HS1 := Lib.hid HF.1
      have HS2 := Lib.hid ((HRS.out.mono (by omega) (by omega)).trans HF.2)
      clear h5 h6 h7 HF
      go_wp2_with fail
      exact bodyPost_ret (v := .tuple #[]) (by simp [results, Tryd.results53, go_sem]) rfl ⟨rfl, T, HT.out, HS2.out, HS1.out⟩

set_option maxHeartbeats 16000000 in
theorem sym_1_A10 (w0 : World) (g n cap a m b mid p s f s0 r0 : Nat) (D : Nat → RowS) (w : World) (h : SS w0 g n w D) (hn : n ≤ 1000) (ham : a + 1 < m) (hmb : m + 1 < b) (hb : b ≤ n) (hmid : mid = (a + b) / 2) (hp : p = mid + m - 1) (hf : f = mid + m - s) (hsd : s0 = mid + m - b) (hrd : r0 = mid) (hmm : mid < m)
    (hs0 : s0 ≤ s) (hr0 : s ≤ r0) (hF : Found D p s0 r0 s s) (q1 : Srt (rotF D s m f) a s) (q2 : Srt (rotF D s m f) s mid) (q3 : Srt (rotF D s m f) mid f) (q4 : Srt (rotF D s m f) f b) (q5 : ∀ x y, a ≤ x → x < mid → mid ≤ y → y < b → le (rotF D s m f x) (rotF D s m f y)) (k0 : s < m) (k1 : m < f) (k2 : a < s) (k3 : s < mid) (k4 : mid < f) (k5 : ¬ (f < b))
    (ih : ∀ a' m' b' E W, a' < m' → m' < b' → b' ≤ n → b' - a' < b - a → SS w0 g n W E → Srt E a' m' → Srt E m' b' → Calls Tryd.prog 53 #[.slice (some ⟨g, 0, none⟩) n cap, .int .i64 (a' : Nat), .int .i64 (m' : Nat), .int .i64 (b' : Nat), .func (.func 16) #[] #[]] W (mergePost w0 g n a' b' E)) :
    Calls Tryd.prog 53 #[.slice (some ⟨g, 0, none⟩) n cap, .int .i64 a, .int .i64 m, .int .i64 b, .func (.func 16) #[] #[]] w (mergePost w0 g n a b D) := by
  have HS := Lib.hid h
  have HF := Lib.hid hF
  have IH := Lib.hid ih
  have Q1 := Lib.hid q1
  have Q2 := Lib.hid q2
  have Q3 := Lib.hid q3
  have Q4 := Lib.hid q4
  have Q5 := Lib.hid q5
  have mixed : Tryd.prog.follows .mixedOrders = true := by kernel_rfl
  have t0 : ((m : Int) - (a : Int) == 1) = false := by simp; omega
  have t1 : ((b : Int) - (m : Int) == 1) = false := by simp; omega
  have zm : ((a : Int) + (b : Int)) / 2 = (mid : Int) := by omega
  have zp : (mid : Int) + (m : Int) - 1 = (p : Int) := by omega
  have bm : a < mid ∧ mid < b := by omega
  have bs : a ≤ s0 ∧ s0 ≤ r0 ∧ r0 ≤ m ∧ r0 ≤ mid ∧ mid + m ≤ s0 + b := by omega
  have bp : p + 1 = mid + m := by omega
  have bf : m ≤ f ∧ f ≤ b ∧ mid ≤ f := by omega
  have zf : (mid : Int) + (m : Int) - (s : Int) = (f : Int) := by omega
  have zs : (mid : Int) + (m : Int) - (b : Int) = (s0 : Int) := by omega
  have HSD := Lib.hid hsd
  have HRD := Lib.hid hrd
  clear h hF ih q1 q2 q3 q4 q5 hmid hp hf hsd hrd
  go_enter Tryd.func53, Tryd.ntmps53
  go_wp2_with fail
  clear t0 t1 zm zp zs
  go_loopw [20, 21] (fun sv rv wr => ∃ i j : Nat, s0 ≤ i ∧ i ≤ s ∧ s ≤ j ∧ j ≤ r0 ∧ sv = .int .i64 i ∧ rv = .int .i64 j ∧ SS w0 g n wr D) (fun sv rv _ => (intOf rv).toNat - (intOf sv).toNat)
  case atStart => exact ⟨s0, r0, by omega, by omega, by omega, by omega, by rfl, by rw [HRD.out], HS.out⟩
  case round =>
    clear HS
    obtain ⟨i, j, his, hi, hj, hjr, rfl, rfl, hs⟩ := hrel
    have H2 := Lib.hid hs
    clear hs
    by_cases hlt : i < j
    · go_upto_region 35 with fail
      obtain ⟨c, hcd⟩ : ∃ c : Nat, c = (i + j) / 2 := ⟨_, rfl⟩
      have zc : ((i : Int) + (j : Int)) / 2 = (c : Int) := by omega
      simp only [zc]
      have hcl : i ≤ c := by omega
      have hcr : c < j := by omega
      clear zc hcd
      have zpc : (p : Int) - (c : Int) = ((p - c : Nat) : Int) := by omega
      have c1 := fun q : Ext wr.heap.size wr => (H2.out.at_.later q.h).cell (p - c) (by omega)
      have c2 := fun q : Ext wr.heap.size wr => (H2.out.at_.later q.h).cell c (by omega)
      have hc := fun q : Ext wr.heap.size wr => H2.out.cmp (p - c) c (by omega) (by omega) q.h
      by_cases hcs : c < s
      · have t2 := decide_eq_false (show ¬ rcmp (D (p - c)).l (D c).l < 0 from HF.out.low c (by omega) hcs)
        refine region_cut 14 wr.heap.size wr (Below.refl _ _) (by kernel_rfl) (by kernel_rfl) (by kernel_rfl) (by kernel_rfl) ?_
        simp only [List.append, List.take_succ_cons, List.take_zero, List.drop_succ_cons, List.drop_zero]
        repeat (go_big_quiet_step (fail))
        go_big_quiet_step ((go_at_call 16; exact calls_later (Nat.le_refl _) (hc _)))
        repeat (go_big_quiet_step (fail))
        refine wpQuiet_nil ?_
        rintro W4 ⟨x9, hx9⟩
        have hW := x9.h
        rw [← hx9] at hW
        clear hx9 x9 c1 c2 hc
        have H3 := Lib.hid (H2.out.later hW)
        clear H2 hW
        go_wp2_with fail
        go_roundw
        case rel => exact ⟨c + 1, j, by omega, by omega, by omega, by omega, by go_num, rfl, H3.out⟩
        case measure => simp [intOf]; omega
      · have t2 := decide_eq_true (show rcmp (D (p - c)).l (D c).l < 0 from HF.out.high c (by omega) (by omega))
        refine region_cut 14 wr.heap.size wr (Below.refl _ _) (by kernel_rfl) (by kernel_rfl) (by kernel_rfl) (by kernel_rfl) ?_
        simp only [List.append, List.take_succ_cons, List.take_zero, List.drop_succ_cons, List.drop_zero]
        repeat (go_big_quiet_step (fail))
        go_big_quiet_step ((go_at_call 16; exact calls_later (Nat.le_refl _) (hc _)))
        repeat (go_big_quiet_step (fail))
        refine wpQuiet_nil ?_
        rintro W4 ⟨x9, hx9⟩
        have hW := x9.h
        rw [← hx9] at hW
        clear hx9 x9 c1 c2 hc
        have H3 := Lib.hid (H2.out.later hW)
        clear H2 hW
        go_wp2_with fail
        go_roundw
        case rel => exact ⟨i, c, by omega, by omega, by omega, by omega, rfl, rfl, H3.out⟩
        case measure => simp [intOf]; omega
    · have hie : s = i := by omega
      have hje : s = j := by omega
      subst hie hje
      clear hlt hi hj his hjr HF
      have u0_ : decide (s < m) = true := decide_eq_true k0
      have u1_ : decide (m < f) = true := decide_eq_true k1
      have u2_ : decide (a < s) = true := decide_eq_true k2
      have u3_ : decide (s < mid) = true := decide_eq_true k3
      have u4_ : decide (mid < f) = true := decide_eq_true k4
      have u5_ : decide (f < b) = false := decide_eq_false k5
      go_wp2_with fail
      refine (rotate_any w0 g n cap s m f D _ H2.out hn (by omega) (by omega) (by omega)).mono ?_
      rintro e_ w5 ⟨rfl, h5⟩
      have H3 := Lib.hid h5
      clear h5 H2
      have HRS := Lib.hid (rotF_sw D s m f (by omega) (by omega))
      generalize rotF D s m f = R at *
      go_wp2_with fail
      refine (IH.out a s mid R _ (by omega) (by omega) (by omega) (by omega) H3.out Q1.out Q2.out).mono ?_
      rintro e_ w6 ⟨rfl, E, hs, hw, ho⟩
      have H4 := Lib.hid hs
      have HW := Lib.hid hw
      have HO := Lib.hid ho
      clear hs hw ho H3
      go_wp2_with fail
      have Q3' := Lib.hid (Q3.out.congr (E := E) fun x h1 h2 => HW.out.out x (.inr h1))
      have Q4' := Lib.hid (Q4.out.congr (E := E) fun x h1 h2 => HW.out.out x (.inr (by omega)))
      have H6 := Lib.hid (show Srt E mid b from by
        rcases (show f = mid ∨ f = b by omega) with e | e
        · have := Q4'.out; rwa [e] at this
        · have := Q3'.out; rwa [e] at this)
      have HF := sym_end ⟨by omega, by omega⟩ Q5.out HW.out .refl HO.out H6.out
      have HS1 := Lib.hid HF.1
      have HS2 := Lib.hid ((HRS.out.mono (by omega) (by omega)).trans HF.2)
      exact bodyPost_ret (v := .tuple #[]) (by simp [results, Tryd.results53, go_sem]) rfl ⟨rfl, E, H4.out, HS2.out, HS1.out⟩

set_option maxHeartbeats 16000000 in
theorem sym_1_A01 (w0 : World) (g n cap a m b mid p s f s0 r0 : Nat) (D : Nat → RowS) (w : World) (h : SS w0 g n w D) (hn : n ≤ 1000) (ham : a + 1 < m) (hmb : m + 1 < b) (hb : b ≤ n) (hmid : mid = (a + b) / 2) (hp : p = mid + m - 1) (hf : f = mid + m - s) (hsd : s0 = mid + m - b) (hrd : r0 = mid) (hmm : mid < m)
    (hs0 : s0 ≤ s) (hr0 : s ≤ r0) (hF : Found D p s0 r0 s s) (q1 : Srt (rotF D s m f) a s) (q2 : Srt (rotF D s m f) s mid) (q3 : Srt (rotF D s m f) mid f) (q4 : Srt (rotF D s m f) f b) (q5 : ∀ x y, a ≤ x → x < mid → mid ≤ y → y < b → le (rotF D s m f x) (rotF D s m f y)) (k0 : s < m) (k1 : m < f) (k2 : ¬ (a < s)) (k3 : s < mid) (k4 : mid < f) (k5 : f < b)
    (ih : ∀ a' m' b' E W, a' < m' → m' < b' → b' ≤ n → b' - a' < b - a → SS w0 g n W E → Srt E a' m' → Srt E m' b' → Calls Tryd.prog 53 #[.slice (some ⟨g, 0, none⟩) n cap, .int .i64 (a' : Nat), .int .i64 (m' : Nat), .int .i64 (b' : Nat), .func (.func 16) #[] #[]] W (mergePost w0 g n a' b' E)) :
    Calls Tryd.prog 53 #[.slice (some ⟨g, 0, none⟩) n cap, .int .i64 a, .int .i64 m, .int .i64 b, .func (.func 16) #[] #[]] w (mergePost w0 g n a b D) := by
  have HS := Lib.hid h
  have HF := Lib.hid hF
  have IH := Lib.hid ih
  have Q1 := Lib.hid q1
  have Q2 := Lib.hid q2
  have Q3 := Lib.hid q3
  have Q4 := Lib.hid q4
  have Q5 := Lib.hid q5
  have mixed : Tryd.prog.follows .mixedOrders = true := by kernel_rfl
  have t0 : ((m : Int) - (a : Int) == 1) = false := by simp; omega
  have t1 : ((b : Int) - (m : Int) == 1) = false := by simp; omega
  have zm : ((a : Int) + (b : Int)) / 2 = (mid : Int) := by omega
  have zp : (mid : Int) + (m : Int) - 1 = (p : Int) := by omega
  have bm : a < mid ∧ mid < b := by omega
  have bs : a ≤ s0 ∧ s0 ≤ r0 ∧ r0 ≤ m ∧ r0 ≤ mid ∧ mid + m ≤ s0 + b := by omega
  have bp : p + 1 = mid + m := by omega
  have bf : m ≤ f ∧ f ≤ b ∧ mid ≤ f := by omega
  have zf : (mid : Int) + (m : Int) - (s : Int) = (f : Int) := by omega
  have zs : (mid : Int) + (m : Int) - (b : Int) = (s0 : Int) := by omega
  have HSD := Lib.hid hsd
  have HRD := Lib.hid hrd
  clear h hF ih q1 q2 q3 q4 q5 hmid hp hf hsd hrd
  go_enter Tryd.func53, Tryd.ntmps53
  go_wp2_with fail
  clear t0 t1 zm zp zs
  go_loopw [20, 21] (fun sv rv wr => ∃ i j : Nat, s0 ≤ i ∧ i ≤ s ∧ s ≤ j ∧ j ≤ r0 ∧ sv = .int .i64 i ∧ rv = .int .i64 j ∧ SS w0 g n wr D) (fun sv rv _ => (intOf rv).toNat - (intOf sv).toNat)
  case atStart => exact ⟨s0, r0, by omega, by omega, by omega, by omega, by rfl, by rw [HRD.out], HS.out⟩
  case round =>
    clear HS
    obtain ⟨i, j, his, hi, hj, hjr, rfl, rfl, hs⟩ := hrel
    have H2 := Lib.hid hs
    clear hs
    by_cases hlt : i < j
    · go_upto_region 35 with fail
      obtain ⟨c, hcd⟩ : ∃ c : Nat, c = (i + j) / 2 := ⟨_, rfl⟩
      have zc : ((i : Int) + (j : Int)) / 2 = (c : Int) := by omega
      simp only [zc]
      have hcl : i ≤ c := by omega
      have hcr : c < j := by omega
      clear zc hcd
      have zpc : (p : Int) - (c : Int) = ((p - c : Nat) : Int) := by omega
      have c1 := fun q : Ext wr.heap.size wr => (H2.out.at_.later q.h).cell (p - c) (by omega)
      have c2 := fun q : Ext wr.heap.size wr => (H2.out.at_.later q.h).cell c (by omega)
      have hc := fun q : Ext wr.heap.size wr => H2.out.cmp (p - c) c (by omega) (by omega) q.h
      by_cases hcs : c < s
      · have t2 := decide_eq_false (show ¬ rcmp (D (p - c)).l (D c).l < 0 from HF.out.low c (by omega) hcs)
        refine region_cut 14 wr.heap.size wr (Below.refl _ _) (by kernel_rfl) (by kernel_rfl) (by kernel_rfl) (by kernel_rfl) ?_
        simp only [List.append, List.take_succ_cons, List.take_zero, List.drop_succ_cons, List.drop_zero]
        repeat (go_big_quiet_step (fail))
        go_big_quiet_step ((go_at_call 16; exact calls_later (Nat.le_refl _) (hc _)))
        repeat (go_big_quiet_step (fail))
        refine wpQuiet_nil ?_
        rintro W4 ⟨x9, hx9⟩
        have hW := x9.h
        rw [← hx9] at hW
        clear hx9 x9 c1 c2 hc
        have H3 := Lib.hid (H2.out.later hW)
        clear H2 hW
        go_wp2_with fail
        go_roundw
        case rel => exact ⟨c + 1, j, by omega, by omega, by omega, by omega, by go_num, rfl, H3.out⟩
        case measure => simp [intOf]; omega
      · have t2 := decide_eq_true (show rcmp (D (p - c)).l (D c).l < 0 from HF.out.high c (by omega) (by omega))
        refine region_cut 14 wr.heap.size wr (Below.refl _ _) (by kernel_rfl) (by kernel_rfl) (by kernel_rfl) (by kernel_rfl) ?_
        simp only [List.append, List.take_succ_cons, List.take_zero, List.drop_succ_cons, List.drop_zero]
        repeat (go_big_quiet_step (fail))
        go_big_quiet_step ((go_at_call 16; exact calls_later (Nat.le_refl _) (hc _)))
        repeat (go_big_quiet_step (fail))
        refine wpQuiet_nil ?_
        rintro W4 ⟨x9, hx9⟩
        have hW := x9.h
        rw [← hx9] at hW
        clear hx9 x9 c1 c2 hc
        have H3 := Lib.hid (H2.out.later hW)
        clear H2 hW
        go_wp2_with fail
        go_roundw
        case rel => exact ⟨i, c, by omega, by omega, by omega, by omega, rfl, rfl, H3.out⟩
        case measure => simp [intOf]; omega
    · have hie : s = i := by omega
      have hje : s = j := by omega
      subst hie hje
      clear hlt hi hj his hjr HF
      have u0_ : decide (s < m) = true := decide_eq_true k0
      have u1_ : decide (m < f) = true := decide_eq_true k1
      have u2_ : decide (a < s) = false := decide_eq_false k2
      have u3_ : decide (s < mid) = true := decide_eq_true k3
      have u4_ : decide (mid < f) = true := decide_eq_true k4
      have u5_ : decide (f < b) = true := decide_eq_true k5
      go_wp2_with fail
      refine (rotate_any w0 g n cap s m f D _ H2.out hn (by omega) (by omega) (by omega)).mono ?_
      rintro e_ w5 ⟨rfl, h5⟩
      have H3 := Lib.hid h5
      clear h5 H2
      have HRS := Lib.hid (rotF_sw D s m f (by omega) (by omega))
      generalize rotF D s m f = R at *
      have H6 : Srt R a mid := by
        rcases (show s = a ∨ s = mid by omega) with e | e
        · have := Q2.out; rwa [e] at this
        · have := Q1.out; rwa [e] at this
      obtain ⟨E, hE⟩ : ∃ E, E = R := ⟨_, rfl⟩
      have H4 := Lib.hid (show SS w0 g n _ E by rw [hE]; exact H3.out)
      have HW := Lib.hid (show Sw a mid R E by rw [hE]; exact .refl)
      have HO := Lib.hid (show Srt E a mid by rw [hE]; exact H6)
      clear hE H6 H3
      go_wp2_with fail
      have Q3' := Lib.hid (Q3.out.congr (E := E) fun x h1 h2 => HW.out.out x (.inr h1))
      have Q4' := Lib.hid (Q4.out.congr (E := E) fun x h1 h2 => HW.out.out x (.inr (by omega)))
      refine (IH.out mid f b E _ (by omega) (by omega) hb (by omega) H4.out Q3'.out Q4'.out).mono ?_
      rintro e_ w7 ⟨rfl, T, h5, h6, h7⟩
      have HF := sym_end ⟨by omega, by omega⟩ Q5.out HW.out h6 HO.out h7
      have HT := Lib.hid h5
      have HS1 := Lib.hid HF.1
      have HS2 := Lib.hid ((HRS.out.mono (by omega) (by omega)).trans HF.2)
      clear h5 h6 h7 HF
      go_wp2_with fail
      exact bodyPost_ret (v := .tuple #[]) (by simp [results, Tryd.results53, go_sem]) rfl ⟨rfl, T, HT.out, HS2.out, HS1.out⟩

set_option maxHeartbeats 16000000 in
theorem sym_1_A00 (w0 : World) (g n cap a m b mid p s f s0 r0 : Nat) (D : Nat → RowS) (w : World) (h : SS w0 g n w D) (hn : n ≤ 1000) (ham : a + 1 < m) (hmb : m + 1 < b) (hb : b ≤ n) (hmid : mid = (a + b) / 2) (hp : p = mid + m - 1) (hf : f = mid + m - s) (hsd : s0 = mid + m - b) (hrd : r0 = mid) (hmm : mid < m)
    (hs0 : s0 ≤ s) (hr0 : s ≤ r0) (hF : Found D p s0 r0 s s) (q1 : Srt (rotF D s m f) a s) (q2 : Srt (rotF D s m f) s mid) (q3 : Srt (rotF D s m f) mid f) (q4 : Srt (rotF D s m f) f b) (q5 : ∀ x y, a ≤ x → x < mid → mid ≤ y → y < b → le (rotF D s m f x) (rotF D s m f y)) (k0 : s < m) (k1 : m < f) (k2 : ¬ (a < s)) (k3 : s < mid) (k4 : mid < f) (k5 : ¬ (f < b))
    (ih : ∀ a' m' b' E W, a' < m' → m' < b' → b' ≤ n → b' - a' < b - a → SS w0 g n W E → Srt E a' m' → Srt E m' b' → Calls Tryd.prog 53 #[.slice (some ⟨g, 0, none⟩) n cap, .int .i64 (a' : Nat), .int .i64 (m' : Nat), .int .i64 (b' : Nat), .func (.func 16) #[] #[]] W (mergePost w0 g n a' b' E)) :
    Calls Tryd.prog 53 #[.slice (some ⟨g, 0, none⟩) n cap, .int .i64 a, .int .i64 m, .int .i64 b, .func (.func 16) #[] #[]] w (mergePost w0 g n a b D) := by
  have HS := Lib.hid h
  have HF := Lib.hid hF
  have IH := Lib.hid ih
  have Q1 := Lib.hid q1
  have Q2 := Lib.hid q2
  have Q3 := Lib.hid q3
  have Q4 := Lib.hid q4
  have Q5 := Lib.hid q5
  have mixed : Tryd.prog.follows .mixedOrders = true := by kernel_rfl
  have t0 : ((m : Int) - (a : Int) == 1) = false := by simp; omega
  have t1 : ((b : Int) - (m : Int) == 1) = false := by simp; omega
  have zm : ((a : Int) + (b : Int)) / 2 = (mid : Int) := by omega
  have zp : (mid : Int) + (m : Int) - 1 = (p : Int) := by omega
  have bm : a < mid ∧ mid < b := by omega
  have bs : a ≤ s0 ∧ s0 ≤ r0 ∧ r0 ≤ m ∧ r0 ≤ mid ∧ mid + m ≤ s0 + b := by omega
  have bp : p + 1 = mid + m := by omega
  have bf : m ≤ f ∧ f ≤ b ∧ mid ≤ f := by omega
  have zf : (mid : Int) + (m : Int) - (s : Int) = (f : Int) := by omega
  have zs : (mid : Int) + (m : Int) - (b : Int) = (s0 : Int) := by omega
  have HSD := Lib.hid hsd
  have HRD := Lib.hid hrd
  clear h hF ih q1 q2 q3 q4 q5 hmid hp hf hsd hrd
  go_enter Tryd.func53, Tryd.ntmps53
  go_wp2_with fail
  clear t0 t1 zm zp zs
  go_loopw [20, 21] (fun sv rv wr => ∃ i j : Nat, s0 ≤ i ∧ i ≤ s ∧ s ≤ j ∧ j ≤ r0 ∧ sv = .int .i64 i ∧ rv = .int .i64 j ∧ SS w0 g n wr D) (fun sv rv _ => (intOf rv).toNat - (intOf sv).toNat)
  case atStart => exact ⟨s0, r0, by omega, by omega, by omega, by omega, by rfl, by rw [HRD.out], HS.out⟩
  case round =>
    clear HS
    obtain ⟨i, j, his, hi, hj, hjr, rfl, rfl, hs⟩ := hrel
    have H2 := Lib.hid hs
    clear hs
    by_cases hlt : i < j
    · go_upto_region 35 with fail
      obtain ⟨c, hcd⟩ : ∃ c : Nat, c = (i + j) / 2 := ⟨_, rfl⟩
      have zc : ((i : Int) + (j : Int)) / 2 = (c : Int) := by omega
      simp only [zc]
      have hcl : i ≤ c := by omega
      have hcr : c < j := by omega
      clear zc hcd
      have zpc : (p : Int) - (c : Int) = ((p - c : Nat) : Int) := by omega
      have c1 := fun q : Ext wr.heap.size wr => (H2.out.at_.later q.h).cell (p - c) (by omega)
      have c2 := fun q : Ext wr.heap.size wr => (H2.out.at_.later q.h).cell c (by omega)
      have hc := fun q : Ext wr.heap.size wr => H2.out.cmp (p - c) c (by omega) (by omega) q.h
      by_cases hcs : c < s
      · have t2 := decide_eq_false (show ¬ rcmp (D (p - c)).l (D c).l < 0 from HF.out.low c (by omega) hcs)
        refine region_cut 14 wr.heap.size wr (Below.refl _ _) (by kernel_rfl) (by kernel_rfl) (by kernel_rfl) (by kernel_rfl) ?_
        simp only [List.append, List.take_succ_cons, List.take_zero, List.drop_succ_cons, List.drop_zero]
        repeat (go_big_quiet_step (fail))
        go_big_quiet_step ((go_at_call 16; exact calls_later (Nat.le_refl _) (hc _)))
        repeat (go_big_quiet_step (fail))
        refine wpQuiet_nil ?_
        rintro W4 ⟨x9, hx9⟩
        have hW := x9.h
        rw [← hx9] at hW
        clear hx9 x9 c1 c2 hc
        have H3 := Lib.hid (H2.out.later hW)
        clear H2 hW
        go_wp2_with fail
        go_roundw
        case rel => exact ⟨c + 1, j, by omega, by omega, by omega, by omega, by go_num, rfl, H3.out⟩
        case measure => simp [intOf]; omega
      · have t2 := decide_eq_true (show rcmp (D (p - c)).l (D c).l < 0 from HF.out.high c (by omega) (by omega))
        refine region_cut 14 wr.heap.size wr (Below.refl _ _) (by kernel_rfl) (by kernel_rfl) (by kernel_rfl) (by kernel_rfl) ?_
        simp only [List.append, List.take_succ_cons, List.take_zero, List.drop_succ_cons, List.drop_zero]
        repeat (go_big_quiet_step (fail))
        go_big_quiet_step ((go_at_call 16; exact calls_later (Nat.le_refl _) (hc _)))
        repeat (go_big_quiet_step (fail))
        refine wpQuiet_nil ?_
        rintro W4 ⟨x9, hx9⟩
        have hW := x9.h
        rw [← hx9] at hW
        clear hx9 x9 c1 c2 hc
        have H3 := Lib.hid (H2.out.later hW)
        clear H2 hW
        go_wp2_with fail
        go_roundw
        case rel => exact ⟨i, c, by omega, by omega, by omega, by omega, rfl, rfl, H3.out⟩
        case measure => simp [intOf]; omega
    · have hie : s = i := by omega
      have hje : s = j := by omega
      subst hie hje
      clear hlt hi hj his hjr HF
      have u0_ : decide (s < m) = true := decide_eq_true k0
      have u1_ : decide (m < f) = true := decide_eq_true k1
      have u2_ : decide (a < s) = false := decide_eq_false k2
      have u3_ : decide (s < mid) = true := decide_eq_true k3
      have u4_ : decide (mid < f) = true := decide_eq_true k4
      have u5_ : decide (f < b) = false := decide_eq_false k5
      go_wp2_with fail
      refine (rotate_any w0 g n cap s m f D _ H2.out hn (by omega) (by omega) (by omega)).mono ?_
      rintro e_ w5 ⟨rfl, h5⟩
      have H3 := Lib.hid h5
      clear h5 H2
      have HRS := Lib.hid (rotF_sw D s m f (by omega) (by omega))
      generalize rotF D s m f = R at *
      have H6 : Srt R a mid := by
        rcases (show s = a ∨ s = mid by omega) with e | e
        · have := Q2.out; rwa [e] at this
        · have := Q1.out; rwa [e] at this
      obtain ⟨E, hE⟩ : ∃ E, E = R := ⟨_, rfl⟩
      have H4 := Lib.hid (show SS w0 g n _ E by rw [hE]; exact H3.out)
      have HW := Lib.hid (show Sw a mid R E by rw [hE]; exact .refl)
      have HO := Lib.hid (show Srt E a mid by rw [hE]; exact H6)
      clear hE H6 H3
      go_wp2_with fail
      have Q3' := Lib.hid (Q3.out.congr (E := E) fun x h1 h2 => HW.out.out x (.inr h1))
      have Q4' := Lib.hid (Q4.out.congr (E := E) fun x h1 h2 => HW.out.out x (.inr (by omega)))
      have H6 := Lib.hid (show Srt E mid b from by
        rcases (show f = mid ∨ f = b by omega) with e | e
        · have := Q4'.out; rwa [e] at this
        · have := Q3'.out; rwa [e] at this)
      have HF := sym_end ⟨by omega, by omega⟩ Q5.out HW.out .refl HO.out H6.out
      have HS1 := Lib.hid HF.1
      have HS2 := Lib.hid ((HRS.out.mono (by omega) (by omega)).trans HF.2)
      exact bodyPost_ret (v := .tuple #[]) (by simp [results, Tryd.results53, go_sem]) rfl ⟨rfl, E, H4.out, HS2.out, HS1.out⟩
end Go.Proofs.YtekedkbjnedhgaaDoor
