/- slices.symMergeCmpFunc at rows. Printed by gen_sym.py. -/
import Derived.Test.YtekedkbjnedhgaaDoorSortI
namespace Go.Proofs.YtekedkbjnedhgaaDoor
open Go.ChangeShapes Go.WideShapes Go.ChangeAt Go.RowKit
set_option linter.unusedVariables false
set_option linter.unusedSimpArgs false
set_option maxRecDepth 100000

set_option maxHeartbeats 8000000 in
theorem sym_one (w0 : World) (g n cap a b : Nat) (D : Nat → RowS) (w : World) (h : SS w0 g n w D) (hn : n ≤ 1000) (hab : a + 1 < b) (hb : b ≤ n) (ho : Srt D (a + 1) b) :
    Calls Tryd.prog 53 #[.slice (some ⟨g, 0, none⟩) n cap, .int .i64 a, .int .i64 (a + 1), .int .i64 b, .func (.func 16) #[] #[]] w (mergePost w0 g n a b D) := by
  have HS := Lib.hid h
  have HO := Lib.hid ho
  have mixed : Tryd.prog.follows .mixedOrders = true := by kernel_rfl
  clear h ho
  have t1 : ((a : Int) + 1 - (a : Int) == 1) = true := by simp; omega
  go_enter Tryd.func53, Tryd.ntmps53
  go_wp2_with fail
  clear t1
  go_loopw [10, 11] (fun iv jv wr => ∃ i j : Nat, a + 1 ≤ i ∧ i ≤ j ∧ j ≤ b ∧ iv = .int .i64 i ∧ jv = .int .i64 j ∧ SS w0 g n wr D ∧ (∀ h, a + 1 ≤ h → h < i → lt (D h) (D a)) ∧ ∀ h, j ≤ h → h < b → ¬ lt (D h) (D a)) (fun iv jv _ => (intOf jv).toNat - (intOf iv).toNat)
  case atStart => exact ⟨a + 1, b, by omega, by omega, by omega, by go_num, rfl, HS.out, fun h h1 h2 => by omega, fun h h1 h2 => by omega⟩
  case round =>
    clear HS
    obtain ⟨i, j, hi, hij, hj, rfl, rfl, hs, hl, hh⟩ := hrel
    have H2 := Lib.hid hs
    have HL := Lib.hid hl
    have HH := Lib.hid hh
    clear hs hl hh
    by_cases hlt : i < j
    · go_upto_region 5 with fail
      obtain ⟨c, hcd⟩ : ∃ c : Nat, c = (i + j) / 2 := ⟨_, rfl⟩
      have zc : ((i : Int) + (j : Int)) / 2 = (c : Int) := by omega
      simp only [zc]
      have hcl : i ≤ c := by omega
      have hcr : c < j := by omega
      clear zc hcd
      have c1 := fun q : Ext wr.heap.size wr => (H2.out.at_.later q.h).cell (c) (by omega)
      have c2 := fun q : Ext wr.heap.size wr => (H2.out.at_.later q.h).cell (a) (by omega)
      have hc := fun q : Ext wr.heap.size wr => H2.out.cmp (c) (a) (by omega) (by omega) q.h
      by_cases hl : rcmp (D (c)).l (D (a)).l < 0
      · have t2 := decide_eq_true hl
        have HX := Lib.hid (show lt (D (c)) (D (a)) from hl)
        clear hl
        refine region_cut 11 wr.heap.size wr (Below.refl _ _) (by kernel_rfl) (by kernel_rfl) (by kernel_rfl) (by kernel_rfl) ?_
        simp only [List.append, List.take_succ_cons, List.take_zero, List.drop_succ_cons, List.drop_zero]
        repeat (go_big_quiet_step (fail))
        go_big_quiet_step ((go_at_call 16; exact calls_later (Nat.le_refl _) (hc _)))
        repeat (go_big_quiet_step (fail))
        refine wpQuiet_nil ?_
        rintro W4 ⟨x9, hx9⟩
        have hW := x9.h
        rw [← hx9] at hW
        clear hx9 x9 c1 c2 hc
        have H3 := Lib.hid (H2.out.later hW)
        clear H2 hW
        have HL2 := Lib.hid (show ∀ h, a + 1 ≤ h → h < c + 1 → lt (D h) (D a) from fun h h1 h2 => lt_of_le_lt (HO.out.le h1 (show h ≤ c by omega) (by omega)) HX.out)
        clear HL HX
        go_wp2_with fail
        go_roundw
        case rel => exact ⟨c + 1, j, by omega, by omega, by omega, by go_num, rfl, H3.out, HL2.out, HH.out⟩
        case measure => simp [intOf]; omega
      · have t2 := decide_eq_false hl
        have HX := Lib.hid (show ¬ lt (D (c)) (D (a)) from hl)
        clear hl
        refine region_cut 11 wr.heap.size wr (Below.refl _ _) (by kernel_rfl) (by kernel_rfl) (by kernel_rfl) (by kernel_rfl) ?_
        simp only [List.append, List.take_succ_cons, List.take_zero, List.drop_succ_cons, List.drop_zero]
        repeat (go_big_quiet_step (fail))
        go_big_quiet_step ((go_at_call 16; exact calls_later (Nat.le_refl _) (hc _)))
        repeat (go_big_quiet_step (fail))
        refine wpQuiet_nil ?_
        rintro W4 ⟨x9, hx9⟩
        have hW := x9.h
        rw [← hx9] at hW
        clear hx9 x9 c1 c2 hc
        have H3 := Lib.hid (H2.out.later hW)
        clear H2 hW
        have HH2 := Lib.hid (show ∀ h, c ≤ h → h < b → ¬ lt (D h) (D a) from fun h h1 h2 => not_lt.2 (le_trans (not_lt.1 HX.out) (HO.out.le (by omega) h1 h2)))
        clear HH HX
        go_wp2_with fail
        go_roundw
        case rel => exact ⟨i, c, by omega, by omega, by omega, rfl, rfl, H3.out, HL.out, HH2.out⟩
        case measure => simp [intOf]; omega
    · have hije : j = i := by omega
      subst hije
      have HF := Lib.hid (mvUp_srt HO.out hi hj HL.out HH.out)
      have HW := Lib.hid ((mvUp_sw D a (j - 1 - a)).mono (Nat.le_refl _) (show a + (j - 1 - a) + 1 ≤ b by omega))
      rw [show a + (j - 1 - a) = j - 1 by omega] at HW
      clear HL HH HO hlt hij
      have zj : (j : Int) - 1 = ((j - 1 : Nat) : Int) := by omega
      go_wp2_with fail
      go_loopw [13] (fun kv wr2 => ∃ k : Nat, a ≤ k ∧ k ≤ j - 1 ∧ kv = .int .i64 k ∧ SS w0 g n wr2 (mvUp D a k)) (fun kv _ => j - (intOf kv).toNat)
      case atStart => exact ⟨a, Nat.le_refl _, by omega, rfl, by rw [mvUp_zero]; exact H2.out⟩
      case round =>
        clear H2
        obtain ⟨k, hk0, hk, rfl, hs⟩ := hrel
        have H2 := Lib.hid hs
        clear hs
        by_cases hlt : k < j - 1
        · have t2 : decide ((k : Int) < ((j - 1 : Nat) : Int)) = true := decide_eq_true (by omega)
          have c1 := H2.out.at_.cell (k) (by omega)
          have c2 := H2.out.at_.cell (k + 1) (by omega)
          have f1 := H2.out.at_.frozen (k)
          have f2 := H2.out.at_.frozen (k + 1)
          obtain ⟨u, c3⟩ := H2.out.second (k) (k + 1) (by omega) (by omega) (mvUp D a k (k + 1)).v
          have S3 := Lib.hid (H2.out.swap (k) (k + 1) (by omega) (by omega))
          unfold RowS.v at c3 S3
          go_upto_region 11 with fail
          go_big_region_o
          clear c1 c2 c3 f1 f2
          rw [mvUp_step D a k hk0] at S3
          generalize hW3 : World.drew _ = W3 at S3 ⊢
          clear hW3
          go_wp2_with fail
          go_roundw
          case rel => exact ⟨k + 1, by omega, by omega, by go_num, S3.out⟩
          case measure => first | (simp [intOf]; done) | (simp [intOf]; omega)
        · have t2 : decide ((k : Int) < ((j - 1 : Nat) : Int)) = false := decide_eq_false (by omega)
          have hke : k = j - 1 := by omega
          subst hke
          go_wp2_with fail
          exact bodyPost_ret (v := .tuple #[]) (by simp [results, Tryd.results53, go_sem]) rfl ⟨rfl, _, H2.out, HW.out, HF.out⟩

set_option maxHeartbeats 8000000 in
theorem sym_two (w0 : World) (g n cap a m : Nat) (D : Nat → RowS) (w : World) (h : SS w0 g n w D) (hn : n ≤ 1000) (hab : a + 1 < m) (hb : m + 1 ≤ n) (ho : Srt D a m) :
    Calls Tryd.prog 53 #[.slice (some ⟨g, 0, none⟩) n cap, .int .i64 a, .int .i64 m, .int .i64 (m + 1), .func (.func 16) #[] #[]] w (mergePost w0 g n a (m + 1) D) := by
  have HS := Lib.hid h
  have HO := Lib.hid ho
  have mixed : Tryd.prog.follows .mixedOrders = true := by kernel_rfl
  clear h ho
  have t0 : ((m : Int) - (a : Int) == 1) = false := by simp; omega
  have t1 : ((m : Int) + 1 - (m : Int) == 1) = true := by simp; omega
  go_enter Tryd.func53, Tryd.ntmps53
  go_wp2_with fail
  clear t0 t1
  go_loopw [14, 15] (fun iv jv wr => ∃ i j : Nat, a ≤ i ∧ i ≤ j ∧ j ≤ m ∧ iv = .int .i64 i ∧ jv = .int .i64 j ∧ SS w0 g n wr D ∧ (∀ h, a ≤ h → h < i → ¬ lt (D m) (D h)) ∧ ∀ h, j ≤ h → h < m → lt (D m) (D h)) (fun iv jv _ => (intOf jv).toNat - (intOf iv).toNat)
  case atStart => exact ⟨a, m, by omega, by omega, by omega, rfl, rfl, HS.out, fun h h1 h2 => by omega, fun h h1 h2 => by omega⟩
  case round =>
    clear HS
    obtain ⟨i, j, hi, hij, hj, rfl, rfl, hs, hl, hh⟩ := hrel
    have H2 := Lib.hid hs
    have HL := Lib.hid hl
    have HH := Lib.hid hh
    clear hs hl hh
    by_cases hlt : i < j
    · go_upto_region 17 with fail
      obtain ⟨c, hcd⟩ : ∃ c : Nat, c = (i + j) / 2 := ⟨_, rfl⟩
      have zc : ((i : Int) + (j : Int)) / 2 = (c : Int) := by omega
      simp only [zc]
      have hcl : i ≤ c := by omega
      have hcr : c < j := by omega
      clear zc hcd
      have c1 := fun q : Ext wr.heap.size wr => (H2.out.at_.later q.h).cell (m) (by omega)
      have c2 := fun q : Ext wr.heap.size wr => (H2.out.at_.later q.h).cell (c) (by omega)
      have hc := fun q : Ext wr.heap.size wr => H2.out.cmp (m) (c) (by omega) (by omega) q.h
      by_cases hl : rcmp (D (m)).l (D (c)).l < 0
      · have t2 := decide_eq_true hl
        have HX := Lib.hid (show lt (D (m)) (D (c)) from hl)
        clear hl
        refine region_cut 12 wr.heap.size wr (Below.refl _ _) (by kernel_rfl) (by kernel_rfl) (by kernel_rfl) (by kernel_rfl) ?_
        simp only [List.append, List.take_succ_cons, List.take_zero, List.drop_succ_cons, List.drop_zero]
        repeat (go_big_quiet_step (fail))
        go_big_quiet_step ((go_at_call 16; exact calls_later (Nat.le_refl _) (hc _)))
        repeat (go_big_quiet_step (fail))
        refine wpQuiet_nil ?_
        rintro W4 ⟨x9, hx9⟩
        have hW := x9.h
        rw [← hx9] at hW
        clear hx9 x9 c1 c2 hc
        have H3 := Lib.hid (H2.out.later hW)
        clear H2 hW
        have HH2 := Lib.hid (show ∀ h, c ≤ h → h < m → lt (D m) (D h) from fun h h1 h2 => lt_of_lt_le HX.out (HO.out.le (by omega) h1 h2))
        clear HH HX
        go_wp2_with fail
        go_roundw
        case rel => exact ⟨i, c, by omega, by omega, by omega, rfl, rfl, H3.out, HL.out, HH2.out⟩
        case measure => simp [intOf]; omega
      · have t2 := decide_eq_false hl
        have HX := Lib.hid (show ¬ lt (D (m)) (D (c)) from hl)
        clear hl
        refine region_cut 12 wr.heap.size wr (Below.refl _ _) (by kernel_rfl) (by kernel_rfl) (by kernel_rfl) (by kernel_rfl) ?_
        simp only [List.append, List.take_succ_cons, List.take_zero, List.drop_succ_cons, List.drop_zero]
        repeat (go_big_quiet_step (fail))
        go_big_quiet_step ((go_at_call 16; exact calls_later (Nat.le_refl _) (hc _)))
        repeat (go_big_quiet_step (fail))
        refine wpQuiet_nil ?_
        rintro W4 ⟨x9, hx9⟩
        have hW := x9.h
        rw [← hx9] at hW
        clear hx9 x9 c1 c2 hc
        have H3 := Lib.hid (H2.out.later hW)
        clear H2 hW
        have HL2 := Lib.hid (show ∀ h, a ≤ h → h < c + 1 → ¬ lt (D m) (D h) from fun h h1 h2 => not_lt.2 (le_trans (HO.out.le h1 (show h ≤ c by omega) (by omega)) (not_lt.1 HX.out)))
        clear HL HX
        go_wp2_with fail
        go_roundw
        case rel => exact ⟨c + 1, j, by omega, by omega, by omega, by go_num, rfl, H3.out, HL2.out, HH.out⟩
        case measure => simp [intOf]; omega
    · have hije : j = i := by omega
      subst hije
      have HF := Lib.hid (mvDn_srt HO.out hi hj HL.out HH.out)
      have HW := Lib.hid ((mvDn_sw D m (m - j) (by omega)).mono (show a ≤ m - (m - j) by omega) (Nat.le_refl _))
      rw [show m - (m - j) = j by omega] at HW
      clear HL HH HO hlt hij
      go_wp2_with fail
      go_loopw [17] (fun kv wr2 => ∃ k : Nat, j ≤ k ∧ k ≤ m ∧ kv = .int .i64 k ∧ SS w0 g n wr2 (mvDn D k m)) (fun kv _ => (intOf kv).toNat)
      case atStart => exact ⟨m, by omega, by omega, rfl, by rw [mvDn_zero]; exact H2.out⟩
      case round =>
        clear H2
        obtain ⟨k, hk0, hk, rfl, hs⟩ := hrel
        have H2 := Lib.hid hs
        clear hs
        by_cases hlt : j < k
        · obtain ⟨kp, rfl⟩ : ∃ q, k = q + 1 := ⟨k - 1, by omega⟩
          have t2 : decide ((j : Int) < (kp : Int) + 1) = true := decide_eq_true (by omega)
          have t2' : decide ((j : Int) < ((kp + 1 : Nat) : Int)) = true := decide_eq_true (by omega)
          have c1 := H2.out.at_.cell (kp + 1) (by omega)
          have c2 := H2.out.at_.cell (kp) (by omega)
          have f1 := H2.out.at_.frozen (kp + 1)
          have f2 := H2.out.at_.frozen (kp)
          obtain ⟨u, c3⟩ := H2.out.second (kp + 1) (kp) (by omega) (by omega) (mvDn D (kp + 1) m (kp)).v
          have S3 := Lib.hid (H2.out.swap (kp + 1) (kp) (by omega) (by omega))
          unfold RowS.v at c3 S3
          go_upto_region 23 with fail
          go_big_region_o
          clear c1 c2 c3 f1 f2
          have e9 := mvDn_step D (kp + 1) m (by omega) hk
          rw [show kp + 1 - 1 = kp by omega] at e9
          rw [e9] at S3
          generalize hW3 : World.drew _ = W3 at S3 ⊢
          clear hW3
          go_wp2_with fail
          go_roundw
          case rel => exact ⟨kp, by omega, by omega, by go_num, S3.out⟩
          case measure => first | (simp [intOf]; done) | (simp [intOf]; omega)
        · have t2 : decide ((j : Int) < (k : Int)) = false := decide_eq_false (by omega)
          have hke : k = j := by omega
          subst hke
          go_wp2_with fail
          exact bodyPost_ret (v := .tuple #[]) (by simp [results, Tryd.results53, go_sem]) rfl ⟨rfl, _, H2.out, HW.out, HF.out⟩
end Go.Proofs.YtekedkbjnedhgaaDoor
