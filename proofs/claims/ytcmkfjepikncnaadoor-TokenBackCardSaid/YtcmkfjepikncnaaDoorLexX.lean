/- token: the next word. -/
import Derived.Test.YtcmkfjepikncnaaDoorLexG
namespace Go.Proofs.YtcmkfjepikncnaaDoor
open Go.ChangeShapes Go.WideShapes Go.ChangeAt Go.RowKit Go.Shelf
set_option linter.unusedVariables false
set_option linter.unusedSimpArgs false

theorem asks_is {f : FuncId} {p : UInt8 → Bool} (hf : Asks f p) {c : UInt8} {b : Bool} (h : p c = b) (W : World) : Calls Tryd.prog f #[.int .u8 (c.toNat : Int)] W fun e w' => e = .returned (.bool b) ∧ w' = W :=
  (hf.says c W).mono fun e w' ⟨he, hw⟩ => ⟨by rw [he, h], hw.symm⟩
def readsV : Array Value := #[.func (.func 24) #[] #[], .func (.func 33) #[] #[], .func (.func 23) #[] #[], .func (.func 34) #[] #[], .func (.func 35) #[] #[], .func (.func 36) #[] #[]]
structure NextW (s : ByteArray) (g at_ : Nat) (w wr : World) : Prop where
  at_ : At s g w at_ wr
  res : Blk wr w.heap.size 31 #[.int .u8 0, .string ⟨#[]⟩, .int .i64 0, .int .i64 0]
  rds : Blk wr (w.heap.size + 1) 54 readsV
theorem NextW.later {s : ByteArray} {g at_ : Nat} {w wr w' : World} (h : NextW s g at_ w wr) (hb : Below wr.heap.size wr w') : NextW s g at_ w w' := ⟨h.at_.later hb, h.res.later hb, h.rds.later hb⟩
def testOf : Nat → UInt8 → Bool
  | 0 => letterB
  | 1 => digitB
  | _ => fun c => c == 39
set_option maxHeartbeats 4000000 in
set_option maxRecDepth 100000 in
theorem next_any (B : Nat) (s : ByteArray) (g at_ : Nat) (w : World) (hE : Env B w) (hB : B ≤ g) (hL : Blk w g 38 (lexV s at_)) (ha : at_ < s.size) (hs : s.size ≤ 4294967280) :
    Calls Tryd.prog 18 #[.pointer (some ⟨g, 0, none⟩)] w (readP s g at_ w (oneL (s.data.toList.drop at_))) := by
  have hd := drop_at (byte_at s at_ ha)
  obtain ⟨c0, c1⟩ := lex_cells hL
  have hlt := hL.lt
  have hne : w.heap.size ≠ g := by omega
  rw [hd]
  have HD := Lib.hid hd
  clear hd
  generalize s.data.toList.drop (at_ + 1) = r at *
  generalize hR : oneL (s[at_] :: r) = R at *
  have HR := Lib.hid hR
  clear hR
  go_enter Tryd.func18, Tryd.ntmps18
  go_wp2_with fail
  have hN : NextW s g at_ w ((w.alloc (.cells #[.int .u8 0, .string ⟨#[]⟩, .int .i64 0, .int .i64 0] 31)).alloc (.cells readsV 54)) := by
    refine ⟨(At.refl hL).later (((Below.refl _ _).alloc (Nat.le_refl _) _).alloc (by simp) _), (Blk.new w _ _).alloc _, ?_⟩
    have := Blk.new (w.alloc (.cells #[.int .u8 0, .string ⟨#[]⟩, .int .i64 0, .int .i64 0] 31)) 54 readsV
    simpa using this
  unfold readsV at hN
  generalize (w.alloc (.cells #[.int .u8 0, .string ⟨#[]⟩, .int .i64 0, .int .i64 0] 31)).alloc (.cells _ 54) = W at *
  have HE := Lib.hid hE
  have HN0 := Lib.hid hN
  clear hN hE c0 c1
  go_loopw [11] (fun u wr => ∃ i : Nat, i ≤ 3 ∧ u = .int .i64 i ∧ NextW s g at_ w wr ∧ ∀ j, j < i → testOf j s[at_] = false) (fun u _ => 3 - (intOf u).toNat)
  case atStart => exact ⟨0, by omega, rfl, HN0.out, fun j h => by omega⟩
  case round =>
    obtain ⟨i, hi, rfl, hn, hbefore⟩ := hrel
    have HB := Lib.hid hbefore
    obtain ⟨c0, c1⟩ := lex_cells hn.at_.1
    have hlt2 := hn.at_.1.lt
    have HN := Lib.hid hn
    clear hbefore hn
    by_cases h3 : i < 3
    · rcases (show i = 0 ∨ i = 1 ∨ i = 2 by omega) with rfl | rfl | rfl
      · -- reading 0
        have d0 := HN.out.rds.cell 0
        have d1 := HN.out.rds.cell 1
        simp [readsV] at d0 d1
        cases hc : testOf 0 s[at_]
        · have HC := Lib.hid hc
          clear hc
          go_wp2_with fail
          go_quiet ((go_at_call 24; exact Calls.quiet_of_same (asks_is letter_asks HC.out _)))
          go_wp2_with fail
          go_roundw
          case rel =>
            refine ⟨1, by omega, by go_num, HN.out.later (((Below.refl _ _).alloc (Nat.le_refl _) _).trans ((drewN_below _ nq).mono (by simp))), ?_⟩
            intro j hj
            by_cases hjk : j = 0
            · rw [hjk]; exact HC.out
            · exact HB.out j (by omega)
          case measure => simp [intOf]
        · have HC := Lib.hid hc
          clear hc
          go_wp2_with fail
          go_quiet ((go_at_call 24; exact Calls.quiet_of_same (asks_is letter_asks HC.out _)))
          have HN2 := Lib.hid (HN.out.later (((Below.refl _ _).alloc (Nat.le_refl _) (.cells #[.func (.func 24) #[] #[], .func (.func 33) #[] #[]] 54)).trans ((drewN_below _ nq).mono (by simp))))
          go_wp2_with fail
          refine (word_any s g at_ _ HN2.out.at_.1 s[at_] r HD.out HC.out hs).mono ?_
          intro e w1 hp
          rw [HR.out] at hp
          rcases hres : R with x | ⟨d, rest⟩
          · rw [hres] at hp
            obtain ⟨rfl, hat⟩ := hp
            obtain ⟨z0, z1, z2, z3, y0, y1, y2, y3⟩ := four_facts (hat.other HN2.out.res hne)
            have HAT := Lib.hid hat
            have HRES := Lib.hid hres
            clear hres hat
            go_wp2_with fail
            refine bodyPost_ret (v := .tuple #[.agg #[.int .u8 0, .string ⟨#[]⟩, .int .i64 0, .int .i64 0], .int .i64 x]) ?_ rfl ?_
            · simp [results, Tryd.results18, go_sem, z0, z1, z2, z3]
            · rw [HRES.out]
              exact ⟨rfl, (((HN2.out.at_.trans HAT.out).far (Nat.le_refl _) hne 0 _).far (Nat.le_refl _) hne 1 _ |>.far (Nat.le_refl _) hne 2 _ |>.far (Nat.le_refl _) hne 3 _)⟩
          · rw [hres] at hp
            obtain ⟨rfl, hat⟩ := hp
            obtain ⟨z0, z1, z2, z3, y0, y1, y2, y3⟩ := four_facts (hat.other HN2.out.res hne)
            have HAT := Lib.hid hat
            have HRES := Lib.hid hres
            clear hres hat
            go_wp2_with fail
            refine bodyPost_ret (v := .tuple #[.agg #[.int .u8 d.k, .string ⟨d.s.toArray⟩, .int .i64 d.n, .int .i64 at_], .int .i64 0]) ?_ rfl ?_
            · simp [results, Tryd.results18, go_sem, z0, z1, z2, z3]
            · rw [HRES.out]
              exact ⟨rfl, (((HN2.out.at_.trans HAT.out).far (Nat.le_refl _) hne 0 _).far (Nat.le_refl _) hne 1 _ |>.far (Nat.le_refl _) hne 2 _ |>.far (Nat.le_refl _) hne 3 _)⟩
      · -- reading 1
        have d0 := HN.out.rds.cell 2
        have d1 := HN.out.rds.cell 3
        simp [readsV] at d0 d1
        cases hc : testOf 1 s[at_]
        · have HC := Lib.hid hc
          clear hc
          go_wp2_with fail
          go_quiet ((go_at_call 23; exact Calls.quiet_of_same (asks_is digit_asks HC.out _)))
          go_wp2_with fail
          go_roundw
          case rel =>
            refine ⟨2, by omega, by go_num, HN.out.later (((Below.refl _ _).alloc (Nat.le_refl _) _).trans ((drewN_below _ nq).mono (by simp))), ?_⟩
            intro j hj
            by_cases hjk : j = 1
            · rw [hjk]; exact HC.out
            · exact HB.out j (by omega)
          case measure => simp [intOf]
        · have HC := Lib.hid hc
          clear hc
          go_wp2_with fail
          go_quiet ((go_at_call 23; exact Calls.quiet_of_same (asks_is digit_asks HC.out _)))
          have HN2 := Lib.hid (HN.out.later (((Below.refl _ _).alloc (Nat.le_refl _) (.cells #[.func (.func 23) #[] #[], .func (.func 34) #[] #[]] 54)).trans ((drewN_below _ nq).mono (by simp))))
          go_wp2_with fail
          refine (number_any B s g at_ _ (HE.out.at_ HN2.out.at_ hB) hB HN2.out.at_.1 s[at_] r HD.out HC.out (HB.out 0 (by omega)) hs).mono ?_
          intro e w1 hp
          rw [HR.out] at hp
          rcases hres : R with x | ⟨d, rest⟩
          · rw [hres] at hp
            obtain ⟨rfl, hat⟩ := hp
            obtain ⟨z0, z1, z2, z3, y0, y1, y2, y3⟩ := four_facts (hat.other HN2.out.res hne)
            have HAT := Lib.hid hat
            have HRES := Lib.hid hres
            clear hres hat
            go_wp2_with fail
            refine bodyPost_ret (v := .tuple #[.agg #[.int .u8 0, .string ⟨#[]⟩, .int .i64 0, .int .i64 0], .int .i64 x]) ?_ rfl ?_
            · simp [results, Tryd.results18, go_sem, z0, z1, z2, z3]
            · rw [HRES.out]
              exact ⟨rfl, (((HN2.out.at_.trans HAT.out).far (Nat.le_refl _) hne 0 _).far (Nat.le_refl _) hne 1 _ |>.far (Nat.le_refl _) hne 2 _ |>.far (Nat.le_refl _) hne 3 _)⟩
          · rw [hres] at hp
            obtain ⟨rfl, hat⟩ := hp
            obtain ⟨z0, z1, z2, z3, y0, y1, y2, y3⟩ := four_facts (hat.other HN2.out.res hne)
            have HAT := Lib.hid hat
            have HRES := Lib.hid hres
            clear hres hat
            go_wp2_with fail
            refine bodyPost_ret (v := .tuple #[.agg #[.int .u8 d.k, .string ⟨d.s.toArray⟩, .int .i64 d.n, .int .i64 at_], .int .i64 0]) ?_ rfl ?_
            · simp [results, Tryd.results18, go_sem, z0, z1, z2, z3]
            · rw [HRES.out]
              exact ⟨rfl, (((HN2.out.at_.trans HAT.out).far (Nat.le_refl _) hne 0 _).far (Nat.le_refl _) hne 1 _ |>.far (Nat.le_refl _) hne 2 _ |>.far (Nat.le_refl _) hne 3 _)⟩
      · -- reading 2
        have d0 := HN.out.rds.cell 4
        have d1 := HN.out.rds.cell 5
        simp [readsV] at d0 d1
        cases hc : testOf 2 s[at_]
        · have HC := Lib.hid hc
          clear hc
          go_wp2_with fail
          go_quiet ((go_at_call 35; exact Calls.quiet_of_same (asks_is quote_asks HC.out _)))
          go_wp2_with fail
          go_roundw
          case rel =>
            refine ⟨3, by omega, by go_num, HN.out.later (((Below.refl _ _).alloc (Nat.le_refl _) _).trans ((drewN_below _ nq).mono (by simp))), ?_⟩
            intro j hj
            by_cases hjk : j = 2
            · rw [hjk]; exact HC.out
            · exact HB.out j (by omega)
          case measure => simp [intOf]
        · have HC := Lib.hid hc
          clear hc
          go_wp2_with fail
          go_quiet ((go_at_call 35; exact Calls.quiet_of_same (asks_is quote_asks HC.out _)))
          have HN2 := Lib.hid (HN.out.later (((Below.refl _ _).alloc (Nat.le_refl _) (.cells #[.func (.func 35) #[] #[], .func (.func 36) #[] #[]] 54)).trans ((drewN_below _ nq).mono (by simp))))
          go_wp2_with fail
          refine (text_any s g at_ _ HN2.out.at_.1 r (by rw [HD.out]; exact congrArg (· :: r) (by simpa [testOf] using HC.out)) hs).mono ?_
          intro e w1 hp
          rw [← (show s[at_] = 39 by simpa [testOf] using HC.out), HR.out] at hp
          rcases hres : R with x | ⟨d, rest⟩
          · rw [hres] at hp
            obtain ⟨rfl, hat⟩ := hp
            obtain ⟨z0, z1, z2, z3, y0, y1, y2, y3⟩ := four_facts (hat.other HN2.out.res hne)
            have HAT := Lib.hid hat
            have HRES := Lib.hid hres
            clear hres hat
            go_wp2_with fail
            refine bodyPost_ret (v := .tuple #[.agg #[.int .u8 0, .string ⟨#[]⟩, .int .i64 0, .int .i64 0], .int .i64 x]) ?_ rfl ?_
            · simp [results, Tryd.results18, go_sem, z0, z1, z2, z3]
            · rw [HRES.out]
              exact ⟨rfl, (((HN2.out.at_.trans HAT.out).far (Nat.le_refl _) hne 0 _).far (Nat.le_refl _) hne 1 _ |>.far (Nat.le_refl _) hne 2 _ |>.far (Nat.le_refl _) hne 3 _)⟩
          · rw [hres] at hp
            obtain ⟨rfl, hat⟩ := hp
            obtain ⟨z0, z1, z2, z3, y0, y1, y2, y3⟩ := four_facts (hat.other HN2.out.res hne)
            have HAT := Lib.hid hat
            have HRES := Lib.hid hres
            clear hres hat
            go_wp2_with fail
            refine bodyPost_ret (v := .tuple #[.agg #[.int .u8 d.k, .string ⟨d.s.toArray⟩, .int .i64 d.n, .int .i64 at_], .int .i64 0]) ?_ rfl ?_
            · simp [results, Tryd.results18, go_sem, z0, z1, z2, z3]
            · rw [HRES.out]
              exact ⟨rfl, (((HN2.out.at_.trans HAT.out).far (Nat.le_refl _) hne 0 _).far (Nat.le_refl _) hne 1 _ |>.far (Nat.le_refl _) hne 2 _ |>.far (Nat.le_refl _) hne 3 _)⟩
    · obtain rfl : i = 3 := by omega
      go_wp2_with fail
      refine (sign_any B s g at_ _ (HE.out.at_ HN.out.at_ hB) hB HN.out.at_.1 s[at_] r HD.out (HB.out 0 (by omega)) (HB.out 1 (by omega)) (by simpa [testOf] using HB.out 2 (by omega)) hs).mono ?_
      intro e w1 hp
      rw [HR.out] at hp
      have HN2 := HN
      rcases hres : R with x | ⟨d, rest⟩
      · rw [hres] at hp
        obtain ⟨rfl, hat⟩ := hp
        obtain ⟨z0, z1, z2, z3, y0, y1, y2, y3⟩ := four_facts (hat.other HN2.out.res hne)
        have HAT := Lib.hid hat
        have HRES := Lib.hid hres
        clear hres hat
        go_wp2_with fail
        refine bodyPost_ret (v := .tuple #[.agg #[.int .u8 0, .string ⟨#[]⟩, .int .i64 0, .int .i64 0], .int .i64 x]) ?_ rfl ?_
        · simp [results, Tryd.results18, go_sem, z0, z1, z2, z3]
        · rw [HRES.out]
          exact ⟨rfl, (((HN2.out.at_.trans HAT.out).far (Nat.le_refl _) hne 0 _).far (Nat.le_refl _) hne 1 _ |>.far (Nat.le_refl _) hne 2 _ |>.far (Nat.le_refl _) hne 3 _)⟩
      · rw [hres] at hp
        obtain ⟨rfl, hat⟩ := hp
        obtain ⟨z0, z1, z2, z3, y0, y1, y2, y3⟩ := four_facts (hat.other HN2.out.res hne)
        have HAT := Lib.hid hat
        have HRES := Lib.hid hres
        clear hres hat
        go_wp2_with fail
        refine bodyPost_ret (v := .tuple #[.agg #[.int .u8 d.k, .string ⟨d.s.toArray⟩, .int .i64 d.n, .int .i64 at_], .int .i64 0]) ?_ rfl ?_
        · simp [results, Tryd.results18, go_sem, z0, z1, z2, z3]
        · rw [HRES.out]
          exact ⟨rfl, (((HN2.out.at_.trans HAT.out).far (Nat.le_refl _) hne 0 _).far (Nat.le_refl _) hne 1 _ |>.far (Nat.le_refl _) hne 2 _ |>.far (Nat.le_refl _) hne 3 _)⟩
end Go.Proofs.YtcmkfjepikncnaaDoor
