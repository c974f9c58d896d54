/- token: Lex. -/
import Derived.Test.YtcmkfjepikncnaaDoorLexX
namespace Go.Proofs.YtcmkfjepikncnaaDoor
open Go.ChangeShapes Go.WideShapes Go.ChangeAt Go.RowKit Go.Shelf
set_option linter.unusedVariables false
set_option linter.unusedSimpArgs false

def LX (n : Nat) (r : List UInt8) : Except (Nat × Nat) (List Tok) := lexF n (n + 1) r
def pre (acc : List Tok) : Except (Nat × Nat) (List Tok) → Except (Nat × Nat) (List Tok)
  | .error e => .error e
  | .ok l => .ok (acc ++ l)
def endT (n : Nat) : Tok := ⟨⟨0, [], 0⟩, n⟩
theorem skip_idem (b : Bool) (r : List UInt8) : skipL false (skipL b r) = skipL b r := by
  induction r generalizing b with
  | nil => cases b <;> rfl
  | cons d r ih =>
    cases b with
    | true =>
      simp only [skipL]
      split
      · exact ih false
      · exact ih true
    | false =>
      by_cases h1 : blankB d = true
      · simp only [skipL, if_pos h1]; exact ih false
      · by_cases h2 : d = 45 ∧ r.head? = some 45
        · simp only [skipL, if_neg h1, if_pos h2]; exact ih true
        · have : skipL false (d :: r) = d :: r := by simp only [skipL, if_neg h1, if_neg h2]
          rw [this, this]
theorem LX_skip (n : Nat) (r : List UInt8) : LX n (skipL false r) = LX n r := by
  unfold LX
  simp only [lexF]
  have := skip_idem false r
  rw [this]
theorem LX_nil {n : Nat} {r : List UInt8} (h : skipL false r = []) : LX n r = .ok [endT n] := by
  unfold LX
  simp only [lexF, h]; rfl
theorem LX_err {n : Nat} {r r' : List UInt8} {c : UInt8} {e : Nat} (h : skipL false r = c :: r') (ho : oneL (c :: r') = .error e) : LX n r = .error (n - (c :: r').length, e) := by
  unfold LX
  simp only [lexF, h, ho]
theorem LX_ok {n : Nat} {r r' rest : List UInt8} {c : UInt8} {w : Wd} (hr : r.length ≤ n) (h : skipL false r = c :: r') (ho : oneL (c :: r') = .ok (w, rest)) : LX n r = pre [⟨w, n - (c :: r').length⟩] (LX n rest) := by
  have h1 := oneL_lt ho
  have h2 := skipL_le false r
  rw [h] at h2
  unfold LX
  conv => lhs; unfold lexF
  simp only [h, ho]
  rw [lexF_fuel n n (n + 1) rest (by omega) (by omega)]
  cases lexF n (n + 1) rest <;> rfl
theorem pre_pre (a b : List Tok) (x : Except (Nat × Nat) (List Tok)) : pre a (pre b x) = pre (a ++ b) x := by cases x <;> simp [pre]
theorem pre_nil (x : Except (Nat × Nat) (List Tok)) : pre [] x = x := by cases x <;> rfl
theorem oneL_err {r : List UInt8} {x : Nat} (h : oneL r = .error x) : x = 2 ∨ x = 30 := by
  cases r with
  | nil => simp [oneL] at h; exact .inr h.symm
  | cons c r =>
    simp only [oneL] at h
    split at h
    · split at h
      · cases h
      · injection h with h; exact .inl h.symm
    · split at h
      · split at h
        · cases h
        · injection h with h; exact .inr h.symm
      · split at h
        · split at h
          · cases h
          · injection h with h; exact .inr h.symm
        · split at h
          · cases h
          · injection h with h; exact .inr h.symm
theorem oneL_suffix {r rest : List UInt8} {w : Wd} (h : oneL r = .ok (w, rest)) : rest <:+ r := by
  obtain ⟨b, hb, _⟩ := oneL_split h
  exact ⟨b, hb.symm⟩

def tokC (t : Tok) : List Value := [.int .u8 t.w.k, .string ⟨t.w.s.toArray⟩, .int .i64 t.w.n, .int .i64 t.p]
theorem tok_info : (Tryd.prog.info? 31).map (fun i => (i.zero, i.size, i.bytes)) = some (some (.agg #[.int .u8 0, .string ⟨#[]⟩, .int .i64 0, .int .i64 0]), 4, 40) := by kernel_rfl
def TokS (w : World) (base : Nat) (v : Value) (l : List Tok) : Prop := OwnF tokC 31 4 w base v l
/-- what Lex answers -/
def lexPost (s : ByteArray) (w : World) (e : Ending) (w' : World) : Prop :=
  match lexL s.data.toList with
  | .error (p, x) => e = .returned (.tuple #[.slice none 0 0, .int .i64 p, .int .i64 x]) ∧ Below w.heap.size w w'
  | .ok l => ∃ v, e = .returned (.tuple #[v, .int .i64 0, .int .i64 0]) ∧ TokS w' w.heap.size v l ∧ Below w.heap.size w w'
theorem lexL_big {s : ByteArray} (h : 4096 < s.size) : lexL s.data.toList = .error (0, 2) := by
  unfold lexL
  rw [if_pos (by simpa using h)]
theorem lexL_LX {s : ByteArray} (h : ¬ 4096 < s.size) : lexL s.data.toList = LX s.size s.data.toList := by
  unfold lexL LX
  have : s.data.toList.length = s.size := by simp
  rw [this, if_neg h]
structure LexAt (s : ByteArray) (g : Nat) (w : World) (a : Nat) (v : Value) (acc : List Tok) (wr : World) : Prop where
  at_ : Blk wr g 38 (lexV s a)
  bel : Below w.heap.size w wr
  own : TokS wr w.heap.size v acc
  le : a ≤ s.size
  len : acc.length ≤ a
  skip : skipL false (s.data.toList.drop a) = s.data.toList.drop a
  more : LX s.size s.data.toList = pre acc (LX s.size (s.data.toList.drop a))
set_option maxHeartbeats 4000000 in
set_option maxRecDepth 100000 in
theorem lex_any (s : ByteArray) (w : World) (hE : LexEnv w) (hs : s.size ≤ 4294967280) : Calls Tryd.prog 9 #[.string s] w (lexPost s w) := by
  by_cases hbig : 4096 < s.size
  · unfold lexPost
    rw [lexL_big hbig]
    go_enter Tryd.func9, Tryd.ntmps9
    go_wp2_with fail
    go_ret3
    exact ⟨rfl, Below.refl _ _⟩
  · have HPO := Lib.hid (lexL_LX hbig)
    have HLEN := Lib.hid (show s.data.toList.length = s.size by simp)
    go_enter Tryd.func9, Tryd.ntmps9
    go_wp2_with fail
    have hE1 := (Env.mk0 hE).later (later_new w (.cells (lexV s 0) 38))
    have hb0 := later_new w (.cells (lexV s 0) 38)
    have hL := Blk.new w 38 (lexV s 0)
    unfold lexV at hE1 hb0 hL
    refine (skip_any s w.heap.size 0 _ hL (Nat.zero_le _) hs).mono ?_
    rintro e w1 ⟨rfl, hat⟩
    have hA : LexAt s w.heap.size w (skipAt s 0) (.slice none 0 0) [] w1 := by
      refine ⟨hat.1, hb0.trans (below_grown hat.2 (by simp) (Nat.le_refl _)), OwnF.nil, skipAt_le _ _, Nat.zero_le _, ?_, ?_⟩
      · rw [skipAt_drop]
        have := LX_skip
        exact skip_idem _ _
      · rw [skipAt_drop, LX_skip, pre_nil]; rfl
    generalize skipAt s 0 = a0 at *
    have HE1 := Lib.hid hE1
    have HA := Lib.hid hA
    clear hE1 hb0 hL hat hA
    go_wp2_with fail
    go_loopw [6] (fun x wr => ∃ (a : Nat) (acc : List Tok) (u : Value), x = u ∧ LexAt s w.heap.size w a u acc wr) (fun _ wr => s.size - atOf w.heap.size wr)
    case atStart => exact ⟨a0, [], _, rfl, HA.out⟩
    case round =>
      obtain ⟨a, acc, u, hu, hA⟩ := hrel
      have hu2 := hu.symm
      clear hu
      subst hu2
      obtain ⟨c0, c1⟩ := lex_cells hA.at_
      have hltg := hA.at_.lt
      have hacc := hA.len
      have hae := hA.le
      have HA2 := Lib.hid hA
      have hEr : Env w.heap.size wr := (Env.mk0 hE).below hA.bel
      have HER := Lib.hid hEr
      clear hA hEr
      by_cases ha : a < s.size
      · go_wp2_with fail
        refine (next_any w.heap.size s w.heap.size a _ HER.out (Nat.le_refl _) HA2.out.at_ ha hs).mono ?_
        intro e w2 hp
        have HB := Lib.hid (byte_at s a ha)
        rcases hres : oneL (s.data.toList.drop a) with x | ⟨d, rest⟩
        · rw [hres] at hp
          obtain ⟨rfl, hat⟩ := hp
          have hx := oneL_err hres
          have HRES := Lib.hid hres
          have n1 : ((x : Int) == 0) = false := by rcases hx with rfl | rfl <;> rfl
          have n2 : ((x : Int) != 0) = true := by rcases hx with rfl | rfl <;> rfl
          have n3 : ¬ ((x : Int) = 0) := by omega
          have HAT := Lib.hid hat
          clear hres hat
          obtain ⟨d0, d1⟩ := lex_cells HAT.out.1
          have hltg2 := HAT.out.1.lt
          go_wp2_with fail
          go_quiet (fail)
          go_wp2_with fail
          go_ret3
          unfold lexPost
          rw [HPO.out, HA2.out.more, LX_err (by rw [HA2.out.skip]; exact drop_at HB.out) (by rw [← drop_at HB.out]; exact HRES.out)]
          have e1 : s.size - (s[a] :: s.data.toList.drop (a + 1)).length = a := by
            rw [← drop_at HB.out, List.length_drop, HLEN.out]; omega
          rw [e1]
          exact ⟨rfl, HA2.out.bel.trans ((below_grown HAT.out.2 (Nat.le_of_lt hltg) (Nat.le_refl _)).trans ((((Below.refl _ _).alloc (Nat.le_refl _) _).trans ((drewN_below _ _).mono (by simp))).mono (Nat.le_of_lt hltg2)))⟩
        · rw [hres] at hp
          obtain ⟨rfl, hat⟩ := hp
          have HRES := Lib.hid hres
          have HAT := Lib.hid hat
          clear hres hat
          obtain ⟨d0, d1⟩ := lex_cells HAT.out.1
          have hltg2 := HAT.out.1.lt
          have bW := ((Below.refl w2.heap.size w2).alloc (Nat.le_refl _) (.cells (tokC ⟨d, a⟩).toArray 31)).alloc (by simp) (.cells (tokC ⟨d, a⟩).toArray 31)
          have hown : TokS w2 w.heap.size u acc := HA2.out.own.grown HAT.out.2 (HA2.out.own.other HA2.out.at_ (by decide))
          have HO := Lib.hid (hown.later bW)
          have hG : Blk ((w2.alloc (.cells (tokC ⟨d, a⟩).toArray 31)).alloc (.cells (tokC ⟨d, a⟩).toArray 31)) (w2.heap.size + 1) 31 (tokC ⟨d, a⟩).toArray := by
            have := Blk.new (w2.alloc (.cells (tokC ⟨d, a⟩).toArray 31)) 31 (tokC ⟨d, a⟩).toArray
            simpa using this
          have HG := Lib.hid hG
          have hgL := HAT.out.1.later bW
          have bel2 : Below w.heap.size w ((w2.alloc (.cells (tokC ⟨d, a⟩).toArray 31)).alloc (.cells (tokC ⟨d, a⟩).toArray 31)) := HA2.out.bel.trans ((below_grown HAT.out.2 (Nat.le_of_lt hltg) (Nat.le_refl _)).trans (bW.mono (Nat.le_of_lt hltg2)))
          have HGL := Lib.hid hgL
          have HBEL := Lib.hid bel2
          clear hown hG hgL bel2 bW
          unfold tokC at HG HO HGL HBEL
          go_wp2_with (first
            | (at_builtin
               refine wpList_append_one rfl (.tmp 38) (.tmp 40) 23 rfl _ 40 Tryd.underlying23 tok_info rfl (by omega) ⟨d, a⟩ rfl (by simp [tokC, Value.oneCell']) rfl HO.out (w2.heap.size + 1) rfl HG.out (by omega) (by omega) HBEL.out.size ?_
               intro v2 w3 o2 g2
               have b2 := below_own HO.out g2 HBEL.out.size
               have s2 := Blk.grownOwn HGL.out HO.out (by decide) g2
               have O2 := Lib.hid o2
               have S2 := Lib.hid s2
               have B2 := Lib.hid (HBEL.out.trans b2)
               clear o2 g2 HO HG s2 b2 HBEL))
          have hrs : rest <:+ s.data.toList := (oneL_suffix HRES.out).trans (List.drop_suffix _ _)
          have hq : s.data.toList.drop (s.size - rest.length) = rest := by
            have := drop_suffix hrs
            rwa [HLEN.out] at this
          have hlt5 : rest.length < s.size - a := by
            have := oneL_lt HRES.out
            rwa [List.length_drop, HLEN.out] at this
          have HQ := Lib.hid hq
          clear hq hrs
          refine (skip_any s w.heap.size (s.size - rest.length) _ S2.out (Nat.sub_le _ _) hs).mono ?_
          rintro e w4 ⟨rfl, hat4⟩
          have hge4 : s.size - rest.length ≤ skipAt s (s.size - rest.length) := by
            unfold skipAt
            rw [HQ.out]
            have := skipL_le false rest
            omega
          have HAT4 := Lib.hid hat4
          clear hat4
          go_wp2_with fail
          go_roundw
          case rel =>
            refine ⟨skipAt s (s.size - rest.length), acc ++ [Tok.mk d a], v2, rfl, HAT4.out.1, B2.out.trans (below_grown HAT4.out.2 B2.out.size (Nat.le_refl _)), O2.out.grown HAT4.out.2 (O2.out.other S2.out (by decide)), skipAt_le _ _, ?_, ?_, ?_⟩
            · rw [List.length_append, List.length_singleton]; omega
            · rw [skipAt_drop]; exact skip_idem _ _
            · have e1 : s.size - (s[a] :: s.data.toList.drop (a + 1)).length = a := by
                rw [← drop_at HB.out, List.length_drop, HLEN.out]; omega
              rw [HA2.out.more, LX_ok (by rw [List.length_drop, HLEN.out]; omega) (by rw [HA2.out.skip]; exact drop_at HB.out) (by rw [← drop_at HB.out]; exact HRES.out), e1, pre_pre, skipAt_drop, LX_skip, HQ.out]
          case measure =>
            rw [atOf_lex HA2.out.at_, atOf_lex HAT4.out.1]
            have := skipAt_le s (s.size - rest.length)
            omega
      · have hnil : s.data.toList.drop a = [] := List.drop_eq_nil_of_le (by rw [HLEN.out]; omega)
        have HNIL := Lib.hid hnil
        clear hnil
        have bW := (Below.refl wr.heap.size wr).alloc (Nat.le_refl _) (.cells (tokC (endT s.size)).toArray 31)
        have HO := Lib.hid (HA2.out.own.later bW)
        have HG := Lib.hid (Blk.new wr 31 (tokC (endT s.size)).toArray)
        have HBEL := Lib.hid (HA2.out.bel.trans (bW.mono (Nat.le_of_lt hltg)))
        clear bW
        unfold tokC endT at HG HO HBEL
        go_wp2_with (first
          | (at_builtin
             refine wpList_append_one rfl (.tmp 42) (.tmp 46) 23 rfl _ 40 Tryd.underlying23 tok_info rfl (by omega) (endT s.size) rfl (by simp [tokC, Value.oneCell']) rfl HO.out wr.heap.size rfl HG.out (by omega) (by omega) HBEL.out.size ?_
             intro v2 w3 o2 g2
             have b2 := below_own HO.out g2 HBEL.out.size
             have O2 := Lib.hid o2
             have B2 := Lib.hid (HBEL.out.trans b2)
             clear o2 g2 HO HG b2 HBEL))
        go_ret3
        unfold lexPost
        rw [HPO.out, HA2.out.more, HNIL.out, LX_nil rfl]
        exact ⟨v2, rfl, O2.out, B2.out⟩
end Go.Proofs.YtcmkfjepikncnaaDoor
