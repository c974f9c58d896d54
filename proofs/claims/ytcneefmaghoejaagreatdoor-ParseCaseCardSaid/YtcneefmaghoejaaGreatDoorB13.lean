/- Parts of the proof: LexR, RefH, TokC, Rd, PaR, Rd1. Put together by slim.py. -/
import Derived.Laws.IdiomStrings
import Derived.Test.YtcneefmaghoejaaGreatDoorB6
import Derived.Test.YtcneefmaghoejaaGreatDoorB9
import Derived.Test.YtcneefmaghoejaaGreatDoorB10
import Derived.Test.YtcneefmaghoejaaGreatDoorB11
import Derived.Test.YtcneefmaghoejaaGreatDoorB12
namespace Go.Proofs.YtcneefmaghoejaaGreatDoor
open Go.ChangeShapes Go.WideShapes Go.ChangeAt Go.RowKit Go.Shelf
set_option linter.unusedVariables false
set_option linter.unusedSimpArgs false
def LX (n : Nat) (r : List UInt8) : Except (Nat × Nat) (List Tok) := lexF n (n + 1) r
def pre (acc : List Tok) : Except (Nat × Nat) (List Tok) → Except (Nat × Nat) (List Tok)
  | .error e => .error e
  | .ok l => .ok (acc ++ l)
def endT (n : Nat) : Tok := ⟨⟨0, [], 0⟩, n⟩
theorem skip_idem (b : Bool) (r : List UInt8) : skipL false (skipL b r) = skipL b r := by
  induction r generalizing b with
  | nil => cases b <;> rfl
  | cons d r ih =>
    cases b with
    | true =>
      simp only [skipL]
      split
      · exact ih false
      · exact ih true
    | false =>
      by_cases h1 : blankB d = true
      · simp only [skipL, if_pos h1]; exact ih false
      · by_cases h2 : d = 45 ∧ r.head? = some 45
        · simp only [skipL, if_neg h1, if_pos h2]; exact ih true
        · have : skipL false (d :: r) = d :: r := by simp only [skipL, if_neg h1, if_neg h2]
          rw [this, this]
theorem LX_skip (n : Nat) (r : List UInt8) : LX n (skipL false r) = LX n r := by
  unfold LX
  simp only [lexF]
  have := skip_idem false r
  rw [this]
theorem LX_nil {n : Nat} {r : List UInt8} (h : skipL false r = []) : LX n r = .ok [endT n] := by
  unfold LX
  simp only [lexF, h]; rfl
theorem LX_err {n : Nat} {r r' : List UInt8} {c : UInt8} {e : Nat} (h : skipL false r = c :: r') (ho : oneL (c :: r') = .error e) : LX n r = .error (n - (c :: r').length, e) := by
  unfold LX
  simp only [lexF, h, ho]
theorem LX_ok {n : Nat} {r r' rest : List UInt8} {c : UInt8} {w : Wd} (hr : r.length ≤ n) (h : skipL false r = c :: r') (ho : oneL (c :: r') = .ok (w, rest)) : LX n r = pre [⟨w, n - (c :: r').length⟩] (LX n rest) := by
  have h1 := oneL_lt ho
  have h2 := skipL_le false r
  rw [h] at h2
  unfold LX
  conv => lhs; unfold lexF
  simp only [h, ho]
  rw [lexF_fuel n n (n + 1) rest (by omega) (by omega)]
  cases lexF n (n + 1) rest <;> rfl
theorem pre_pre (a b : List Tok) (x : Except (Nat × Nat) (List Tok)) : pre a (pre b x) = pre (a ++ b) x := by cases x <;> simp [pre]
theorem pre_nil (x : Except (Nat × Nat) (List Tok)) : pre [] x = x := by cases x <;> rfl
theorem oneL_err {r : List UInt8} {x : Nat} (h : oneL r = .error x) : x = 2 ∨ x = 30 := by
  cases r with
  | nil => simp [oneL] at h; exact .inr h.symm
  | cons c r =>
    simp only [oneL] at h
    split at h
    · split at h
      · cases h
      · injection h with h; exact .inl h.symm
    · split at h
      · split at h
        · cases h
        · injection h with h; exact .inr h.symm
      · split at h
        · split at h
          · cases h
          · injection h with h; exact .inr h.symm
        · split at h
          · cases h
          · injection h with h; exact .inr h.symm
theorem oneL_suffix {r rest : List UInt8} {w : Wd} (h : oneL r = .ok (w, rest)) : rest <:+ r := by
  obtain ⟨b, hb, _⟩ := oneL_split h
  exact ⟨b, hb.symm⟩
def tokC (t : Tok) : List Value := [.int .u8 t.w.k, .string ⟨t.w.s.toArray⟩, .int .i64 t.w.n, .int .i64 t.p]
theorem tok_info : (Tryz.prog.info? 46).map (fun i => (i.zero, i.size, i.bytes)) = some (some (.agg #[.int .u8 0, .string ⟨#[]⟩, .int .i64 0, .int .i64 0]), 4, 40) := by kernel_rfl
def TokS (w : World) (base : Nat) (v : Value) (l : List Tok) : Prop := OwnF tokC 46 4 w base v l
def lexPost (s : ByteArray) (w : World) (e : Ending) (w' : World) : Prop :=
  match lexL s.data.toList with
  | .error (p, x) => e = .returned (.tuple #[.slice none 0 0, .int .i64 p, .int .i64 x]) ∧ Below w.heap.size w w'
  | .ok l => ∃ v, e = .returned (.tuple #[v, .int .i64 0, .int .i64 0]) ∧ TokS w' w.heap.size v l ∧ Below w.heap.size w w'
theorem lexL_big {s : ByteArray} (h : 4096 < s.size) : lexL s.data.toList = .error (0, 2) := by
  unfold lexL
  rw [if_pos (by simpa using h)]
theorem lexL_LX {s : ByteArray} (h : ¬ 4096 < s.size) : lexL s.data.toList = LX s.size s.data.toList := by
  unfold lexL LX
  have : s.data.toList.length = s.size := by simp
  rw [this, if_neg h]
structure LexAt (s : ByteArray) (g : Nat) (w : World) (a : Nat) (v : Value) (acc : List Tok) (wr : World) : Prop where
  at_ : Blk wr g 77 (lexV s a)
  bel : Below w.heap.size w wr
  own : TokS wr w.heap.size v acc
  le : a ≤ s.size
  len : acc.length ≤ a
  skip : skipL false (s.data.toList.drop a) = s.data.toList.drop a
  more : LX s.size s.data.toList = pre acc (LX s.size (s.data.toList.drop a))
set_option maxHeartbeats 4000000 in
set_option maxRecDepth 100000 in
theorem lex_any (s : ByteArray) (w : World) (hE : LexEnv w) (hs : s.size ≤ 4294967280) : Calls Tryz.prog 13 #[.string s] w (lexPost s w) := by
  by_cases hbig : 4096 < s.size
  · unfold lexPost
    rw [lexL_big hbig]
    go_enter Tryz.func13, Tryz.ntmps13
    go_wp2_with fail
    go_ret3
    exact ⟨rfl, Below.refl _ _⟩
  · have HPO := Lib.hid (lexL_LX hbig)
    have HLEN := Lib.hid (show s.data.toList.length = s.size by simp)
    go_enter Tryz.func13, Tryz.ntmps13
    go_wp2_with fail
    have hE1 := (Env.mk0 hE).later (later_new w (.cells (lexV s 0) 77))
    have hb0 := later_new w (.cells (lexV s 0) 77)
    have hL := Blk.new w 77 (lexV s 0)
    unfold lexV at hE1 hb0 hL
    refine (skip_any s w.heap.size 0 _ hL (Nat.zero_le _) hs).mono ?_
    rintro e w1 ⟨rfl, hat⟩
    have hA : LexAt s w.heap.size w (skipAt s 0) (.slice none 0 0) [] w1 := by
      refine ⟨hat.1, hb0.trans (below_grown hat.2 (by simp) (Nat.le_refl _)), OwnF.nil, skipAt_le _ _, Nat.zero_le _, ?_, ?_⟩
      · rw [skipAt_drop]
        have := LX_skip
        exact skip_idem _ _
      · rw [skipAt_drop, LX_skip, pre_nil]; rfl
    generalize skipAt s 0 = a0 at *
    have HE1 := Lib.hid hE1
    have HA := Lib.hid hA
    clear hE1 hb0 hL hat hA
    go_wp2_with fail
    go_loopw [6] (fun x wr => ∃ (a : Nat) (acc : List Tok) (u : Value), x = u ∧ LexAt s w.heap.size w a u acc wr) (fun _ wr => s.size - atOf w.heap.size wr)
    case atStart => exact ⟨a0, [], _, rfl, HA.out⟩
    case round =>
      obtain ⟨a, acc, u, hu, hA⟩ := hrel
      have hu2 := hu.symm
      clear hu
      subst hu2
      obtain ⟨c0, c1⟩ := lex_cells hA.at_
      have hltg := hA.at_.lt
      have hacc := hA.len
      have hae := hA.le
      have HA2 := Lib.hid hA
      have hEr : Env w.heap.size wr := (Env.mk0 hE).below hA.bel
      have HER := Lib.hid hEr
      clear hA hEr
      by_cases ha : a < s.size
      · go_wp2_with fail
        refine (next_any w.heap.size s w.heap.size a _ HER.out (Nat.le_refl _) HA2.out.at_ ha hs).mono ?_
        intro e w2 hp
        have HB := Lib.hid (byte_at s a ha)
        rcases hres : oneL (s.data.toList.drop a) with x | ⟨d, rest⟩
        · rw [hres] at hp
          obtain ⟨rfl, hat⟩ := hp
          have hx := oneL_err hres
          have HRES := Lib.hid hres
          have n1 : ((x : Int) == 0) = false := by rcases hx with rfl | rfl <;> rfl
          have n2 : ((x : Int) != 0) = true := by rcases hx with rfl | rfl <;> rfl
          have n3 : ¬ ((x : Int) = 0) := by omega
          have HAT := Lib.hid hat
          clear hres hat
          obtain ⟨d0, d1⟩ := lex_cells HAT.out.1
          have hltg2 := HAT.out.1.lt
          go_wp2_with fail
          go_quiet (fail)
          go_wp2_with fail
          go_ret3
          unfold lexPost
          rw [HPO.out, HA2.out.more, LX_err (by rw [HA2.out.skip]; exact drop_at HB.out) (by rw [← drop_at HB.out]; exact HRES.out)]
          have e1 : s.size - (s[a] :: s.data.toList.drop (a + 1)).length = a := by
            rw [← drop_at HB.out, List.length_drop, HLEN.out]; omega
          rw [e1]
          exact ⟨rfl, HA2.out.bel.trans ((below_grown HAT.out.2 (Nat.le_of_lt hltg) (Nat.le_refl _)).trans ((((Below.refl _ _).alloc (Nat.le_refl _) _).trans ((drewN_below _ _).mono (by simp))).mono (Nat.le_of_lt hltg2)))⟩
        · rw [hres] at hp
          obtain ⟨rfl, hat⟩ := hp
          have HRES := Lib.hid hres
          have HAT := Lib.hid hat
          clear hres hat
          obtain ⟨d0, d1⟩ := lex_cells HAT.out.1
          have hltg2 := HAT.out.1.lt
          have bW := ((Below.refl w2.heap.size w2).alloc (Nat.le_refl _) (.cells (tokC ⟨d, a⟩).toArray 46)).alloc (by simp) (.cells (tokC ⟨d, a⟩).toArray 46)
          have hown : TokS w2 w.heap.size u acc := HA2.out.own.grown HAT.out.2 (HA2.out.own.other HA2.out.at_ (by decide))
          have HO := Lib.hid (hown.later bW)
          have hG : Blk ((w2.alloc (.cells (tokC ⟨d, a⟩).toArray 46)).alloc (.cells (tokC ⟨d, a⟩).toArray 46)) (w2.heap.size + 1) 46 (tokC ⟨d, a⟩).toArray := by
            have := Blk.new (w2.alloc (.cells (tokC ⟨d, a⟩).toArray 46)) 46 (tokC ⟨d, a⟩).toArray
            simpa using this
          have HG := Lib.hid hG
          have hgL := HAT.out.1.later bW
          have bel2 : Below w.heap.size w ((w2.alloc (.cells (tokC ⟨d, a⟩).toArray 46)).alloc (.cells (tokC ⟨d, a⟩).toArray 46)) := HA2.out.bel.trans ((below_grown HAT.out.2 (Nat.le_of_lt hltg) (Nat.le_refl _)).trans (bW.mono (Nat.le_of_lt hltg2)))
          have HGL := Lib.hid hgL
          have HBEL := Lib.hid bel2
          clear hown hG hgL bel2 bW
          unfold tokC at HG HO HGL HBEL
          go_wp2_with (first
            | (at_builtin
               refine wpList_append_one rfl (.tmp 38) (.tmp 40) 41 rfl _ 40 Tryz.underlying41 tok_info rfl (by omega) ⟨d, a⟩ rfl (by simp [tokC, Value.oneCell']) rfl HO.out (w2.heap.size + 1) rfl HG.out (by omega) (by omega) HBEL.out.size ?_
               intro v2 w3 o2 g2
               have b2 := below_own HO.out g2 HBEL.out.size
               have s2 := Blk.grownOwn HGL.out HO.out (by decide) g2
               have O2 := Lib.hid o2
               have S2 := Lib.hid s2
               have B2 := Lib.hid (HBEL.out.trans b2)
               clear o2 g2 HO HG s2 b2 HBEL))
          have hrs : rest <:+ s.data.toList := (oneL_suffix HRES.out).trans (List.drop_suffix _ _)
          have hq : s.data.toList.drop (s.size - rest.length) = rest := by
            have := drop_suffix hrs
            rwa [HLEN.out] at this
          have hlt5 : rest.length < s.size - a := by
            have := oneL_lt HRES.out
            rwa [List.length_drop, HLEN.out] at this
          have HQ := Lib.hid hq
          clear hq hrs
          refine (skip_any s w.heap.size (s.size - rest.length) _ S2.out (Nat.sub_le _ _) hs).mono ?_
          rintro e w4 ⟨rfl, hat4⟩
          have hge4 : s.size - rest.length ≤ skipAt s (s.size - rest.length) := by
            unfold skipAt
            rw [HQ.out]
            have := skipL_le false rest
            omega
          have HAT4 := Lib.hid hat4
          clear hat4
          go_wp2_with fail
          go_roundw
          case rel =>
            refine ⟨skipAt s (s.size - rest.length), acc ++ [Tok.mk d a], v2, rfl, HAT4.out.1, B2.out.trans (below_grown HAT4.out.2 B2.out.size (Nat.le_refl _)), O2.out.grown HAT4.out.2 (O2.out.other S2.out (by decide)), skipAt_le _ _, ?_, ?_, ?_⟩
            · rw [List.length_append, List.length_singleton]; omega
            · rw [skipAt_drop]; exact skip_idem _ _
            · have e1 : s.size - (s[a] :: s.data.toList.drop (a + 1)).length = a := by
                rw [← drop_at HB.out, List.length_drop, HLEN.out]; omega
              rw [HA2.out.more, LX_ok (by rw [List.length_drop, HLEN.out]; omega) (by rw [HA2.out.skip]; exact drop_at HB.out) (by rw [← drop_at HB.out]; exact HRES.out), e1, pre_pre, skipAt_drop, LX_skip, HQ.out]
          case measure =>
            rw [atOf_lex HA2.out.at_, atOf_lex HAT4.out.1]
            have := skipAt_le s (s.size - rest.length)
            omega
      · have hnil : s.data.toList.drop a = [] := List.drop_eq_nil_of_le (by rw [HLEN.out]; omega)
        have HNIL := Lib.hid hnil
        clear hnil
        have bW := (Below.refl wr.heap.size wr).alloc (Nat.le_refl _) (.cells (tokC (endT s.size)).toArray 46)
        have HO := Lib.hid (HA2.out.own.later bW)
        have HG := Lib.hid (Blk.new wr 46 (tokC (endT s.size)).toArray)
        have HBEL := Lib.hid (HA2.out.bel.trans (bW.mono (Nat.le_of_lt hltg)))
        clear bW
        unfold tokC endT at HG HO HBEL
        go_wp2_with (first
          | (at_builtin
             refine wpList_append_one rfl (.tmp 42) (.tmp 46) 41 rfl _ 40 Tryz.underlying41 tok_info rfl (by omega) (endT s.size) rfl (by simp [tokC, Value.oneCell']) rfl HO.out wr.heap.size rfl HG.out (by omega) (by omega) HBEL.out.size ?_
             intro v2 w3 o2 g2
             have b2 := below_own HO.out g2 HBEL.out.size
             have O2 := Lib.hid o2
             have B2 := Lib.hid (HBEL.out.trans b2)
             clear o2 g2 HO HG b2 HBEL))
        go_ret3
        unfold lexPost
        rw [HPO.out, HA2.out.more, HNIL.out, LX_nil rfl]
        exact ⟨v2, rfl, O2.out, B2.out⟩
end Go.Proofs.YtcneefmaghoejaaGreatDoor
namespace Go.Proofs.YtcneefmaghoejaaGreatDoor
open Go.ChangeShapes Go.WideShapes Go.ChangeAt Go.RowKit Go.Shelf
set_option linter.unusedVariables false
set_option linter.unusedSimpArgs false
structure RLexAt (s : ByteArray) (w : World) (a : Nat) (v : Value) (acc : List Tok) (wr : World) : Prop where
  bel : Below w.heap.size w wr
  own : TokS wr w.heap.size v acc
  le : a ≤ s.size
  len : acc.length ≤ a
  skip : skipL false (s.data.toList.drop a) = s.data.toList.drop a
  more : LX s.size s.data.toList = pre acc (LX s.size (s.data.toList.drop a))
end Go.Proofs.YtcneefmaghoejaaGreatDoor
namespace Go.Proofs.YtcneefmaghoejaaGreatDoor
open Go.ChangeShapes Go.WideShapes Go.ChangeAt Go.RowKit Go.Shelf
set_option linter.unusedVariables false
set_option linter.unusedSimpArgs false
theorem tok_len (t : Tok) : (tokC t).length = 4 := rfl
theorem TokS.at_ {w : World} {base : Nat} {v : Value} {l : List Tok} (h : TokS w base v l) {k : Nat} {t : Tok} (hk : l[k]? = some t) :
    ∃ g c, v = .slice (some ⟨g, 0, none⟩) l.length c ∧ g < w.heap.size ∧ w.cell? ⟨g, k * 4, none⟩ = some (.int .u8 t.w.k) ∧ w.cell? ⟨g, k * 4 + 1, none⟩ = some (.string ⟨t.w.s.toArray⟩) ∧ w.cell? ⟨g, k * 4 + 2, none⟩ = some (.int .i64 t.w.n) ∧ w.cell? ⟨g, k * 4 + 3, none⟩ = some (.int .i64 t.p) := by
  obtain ⟨g, c, hv, _, hlt, hc⟩ := OwnF.cell tok_len h hk
  exact ⟨g, c, hv, hlt, hc 0 _ rfl, hc 1 _ rfl, hc 2 _ rfl, hc 3 _ rfl⟩
theorem TokS.cells {w : World} {base : Nat} {A : Option Addr} {n c : Nat} {l : List Tok} (h : TokS w base (.slice A n c) l) (hne : l ≠ []) :
    ∃ g, A = some ⟨g, 0, none⟩ ∧ base ≤ g ∧ g < w.heap.size ∧ ∀ k t, l[k]? = some t → w.cell? ⟨g, k * 4, none⟩ = some (.int .u8 t.w.k) ∧ w.cell? ⟨g, k * 4 + 1, none⟩ = some (.string ⟨t.w.s.toArray⟩) ∧ w.cell? ⟨g, k * 4 + 2, none⟩ = some (.int .i64 t.w.n) ∧ w.cell? ⟨g, k * 4 + 3, none⟩ = some (.int .i64 t.p) := by
  match l, hne with
  | t0 :: l, _ =>
    obtain ⟨g, c0, hv, hb, hlt, _⟩ := OwnF.cell tok_len h (k := 0) (x := t0) rfl
    injection hv with hA _ _
    refine ⟨g, hA, hb, hlt, fun k t hk => ?_⟩
    obtain ⟨g', c', hv', _, a⟩ := h.at_ hk
    injection hv' with hA' _ _
    rw [hA] at hA'
    injection hA' with hA'
    injection hA' with hg _ _
    subst hg
    exact a
end Go.Proofs.YtcneefmaghoejaaGreatDoor
namespace Go.Proofs.YtcneefmaghoejaaGreatDoor
open Go.ChangeShapes Go.WideShapes Go.ChangeAt Go.RowKit
set_option linter.unusedVariables false
set_option linter.unusedSimpArgs false
structure Rdr where
  g : Nat
  gl : Nat
  c : Nat
  toks : List Tok
def Rdr.n (ρ : Rdr) : Nat := ρ.toks.length
def Rdr.ws (ρ : Rdr) : Wds := ρ.toks.map (·.w)
def Rdr.bad (ρ : Rdr) : RSt → Int
  | .good _ => -1
  | .bad m => (ρ.n : Int) - m
def Rdr.cells (ρ : Rdr) (σ : RSt) (big : Bool) : Array Value := #[.slice (some ⟨ρ.gl, 0, none⟩) ρ.n ρ.c, .int .i64 ((ρ.n : Int) - σ.left), .int .i64 (ρ.bad σ), .bool big]
structure Rdr.at (ρ : Rdr) (w : World) (σ : RSt) (big : Bool) : Prop where
  blk : Blk w ρ.g 65 (ρ.cells σ big)
  lt : ρ.gl < ρ.g
  cell : ∀ k t, ρ.toks[k]? = some t → w.cell? ⟨ρ.gl, k * 4, none⟩ = some (.int .u8 t.w.k) ∧ w.cell? ⟨ρ.gl, k * 4 + 1, none⟩ = some (.string ⟨t.w.s.toArray⟩) ∧ w.cell? ⟨ρ.gl, k * 4 + 2, none⟩ = some (.int .i64 t.w.n) ∧ w.cell? ⟨ρ.gl, k * 4 + 3, none⟩ = some (.int .i64 t.p)
  of : σ.of ρ.ws
  small : ρ.n ≤ 5000
  nums : ∀ t ∈ ρ.toks, 0 ≤ t.w.n ∧ t.w.n ≤ 9223372036854775807
section
variable {ρ : Rdr} {w w' : World} {σ : RSt} {big : Bool}
theorem Rdr.at.later (h : ρ.at w σ big) (hb : Below w.heap.size w w') : ρ.at w' σ big :=
  ⟨h.blk.later hb, h.lt, fun k t hk => by
    have hl : ρ.gl < w.heap.size := Nat.lt_trans h.lt h.blk.lt
    have c := fun o => hb.cell (p := ⟨ρ.gl, o, none⟩) hl
    obtain ⟨h1, h2, h3, h4⟩ := h.cell k t hk
    exact ⟨(c _).trans h1, (c _).trans h2, (c _).trans h3, (c _).trans h4⟩, h.of, h.small, h.nums⟩
theorem Rdr.at.lt_ (h : ρ.at w σ big) : ρ.g < w.heap.size := h.blk.lt
theorem Rdr.at.set {σ' : RSt} {big' : Bool} (h : ρ.at w σ big) (hw : Blk w' ρ.g 65 (ρ.cells σ' big')) (hg : w.grownBy w' (some ρ.g)) (ho : σ'.of ρ.ws) : ρ.at w' σ' big' :=
  ⟨hw, h.lt, fun k t hk => by
    have hl : ρ.gl < w.heap.size := Nat.lt_trans h.lt h.blk.lt
    have c := cell_of_heap (hg.block ρ.gl hl (fun e => by injection e with e; have := h.lt; omega))
    obtain ⟨h1, h2, h3, h4⟩ := h.cell k t hk
    exact ⟨(c _).trans h1, (c _).trans h2, (c _).trans h3, (c _).trans h4⟩, ho, h.small, h.nums⟩
theorem Rdr.at.left (h : ρ.at w σ big) : 0 < σ.left ∧ σ.left ≤ ρ.n := by
  have := RSt.of_pos h.of
  simpa [Rdr.ws, Rdr.n] using this
theorem Rdr.at.far {q : Nat} (h : ρ.at w σ big) (hq : ρ.g < q) (i : Nat) (u : Value) : ρ.at (w.setCell ⟨q, i, none⟩ u) σ big :=
  ⟨h.blk.far (p := ⟨q, i, none⟩) (by simp; omega) u, h.lt, fun k t hk => by
    have c := cell_of_heap (Below.heap_setCell w ⟨q, i, none⟩ u ρ.gl (by have := h.lt; simp; omega))
    obtain ⟨h1, h2, h3, h4⟩ := h.cell k t hk
    exact ⟨(c _).trans h1, (c _).trans h2, (c _).trans h3, (c _).trans h4⟩, h.of, h.small, h.nums⟩
theorem Rdr.at.next (h : ρ.at w σ big) : ∃ t : Tok, ρ.toks[ρ.n - σ.left]? = some t ∧ (∀ l, σ = .good l → ∃ r, l = t.w :: r) := by
  obtain ⟨h1, h2⟩ := h.left
  have hlt : ρ.n - σ.left < ρ.toks.length := by unfold Rdr.n at *; omega
  refine ⟨_, List.getElem?_eq_getElem hlt, ?_⟩
  rintro l rfl
  obtain ⟨t, r, hl, hk⟩ := RSt.of_next h.of
  refine ⟨r, ?_⟩
  have e : ρ.ws.length - l.length = ρ.n - (RSt.good l).left := by simp [Rdr.ws, Rdr.n, RSt.left]
  rw [e] at hk
  unfold Rdr.ws at hk
  rw [List.getElem?_map, List.getElem?_eq_getElem hlt] at hk
  simp only [Option.map_some] at hk
  injection hk with hk
  rw [hk]
  exact hl
end
structure Did (ρ : Rdr) (W w' : World) (σ' : RSt) (big' : Bool) : Prop where
  at_ : ρ.at w' σ' big'
  grown : W.grownBy w' (some ρ.g)
section
variable {ρ : Rdr} {W w w' : World} {σ σ' : RSt} {big big' : Bool}
theorem Did.refl (h : ρ.at w σ big) : Did ρ w w σ big := ⟨h, grown_below (Below.refl _ _)⟩
theorem Did.of_later (h : ρ.at w σ big) (hb : Below w.heap.size w w') : Did ρ w w' σ big := ⟨h.later hb, grown_below hb⟩
theorem Did.later (h : Did ρ W w σ big) (hb : Below w.heap.size w w') : Did ρ W w' σ big := ⟨h.at_.later hb, grown_trans h.grown (grown_below hb)⟩
theorem Did.trans (h : Did ρ W w σ big) (k : Did ρ w w' σ' big') : Did ρ W w' σ' big' := ⟨k.at_, grown_trans h.grown k.grown⟩
theorem Did.lt (h : Did ρ W w σ big) : ρ.g < w.heap.size := h.at_.lt_
theorem Did.size (h : Did ρ W w σ big) : W.heap.size ≤ w.heap.size := h.grown.size
theorem Did.far {q : Nat} (h : Did ρ W w σ big) (hW : ρ.g < W.heap.size) (hq : W.heap.size ≤ q) (i : Nat) (u : Value) : Did ρ W (w.setCell ⟨q, i, none⟩ u) σ big := by
  refine ⟨h.at_.far (by omega) i u, h.grown.os, h.grown.tape, h.grown.output, ?_, fun k hk hkg => ?_⟩
  · have : (w.setCell ⟨q, i, none⟩ u).heap.size = w.heap.size := by simp [World.setCell]
    rw [this]; exact h.grown.size
  · rw [Below.heap_setCell w ⟨q, i, none⟩ u k (by simp; omega)]
    exact h.grown.block k hk hkg
theorem Did.blk {q : Nat} {t : TypeId} {cs : Array Value} (h : Did ρ W w σ big) (hq : Blk W q t cs) (hg : q ≠ ρ.g) : Blk w q t cs := hq.grown h.grown fun e => hg (by injection e)
end
end Go.Proofs.YtcneefmaghoejaaGreatDoor
set_option linter.unusedSimpArgs false
set_option linter.unusedVariables false
namespace Go.Proofs.YtcneefmaghoejaaGreatDoor
theorem head_good {s : List UInt8} {σ : RSt} (h : σ.head s = true) : ∃ t r, σ = .good (t :: r) ∧ isW s t = true := by
  match σ with
  | .bad n => simp [RSt.head, RSt.words, headIs] at h
  | .good l =>
    obtain ⟨t, r, e, ht⟩ := headIs_cons (s := s) (l := l) h
    exact ⟨t, r, by rw [e], ht⟩
theorem left_tail {s : List UInt8} {σ : RSt} (h : σ.head s = true) : (RSt.good σ.words.tail).left = σ.left - 1 ∧ 0 < σ.left ∧ σ.left = σ.words.tail.length + 1 := by
  obtain ⟨t, r, rfl, _⟩ := head_good h
  simp [RSt.left, RSt.words]
theorem step_may_true {s : List UInt8} {σ : RSt} (h : σ.head s = true) : stepS (may s) σ = .good σ.words.tail := by rw [step_may, h]; rfl
theorem step_may_false {s : List UInt8} {σ : RSt} (h : σ.head s = false) : stepS (may s) σ = σ := by rw [step_may, h]; rfl
def musts : List (List UInt8) → Ps Unit
  | [] => pure ()
  | s :: ks => do must s; musts ks
theorem sane_musts : ∀ ks, Sane (musts ks)
  | [] => sane_pure _
  | s :: ks => sane_bind (sane_must s) fun _ => sane_musts ks
def RSt.one (ks : List (List UInt8)) (σ : RSt) : List UInt8 := match ks with
  | [] => []
  | s :: ks => if σ.head s then s else σ.one ks
section
variable {s : List UInt8} {op : Int} {same below : Ps Tr} {σ : RSt} {x : Tr}
end
end Go.Proofs.YtcneefmaghoejaaGreatDoor
namespace Go.Proofs.YtcneefmaghoejaaGreatDoor
open Go.ChangeShapes Go.WideShapes Go.ChangeAt Go.RowKit
set_option linter.unusedVariables false
set_option linter.unusedSimpArgs false
def Rdr.ptr (ρ : Rdr) : Value := .pointer (some ⟨ρ.g, 0, none⟩)
theorem Rdr.at.facts {ρ : Rdr} {w : World} {σ : RSt} {big : Bool} (h : ρ.at w σ big) :
    w.cell? ⟨ρ.g, 0, none⟩ = some (.slice (some ⟨ρ.gl, 0, none⟩) ρ.n ρ.c) ∧ w.cell? ⟨ρ.g, 1, none⟩ = some (.int .i64 ((ρ.n : Int) - σ.left)) ∧ w.cell? ⟨ρ.g, 2, none⟩ = some (.int .i64 (ρ.bad σ)) ∧ w.cell? ⟨ρ.g, 3, none⟩ = some (.bool big) ∧
    w.frozen? ⟨ρ.g, 1, none⟩ = false ∧ w.frozen? ⟨ρ.g, 2, none⟩ = false ∧ w.frozen? ⟨ρ.g, 3, none⟩ = false :=
  ⟨h.blk.cell 0, h.blk.cell 1, h.blk.cell 2, h.blk.cell 3, h.blk.frozen 1, h.blk.frozen 2, h.blk.frozen 3⟩
theorem Rdr.at.place {ρ : Rdr} {w : World} {σ : RSt} {big : Bool} (h : ρ.at w σ big) : ((ρ.n : Int) - σ.left) = ((ρ.n - σ.left : Nat) : Int) := by
  have := h.left
  omega
theorem Rdr.at.badness {ρ : Rdr} {w : World} {σ : RSt} {big : Bool} (h : ρ.at w σ big) : decide (ρ.bad σ < 0) = σ.isGood := by
  have hl := h.left
  match σ, hl with
  | .bad m, hl =>
    have e : ρ.bad (.bad m) = (ρ.n : Int) - m := rfl
    have e2 : (RSt.bad m).left = m := rfl
    rw [e2] at hl
    rw [e]
    simp only [RSt.isGood, decide_eq_false_iff_not]
    omega
  | .good l, _ => rfl
theorem isW_test {s : ByteArray} {t : Wd} : isW s.data.toList t = ((t.k == 1 || t.k == 4) && (t.s == s.toList)) := by
  unfold isW
  rw [ByteArray.toList_eq]
def tokZ : Obj := .cells #[.int .u8 0, .string ⟨#[]⟩, .int .i64 0, .int .i64 0] 46
def tokB (t : Tok) : Array Value := #[.int .u8 t.w.k, .string ⟨t.w.s.toArray⟩, .int .i64 t.w.n, .int .i64 t.p]
structure Peek (ρ : Rdr) (w : World) (t : Tok) (pl : Nat) (bd : Int) : Prop where
  c0 : w.cell? ⟨ρ.g, 0, none⟩ = some (.slice (some ⟨ρ.gl, 0, none⟩) ρ.n ρ.c)
  c1 : w.cell? ⟨ρ.g, 1, none⟩ = some (.int .i64 pl)
  c2 : w.cell? ⟨ρ.g, 2, none⟩ = some (.int .i64 bd)
  d0 : w.cell? ⟨ρ.gl, pl * 4, none⟩ = some (.int .u8 t.w.k)
  d1 : w.cell? ⟨ρ.gl, pl * 4 + 1, none⟩ = some (.string ⟨t.w.s.toArray⟩)
  d2 : w.cell? ⟨ρ.gl, pl * 4 + 2, none⟩ = some (.int .i64 t.w.n)
  d3 : w.cell? ⟨ρ.gl, pl * 4 + 3, none⟩ = some (.int .i64 t.p)
theorem Peek.later {ρ : Rdr} {w w' : World} {t : Tok} {pl : Nat} {bd : Int} (h : Peek ρ w t pl bd) (hb : Below w.heap.size w w') : Peek ρ w' t pl bd := by
  obtain ⟨h0, h1, h2, h3, h4, h5, h6⟩ := h
  exact ⟨(hb.cell (cell_lt h0)).trans h0, (hb.cell (cell_lt h1)).trans h1, (hb.cell (cell_lt h2)).trans h2, (hb.cell (cell_lt h3)).trans h3, (hb.cell (cell_lt h4)).trans h4, (hb.cell (cell_lt h5)).trans h5, (hb.cell (cell_lt h6)).trans h6⟩
theorem Rdr.at.peek {ρ : Rdr} {w : World} {σ : RSt} {big : Bool} (h : ρ.at w σ big) : ∃ (t : Tok) (pl : Nat) (bd : Int), pl = ρ.n - σ.left ∧ pl < ρ.n ∧ ρ.n ≤ 5000 ∧ bd = ρ.bad σ ∧ decide (bd < 0) = σ.isGood ∧ (∀ l, σ = .good l → ∃ r, l = t.w :: r) ∧ 0 ≤ t.w.n ∧ t.w.n ≤ 9223372036854775807 ∧ Peek ρ w t pl bd := by
  obtain ⟨t, ht, hg⟩ := h.next
  obtain ⟨d0, d1, d2, d3⟩ := h.cell _ t ht
  obtain ⟨c0, c1, c2, c3, f1, f2, f3⟩ := h.facts
  have hl := h.left
  rw [h.place] at c1
  have hn := h.nums t (List.mem_of_getElem? ht)
  exact ⟨t, _, _, rfl, by omega, h.small, rfl, h.badness, hg, hn.1, hn.2, c0, c1, c2, d0, d1, d2, d3⟩
theorem Rdr.at.step {ρ : Rdr} {w : World} {l : Wds} {t : Wd} {big : Bool} (h : ρ.at w (.good (t :: l)) big) (ht : t.k ≠ 0) :
    Did ρ w (w.setCell ⟨ρ.g, 1, none⟩ (.int .i64 ((ρ.n : Int) - l.length))) (.good l) big := by
  have hB := Blk.set_ h.blk 1 (.int .i64 ((ρ.n : Int) - l.length))
  refine ⟨h.set hB (grown_set (grown_below (Below.refl _ _)) 1 _) ⟨?_, h.of.2.tail ht⟩, grown_set (grown_below (Below.refl _ _)) 1 _⟩
  exact (List.suffix_cons _ _).trans h.of.1
end Go.Proofs.YtcneefmaghoejaaGreatDoor
