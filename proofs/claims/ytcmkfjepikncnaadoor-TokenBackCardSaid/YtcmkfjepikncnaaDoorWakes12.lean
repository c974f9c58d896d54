/- token: wakes. -/
import Derived.Test.YtcmkfjepikncnaaDoorSame12
namespace Go.Proofs.YtcmkfjepikncnaaDoor
open Go.ChangeShapes Go.WideShapes Go.ChangeAt Go.RowKit Go.Shelf
set_option linter.unusedVariables false
set_option linter.unusedSimpArgs false

theorem lex_ok {s : ByteArray} {l : List Tok} (h : lexL s.data.toList = .ok l) {w : World} (hE : LexEnv w) (hs : s.size ≤ 4294967280) :
    Calls Tryd.prog 9 #[.string s] w fun e w' => ∃ A c, e = .returned (.tuple #[.slice A l.length c, .int .i64 0, .int .i64 0]) ∧ TokS w' w.heap.size (.slice A l.length c) l ∧ Below w.heap.size w w' := by
  refine (lex_any s w hE hs).mono ?_
  intro e w' hp
  unfold lexPost at hp
  rw [h] at hp
  obtain ⟨v, rfl, ho, hb⟩ := hp
  obtain ⟨A, c, rfl⟩ := ho.form
  exact ⟨A, c, rfl, ho, hb⟩
theorem lex_err {s : ByteArray} {p x : Nat} (h : lexL s.data.toList = .error (p, x)) {w : World} (hE : LexEnv w) (hs : s.size ≤ 4294967280) :
    Calls Tryd.prog 9 #[.string s] w fun e w' => e = .returned (.tuple #[.slice none 0 0, .int .i64 p, .int .i64 x]) ∧ Below w.heap.size w w' := by
  refine (lex_any s w hE hs).mono ?_
  intro e w' hp
  unfold lexPost at hp
  rw [h] at hp
  exact hp
theorem rlex_ok {s : ByteArray} {l : List Tok} (h : lexL s.data.toList = .ok l) {w : World} (hs : s.size ≤ 4294967280) :
    Calls Tryd.prog 10 #[.string s] w fun e w' => ∃ A c, e = .returned (.tuple #[.slice A l.length c, .int .i64 0, .int .i64 0]) ∧ TokS w' w.heap.size (.slice A l.length c) l ∧ Below w.heap.size w w' := by
  refine (rlex_any s w hs).mono ?_
  intro e w' hp
  unfold lexPost at hp
  rw [h] at hp
  obtain ⟨v, rfl, ho, hb⟩ := hp
  obtain ⟨A, c, rfl⟩ := ho.form
  exact ⟨A, c, rfl, ho, hb⟩
theorem rlex_err {s : ByteArray} {p x : Nat} (h : lexL s.data.toList = .error (p, x)) {w : World} (hs : s.size ≤ 4294967280) :
    Calls Tryd.prog 10 #[.string s] w fun e w' => e = .returned (.tuple #[.slice none 0 0, .int .i64 p, .int .i64 x]) ∧ Below w.heap.size w w' := by
  refine (rlex_any s w hs).mono ?_
  intro e w' hp
  unfold lexPost at hp
  rw [h] at hp
  exact hp
def wk1 : List Tok := [⟨⟨1, [115, 101, 108, 101, 99, 116], 0⟩, 0⟩, ⟨⟨1, [97, 49], 0⟩, 7⟩, ⟨⟨4, [44], 0⟩, 9⟩, ⟨⟨0, [], 0⟩, 14⟩]
def wk2 : List Tok := [⟨⟨3, [105, 116, 39, 115], 0⟩, 0⟩, ⟨⟨4, [60, 62], 0⟩, 7⟩, ⟨⟨2, [], 12⟩, 9⟩, ⟨⟨0, [], 0⟩, 11⟩]
theorem wk1_lex : lexL (⟨#[83, 69, 76, 69, 67, 84, 32, 97, 49, 44, 45, 45, 32, 120]⟩ : ByteArray).data.toList = .ok wk1 := by kernel_rfl
theorem wk2_lex : lexL (⟨#[39, 105, 116, 39, 39, 115, 39, 60, 62, 49, 50]⟩ : ByteArray).data.toList = .ok wk2 := by kernel_rfl
theorem wk3_lex : lexL (⟨#[97, 32, 35]⟩ : ByteArray).data.toList = .error (2, 30) := by kernel_rfl
set_option maxHeartbeats 4000000 in
set_option maxRecDepth 100000 in
theorem wakes_any (w : World) (hE : LexEnv w) : Calls Tryd.prog 8 #[] w (namePost true w) := by
  have HE := Lib.hid hE
  clear hE
  go_enter Tryd.func8, Tryd.ntmps8
  go_wp2_with fail
  refine (lex_ok wk1_lex HE.out (by decide)).mono ?_
  rintro e w1 ⟨A1, c1, rfl, o1, b1⟩
  have e1 : wk1.length = 4 := rfl
  rw [e1] at o1 ⊢
  have O1 := Lib.hid o1
  clear o1 e1
  go_wp2_with fail
  refine (lex_ok wk2_lex (HE.out.later b1) (by decide)).mono ?_
  rintro e w2 ⟨A2, c2, rfl, o2, b2⟩
  have e1 : wk2.length = 4 := rfl
  rw [e1] at o2 ⊢
  have O2 := Lib.hid o2
  have HE2 := Lib.hid ((HE.out.later b1).later b2)
  clear o2 e1
  go_wp2_with fail
  refine (lex_err wk3_lex HE2.out (by decide)).mono ?_
  rintro e w3 ⟨rfl, b3⟩
  have o1 : TokS w3 w.heap.size (.slice A1 4 c1) wk1 := (O1.out.later b2).later b3
  have o2 : TokS w3 w1.heap.size (.slice A2 4 c2) wk2 := O2.out.later b3
  obtain ⟨g1, rfl, _, _, h1⟩ := o1.cells (by decide)
  obtain ⟨g4, rfl, _, _, h4⟩ := o2.cells (by decide)
  obtain ⟨p0, p1, p2, p3⟩ := h1 0 _ rfl
  obtain ⟨r0, r1, r2, r3⟩ := h1 1 _ rfl
  obtain ⟨s0, s1, s2, s3⟩ := h1 3 _ rfl
  obtain ⟨t0, t1, t2, t3⟩ := h4 0 _ rfl
  obtain ⟨v0, v1, v2, v3⟩ := h4 2 _ rfl
  clear h1 h4
  simp at p0 p1 p2 p3 r0 r1 r2 r3 s0 s1 s2 s3 t0 t1 t2 t3 v0 v1 v2 v3
  have HR := Lib.hid (@Reserved_any w3.heap.size ⟨#[102, 114, 111, 109]⟩ w3 (Env.mk0 (HE2.out.later b3)))
  have HN := Lib.hid (fun w4 (h : LexEnv w4) => @Name_any w4.heap.size ⟨#[116, 105, 109, 101]⟩ w4 (Env.mk0 h) (by decide))
  have HE3 := Lib.hid (HE2.out.later b3)
  clear o1 o2 O1 O2 p0 p2 p3 r0 r2 r3 s1 s2 t0 t2 t3 v0 v1 v3
  have ef : resB (⟨#[102, 114, 111, 109]⟩ : ByteArray).data.toList = true := by decide +kernel
  have en : nameB (⟨#[116, 105, 109, 101]⟩ : ByteArray).data.toList = true := by decide +kernel
  rw [ef] at HR
  rw [en] at HN
  clear ef en
  go_wp2_with fail
  refine HR.out.mono ?_
  rintro e w4 ⟨rfl, b4⟩
  go_wp2_with fail
  refine (HN.out _ (HE3.out.later b4)).mono ?_
  rintro e w5 ⟨rfl, b5⟩
  go_wp2_with fail
  go_ret
  exact ⟨rfl, Later.then (Later.then (Later.then (Later.then b1 b2) b3) b4) b5⟩
end Go.Proofs.YtcmkfjepikncnaaDoor
