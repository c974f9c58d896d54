/- token: the tables of Go's library that words are read by. -/
import Derived.Test.YtcmkfjepikncnaaDoorLexS
import Derived.Shelf.Strings.Fields
namespace Go.Proofs.YtcmkfjepikncnaaDoor
open Go.ChangeShapes Go.WideShapes Go.ChangeAt Go.RowKit Go.Shelf
set_option linter.unusedVariables false
set_option linter.unusedSimpArgs false

theorem var_later {P : Program} {w w' : World} {n : String} {x : Array Value} (h : w.var? P n = some x) (hb : Below w.heap.size w w') : w'.var? P n = some x := by
  unfold World.var? at *
  cases hg : P.globalNamed n with
  | none => rw [hg] at h; simp at h
  | some g =>
    rw [hg] at h
    simp only [Option.bind_some] at h ⊢
    have : g < w.heap.size := by
      rcases Nat.lt_or_ge g w.heap.size with hlt | hge
      · exact hlt
      · rw [Array.getElem?_eq_none hge] at h; simp at h
    rw [hb.block g this]; exact h
theorem tab_later {P : Program} {w w' : World} {n : String} {k : IntKind} {zs : List Int} (h : Lib.TabIs P w n k zs) (hb : Below w.heap.size w w') : Lib.TabIs P w' n k zs := by
  unfold Lib.TabIs at *
  exact var_later h hb
/-- what Go's library has laid -/
structure LexEnv (w : World) : Prop where
  space : Lib.TabIs Tryd.prog w "strings.asciiSpace" .u8 Lib.asciiSpaceTab
  range : ∃ tp p, w.var? Tryd.prog "strconv.ErrRange" = some #[.iface tp p]
theorem LexEnv.later {w w' : World} (h : LexEnv w) (hb : Below w.heap.size w w') : LexEnv w' := by
  obtain ⟨tp, p, h2⟩ := h.range
  exact ⟨tab_later h.space hb, tp, p, var_later h2 hb⟩
/-- .. in a world of B blocks, and since then no block below B turned -/
def Env (B : Nat) (w : World) : Prop := ∃ w0, LexEnv w0 ∧ w0.heap.size = B ∧ Below B w0 w
theorem Env.mk0 {w : World} (h : LexEnv w) : Env w.heap.size w := ⟨w, h, rfl, Below.refl _ _⟩
theorem Env.lib {B : Nat} {w : World} (h : Env B w) : LexEnv w := by
  obtain ⟨w0, h1, rfl, h2⟩ := h
  exact h1.later h2
theorem Env.size {B : Nat} {w : World} (h : Env B w) : B ≤ w.heap.size := by
  obtain ⟨w0, h1, rfl, h2⟩ := h
  exact h2.size
theorem Env.below {B : Nat} {w w' : World} (h : Env B w) (hb : Below B w w') : Env B w' := by
  obtain ⟨w0, h1, h2, h3⟩ := h
  exact ⟨w0, h1, h2, h3.trans hb⟩
theorem Env.later {B : Nat} {w w' : World} (h : Env B w) (hb : Below w.heap.size w w') : Env B w' := h.below (hb.mono h.size)
theorem Env.grown {B g : Nat} {w w' : World} (h : Env B w) (hg : w.grownBy w' (some g)) (hB : B ≤ g) : Env B w' := h.below (below_grown hg h.size hB)
theorem Env.at_ {B g a : Nat} {s : ByteArray} {w w' : World} (h : Env B w) (hg : At s g w a w') (hB : B ≤ g) : Env B w' := h.grown hg.2 hB

/-! ### a number -/
theorem parse_ok {s : ByteArray} (hs : s.size ≤ 4294967280) (hne : s.data.toList ≠ []) (hd : ∀ c ∈ s.data.toList, digitB c = true) (h : valL s.data.toList ≤ 9223372036854775807) (w : World) :
    Calls Tryd.prog 45 #[.string s, .int .i64 10, .int .i64 64] w fun e w' => e = .returned (.tuple #[.int .i64 (valL s.data.toList : Int), .nilIface]) ∧ Below w.heap.size w w' := by
  refine (Tryd.strconv_ParseInt_10_at64_ok s (by omega) _ (by rw [int_digits hne hd, if_pos h]) w).mono ?_
  rintro e w' ⟨he, hw⟩
  refine ⟨he, ?_⟩
  rcases hw with rfl | ⟨t, rfl⟩
  · exact Below.refl _ _
  · exact ⟨rfl, rfl, rfl, by rw [Lib.bytesWorld_size]; omega, fun j hj => Lib.bytesWorld_at_old w _ _ j hj⟩
theorem parse_range {B : Nat} {s : ByteArray} (hs : s.size ≤ 4294967280) (hne : s.data.toList ≠ []) (hd : ∀ c ∈ s.data.toList, digitB c = true) (h : ¬ valL s.data.toList ≤ 9223372036854775807) {w : World} (hE : Env B w) :
    Calls Tryd.prog 45 #[.string s, .int .i64 10, .int .i64 64] w fun e w' => (∃ N, e = .returned (.tuple #[.int .i64 9223372036854775807, .iface 96 (.pointer (some ⟨N, 0, none⟩))])) ∧ Below w.heap.size w w' := by
  obtain ⟨tp, p, hv⟩ := hE.lib.range
  refine (Tryd.strconv_ParseInt_10_at64_range_var s (by omega) (by rw [int_digits hne hd, if_neg h]) tp p w hv).mono ?_
  rintro e w' ⟨N, he, _, _, hb⟩
  refine ⟨⟨N, ?_⟩, hb⟩
  have : Lib.intSat 64 s.data.toList = 9223372036854775807 := by
    match hl : s.data.toList with
    | [] => exact absurd hl hne
    | c :: r =>
      have := hd c (by rw [hl]; exact List.mem_cons_self)
      simp [digitB, UInt8.le_iff_toNat_le] at this
      have e2 : ¬ c.toNat = 45 := by omega
      simp [Lib.intSat, e2]
  rw [he, this]
end Go.Proofs.YtcmkfjepikncnaaDoor
