/- slices.symMergeCmpFunc, whole; slices.stableCmpFunc; slices.SortStableFunc at rows. -/
import Derived.Test.YtekedkbjnedhgaaDoorSortG
import Derived.Test.YtekedkbjnedhgaaDoorSortH
import Derived.Test.YtekedkbjnedhgaaDoorSortK
namespace Go.Proofs.YtekedkbjnedhgaaDoor
open Go.ChangeShapes Go.WideShapes Go.ChangeAt Go.RowKit
set_option linter.unusedVariables false
set_option linter.unusedSimpArgs false
set_option maxRecDepth 100000

theorem found_some {D : Nat → RowS} {a m b mid s0 r0 p : Nat} (hp : p = mid + m - 1) (he : Ends2 a m b mid s0 r0) (h1 : Srt D a m) (h2 : Srt D m b) (hsr : s0 ≤ r0) : ∃ s, s0 ≤ s ∧ s ≤ r0 ∧ Found D p s0 r0 s s := by
  have key : ∀ d s, r0 - s ≤ d → s0 ≤ s → s ≤ r0 → Found D p s0 r0 s r0 → ∃ s, s0 ≤ s ∧ s ≤ r0 ∧ Found D p s0 r0 s s := by
    intro d
    induction d with
    | zero => intro s h3 h4 h5 h6; exact ⟨s, h4, h5, by rw [show r0 = s by omega] at h6 ⊢; exact h6⟩
    | succ d ih =>
      intro s h3 h4 h5 h6
      by_cases hs : s = r0
      · exact ⟨s, h4, h5, by rw [← hs] at h6 ⊢; exact h6⟩
      · have k := Found.goP hp he h1 h2 h6 h4 (Nat.le_refl _) (Nat.le_refl s) (by omega)
        by_cases hl : lt (D (p - s)) (D s)
        · exact ⟨s, h4, h5, k.2 hl⟩
        · exact ih (s + 1) (by omega) (by omega) (by omega) (k.1 hl)
  exact key (r0 - s0) s0 (Nat.le_refl _) (Nat.le_refl _) hsr ⟨fun c h1 h2 => by omega, fun c h1 h2 => by omega⟩

theorem sym_any (w0 : World) (g n cap : Nat) (hn : n ≤ 1000) : ∀ (N a m b : Nat) (D : Nat → RowS) (w : World), b - a ≤ N → a < m → m < b → b ≤ n → SS w0 g n w D → Srt D a m → Srt D m b →
    Calls Tryd.prog 53 #[.slice (some ⟨g, 0, none⟩) n cap, .int .i64 a, .int .i64 m, .int .i64 b, .func (.func 16) #[] #[]] w (mergePost w0 g n a b D) := by
  intro N
  induction N with
  | zero => intro a m b D w h0 h1 h2; omega
  | succ N ih =>
    intro a m b D w h0 h1 h2 hb h q1 q2
    by_cases c1 : m = a + 1
    · subst c1
      have := sym_one w0 g n cap a b D w h hn h2 hb q2
      simpa using this
    by_cases c2 : b = m + 1
    · subst c2
      have := sym_two w0 g n cap a m D w h hn (by omega) hb q1
      simpa using this
    have ih' : ∀ a' m' b' E W, a' < m' → m' < b' → b' ≤ n → b' - a' < b - a → SS w0 g n W E → Srt E a' m' → Srt E m' b' → Calls Tryd.prog 53 #[.slice (some ⟨g, 0, none⟩) n cap, .int .i64 (a' : Nat), .int .i64 (m' : Nat), .int .i64 (b' : Nat), .func (.func 16) #[] #[]] W (mergePost w0 g n a' b' E) :=
      fun a' m' b' E W k1 k2 k3 k4 k5 k6 k7 => ih a' m' b' E W (by omega) k1 k2 k3 k5 k6 k7
    obtain ⟨mid, hmid⟩ : ∃ q : Nat, q = (a + b) / 2 := ⟨_, rfl⟩
    obtain ⟨p, hp⟩ : ∃ q : Nat, q = mid + m - 1 := ⟨_, rfl⟩
    by_cases hm : mid < m
    · obtain ⟨s0, hs0⟩ : ∃ q : Nat, q = mid + m - b := ⟨_, rfl⟩
      obtain ⟨r0, hr0⟩ : ∃ q : Nat, q = mid := ⟨_, rfl⟩
      have he : Ends2 a m b mid s0 r0 := ⟨⟨h1, h2⟩, hmid, .inl ⟨by omega, hs0, hr0⟩⟩
      obtain ⟨s, hs1, hs2, hF⟩ := found_some hp he q1 q2 (by omega)
      obtain ⟨f, hf⟩ : ∃ q : Nat, q = mid + m - s := ⟨_, rfl⟩
      obtain ⟨e1, e2, e3, e4, e5⟩ := sym_plainP hp hf he q1 q2 hF hs1 hs2
      by_cases c3 : m < f
      · by_cases c4 : a < s <;> by_cases c5 : f < b
        · exact sym_1_A11 w0 g n cap a m b mid p s f s0 r0 D w h hn (by omega) (by omega) hb hmid hp hf hs0 hr0 hm hs1 hs2 hF e1 e2 e3 e4 e5 (by omega) c3 c4 (by omega) (by omega) c5 ih'
        · exact sym_1_A10 w0 g n cap a m b mid p s f s0 r0 D w h hn (by omega) (by omega) hb hmid hp hf hs0 hr0 hm hs1 hs2 hF e1 e2 e3 e4 e5 (by omega) c3 c4 (by omega) (by omega) c5 ih'
        · exact sym_1_A01 w0 g n cap a m b mid p s f s0 r0 D w h hn (by omega) (by omega) hb hmid hp hf hs0 hr0 hm hs1 hs2 hF e1 e2 e3 e4 e5 (by omega) c3 c4 (by omega) (by omega) c5 ih'
        · exact sym_1_A00 w0 g n cap a m b mid p s f s0 r0 D w h hn (by omega) (by omega) hb hmid hp hf hs0 hr0 hm hs1 hs2 hF e1 e2 e3 e4 e5 (by omega) c3 c4 (by omega) (by omega) c5 ih'
      · exact sym_1_B w0 g n cap a m b mid p s f s0 r0 D w h hn (by omega) (by omega) hb hmid hp hf hs0 hr0 hm hs1 hs2 hF e1 e2 e3 e4 e5 (by omega) c3 (by omega) (by omega) (by omega) (by omega) ih'
    · obtain ⟨s0, hs0⟩ : ∃ q : Nat, q = a := ⟨_, rfl⟩
      obtain ⟨r0, hr0⟩ : ∃ q : Nat, q = m := ⟨_, rfl⟩
      have he : Ends2 a m b mid s0 r0 := ⟨⟨h1, h2⟩, hmid, .inr ⟨by omega, hs0, hr0⟩⟩
      obtain ⟨s, hs1, hs2, hF⟩ := found_some hp he q1 q2 (by omega)
      obtain ⟨f, hf⟩ : ∃ q : Nat, q = mid + m - s := ⟨_, rfl⟩
      obtain ⟨e1, e2, e3, e4, e5⟩ := sym_plainP hp hf he q1 q2 hF hs1 hs2
      by_cases c3 : s < m
      · by_cases c4 : a < s <;> by_cases c5 : f < b
        · exact sym_2_A11 w0 g n cap a m b mid p s f s0 r0 D w h hn (by omega) (by omega) hb hmid hp hf hs0 hr0 hm hs1 hs2 hF e1 e2 e3 e4 e5 c3 (by omega) c4 (by omega) (by omega) c5 ih'
        · exact sym_2_A10 w0 g n cap a m b mid p s f s0 r0 D w h hn (by omega) (by omega) hb hmid hp hf hs0 hr0 hm hs1 hs2 hF e1 e2 e3 e4 e5 c3 (by omega) c4 (by omega) (by omega) c5 ih'
        · exact sym_2_A01 w0 g n cap a m b mid p s f s0 r0 D w h hn (by omega) (by omega) hb hmid hp hf hs0 hr0 hm hs1 hs2 hF e1 e2 e3 e4 e5 c3 (by omega) c4 (by omega) (by omega) c5 ih'
        · exact sym_2_A00 w0 g n cap a m b mid p s f s0 r0 D w h hn (by omega) (by omega) hb hmid hp hf hs0 hr0 hm hs1 hs2 hF e1 e2 e3 e4 e5 c3 (by omega) c4 (by omega) (by omega) c5 ih'
      · by_cases c4 : s < mid
        · exact sym_2_C1 w0 g n cap a m b mid p s f s0 r0 D w h hn (by omega) (by omega) hb hmid hp hf hs0 hr0 hm hs1 hs2 hF e1 e2 e3 e4 e5 c3 (by omega) c4 (by omega) ih'
        · exact sym_2_C2 w0 g n cap a m b mid p s f s0 r0 D w h hn (by omega) (by omega) hb hmid hp hf hs0 hr0 hm hs1 hs2 hF e1 e2 e3 e4 e5 c3 (by omega) c4 (by omega) ih'
end Go.Proofs.YtekedkbjnedhgaaDoor
