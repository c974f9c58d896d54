/- slices.stableCmpFunc, slices.SortStableFunc at rows. -/
import Derived.Test.YtekedkbjnedhgaaDoorSortS
namespace Go.Proofs.YtekedkbjnedhgaaDoor
open Go.ChangeShapes Go.WideShapes Go.ChangeAt Go.RowKit
set_option linter.unusedVariables false
set_option linter.unusedSimpArgs false
set_option maxRecDepth 100000

/-- every block of s rows is in order -/
def Blocks (E : Nat → RowS) (s n : Nat) : Prop := ∀ a, s ∣ a → Srt E a (min (a + s) n)
theorem dvd_step {d x y : Nat} (h1 : d ∣ x) (h2 : d ∣ y) (h : x < y) : x + d ≤ y := by
  obtain ⟨u, rfl⟩ := h1
  obtain ⟨v, rfl⟩ := h2
  have : u < v := Nat.lt_of_mul_lt_mul_left h
  have h3 := Nat.mul_le_mul_left d (show u + 1 ≤ v by omega)
  rw [Nat.mul_add, Nat.mul_one] at h3
  exact h3
/-- below a the blocks of s rows are in order -/
def Low (E : Nat → RowS) (s a : Nat) : Prop := ∀ x, s ∣ x → x + s ≤ a → Srt E x (x + s)
def High (E : Nat → RowS) (s a n : Nat) : Prop := ∀ x, s ∣ x → a ≤ x → Srt E x (min (x + s) n)
theorem Low.step {E F : Nat → RowS} {s a : Nat} (h : Low E s a) (hd : s ∣ a) (hw : Sw a (a + s) E F) (ho : Srt F a (a + s)) : Low F s (a + s) := by
  intro x hx hle
  rcases Nat.lt_or_ge x a with h1 | h1
  · have := dvd_step hx hd h1
    exact (h x hx this).congr fun i h2 h3 => hw.out i (.inl (by omega))
  · rw [show x = a by omega]; exact ho
theorem High.step {E F : Nat → RowS} {s a b n : Nat} (h : High E s a n) (hab : a ≤ b) (hw : Sw a b E F) : High F s b n := fun x hx hle => (h x hx (by omega)).congr fun i h2 h3 => hw.out i (.inr (by omega))
theorem blocks_end {E F : Nat → RowS} {s a n : Nat} (h : Low E s a) (hd : s ∣ a) (han : a ≤ n) (hn : n < a + s) (hw : Sw a n E F) (ho : Srt F a n) : Blocks F s n := by
  intro x hx
  rcases Nat.lt_trichotomy x a with h1 | h1 | h1
  · have h2 := dvd_step hx hd h1
    exact ((h x hx h2).congr fun i h3 h4 => hw.out i (.inl (by omega))).mono (Nat.le_refl _) (by omega)
  · subst h1; exact ho.mono (Nat.le_refl _) (by omega)
  · have h2 := dvd_step hd hx h1
    exact .none (by omega)

set_option maxHeartbeats 16000000 in
theorem stable_any (w0 : World) (g n cap : Nat) (D : Nat → RowS) (w : World) (h : SS w0 g n w D) (hn : n ≤ 1000) :
    Calls Tryd.prog 46 #[.slice (some ⟨g, 0, none⟩) n cap, .int .i64 n, .func (.func 16) #[] #[]] w (mergePost w0 g n 0 n D) := by
  have HS := Lib.hid h
  clear h
  go_enter Tryd.func46, Tryd.ntmps46
  go_wp2_with fail
  go_loopw [7, 8] (fun av bv wr => ∃ (a : Nat) (E : Nat → RowS), 20 ∣ a ∧ a ≤ n ∧ av = .int .i64 a ∧ bv = .int .i64 (a + 20) ∧ SS w0 g n wr E ∧ Sw 0 n D E ∧ Low E 20 a) (fun av _ _ => n - (intOf av).toNat)
  case atStart => exact ⟨0, D, ⟨0, rfl⟩, by omega, rfl, rfl, HS.out, .refl, fun x h1 h2 => by omega⟩
  case round =>
    clear HS
    obtain ⟨a, E, had, han, rfl, rfl, hs, hw, hl⟩ := hrel
    have H2 := Lib.hid hs
    have HW := Lib.hid hw
    have HL := Lib.hid hl
    have HA := Lib.hid had
    clear hs hw hl had
    by_cases hlt : a + 20 ≤ n
    · go_wp2_with fail
      refine (insertion_any w0 g n cap a (a + 20) E _ H2.out hn (by omega) (by omega)).mono ?_
      rintro e_ w1 ⟨rfl, F, hs, hw, ho⟩
      have H3 := Lib.hid hs
      have HW3 := Lib.hid (HW.out.trans (hw.mono (by omega) (by omega)))
      have HL3 := Lib.hid (HL.out.step HA.out hw ho)
      have HA3 := Lib.hid (Nat.dvd_add HA.out (Nat.dvd_refl 20))
      clear hs hw ho HA HL HW H2
      go_wp2_with fail
      go_roundw
      case rel => exact ⟨a + 20, F, HA3.out, by omega, by go_num, by go_num, H3.out, HW3.out, HL3.out⟩
      case measure => simp [intOf]; omega
    · go_wp2_with fail
      refine (insertion_any w0 g n cap a n E _ H2.out hn (by omega) (by omega)).mono ?_
      rintro e_ w1 ⟨rfl, F, hs, hw, ho⟩
      have H3 := Lib.hid hs
      have HW3 := Lib.hid (HW.out.trans (hw.mono (by omega) (by omega)))
      have HL3 := Lib.hid (blocks_end HL.out HA.out han (by omega) hw ho)
      clear hs hw ho HA HL HW H2
      go_wp2_with fail
      go_loopw [6] (fun sv wr => ∃ (s : Nat) (E : Nat → RowS), 0 < s ∧ s ≤ 2000 ∧ sv = .int .i64 s ∧ SS w0 g n wr E ∧ Sw 0 n D E ∧ Blocks E s n) (fun sv _ => n - (intOf sv).toNat)
      case atStart => exact ⟨20, F, by omega, by omega, rfl, H3.out, HW3.out, HL3.out⟩
      case round =>
        clear H3 HW3 HL3
        obtain ⟨s, E, hs0, hs1, rfl, hs, hw, hl⟩ := hrel
        have H2 := Lib.hid hs
        have HW := Lib.hid hw
        have HL := Lib.hid hl
        clear hs hw hl
        by_cases hlt : s < n
        · go_wp2_with fail
          go_loopw [7, 8] (fun av bv wr2 => ∃ (a : Nat) (E : Nat → RowS), 2 * s ∣ a ∧ a ≤ n ∧ av = .int .i64 a ∧ bv = .int .i64 (a + 2 * s : Nat) ∧ SS w0 g n wr2 E ∧ Sw 0 n D E ∧ Low E (2 * s) a ∧ High E s a n) (fun av _ _ => n - (intOf av).toNat)
          case atStart => exact ⟨0, E, ⟨0, rfl⟩, by omega, rfl, by go_num, H2.out, HW.out, fun x h1 h2 => by omega, fun x h1 h2 => HL.out x h1⟩
          case round =>
            clear H2 HW HL
            obtain ⟨a, E, had, han, rfl, rfl, hs, hw, hl, hh⟩ := hrel
            have H2 := Lib.hid hs
            have HW := Lib.hid hw
            have HL := Lib.hid hl
            have HH := Lib.hid hh
            have HA := Lib.hid had
            have HA1 := Lib.hid (show s ∣ a from Nat.dvd_trans ⟨2, by omega⟩ had)
            clear hs hw hl hh had
            by_cases hlt2 : a + 2 * s ≤ n
            · have hC := sym_any w0 g n cap hn (2 * s) a (a + s) (a + 2 * s) E wr (by omega) (by omega) (by omega) hlt2 H2.out ((HH.out a HA1.out (Nat.le_refl _)).mono (Nat.le_refl _) (by omega)) ((HH.out (a + s) (Nat.dvd_add HA1.out (Nat.dvd_refl s)) (by omega)).mono (Nat.le_refl _) (by omega))
              rw [show ((a + s : Nat) : Int) = (a : Int) + (s : Int) by omega, show ((a + 2 * s : Nat) : Int) = (a : Int) + 2 * (s : Int) by omega] at hC
              have HC := Lib.hid hC
              clear hC
              go_wp2_with fail
              refine HC.out.mono ?_
              rintro e_ w5 ⟨rfl, G, hs, hw, ho⟩
              have H3 := Lib.hid hs
              have HW3 := Lib.hid (HW.out.trans (hw.mono (by omega) (by omega)))
              have HL3 := Lib.hid (HL.out.step HA.out hw ho)
              have HH3 := Lib.hid (HH.out.step (by omega) hw)
              have HA3 := Lib.hid (Nat.dvd_add HA.out (Nat.dvd_refl (2 * s)))
              clear hs hw ho HA HA1 HL HH HW H2 HC
              go_wp2_with fail
              go_roundw
              case rel => exact ⟨a + 2 * s, G, HA3.out, by omega, by go_num, by go_num, H3.out, HW3.out, HL3.out, HH3.out⟩
              case measure => simp [intOf]; omega
            · by_cases hlt3 : a + s < n
              · have hC := sym_any w0 g n cap hn (2 * s) a (a + s) n E wr (by omega) (by omega) hlt3 (Nat.le_refl _) H2.out ((HH.out a HA1.out (Nat.le_refl _)).mono (Nat.le_refl _) (by omega)) ((HH.out (a + s) (Nat.dvd_add HA1.out (Nat.dvd_refl s)) (by omega)).mono (Nat.le_refl _) (by omega))
                rw [show ((a + s : Nat) : Int) = (a : Int) + (s : Int) by omega] at hC
                have HC := Lib.hid hC
                clear hC
                go_wp2_with fail
                refine HC.out.mono ?_
                rintro e_ w5 ⟨rfl, G, hs, hw, ho⟩
                have H3 := Lib.hid hs
                have HW3 := Lib.hid (HW.out.trans (hw.mono (by omega) (by omega)))
                have HL3 := Lib.hid (blocks_end HL.out HA.out han (by omega) hw ho)
                clear hs hw ho HA HA1 HL HH HW H2 HC
                go_wp2_with fail
                go_roundw
                case rel => exact ⟨2 * s, G, by omega, by omega, by go_num, H3.out, HW3.out, HL3.out⟩
                case measure => simp [intOf]; omega
              · have HL3 := Lib.hid (blocks_end HL.out HA.out han (by omega) .refl ((HH.out a HA1.out (Nat.le_refl _)).mono (Nat.le_refl _) (by omega)))
                clear HL HH HA HA1
                go_wp2_with fail
                go_roundw
                case rel => exact ⟨2 * s, E, by omega, by omega, by go_num, H2.out, HW.out, HL3.out⟩
                case measure => simp [intOf]; omega
        · have HE := Lib.hid (show Srt E 0 n from (HL.out 0 ⟨0, rfl⟩).mono (Nat.le_refl _) (by omega))
          go_wp2_with fail
          exact bodyPost_ret (v := .tuple #[]) (by simp [results, Tryd.results46, go_sem]) rfl ⟨rfl, E, H2.out, HW.out, HE.out⟩

theorem sortStable_any (w0 : World) (g n cap : Nat) (D : Nat → RowS) (w : World) (h : SS w0 g n w D) (hn : n ≤ 1000) :
    Calls Tryd.prog 34 #[.slice (some ⟨g, 0, none⟩) n cap, .func (.func 16) #[] #[]] w (mergePost w0 g n 0 n D) := by
  have HC := stable_any w0 g n cap D w h hn
  clear h
  go_enter Tryd.func34, Tryd.ntmps34
  go_wp2_with fail
  refine HC.mono ?_
  rintro e_ w1 ⟨rfl, h1⟩
  go_wp2_with fail
  exact bodyPost_ret (v := .tuple #[]) (by simp [results, Tryd.results34, go_sem]) rfl ⟨rfl, h1⟩
def nonePost (w : World) (e : Ending) (w' : World) : Prop := e = .returned (.tuple #[]) ∧ w' = w
theorem insertion_none (A : Option Addr) (cap : Nat) (w : World) :
    Calls Tryd.prog 52 #[.slice A 0 cap, .int .i64 0, .int .i64 0, .func (.func 16) #[] #[]] w (nonePost w) := by
  go_enter Tryd.func52, Tryd.ntmps52
  go_wp2_with fail
  go_loopw [8] (fun iv wr => iv = .int .i64 1 ∧ wr = w) (fun _ _ => 0)
  case atStart => exact ⟨rfl, rfl⟩
  case round =>
    obtain ⟨rfl, rfl⟩ := hrel
    go_wp2_with fail
    exact bodyPost_ret (v := .tuple #[]) (by simp [results, Tryd.results52, go_sem]) rfl ⟨rfl, rfl⟩
theorem stable_none (A : Option Addr) (cap : Nat) (w : World) :
    Calls Tryd.prog 46 #[.slice A 0 cap, .int .i64 0, .func (.func 16) #[] #[]] w (nonePost w) := by
  go_enter Tryd.func46, Tryd.ntmps46
  go_wp2_with fail
  go_loopw [7, 8] (fun av bv wr => av = .int .i64 0 ∧ bv = .int .i64 20 ∧ wr = w) (fun _ _ _ => 0)
  case atStart => exact ⟨rfl, rfl, rfl⟩
  case round =>
    obtain ⟨rfl, rfl, rfl⟩ := hrel
    go_wp2_with fail
    refine (insertion_none A cap _).mono ?_
    rintro e_ w1 ⟨rfl, rfl⟩
    go_wp2_with fail
    go_loopw [6] (fun sv wr => sv = .int .i64 20 ∧ wr = w1) (fun _ _ => 0)
    case atStart => exact ⟨rfl, rfl⟩
    case round =>
      obtain ⟨rfl, rfl⟩ := hrel
      go_wp2_with fail
      exact bodyPost_ret (v := .tuple #[]) (by simp [results, Tryd.results46, go_sem]) rfl ⟨rfl, rfl⟩
theorem sortStable_none (A : Option Addr) (cap : Nat) (w : World) :
    Calls Tryd.prog 34 #[.slice A 0 cap, .func (.func 16) #[] #[]] w (nonePost w) := by
  go_enter Tryd.func34, Tryd.ntmps34
  go_wp2_with fail
  refine (stable_none A cap w).mono ?_
  rintro e_ w1 ⟨rfl, rfl⟩
  go_wp2_with fail
  exact bodyPost_ret (v := .tuple #[]) (by simp [results, Tryd.results34, go_sem]) rfl ⟨rfl, rfl⟩
end Go.Proofs.YtekedkbjnedhgaaDoor
