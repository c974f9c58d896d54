/- Plain: the search of the symmetric merge, the place p named. -/
import Derived.Test.YtekedkbjnedhgaaDoorSortM
namespace Go.Proofs.YtekedkbjnedhgaaDoor
theorem Found.goP {D : Nat → RowS} {a m b mid s0 r0 s r c p : Nat} (hp : p = mid + m - 1) (he : Ends2 a m b mid s0 r0) (h1 : Srt D a m) (h2 : Srt D m b) (h : Found D p s0 r0 s r) (hs : s0 ≤ s) (hr : r ≤ r0) (hc : s ≤ c) (hc2 : c < r) :
    (¬ lt (D (p - c)) (D c) → Found D p s0 r0 (c + 1) r) ∧ (lt (D (p - c)) (D c) → Found D p s0 r0 s c) := by
  subst hp
  exact Found.go he h1 h2 h hs hr hc hc2
theorem sym_plainP {D : Nat → RowS} {a m b mid s0 r0 s p f : Nat} (hp : p = mid + m - 1) (hf : f = mid + m - s) (he : Ends2 a m b mid s0 r0) (h1 : Srt D a m) (h2 : Srt D m b) (h : Found D p s0 r0 s s) (hs : s0 ≤ s) (hr : s ≤ r0) :
    Srt (rotF D s m f) a s ∧ Srt (rotF D s m f) s mid ∧ Srt (rotF D s m f) mid f ∧ Srt (rotF D s m f) f b ∧
    ∀ x y, a ≤ x → x < mid → mid ≤ y → y < b → le (rotF D s m f x) (rotF D s m f y) := by
  subst hp hf
  exact sym_plain he h1 h2 h hs hr
end Go.Proofs.YtekedkbjnedhgaaDoor
