/- One more element at the end of a row of one's own, inside a region that draws its order: what else stays. -/
import Derived.Test.YtcmkfjepikncnaaDoorOwn
import Derived.Test.YtcmkfjepikncnaaDoorTail
import Derived.Laws.OwnMore
import Derived.Laws.Append
namespace Go.Proofs.YtcmkfjepikncnaaDoor
open Go.RowKit
set_option linter.unusedVariables false

section
variable {α : Type} {f : α → List Value} {e : TypeId} {size : Nat} {base : Nat} {lv : Value} {l : List α} {y : α}
/-- how worlds follow each other while y is laid behind l: no block but the row's own turns, what reads as l, and as l and y, stays -/
structure AR (f : α → List Value) (e : TypeId) (size base : Nat) (lv : Value) (l : List α) (y : α) (a b : World) : Prop where
  grown : a.grownBy b lv.ownBlock
  old : OwnF f e size a base lv l → OwnF f e size b base lv l
  new : ∀ u, OwnF f e size a base u (l ++ [y]) → OwnF f e size b base u (l ++ [y])
theorem AR.refl (w : World) : AR f e size base lv l y w w := ⟨⟨rfl, rfl, rfl, Nat.le_refl _, fun _ _ _ => rfl⟩, id, fun _ => id⟩
theorem AR.trans {a b c : World} (h : AR f e size base lv l y a b) (k : AR f e size base lv l y b c) : AR f e size base lv l y a c :=
  ⟨h.grown.trans k.grown, fun o => k.old (h.old o), fun u o => k.new u (h.new u o)⟩
theorem AR.later {a b : World} (h : Below a.heap.size a b) : AR f e size base lv l y a b :=
  ⟨⟨h.os, h.tape, h.output, h.size, fun k hk _ => h.block k hk⟩, fun o => o.later h, fun u o => o.later h⟩
theorem AR.drew (w : World) : AR f e size base lv l y w w.drew := AR.later (Later.drew w)

theorem later_grown {a b : World} (h : a.grownBy b none) : Below a.heap.size a b := ⟨h.os, h.tape, h.output, h.size, fun k hk => h.block k hk (by simp)⟩

theorem run_append_one {P : Program} {w : World} (t ty : TypeId) (z : Value) (bytes : Nat) (ht : P.underlying t = some (.slice e)) (hinfo : (P.info? e).map (fun i => (i.zero, i.size, i.bytes)) = some (some z, size, bytes)) (hzs : z.cells.size = size) (hsz : 0 < size)
    (hf : ∀ x, (f x).length = size) (h1 : ∀ u ∈ f y, u.oneCell' = true) (hown : OwnF f e size w base lv l)
    (g0 : Nat) (hg0 : Blk w g0 e (f y).toArray) (hlen : (l.length + 1) * bytes ≤ 140737488355328) (hlen2 : l.length + 1 ≤ 140737488355328) (hbase : base ≤ w.heap.size) :
    ∃ v' w', (Builtin.append_ #[t, t] ty #[lv, .slice (some ⟨g0, 0, none⟩) 1 1]).run P w = .ok v' w' ∧ OwnF f e size w' base v' (l ++ [y]) ∧ AR f e size base lv l y w w' := by
  obtain ⟨i0, hi0, hz0, hz1, hz2⟩ := info_parts hinfo
  have hnews : ∀ j u, (f y)[j]? = some u → w.cell? ((⟨g0, 0, none⟩ : Addr).add j) = some u := by
    intro j u hu
    have : (Addr.add ⟨g0, 0, none⟩ j) = ⟨g0, j, none⟩ := by unfold Addr.add; split <;> simp_all
    rw [this, hg0.cell]
    simpa using hu
  have hl1 : (f y).length = 1 * size := by rw [hf]; omega
  have conv : ∀ {w' : World} {v' : Value}, w'.ownsRow base e size v' (l.length + 1) (l.flatMap f ++ f y) → OwnF f e size w' base v' (l ++ [y]) := fun h => by
    unfold OwnF
    rw [List.length_append, List.flatMap_append]
    simpa using h
  by_cases hroom : ∃ g cap, lv = .slice (some ⟨g, 0, none⟩) l.length cap ∧ l.length + 1 ≤ cap
  · obtain ⟨g, cap, rfl, hr⟩ := hroom
    obtain ⟨w', hrun, ho, hg⟩ := run_append_fits (P := P) w base t ty e i0 size ht hi0 hz1 g l.length cap (l.flatMap f) hown ⟨g0, 0, none⟩ 1 1 (f y) hl1 hnews h1 hr
    refine ⟨_, w', hrun, conv ho, hg, fun _ => ?_, fun u hu => ?_⟩
    · rcases ho.2 with ⟨h, _⟩ | ⟨g', cap', cur, h, hbg, hgg, hn, hm, hs, ht'⟩
      · cases h
      · injection h with h1' h2' h3'
        injection h1' with h1'
        injection h1' with h1' _ _
        subst h1' h3'
        refine ⟨hown.1, .inr ⟨g, cap, cur, rfl, hbg, hgg, by omega, hm, hs, ?_⟩⟩
        have hx := congrArg (List.take (l.length * size)) ht'
        rw [List.take_take, Nat.min_eq_left (Nat.mul_le_mul_right _ (by omega)), List.take_append_of_le_length (Nat.le_of_eq hown.1.symm)] at hx
        rw [hx]
        exact List.take_of_length_le (Nat.le_of_eq hown.1)
    · by_cases hb : u.ownBlock = some g
      · rcases hu.2 with ⟨rfl, _⟩ | ⟨g', cap', cur, rfl, hbg, hgg, hn, hm, hs, ht'⟩
        · simp [Value.ownBlock] at hb
        · simp only [Value.ownBlock, Option.some.injEq] at hb
          subst hb
          rcases hown.2 with ⟨h, _⟩ | ⟨g2, cap2, cur2, h, _, hgg2, _, _, hs2, _⟩
          · cases h
          · injection h with h1' h2' h3'
            injection h1' with h1'
            injection h1' with h1' _ _
            subst h1' h3'
            rw [hgg] at hgg2
            injection hgg2 with hgg2
            injection hgg2 with hgg2 _ _
            subst hgg2
            have hcap : cap' = cap := Nat.eq_of_mul_eq_mul_right hsz (hs.symm.trans hs2)
            subst hcap
            have := conv ho
            rw [List.length_append] 
            exact this
      · exact hu.keep fun q hq => hg.block q (hu.lt hq).1 fun e => hb (by rw [hq]; exact e)
  · obtain ⟨v', w', hrun, ho, hg, _, hat⟩ := run_append_own_at (P := P) w base t ty e i0 z size bytes ht hi0 hz0 hz1 hz2 hzs hsz lv l.length (l.flatMap f) hown ⟨g0, 0, none⟩ 1 1 (f y) hl1 hnews h1 (by unfold maxLen; omega) hlen hbase
    have hlat : Below w.heap.size w w' := by
      rcases hown.2 with ⟨rfl, h0⟩ | ⟨g, cap, cur, rfl, hbg, hgg, hn, hm, hs, htk⟩
      · have hr := run_append_nil (P := P) w t ty e i0 z ht hi0 hz0 ⟨g0, 0, none⟩ 1 1 (f y) (by rw [hz1]; exact hl1) hnews (by omega) (by omega) (by rw [hz2]; have : 1 * bytes ≤ (l.length + 1) * bytes := Nat.mul_le_mul_right _ (by omega); omega)
        rw [hr] at hrun
        injection hrun with _ hw
        rw [← hw]
        exact (Later.drew w).alloc (Nat.le_refl _) _
      · have hno : ¬ l.length + 1 ≤ cap := fun h => hroom ⟨g, cap, rfl, h⟩
        have holds : ∀ j u, (l.flatMap f)[j]? = some u → w.cell? ((⟨g, 0, none⟩ : Addr).add j) = some u := World.ownsRow.cells hown (g := g) rfl
        have hr := run_append_grow (P := P) w t ty e i0 z ht hi0 hz0 ⟨g, 0, none⟩ l.length cap (l.flatMap f) (by rw [hz1]; exact hown.1) holds ⟨g0, 0, none⟩ 1 1 (f y) (by rw [hz1]; exact hl1) hnews (by omega) (by omega) (by rw [hz2]; exact growslice_fits (by omega) hlen)
        rw [hr] at hrun
        injection hrun with _ hw
        rw [← hw]
        exact (Later.drew w).alloc (Nat.le_refl _) _
    exact ⟨v', w', hrun, conv ho, AR.later hlat⟩
end
end Go.Proofs.YtcmkfjepikncnaaDoor
