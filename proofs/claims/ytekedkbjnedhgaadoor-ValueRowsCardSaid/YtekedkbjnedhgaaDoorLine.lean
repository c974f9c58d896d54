/- value.line, value.Line. -/
import Derived.Test.YtekedkbjnedhgaaDoorWord
import Derived.Lib.ItoaLen
import Derived.Lib.Join
namespace Go.Proofs.YtekedkbjnedhgaaDoor
open Go.ChangeShapes Go.WideShapes Go.ChangeAt Go.RowKit
set_option linter.unusedVariables false
set_option linter.unusedSimpArgs false

def Val.Small (v : Val) : Prop := v.Ok ∧ v.s.size ≤ 300
def lineL (l : List Val) : List UInt8 := Lib.join (l.map wordL) [44, 32]
theorem word_len {v : Val} (h : v.Small) : (wordL v).length ≤ 700 := by
  unfold wordL
  split
  · split
    · simp
    · split
      · split <;> simp
      · split
        · have := Lib.itoa_length_le v.n h.1.1 h.1.2
          omega
        · have h1 := esc_len v.s.data.toList
          have h2 : v.s.data.toList.length = v.s.size := by simp
          have h3 := h.2
          simp
          omega
  · simp
theorem join_len (sep : List UInt8) (hs : sep.length = 2) (m : Nat) : ∀ xs : List (List UInt8), (∀ x ∈ xs, x.length ≤ m) → (Lib.join xs sep).length ≤ xs.length * (m + 2)
  | [], _ => by simp [Lib.join, List.intercalate]
  | [x], h => by
    have := h x (by simp)
    simp [Lib.join, List.intercalate]
    omega
  | x :: y :: r, h => by
    have ih := join_len sep hs m (y :: r) (fun z hz => h z (List.mem_cons_of_mem _ hz))
    have hx := h x (by simp)
    have e : Lib.join (x :: y :: r) sep = x ++ (sep ++ Lib.join (y :: r) sep) := by simp [Lib.join, List.intercalate]
    rw [e]
    simp only [List.length_append, List.length_cons] at ih ⊢
    rw [hs]
    have : (r.length + 1 + 1) * (m + 2) = (r.length + 1) * (m + 2) + (m + 2) := Nat.succ_mul _ _
    omega
def strCell (s : List UInt8) : List Value := [.string ⟨s.toArray⟩]
theorem str_info : (Tryd.prog.info? 9).map (fun i => (i.zero, i.size, i.bytes)) = some (some (.string ⟨#[]⟩), 1, 16) := by kernel_rfl

theorem add_none (b off n : Nat) : Addr.add ⟨b, off, none⟩ n = ⟨b, off + n, none⟩ := by
  unfold Addr.add
  split
  · rename_i h; subst h; rfl
  · rfl
theorem flat_one (l : List (List UInt8)) : l.flatMap strCell = l.map fun x => Value.string ⟨x.toArray⟩ := by
  induction l with
  | nil => rfl
  | cons x l ih => simp only [List.flatMap_cons, List.map_cons, ih]; rfl
theorem own_str {w : World} {base : Nat} {v : Value} {l : List (List UInt8)} (h : OwnF strCell 9 1 w base v l) (hne : l ≠ []) : ∃ g c, v = .slice (some ⟨g, 0, none⟩) l.length c ∧ g < w.heap.size ∧ l.length ≤ c ∧ ∀ (j : Nat) x, l[j]? = some x → w.cell? ⟨g, 0 + j, none⟩ = some (.string ⟨x.toArray⟩) := by
  obtain ⟨A, c, rfl, hr, hc, hA⟩ := h.reads
  rcases hA with h0 | ⟨g, rfl, hg⟩
  · exact absurd h0 hne
  · obtain ⟨ad, e, hb, hcell⟩ := hr.2 (List.length_pos_iff.2 hne)
    injection e with e
    subst e
    refine ⟨g, c, rfl, hb, hc, fun j x hx => ?_⟩
    have := hcell j (.string ⟨x.toArray⟩) (by rw [flat_one, List.getElem?_map, hx]; rfl)
    rw [add_none] at this
    exact this
/-- strings.Join of what line has made -/
theorem join_own (ov : Value) (l : List (List UInt8)) (w : World) (base : Nat) (h : OwnF strCell 9 1 w base ov l) (hm : l.length ≤ 1000) (hl : ∀ x ∈ l, x.length ≤ 700) :
    Calls Tryd.prog 45 #[ov, .string ⟨#[44, 32]⟩] w (wordPost (Lib.join l [44, 32]) w) := by
  cases l with
  | nil =>
    obtain ⟨A, c, rfl, _⟩ := h.reads
    refine (Tryd.strings_Join_none A c ⟨#[44, 32]⟩ w).mono ?_
    rintro e w' ⟨rfl, rfl⟩
    exact ⟨rfl, Below.refl _ _⟩
  | cons x r =>
    obtain ⟨g, c, rfl, hg, hc, hcell⟩ := own_str h (by simp)
    have hjl := join_len [44, 32] rfl 700 (x :: r) hl
    have hmap : ((x :: r).map fun y : List UInt8 => (⟨y.toArray⟩ : ByteArray)).map (fun y => y.data.toList) = x :: r := by
      rw [List.map_map]
      exact (List.map_congr_left (fun y _ => by simp)).trans (List.map_id _)
    have hln : ((x :: r).map fun y : List UInt8 => (⟨y.toArray⟩ : ByteArray)).length = (x :: r).length := List.length_map ..
    have hj := Tryd.strings_Join g 0 c ((x :: r).map fun y : List UInt8 => (⟨y.toArray⟩ : ByteArray)) ⟨#[44, 32]⟩ w
    rw [hmap, hln] at hj
    refine (hj ?_ hg (by omega) hc ?_).mono ?_
    · intro j y hy
      rw [List.getElem?_map] at hy
      cases hx : (x :: r)[j]? with
      | none => rw [hx] at hy; simp at hy
      | some z =>
        rw [hx] at hy
        simp only [Option.map_some, Option.some.injEq] at hy
        subst hy
        exact hcell j z hx
    · show (Lib.join (x :: r) [44, 32]).length ≤ _
      omega
    · rintro e w' ⟨rfl, b⟩
      exact ⟨rfl, b⟩

set_option maxHeartbeats 2000000 in
set_option maxRecDepth 100000 in
theorem line_any (A : Option Addr) (c : Nat) (l : List Val) (w : World) (h : RV w w.heap.size A l) (hm : l.length ≤ 1000) (hs : ∀ v ∈ l, v.Small) (hE : Env w) :
    Calls Tryd.prog 32 #[.slice A l.length c] w (wordPost (lineL l) w) := by
  have HR := Lib.hid h
  have HS := Lib.hid hs
  have HE := Lib.hid hE
  clear h hs hE
  go_enter Tryd.func32, Tryd.ntmps32
  go_wp2_with fail
  go_loopw [3, 8] (fun ov i wr => ∃ k : Nat, k ≤ l.length ∧ i = .int .i64 k ∧ OwnF strCell 9 1 wr w.heap.size ov ((l.take k).map wordL) ∧ Below w.heap.size w wr) (fun _ i _ => l.length - (intOf i).toNat)
  case atStart => exact ⟨0, Nat.zero_le _, rfl, OwnF.nil, Below.refl _ _⟩
  case round =>
    obtain ⟨k, hk, rfl, hO, hB⟩ := hrel
    have HO := Lib.hid hO
    clear hO
    by_cases hlt : k < l.length
    · obtain ⟨b, off, rfl, hb, hval⟩ := (HR.out.below hB).at_ hlt
      have HT := Lib.hid (show (l.take (k + 1)).map wordL = (l.take k).map wordL ++ [wordL l[k]] by rw [List.take_add_one, List.getElem?_eq_getElem hlt, List.map_append]; rfl)
      have hsm := HS.out l[k] (List.getElem_mem hlt)
      generalize l[k] = v at *
      obtain ⟨c0, c1, c2⟩ := hval
      go_wp2_with fail
      clear c0 c1 c2
      have b0 := later_new wr (.cells #[.int .u8 v.k, .int .i64 v.n, .string v.s] 23)
      replace hB := Later.then hB b0
      replace HO := Lib.hid (HO.out.later b0)
      clear b0
      generalize wr.alloc (.cells #[.int .u8 v.k, .int .i64 v.n, .string v.s] 23) = W at *
      refine (word_any v hsm.1 (by have := hsm.2; omega) W (HE.out.later hB)).mono ?_
      rintro e w1 ⟨rfl, b1⟩
      replace hB := Later.then hB b1
      replace HO := Lib.hid (HO.out.later b1)
      unfold strOf
      have b2 := later_new w1 (.cells #[.string ⟨(wordL v).toArray⟩] 9)
      have HG := Lib.hid (Blk.new w1 9 #[.string ⟨(wordL v).toArray⟩])
      have hB2 := Later.then hB b2
      replace HO := Lib.hid (HO.out.later b2)
      have hkl : ((l.take k).map wordL).length = k := by simp; omega
      clear b1 b2
      go_wp2_with (first
        | (at_builtin
           refine wpList_append_one rfl (.tmp 12) (.tmp 15) 61 rfl _ 16 Tryd.underlying61 str_info rfl (by omega) (wordL v) rfl (by simp [strCell, Value.oneCell']) rfl HO.out w1.heap.size rfl HG.out (by rw [hkl]; omega) (by rw [hkl]; omega) hB2.size ?_
           intro v2 w2 o2 g2
           have b3 := below_own HO.out g2 hB2.size
           have O2 := Lib.hid o2
           clear o2 g2 HO HG))
      go_roundw
      case rel =>
        refine ⟨k + 1, hlt, by go_num, ?_, hB2.trans b3⟩
        rw [HT.out]
        exact O2.out
      case measure => simp [intOf]; omega
    · have hke : k = l.length := by omega
      subst hke
      simp only [List.take_length] at HO
      go_wp2_with fail
      refine (join_own u3 (l.map wordL) wr w.heap.size HO.out (by simpa using hm) ?_).mono ?_
      · intro x hx
        obtain ⟨v, hv, rfl⟩ := List.mem_map.1 hx
        exact word_len (HS.out v hv)
      rintro e w1 ⟨rfl, b1⟩
      go_wp2_with fail
      go_ret
      exact ⟨rfl, Later.then hB b1⟩

theorem Line_any (A : Option Addr) (c : Nat) (l : List Val) (w : World) (h : RV w w.heap.size A l) (hm : l.length ≤ 1000) (hs : ∀ v ∈ l, v.Small) (hE : Env w) :
    Calls Tryd.prog 17 #[.slice A l.length c] w (wordPost (lineL l) w) := by
  have HL := line_any A c l w h hm hs hE
  clear h hs hE
  go_enter Tryd.func17, Tryd.ntmps17
  go_wp2_with fail
  refine HL.mono ?_
  rintro e w1 ⟨rfl, b1⟩
  go_wp2_with fail
  go_ret
  exact ⟨rfl, b1⟩
theorem number_any (n : Int) (w : World) : Calls Tryd.prog 23 #[.int .i64 n] w fun e w' => e = .returned (valV (num n)) ∧ Below w.heap.size w w' := by
  unfold valV num
  go_enter Tryd.func23, Tryd.ntmps23
  go_wp2_with fail
  exact bodyPost_ret (v := .agg #[.int .u8 2, .int .i64 n, .string ByteArray.empty]) (by simp [results, Tryd.results23, go_sem]; try rfl) rfl ⟨rfl, by go_grown⟩
theorem text_any (s : ByteArray) (w : World) : Calls Tryd.prog 24 #[.string s] w fun e w' => e = .returned (valV ⟨3, 0, s⟩) ∧ Below w.heap.size w w' := by
  unfold valV
  go_enter Tryd.func24, Tryd.ntmps24
  go_wp2_with fail
  exact bodyPost_ret (v := .agg #[.int .u8 3, .int .i64 0, .string s]) (by simp [results, Tryd.results24, go_sem]; try rfl) rfl ⟨rfl, by go_grown⟩

end Go.Proofs.YtekedkbjnedhgaaDoor
