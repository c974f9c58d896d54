/- expr.Type of any tree. Printed by gen_type2.py. -/
import Derived.Test.YtlfahfoffdbpfaaType
import Derived.Test.YtlfahfoffdbpfaaEval3
namespace Go.Proofs.Ytlfahfoffdbpfaa
open Go.ChangeShapes Go.WideShapes Go.ChangeAt Go.RowKit
set_option linter.unusedVariables false
set_option linter.unusedSimpArgs false

/-- an expression's type, or its error, in every world that is later than w -/
def TypeIs2 (w : World) (cV : Value) (y : Ex) (t e : Int) : Prop := ∀ W, Below w.heap.size w W → Calls Try.prog 21 #[.agg #[.int .u8 y.op, .int .u8 y.v.k, .int .i64 y.v.n, .string y.v.s, .string y.name, .int .i64 y.width, .slice y.A y.n y.c], cV] W fun en w' => en = .returned (.tuple #[.int .u8 t, .int .i64 e]) ∧ Below W.heap.size W w'

set_option maxHeartbeats 3000000 in
set_option maxRecDepth 100000 in
theorem type_err (op : Int) (xv : Val) (name : ByteArray) (width : Int) (A : Option Addr) (n c : Nat) (cV : Value) (args : List (Ex × Int)) (bad : Ex) (bt er : Int) (post : List Ex) (hn : args.length + 1 + post.length = n) (w : World) (hl : args.length ≤ 1599289640356) (hn2 : n ≤ 1599289640356) (hA : RE w w.heap.size A (args.map (·.1) ++ bad :: post)) (hE : ∀ a ∈ args, TypeIs w cV a.1 a.2) (hbad : TypeIs2 w cV bad bt er) (her : er ≠ 0) :
    Calls Try.prog 21 #[.agg #[.int .u8 op, .int .u8 xv.k, .int .i64 xv.n, .string xv.s, .string name, .int .i64 width, .slice A n c], cV] w fun en w' => en = .returned (.tuple #[.int .u8 0, .int .i64 er]) ∧ Below w.heap.size w w' := by
  have HN := Lib.hid hn
  have HBAD := Lib.hid hbad
  have HER := Lib.hid her
  clear hn hbad her
  have HA := Lib.hid hA
  have HE := Lib.hid hE
  clear hA hE
  go_enter Try.func21, Try.ntmps21
  have hX := Blk.new w 36 #[.int .u8 op, .int .u8 xv.k, .int .i64 xv.n, .string xv.s, .string name, .int .i64 width, .slice A n c]
  have x6 := hX.cell 6
  simp only [List.getElem?_toArray, List.getElem?_cons_zero, List.getElem?_cons_succ] at x6
  go_wp2_with fail
  have hB := later_new w (.cells #[.int .u8 op, .int .u8 xv.k, .int .i64 xv.n, .string xv.s, .string name, .int .i64 width, .slice A n c] 36)
  clear x6
  generalize w.alloc (.cells #[.int .u8 op, .int .u8 xv.k, .int .i64 xv.n, .string xv.s, .string name, .int .i64 width, .slice A n c] 36) = W at *
  go_loopw [6, 17] (fun kv i wr => ∃ k : Nat, k ≤ args.length ∧ i = .int .i64 k ∧ OwnF kindCell 5 1 wr W.heap.size kv ((args.take k).map (·.2)) ∧ Below W.heap.size W wr) (fun _ i _ => args.length - (intOf i).toNat)
  case atStart => exact ⟨0, Nat.zero_le _, rfl, OwnF.nil, Below.refl _ _⟩
  case round =>
    obtain ⟨k, hk, rfl, hK, hb⟩ := hrel
    have HK := Lib.hid hK
    clear hK
    rcases Nat.lt_or_ge k args.length with hlt | hge
    · have hkn : k < n := by have := HN.out; omega
      obtain ⟨b, off, rfl, hbb, hex⟩ := (HA.out.below (hB.trans (hb.mono hB.size))).at_ (show k < (args.map (·.1) ++ bad :: post).length by simp; omega)
      have he1 : (args.map (·.1) ++ bad :: post)[k]'(by simp; omega) = args[k].1 := by rw [List.getElem_append_left (by simpa using hlt)]; simp
      rw [he1] at hex
      clear he1
      have hev := HE.out args[k] (List.getElem_mem hlt)
      have HT := Lib.hid (show args.take (k + 1) = args.take k ++ [args[k]] by rw [List.take_add_one, List.getElem?_eq_getElem hlt]; rfl)
      generalize args[k] = yv at *
      obtain ⟨y, v⟩ := yv
      dsimp only at *
      unfold ExAt at hex
      go_wp2_with fail
      have bY := later_new wr (.cells #[.int .u8 y.op, .int .u8 y.v.k, .int .i64 y.v.n, .string y.v.s, .string y.name, .int .i64 y.width, .slice y.A y.n y.c] 36)
      refine (hev _ (hB.trans ((Later.then hb bY).mono hB.size))).mono ?_
      rintro e w1 ⟨rfl, b1⟩
      have hb1 := Later.then bY b1
      have bN := later_new w1 (.cells #[.int .u8 v] 5)
      have hG := Blk.new w1 5 #[.int .u8 v]
      have hb2 := Later.then hb1 bN
      replace HK := Lib.hid (HK.out.later hb2)
      replace hb := Later.then hb hb2
      have hlenk : ((args.take k).map (·.2)).length ≤ 1599289640356 := by simp; omega
      generalize hks : (args.take k).map (·.2) = ks at *
      have HKS := Lib.hid hks
      have HG := Lib.hid hG
      have hbase := hb.size
      clear hks hG hb2 hb1 b1 bY bN hev hex
      go_wp2_with (first
        | (at_builtin
           refine wpList_append_one rfl (.tmp 30) (.tmp 32) 57 rfl _ 1 Try.underlying57 u8_info rfl (by omega) v rfl (by simp [kindCell, Value.oneCell']) rfl HK.out w1.heap.size rfl HG.out (by omega) (by omega) hbase ?_
           intro v4 w4 o4 g4
           have b4 := below_own HK.out g4 hbase
           have O4 := Lib.hid o4
           clear o4 g4 HK HG))
      go_roundw
      case rel =>
        refine ⟨k + 1, hlt, by go_num, ?_, hb.trans b4⟩
        rw [HT.out, List.map_append, HKS.out]; exact O4.out
      case measure => simp [intOf]; omega
    · have hkk : k = args.length := by omega
      have hkn : k < n := by have := HN.out; omega
      obtain ⟨b, off, rfl, hbb, hex⟩ := (HA.out.below (hB.trans (hb.mono hB.size))).at_ (show k < (args.map (·.1) ++ bad :: post).length by simp; omega)
      have he1 : (args.map (·.1) ++ bad :: post)[k]'(by simp; omega) = bad := by rw [List.getElem_append_right (by simp; omega)]; simp [hkk]
      rw [he1] at hex
      clear he1 hkk HK
      have hev := HBAD.out
      unfold ExAt at hex
      go_wp2_with fail
      have bY := later_new wr (.cells #[.int .u8 bad.op, .int .u8 bad.v.k, .int .i64 bad.v.n, .string bad.v.s, .string bad.name, .int .i64 bad.width, .slice bad.A bad.n bad.c] 36)
      refine (hev _ (hB.trans ((Later.then hb bY).mono hB.size))).mono ?_
      rintro e w1 ⟨rfl, b1⟩
      have hB2 := Later.then hB (Later.then hb (Later.then bY b1))
      have te : (er != 0) = true := by have := HER.out; simpa using this
      clear hev hex bY b1 hX hB hb
      go_wp2_with fail
      exact bodyPost_ret (v := .tuple #[.int .u8 0, .int .i64 er]) (by simp [results, Try.results21, go_sem]) rfl ⟨rfl, hB2⟩

def typeCol (cols : List Col) (name : ByteArray) : Int × Int := if placeK name cols < cols.length then ((cols.getD (placeK name cols) ⟨ByteArray.empty, 0⟩).t, 0) else (0, 41)
set_option maxHeartbeats 3000000 in
set_option maxRecDepth 100000 in
theorem type_col (xv : Val) (name : ByteArray) (width : Int) (A : Option Addr) (c : Nat) (cols : List Col) (CA : Option Addr) (cc : Nat) (w : World) (hC : RC w w.heap.size CA cols) (hl : cols.length ≤ 140737488355328) :
    Calls Try.prog 21 #[.agg #[.int .u8 2, .int .u8 xv.k, .int .i64 xv.n, .string xv.s, .string name, .int .i64 width, .slice A 0 c], .slice CA cols.length cc] w fun en w' => en = .returned (.tuple #[.int .u8 (typeCol cols name).1, .int .i64 (typeCol cols name).2]) ∧ Below w.heap.size w w' := by
  have HC := Lib.hid hC
  clear hC
  go_enter Try.func21, Try.ntmps21
  have hX2 := Blk.new w 36 #[.int .u8 2, .int .u8 xv.k, .int .i64 xv.n, .string xv.s, .string name, .int .i64 width, .slice A 0 c]
  have x6 := hX2.cell 6
  simp only [List.getElem?_toArray, List.getElem?_cons_zero, List.getElem?_cons_succ] at x6
  go_wp2_with fail
  have hB2 := later_new w (.cells #[.int .u8 2, .int .u8 xv.k, .int .i64 xv.n, .string xv.s, .string name, .int .i64 width, .slice A 0 c] 36)
  replace HC := Lib.hid (HC.out.later hB2)
  clear x6
  generalize w.alloc (.cells #[.int .u8 2, .int .u8 xv.k, .int .i64 xv.n, .string xv.s, .string name, .int .i64 width, .slice A 0 c] 36) = W at *
  go_loopw [6, 17] (fun kv i wr => kv = .slice none 0 0 ∧ i = .int .i64 0 ∧ wr = W) (fun _ _ _ => 0)
  case atStart => exact ⟨rfl, rfl, rfl⟩
  case round =>
    obtain ⟨rfl, rfl, rfl⟩ := hrel
    have x0 := hX2.cell 0
    have x1 := hX2.cell 1
    have x2 := hX2.cell 2
    have x3 := hX2.cell 3
    have x4 := hX2.cell 4
    have x5 := hX2.cell 5
    have x6 := hX2.cell 6
    simp only [List.getElem?_toArray, List.getElem?_cons_zero, List.getElem?_cons_succ] at x0 x1 x2 x3 x4 x5 x6
    go_wp2_with fail
    refine (form_any ⟨2, xv, name, width, A, 0, c⟩ _).mono ?_
    rintro e w1 ⟨oo, rfl, hOI, b1⟩
    obtain rfl : oo = zeroOp := by
      rcases hOI with ⟨h, _⟩ | ⟨_, h⟩
      · exact absurd h (by simp [isOp])
      · exact h
    have hfe : formE ⟨2, xv, name, width, A, 0, c⟩ = 0 := by unfold formE; rw [if_pos (by simp)]
    rw [hfe]
    clear hfe hOI
    clear x0 x1 x2 x3 x4 x5 x6
    have b2 := Later.then b1 (later_new w1 (.cells #[.int .i64 0, .int .u8 0, .int .u8 0, .bool false, .bool false, .nilFunc] 60))
    replace hX2 := hX2.later b2
    replace hB2 := Later.then hB2 b2
    replace HC := Lib.hid (HC.out.later b2)
    clear b1 b2
    have hst := fun (u : Addr) (m : Mode) (w : World) => run_store Try.prog w u .nilFunc m rfl
    unfold zeroOp
    have x0 := hX2.cell 0
    have x1 := hX2.cell 1
    have x2 := hX2.cell 2
    have x3 := hX2.cell 3
    have x4 := hX2.cell 4
    have x5 := hX2.cell 5
    have x6 := hX2.cell 6
    simp only [List.getElem?_toArray, List.getElem?_cons_zero, List.getElem?_cons_succ] at x0 x1 x2 x3 x4 x5 x6
    go_wp2_with fail
    clear hst
    clear x0 x1 x2 x3 x4 x5 x6
    refine (place_any cols CA cc name _ HC.out hl).mono ?_
    rintro e w2 ⟨rfl, b2⟩
    replace hX2 := hX2.later b2
    replace hB2 := Later.then hB2 b2
    replace HC := Lib.hid (HC.out.later b2)
    clear b2
    by_cases hp : placeK name cols < cols.length
    · have HP := Lib.hid (show placeI name cols = (placeK name cols : Int) by unfold placeI; rw [if_pos hp])
      rw [HP.out]
      have HQ0 := Lib.hid (show typeCol cols name = ((cols.getD (placeK name cols) ⟨ByteArray.empty, 0⟩).t, 0) by unfold typeCol; rw [if_pos hp])
      clear HP
      generalize placeK name cols = k at *
      have hk2 : (k : Int) ≤ 140737488355328 := by omega
      have t0 : decide (0 ≤ (k : Int)) = true := decide_eq_true (by omega)
      obtain ⟨b, off, rfl, hbb, hcol⟩ := HC.out.at_ hp
      have HG := Lib.hid (show cols.getD k ⟨ByteArray.empty, 0⟩ = cols[k] by rw [List.getD_eq_getElem?_getD, List.getElem?_eq_getElem hp]; rfl)
      have HQ := HQ0
      rw [HG.out] at HQ
      clear HQ0
      generalize cols[k] = x at *
      unfold ColAt at hcol
      have x0 := hX2.cell 0
      have x1 := hX2.cell 1
      have x2 := hX2.cell 2
      have x3 := hX2.cell 3
      have x4 := hX2.cell 4
      have x5 := hX2.cell 5
      have x6 := hX2.cell 6
      simp only [List.getElem?_toArray, List.getElem?_cons_zero, List.getElem?_cons_succ] at x0 x1 x2 x3 x4 x5 x6
      go_wp2_with fail
      exact bodyPost_ret (v := .tuple #[.int .u8 x.t, .int .i64 0]) (by simp [results, Try.results21, go_sem]) rfl ⟨by rw [HQ.out], hB2⟩
    · have HP := Lib.hid (show placeI name cols = -1 by unfold placeI; rw [if_neg hp])
      rw [HP.out]
      have HQ := Lib.hid (show typeCol cols name = (0, 41) by unfold typeCol; rw [if_neg hp])
      clear hp
      have x0 := hX2.cell 0
      have x1 := hX2.cell 1
      have x2 := hX2.cell 2
      have x3 := hX2.cell 3
      have x4 := hX2.cell 4
      have x5 := hX2.cell 5
      have x6 := hX2.cell 6
      simp only [List.getElem?_toArray, List.getElem?_cons_zero, List.getElem?_cons_succ] at x0 x1 x2 x3 x4 x5 x6
      go_wp2_with fail
      exact bodyPost_ret (v := .tuple #[.int .u8 0, .int .i64 41]) (by simp [results, Try.results21, go_sem]) rfl ⟨by rw [HQ.out], hB2⟩

/-- the first error -/
def firstI : List (Int × Int) → Int
  | [] => 0
  | r :: rs => if r.2 ≠ 0 then r.2 else firstI rs
def typeN (cols : List Col) (x : Ex) (rs : List (Int × Int)) : Int × Int :=
  if firstI rs ≠ 0 then (0, firstI rs) else if formE x ≠ 0 then (0, formE x) else if x.op = 1 then (x.v.k, 0) else if x.op = 2 then typeCol cols x.name else if suitsB x.op (rs.map (·.1)) = false then (0, 40) else (givesN x.op, 0)
mutual
def Tr.type (cols : List Col) : Tr → Int × Int
  | .mk op v name width args => typeN cols ⟨op, v, name, width, none, args.length, 0⟩ (Tr.types cols args)
def Tr.types (cols : List Col) : List Tr → List (Int × Int)
  | [] => []
  | t :: ts => t.type cols :: Tr.types cols ts
end
theorem Tr.types_length (cols : List Col) : ∀ ts, (Tr.types cols ts).length = ts.length
  | [] => by simp [Tr.types]
  | t :: ts => by simp [Tr.types, Tr.types_length cols ts]
theorem first_splitI : ∀ (l : List (Ex × (Int × Int))), (∀ a ∈ l, a.2.2 = 0) ∨ ∃ pre bad post, l = pre ++ bad :: post ∧ (∀ a ∈ pre, a.2.2 = 0) ∧ bad.2.2 ≠ 0
  | [] => .inl (by simp)
  | a :: l => by
    by_cases h : a.2.2 = 0
    · rcases first_splitI l with h1 | ⟨pre, bad, post, h1, h2, h3⟩
      · exact .inl (by intro x hx; rcases List.mem_cons.1 hx with rfl | hx; exact h; exact h1 x hx)
      · refine .inr ⟨a :: pre, bad, post, by rw [h1]; rfl, ?_, h3⟩
        intro x hx
        rcases List.mem_cons.1 hx with rfl | hx
        · exact h
        · exact h2 x hx
    · exact .inr ⟨[], a, l, rfl, by simp, h⟩
theorem firstI_zero : ∀ {l : List (Int × Int)}, (∀ a ∈ l, a.2 = 0) → firstI l = 0
  | [], _ => rfl
  | a :: l, h => by
    unfold firstI
    rw [if_neg (by simp [h a (by simp)])]
    exact firstI_zero fun x hx => h x (by simp [hx])
theorem firstI_at : ∀ {pre post : List (Int × Int)} {bad : Int × Int}, (∀ a ∈ pre, a.2 = 0) → bad.2 ≠ 0 → firstI (pre ++ bad :: post) = bad.2
  | [], post, bad, _, hb => by unfold firstI; simp [hb]
  | a :: pre, post, bad, h, hb => by
    show firstI (a :: (pre ++ bad :: post)) = _
    unfold firstI
    rw [if_neg (by simp [h a (by simp)])]
    exact firstI_at (fun x hx => h x (by simp [hx])) hb

section
variable (cols : List Col) (CA : Option Addr) (cc : Nat)
theorem type_all (op : Int) (xv : Val) (name : ByteArray) (width : Int) (A : Option Addr) (c : Nat) (args : List (Ex × (Int × Int))) (w : World) (hl : args.length ≤ 1599289640356) (hA : RE w w.heap.size A (args.map (·.1)))
    (hC : RC w w.heap.size CA cols) (hcl : cols.length ≤ 140737488355328) (hE : ∀ a ∈ args, TypeIs2 w (.slice CA cols.length cc) a.1 a.2.1 a.2.2) :
    Calls Try.prog 21 #[.agg #[.int .u8 op, .int .u8 xv.k, .int .i64 xv.n, .string xv.s, .string name, .int .i64 width, .slice A args.length c], .slice CA cols.length cc] w fun en w' => en = .returned (.tuple #[.int .u8 (typeN cols ⟨op, xv, name, width, none, args.length, 0⟩ (args.map (·.2))).1, .int .i64 (typeN cols ⟨op, xv, name, width, none, args.length, 0⟩ (args.map (·.2))).2]) ∧ Below w.heap.size w w' := by
  rcases first_splitI args with h0 | ⟨pre, bad, post, rfl, hpre, hbad⟩
  · have hf : firstI (args.map (·.2)) = 0 := firstI_zero fun a ha => by obtain ⟨z, hz, rfl⟩ := List.mem_map.1 ha; exact h0 z hz
    by_cases h2 : op = 2 ∧ args = []
    · obtain ⟨rfl, rfl⟩ := h2
      have k := type_col xv name width A c cols CA cc w hC hcl
      have e : typeN cols ⟨2, xv, name, width, none, 0, 0⟩ [] = typeCol cols name := by
        unfold typeN
        rw [if_neg (by simp [firstI]), if_neg (by simp [formE]), if_neg (by simp), if_pos (by rfl)]
      show Calls _ _ _ _ fun en w' => en = .returned (.tuple #[.int .u8 (typeN cols ⟨2, xv, name, width, none, 0, 0⟩ []).1, .int .i64 (typeN cols ⟨2, xv, name, width, none, 0, 0⟩ []).2]) ∧ _
      rw [e]
      exact k
    · have k := type_op2 op xv name width A c (.slice CA cols.length cc) (args.map fun a => (a.1, a.2.1)) (by
          by_cases ho : op = 2
          · right; intro h; exact h2 ⟨ho, by simpa using h⟩
          · exact .inl ho) w (by simpa using hl) (by simpa [Function.comp_def] using hA) (fun a ha => by
          obtain ⟨z, hz, rfl⟩ := List.mem_map.1 ha
          have := hE z hz
          rw [h0 z hz] at this
          exact this)
      rw [List.length_map] at k
      have hm : (args.map fun a => (a.1, a.2.1)).map (·.2) = (args.map (·.2)).map (·.1) := by simp [Function.comp_def]
      rw [hm] at k
      have e : typeN cols ⟨op, xv, name, width, none, args.length, 0⟩ (args.map (·.2)) = typeR ⟨op, xv, name, width, A, args.length, c⟩ ((args.map (·.2)).map (·.1)) := by
        have hfe' : formE ⟨op, xv, name, width, A, args.length, c⟩ = formE ⟨op, xv, name, width, none, args.length, 0⟩ := rfl
        unfold typeN typeR
        rw [if_neg (by rw [hf]; simp), hfe']
        dsimp only
        by_cases hfe : formE ⟨op, xv, name, width, none, args.length, 0⟩ = 0
        · simp only [hfe, ne_eq, not_true_eq_false, ↓reduceIte]
          by_cases h1 : op = 1
          · simp only [h1, ↓reduceIte]
          · simp only [h1, ↓reduceIte]
            rw [if_neg]
            intro ho
            exact h2 ⟨ho, formE_two (l := args) hfe ho⟩
        · simp only [hfe, ne_eq, not_false_eq_true, ↓reduceIte]
      rw [e]
      exact k
  · have hbE := hE bad (by simp)
    have k := type_err op xv name width A (pre ++ bad :: post).length c (.slice CA cols.length cc) (pre.map fun a => (a.1, a.2.1)) bad.1 bad.2.1 bad.2.2 (post.map (·.1)) (by simp; omega) w (by simp at hl ⊢; omega) hl (by simpa [Function.comp_def] using hA) (fun a ha => by
      obtain ⟨z, hz', rfl⟩ := List.mem_map.1 ha
      have := hE z (by simp [hz'])
      rw [hpre z hz'] at this
      exact this) hbE hbad
    have hf : firstI ((pre ++ bad :: post).map (·.2)) = bad.2.2 := by
      rw [List.map_append, List.map_cons]
      exact firstI_at (fun a ha => by obtain ⟨z, hz', rfl⟩ := List.mem_map.1 ha; exact hpre z hz') hbad
    have e : typeN cols ⟨op, xv, name, width, none, (pre ++ bad :: post).length, 0⟩ ((pre ++ bad :: post).map (·.2)) = (0, bad.2.2) := by
      unfold typeN
      rw [if_pos (by rw [hf]; exact hbad), hf]
    rw [e]
    exact k
mutual
theorem Tr.type_is (hcl : cols.length ≤ 140737488355328) : ∀ (t : Tr) (y : Ex) (w : World), t.ok → t.at_ w (Old w) y → RC w w.heap.size CA cols → TypeIs2 w (.slice CA cols.length cc) y (t.type cols).1 (t.type cols).2
  | .mk op v name width args, y, w, hok, hat, hC => by
    intro W hb
    have hat2 := hat.later hb
    unfold Tr.at_ at hat2
    obtain ⟨h1, h2, h3, h4, h5, ys, h6, h7⟩ := hat2
    unfold Tr.ok at hok
    obtain ⟨l, hl1, hl2, hl3⟩ := Tr.types_is hcl args ys W hok.2.2.2.2.2 h7 (hC.later hb)
    obtain ⟨yop, yv, yname, ywidth, yA, yn, yc⟩ := y
    dsimp only at h1 h2 h3 h4 h5 h6
    subst h1 h2 h3 h4 h5
    have hlen : l.length = args.length := by
      have : (l.map (·.2)).length = (Tr.types cols args).length := by rw [hl2]
      rw [List.length_map, Tr.types_length] at this
      exact this
    have k := type_all cols CA cc yop yv yname ywidth yA yc l W (by rw [hlen]; exact hok.2.1) (by rw [hl1]; exact h6.old) (hC.later hb) hcl hl3
    rw [hl2, hlen] at k
    unfold Tr.type
    exact k
theorem Tr.types_is (hcl : cols.length ≤ 140737488355328) : ∀ (ts : List Tr) (ys : List Ex) (w : World), Tr.oks ts → Tr.all_ w (Old w) ts ys → RC w w.heap.size CA cols → ∃ l : List (Ex × (Int × Int)), l.map (·.1) = ys ∧ l.map (·.2) = Tr.types cols ts ∧ ∀ a ∈ l, TypeIs2 w (.slice CA cols.length cc) a.1 a.2.1 a.2.2
  | [], ys, w, _, hat, _ => by
    unfold Tr.all_ at hat
    subst hat
    exact ⟨[], rfl, by simp [Tr.types], by simp⟩
  | t :: ts, ys, w, hok, hat, hC => by
    unfold Tr.all_ at hat
    unfold Tr.oks at hok
    obtain ⟨y, ys', rfl, h2, h3⟩ := hat
    obtain ⟨l, hl1, hl2, hl3⟩ := Tr.types_is hcl ts ys' w hok.2 h3 hC
    refine ⟨(y, t.type cols) :: l, by simp [hl1], by simp [hl2, Tr.types], fun a ha => ?_⟩
    rcases List.mem_cons.1 ha with rfl | ha
    · exact Tr.type_is hcl t y w hok.1 h2 hC
    · exact hl3 a ha
end
end
end Go.Proofs.Ytlfahfoffdbpfaa
