/- The document's Type of any tree is the program's. -/
import Derived.Test.YtlfahfoffdbpfaaTyRef
namespace Go.Proofs.Ytlfahfoffdbpfaa
open Go.ChangeShapes Go.WideShapes Go.ChangeAt Go.RowKit
set_option linter.unusedVariables false
set_option linter.unusedSimpArgs false

theorem goes_same : goesR = goes2 := rfl
theorem wants_same {op : Int} (h : 3 ≤ op ∧ op ≤ 20) : wantsR op = wantsN op := by
  unfold wantsR wantsN
  repeat (first | omega | rfl | split)
theorem gives_same {op : Int} (h : 3 ≤ op ∧ op ≤ 20) : givesR op = givesN op := by
  unfold givesR wantsR givesN
  repeat (first | omega | rfl | split)
theorem alike_same {op : Int} : alikeB op = isOrder op := rfl
/-- the form, as the document tells it -/
theorem formE_is (x : Ex) (h : 0 ≤ x.op ∧ x.op ≤ 255) : formE x = if formB x = false then 21 else if isAgg x.op = true then 42 else 0 := by
  have ha : (x.n : Int) = argsR x.op ∨ ¬ (x.n : Int) = argsR x.op := by omega
  unfold formE formB
  have hn0 : (0 : Int) ≤ (x.n : Int) := by omega
  rcases ha with ha | ha
  · have e0 : ((x.n : Int) == argsR x.op) = true := by simpa using ha
    rw [e0, Bool.true_and]
    by_cases h1 : x.op = 1
    · have e1 : (x.op == 1) = true := by simpa using h1
      have e2 : (x.op == 20) = false := by rw [h1]; rfl
      have e3 : isAgg x.op = false := by rw [h1]; rfl
      have hn : x.n = 0 := by rw [h1] at ha; have : argsR 1 = 0 := rfl; omega
      rw [e1, e2, e3]
      cases hg : good x.v
      · rw [if_neg (by simp [hg]; omega), if_neg (by rw [h1]; simp [isOp]), if_neg (by rw [h1]; have h9 : aggN 1 = -1 := (by decide); rw [h9]; omega)]
        simp
      · rw [if_pos (.inl ⟨h1, hn, rfl⟩)]
        simp
    · have e1 : (x.op == 1) = false := by simpa using h1
      rw [e1]
      by_cases h2 : x.op = 2
      · have e2 : (x.op == 20) = false := by rw [h2]; rfl
        have e3 : isAgg x.op = false := by rw [h2]; rfl
        have hn : x.n = 0 := by rw [h2] at ha; have : argsR 2 = 0 := rfl; omega
        rw [e2, e3, if_pos (.inr ⟨h2, hn⟩)]
        simp
      · rw [if_neg (by rintro (⟨h, _⟩ | ⟨h, _⟩) <;> omega)]
        by_cases h3 : 3 ≤ x.op ∧ x.op ≤ 20
        · have e3 : isAgg x.op = false := by unfold isAgg; simp; omega
          have e4 : isOp x.op = true := by unfold isOp; simp; omega
          have e5 : argsN x.op = argsR x.op := by unfold argsN argsR; repeat (first | omega | rfl | split)
          have e6 : aggN x.op = -1 := by unfold aggN; repeat (first | omega | rfl | split)
          rw [e3]
          by_cases h4 : x.op = 20
          · have e7 : (x.op == 20) = true := by simpa using h4
            rw [e7]
            by_cases hw : 1 ≤ x.width ∧ x.width ≤ 1099511627776
            · rw [if_pos ⟨e4, by rw [e5]; exact ha, .inr hw⟩, decide_eq_true hw]
              simp
            · rw [if_neg (by rintro ⟨_, _, h | h⟩; exact h h4; exact hw h), if_neg (by rw [e6]; omega), decide_eq_false hw]
              simp
          · have e7 : (x.op == 20) = false := by simpa using h4
            rw [e7, if_pos ⟨e4, by rw [e5]; exact ha, .inl h4⟩]
            simp
        · have e4 : isOp x.op = false := by unfold isOp; simp; omega
          have e7 : (x.op == 20) = false := by simp; omega
          rw [if_neg (by rw [e4]; simp), e7]
          by_cases h5 : 21 ≤ x.op ∧ x.op ≤ 28
          · have e3 : isAgg x.op = true := by unfold isAgg; simp; omega
            have e8 : aggN x.op = argsR x.op := by unfold aggN argsR; repeat (first | omega | rfl | split)
            rw [if_pos (by rw [e8]; exact ha), e3]
            simp
          · exfalso
            have : argsR x.op = -1 := by unfold argsR; repeat (first | omega | rfl | split)
            omega
  · have e0 : ((x.n : Int) == argsR x.op) = false := by simpa using ha
    rw [e0]
    simp only [Bool.false_and, ↓reduceIte]
    rw [if_neg, if_neg, if_neg]
    · intro hh
      apply ha
      rw [hh]
      have hn1 : 0 ≤ aggN x.op := by omega
      unfold aggN argsR at *
      repeat (first | omega | rfl | split | split at hn1)
    · rintro ⟨h1, h2, _⟩
      apply ha
      rw [h2]
      have h3 : 3 ≤ x.op ∧ x.op ≤ 20 := by simpa [isOp] using h1
      unfold argsN argsR
      repeat (first | omega | rfl | split)
    · rintro (⟨h1, h2, _⟩ | ⟨h1, h2⟩)
      · apply ha; rw [h1, h2]; rfl
      · apply ha; rw [h1, h2]; rfl
theorem formB_of (x : Ex) (h : 0 ≤ x.op ∧ x.op ≤ 255) : (formE x = 21 ∧ formB x = false) ∨ (formE x = 42 ∧ formB x = true ∧ isAgg x.op = true) ∨ (formE x = 0 ∧ formB x = true ∧ isAgg x.op = false) := by
  have h1 := formE_is x h
  cases hb : formB x
  · left; rw [hb] at h1; exact ⟨h1, rfl⟩
  · right
    rw [hb, if_neg (by simp)] at h1
    cases ha : isAgg x.op
    · right; rw [ha] at h1; exact ⟨h1, rfl, rfl⟩
    · left; rw [ha] at h1; exact ⟨h1, rfl, rfl⟩
theorem argsN_two {op : Int} : argsN op = 2 ∨ argsN op = 1 := by unfold argsN; split <;> simp

section
variable (op : Int) (xv : Val) (name : ByteArray) (width : Int) (A : Option Addr) (c : Nat)
theorem tyref_op2 (cV : Value) (args : List (Ex × Int)) (hop : 0 ≤ op ∧ op ≤ 255) (hop2 : op ≠ 2 ∨ args ≠ []) (w : World) (hl : args.length ≤ 1599289640356) (hA : RE w w.heap.size A (args.map (·.1))) (hE : ∀ a ∈ args, TyRefIs w cV a.1 a.2 0) :
    Calls Try.prog 24 #[.agg #[.int .u8 op, .int .u8 xv.k, .int .i64 xv.n, .string xv.s, .string name, .int .i64 width, .slice A args.length c], cV] w fun en w' => en = .returned (.tuple #[.int .u8 (typeR ⟨op, xv, name, width, A, args.length, c⟩ (args.map (·.2))).1, .int .i64 (typeR ⟨op, xv, name, width, A, args.length, c⟩ (args.map (·.2))).2]) ∧ Below w.heap.size w w' := by
  rcases formB_of ⟨op, xv, name, width, A, args.length, c⟩ hop with ⟨hf, hb⟩ | ⟨hf, hb, ha⟩ | ⟨hf, hb, ha⟩
  · have e : typeR ⟨op, xv, name, width, A, args.length, c⟩ (args.map (·.2)) = (0, 21) := by unfold typeR; rw [if_pos (by rw [hf]; decide), hf]
    rw [e]
    exact tyref_form op xv name width A c cV args hop hb w hl hA hE
  · have e : typeR ⟨op, xv, name, width, A, args.length, c⟩ (args.map (·.2)) = (0, 42) := by unfold typeR; rw [if_pos (by rw [hf]; decide), hf]
    rw [e]
    exact tyref_agg op xv name width A c cV args hop hb ha w hl hA hE
  · by_cases h1 : op = 1
    · have e : typeR ⟨op, xv, name, width, A, args.length, c⟩ (args.map (·.2)) = (xv.k, 0) := by unfold typeR; rw [if_neg (by rw [hf]; decide), if_pos h1]
      rw [e]
      exact tyref_lit op xv name width A c cV args hop hb ha (by simpa using h1) w hl hA hE
    · have h2 : op ≠ 2 := by
        intro e2
        rcases hop2 with h | h
        · exact h e2
        · exact h (formE_two hf e2)
      obtain ⟨hiso, hnargs, _⟩ := formE_zero hf h2 h1
      have h320 : 3 ≤ op ∧ op ≤ 20 := by simpa [isOp] using hiso
      have t1 : (op == 1) = false := by simpa using h1
      have t2 : (op == 2) = false := by simpa using h2
      have et : typeR ⟨op, xv, name, width, A, args.length, c⟩ (args.map (·.2)) = if suitsB op (args.map (·.2)) = false then (0, 40) else (givesN op, 0) := by
        unfold typeR
        rw [if_neg (by rw [hf]; decide), if_neg h1]
      have hw := wants_same h320
      have hg := gives_same h320
      have hlen : args.length = 1 ∧ isOrder op = false ∨ args.length = 2 := by
        dsimp only at hnargs
        unfold argsN at hnargs
        split at hnargs
        · left; refine ⟨by omega, ?_⟩; unfold isOrder; simp; omega
        · right; omega
      rcases hlen with ⟨hlen, hor⟩ | hlen
      · obtain ⟨⟨y1, k1⟩, rfl⟩ := len1 hlen
        have hs : suitsB op [k1] = goesR k1 (wantsR op) := by rw [hw]; rfl
        cases hgo : goesR k1 (wantsR op)
        · have e : typeR ⟨op, xv, name, width, A, [(y1, k1)].length, c⟩ ([(y1, k1)].map (·.2)) = (0, 40) := by rw [et]; show (if suitsB op [k1] = false then _ else _) = _; rw [hs, hgo, if_pos rfl]
          rw [e]
          exact tyref_suit op xv name width A c cV _ hop hb ha t1 t2 (by simp [hgo]) w hl hA hE
        · have e : typeR ⟨op, xv, name, width, A, [(y1, k1)].length, c⟩ ([(y1, k1)].map (·.2)) = (givesR op, 0) := by rw [et]; show (if suitsB op [k1] = false then _ else _) = _; rw [hs, hgo, if_neg (by simp), hg]
          rw [e]
          exact tyref_ok1 op xv name width A c cV _ hop hb ha t1 t2 hor (by simp [hgo]) w hl hA hE
      · obtain ⟨⟨y1, k1⟩, ⟨y2, k2⟩, rfl⟩ := len2 hlen
        have hs : suitsB op [k1, k2] = (goesR k1 (wantsR op) && (goesR k2 (wantsR op) && (!isOrder op || goesR k1 k2))) := by rw [hw]; rfl
        cases hall : (goesR k1 (wantsR op) && goesR k2 (wantsR op))
        · have hs0 : suitsB op [k1, k2] = false := by rw [hs, ← Bool.and_assoc, hall]; rfl
          have e : typeR ⟨op, xv, name, width, A, [(y1, k1), (y2, k2)].length, c⟩ ([(y1, k1), (y2, k2)].map (·.2)) = (0, 40) := by rw [et]; show (if suitsB op [k1, k2] = false then _ else _) = _; rw [hs0, if_pos rfl]
          rw [e]
          exact tyref_suit op xv name width A c cV _ hop hb ha t1 t2 (by simpa using hall) w hl hA hE
        · have hs1 : suitsB op [k1, k2] = (!isOrder op || goesR k1 k2) := by rw [hs, ← Bool.and_assoc, hall]; rfl
          have hal : ([(y1, k1), (y2, k2)].all fun a => goesR a.2 (wantsR op)) = true := by simpa using hall
          cases hor : isOrder op
          · have e : typeR ⟨op, xv, name, width, A, [(y1, k1), (y2, k2)].length, c⟩ ([(y1, k1), (y2, k2)].map (·.2)) = (givesR op, 0) := by rw [et]; show (if suitsB op [k1, k2] = false then _ else _) = _; rw [hs1, hor, if_neg (by simp), hg]
            rw [e]
            exact tyref_ok1 op xv name width A c cV _ hop hb ha t1 t2 hor hal w hl hA hE
          · cases hgs : goesR k1 k2
            · have e : typeR ⟨op, xv, name, width, A, [(y1, k1), (y2, k2)].length, c⟩ ([(y1, k1), (y2, k2)].map (·.2)) = (0, 40) := by rw [et]; show (if suitsB op [k1, k2] = false then _ else _) = _; rw [hs1, hor, hgs, if_pos (by rfl)]
              rw [e]
              exact tyref_ordbad op xv name width A c cV _ hop hb ha t1 t2 hor (fun ts h => by rw [← h]; exact hgs) rfl hal w hl hA hE
            · have e : typeR ⟨op, xv, name, width, A, [(y1, k1), (y2, k2)].length, c⟩ ([(y1, k1), (y2, k2)].map (·.2)) = (givesR op, 0) := by rw [et]; show (if suitsB op [k1, k2] = false then _ else _) = _; rw [hs1, hor, hgs, if_neg (by simp), hg]
              rw [e]
              exact tyref_ok2 op xv name width A c cV _ hop hb ha t1 t2 hor (fun ts h => by rw [← h]; exact hgs) rfl hal w hl hA hE
end
section
variable (cols : List Col) (CA : Option Addr) (cc : Nat)
theorem tyref_all (op : Int) (xv : Val) (name : ByteArray) (width : Int) (A : Option Addr) (c : Nat) (args : List (Ex × (Int × Int))) (hop : 0 ≤ op ∧ op ≤ 255) (w : World) (hl : args.length ≤ 1599289640356) (hA : RE w w.heap.size A (args.map (·.1)))
    (hC : RC w w.heap.size CA cols) (hcl : cols.length ≤ 140737488355328) (hE : ∀ a ∈ args, TyRefIs w (.slice CA cols.length cc) a.1 a.2.1 a.2.2) :
    Calls Try.prog 24 #[.agg #[.int .u8 op, .int .u8 xv.k, .int .i64 xv.n, .string xv.s, .string name, .int .i64 width, .slice A args.length c], .slice CA cols.length cc] w fun en w' => en = .returned (.tuple #[.int .u8 (typeN cols ⟨op, xv, name, width, none, args.length, 0⟩ (args.map (·.2))).1, .int .i64 (typeN cols ⟨op, xv, name, width, none, args.length, 0⟩ (args.map (·.2))).2]) ∧ Below w.heap.size w w' := by
  rcases first_splitI args with h0 | ⟨pre, bad, post, rfl, hpre, hbad⟩
  · have hf : firstI (args.map (·.2)) = 0 := firstI_zero fun a ha => by obtain ⟨z, hz, rfl⟩ := List.mem_map.1 ha; exact h0 z hz
    by_cases h2 : op = 2 ∧ args = []
    · obtain ⟨rfl, rfl⟩ := h2
      have k := tyref_col 2 xv name width A c (.slice CA cols.length cc) [] hop (by rfl) (by rfl) (by rfl) (by rfl) cols CA cc rfl hcl w (by simp) hA (by simp) hC
      have e : typeN cols ⟨2, xv, name, width, none, 0, 0⟩ [] = typeCol cols name := by
        unfold typeN
        rw [if_neg (by simp [firstI]), if_neg (by simp [formE]), if_neg (by simp), if_pos (by rfl)]
      show Calls _ _ _ _ fun en w' => en = .returned (.tuple #[.int .u8 (typeN cols ⟨2, xv, name, width, none, 0, 0⟩ []).1, .int .i64 (typeN cols ⟨2, xv, name, width, none, 0, 0⟩ []).2]) ∧ _
      rw [e]
      exact k
    · have k := tyref_op2 op xv name width A c (.slice CA cols.length cc) (args.map fun a => (a.1, a.2.1)) hop (by
          by_cases ho : op = 2
          · right; intro h; exact h2 ⟨ho, by simpa using h⟩
          · exact .inl ho) w (by simpa using hl) (by simpa [Function.comp_def] using hA) (fun a ha => by
          obtain ⟨z, hz, rfl⟩ := List.mem_map.1 ha
          have := hE z hz
          rw [h0 z hz] at this
          exact this)
      rw [List.length_map] at k
      have hm : (args.map fun a => (a.1, a.2.1)).map (·.2) = (args.map (·.2)).map (·.1) := by simp [Function.comp_def]
      rw [hm] at k
      have e : typeN cols ⟨op, xv, name, width, none, args.length, 0⟩ (args.map (·.2)) = typeR ⟨op, xv, name, width, A, args.length, c⟩ ((args.map (·.2)).map (·.1)) := by
        have hfe' : formE ⟨op, xv, name, width, A, args.length, c⟩ = formE ⟨op, xv, name, width, none, args.length, 0⟩ := rfl
        unfold typeN typeR
        rw [if_neg (by rw [hf]; simp), hfe']
        dsimp only
        by_cases hfe : formE ⟨op, xv, name, width, none, args.length, 0⟩ = 0
        · simp only [hfe, ne_eq, not_true_eq_false, ↓reduceIte]
          by_cases h1 : op = 1
          · simp only [h1, ↓reduceIte]
          · simp only [h1, ↓reduceIte]
            rw [if_neg]
            intro ho
            exact h2 ⟨ho, formE_two (l := args) hfe ho⟩
        · simp only [hfe, ne_eq, not_false_eq_true, ↓reduceIte]
      rw [e]
      exact k
  · have hbE := hE bad (by simp)
    have k := tyref_err op xv name width A (pre ++ bad :: post).length c (.slice CA cols.length cc) (pre.map fun a => (a.1, a.2.1)) bad.1 bad.2.1 bad.2.2 (post.map (·.1)) (by simp; omega) w (by simp at hl ⊢; omega) hl (by simpa [Function.comp_def] using hA) (fun a ha => by
      obtain ⟨z, hz', rfl⟩ := List.mem_map.1 ha
      have := hE z (by simp [hz'])
      rw [hpre z hz'] at this
      exact this) hbE hbad
    have hf : firstI ((pre ++ bad :: post).map (·.2)) = bad.2.2 := by
      rw [List.map_append, List.map_cons]
      exact firstI_at (fun a ha => by obtain ⟨z, hz', rfl⟩ := List.mem_map.1 ha; exact hpre z hz') hbad
    have e : typeN cols ⟨op, xv, name, width, none, (pre ++ bad :: post).length, 0⟩ ((pre ++ bad :: post).map (·.2)) = (0, bad.2.2) := by
      unfold typeN
      rw [if_pos (by rw [hf]; exact hbad), hf]
    rw [e]
    exact k
mutual
theorem Tr.tyref_is (hcl : cols.length ≤ 140737488355328) : ∀ (t : Tr) (y : Ex) (w : World), t.ok → t.at_ w (Old w) y → RC w w.heap.size CA cols → TyRefIs w (.slice CA cols.length cc) y (t.type cols).1 (t.type cols).2
  | .mk op v name width args, y, w, hok, hat, hC => by
    intro W hb
    have hat2 := hat.later hb
    unfold Tr.at_ at hat2
    obtain ⟨h1, h2, h3, h4, h5, ys, h6, h7⟩ := hat2
    unfold Tr.ok at hok
    obtain ⟨l, hl1, hl2, hl3⟩ := Tr.tyrefs_is hcl args ys W hok.2.2.2.2.2 h7 (hC.later hb)
    obtain ⟨yop, yv, yname, ywidth, yA, yn, yc⟩ := y
    dsimp only at h1 h2 h3 h4 h5 h6
    subst h1 h2 h3 h4 h5
    have hlen : l.length = args.length := by
      have : (l.map (·.2)).length = (Tr.types cols args).length := by rw [hl2]
      rw [List.length_map, Tr.types_length] at this
      exact this
    have k := tyref_all cols CA cc yop yv yname ywidth yA yc l hok.2.2.1 W (by rw [hlen]; exact hok.2.1) (by rw [hl1]; exact h6.old) (hC.later hb) hcl hl3
    rw [hl2, hlen] at k
    unfold Tr.type
    exact k
theorem Tr.tyrefs_is (hcl : cols.length ≤ 140737488355328) : ∀ (ts : List Tr) (ys : List Ex) (w : World), Tr.oks ts → Tr.all_ w (Old w) ts ys → RC w w.heap.size CA cols → ∃ l : List (Ex × (Int × Int)), l.map (·.1) = ys ∧ l.map (·.2) = Tr.types cols ts ∧ ∀ a ∈ l, TyRefIs w (.slice CA cols.length cc) a.1 a.2.1 a.2.2
  | [], ys, w, _, hat, _ => by
    unfold Tr.all_ at hat
    subst hat
    exact ⟨[], rfl, by simp [Tr.types], by simp⟩
  | t :: ts, ys, w, hok, hat, hC => by
    unfold Tr.all_ at hat
    unfold Tr.oks at hok
    obtain ⟨y, ys', rfl, h2, h3⟩ := hat
    obtain ⟨l, hl1, hl2, hl3⟩ := Tr.tyrefs_is hcl ts ys' w hok.2 h3 hC
    refine ⟨(y, t.type cols) :: l, by simp [hl1], by simp [hl2, Tr.types], fun a ha => ?_⟩
    rcases List.mem_cons.1 ha with rfl | ha
    · exact Tr.tyref_is hcl t y w hok.1 h2 hC
    · exact hl3 a ha
end
end
end Go.Proofs.Ytlfahfoffdbpfaa
