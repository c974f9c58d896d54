/- Parts of the proof: PaQ, PaC, PaA, PaB, PaG, PaH, PaI, Gf, Rd4, Rd5, Rd6. Put together by slim.py. -/
import Derived.Laws.IdiomStrings
import Derived.Deep.LoopGhost
import Derived.Test.YtcneefmaghoejaaGreatDoorB12
import Derived.Test.YtcneefmaghoejaaGreatDoorB13
import Derived.Test.YtcneefmaghoejaaGreatDoorB14
import Derived.Test.YtcneefmaghoejaaGreatDoorB20
set_option linter.unusedSimpArgs false
set_option linter.unusedVariables false
namespace Go.Proofs.YtcneefmaghoejaaGreatDoor
theorem exprL_left {lv : Nat} (h : lv = 0 ∨ lv = 1 ∨ lv = 4 ∨ lv = 5) : exprL lv = leftP (exprL (lv + 1)) lv := by
  rcases h with rfl | rfl | rfl | rfl
  · exact exprL_0
  · exact exprL_1
  · exact exprL_4
  · exact exprL_5
structure LeftTo (lv : Nat) (σ : RSt) (x : Tr) (σ' : RSt) : Prop where
  step : stepS (exprL lv) σ = stepS (leftL (exprL (lv + 1)) lv x) σ'
  gives : ∀ z, Gives (leftL (exprL (lv + 1)) lv x) σ' z → Gives (exprL lv) σ z
section
variable {lv : Nat} {σ σ' : RSt} {x y : Tr} {o : Int}
theorem LeftTo.start (hlv : lv = 0 ∨ lv = 1 ∨ lv = 4 ∨ lv = 5) (h : Gives (exprL (lv + 1)) σ x) : LeftTo lv σ x (stepS (exprL (lv + 1)) σ) := by
  refine ⟨?_, fun z hz => ?_⟩
  · rw [exprL_left hlv, leftP_L]
    exact step_bind h
  · rw [exprL_left hlv, leftP_L]
    exact gives_bind h hz
theorem LeftTo.go (k : LeftTo lv σ x σ') (h : σ'.op lv = some o) (hy : Gives (exprL (lv + 1)) (.good σ'.words.tail) y) : LeftTo lv σ (opT o [x, y]) (stepS (exprL (lv + 1)) (.good σ'.words.tail)) := by
  refine ⟨?_, fun z hz => k.gives z ?_⟩
  · rw [k.step, step_left (sane_exprL _), h]
    exact step_bind hy
  · exact gives_left_some (sane_exprL _) lv x z o σ' h (gives_bind hy hz)
theorem LeftTo.done (k : LeftTo lv σ x σ') (h : σ'.op lv = none) : stepS (exprL lv) σ = σ' ∧ Gives (exprL lv) σ x := by
  refine ⟨?_, k.gives x (gives_left_none (sane_exprL _) lv x σ' h)⟩
  rw [k.step, step_left (sane_exprL _), h]
end
end Go.Proofs.YtcneefmaghoejaaGreatDoor
set_option linter.unusedSimpArgs false
set_option linter.unusedVariables false
namespace Go.Proofs.YtcneefmaghoejaaGreatDoor
def cmpR (x : Tr) : Ps Tr := do
  if ← may w_is then
    let n ← may w_not
    must w_null
    return opT (if n then 19 else 18) [x]
  else cmpF (exprL 4) x
structure CmpTo (σ : RSt) (x : Tr) (σ' : RSt) : Prop where
  step : stepS (exprL 3) σ = stepS (cmpR x) σ'
  gives : ∀ z, Gives (cmpR x) σ' z → Gives (exprL 3) σ z
section
variable {σ σ' : RSt} {x y : Tr} {o : Int}
theorem CmpTo.start (h : Gives (exprL 4) σ x) : CmpTo σ x (stepS (exprL 4) σ) := by
  have e : exprL 3 = (do let x ← exprL 4; cmpR x) := by rw [exprL_3]; rfl
  refine ⟨?_, fun z hz => ?_⟩
  · rw [e]; exact step_bind h
  · rw [e]; exact gives_bind h hz
theorem cmpR_false (h : σ'.head w_is = false) : stepS (cmpR x) σ' = stepS (cmpF (exprL 4) x) σ' ∧ ∀ z, Gives (cmpF (exprL 4) x) σ' z → Gives (cmpR x) σ' z := by
  constructor
  · unfold cmpR
    rw [step_bind (gives_may w_is σ'), h, step_may_false h]
    rfl
  · intro z hz
    refine gives_bind (gives_may w_is σ') ?_
    rw [h, step_may_false h]
    exact hz
theorem CmpTo.none_ (k : CmpTo σ x σ') (h : σ'.head w_is = false) (ho : σ'.op 3 = none) : stepS (exprL 3) σ = σ' ∧ Gives (exprL 3) σ x := by
  obtain ⟨h1, h2⟩ := cmpR_false (x := x) h
  rw [k.step, h1]
  match σ', ho with
  | .bad n, _ => exact ⟨rfl, k.gives _ trivial⟩
  | .good l, ho =>
    have ho : opOf (opsL 3) l = none := ho
    refine ⟨by simp only [stepS, cmpF, ho], k.gives _ (h2 _ ?_)⟩
    simp only [Gives, cmpF, ho]
theorem CmpTo.some_ (k : CmpTo σ x σ') (h : σ'.head w_is = false) (ho : σ'.op 3 = some o) (hy : Gives (exprL 4) (.good σ'.words.tail) y) : stepS (exprL 3) σ = stepS (exprL 4) (.good σ'.words.tail) ∧ Gives (exprL 3) σ (opT o [x, y]) := by
  obtain ⟨h1, h2⟩ := cmpR_false (x := x) h
  rw [k.step, h1]
  match σ', ho with
  | .bad n, ho => simp [RSt.op, RSt.words, opOf_nil] at ho
  | .good l, ho =>
    have ho : opOf (opsL 3) l = some o := ho
    refine ⟨?_, k.gives _ (h2 _ ?_)⟩
    · simp only [stepS, cmpF, ho, bind_at, RSt.words]
      cases exprL 4 l.tail with
      | error n => rfl
      | ok y => rfl
    · simp only [RSt.words, Gives] at hy
      simp only [Gives, cmpF, ho, bind_at]
      cases e : exprL 4 l.tail with
      | error n => trivial
      | ok y =>
        rw [e] at hy
        simp only at hy
        subst hy
        rfl
end
end Go.Proofs.YtcneefmaghoejaaGreatDoor
set_option linter.unusedSimpArgs false
set_option linter.unusedVariables false
namespace Go.Proofs.YtcneefmaghoejaaGreatDoor
section
variable {t : Wd} {r : Wds} {x : Tr}
structure Plain (t : Wd) : Prop where
  i : t.k ≠ 2
  s : t.k ≠ 3
structure Named (t : Wd) : Prop where
  p : Plain t
  wt : isW w_true t = false
  wf : isW w_false t = false
  wn : isW w_null t = false
  wo : isW s_open t = false
end
section
variable {n : ByteArray} {σ : RSt} {z : Tr} {op : Int}
end
end Go.Proofs.YtcneefmaghoejaaGreatDoor
set_option linter.unusedSimpArgs false
set_option linter.unusedVariables false
namespace Go.Proofs.YtcneefmaghoejaaGreatDoor
section
variable {s : List UInt8} {σ : RSt} {x : Tr}
end
structure ListTo {α : Type} (el : Ps α) (σ : RSt) (acc : List α) (σ' : RSt) : Prop where
  step : stepS (listP el) σ = stepS (moreL el acc) σ'
  gives : ∀ z, Gives (moreL el acc) σ' z → Gives (listP el) σ z
section
variable {α : Type} {el : Ps α} {σ σ' : RSt} {acc : List α} {x : α}
theorem ListTo.start (h : Gives el σ x) : ListTo el σ [x] (stepS el σ) := by
  rw [show (ListTo el σ [x] (stepS el σ)) = (ListTo el σ [x] (stepS el σ)) from rfl]
  refine ⟨?_, fun z hz => ?_⟩
  · rw [listP_L]; exact step_bind h
  · rw [listP_L]; exact gives_bind h hz
theorem ListTo.go (hb : Sane el) (k : ListTo el σ acc σ') (h : σ'.head s_comma = true) (hx : Gives el (.good σ'.words.tail) x) : ListTo el σ (acc ++ [x]) (stepS el (.good σ'.words.tail)) := by
  refine ⟨?_, fun z hz => k.gives z ?_⟩
  · rw [k.step, moreL_eq hb, step_bind (gives_may s_comma _), h, step_may_true h]
    simp only [if_true]
    exact step_bind hx
  · rw [moreL_eq hb]
    refine gives_bind (gives_may s_comma _) ?_
    rw [h, step_may_true h]
    exact gives_bind hx hz
theorem ListTo.done (hb : Sane el) (k : ListTo el σ acc σ') (h : σ'.head s_comma = false) : stepS (listP el) σ = σ' ∧ Gives (listP el) σ acc := by
  refine ⟨?_, k.gives _ ?_⟩
  · rw [k.step, moreL_eq hb, step_bind (gives_may s_comma _), h, step_may_false h]
    exact step_pure _ _
  · rw [moreL_eq hb]
    refine gives_bind (gives_may s_comma _) ?_
    rw [h, step_may_false h]
    exact gives_pure _ _
end
end Go.Proofs.YtcneefmaghoejaaGreatDoor
set_option linter.unusedSimpArgs false
set_option linter.unusedVariables false
namespace Go.Proofs.YtcneefmaghoejaaGreatDoor
section
variable {σ : RSt}
structure QTo {α : Type} (σ : RSt) (k : Ps Qu) (σ' : RSt) : Prop where
  step : stepS queryP σ = stepS k σ'
  gives : ∀ z, Gives k σ' z → Gives queryP σ z
theorem QTo.go {α : Type} {σ σ' : RSt} {p : Ps α} {f : α → Ps Qu} {x : α} (q : QTo (α := Unit) σ (p >>= f) σ') (h : Gives p σ' x) : QTo (α := Unit) σ (f x) (stepS p σ') :=
  ⟨by rw [q.step]; exact step_bind h, fun z hz => q.gives z (gives_bind h hz)⟩
theorem QTo.start (σ : RSt) : QTo (α := Unit) σ queryP σ := ⟨rfl, fun _ h => h⟩
theorem QTo.done {σ σ' : RSt} {x : Qu} (q : QTo (α := Unit) σ (pure x) σ') : stepS queryP σ = σ' ∧ Gives queryP σ x :=
  ⟨by rw [q.step]; exact step_pure _ _, q.gives x (gives_pure _ _)⟩
end
end Go.Proofs.YtcneefmaghoejaaGreatDoor
set_option linter.unusedSimpArgs false
set_option linter.unusedVariables false
namespace Go.Proofs.YtcneefmaghoejaaGreatDoor
structure PTo {α : Type} (P : Ps α) (σ : RSt) (k : Ps α) (σ' : RSt) : Prop where
  step : stepS P σ = stepS k σ'
  gives : ∀ z, Gives k σ' z → Gives P σ z
section
variable {α β : Type} {P k : Ps α} {σ σ' : RSt} {p : Ps β} {f : β → Ps α} {x : β} {z : α}
theorem PTo.start (P : Ps α) (σ : RSt) : PTo P σ P σ := ⟨rfl, fun _ h => h⟩
theorem PTo.go (q : PTo P σ (p >>= f) σ') (h : Gives p σ' x) : PTo P σ (f x) (stepS p σ') :=
  ⟨by rw [q.step]; exact step_bind h, fun z hz => q.gives z (gives_bind h hz)⟩
theorem PTo.done (q : PTo P σ (pure z) σ') : stepS P σ = σ' ∧ Gives P σ z :=
  ⟨by rw [q.step]; exact step_pure _ _, q.gives z (gives_pure _ _)⟩
theorem PTo.bad {n : Nat} (q : PTo P σ k (.bad n)) (z : α) : stepS P σ = .bad n ∧ Gives P σ z := ⟨q.step, q.gives z trivial⟩
end
end Go.Proofs.YtcneefmaghoejaaGreatDoor
set_option linter.unusedSimpArgs false
set_option linter.unusedVariables false
namespace Go.Proofs.YtcneefmaghoejaaGreatDoor
section
variable {α β γ : Type}
theorem ps_assoc (p : Ps α) (g : α → Ps β) (f : β → Ps γ) : ((p >>= g) >>= f) = (p >>= fun x => g x >>= f) := by
  funext l
  rw [bind_at, bind_at, bind_at]
  cases p l <;> rfl
theorem ps_pure (x : α) (f : α → Ps β) : ((pure x : Ps α) >>= f) = f x := rfl
end
theorem musts_two (s t : List UInt8) (k : Unit → Ps St) : (must s >>= fun _ => must t >>= k) = (musts [s, t] >>= k) := by
  unfold musts
  rw [ps_assoc]
  congr 1
  funext _
  unfold musts
  rw [ps_assoc]
  congr 1
theorem PTo.bad_as {α : Type} {P k : Ps α} {σ : RSt} {n : Nat} (q : PTo P σ k (.bad n)) (k' : Ps α) : PTo P σ k' (.bad n) := ⟨q.step, fun z _ => q.gives z trivial⟩
def tbE (name : ByteArray) (cols : List (ByteArray × Int)) (time : ByteArray) (every : Int) (sp : ByteArray × Int) : Ps St := pure { kind := 1, name, cols, time, every, space := sp.1, parts := sp.2 }
def tbS (name : ByteArray) (cols : List (ByteArray × Int)) (time : ByteArray) (every : Int) (b : Bool) : Ps St :=
  if b then (do
    let s ← nameP
    must w_into
    let n ← numP
    tbE name cols time every (s, n)) else tbE name cols time every (ByteArray.empty, 0)
def tbD (name : ByteArray) (cols : List (ByteArray × Int)) (time : ByteArray) (every : Int) : Ps St := do
  let b ← may w_space
  tbS name cols time every b
theorem tbD_eq (name : ByteArray) (cols : List (ByteArray × Int)) (time : ByteArray) (every : Int) : (spaceP >>= tbE name cols time every) = tbD name cols time every := by
  unfold spaceP tbD tbS
  rw [ps_assoc]
  congr 1
  funext b
  cases b
  · rfl
  · simp only [if_true]
    rw [ps_assoc]
    congr 1
    funext s
    rw [ps_assoc]
    congr 1
    funext _
    rw [ps_assoc]
    rfl
def tbB (name : ByteArray) (cols : List (ByteArray × Int)) : Ps St := do
  musts [s_close, w_time]
  let time ← nameP
  must w_every
  let every ← numP
  tbD name cols time every
def tbA (name : ByteArray) : Ps St := do
  must s_open
  let cols ← listP columnP
  tbB name cols
theorem table_eq : tableP = (nameP >>= tbA) := by
  unfold tableP tbA tbB
  congr 1
  funext name
  congr 1
  funext _
  congr 1
  funext cols
  rw [← musts_two]
  congr 1
  funext _
  congr 1
  funext _
  congr 1
  funext time
  congr 1
  funext _
  congr 1
  funext every
  exact tbD_eq name cols time every
def jobE (name : ByteArray) (what : Int) (of_ : ByteArray) (a b : Int) : Ps St := do
  must w_every
  let every ← numP
  return { kind := 3, name, what, of_, a, b, every }
def jobA (name : ByteArray) (s : List UInt8) : Ps St :=
  if s = w_refresh then (do
    let of_ ← nameP
    must w_from
    let a ← numP
    must w_to
    let b ← numP
    jobE name 9 of_ a b) else (do
    let of_ ← nameP
    must w_after
    let a ← numP
    jobE name (if s = w_compress then 10 else 12) of_ a 0)
theorem job_eq : jobP = (nameP >>= fun name => anyP [w_refresh, w_compress, w_drop] >>= fun s => jobA name s) := by
  unfold jobP
  congr 1
  funext name
  congr 1
  funext s
  unfold jobA jobAP
  by_cases h : s = w_refresh
  · simp only [h, if_true]
    congr 1
    funext of_
    rw [ps_assoc]
    congr 1
    funext _
    rw [ps_assoc]
    congr 1
    funext a
    rw [ps_assoc]
    congr 1
    funext _
    rw [ps_assoc]
    rfl
  · simp only [h, if_false]
    congr 1
    funext of_
    rw [ps_assoc]
    congr 1
    funext _
    rw [ps_assoc]
    rfl
end Go.Proofs.YtcneefmaghoejaaGreatDoor
namespace Go.Proofs.YtcneefmaghoejaaGreatDoor
open Go.ChangeShapes Go.WideShapes Go.ChangeAt Go.RowKit
set_option linter.unusedVariables false
set_option linter.unusedSimpArgs false
def fnP (nm : ByteArray) : Ps Tr := fun l => match funOf nm with
  | none => .error (l.length + 1)
  | some op => funP (exprL 0) op l
theorem fn_none {nm : ByteArray} {l : Wds} (h : funOf nm = none) : fnP nm l = .error (l.length + 1) := by unfold fnP; rw [h]
theorem fn_some {nm : ByteArray} {l : Wds} {op : Int} (h : funOf nm = some op) : fnP nm l = funP (exprL 0) op l := by unfold fnP; rw [h]
theorem fnp_20 (W : Ps Tr) : funP W 20 = (do let n ← numP; must s_comma; let x ← W; must s_close; return .mk 20 nilVal ByteArray.empty n [x]) := by
  unfold funP argsP widthP secondP
  rw [if_neg (by decide), if_pos rfl, if_neg (by decide)]
  simp only [ps_assoc, ps_pure]
theorem fnp_star {W : Ps Tr} {l : Wds} (h : headIs s_star l = true) : funP W 22 l = (do must s_close; return opT 21 [] : Ps Tr) l.tail := by
  unfold funP countP
  rw [if_pos rfl, may_bind]
  simp only [h, if_true]
theorem fnp_one {W : Ps Tr} {op : Int} {l : Wds} (h22 : op = 22 → headIs s_star l = false) (h20 : op ≠ 20) (h27 : op ≠ 27) (h28 : op ≠ 28) : funP W op l = (do let x ← W; must s_close; return .mk op nilVal ByteArray.empty 0 [x] : Ps Tr) l := by
  have ha : argsP W op = (do let x ← W; must s_close; return .mk op nilVal ByteArray.empty 0 [x]) := by
    unfold argsP widthP secondP
    rw [if_neg h20, if_neg (by omega)]
    simp only [ps_assoc, ps_pure]
  unfold funP countP
  by_cases h : op = 22
  · subst h
    rw [if_pos rfl, may_bind]
    simp only [h22 rfl, ha]
    rfl
  · rw [if_neg h, ha]
theorem fnp_two {W : Ps Tr} {op : Int} (h : op = 27 ∨ op = 28) : funP W op = (do let x ← W; must s_comma; let y ← W; must s_close; return .mk op nilVal ByteArray.empty 0 [x, y]) := by
  unfold funP argsP widthP secondP
  rw [if_neg (by omega), if_neg (by omega), if_pos h]
  simp only [ps_assoc, ps_pure]
theorem lookup_map {α β : Type} (f : α → β) (k : List UInt8) : ∀ l : List (List UInt8 × α), (l.map fun x => (x.1, f x.2)).lookup k = (l.lookup k).map f
  | [] => rfl
  | (x, v) :: l => by
    simp only [List.map_cons, List.lookup_cons, lookup_map f k l]
    cases k == x <;> rfl
def funM : List (List UInt8 × Value) := funL.map fun x => (x.1, .int .u8 x.2)
theorem fun_look (nm : ByteArray) : (funM.lookup nm.data.toList).getD (.int .u8 0) = .int .u8 ((funOf nm).getD 0) := by
  unfold funM funOf
  rw [lookup_map (fun o : Int => Value.int .u8 o)]
  cases funL.lookup nm.data.toList <;> rfl
theorem fun_op {nm : ByteArray} {op : Int} (h : funOf nm = some op) : 20 ≤ op ∧ op ≤ 28 ∧ op ≠ 21 := by
  unfold funOf at h
  have : ∀ (l : List (List UInt8 × Int)), (∀ x ∈ l, 20 ≤ x.2 ∧ x.2 ≤ 28 ∧ x.2 ≠ 21) → ∀ k o, l.lookup k = some o → 20 ≤ o ∧ o ≤ 28 ∧ o ≠ 21 := by
    intro l
    induction l with
    | nil => intro _ k o h; simp at h
    | cons x l ih =>
      intro hl k o h
      obtain ⟨x1, x2⟩ := x
      rw [List.lookup_cons] at h
      cases hk : (k == x1)
      · rw [hk] at h; exact ih (fun y hy => hl y (List.mem_cons_of_mem _ hy)) k o h
      · rw [hk] at h
        simp only at h
        injection h with h
        have := hl (x1, x2) (by simp)
        simp only at this
        omega
  exact this funL (by decide) _ _ h
structure K2 (W : World) (G qx : Nat) (t : Tr) (y : Ex) : Prop where
  blk : Blk W G 49 (exC y).toArray
  tr : t.at_ W (Bx (qx + 1) G W) y
  lt : qx < G
theorem K2.later {W W' : World} {G qx : Nat} {t : Tr} {y : Ex} (h : K2 W G qx t y) (hb : Below W.heap.size W W') : K2 W' G qx t y := ⟨h.blk.later hb, Tr.at_.keep (bx_later hb) _ _ h.tr, h.lt⟩
theorem K2.go {ρ : Rdr} {W W' : World} {l : Wds} {lg dp : Bool} {G qx : Nat} {t : Tr} {y : Ex} (h : K2 W G qx t y) (d : GDid ρ W W' l lg dp) (hg : ρ.g < qx) : K2 W' G qx t y :=
  ⟨d.blk h.blk (by have := h.lt; omega), Tr.at_.keep (bx_grown d.grown (by omega)) _ _ h.tr, h.lt⟩
theorem Rdr.gat.back {ρ : Rdr} {w : World} {l : Wds} {t0 : Wd} {lg dp : Bool} (h : ρ.gat w l lg dp) (h0 : (RSt.good (t0 :: l)).of ρ.ws) : GDid ρ w (w.setCell ⟨ρ.g, 1, none⟩ (.int .i64 ((ρ.n : Int) - ((l.length : Int) + 1)))) (t0 :: l) lg dp := by
  have hB := Blk.set_ h.blk 1 (.int .i64 ((ρ.n : Int) - ((l.length : Int) + 1)))
  have e : (ρ.gcells l lg dp).setIfInBounds 1 (.int .i64 ((ρ.n : Int) - ((l.length : Int) + 1))) = ρ.gcells (t0 :: l) lg dp := by
    unfold Rdr.gcells
    simp
  rw [e] at hB
  exact ⟨h.set hB (grown_set (grown_below (Below.refl _ _)) 1 _) h0, grown_set (grown_below (Below.refl _ _)) 1 _⟩
theorem ex_cells7 {w : World} {q : Nat} {y : Ex} (h : Blk w q 49 (exC y).toArray) :
    w.cell? ⟨q, 0, none⟩ = some (.int .u8 y.op) ∧ w.cell? ⟨q, 1, none⟩ = some (.int .u8 y.v.k) ∧ w.cell? ⟨q, 2, none⟩ = some (.int .i64 y.v.n) ∧ w.cell? ⟨q, 3, none⟩ = some (.string y.v.s) ∧ w.cell? ⟨q, 4, none⟩ = some (.string y.name) ∧ w.cell? ⟨q, 5, none⟩ = some (.int .i64 y.width) ∧ w.cell? ⟨q, 6, none⟩ = some (.slice y.A y.n y.c) :=
  ⟨h.cell 0, h.cell 1, h.cell 2, h.cell 3, h.cell 4, h.cell 5, h.cell 6⟩
theorem ex_frozen7 {w : World} {q : Nat} {T : TypeId} {cs : Array Value} (h : Blk w q T cs) :
    w.frozen? ⟨q, 0, none⟩ = false ∧ w.frozen? ⟨q, 1, none⟩ = false ∧ w.frozen? ⟨q, 2, none⟩ = false ∧ w.frozen? ⟨q, 3, none⟩ = false ∧ w.frozen? ⟨q, 4, none⟩ = false ∧ w.frozen? ⟨q, 5, none⟩ = false ∧ w.frozen? ⟨q, 6, none⟩ = false :=
  ⟨h.frozen 0, h.frozen 1, h.frozen 2, h.frozen 3, h.frozen 4, h.frozen 5, h.frozen 6⟩
def fx (op width : Int) : Ex := ⟨op, nilY, ⟨#[]⟩, width, none, 0, 0⟩
def fx1 (op width : Int) (G : Nat) : Ex := ⟨op, nilY, ⟨#[]⟩, width, some ⟨G, 0, none⟩, 1, 1⟩
theorem fx_at (w : World) (S : Nat → Prop) (op width : Int) : (Tr.mk op nilVal ByteArray.empty width []).at_ w S (fx op width) := by
  unfold Tr.at_
  exact ⟨rfl, rfl, rfl, rfl, rfl, [], .inl rfl, Tr.all_nil⟩
section
variable {ρ : Rdr} {w wr : World} {lg dp : Bool} {q qx : Nat} {l' : Wds} {t1 : Tr} {y1 : Ex} {op width : Int}
theorem GCmp.setW {n : Int} (A : GCmp ρ w lg dp q qx wr l' (.mk op nilVal ByteArray.empty 0 []) (fx op 0)) (hgg : ρ.g < w.heap.size) (hq : w.heap.size ≤ q) (hqx : q < qx) : GCmp ρ w lg dp q qx (wr.setCell ⟨qx, 5, none⟩ (.int .i64 n)) l' (.mk op nilVal ByteArray.empty n []) (fx op n) := by
  refine ⟨A.did.far hgg (by omega) _ _, ?_, A.res.far (p := ⟨qx, 5, none⟩) (by simp; omega) _, fx_at _ _ _ _⟩
  have := A.blk.set_ 5 (.int .i64 n)
  exact this
theorem GCmp.args1 {B : Nat} (A : GCmp ρ w lg dp q qx wr l' (.mk op nilVal ByteArray.empty width []) (fx op width)) (hgg : ρ.g < w.heap.size) (hq : w.heap.size ≤ q) (hqx : q < qx) (hB : qx < B) (hat : t1.at_ wr (Btw B wr) y1) :
    GCmp ρ w lg dp q qx ((wr.setCell ⟨qx, 6, none⟩ (.slice (some ⟨wr.heap.size, 0, none⟩) 1 1)).alloc (.cells (exC y1).toArray 49)) l' (.mk op nilVal ByteArray.empty width [t1]) (fx1 op width wr.heap.size) := by
  have hx := A.blk.lt
  have hs : (wr.setCell ⟨qx, 6, none⟩ (.slice (some ⟨wr.heap.size, 0, none⟩) 1 1)).heap.size = wr.heap.size := by simp [World.setCell]
  have hb := later_new (wr.setCell ⟨qx, 6, none⟩ (.slice (some ⟨wr.heap.size, 0, none⟩) 1 1)) (.cells (exC y1).toArray 49)
  have hN := Blk.new (wr.setCell ⟨qx, 6, none⟩ (.slice (some ⟨wr.heap.size, 0, none⟩) 1 1)) 49 (exC y1).toArray
  rw [hs] at hN
  refine ⟨(A.did.far hgg (by omega) _ _).later hb, ?_, (A.res.far (p := ⟨qx, 6, none⟩) (by simp; omega) _).alloc _, ?_⟩
  · have := A.blk.set_ 6 (.slice (some ⟨wr.heap.size, 0, none⟩) 1 1)
    exact this.alloc _
  · unfold Tr.at_
    refine ⟨rfl, rfl, rfl, rfl, rfl, [y1], rl_blk ex_len (by simpa using hN) ⟨by omega, hN.lt, by omega⟩, Tr.all_one ?_⟩
    exact Tr.at_.keep (bx_later hb) _ _ (Tr.at_.keep (bx_set (q := qx) 6 _) _ _ (Tr.at_.keep (bx_in hB (by omega)) _ _ hat))
theorem GCmp.args1k {B : Nat} {t0 : Tr} {y0 : Ex} (A : GCmp ρ w lg dp q qx wr l' t0 y0) (hqx : q < qx) (hB : qx < B) (hat : t1.at_ wr (Btw B wr) y1) :
    K2 ((wr.setCell ⟨qx, 6, none⟩ (.slice (some ⟨wr.heap.size, 0, none⟩) 1 1)).alloc (.cells (exC y1).toArray 49)) wr.heap.size qx t1 y1 := by
  have hx := A.blk.lt
  have hs : (wr.setCell ⟨qx, 6, none⟩ (.slice (some ⟨wr.heap.size, 0, none⟩) 1 1)).heap.size = wr.heap.size := by simp [World.setCell]
  have hb := later_new (wr.setCell ⟨qx, 6, none⟩ (.slice (some ⟨wr.heap.size, 0, none⟩) 1 1)) (.cells (exC y1).toArray 49)
  have hN := Blk.new (wr.setCell ⟨qx, 6, none⟩ (.slice (some ⟨wr.heap.size, 0, none⟩) 1 1)) 49 (exC y1).toArray
  rw [hs] at hN
  exact ⟨hN, Tr.at_.keep (bx_later hb) _ _ (Tr.at_.keep (fun b hb => (bx_far (p := qx) (B := qx + 1) (q := wr.heap.size) (by omega) 6 _) b ⟨by have := hb.1; omega, hb.2, by have := hb.2; omega⟩) _ _ hat), hx⟩
theorem GCmp.args2 {W : World} {A : Option Addr} {c G : Nat} {t2 : Tr} {y2 : Ex} (D : GDid ρ w W l' lg dp) (X : Blk W qx 49 (exC (fx1 op 0 G)).toArray) (R : Blk W q 49 ex0) (hgg : ρ.g < w.heap.size) (hq : w.heap.size ≤ q) (hqx : q < qx)
    (hrl : RL exC 7 W (Btw (qx + 1) W) A [y1, y2]) (h1 : t1.at_ W (Btw (qx + 1) W) y1) (h2 : t2.at_ W (Btw (qx + 1) W) y2) : GCmp ρ w lg dp q qx (W.setCell ⟨qx, 6, none⟩ (.slice A 2 c)) l' (.mk op nilVal ByteArray.empty 0 [t1, t2]) ⟨op, nilY, ⟨#[]⟩, 0, A, 2, c⟩ := by
  have hk : ∀ b, Btw (qx + 1) W b → (∀ o, (W.setCell ⟨qx, 6, none⟩ (.slice A 2 c)).cell? ⟨b, o, none⟩ = W.cell? ⟨b, o, none⟩) ∧ Bx (q + 1) qx (W.setCell ⟨qx, 6, none⟩ (.slice A 2 c)) b := fun b hb =>
    ⟨((btw_set (Nat.lt_succ_self qx) 6 _) b hb).1, by have := hb.1; omega, by simpa [World.setCell] using hb.2, by have := hb.1; omega⟩
  refine ⟨D.far hgg (by omega) _ _, ?_, R.far (p := ⟨qx, 6, none⟩) (by simp; omega) _, ?_⟩
  · have := X.set_ 6 (.slice A 2 c)
    exact this
  · unfold Tr.at_
    exact ⟨rfl, rfl, rfl, rfl, rfl, [y1, y2], hrl.keep hk, Tr.all_two (Tr.at_.keep hk _ _ h1) (Tr.at_.keep hk _ _ h2)⟩
end
end Go.Proofs.YtcneefmaghoejaaGreatDoor
namespace Go.Proofs.YtcneefmaghoejaaGreatDoor
open Go.ChangeShapes Go.WideShapes Go.ChangeAt Go.RowKit
set_option linter.unusedVariables false
set_option linter.unusedSimpArgs false
structure Kinds (t : Wd) : Prop where
  sign : t.k = 1 ∨ t.k = 4
end Go.Proofs.YtcneefmaghoejaaGreatDoor
namespace Go.Proofs.YtcneefmaghoejaaGreatDoor
open Go.ChangeShapes Go.WideShapes Go.ChangeAt Go.RowKit
set_option linter.unusedVariables false
set_option linter.unusedSimpArgs false
def putEx (w : World) (q : Nat) (y : Ex) : World := ((((((w.setCell ⟨q, 0, none⟩ (.int .u8 y.op)).setCell ⟨q, 1, none⟩ (.int .u8 y.v.k)).setCell ⟨q, 2, none⟩ (.int .i64 y.v.n)).setCell ⟨q, 3, none⟩ (.string y.v.s)).setCell ⟨q, 4, none⟩ (.string y.name)).setCell ⟨q, 5, none⟩ (.int .i64 y.width)).setCell ⟨q, 6, none⟩ (.slice y.A y.n y.c)
theorem putEx_blk {w : World} {q : Nat} {T : TypeId} {a b c d e f g : Value} (h : Blk w q T #[a, b, c, d, e, f, g]) (y : Ex) : Blk (putEx w q y) q T (exC y).toArray := by
  have := ((((((h.set_ 0 (.int .u8 y.op)).set_ 1 (.int .u8 y.v.k)).set_ 2 (.int .i64 y.v.n)).set_ 3 (.string y.v.s)).set_ 4 (.string y.name)).set_ 5 (.int .i64 y.width)).set_ 6 (.slice y.A y.n y.c)
  simp only [List.setIfInBounds_toArray, List.set_cons_zero, List.set_cons_succ] at this
  exact this
theorem putEx_far {w : World} {q p : Nat} {T : TypeId} {cs : Array Value} (h : Blk w p T cs) (hp : p ≠ q) (y : Ex) : Blk (putEx w q y) p T cs :=
  ((((((h.far (p := ⟨q, 0, none⟩) hp _).far (p := ⟨q, 1, none⟩) hp _).far (p := ⟨q, 2, none⟩) hp _).far (p := ⟨q, 3, none⟩) hp _).far (p := ⟨q, 4, none⟩) hp _).far (p := ⟨q, 5, none⟩) hp _).far (p := ⟨q, 6, none⟩) hp _
theorem Did.putEx {ρ : Rdr} {W w : World} {σ : RSt} {big : Bool} {q : Nat} (h : Did ρ W w σ big) (hW : ρ.g < W.heap.size) (hq : W.heap.size ≤ q) (y : Ex) : Did ρ W (putEx w q y) σ big :=
  ((((((h.far hW hq 0 _).far hW hq 1 _).far hW hq 2 _).far hW hq 3 _).far hW hq 4 _).far hW hq 5 _).far hW hq 6 _
theorem keep7 {w : World} {q : Nat} {S : World → Nat → Prop} (hs : ∀ (w : World) (i : Nat) (u : Value), ∀ b, S w b → (∀ o, (w.setCell ⟨q, i, none⟩ u).cell? ⟨b, o, none⟩ = w.cell? ⟨b, o, none⟩) ∧ S (w.setCell ⟨q, i, none⟩ u) b) (y : Ex) : ∀ b, S w b → (∀ o, (Go.Proofs.YtcneefmaghoejaaGreatDoor.putEx w q y).cell? ⟨b, o, none⟩ = w.cell? ⟨b, o, none⟩) ∧ S (Go.Proofs.YtcneefmaghoejaaGreatDoor.putEx w q y) b := by
  intro b hb
  obtain ⟨c0, s0⟩ := hs w 0 (.int .u8 y.op) b hb
  obtain ⟨c1, s1⟩ := hs _ 1 (.int .u8 y.v.k) b s0
  obtain ⟨c2, s2⟩ := hs _ 2 (.int .i64 y.v.n) b s1
  obtain ⟨c3, s3⟩ := hs _ 3 (.string y.v.s) b s2
  obtain ⟨c4, s4⟩ := hs _ 4 (.string y.name) b s3
  obtain ⟨c5, s5⟩ := hs _ 5 (.int .i64 y.width) b s4
  obtain ⟨c6, s6⟩ := hs _ 6 (.slice y.A y.n y.c) b s5
  exact ⟨fun o => (c6 o).trans ((c5 o).trans ((c4 o).trans ((c3 o).trans ((c2 o).trans ((c1 o).trans (c0 o)))))), s6⟩
theorem Tr.at_.putEx {B q : Nat} {w : World} {t : Tr} {y : Ex} (h : t.at_ w (Btw B w) y) (hq : q < B) (z : Ex) : t.at_ (putEx w q z) (Btw B (Go.Proofs.YtcneefmaghoejaaGreatDoor.putEx w q z)) y := Tr.at_.keep (keep7 (S := fun w => Btw B w) (fun w i u => btw_set hq i u) z) t y h
end Go.Proofs.YtcneefmaghoejaaGreatDoor
namespace Go.Proofs.YtcneefmaghoejaaGreatDoor
open Go.ChangeShapes Go.WideShapes Go.ChangeAt Go.RowKit
set_option linter.unusedVariables false
set_option linter.unusedSimpArgs false
structure AtLeft (ρ : Rdr) (w : World) (big : Bool) (lv : Nat) (σ : RSt) (q qx : Nat) (wr : World) (σ' : RSt) (t : Tr) (y : Ex) : Prop where
  did : Did ρ w wr σ' big
  blk : Blk wr qx 49 (exC y).toArray
  res : Blk wr q 49 #[.int .u8 0, .int .u8 0, .int .i64 0, .string ⟨#[]⟩, .string ⟨#[]⟩, .int .i64 0, .slice none 0 0]
  tr : t.at_ wr (Bx (q + 1) qx wr) y
  todo : LeftTo lv σ t σ'
  le : σ'.left ≤ σ.left
def exO (y : Ex) : Obj := .cells (exC y).toArray 49
def exO2 (y z : Ex) : Obj := .cells (exC y ++ exC z).toArray 49
theorem AtLeft.round {ρ : Rdr} {w wr W2 Ws w3 : World} {big : Bool} {lv : Nat} {σ σ' : RSt} {q qx : Nat} {t' t2 : Tr} {y' v2 : Ex} {l : Wds} {bi : Int} (hgg : ρ.g < w.heap.size) (hqw : q = w.heap.size) (hqq : q + 1 ≤ qx) (A : AtLeft ρ w big lv σ q qx wr σ' t' y') (hW : Below wr.heap.size wr W2) (hst : Did ρ W2 Ws (.good l) big) (d2 : Did ρ Ws w3 (stepS (exprL (lv + 1)) (.good l)) big)
    (ht2 : t2.at_ w3 (Btw Ws.heap.size w3) v2) (hop : σ'.op lv = some bi) (hl : σ'.words.tail = l) (hlen : l.length < σ'.left) (hgv : Gives (exprL (lv + 1)) (.good l) t2) :
    AtLeft ρ w big lv σ q qx (putEx ((w3.alloc (exO v2)).alloc (exO2 y' v2)) qx (opY bi (w3.heap.size + 1) 2)) (stepS (exprL (lv + 1)) (.good l)) (opT bi [t', t2]) (opY bi (w3.heap.size + 1) 2) := by
  have hz1 := d2.size
  have hz2 := hst.size
  have hz3 := hW.size
  have hqb := A.blk.lt
  have b12 : Below w3.heap.size w3 ((w3.alloc (exO v2)).alloc (exO2 y' v2)) := Later.then (later_new w3 _) (later_new _ _)
  have hsz : ((w3.alloc (exO v2)).alloc (exO2 y' v2)).heap.size = w3.heap.size + 2 := by simp
  have hN : Blk ((w3.alloc (exO v2)).alloc (exO2 y' v2)) (w3.heap.size + 1) 49 (exC y' ++ exC v2).toArray := by
    have := Blk.new (w3.alloc (exO v2)) 49 (exC y' ++ exC v2).toArray
    rw [World.size_alloc] at this
    exact this
  have hX : Blk ((w3.alloc (exO v2)).alloc (exO2 y' v2)) qx 49 (exC y').toArray := (((A.blk.later hW).grown hst.grown (by simp; omega)).grown d2.grown (by simp; omega)).later b12
  have hR : Blk ((w3.alloc (exO v2)).alloc (exO2 y' v2)) q 49 _ := (((A.res.later hW).grown hst.grown (by simp; omega)).grown d2.grown (by simp; omega)).later b12
  have hD : Did ρ w ((w3.alloc (exO v2)).alloc (exO2 y' v2)) (stepS (exprL (lv + 1)) (.good l)) big := (((A.did.later hW).trans hst).trans d2).later b12
  have hT : (opT bi [t', t2]).at_ ((w3.alloc (exO v2)).alloc (exO2 y' v2)) (Bx (q + 1) qx ((w3.alloc (exO v2)).alloc (exO2 y' v2))) (opY bi (w3.heap.size + 1) 2) := by
    refine op2_at bi hN ⟨by omega, by omega, by omega⟩ ?_ ?_
    · exact Tr.at_.keep (bx_later b12) _ _ (Tr.at_.keep (bx_grown d2.grown (by omega)) _ _ (Tr.at_.keep (bx_grown hst.grown (by omega)) _ _ (Tr.at_.keep (bx_later hW) _ _ A.tr)))
    · exact Tr.at_.keep (bx_in (by omega) (by omega)) _ _ (ht2.later b12)
  generalize (w3.alloc (exO v2)).alloc (exO2 y' v2) = W5 at *
  refine ⟨hD.putEx hgg (by omega) _, putEx_blk hX _, putEx_far hR (by omega) _, ?_, ?_, ?_⟩
  · exact Tr.at_.keep (keep7 (S := fun w => Bx (q + 1) qx w) (fun w i u => bx_set i u) _) _ _ hT
  · subst hl
    exact LeftTo.go A.todo hop hgv
  · have h5 := RSt.left_step_le (sane_exprL (lv + 1)) (RSt.good l)
    have e5 : (RSt.good l).left = l.length := rfl
    have := A.le
    omega
end Go.Proofs.YtcneefmaghoejaaGreatDoor
