/- Parts of the proof: PaL. Put together by slim.py. -/
import Derived.Test.YtcneefmaghoejaaGreatDoorB6
set_option linter.unusedSimpArgs false
set_option linter.unusedVariables false
namespace Go.Proofs.YtcneefmaghoejaaGreatDoor
theorem bind_at {α β : Type} (p : Ps α) (f : α → Ps β) (l : Wds) : (p >>= f) l = match p l with | .error n => .error n | .ok (x, r) => f x r := rfl
theorem bind_okP {α β : Type} {p : Ps α} {f : α → Ps β} {l r : Wds} {x : α} (h : p l = .ok (x, r)) : (p >>= f) l = f x r := by rw [bind_at, h]
theorem bind_errP {α β : Type} {p : Ps α} {f : α → Ps β} {l : Wds} {n : Nat} (h : p l = .error n) : (p >>= f) l = .error n := by rw [bind_at, h]
def EndsW (l : Wds) : Prop := ∃ x e, l = x ++ [e] ∧ e.k = 0
theorem EndsW.tail {t : Wd} {r : Wds} (h : EndsW (t :: r)) (ht : t.k ≠ 0) : EndsW r := by
  obtain ⟨x, e, hx, he⟩ := h
  match x with
  | [] =>
    simp at hx
    exact absurd (hx.1 ▸ he) ht
  | y :: x =>
    simp at hx
    exact ⟨x, e, hx.2, he⟩
theorem EndsW.pos {l : Wds} (h : EndsW l) : 0 < l.length := by
  obtain ⟨x, e, rfl, _⟩ := h
  simp
theorem isW_k {s : List UInt8} {t : Wd} (h : isW s t = true) : t.k ≠ 0 := by
  unfold isW at h
  simp at h
  omega
theorem headIs_cons {s : List UInt8} {l : Wds} (h : headIs s l = true) : ∃ t r, l = t :: r ∧ isW s t = true := by
  match l with
  | [] => simp [headIs] at h
  | t :: r => exact ⟨t, r, rfl, h⟩
def Sane {α : Type} (p : Ps α) : Prop := ∀ l, match p l with
  | .ok (_, r) => r <:+ l ∧ (EndsW l → EndsW r)
  | .error n => n ≤ l.length ∧ (EndsW l → 0 < n)
theorem Sane.ok {α : Type} {p : Ps α} (h : Sane p) {l r : Wds} {x : α} (e : p l = .ok (x, r)) : r <:+ l ∧ (EndsW l → EndsW r) := by
  have := h l
  rw [e] at this
  exact this
theorem Sane.err {α : Type} {p : Ps α} (h : Sane p) {l : Wds} {n : Nat} (e : p l = .error n) : n ≤ l.length ∧ (EndsW l → 0 < n) := by
  have := h l
  rw [e] at this
  exact this
theorem Sane.len {α : Type} {p : Ps α} (h : Sane p) {l r : Wds} {x : α} (e : p l = .ok (x, r)) : r.length ≤ l.length := (h.ok e).1.length_le
theorem Sane.of {α : Type} {p : Ps α} (h1 : ∀ l x r, p l = .ok (x, r) → r <:+ l ∧ (EndsW l → EndsW r)) (h2 : ∀ l n, p l = .error n → n ≤ l.length ∧ (EndsW l → 0 < n)) : Sane p := by
  intro l
  split
  · rename_i x r e; exact h1 l _ _ e
  · rename_i n e; exact h2 l _ e
theorem sane_pure {α : Type} (x : α) : Sane (pure x : Ps α) := fun l => ⟨List.suffix_refl _, id⟩
theorem sane_bind {α β : Type} {p : Ps α} {f : α → Ps β} (h : Sane p) (k : ∀ x, Sane (f x)) : Sane (p >>= f) := by
  intro l
  rw [bind_at]
  cases e : p l with
  | error n => exact h.err e
  | ok y =>
    obtain ⟨x, r⟩ := y
    obtain ⟨h1, h2⟩ := h.ok e
    show match f x r with | .ok (_, r) => r <:+ l ∧ (EndsW l → EndsW r) | .error n => n ≤ l.length ∧ (EndsW l → 0 < n)
    cases e2 : f x r with
    | error n =>
      obtain ⟨k1, k2⟩ := (k x).err e2
      exact ⟨Nat.le_trans k1 h1.length_le, fun hl => k2 (h2 hl)⟩
    | ok y =>
      obtain ⟨z, r2⟩ := y
      obtain ⟨k1, k2⟩ := (k x).ok e2
      exact ⟨k1.trans h1, fun hl => k2 (h2 hl)⟩
theorem sane_at {α : Type} {q : Wds → Ps α} (h : ∀ l, Sane (q l)) : Sane (fun l => q l l) := fun l => h l l
theorem sane_wrong {α : Type} : Sane (wrongP : Ps α) := fun l => ⟨Nat.le_refl _, EndsW.pos⟩
theorem sane_take {α : Type} (s : List UInt8) {p q : Ps α} (hp : Sane p) (hq : Sane q) : Sane (fun l => if headIs s l then p l.tail else q l) := by
  intro l
  by_cases h : headIs s l = true
  · obtain ⟨t, r, rfl, ht⟩ := headIs_cons h
    simp only [h, if_true, List.tail_cons]
    cases e : p r with
    | error n =>
      obtain ⟨k1, k2⟩ := hp.err e
      exact ⟨by simp; omega, fun hl => k2 (hl.tail (isW_k ht))⟩
    | ok y =>
      obtain ⟨z, r2⟩ := y
      obtain ⟨k1, k2⟩ := hp.ok e
      exact ⟨k1.trans (List.suffix_cons _ _), fun hl => k2 (hl.tail (isW_k ht))⟩
  · simp only [h]
    exact hq l
theorem sane_may (s : List UInt8) : Sane (may s) := sane_take s (p := pure true) (q := pure false) (sane_pure _) (sane_pure _)
theorem sane_must (s : List UInt8) : Sane (must s) := sane_take s (p := pure ()) (q := wrongP) (sane_pure _) sane_wrong
theorem sane_one : ∀ ks, Sane (anyP ks)
  | [] => sane_wrong
  | s :: ks => sane_take s (p := pure s) (q := anyP ks) (sane_pure _) (sane_one ks)
theorem sane_word {α : Type} {c : Wd → Prop} [DecidablePred c] {v : Wd → α} (hc : ∀ t, c t → t.k ≠ 0) :
    Sane (fun l => match l with | [] => .error 0 | t :: r => if c t then .ok (v t, r) else .error (t :: r).length : Ps α) := by
  intro l
  match l with
  | [] => exact ⟨Nat.le_refl _, fun h => h.pos⟩
  | t :: r =>
    by_cases h : c t
    · simp only [h, if_true]
      exact ⟨List.suffix_cons _ _, fun hl => hl.tail (hc t h)⟩
    · simp only [h]
      exact ⟨Nat.le_refl _, fun hl => by simp⟩
theorem sane_name : Sane nameP := by
  have := sane_word (c := fun t => t.k = 1 ∧ resB t.s = false) (v := fun t => (⟨t.s.toArray⟩ : ByteArray)) (fun t h => by rw [h.1]; decide)
  intro l
  have h := this l
  match l with
  | [] => exact h
  | t :: r => exact h
theorem sane_num : Sane numP := by
  have := sane_word (c := fun t => t.k = 2) (v := fun t => t.n) (fun t h => by rw [h]; decide)
  intro l
  have h := this l
  match l with
  | [] => exact h
  | t :: r => exact h
theorem sane_more {α : Type} {el : Ps α} (h : Sane el) : ∀ f acc, Sane (moreF el f acc)
  | 0, acc => sane_pure _
  | f + 1, acc => sane_take s_comma (p := do let y ← el; moreF el f (acc ++ [y])) (q := pure acc) (sane_bind h fun y => sane_more h f _) (sane_pure _)
theorem sane_list {α : Type} {el : Ps α} (h : Sane el) : Sane (listP el) := sane_bind h fun x => sane_at (q := fun l => moreF el l.length [x]) fun l => sane_more h _ _
theorem sane_ite {α : Type} {c : Prop} [Decidable c] {p q : Ps α} (hp : Sane p) (hq : Sane q) : Sane (if c then p else q) := by
  split
  · exact hp
  · exact hq
def nilT : Tr := opT 0 []
theorem opOf_some : ∀ {ks : List (List UInt8 × Int)} {l : Wds} {o : Int}, opOf ks l = some o → ∃ s, (s, o) ∈ ks ∧ headIs s l = true
  | [], l, o, h => by simp [opOf] at h
  | (s, k) :: ks, l, o, h => by
    simp only [opOf] at h
    split at h
    · rename_i hs
      injection h with h; subst h
      exact ⟨s, List.mem_cons_self, hs⟩
    · obtain ⟨s', h1, h2⟩ := opOf_some h
      exact ⟨s', List.mem_cons_of_mem _ h1, h2⟩
theorem sane_tail {α : Type} {p : Ps α} (hp : Sane p) {s : List UInt8} {l : Wds} (h : headIs s l = true) : match p l.tail with
  | .ok (_, r) => r <:+ l ∧ (EndsW l → EndsW r)
  | .error n => n ≤ l.length ∧ (EndsW l → 0 < n) := by
  have := sane_take s hp (q := wrongP) sane_wrong l
  simpa only [h, if_true] using this
theorem sane_leftF {below : Ps Tr} (hb : Sane below) (lv : Nat) : ∀ f x, Sane (leftF below lv f x)
  | 0, x => sane_pure _
  | f + 1, x => by
    intro l
    simp only [leftF]
    cases e : opOf (opsL lv) l with
    | none => exact sane_pure x l
    | some o =>
      obtain ⟨s, _, hs⟩ := opOf_some e
      exact sane_tail (p := do let y ← below; leftF below lv f (opT o [x, y])) (sane_bind hb fun y => sane_leftF hb lv f _) hs
theorem sane_leftP {below : Ps Tr} (hb : Sane below) (lv : Nat) : Sane (leftP below lv) := sane_bind hb fun x => sane_at (q := fun l => leftF below lv l.length x) fun l => sane_leftF hb lv _ _
theorem sane_cmpF {below : Ps Tr} (hb : Sane below) (x : Tr) : Sane (cmpF below x) := by
  intro l
  unfold cmpF
  cases e : opOf (opsL 3) l with
  | none => exact sane_pure x l
  | some o =>
    obtain ⟨s, _, hs⟩ := opOf_some e
    exact sane_tail (p := do let y ← below; return opT o [x, y]) (sane_bind hb fun y => sane_pure _) hs
theorem sane_cmp {below : Ps Tr} (hb : Sane below) : Sane (cmpP below) :=
  sane_bind hb fun x => sane_bind (sane_may _) fun b => sane_ite (sane_bind (sane_may _) fun n => sane_bind (sane_must _) fun _ => sane_pure _) (sane_cmpF hb x)
theorem sane_un {same below : Ps Tr} (s : List UInt8) (op : Int) (hs : Sane same) (hb : Sane below) : Sane (unP s op same below) := by
  refine sane_bind (sane_may _) fun b => ?_
  split
  · exact sane_bind hs fun x => sane_pure _
  · exact hb
theorem sane_args {whole : Ps Tr} (hw : Sane whole) (op : Int) : Sane (argsP whole op) :=
  sane_bind (sane_ite (sane_bind sane_num fun n => sane_bind (sane_must _) fun _ => sane_pure _) (sane_pure _)) fun _ => sane_bind hw fun x =>
    sane_bind (sane_ite (sane_bind (sane_must _) fun _ => sane_bind hw fun y => sane_pure _) (sane_pure _)) fun _ => sane_bind (sane_must _) fun _ => sane_pure _
theorem sane_fun {whole : Ps Tr} (hw : Sane whole) (op : Int) : Sane (funP whole op) :=
  sane_ite (sane_bind (sane_may _) fun b => sane_ite (sane_bind (sane_must _) fun _ => sane_pure _) (sane_args hw _)) (sane_args hw op)
theorem sane_named {whole : Ps Tr} (hw : Sane whole) : Sane (namedP whole) := by
  refine sane_bind sane_name fun n => ?_
  intro l
  by_cases h : headIs s_open l = true
  · simp only [h, if_true]
    cases e : funOf n with
    | none => exact sane_wrong (α := Tr) l
    | some op => exact sane_tail (sane_fun hw op) h
  · simp only [h]
    exact sane_pure (colT n) l
theorem sane_atom {whole : Ps Tr} (hw : Sane whole) : Sane (atomP whole) := by
  intro l
  match l with
  | [] => exact ⟨Nat.le_refl _, fun h => h.pos⟩
  | t :: r =>
    have one : ∀ (x : Tr), t.k ≠ 0 → r <:+ t :: r ∧ (EndsW (t :: r) → EndsW r) := fun x h => ⟨List.suffix_cons _ _, fun hl => hl.tail h⟩
    simp only [atomP]
    by_cases h1 : t.k = 2
    · simp only [h1, if_true]; exact one nilT (by omega)
    by_cases h2 : t.k = 3
    · simp only [h1, h2, if_true]; exact one nilT (by omega)
    by_cases h3 : isW w_true t = true
    · simp only [h1, h2, h3, if_true]; exact one nilT (isW_k h3)
    by_cases h4 : isW w_false t = true
    · simp only [h1, h2, h3, h4, if_true]; exact one nilT (isW_k h4)
    by_cases h5 : isW w_null t = true
    · simp only [h1, h2, h3, h4, h5, if_true]; exact one nilT (isW_k h5)
    by_cases h6 : isW s_open t = true
    · simp only [h1, h2, h3, h4, h5, h6, if_true]
      exact sane_tail (l := t :: r) (s := s_open) (p := do let x ← whole; must s_close; return x) (sane_bind hw fun x => sane_bind (sane_must _) fun _ => sane_pure _) h6
    · simp only [h1, h2, h3, h4, h5, h6, if_false]
      exact sane_named hw (t :: r)
theorem sane_pE : ∀ f lv, Sane (pE f lv)
  | 0, _ => sane_wrong
  | f + 1, 0 => sane_leftP (sane_pE f 1) 0
  | f + 1, 1 => sane_leftP (sane_pE f 2) 1
  | f + 1, 2 => sane_un _ _ (sane_pE f 2) (sane_pE f 3)
  | f + 1, 3 => sane_cmp (sane_pE f 4)
  | f + 1, 4 => sane_leftP (sane_pE f 5) 4
  | f + 1, 5 => sane_leftP (sane_pE f 6) 5
  | f + 1, 6 => sane_un _ _ (sane_pE f 6) (sane_pE f 7)
  | f + 1, _ + 7 => sane_atom (sane_pE f 0)
theorem sane_exprL (lv : Nat) : Sane (exprL lv) := sane_at (q := fun l => pE (8 * l.length + 8 - lv) lv) fun l => sane_pE _ _
theorem sane_expr : Sane exprP := sane_exprL 0
end Go.Proofs.YtcneefmaghoejaaGreatDoor
