/- Parts of the proof: PaK, PaK2. Put together by slim.py. -/
import Derived.Test.YtcneefmaghoejaaGreatDoorB2
import Derived.Test.YtcneefmaghoejaaGreatDoorB44
set_option linter.unusedSimpArgs false
set_option linter.unusedVariables false
namespace Go.Proofs.YtcneefmaghoejaaGreatDoor
def bO : Wd := ⟨4, [40], 0⟩
def bC : Wd := ⟨4, [41], 0⟩
def Opn (t : Wd) : Prop := (t.k = 1 ∧ t.s ∈ [w_select, w_where, w_having, w_by, w_and, w_or]) ∨ (t.k = 4 ∧ t.s ∈ [s_eq, s_plus])
def Opd (x : Wd) (s : Wds) : Prop := x.k = 2 ∨ x.k = 3 ∨ (x.k = 1 ∧ nameB x.s = true ∧ headIs s_open s = false)
variable {α β : Type} {n m : Nat}
def Br (n : Nat) (P : Ps α) : Prop := ∀ (a : Wds) (x : Wd) (s : Wds) (d : α) (r : Wds), a.length + 1 + s.length ≤ n → (∃ t, a.getLast? = some t ∧ Opn t) → Opd x s → P (a ++ x :: s) = .ok (d, r) →
  (∃ a', a' ≠ [] ∧ a'.getLast? = a.getLast? ∧ r = a' ++ x :: s ∧ P (a ++ bO :: x :: bC :: s) = .ok (d, a' ++ bO :: x :: bC :: s)) ∨ (r <:+ s ∧ P (a ++ bO :: x :: bC :: s) = .ok (d, r))
def BxO (n : Nat) (P : Ps α) : Prop := ∀ (x : Wd) (s : Wds) (d : α) (r : Wds), 1 + s.length ≤ n → Opd x s → P (x :: s) = .ok (d, r) → r <:+ s ∧ P (bO :: x :: bC :: s) = .ok (d, r)
theorem Br.mono {P : Ps α} (h : Br n P) (k : m ≤ n) : Br m P := fun a x s d r hl => h a x s d r (by omega)
theorem BxO.mono {P : Ps α} (h : BxO n P) (k : m ≤ n) : BxO m P := fun x s d r hl => h x s d r (by omega)
theorem br_pure (x : α) : Br n (pure x : Ps α) := fun a y s d r _ ho _ h => by
  injection h with h; injection h with h1 h2; subst h1 h2
  refine .inl ⟨a, ?_, rfl, rfl, rfl⟩
  rintro rfl
  obtain ⟨t, ht, _⟩ := ho
  simp at ht
theorem br_wrong : Br n (wrongP : Ps α) := fun a x s d r _ _ _ h => by cases h
theorem bx_wrong : BxO n (wrongP : Ps α) := fun x s d r _ _ h => by cases h
theorem bind_invK {p : Ps α} {f : α → Ps β} {l r : Wds} {y : β} (h : (p >>= f) l = .ok (y, r)) : ∃ x m, p l = .ok (x, m) ∧ f x m = .ok (y, r) := by
  rw [bind_at] at h
  cases e : p l with
  | error n => rw [e] at h; cases h
  | ok z => obtain ⟨x, m⟩ := z; rw [e] at h; exact ⟨x, m, rfl, h⟩
theorem br_bind {p : Ps α} {f : α → Ps β} (sp : Sane p) (h : Br n p) (k : ∀ x, Br n (f x)) (hf : ∀ x, Sane (f x)) : Br n (p >>= f) := by
  intro a x s d r hl ho hx he
  obtain ⟨y, m, h1, h2⟩ := bind_invK he
  have hlen := sp.len h1
  rcases h a x s y m hl ho hx h1 with ⟨a', ha, hlast, rfl, h3⟩ | ⟨hs, h3⟩
  · rw [bind_okP h3]
    refine (k y a' x s d r (by simp at hlen; omega) (by rw [hlast]; exact ho) hx h2).imp ?_ id
    rintro ⟨a2, q1, q2, q3, q4⟩
    exact ⟨a2, q1, q2.trans hlast, q3, q4⟩
  · rw [bind_okP h3]
    exact .inr ⟨((hf y).ok h2).1.trans hs, h2⟩
theorem bx_bind {p : Ps α} {f : α → Ps β} (h : BxO n p) (hf : ∀ x, Sane (f x)) : BxO n (p >>= f) := by
  intro x s d r hl hx he
  obtain ⟨y, m, h1, h2⟩ := bind_invK he
  obtain ⟨h3, h4⟩ := h x s y m hl hx h1
  rw [bind_okP h4]
  exact ⟨((hf y).ok h2).1.trans h3, h2⟩
theorem br_ite {c : Prop} [Decidable c] {p q : Ps α} (hp : Br n p) (hq : Br n q) : Br n (if c then p else q) := by
  split
  · exact hp
  · exact hq
theorem br_head {P : Ps α} (h : ∀ t, (∃ p, Br n p ∧ (Opn t → BxO n p) ∧ ∀ r, P (t :: r) = p r) ∨ ∃ q, Br (n + 1) q ∧ ∀ r, P (t :: r) = q (t :: r)) : Br (n + 1) P := by
  intro a x s d r hl ho hx he
  match a with
  | [] => obtain ⟨t, ht, _⟩ := ho; simp at ht
  | t :: a =>
    simp only [List.cons_append] at he ⊢
    rcases h t with ⟨p, hp, hb, hP⟩ | ⟨q, hq, hP⟩
    · rw [hP] at he
      simp only [hP]
      match a with
      | [] =>
        obtain ⟨t', ht, ho⟩ := ho
        simp at ht
        subst ht
        exact .inr (hb ho x s d r (by simp at hl; omega) hx he)
      | u :: a =>
        refine (hp (u :: a) x s d r (by simp at hl ⊢; omega) (by simpa using ho) hx he).imp ?_ id
        rintro ⟨a2, q1, q2, q3, q4⟩
        exact ⟨a2, q1, by rw [q2]; simp, q3, q4⟩
    · rw [hP] at he
      have := hq (t :: a) x s d r hl ho hx he
      simp only [List.cons_append] at this
      simp only [hP]
      exact this
theorem opn_word {s : List UInt8} {t : Wd} (h : isW s t = true) (ho : Opn t) : s ∈ [w_select, w_where, w_having, w_by, w_and, w_or, s_eq, s_plus] := by
  have e : t.s = s := by unfold isW at h; simp at h; exact h.2
  rw [← e]
  rcases ho with ⟨_, h⟩ | ⟨_, h⟩
  · simp only [List.mem_cons, List.not_mem_nil, or_false] at h ⊢
    rcases h with h | h | h | h | h | h <;> simp [h]
  · simp only [List.mem_cons, List.not_mem_nil, or_false] at h ⊢
    rcases h with h | h <;> simp [h]
theorem br_take (s : List UInt8) {p q : Ps α} (hp : Br n p) (hx : s ∈ [w_select, w_where, w_having, w_by, w_and, w_or, s_eq, s_plus] → BxO n p) (hq : Br (n + 1) q) : Br (n + 1) (fun l => if headIs s l then p l.tail else q l) :=
  br_head fun t => by
    cases e : isW s t with
    | true => exact .inl ⟨p, hp, fun ho => hx (opn_word e ho), fun r => by simp [headIs, e]⟩
    | false => exact .inr ⟨q, hq, fun r => by simp [headIs, e]⟩
theorem br_mayB (s : List UInt8) {f : Bool → Ps α} (hp : Br n (f true)) (hx : s ∈ [w_select, w_where, w_having, w_by, w_and, w_or, s_eq, s_plus] → BxO n (f true)) (hq : Br (n + 1) (f false)) : Br (n + 1) (may s >>= f) := by
  rw [may_bind]
  exact br_take s hp hx hq
theorem must_bind (s : List UInt8) (f : Unit → Ps α) : (must s >>= f) = fun l => if headIs s l then f () l.tail else (wrongP : Ps α) l := by
  funext l
  rw [bind_at]
  unfold must
  cases h : headIs s l <;> simp [wrongP]
theorem br_mustB (s : List UInt8) {f : Unit → Ps α} (hp : Br n (f ())) (hx : s ∈ [w_select, w_where, w_having, w_by, w_and, w_or, s_eq, s_plus] → BxO n (f ())) : Br (n + 1) (must s >>= f) := by
  rw [must_bind]
  exact br_take s hp hx br_wrong
theorem br_must0 (s : List UInt8) (hn : s ∉ [w_select, w_where, w_having, w_by, w_and, w_or, s_eq, s_plus]) : Br (n + 1) (must s) :=
  br_take s (p := pure ()) (q := wrongP) (br_pure _) (fun h => absurd h hn) br_wrong
theorem br_may0 (s : List UInt8) (hn : s ∉ [w_select, w_where, w_having, w_by, w_and, w_or, s_eq, s_plus]) : Br (n + 1) (may s) :=
  br_take s (p := pure true) (q := pure false) (br_pure _) (fun h => absurd h hn) (br_pure _)
theorem br_zero (P : Ps α) : Br 0 P := fun a x s d r hl => by omega
theorem br_must (s : List UInt8) (hn : s ∉ [w_select, w_where, w_having, w_by, w_and, w_or, s_eq, s_plus]) : Br n (must s) := by
  cases n with
  | zero => exact br_zero _
  | succ n => exact br_must0 s hn
theorem br_may (s : List UInt8) (hn : s ∉ [w_select, w_where, w_having, w_by, w_and, w_or, s_eq, s_plus]) : Br n (may s) := by
  cases n with
  | zero => exact br_zero _
  | succ n => exact br_may0 s hn
theorem opn_res {t : Wd} (h : Opn t) (hk : t.k = 1) : resB t.s = true := by
  rcases h with ⟨_, h⟩ | ⟨h, _⟩
  · simp only [List.mem_cons, List.not_mem_nil, or_false] at h
    rcases h with h | h | h | h | h | h <;> rw [h] <;> decide
  · omega
theorem opn_k {t : Wd} (h : Opn t) : t.k = 1 ∨ t.k = 4 := by
  rcases h with ⟨h, _⟩ | ⟨h, _⟩ <;> simp [h]
theorem br_name : Br n nameP := by
  cases n with
  | zero => exact br_zero _
  | succ n =>
    refine br_head fun t => ?_
    by_cases h : t.k = 1 ∧ resB t.s = false
    · exact .inl ⟨pure (⟨t.s.toArray⟩ : ByteArray), br_pure _, fun ho => absurd ((opn_res ho h.1).symm.trans h.2) (by decide), fun r => by simp only [nameP, h, and_self, if_true]; rfl⟩
    · exact .inr ⟨wrongP, br_wrong, fun r => by simp only [nameP, h, if_false]; rfl⟩
theorem br_num : Br n numP := by
  cases n with
  | zero => exact br_zero _
  | succ n =>
    refine br_head fun t => ?_
    by_cases h : t.k = 2
    · exact .inl ⟨pure t.n, br_pure _, fun ho => by have := opn_k ho; omega, fun r => by simp only [numP, h, if_true]; rfl⟩
    · exact .inr ⟨wrongP, br_wrong, fun r => by simp only [numP, h, if_false]; rfl⟩
theorem br_moreL {el : Ps α} (hs : Sane el) : ∀ (m : Nat), Br m el → ∀ acc : List α, Br m (moreL el acc)
  | 0, _, acc => br_zero _
  | m + 1, h, acc => by
    have hm := h.mono (Nat.le_succ m)
    rw [moreL_eq hs]
    exact br_mayB s_comma (br_bind hs hm (fun y => br_moreL hs m hm _) fun y => sane_moreL hs _) (fun hn => absurd hn (by decide)) (br_pure _)
theorem br_list {el : Ps α} (hs : Sane el) (h : Br n el) : Br n (listP el) := by
  rw [listP_L]
  exact br_bind hs h (fun x => br_moreL hs n h _) fun x => sane_moreL hs _
theorem bx_list {el : Ps α} (hs : Sane el) (h : BxO n el) : BxO n (listP el) := by
  rw [listP_L]
  exact bx_bind h fun x => sane_moreL hs _
theorem opd_word {x : Wd} {s : Wds} (h : Opd x s) {v : List UInt8} (hv : nameB v = false) : isW v x = false := by
  unfold isW
  rcases h with h | h | ⟨h, hn, _⟩
  · simp [h]
  · simp [h]
  · cases e : x.s == v with
    | false => simp
    | true =>
      have : x.s = v := by simpa using e
      rw [this, hv] at hn
      cases hn
def opdT (x : Wd) : Tr := if x.k = 2 then litT ⟨2, x.n, ByteArray.empty⟩ else if x.k = 3 then litT ⟨3, 0, ⟨x.s.toArray⟩⟩ else colT ⟨x.s.toArray⟩
theorem atom_opd {whole : Ps Tr} {x : Wd} {s : Wds} (h : Opd x s) : atomP whole (x :: s) = .ok (opdT x, s) := by
  have w1 := opd_word h (v := w_true) (by decide)
  have w2 := opd_word h (v := w_false) (by decide)
  have w3 := opd_word h (v := w_null) (by decide)
  have w4 := opd_word h (v := s_open) (by decide)
  rcases h with h | h | ⟨h, hn, hs⟩
  · simp only [atomP, opdT, h, if_true]
  · simp only [atomP, opdT, h, if_true]; rfl
  · have hr := (name_word hn).2.2
    have e : nameP (x :: s) = .ok (⟨x.s.toArray⟩, s) := by simp only [nameP, h, hr, and_self, if_true]
    simp only [atomP, opdT, h, w1, w2, w3, w4]
    show namedP whole (x :: s) = _
    rw [named_K, bind_okP e]
    unfold namedK
    rw [hs]
    rfl
theorem opd_close {x : Wd} {s : Wds} (h : Opd x s) (r : Wds) : Opd x (bC :: r) := by
  rcases h with h | h | ⟨h, hn, _⟩
  · exact .inl h
  · exact .inr (.inl h)
  · exact .inr (.inr ⟨h, hn, rfl⟩)
theorem op_close (lv : Nat) (r : Wds) : opOf (opsL lv) (bC :: r) = none := by
  match lv with
  | 0 | 1 | 2 | 3 | 4 | 5 => rfl
  | n + 6 => rfl
theorem left_close {below : Ps Tr} (hb : Sane below) (lv : Nat) {x : Tr} {l r : Wds} (h : below l = .ok (x, bC :: r)) : leftP below lv l = .ok (x, bC :: r) := by
  rw [leftP_L, bind_okP h, leftL_eq hb, op_close]
theorem un_opd {s : List UInt8} {op : Int} {same below : Ps Tr} {x : Wd} {r r2 : Wds} {t : Tr} (hx : isW s x = false) (h : below (x :: r) = .ok (t, r2)) : unP s op same below (x :: r) = .ok (t, r2) := by
  unfold unP
  rw [may_bind]
  simp [headIs, hx, h]
theorem opd_all {x : Wd} {s : Wds} (h : Opd x s) (r : Wds) : exprL 0 (x :: bC :: r) = .ok (opdT x, bC :: r) := by
  have e7 : exprL 7 (x :: bC :: r) = .ok (opdT x, bC :: r) := by rw [exprL_7]; exact atom_opd (opd_close h r)
  have e6 : exprL 6 (x :: bC :: r) = .ok (opdT x, bC :: r) := by rw [exprL_6]; exact un_opd (opd_word h (by decide)) e7
  have e5 : exprL 5 (x :: bC :: r) = .ok (opdT x, bC :: r) := by rw [exprL_5]; exact left_close (sane_exprL 6) 5 e6
  have e4 : exprL 4 (x :: bC :: r) = .ok (opdT x, bC :: r) := by rw [exprL_4]; exact left_close (sane_exprL 5) 4 e5
  have e3 : exprL 3 (x :: bC :: r) = .ok (opdT x, bC :: r) := by
    rw [exprL_3]
    unfold cmpP
    rw [bind_okP e4, may_bind]
    simp only [show headIs w_is (bC :: r) = false from rfl, Bool.false_eq_true, if_false]
    show cmpF (exprL 4) (opdT x) (bC :: r) = _
    unfold cmpF
    rw [op_close]
  have e2 : exprL 2 (x :: bC :: r) = .ok (opdT x, bC :: r) := by rw [exprL_2]; exact un_opd (opd_word h (by decide)) e3
  have e1 : exprL 1 (x :: bC :: r) = .ok (opdT x, bC :: r) := by rw [exprL_1]; exact left_close (sane_exprL 2) 1 e2
  rw [exprL_0]
  exact left_close (sane_exprL 1) 0 e1
theorem bx_7 : BxO n (exprL 7) := by
  intro x s d r hl hx he
  rw [exprL_7] at he ⊢
  rw [atom_opd hx] at he
  injection he with he; injection he with h1 h2; subst h1 h2
  refine ⟨List.suffix_refl _, ?_⟩
  have e : (do let y ← exprL 0; must s_close; return y) (x :: bC :: s) = .ok (opdT x, s) := by
    refine (bind_okP (opd_all hx s)).trans ?_
    exact (bind_okP (x := ()) (r := s) (by rfl)).trans rfl
  exact e
theorem bx_un {s : List UInt8} {op : Int} {same below : Ps Tr} (hn : nameB s = false) (ho : isW s bO = false) (h : BxO n below) : BxO n (unP s op same below) := by
  intro x r d r2 hl hx he
  unfold unP at he
  rw [may_bind] at he
  simp only [headIs, opd_word hx hn] at he
  obtain ⟨h1, h2⟩ := h x r d r2 hl hx (by simpa using he)
  exact ⟨h1, un_opd ho h2⟩
theorem br_leftL {below : Ps Tr} (hs : Sane below) (lv : Nat) : ∀ m, Br m below → BxO m below → ∀ x, Br m (leftL below lv x)
  | 0, _, _, x => br_zero _
  | m + 1, h, k, x => by
    have hm := h.mono (Nat.le_succ m)
    have km := k.mono (Nat.le_succ m)
    refine br_head fun t => ?_
    cases e : opH (opsL lv) t with
    | none => exact .inr ⟨pure x, br_pure _, fun r => by rw [leftL_eq hs, opW_head, e]; rfl⟩
    | some o => exact .inl ⟨(do let y ← below; leftL below lv (opT o [x, y])), br_bind hs hm (fun y => br_leftL hs lv m hm km _) (fun y => sane_leftL hs _ _), fun _ => bx_bind km fun y => sane_leftL hs _ _, fun r => by rw [leftL_eq hs, opW_head, e]; rfl⟩
theorem br_left {below : Ps Tr} (hs : Sane below) (lv : Nat) (h : Br n below) (k : BxO n below) : Br n (leftP below lv) := by
  rw [leftP_L]
  exact br_bind hs h (fun x => br_leftL hs lv n h k x) fun x => sane_leftL hs lv x
theorem bx_left {below : Ps Tr} (hs : Sane below) (lv : Nat) (k : BxO n below) : BxO n (leftP below lv) := by
  rw [leftP_L]
  exact bx_bind k fun x => sane_leftL hs lv x
theorem sane_cmpR {below : Ps Tr} (hs : Sane below) (x : Tr) : Sane (may w_is >>= fun b => if b = true then (do let n ← may w_not; must w_null; return opT (if n then 19 else 18) [x]) else cmpF below x) :=
  sane_bind (sane_may _) fun b => sane_ite (sane_bind (sane_may _) fun n => sane_bind (sane_must _) fun _ => sane_pure _) (sane_cmpF hs x)
theorem br_cmp {below : Ps Tr} (hs : Sane below) (h : Br (n + 1) below) (k : BxO (n + 1) below) : Br (n + 1) (cmpP below) := by
  have hm := h.mono (Nat.le_succ n)
  have km := k.mono (Nat.le_succ n)
  refine br_bind hs h (fun x => ?_) fun x => sane_cmpR hs x
  refine br_mayB w_is ?_ (fun hn => absurd hn (by decide)) ?_
  · show Br n (do let n ← may w_not; must w_null; return opT (if n then 19 else 18) [x])
    exact br_bind (sane_may _) (br_may _ (by decide)) (fun y => br_bind (sane_must _) (br_must _ (by decide)) (fun _ => br_pure _) fun _ => sane_pure _) fun y => sane_bind (sane_must _) fun _ => sane_pure _
  · show Br (n + 1) (cmpF below x)
    refine br_head fun t => ?_
    cases e : opH (opsL 3) t with
    | none => exact .inr ⟨pure x, br_pure _, fun r => by simp only [cmpF, opW_head, e]; rfl⟩
    | some o => exact .inl ⟨(do let y ← below; return opT o [x, y]), br_bind hs hm (fun y => br_pure _) (fun y => sane_pure _), fun _ => bx_bind km fun y => sane_pure _, fun r => by simp only [cmpF, opW_head, e]; rfl⟩
theorem bx_cmp {below : Ps Tr} (hs : Sane below) (k : BxO n below) : BxO n (cmpP below) := bx_bind k fun x => sane_cmpR hs x
theorem br_un {same below : Ps Tr} (s : List UInt8) (op : Int) (hn : s ∉ [w_select, w_where, w_having, w_by, w_and, w_or, s_eq, s_plus]) (ss : Sane same) (hs : Br n same) (hb : Br (n + 1) below) : Br (n + 1) (unP s op same below) :=
  br_mayB s (f := fun b => if b = true then (do let x ← same; return opT op [x]) else below) (br_bind ss hs (fun x => br_pure _) fun x => sane_pure _) (fun h => absurd h hn) hb
theorem br_args {whole : Ps Tr} (hs : Sane whole) (h : Br n whole) (op : Int) : Br n (argsP whole op) := by
  have z2 : ∀ op, Sane (secondP whole op) := fun op => sane_ite (sane_bind (sane_must _) fun _ => sane_bind hs fun y => sane_pure _) (sane_pure _)
  have z3 : ∀ (f : Unit → Ps Tr), (∀ x, Sane (f x)) → Sane (must s_close >>= f) := fun f hf => sane_bind (sane_must _) hf
  have z1 : Sane (widthP op) := sane_ite (sane_bind sane_num fun n => sane_bind (sane_must _) fun _ => sane_pure _) (sane_pure _)
  refine br_bind z1 (br_ite (br_bind sane_num br_num (fun n => br_bind (sane_must _) (br_must _ (by decide)) (fun _ => br_pure _) fun _ => sane_pure _) fun n => sane_bind (sane_must _) fun _ => sane_pure _) (br_pure _)) (fun width => br_bind hs h (fun x => br_bind (z2 op) (br_ite (br_bind (sane_must _) (br_must _ (by decide)) (fun _ => br_bind hs h (fun y => br_pure _) fun y => sane_pure _) fun _ => sane_bind hs fun _ => sane_pure _) (br_pure _)) (fun ys => br_bind (sane_must _) (br_must _ (by decide)) (fun _ => br_pure _) fun _ => sane_pure _) fun ys => z3 _ fun _ => sane_pure _) fun x => sane_bind (z2 op) fun ys => z3 _ fun _ => sane_pure _) fun width => sane_bind hs fun x => sane_bind (z2 op) fun ys => z3 _ fun _ => sane_pure _
theorem br_fun {whole : Ps Tr} (hs : Sane whole) (h : Br n whole) (op : Int) : Br n (funP whole op) :=
  br_ite (br_bind (sane_may _) (br_may _ (by decide)) (fun y => br_ite (br_bind (sane_must _) (br_must _ (by decide)) (fun _ => br_pure _) fun _ => sane_pure _) (br_args hs h _)) fun y => sane_ite (sane_bind (sane_must _) fun _ => sane_pure _) (sane_args hs _)) (br_args hs h op)
theorem br_named {whole : Ps Tr} (hs : Sane whole) (h : Br n whole) : Br (n + 1) (namedP whole) := by
  rw [named_K]
  refine br_bind sane_name br_name (fun nm => br_head fun t => ?_) fun nm => sane_namedK hs nm
  cases e : isW s_open t with
  | false => exact .inr ⟨pure (colT nm), br_pure _, fun r => by simp only [namedK, headIs, e]; rfl⟩
  | true =>
    cases e2 : funOf nm with
    | none => exact .inr ⟨wrongP, br_wrong, fun r => by simp only [namedK, headIs, e, e2]; rfl⟩
    | some op => exact .inl ⟨funP whole op, br_fun hs h op, fun ho => absurd (opn_word e ho) (by decide), fun r => by simp only [namedK, headIs, e, e2, if_true, List.tail_cons]⟩
theorem br_atom {whole : Ps Tr} (hs : Sane whole) (h : Br n whole) : Br (n + 1) (atomP whole) := by
  refine br_head fun t => ?_
  have no : ∀ {s : List UInt8}, isW s t = true → s ∉ [w_select, w_where, w_having, w_by, w_and, w_or, s_eq, s_plus] → ∀ {p : Ps Tr}, Opn t → BxO n p := fun hw hn p ho => absurd (opn_word hw ho) hn
  by_cases h1 : t.k = 2
  · exact .inl ⟨pure (litT ⟨2, t.n, ByteArray.empty⟩), br_pure _, fun ho => by have := opn_k ho; omega, fun r => by simp only [atomP, h1, if_true]; rfl⟩
  by_cases h2 : t.k = 3
  · exact .inl ⟨pure (litT ⟨3, 0, ⟨t.s.toArray⟩⟩), br_pure _, fun ho => by have := opn_k ho; omega, fun r => by simp only [atomP, h1, h2, if_true, if_false]; rfl⟩
  cases h3 : isW w_true t with
  | true => exact .inl ⟨pure (litT ⟨1, 1, ByteArray.empty⟩), br_pure _, no h3 (by decide), fun r => by simp only [atomP, h1, h2, h3, if_true, if_false]; rfl⟩
  | false =>
  cases h4 : isW w_false t with
  | true => exact .inl ⟨pure (litT ⟨1, 0, ByteArray.empty⟩), br_pure _, no h4 (by decide), fun r => by simp only [atomP, h1, h2, h3, h4, if_true, if_false]; rfl⟩
  | false =>
  cases h5 : isW w_null t with
  | true => exact .inl ⟨pure (litT nilVal), br_pure _, no h5 (by decide), fun r => by simp only [atomP, h1, h2, h3, h4, h5, if_true, if_false]; rfl⟩
  | false =>
  cases h6 : isW s_open t with
  | true => exact .inl ⟨(do let x ← whole; must s_close; return x), br_bind hs h (fun x => br_bind (sane_must _) (br_must _ (by decide)) (fun _ => br_pure _) fun _ => sane_pure _) (fun x => sane_bind (sane_must _) fun _ => sane_pure _), no h6 (by decide), fun r => by simp only [atomP, h1, h2, h3, h4, h5, h6, if_true, if_false]; rfl⟩
  | false => exact .inr ⟨namedP whole, br_named hs h, fun r => by simp only [atomP, h1, h2, h3, h4, h5, h6, if_true, if_false]; rfl⟩
theorem br_all : ∀ n, (Br n (exprL 0) ∧ BxO n (exprL 0)) ∧ Br n (exprL 2) ∧ Br n (exprL 6)
  | 0 => ⟨⟨br_zero _, fun x s d r hl => by omega⟩, br_zero _, br_zero _⟩
  | n + 1 => by
    obtain ⟨⟨i0, j0⟩, i2, i6⟩ := br_all n
    have h7 : Br (n + 1) (exprL 7) := by rw [exprL_7]; exact br_atom (sane_exprL 0) i0
    have h6 : Br (n + 1) (exprL 6) := by rw [exprL_6]; exact br_un _ _ (by decide) (sane_exprL 6) i6 h7
    have k6 : BxO (n + 1) (exprL 6) := by rw [exprL_6]; exact bx_un (by decide) (by decide) bx_7
    have h5 : Br (n + 1) (exprL 5) := by rw [exprL_5]; exact br_left (sane_exprL 6) 5 h6 k6
    have k5 : BxO (n + 1) (exprL 5) := by rw [exprL_5]; exact bx_left (sane_exprL 6) 5 k6
    have h4 : Br (n + 1) (exprL 4) := by rw [exprL_4]; exact br_left (sane_exprL 5) 4 h5 k5
    have k4 : BxO (n + 1) (exprL 4) := by rw [exprL_4]; exact bx_left (sane_exprL 5) 4 k5
    have h3 : Br (n + 1) (exprL 3) := by rw [exprL_3]; exact br_cmp (sane_exprL 4) h4 k4
    have k3 : BxO (n + 1) (exprL 3) := by rw [exprL_3]; exact bx_cmp (sane_exprL 4) k4
    have h2 : Br (n + 1) (exprL 2) := by rw [exprL_2]; exact br_un _ _ (by decide) (sane_exprL 2) i2 h3
    have k2 : BxO (n + 1) (exprL 2) := by rw [exprL_2]; exact bx_un (by decide) (by decide) k3
    have h1 : Br (n + 1) (exprL 1) := by rw [exprL_1]; exact br_left (sane_exprL 2) 1 h2 k2
    have k1 : BxO (n + 1) (exprL 1) := by rw [exprL_1]; exact bx_left (sane_exprL 2) 1 k2
    have h0 : Br (n + 1) (exprL 0) := by rw [exprL_0]; exact br_left (sane_exprL 1) 0 h1 k1
    have k0 : BxO (n + 1) (exprL 0) := by rw [exprL_0]; exact bx_left (sane_exprL 1) 0 k1
    exact ⟨⟨h0, k0⟩, h2, h6⟩
theorem br_expr : Br n exprP := (br_all n).1.1
theorem bx_expr : BxO n exprP := (br_all n).1.2
end Go.Proofs.YtcneefmaghoejaaGreatDoor
set_option linter.unusedSimpArgs false
set_option linter.unusedVariables false
namespace Go.Proofs.YtcneefmaghoejaaGreatDoor
variable {α β : Type} {n m : Nat}
abbrev opners : List (List UInt8) := [w_select, w_where, w_having, w_by, w_and, w_or, s_eq, s_plus]
theorem br_mustN (s : List UInt8) {f : Unit → Ps α} (hp : Br n (f ())) (hx : s ∈ opners → BxO n (f ())) : Br n (must s >>= f) := by
  cases n with
  | zero => exact br_zero _
  | succ n => exact br_mustB s (hp.mono (Nat.le_succ n)) fun h => (hx h).mono (Nat.le_succ n)
theorem br_mayN (s : List UInt8) {f : Bool → Ps α} (hp : Br n (f true)) (hx : s ∈ opners → BxO n (f true)) (hq : Br n (f false)) : Br n (may s >>= f) := by
  cases n with
  | zero => exact br_zero _
  | succ n => exact br_mayB s (hp.mono (Nat.le_succ n)) (fun h => (hx h).mono (Nat.le_succ n)) hq
theorem bx_mayN (s : List UInt8) {f : Bool → Ps α} (hn : nameB s = false) (ho : isW s bO = false) (h : BxO n (f false)) : BxO n (may s >>= f) := by
  intro x r d r2 hl hx he
  rw [may_bind] at he ⊢
  simp only [headIs, opd_word hx hn] at he
  obtain ⟨h1, h2⟩ := h x r d r2 hl hx (by simpa using he)
  refine ⟨h1, ?_⟩
  simp only [headIs, ho]
  simpa using h2
theorem br_behind (s : List UInt8) : Br n (behindP s) :=
  br_mayN s (f := fun b => if b = true then (do let x ← exprP; return [x]) else return []) (br_bind sane_exprP br_expr (fun x => br_pure _) fun _ => sane_pure _) (fun _ => bx_bind bx_expr fun _ => sane_pure _) (br_pure _)
theorem sane_itemK (x : Tr) : Sane (may w_as >>= fun b => if b = true then (do let n ← nameP; return (x, n)) else (return (x, ByteArray.empty) : Ps (Tr × ByteArray))) :=
  sane_bind (sane_may _) fun b => sane_ite (sane_bind sane_name fun _ => sane_pure _) (sane_pure _)
theorem br_item : Br n itemP :=
  br_bind sane_exprP br_expr (fun x => br_bind (sane_may _) (br_may _ (by decide)) (fun b => br_ite (br_bind sane_name br_name (fun _ => br_pure _) fun _ => sane_pure _) (br_pure _)) fun b => sane_ite (sane_bind sane_name fun _ => sane_pure _) (sane_pure _)) fun x => sane_itemK x
theorem bx_item : BxO n itemP := bx_bind bx_expr fun x => sane_itemK x
theorem br_order : Br n orderP := br_bind sane_exprP br_expr (fun x => br_bind (sane_may _) (br_may _ (by decide)) (fun b => br_pure _) fun b => sane_pure _) fun x => sane_bind (sane_may _) fun _ => sane_pure _
theorem bx_order : BxO n orderP := bx_bind bx_expr fun x => sane_bind (sane_may _) fun _ => sane_pure _
theorem br_items : Br n itemsP := br_mayN s_star (f := fun b => if b = true then return [] else listP itemP) (br_pure _) (fun h => absurd h (by decide)) (br_list sane_itemP br_item)
theorem bx_items : BxO n itemsP := bx_mayN s_star (f := fun b => if b = true then return [] else listP itemP) (by decide) (by decide) (bx_list sane_itemP bx_item)
theorem br_group : Br n groupP :=
  br_mayN w_group (f := fun b => if b = true then (do must w_by; listP exprP) else return []) (br_mustN w_by (br_list sane_exprP br_expr) fun _ => bx_list sane_exprP bx_expr) (fun h => absurd h (by decide)) (br_pure _)
theorem br_orders : Br n ordersP :=
  br_mayN w_order (f := fun b => if b = true then (do must w_by; listP orderP) else return []) (br_mustN w_by (br_list sane_orderP br_order) fun _ => bx_list sane_orderP bx_order) (fun h => absurd h (by decide)) (br_pure _)
theorem br_limit : Br n limitP :=
  br_mayN w_limit (f := fun b => if b = true then (do let n ← numP; return [n]) else return []) (br_bind sane_num br_num (fun _ => br_pure _) fun _ => sane_pure _) (fun h => absurd h (by decide)) (br_pure _)
def qK (items : List (Tr × ByteArray)) : Ps Qu := do
  must w_from
  let only ← may w_only
  let frm ← nameP
  let whr ← behindP w_where
  let group ← groupP
  let having ← behindP w_having
  let order ← ordersP
  let limit ← limitP
  return { items, frm, only, whr, group, having, order, limit }
theorem query_K : queryP = (must w_select >>= fun _ => itemsP >>= qK) := rfl
theorem sane_qK (items : List (Tr × ByteArray)) : Sane (qK items) := by
  unfold qK
  repeat (first | exact sane_pure _ | exact sane_must _ | exact sane_may _ | exact sane_name | exact sane_behind _ | exact sane_groupP | exact sane_ordersP | exact sane_limitP | refine sane_bind ?_ fun _ => ?_)
theorem br_qK (items : List (Tr × ByteArray)) : Br n (qK items) := by
  unfold qK
  repeat (first | exact br_pure _ | exact br_must _ (by decide) | exact br_may _ (by decide) | exact br_name | exact br_behind _ | exact br_group | exact br_orders | exact br_limit | exact sane_pure _ | exact sane_must _ | exact sane_may _ | exact sane_name | exact sane_behind _ | exact sane_groupP | exact sane_ordersP | exact sane_limitP | refine br_bind ?_ ?_ (fun _ => ?_) (fun _ => ?_) | refine sane_bind ?_ fun _ => ?_)
theorem br_query : Br n queryP := by
  rw [query_K]
  exact br_mustN w_select (br_bind sane_itemsP br_items (fun x => br_qK x) fun x => sane_qK x) fun _ => bx_bind bx_items fun x => sane_qK x
theorem br_last : Br n lastP := by
  cases n with
  | zero => exact br_zero _
  | succ n =>
    refine br_head fun t => ?_
    by_cases h : t.k = 0
    · exact .inr ⟨pure (), br_pure _, fun r => by simp only [lastP, h, if_true]; rfl⟩
    · exact .inr ⟨wrongP, br_wrong, fun r => by simp only [lastP, h, if_false]; rfl⟩
theorem sane_lastK : Sane lastP := by
  intro l
  match l with
  | [] => exact ⟨Nat.le_refl _, fun h => h.pos⟩
  | t :: r =>
    by_cases h : t.k = 0
    · simp only [lastP, h, if_true]
      exact ⟨List.suffix_refl _, id⟩
    · simp only [lastP, h, if_false]
      exact ⟨Nat.le_refl _, fun h => h.pos⟩
def wK (s : St) : Ps St := do
  let _ ← may s_semi
  lastP
  return s
theorem sane_wK (s : St) : Sane (wK s) := sane_bind (sane_may _) fun _ => sane_bind sane_lastK fun _ => sane_pure _
theorem whole_K : wholeP = (statementP >>= wK) := rfl
theorem br_sel : Br n (selectP >>= wK) :=
  br_bind sane_selectP (br_bind sane_queryP br_query (fun _ => br_pure _) fun _ => sane_pure _) (fun s => br_bind (sane_may _) (br_may _ (by decide)) (fun _ => br_bind sane_lastK br_last (fun _ => br_pure _) fun _ => sane_pure _) fun _ => sane_bind sane_lastK fun _ => sane_pure _) fun s => sane_wK s
def Kd (p : Ps St) : Prop := ∀ l d r, p l = .ok (d, r) → d.kind ≠ 8
theorem kd_bind {p : Ps α} {f : α → Ps St} (h : ∀ x, Kd (f x)) : Kd (p >>= f) := fun l d r e => by
  obtain ⟨x, m, _, h2⟩ := bind_invK e
  exact h x m d r h2
theorem kd_pure {s : St} (h : s.kind ≠ 8) : Kd (pure s) := fun l d r e => by
  injection e with e; injection e with e _; subst e
  exact h
theorem kd_ite {c : Prop} [Decidable c] {p q : Ps St} (hp : Kd p) (hq : Kd q) : Kd (if c then p else q) := by
  split
  · exact hp
  · exact hq
theorem kd_create : Kd createP := by
  unfold createP tableP viewP jobP
  repeat (first | exact kd_pure (by simp) | refine kd_ite ?_ ?_ | refine kd_bind fun _ => ?_)
theorem kd_drop : Kd dropP := by
  unfold dropP
  repeat (first | exact kd_pure (by simp) | refine kd_bind fun _ => ?_)
theorem kd_insert : Kd insertP := by
  unfold insertP
  repeat (first | exact kd_pure (by simp) | refine kd_bind fun _ => ?_)
theorem kd_update : Kd updateP := by
  unfold updateP
  repeat (first | exact kd_pure (by simp) | refine kd_bind fun _ => ?_)
theorem kd_delete : Kd deleteP := by
  unfold deleteP
  repeat (first | exact kd_pure (by simp) | refine kd_bind fun _ => ?_)
theorem kd_call : Kd callP := by
  unfold callP
  repeat (first | exact kd_pure (by simp only; split; decide; split; decide; split <;> decide) | refine kd_bind fun _ => ?_)
theorem kind_select {t : Wd} {l r : Wds} {d : St} (h : statementP (t :: l) = .ok (d, r)) (hk : d.kind = 8) : t.k = 1 ∧ t.s = w_select := by
  unfold statementP at h
  simp only at h
  split at h
  · cases h
  rename_i h1
  have h1 : t.k = 1 := by simpa using h1
  split at h
  · rename_i h2; exact ⟨h1, h2⟩
  split at h
  · exact absurd hk (kd_create _ _ _ h)
  split at h
  · exact absurd hk (kd_drop _ _ _ h)
  split at h
  · exact absurd hk (kd_insert _ _ _ h)
  split at h
  · exact absurd hk (kd_update _ _ _ h)
  split at h
  · exact absurd hk (kd_delete _ _ _ h)
  split at h
  · exact absurd hk (kd_call _ _ _ h)
  · cases h
theorem whole_select {t : Wd} (hk : t.k = 1) (hs : t.s = w_select) (l : Wds) : wholeP (t :: l) = (selectP >>= wK) (t :: l) := by
  rw [whole_K, bind_at, bind_at]
  simp [statementP, hk, hs]
theorem whole_brackets {a : Wds} {x : Wd} {s r : Wds} {d : St} (ho : ∃ t, a.getLast? = some t ∧ Opn t) (hx : Opd x s) (h : wholeP (a ++ x :: s) = .ok (d, r)) (hk : d.kind = 8) : ∃ r2, wholeP (a ++ bO :: x :: bC :: s) = .ok (d, r2) := by
  match a, ho with
  | [], ho => obtain ⟨t, ht, _⟩ := ho; simp at ht
  | t :: a, ho =>
    obtain ⟨d1, m, h1, h2⟩ := bind_invK (p := statementP) (f := wK) h
    obtain ⟨_, m2, _, h3⟩ := bind_invK h2
    obtain ⟨_, m3, _, h4⟩ := bind_invK h3
    have hd : d1 = d := by injection h4 with h4; injection h4
    subst hd
    obtain ⟨k1, k2⟩ := kind_select h1 hk
    rw [List.cons_append, whole_select k1 k2, ← List.cons_append] at h
    rw [List.cons_append, whole_select k1 k2, ← List.cons_append]
    rcases br_sel (t :: a) x s d1 r (Nat.le_refl _) ho hx h with ⟨a', _, _, _, h5⟩ | ⟨_, h5⟩
    · exact ⟨_, h5⟩
    · exact ⟨_, h5⟩
end Go.Proofs.YtcneefmaghoejaaGreatDoor
