/- Parts of the proof: PaW. Put together by slim.py. -/
import Derived.Test.YtcneefmaghoejaaGreatDoorB9
set_option linter.unusedSimpArgs false
set_option linter.unusedVariables false
namespace Go.Proofs.YtcneefmaghoejaaGreatDoor
def left {α : Type} : Except Nat (α × Wds) → Nat
  | .error n => n
  | .ok (_, r) => r.length
def Dull (t : Wd) : Prop := t.k = 0 ∨ t.k = 4 ∧ t.s = s_semi
def Brd (s1 s2 : Wds) (K : Nat) (b : Bool) : Prop :=
  (b = false → K = s1.length + 1) ∧ (b = true → K = s1.length ∧ ∃ t1 r1 t2 r2, s1 = t1 :: r1 ∧ s2 = t2 :: r2 ∧ Dull t1 ∧ Dull t2)
def Loc {α : Type} (s1 s2 : Wds) (K : Nat) (P : Ps α) : Prop := ∀ c : Wds, K ≤ left (P (c ++ s1)) → match P (c ++ s1) with
  | .error n => s1.length ≤ n ∧ P (c ++ s2) = .error (n - s1.length + s2.length)
  | .ok (x, r) => ∃ c', r = c' ++ s1 ∧ P (c ++ s2) = .ok (x, c' ++ s2)
theorem Sane.left {α : Type} {p : Ps α} (h : Sane p) (l : Wds) : left (p l) ≤ l.length := by
  cases e : p l with
  | error n => exact (h.err e).1
  | ok y => obtain ⟨x, r⟩ := y; exact h.len e
variable {α β : Type} {s1 s2 : Wds} {K : Nat} {b : Bool}
theorem Brd.le (h : Brd s1 s2 K b) : s1.length ≤ K := by
  cases b with
  | false => have := h.1 rfl; omega
  | true => have := (h.2 rfl).1; omega
theorem Loc.err {P : Ps α} (h : Loc s1 s2 K P) {c : Wds} {n : Nat} (e : P (c ++ s1) = .error n) (hk : K ≤ n) : s1.length ≤ n ∧ P (c ++ s2) = .error (n - s1.length + s2.length) := by
  have := h c (by rw [e]; exact hk)
  rw [e] at this
  exact this
theorem Loc.ok {P : Ps α} (h : Loc s1 s2 K P) {c r : Wds} {x : α} (e : P (c ++ s1) = .ok (x, r)) (hk : K ≤ r.length) : ∃ c', r = c' ++ s1 ∧ P (c ++ s2) = .ok (x, c' ++ s2) := by
  have := h c (by rw [e]; exact hk)
  rw [e] at this
  exact this
theorem loc_pure (x : α) : Loc s1 s2 K (pure x : Ps α) := fun c _ => ⟨c, rfl, rfl⟩
theorem loc_wrong : Loc s1 s2 K (wrongP : Ps α) := fun c _ => by
  show s1.length ≤ (c ++ s1).length ∧ (Except.error (c ++ s2).length : Except Nat (α × Wds)) = .error ((c ++ s1).length - s1.length + s2.length)
  simp
theorem loc_bind {p : Ps α} {f : α → Ps β} (h : Loc s1 s2 K p) (k : ∀ x, Loc s1 s2 K (f x)) (hf : ∀ x, Sane (f x)) : Loc s1 s2 K (p >>= f) := by
  intro c hK
  cases e : p (c ++ s1) with
  | error n =>
    rw [bind_errP e] at hK ⊢
    have := h.err e hK
    exact ⟨this.1, bind_errP this.2⟩
  | ok y =>
    obtain ⟨x, r⟩ := y
    rw [bind_okP e] at hK ⊢
    obtain ⟨c', rfl, e2⟩ := h.ok e (Nat.le_trans hK ((hf x).left r))
    rw [bind_okP e2]
    exact k x c' hK
theorem loc_ite {c : Prop} [Decidable c] {p q : Ps α} (hp : Loc s1 s2 K p) (hq : Loc s1 s2 K q) : Loc s1 s2 K (if c then p else q) := by
  split
  · exact hp
  · exact hq
def Hd (s1 s2 : Wds) (K : Nat) (P : Ps α) : Prop := ∀ t, (∃ p, Loc s1 s2 K p ∧ ∀ r, P (t :: r) = p r) ∨ ∃ q, Loc s1 s2 K q ∧ ∀ r, P (t :: r) = q (t :: r)
def Dl (s1 s2 : Wds) (K : Nat) (P : Ps α) : Prop := ∃ q, Loc s1 s2 K q ∧ ∀ t r, Dull t → P (t :: r) = q (t :: r)
theorem loc_head {P : Ps α} (hB : Brd s1 s2 K b) (hP : Sane P) (h : Hd s1 s2 K P) (hd : b = true → Dl s1 s2 K P) : Loc s1 s2 K P := by
  intro c hK
  match c with
  | [] =>
    cases b with
    | false =>
      have h1 := hB.1 rfl
      have h2 := hP.left s1
      simp only [List.nil_append] at hK
      omega
    | true =>
      obtain ⟨_, t1, r1, t2, r2, e1, e2, d1, d2⟩ := hB.2 rfl
      obtain ⟨q, hq, he⟩ := hd rfl
      have := hq []
      rw [List.nil_append, List.nil_append, e1, e2] at this ⊢
      rw [List.nil_append, e1] at hK
      rw [he t1 r1 d1] at hK ⊢
      rw [he t2 r2 d2]
      exact this hK
  | t :: c =>
    rcases h t with ⟨p, hp, he⟩ | ⟨q, hq, he⟩
    · have := hp c
      rw [List.cons_append, he] at hK
      simp only [List.cons_append, he]
      exact this hK
    · have := hq (t :: c)
      simp only [List.cons_append] at this hK ⊢
      rw [he] at hK
      simp only [he]
      exact this hK
theorem dull_word {s : List UInt8} (hs : s ≠ s_semi) {t : Wd} (h : Dull t) : isW s t = false := by
  unfold isW
  rcases h with h | ⟨h, h2⟩
  · simp [h]
  · simp only [h, h2]
    have : (s_semi == s) = false := by
      rw [beq_eq_false_iff_ne]
      exact fun x => hs x.symm
    simp [this]
theorem loc_take (hB : Brd s1 s2 K b) (s : List UInt8) (hs : b = true → s ≠ s_semi) {p q : Ps α} (hp : Loc s1 s2 K p) (hq : Loc s1 s2 K q) (sp : Sane p) (sq : Sane q) : Loc s1 s2 K (fun l => if headIs s l then p l.tail else q l) := by
  refine loc_head hB (sane_take s sp sq) (fun t => ?_) fun hb => ⟨q, hq, fun t r hd => ?_⟩
  · cases e : isW s t with
    | true => exact .inl ⟨p, hp, fun r => by simp [headIs, e]⟩
    | false => exact .inr ⟨q, hq, fun r => by simp [headIs, e]⟩
  · simp [headIs, dull_word (hs hb) hd]
theorem loc_may (hB : Brd s1 s2 K b) (s : List UInt8) (hs : b = true → s ≠ s_semi) : Loc s1 s2 K (may s) := loc_take hB s hs (p := pure true) (q := pure false) (loc_pure _) (loc_pure _) (sane_pure _) (sane_pure _)
theorem loc_must (hB : Brd s1 s2 K b) (s : List UInt8) (hs : b = true → s ≠ s_semi) : Loc s1 s2 K (must s) := loc_take hB s hs (p := pure ()) (q := wrongP) (loc_pure _) loc_wrong (sane_pure _) sane_wrong
theorem loc_one (hB : Brd s1 s2 K b) : ∀ ks : List (List UInt8), (b = true → s_semi ∉ ks) → Loc s1 s2 K (anyP ks)
  | [], _ => loc_wrong
  | s :: ks, h => loc_take hB s (fun hb e => h hb (by rw [e]; exact List.mem_cons_self)) (p := pure s) (q := anyP ks) (loc_pure _) (loc_one hB ks fun hb hm => h hb (List.mem_cons_of_mem _ hm)) (sane_pure _) (sane_one ks)
theorem dull_k {t : Wd} (h : Dull t) : ¬ t.k = 1 ∧ ¬ t.k = 2 ∧ ¬ t.k = 3 := by
  rcases h with h | ⟨h, _⟩ <;> simp [h]
theorem loc_name (hB : Brd s1 s2 K b) : Loc s1 s2 K nameP := by
  refine loc_head hB sane_name (fun t => ?_) fun hb => ⟨wrongP, loc_wrong, fun t r hd => ?_⟩
  · by_cases h : t.k = 1 ∧ resB t.s = false
    · exact .inl ⟨pure (⟨t.s.toArray⟩ : ByteArray), loc_pure _, fun r => by simp only [nameP, h, and_self, if_true]; rfl⟩
    · exact .inr ⟨wrongP, loc_wrong, fun r => by simp only [nameP, h, if_false]; rfl⟩
  · simp only [nameP, (dull_k hd).1, false_and, if_false]; rfl
theorem loc_num (hB : Brd s1 s2 K b) : Loc s1 s2 K numP := by
  refine loc_head hB sane_num (fun t => ?_) fun hb => ⟨wrongP, loc_wrong, fun t r hd => ?_⟩
  · by_cases h : t.k = 2
    · exact .inl ⟨pure t.n, loc_pure _, fun r => by simp only [numP, h, if_true]; rfl⟩
    · exact .inr ⟨wrongP, loc_wrong, fun r => by simp only [numP, h, if_false]; rfl⟩
  · simp only [numP, (dull_k hd).2.1, if_false]; rfl
theorem loc_more (hB : Brd s1 s2 K b) {el : Ps α} (h : Loc s1 s2 K el) (hs : Sane el) : ∀ (f : Nat) (acc : List α), Loc s1 s2 K (moreF el f acc)
  | 0, acc => loc_pure _
  | f + 1, acc => loc_take hB s_comma (fun _ => by decide) (p := do let y ← el; moreF el f (acc ++ [y])) (q := pure acc) (loc_bind h (fun y => loc_more hB h hs f _) fun _ => sane_more hs _ _) (loc_pure _) (sane_bind hs fun _ => sane_more hs _ _) (sane_pure _)
theorem loc_list (hB : Brd s1 s2 K b) {el : Ps α} (h : Loc s1 s2 K el) (hs : Sane el) : Loc s1 s2 K (listP el) := by
  refine loc_bind h (fun x => ?_) fun x => sane_at (q := fun l => moreF el l.length [x]) fun l => sane_more hs _ _
  intro c hK
  have e1 : moreF el (c ++ s1).length [x] (c ++ s1) = moreF el (c.length + s1.length + s2.length) [x] (c ++ s1) := moreF_fuel hs _ _ _ _ (Nat.le_refl _) (by simp)
  have e2 : moreF el (c ++ s2).length [x] (c ++ s2) = moreF el (c.length + s1.length + s2.length) [x] (c ++ s2) := moreF_fuel hs _ _ _ _ (Nat.le_refl _) (by simp)
  simp only [e1] at hK
  simp only [e1, e2]
  exact loc_more hB h hs _ [x] c hK
def opH : List (List UInt8 × Int) → Wd → Option Int
  | [], _ => none
  | (s, o) :: k, t => if isW s t then some o else opH k t
theorem opW_head : ∀ (ks : List (List UInt8 × Int)) (t : Wd) (r : Wds), opOf ks (t :: r) = opH ks t
  | [], _, _ => rfl
  | (s, o) :: ks, t, r => by simp only [opOf, opH, headIs, opW_head ks t r]
theorem opH_dull : ∀ (ks : List (List UInt8 × Int)), (∀ x ∈ ks, x.1 ≠ s_semi) → ∀ t, Dull t → opH ks t = none
  | [], _, _, _ => rfl
  | (s, o) :: ks, h, t, hd => by
    simp only [opH, dull_word (h (s, o) List.mem_cons_self) hd]
    exact opH_dull ks (fun x hx => h x (List.mem_cons_of_mem _ hx)) t hd
theorem opsL_semi (lv : Nat) : ∀ x ∈ opsL lv, x.1 ≠ s_semi := by
  match lv with
  | 0 | 1 | 2 | 3 | 4 | 5 => decide
  | n + 6 => intro x hx; simp [opsL] at hx
theorem loc_leftF (hB : Brd s1 s2 K b) {below : Ps Tr} (h : Loc s1 s2 K below) (hs : Sane below) (lv : Nat) : ∀ (f : Nat) (x : Tr), Loc s1 s2 K (leftF below lv f x)
  | 0, x => loc_pure _
  | f + 1, x => by
    refine loc_head hB (sane_leftF hs lv (f + 1) x) (fun t => ?_) fun hb => ⟨pure x, loc_pure _, fun t r hd => ?_⟩
    · cases e : opH (opsL lv) t with
      | none => exact .inr ⟨pure x, loc_pure _, fun r => by simp only [leftF, opW_head, e]; rfl⟩
      | some o => exact .inl ⟨(do let y ← below; leftF below lv f (opT o [x, y])), loc_bind h (fun y => loc_leftF hB h hs lv f _) fun _ => sane_leftF hs lv _ _, fun r => by simp only [leftF, opW_head, e]; rfl⟩
    · simp only [leftF, opW_head, opH_dull _ (opsL_semi lv) t hd]; rfl
theorem loc_leftP (hB : Brd s1 s2 K b) {below : Ps Tr} (h : Loc s1 s2 K below) (hs : Sane below) (lv : Nat) : Loc s1 s2 K (leftP below lv) := by
  refine loc_bind h (fun x => ?_) fun x => sane_leftL hs lv x
  intro c hK
  have e1 : leftF below lv (c ++ s1).length x (c ++ s1) = leftF below lv (c.length + s1.length + s2.length) x (c ++ s1) := leftF_fuel hs _ _ _ _ _ (Nat.le_refl _) (by simp)
  have e2 : leftF below lv (c ++ s2).length x (c ++ s2) = leftF below lv (c.length + s1.length + s2.length) x (c ++ s2) := leftF_fuel hs _ _ _ _ _ (Nat.le_refl _) (by simp)
  simp only [e1] at hK
  simp only [e1, e2]
  exact loc_leftF hB h hs lv _ x c hK
theorem loc_cmp (hB : Brd s1 s2 K b) {below : Ps Tr} (h : Loc s1 s2 K below) (hs : Sane below) : Loc s1 s2 K (cmpP below) := by
  refine loc_bind h (fun x => loc_bind (loc_may hB _ fun _ => by decide) (fun y => loc_ite (loc_bind (loc_may hB _ fun _ => by decide) (fun n => loc_bind (loc_must hB _ fun _ => by decide) (fun _ => loc_pure _) fun _ => sane_pure _) fun n => sane_bind (sane_must _) fun _ => sane_pure _) ?_) fun y => sane_ite (sane_bind (sane_may _) fun n => sane_bind (sane_must _) fun _ => sane_pure _) (sane_cmpF hs x)) fun x => sane_bind (sane_may _) fun y => sane_ite (sane_bind (sane_may _) fun n => sane_bind (sane_must _) fun _ => sane_pure _) (sane_cmpF hs x)
  refine loc_head hB (sane_cmpF hs x) (fun t => ?_) fun hb => ⟨pure x, loc_pure _, fun t r hd => ?_⟩
  · cases e : opH (opsL 3) t with
    | none => exact .inr ⟨pure x, loc_pure _, fun r => by simp only [cmpF, opW_head, e]; rfl⟩
    | some o => exact .inl ⟨(do let y ← below; return opT o [x, y]), loc_bind h (fun y => loc_pure _) fun _ => sane_pure _, fun r => by simp only [cmpF, opW_head, e]; rfl⟩
  · simp only [cmpF, opW_head, opH_dull _ (opsL_semi 3) t hd]; rfl
theorem loc_un (hB : Brd s1 s2 K b) {same below : Ps Tr} (s : List UInt8) (op : Int) (hn : s ≠ s_semi) (h : Loc s1 s2 K same) (k : Loc s1 s2 K below) (hs : Sane same) (ks : Sane below) : Loc s1 s2 K (unP s op same below) := by
  refine loc_bind (loc_may hB s fun _ => hn) (fun y => loc_ite (loc_bind h (fun x => loc_pure _) fun _ => sane_pure _) k) fun y => sane_ite (sane_bind hs fun _ => sane_pure _) ks
theorem loc_args (hB : Brd s1 s2 K b) {whole : Ps Tr} (h : Loc s1 s2 K whole) (hs : Sane whole) (op : Int) : Loc s1 s2 K (argsP whole op) := by
  have z2 : ∀ op, Sane (secondP whole op) := fun op => sane_ite (sane_bind (sane_must _) fun _ => sane_bind hs fun y => sane_pure _) (sane_pure _)
  have z3 : ∀ (f : Unit → Ps Tr), (∀ x, Sane (f x)) → Sane (must s_close >>= f) := fun f hf => sane_bind (sane_must _) hf
  refine loc_bind (loc_ite (loc_bind (loc_num hB) (fun n => loc_bind (loc_must hB _ fun _ => by decide) (fun _ => loc_pure _) fun _ => sane_pure _) fun n => sane_bind (sane_must _) fun _ => sane_pure _) (loc_pure _)) (fun width => loc_bind h (fun x => loc_bind (loc_ite (loc_bind (loc_must hB _ fun _ => by decide) (fun _ => loc_bind h (fun y => loc_pure _) fun y => sane_pure _) fun _ => sane_bind hs fun _ => sane_pure _) (loc_pure _)) (fun ys => loc_bind (loc_must hB _ fun _ => by decide) (fun _ => loc_pure _) fun _ => sane_pure _) fun ys => z3 _ fun _ => sane_pure _) fun x => sane_bind (z2 op) fun ys => z3 _ fun _ => sane_pure _) fun width => sane_bind hs fun x => sane_bind (z2 op) fun ys => z3 _ fun _ => sane_pure _
theorem loc_fun (hB : Brd s1 s2 K b) {whole : Ps Tr} (h : Loc s1 s2 K whole) (hs : Sane whole) (op : Int) : Loc s1 s2 K (funP whole op) :=
  loc_ite (loc_bind (loc_may hB _ fun _ => by decide) (fun y => loc_ite (loc_bind (loc_must hB _ fun _ => by decide) (fun _ => loc_pure _) fun _ => sane_pure _) (loc_args hB h hs _)) fun y => sane_ite (sane_bind (sane_must _) fun _ => sane_pure _) (sane_args hs _)) (loc_args hB h hs op)
def namedK (whole : Ps Tr) (n : ByteArray) : Ps Tr := fun l => if headIs s_open l then (match funOf n with
    | none => .error l.length
    | some op => funP whole op l.tail) else .ok (colT n, l)
theorem named_K (whole : Ps Tr) : namedP whole = (nameP >>= namedK whole) := rfl
theorem sane_namedK {whole : Ps Tr} (hw : Sane whole) (n : ByteArray) : Sane (namedK whole n) := by
  intro l
  unfold namedK
  by_cases h : headIs s_open l = true
  · simp only [h, if_true]
    cases e : funOf n with
    | none => exact sane_wrong (α := Tr) l
    | some op => exact sane_tail (sane_fun hw op) h
  · simp only [h]
    exact sane_pure (colT n) l
theorem loc_named (hB : Brd s1 s2 K b) {whole : Ps Tr} (h : Loc s1 s2 K whole) (hs : Sane whole) : Loc s1 s2 K (namedP whole) := by
  rw [named_K]
  refine loc_bind (loc_name hB) (fun n => loc_head hB (sane_namedK hs n) (fun t => ?_) fun hb => ⟨pure (colT n), loc_pure _, fun t r hd => ?_⟩) fun n => sane_namedK hs n
  · cases e : isW s_open t with
    | false => exact .inr ⟨pure (colT n), loc_pure _, fun r => by simp only [namedK, headIs, e]; rfl⟩
    | true =>
      cases e2 : funOf n with
      | none => exact .inr ⟨wrongP, loc_wrong, fun r => by simp only [namedK, headIs, e, e2]; rfl⟩
      | some op => exact .inl ⟨funP whole op, loc_fun hB h hs op, fun r => by simp only [namedK, headIs, e, e2, if_true, List.tail_cons]⟩
  · simp only [namedK, headIs, dull_word (show s_open ≠ s_semi by decide) hd]; rfl
theorem loc_atom (hB : Brd s1 s2 K b) {whole : Ps Tr} (h : Loc s1 s2 K whole) (hs : Sane whole) : Loc s1 s2 K (atomP whole) := by
  refine loc_head hB (sane_atom hs) (fun t => ?_) fun hb => ⟨namedP whole, loc_named hB h hs, fun t r hd => ?_⟩
  · by_cases h1 : t.k = 2
    · exact .inl ⟨pure (litT ⟨2, t.n, ByteArray.empty⟩), loc_pure _, fun r => by simp only [atomP, h1, if_true]; rfl⟩
    by_cases h2 : t.k = 3
    · exact .inl ⟨pure (litT ⟨3, 0, ⟨t.s.toArray⟩⟩), loc_pure _, fun r => by simp only [atomP, h1, h2, if_true, if_false]; rfl⟩
    cases h3 : isW w_true t with
    | true => exact .inl ⟨pure (litT ⟨1, 1, ByteArray.empty⟩), loc_pure _, fun r => by simp only [atomP, h1, h2, h3, if_true, if_false]; rfl⟩
    | false =>
    cases h4 : isW w_false t with
    | true => exact .inl ⟨pure (litT ⟨1, 0, ByteArray.empty⟩), loc_pure _, fun r => by simp only [atomP, h1, h2, h3, h4, if_true, if_false]; rfl⟩
    | false =>
    cases h5 : isW w_null t with
    | true => exact .inl ⟨pure (litT nilVal), loc_pure _, fun r => by simp only [atomP, h1, h2, h3, h4, h5, if_true, if_false]; rfl⟩
    | false =>
    cases h6 : isW s_open t with
    | true => exact .inl ⟨(do let x ← whole; must s_close; return x), loc_bind h (fun x => loc_bind (loc_must hB _ fun _ => by decide) (fun _ => loc_pure _) fun _ => sane_pure _) fun x => sane_bind (sane_must _) fun _ => sane_pure _, fun r => by simp only [atomP, h1, h2, h3, h4, h5, h6, if_true, if_false]; rfl⟩
    | false => exact .inr ⟨namedP whole, loc_named hB h hs, fun r => by simp only [atomP, h1, h2, h3, h4, h5, h6, if_true, if_false]; rfl⟩
  · obtain ⟨k1, k2, k3⟩ := dull_k hd
    simp only [atomP, k2, k3, dull_word (show w_true ≠ s_semi by decide) hd, dull_word (show w_false ≠ s_semi by decide) hd, dull_word (show w_null ≠ s_semi by decide) hd, dull_word (show s_open ≠ s_semi by decide) hd, if_false]; rfl
theorem loc_pE (hB : Brd s1 s2 K b) : ∀ (f lv : Nat), Loc s1 s2 K (pE f lv)
  | 0, _ => loc_wrong
  | f + 1, 0 => loc_leftP hB (loc_pE hB f 1) (sane_pE _ _) 0
  | f + 1, 1 => loc_leftP hB (loc_pE hB f 2) (sane_pE _ _) 1
  | f + 1, 2 => loc_un hB w_not 4 (by decide) (loc_pE hB f 2) (loc_pE hB f 3) (sane_pE _ _) (sane_pE _ _)
  | f + 1, 3 => loc_cmp hB (loc_pE hB f 4) (sane_pE _ _)
  | f + 1, 4 => loc_leftP hB (loc_pE hB f 5) (sane_pE _ _) 4
  | f + 1, 5 => loc_leftP hB (loc_pE hB f 6) (sane_pE _ _) 5
  | f + 1, 6 => loc_un hB s_minus 3 (by decide) (loc_pE hB f 6) (loc_pE hB f 7) (sane_pE _ _) (sane_pE _ _)
  | f + 1, n + 7 => loc_atom hB (loc_pE hB f 0) (sane_pE _ _)
theorem sane_exprP : Sane exprP := fun l => sane_pE _ _ l
theorem loc_expr (hB : Brd s1 s2 K b) : Loc s1 s2 K exprP := by
  intro c hK
  have e1 : exprP (c ++ s1) = pE (8 * (c.length + s1.length + s2.length) + 8) 0 (c ++ s1) := (exprL_pE (by omega) (by simp; omega)).symm
  have e2 : exprP (c ++ s2) = pE (8 * (c.length + s1.length + s2.length) + 8) 0 (c ++ s2) := (exprL_pE (by omega) (by simp; omega)).symm
  simp only [e1] at hK
  simp only [e1, e2]
  exact loc_pE hB _ 0 c hK
end Go.Proofs.YtcneefmaghoejaaGreatDoor
