/- What a state stands for: the pairs that were fed, in no order. No program in sight. -/
import Derived.Test.YtjpgahfabmgpiaaLaw
namespace Go.Proofs.Ytjpgahfabmgpiaa
set_option linter.unusedVariables false
set_option linter.unusedSimpArgs false

/-- an order that tells -/
structure Good {γ : Type} (c : γ → γ → Int) : Prop where
  anti : ∀ x y, c x y = -(c y x)
  trans : ∀ x y z, c x y ≤ 0 → c y z ≤ 0 → c x z ≤ 0

theorem Good.lex {γ : Type} {c d : γ → γ → Int} (hc : Good c) (hd : Good d) : Good fun x y => or2 (c x y) (d x y) := by
  constructor
  · intro x y
    have h1 := hc.anti x y
    have h2 := hd.anti x y
    unfold or2
    split <;> split <;> omega
  · intro x y z h1 h2
    have a1 : c x y ≤ 0 := by unfold or2 at h1; split at h1 <;> omega
    have a2 : c y z ≤ 0 := by unfold or2 at h2; split at h2 <;> omega
    have a3 := hc.trans x y z a1 a2
    show or2 (c x z) (d x z) ≤ 0
    by_cases h0 : c x z = 0
    · have b0 : c z x = 0 := by have := hc.anti z x; omega
      have b1 := hc.trans z x y (by omega) a1
      have b2 := hc.trans y z x a2 (by omega)
      have e1 := hc.anti z y
      have e2 := hc.anti y x
      have z1 : c x y = 0 := by omega
      have z2 : c y z = 0 := by omega
      have := hd.trans x y z (by simpa [or2, z1] using h1) (by simpa [or2, z2] using h2)
      simpa [or2, h0] using this
    · simpa [or2, h0] using a3
theorem Good.flip {γ : Type} {c : γ → γ → Int} (hc : Good c) : Good fun x y => -(c x y) := by
  constructor
  · intro x y; have := hc.anti x y; omega
  · intro x y z h1 h2
    have a1 := hc.anti x y
    have a2 := hc.anti y z
    have a3 := hc.anti x z
    have := hc.trans z y x (by omega) (by omega)
    show -(c x z) ≤ 0
    omega
theorem Good.by_ {γ δ : Type} {c : γ → γ → Int} (hc : Good c) (f : δ → γ) : Good fun x y => c (f x) (f y) := ⟨fun x y => hc.anti _ _, fun x y z => hc.trans _ _ _⟩

theorem cmpI_good : Good cmpI := by
  constructor
  · intro x y; unfold cmpI; split <;> split <;> (try split) <;> (try split) <;> omega
  · intro x y z h1 h2
    have a : x ≤ y := by unfold cmpI at h1; split at h1 <;> (try split at h1) <;> omega
    have b : y ≤ z := by unfold cmpI at h2; split at h2 <;> (try split at h2) <;> omega
    unfold cmpI
    split
    · omega
    · rw [if_neg (by omega)]; omega
theorem cmpI_zero {a b : Int} (h : cmpI a b = 0) : a = b := by unfold cmpI at h; split at h <;> (try split at h) <;> omega

theorem less_irrefl : ∀ x : List UInt8, Op.bytesLess x x = false
  | [] => rfl
  | a :: x => by simp [Op.bytesLess, less_irrefl x]
theorem less_asymm : ∀ x y : List UInt8, Op.bytesLess x y = true → Op.bytesLess y x = false
  | _, [], h => by simp [Op.bytesLess] at h
  | [], _ :: _, _ => by simp [Op.bytesLess]
  | a :: x, b :: y, h => by
    simp only [Op.bytesLess, Bool.or_eq_true, Bool.and_eq_true, decide_eq_true_eq, beq_iff_eq] at h
    simp only [Op.bytesLess, Bool.or_eq_false_iff, Bool.and_eq_false_iff, decide_eq_false_iff_not, beq_eq_false_iff_ne]
    rcases h with h | ⟨rfl, h⟩
    · refine ⟨fun h' => ?_, .inl fun e => ?_⟩
      · exact absurd (UInt8.lt_trans h h') (UInt8.lt_irrefl _)
      · subst e; exact UInt8.lt_irrefl _ h
    · exact ⟨UInt8.lt_irrefl _, .inr (less_asymm x y h)⟩
theorem less_total : ∀ x y : List UInt8, Op.bytesLess x y = false → Op.bytesLess y x = false → x = y
  | [], [], _, _ => rfl
  | [], _ :: _, h, _ => by simp [Op.bytesLess] at h
  | _ :: _, [], _, h => by simp [Op.bytesLess] at h
  | a :: x, b :: y, h1, h2 => by
    simp only [Op.bytesLess, Bool.or_eq_false_iff, Bool.and_eq_false_iff, decide_eq_false_iff_not, beq_eq_false_iff_ne] at h1 h2
    have hab : a = b := UInt8.le_antisymm (UInt8.not_lt.1 h2.1) (UInt8.not_lt.1 h1.1)
    subst hab
    have := less_total x y (by rcases h1.2 with h | h; exact absurd rfl h; exact h) (by rcases h2.2 with h | h; exact absurd rfl h; exact h)
    rw [this]
theorem less_trans : ∀ x y z : List UInt8, Op.bytesLess x y = true → Op.bytesLess y z = true → Op.bytesLess x z = true
  | _, [], _, h, _ => by simp [Op.bytesLess] at h
  | _, _ :: _, [], _, h => by simp [Op.bytesLess] at h
  | [], _ :: _, _ :: _, _, _ => by simp [Op.bytesLess]
  | a :: x, b :: y, c :: z, h1, h2 => by
    simp only [Op.bytesLess, Bool.or_eq_true, Bool.and_eq_true, decide_eq_true_eq, beq_iff_eq] at h1 h2 ⊢
    rcases h1 with h1 | ⟨rfl, h1⟩
    · rcases h2 with h2 | ⟨rfl, h2⟩
      · exact .inl (UInt8.lt_trans h1 h2)
      · exact .inl h1
    · rcases h2 with h2 | ⟨rfl, h2⟩
      · exact .inl h2
      · exact .inr ⟨rfl, less_trans x y z h1 h2⟩

theorem cmpS_le {a b : ByteArray} : cmpS a b ≤ 0 ↔ Op.bytesLess b.toList a.toList = false := by
  unfold cmpS
  split
  · rename_i h; simp [less_asymm _ _ h]
  · rename_i h
    split
    · rename_i h2; rw [beq_iff_eq] at h2; rw [h2]; simp [less_irrefl]
    · rename_i h2
      constructor
      · intro h; omega
      · intro h3; exact absurd (by rw [beq_iff_eq]; exact less_total _ _ (by simpa using h) h3) h2
theorem cmpS_good : Good cmpS := by
  constructor
  · intro x y
    unfold cmpS
    by_cases h1 : Op.bytesLess x.toList y.toList = true
    · rw [if_pos h1, if_neg (by rw [less_asymm _ _ h1]; decide), if_neg (fun e => by rw [beq_iff_eq] at e; rw [e, less_irrefl] at h1; cases h1)]
    · rw [if_neg h1]
      by_cases h2 : Op.bytesLess y.toList x.toList = true
      · rw [if_pos h2, if_neg (fun e => by rw [beq_iff_eq] at e; rw [e, less_irrefl] at h2; cases h2)]; rfl
      · rw [if_neg h2]
        have e := less_total _ _ (by simpa using h1) (by simpa using h2)
        rw [e]; simp
  · intro x y z h1 h2
    rw [cmpS_le] at *
    cases h3 : Op.bytesLess z.toList x.toList
    · rfl
    · exfalso
      cases h4 : Op.bytesLess x.toList y.toList
      · have e := less_total _ _ h4 h1
        rw [e, h2] at h3; cases h3
      · rw [less_trans _ _ _ h3 h4] at h2; cases h2
theorem cmpS_zero {a b : ByteArray} (h : cmpS a b = 0) : a = b := by
  unfold cmpS at h
  split at h
  · omega
  · split at h
    · rename_i h2; rw [beq_iff_eq, ByteArray.toList_eq, ByteArray.toList_eq] at h2; exact Go.WideShapes.bytes_inj h2
    · omega

theorem vcmp_good : Good vcmp := (cmpI_good.by_ Val.k).lex ((cmpI_good.by_ Val.n).lex (cmpS_good.by_ Val.s))
theorem or2_zero {x y : Int} (h : or2 x y = 0) : x = 0 ∧ y = 0 := by unfold or2 at h; split at h <;> omega
theorem vcmp_zero {a b : Val} (h : vcmp a b = 0) : a = b := by
  obtain ⟨h1, h2⟩ := or2_zero (show or2 (cmpI a.k b.k) (or2 (cmpI a.n b.n) (cmpS a.s b.s)) = 0 from h)
  obtain ⟨h2, h3⟩ := or2_zero h2
  obtain ⟨k, n, s⟩ := a
  obtain ⟨k', n', s'⟩ := b
  have := cmpI_zero h1
  have := cmpI_zero h2
  have := cmpS_zero h3
  simp_all

/-- which of two pairs an aggregate would rather have -/
def pc (op : Int) (x y : Val × Val) : Int := if op = 25 ∨ op = 28 then -(or2 (vcmp x.2 y.2) (vcmp x.1 y.1)) else or2 (vcmp x.2 y.2) (vcmp x.1 y.1)
theorem pc_good (op : Int) : Good (pc op) := by
  have h : Good fun x y : Val × Val => or2 (vcmp x.2 y.2) (vcmp x.1 y.1) := (vcmp_good.by_ Prod.snd).lex (vcmp_good.by_ Prod.fst)
  by_cases ho : op = 25 ∨ op = 28
  · have e : pc op = fun x y => -(or2 (vcmp x.2 y.2) (vcmp x.1 y.1)) := by funext x y; simp [pc, ho]
    rw [e]; exact h.flip
  · have e : pc op = fun x y => or2 (vcmp x.2 y.2) (vcmp x.1 y.1) := by funext x y; simp [pc, ho]
    rw [e]; exact h
theorem pc_zero {op : Int} {x y : Val × Val} (h : pc op x y = 0) : x = y := by
  have h : or2 (vcmp x.2 y.2) (vcmp x.1 y.1) = 0 := by unfold pc at h; split at h <;> omega
  obtain ⟨h1, h2⟩ := or2_zero h
  exact Prod.ext (vcmp_zero h2) (vcmp_zero h1)

/-- the best of a set of pairs -/
def Best (op : Int) (f : Bool) (a b : Val) (K : Val × Val → Prop) : Prop :=
  (f = false ∧ a = zeroVal ∧ b = zeroVal ∧ ∀ y, ¬ K y) ∨ (f = true ∧ K (a, b) ∧ ∀ y, K y → 0 ≤ pc op y (a, b))
theorem Best.same {op : Int} {f f' : Bool} {a b a' b' : Val} {K : Val × Val → Prop} (h : Best op f a b K) (h' : Best op f' a' b' K) : f = f' ∧ a = a' ∧ b = b' := by
  rcases h with ⟨rfl, rfl, rfl, h⟩ | ⟨rfl, h1, h2⟩
  · rcases h' with ⟨rfl, rfl, rfl, h'⟩ | ⟨rfl, h1, h2⟩
    · exact ⟨rfl, rfl, rfl⟩
    · exact absurd h1 (h _)
  · rcases h' with ⟨rfl, rfl, rfl, h'⟩ | ⟨rfl, h1', h2'⟩
    · exact absurd h1 (h' _)
    · have e1 := h2 _ h1'
      have e2 := h2' _ h1
      have e3 := (pc_good op).anti (a, b) (a', b')
      have := pc_zero (show pc op (a, b) (a', b') = 0 by omega)
      simp at this
      exact ⟨rfl, this.1, this.2⟩
theorem Best.iff {op : Int} {f : Bool} {a b : Val} {K K' : Val × Val → Prop} (h : Best op f a b K) (hK : ∀ y, K' y ↔ K y) : Best op f a b K' := by
  have : K' = K := by funext y; exact propext (hK y)
  rw [this]; exact h

theorem better_eq (s : St) (c d : Val) : s.better c d = (!s.found || decide (pc s.op (c, d) (s.a, s.b) < 0)) := by
  unfold St.better St.rank pc
  rfl
theorem Best.join {s : St} {c d : Val} {K1 K2 K : Val × Val → Prop} (h1 : Best s.op s.found s.a s.b K1) (h2 : Best s.op true c d K2) (hK : ∀ y, K y ↔ K1 y ∨ K2 y) :
    Best s.op (s.take c d).found (s.take c d).a (s.take c d).b K := by
  have g := pc_good s.op
  rcases h2 with ⟨h, _⟩ | ⟨_, k2, m2⟩
  · cases h
  unfold St.take
  by_cases hb : s.better c d = true
  · rw [if_pos hb]
    refine .inr ⟨rfl, (hK _).2 (.inr k2), fun y hy => ?_⟩
    rcases (hK y).1 hy with hy | hy
    · rcases h1 with ⟨_, _, _, h⟩ | ⟨hf, k1, m1⟩
      · exact absurd hy (h _)
      · rw [better_eq, hf] at hb
        have hb : pc s.op (c, d) (s.a, s.b) < 0 := by simpa using hb
        have a1 := m1 y hy
        have a2 := g.anti y (s.a, s.b)
        have a3 := g.trans (c, d) (s.a, s.b) y (by omega) (by omega)
        have a4 := g.anti y (c, d)
        show 0 ≤ pc s.op y (c, d)
        omega
    · exact m2 y hy
  · rw [if_neg hb]
    rw [better_eq] at hb
    simp at hb
    rcases h1 with ⟨hf, _⟩ | ⟨hf, k1, m1⟩
    · rw [hb.1] at hf; cases hf
    · refine .inr ⟨hf, (hK _).2 (.inl k1), fun y hy => ?_⟩
      rcases (hK y).1 hy with hy | hy
      · exact m1 y hy
      · have a1 := m2 y hy
        have a2 := g.anti y (c, d)
        have a0 := hb.2
        have a5 := g.anti (c, d) (s.a, s.b)
        have a3 := g.trans (s.a, s.b) (c, d) y (by omega) (by omega)
        have a4 := g.anti y (s.a, s.b)
        omega
theorem take_rest (s : St) (c d : Val) : (s.take c d).op = s.op ∧ (s.take c d).all = s.all ∧ (s.take c d).count = s.count ∧ (s.take c d).sum = s.sum := by
  unfold St.take; split <;> exact ⟨rfl, rfl, rfl, rfl⟩

/-- what of a pair plays a part -/
def key (op : Int) (x : Val × Val) : Option (Val × Val) :=
  if op = 24 ∨ op = 25 then (if x.1.k = 0 then none else some (x.1, zeroVal)) else if op = 27 ∨ op = 28 then (if x.2.k = 2 then some x else none) else none
def one (op : Int) (x : Val × Val) : Int := if op = 22 then (if x.1.k = 0 then 0 else 1) else if op = 23 ∨ op = 26 then (if x.1.k = 2 then 1 else 0) else 0
def amt (op : Int) (x : Val × Val) : Int := if op = 23 ∨ op = 26 then (if x.1.k = 2 then x.1.n else 0) else 0
def cnt (op : Int) : List (Val × Val) → Int
  | [] => 0
  | x :: l => one op x + cnt op l
def tot (op : Int) : List (Val × Val) → Int
  | [] => 0
  | x :: l => amt op x + tot op l
theorem cnt_app (op : Int) : ∀ l m : List (Val × Val), cnt op (l ++ m) = cnt op l + cnt op m
  | [], m => by simp [cnt]
  | x :: l, m => by simp [cnt, cnt_app op l m]; omega
theorem tot_app (op : Int) : ∀ l m : List (Val × Val), tot op (l ++ m) = tot op l + tot op m
  | [], m => by simp [tot]
  | x :: l, m => by simp [tot, tot_app op l m]; omega
def keys (op : Int) (l : List (Val × Val)) (y : Val × Val) : Prop := ∃ x ∈ l, key op x = some y

/-- a state stands for pairs -/
structure Rep (op : Int) (s : St) (l : List (Val × Val)) : Prop where
  kind : s.op = op
  all : s.all = l.length
  count : s.count = cnt op l
  sum : s.sum = tot op l % (M * M)
  best : Best op s.found s.a s.b (keys op l)
theorem Rep.same {op : Int} {s s' : St} {l : List (Val × Val)} (h : Rep op s l) (h' : Rep op s' l) : s = s' := by
  obtain ⟨e1, e2, e3⟩ := h.best.same h'.best
  have a1 := h.kind.trans h'.kind.symm
  have a2 := h.all.trans h'.all.symm
  have a3 := h.count.trans h'.count.symm
  have a4 := h.sum.trans h'.sum.symm
  obtain ⟨o, n, c, s, a, b, f⟩ := s
  obtain ⟨o', n', c', s', a', b', f'⟩ := s'
  simp_all
theorem Rep.turn {op : Int} {s : St} {l m : List (Val × Val)} (h : Rep op s (l ++ m)) : Rep op s (m ++ l) :=
  ⟨h.kind, by rw [h.all]; simp; omega, by rw [h.count, cnt_app, cnt_app]; omega, by rw [h.sum, tot_app, tot_app, Int.add_comm], h.best.iff fun y => by simp [keys, or_comm]⟩
theorem rep_new (op : Int) : Rep op (stNew op) [] := ⟨rfl, rfl, rfl, by simp [stNew, tot], .inl ⟨rfl, rfl, rfl, by simp [keys]⟩⟩

theorem keys_cons {op : Int} {x : Val × Val} {l : List (Val × Val)} {y : Val × Val} : keys op (x :: l) y ↔ keys op l y ∨ key op x = some y := by simp [keys, or_comm]
theorem best_skip {op : Int} {f : Bool} {a b : Val} {x : Val × Val} {l : List (Val × Val)} (h : Best op f a b (keys op l)) (hx : key op x = none) : Best op f a b (keys op (x :: l)) := h.iff fun y => by rw [keys_cons, hx]; simp
theorem best_take {s : St} {c d : Val} {x : Val × Val} {l : List (Val × Val)} (h : Best s.op s.found s.a s.b (keys s.op l)) (hx : key s.op x = some (c, d)) : Best s.op (s.take c d).found (s.take c d).a (s.take c d).b (keys s.op (x :: l)) :=
  Best.join h (K2 := fun y => y = (c, d)) (.inr ⟨rfl, rfl, fun y hy => by
    subst hy
    have := (pc_good s.op).anti (c, d) (c, d)
    omega⟩) fun y => by rw [keys_cons, hx]; simp [eq_comm]

theorem Rep.feed {op : Int} {s : St} {l : List (Val × Val)} (h : Rep op s l) (h0 : 21 ≤ op) (h1 : op ≤ 28) (x : Val × Val) : Rep op (s.feed x.1 x.2) (x :: l) := by
  obtain ⟨rfl, ha, hc, hs, hb⟩ := h
  have hcases : s.op = 21 ∨ s.op = 22 ∨ s.op = 23 ∨ s.op = 24 ∨ s.op = 25 ∨ s.op = 26 ∨ s.op = 27 ∨ s.op = 28 := by omega
  have hall : s.all + 1 = ((x :: l).length : Nat) := by rw [ha]; simp
  unfold St.feed St.does
  dsimp only
  rcases hcases with o | o | o | o | o | o | o | o
  · rw [if_pos o]
    exact ⟨rfl, hall, by rw [hc]; simp [cnt, one, o], by rw [hs]; simp [tot, amt, o], best_skip hb (by simp [key, o])⟩
  · rw [if_neg (by omega), if_pos o]
    unfold St.some_
    split
    · rename_i hk; exact ⟨rfl, hall, by rw [hc]; simp [cnt, one, o, hk], by rw [hs]; simp [tot, amt, o], best_skip hb (by simp [key, o])⟩
    · rename_i hk; exact ⟨rfl, hall, by show s.count + 1 = _; rw [hc]; simp [cnt, one, o, hk]; omega, by show s.sum = _; rw [hs]; simp [tot, amt, o], best_skip hb (by simp [key, o])⟩
  · rw [if_neg (by omega), if_neg (by omega), if_pos (by omega)]
    unfold St.put
    split
    · rename_i hk
      refine ⟨rfl, hall, by show s.count + 1 = _; rw [hc]; simp [cnt, one, o, hk]; omega, ?_, best_skip hb (by simp [key, o])⟩
      show wplus s.sum (widen x.1.n) = _
      rw [hs]
      simp only [tot, amt, o, hk, true_or, if_true]
      unfold wplus widen M
      omega
    · rename_i hk; exact ⟨rfl, hall, by rw [hc]; simp [cnt, one, o, hk], by rw [hs]; simp [tot, amt, o, hk], best_skip hb (by simp [key, o])⟩
  · rw [if_neg (by omega), if_neg (by omega), if_neg (by omega), if_pos (by omega)]
    unfold St.alone
    split
    · rename_i hk; exact ⟨rfl, hall, by rw [hc]; simp [cnt, one, o], by rw [hs]; simp [tot, amt, o], best_skip hb (by simp [key, o, hk])⟩
    · rename_i hk
      obtain ⟨r1, r2, r3, r4⟩ := take_rest { s with all := s.all + 1 } x.1 zeroVal
      exact ⟨r1, r2.trans hall, by rw [r3, hc]; simp [cnt, one, o], by rw [r4, hs]; simp [tot, amt, o], best_take (s := { s with all := s.all + 1 }) hb (by simp [key, o, hk])⟩
  · rw [if_neg (by omega), if_neg (by omega), if_neg (by omega), if_pos (by omega)]
    unfold St.alone
    split
    · rename_i hk; exact ⟨rfl, hall, by rw [hc]; simp [cnt, one, o], by rw [hs]; simp [tot, amt, o], best_skip hb (by simp [key, o, hk])⟩
    · rename_i hk
      obtain ⟨r1, r2, r3, r4⟩ := take_rest { s with all := s.all + 1 } x.1 zeroVal
      exact ⟨r1, r2.trans hall, by rw [r3, hc]; simp [cnt, one, o], by rw [r4, hs]; simp [tot, amt, o], best_take (s := { s with all := s.all + 1 }) hb (by simp [key, o, hk])⟩
  · rw [if_neg (by omega), if_neg (by omega), if_pos (by omega)]
    unfold St.put
    split
    · rename_i hk
      refine ⟨rfl, hall, by show s.count + 1 = _; rw [hc]; simp [cnt, one, o, hk]; omega, ?_, best_skip hb (by simp [key, o])⟩
      show wplus s.sum (widen x.1.n) = _
      rw [hs]
      simp only [tot, amt, o, hk, or_true, if_true]
      unfold wplus widen M
      omega
    · rename_i hk; exact ⟨rfl, hall, by rw [hc]; simp [cnt, one, o, hk], by rw [hs]; simp [tot, amt, o, hk], best_skip hb (by simp [key, o])⟩
  · rw [if_neg (by omega), if_neg (by omega), if_neg (by omega), if_neg (by omega)]
    unfold St.timed
    split
    · rename_i hk
      obtain ⟨r1, r2, r3, r4⟩ := take_rest { s with all := s.all + 1 } x.1 x.2
      exact ⟨r1, r2.trans hall, by rw [r3, hc]; simp [cnt, one, o], by rw [r4, hs]; simp [tot, amt, o], best_take (s := { s with all := s.all + 1 }) hb (by simp [key, o, hk])⟩
    · rename_i hk; exact ⟨rfl, hall, by rw [hc]; simp [cnt, one, o], by rw [hs]; simp [tot, amt, o], best_skip hb (by simp [key, o, hk])⟩
  · rw [if_neg (by omega), if_neg (by omega), if_neg (by omega), if_neg (by omega)]
    unfold St.timed
    split
    · rename_i hk
      obtain ⟨r1, r2, r3, r4⟩ := take_rest { s with all := s.all + 1 } x.1 x.2
      exact ⟨r1, r2.trans hall, by rw [r3, hc]; simp [cnt, one, o], by rw [r4, hs]; simp [tot, amt, o], best_take (s := { s with all := s.all + 1 }) hb (by simp [key, o, hk])⟩
    · rename_i hk; exact ⟨rfl, hall, by rw [hc]; simp [cnt, one, o], by rw [hs]; simp [tot, amt, o], best_skip hb (by simp [key, o, hk])⟩

theorem Rep.feeds {op : Int} (h0 : 21 ≤ op) (h1 : op ≤ 28) : ∀ (m : List (Val × Val)) {s : St} {l : List (Val × Val)}, Rep op s l → Rep op (s.feeds m) (l ++ m)
  | [], s, l, h => by simpa [St.feeds] using h
  | x :: m, s, l, h => by
    have h2 := (show Rep op _ ([x] ++ l) from h.feed h0 h1 x).turn
    have := Rep.feeds h0 h1 m h2
    simpa [St.feeds] using this
theorem rep_fed {op : Int} (h0 : 21 ≤ op) (h1 : op ≤ 28) (l : List (Val × Val)) : Rep op (fedSt op l) l := by have := Rep.feeds h0 h1 l (rep_new op); rwa [List.nil_append] at this

theorem Rep.add {op : Int} {s o : St} {l m : List (Val × Val)} (h : Rep op s l) (ho : Rep op o m) : Rep op (s.add o) (l ++ m) := by
  have hsum : wplus s.sum o.sum = tot op (l ++ m) % (M * M) := by rw [h.sum, ho.sum, tot_app]; unfold wplus M; omega
  have hcount : s.count + o.count = cnt op (l ++ m) := by rw [h.count, ho.count, cnt_app]
  have hall : s.all + o.all = ((l ++ m).length : Nat) := by rw [h.all, ho.all]; simp
  have hk : ∀ y, keys op (l ++ m) y ↔ keys op l y ∨ keys op m y := fun y => by
    simp only [keys, List.mem_append]
    constructor
    · rintro ⟨x, h | h, e⟩
      · exact .inl ⟨x, h, e⟩
      · exact .inr ⟨x, h, e⟩
    · rintro (⟨x, h, e⟩ | ⟨x, h, e⟩)
      · exact ⟨x, .inl h, e⟩
      · exact ⟨x, .inr h, e⟩
  unfold St.add
  cases hf : o.found
  · simp only [Bool.false_eq_true, if_false]
    have hb := ho.best
    rw [hf] at hb
    rcases hb with ⟨_, _, _, hn⟩ | ⟨hn, _⟩
    · exact ⟨h.kind, hall, hcount, hsum, h.best.iff fun y => by rw [hk]; simp [hn y]⟩
    · cases hn
  · simp only [if_true]
    obtain ⟨r1, r2, r3, r4⟩ := take_rest (s.sums o) o.a o.b
    have hb := ho.best
    rw [hf] at hb
    obtain ⟨rfl, _, _, _, hb1⟩ := h
    exact ⟨r1, r2.trans hall, r3.trans hcount, r4.trans hsum, Best.join (s := s.sums o) hb1 hb hk⟩
end Go.Proofs.Ytjpgahfabmgpiaa
