/- AggNulls: what a pair that plays no part leaves; the walk. -/
import Derived.Test.YtjpgahfabmgpiaaPlain
import Derived.Test.YtjpgahfabmgpiaaOpen
namespace Go.Proofs.Ytjpgahfabmgpiaa
open Go.ChangeShapes Go.WideShapes Go.ChangeAt Go.RowKit
set_option linter.unusedVariables false
set_option linter.unusedSimpArgs false

theorem AnsIs.like {s s' : St} {v : Val} {err : Int} (h : AnsIs s v err) (ho : s'.op = s.op) (ha : s.op = 21 → s'.all = s.all) (hc : s'.count = s.count) (hs : s'.sum = s.sum) (hb : s'.a = s.a) : AnsIs s' v err := by
  unfold AnsIs MeanIs St.total at *
  rw [ho, hc, hs, hb]
  by_cases h1 : s.op = 21
  · rw [if_pos h1] at *; rw [ha h1]; exact h
  · rw [if_neg h1] at *; exact h

theorem ans_feed {op : Int} (h0 : 21 ≤ op) (h1 : op ≤ 28) (h21 : op ≠ 21) {l : List (Val × Val)} {s : St} (r : Rep op s l) {v : Val} {err : Int} (h : AnsIs s v err) (y : Val × Val) (hone : one op y = 0) (hamt : amt op y = 0) (hkey : key op y = none ∨ y ∈ l) : AnsIs (s.feed y.1 y.2) v err := by
  have r2 := r.feed h0 h1 y
  have hb : Best op s.found s.a s.b (keys op (y :: l)) := by
    refine r.best.iff fun z => ?_
    rw [keys_cons]
    constructor
    · rintro (h | h)
      · exact h
      · rcases hkey with hk | hk
        · rw [hk] at h; cases h
        · exact ⟨y, hk, h⟩
    · exact .inl
  refine h.like (r2.kind.trans r.kind.symm) (fun e => absurd (r.kind.symm.trans e) h21) ?_ ?_ (r2.best.same hb).2.1
  · rw [r2.count, r.count]; simp [cnt, hone]
  · rw [r2.sum, r.sum]; simp [tot, hamt]
theorem ans_all {op : Int} (ho : op = 21) {l : List (Val × Val)} {s : St} (r : Rep op s l) : AnsIs s (num l.length) 0 := by
  unfold AnsIs
  rw [if_pos (r.kind.trans ho), r.all]
  exact ⟨rfl, rfl⟩
theorem cnt_bd (op : Int) : ∀ l : List (Val × Val), 0 ≤ cnt op l ∧ cnt op l ≤ l.length
  | [] => by simp [cnt]
  | x :: l => by
    have h := cnt_bd op l
    have h1 : 0 ≤ one op x ∧ one op x ≤ 1 := by unfold one; split <;> (try split) <;> (try split) <;> omega
    simp only [cnt, List.length_cons]
    omega
theorem rep_ok {op : Int} (h0 : 21 ≤ op) (h1 : op ≤ 28) {l : List (Val × Val)} {s : St} (r : Rep op s l) (hl : l.length ≤ 1000000) : s.Ok := by
  have := cnt_bd op l
  have := r.count
  have := r.all
  have hs := r.sum
  refine ⟨by rw [r.kind]; exact h0, by rw [r.kind]; exact h1, by omega, by omega, by omega, by omega, ?_, ?_⟩
  · rw [hs]; unfold M; omega
  · rw [hs]; unfold M; omega
/-- a state of pairs answers something -/
theorem rep_ans {op : Int} (h0 : 21 ≤ op) (h1 : op ≤ 28) {l : List (Val × Val)} {s : St} (r : Rep op s l) (hl : l.length ≤ 300) : ∃ v err, AnsIs s v err := by
  have := cnt_bd op l
  have := r.count
  exact ans_is s (rep_ok h0 h1 r (by omega)) (by omega)

/-- a pair laid into a block -/
def setPair (W : World) (g : Nat) (y : Val × Val) : World := (((((W.setCell ⟨g, 0, none⟩ (.int .u8 y.1.k)).setCell ⟨g, 1, none⟩ (.int .i64 y.1.n)).setCell ⟨g, 2, none⟩ (.string y.1.s)).setCell ⟨g, 3, none⟩ (.int .u8 y.2.k)).setCell ⟨g, 4, none⟩ (.int .i64 y.2.n)).setCell ⟨g, 5, none⟩ (.string y.2.s)
theorem setPair_far {W : World} {q : Nat} {ty : TypeId} {cs : Array Value} (h : Blk W q ty cs) {g : Nat} (hg : q ≠ g) (y : Val × Val) : Blk (setPair W g y) q ty cs :=
  (((((h.far (p := ⟨g, 0, none⟩) hg _).far (p := ⟨g, 1, none⟩) hg _).far (p := ⟨g, 2, none⟩) hg _).far (p := ⟨g, 3, none⟩) hg _).far (p := ⟨g, 4, none⟩) hg _).far (p := ⟨g, 5, none⟩) hg _
theorem setPair_below {B : Nat} {w W : World} (h : Below B w W) {g : Nat} (hg : B ≤ g) (y : Val × Val) : Below B w (setPair W g y) :=
  (((((h.setCell (p := ⟨g, 0, none⟩) hg _).setCell (p := ⟨g, 1, none⟩) hg _).setCell (p := ⟨g, 2, none⟩) hg _).setCell (p := ⟨g, 3, none⟩) hg _).setCell (p := ⟨g, 4, none⟩) hg _).setCell (p := ⟨g, 5, none⟩) hg _

def NullPost (w : World) (e : Ending) (w' : World) : Prop := e = .returned (.bool true) ∧ Below w.heap.size w w'

set_option maxHeartbeats 4000000 in
set_option maxRecDepth 100000 in
theorem nulls_any (op : Int) (A : Option Addr) (c : Nat) (l : List (Val × Val)) (k : Int) (b : Val) (w : World) (h : RP w w.heap.size A l) (hv : ∀ x ∈ l, x.1.Ok) (hb : b.Ok) (hk0 : -9223372036854775808 ≤ k) (hk1 : k ≤ 9223372036854775807) :
    Calls Try.prog 4 #[.int .u8 op, .slice A l.length c, .int .i64 k, .agg #[.int .u8 b.k, .int .i64 b.n, .string b.s]] w fun e w' => e = .returned (.bool true) ∧ Below w.heap.size w w' := by
  have HV := Lib.hid hv
  have HB := Lib.hid hb
  have HRP := Lib.hid h
  clear hv hb h
  go_enter Try.func4, Try.ntmps4
  go_wp2_with fail
  have hX := Blk.new w 26 #[.int .u8 b.k, .int .i64 b.n, .string b.s]
  have b0 := later_new w (.cells #[.int .u8 b.k, .int .i64 b.n, .string b.s] 26)
  generalize w.alloc (.cells #[.int .u8 b.k, .int .i64 b.n, .string b.s] 26) = w0 at *
  refine (great_any A c l _ ((HRP.out.below b0).more b0.size)).mono ?_
  rintro e w1 ⟨big, rfl, hsmall, b1⟩
  have b2 := Later.then b0 b1
  replace hX := hX.later b1
  have HS := Lib.hid hsmall
  clear b0 b1 hsmall
  rcases (by cases big <;> simp : big = true ∨ big = false) with rfl | rfl
  · go_wp2_with fail
    refine (wakes_any _).mono ?_
    rintro e w7 ⟨rfl, b7⟩
    go_wp2_with fail
    go_ret
    exact ⟨rfl, Later.then b2 b7⟩
  have hl := HS.out rfl
  clear HS
  cases hop : isAgg op
  · have his := is_any op
    rw [hop] at his
    have HIS := Lib.hid his
    clear his
    go_wp2_with fail
    refine (HIS.out _).mono ?_
    rintro e w3 ⟨rfl, b3⟩
    have b4 := Later.then b2 b3
    clear b2
    go_wp2_with fail
    refine (wakes_any _).mono ?_
    rintro e w7 ⟨rfl, b7⟩
    go_wp2_with fail
    go_ret
    exact ⟨rfl, Later.then b4 b7⟩
  have his := is_any op
  rw [hop] at his
  have HIS := Lib.hid his
  clear his
  go_wp2_with fail
  refine (HIS.out _).mono ?_
  rintro e w3 ⟨rfl, b3⟩
  have b4 := Later.then b2 b3
  replace hX := hX.later b3
  have cX := val_cells hX
  clear b2 b3 HIS
  by_cases hbs : (300 : Int) < (b.s.size : Int)
  · have d1 : decide ((300 : Int) < (b.s.size : Int)) = true := by simpa using hbs
    clear hbs
    go_wp2_with fail
    refine (wakes_any _).mono ?_
    rintro e w7 ⟨rfl, b7⟩
    go_wp2_with fail
    go_ret
    exact ⟨rfl, Later.then b4 b7⟩
  have d1 : decide ((300 : Int) < (b.s.size : Int)) = false := by simpa using hbs
  clear hbs
  go_wp2_with fail
  refine (fed_any op A c l _ hop ((HRP.out.below b4).more b4.size) (by omega) HV.out).mono ?_
  rintro e w5 ⟨p, hp, rfl, hS, b5⟩
  replace hX := hX.later b5
  have b6 := Later.then b4 b5
  have hop2 : 21 ≤ op ∧ op ≤ 28 := by simpa [isAgg] using hop
  have hrep := rep_fed hop2.1 hop2.2 l
  generalize fedSt op l = s at *
  have hp2 : w.heap.size ≤ p := Nat.le_trans b4.size hp
  have HR := Lib.hid hrep
  have hok := rep_ok hop2.1 hop2.2 hrep (by omega)
  obtain ⟨v, err, hans⟩ := rep_ans hop2.1 hop2.2 hrep hl
  have HA := Lib.hid hans
  have HOK := Lib.hid hok
  clear b4 b5 cX d1 hp hrep hok hans hop
  go_wp2_with fail
  refine (answer_any p s v err _ hS HOK.out HA.out).mono ?_
  rintro e w7 ⟨rfl, b7⟩
  replace hX := hX.later b7
  replace hS := Blk.later hS b7
  have b8 := Later.then b6 b7
  clear b6 b7
  unfold ansV
  have cX := val_cells (hX.later (later_new w7 (.cells #[.int .u8 v.k, .int .i64 v.n, .string v.s] 26)))
  have hcases : op = 21 ∨ op = 22 ∨ op = 23 ∨ op = 26 ∨ op = 27 ∨ op = 28 ∨ op = 24 ∨ op = 25 := by omega
  -- CASES
  have hpg : p < w7.heap.size := Blk.lt hS
  have hwg : w.heap.size ≤ w7.heap.size := b8.size
  rcases hcases with rfl | rfl | rfl | rfl | rfl | rfl | rfl | rfl
  · go_wp2_with fail
    have hV := (Blk.new w7 26 #[.int .u8 v.k, .int .i64 v.n, .string v.s]).alloc (.cells #[.int .u8 0, .int .i64 0, .string ⟨#[]⟩, .int .u8 b.k, .int .i64 b.n, .string b.s] 29)
    replace hS := (Blk.alloc hS (.cells #[.int .u8 v.k, .int .i64 v.n, .string v.s] 26)).alloc (.cells #[.int .u8 0, .int .i64 0, .string ⟨#[]⟩, .int .u8 b.k, .int .i64 b.n, .string b.s] 29)
    replace hX := (hX.alloc (.cells #[.int .u8 v.k, .int .i64 v.n, .string v.s] 26)).alloc (.cells #[.int .u8 0, .int .i64 0, .string ⟨#[]⟩, .int .u8 b.k, .int .i64 b.n, .string b.s] 29)
    have b9 := Later.then (Later.then b8 (later_new w7 (.cells #[.int .u8 v.k, .int .i64 v.n, .string v.s] 26))) (later_new _ (.cells #[.int .u8 0, .int .i64 0, .string ⟨#[]⟩, .int .u8 b.k, .int .i64 b.n, .string b.s] 29))
    have hP := Blk.new (w7.alloc (.cells #[.int .u8 v.k, .int .i64 v.n, .string v.s] 26)) 29 #[.int .u8 0, .int .i64 0, .string ⟨#[]⟩, .int .u8 b.k, .int .i64 b.n, .string b.s]
    rw [World.size_alloc] at hP
    clear b8 cX
    generalize (w7.alloc (.cells #[.int .u8 v.k, .int .i64 v.n, .string v.s] 26)).alloc (.cells #[.int .u8 0, .int .i64 0, .string ⟨#[]⟩, .int .u8 b.k, .int .i64 b.n, .string b.s] 29) = W9 at *
    generalize w7.heap.size = g at *

    have hrep2 := HR.out.feed hop2.1 hop2.2 (zeroVal, b)
    have hok2 := Lib.hid (rep_ok hop2.1 hop2.2 hrep2 (by simp only [List.length_cons]; omega))

    have hans1 : v = num l.length ∧ err = 0 := by have := HA.out; unfold AnsIs at this; rw [if_pos HR.out.kind, HR.out.all] at this; exact this
    have hans2 : Hid (AnsIs (s.feed (zeroVal, b).1 (zeroVal, b).2) (num ((l.length : Int) + 1)) 0) := by have := ans_all rfl hrep2; simp only [List.length_cons] at this; exact this

    have hall : s.all < 4611686018427387904 := by rw [HR.out.all]; omega
    refine (feed_any p s (zeroVal, b).1 (zeroVal, b).2 _ hS HOK.out hall (by unfold Val.Ok zeroVal; simp)).mono ?_
    rintro e w10 ⟨rfl, hS2, hg2⟩
    replace hV := hV.grown hg2 (fun e => by injection e with e; omega)
    replace b9 := b9.trans (below_grown hg2 b9.size hp2)
    clear hg2 hS hX HR HA HOK hrep2 hP
    generalize s.feed (zeroVal, b).1 (zeroVal, b).2 = s2 at *
    go_wp2_with fail
    refine (answer_any p s2 (num ((l.length : Int) + 1)) 0 _ hS2 hok2.out hans2.out).mono ?_
    rintro e w11 ⟨rfl, b11⟩
    replace hV := hV.later b11
    replace b9 := Later.then b9 b11
    clear b11 hS2 hok2 hans2
    unfold ansV

    obtain ⟨rfl, rfl⟩ := hans1
    unfold num at hV ⊢

    have cV := val_cells (hV.alloc (.cells #[.int .u8 2, .int .i64 ((l.length : Int) + 1), .string ByteArray.empty] 26))
    have cV2 := val_cells (Blk.new w11 26 #[.int .u8 2, .int .i64 ((l.length : Int) + 1), .string ByteArray.empty])
    have b12 := Later.then b9 (later_new w11 (.cells #[.int .u8 2, .int .i64 ((l.length : Int) + 1), .string ByteArray.empty] 26))
    clear hV b9
    go_wp2_with fail
    refine (wakes_any _).mono ?_
    rintro e w12 ⟨rfl, b13⟩
    go_wp2_with fail
    go_ret
    exact ⟨rfl, Later.then b12 b13⟩
  · go_wp2_with fail
    have hV := (Blk.new w7 26 #[.int .u8 v.k, .int .i64 v.n, .string v.s]).alloc (.cells #[.int .u8 0, .int .i64 0, .string ⟨#[]⟩, .int .u8 b.k, .int .i64 b.n, .string b.s] 29)
    replace hS := (Blk.alloc hS (.cells #[.int .u8 v.k, .int .i64 v.n, .string v.s] 26)).alloc (.cells #[.int .u8 0, .int .i64 0, .string ⟨#[]⟩, .int .u8 b.k, .int .i64 b.n, .string b.s] 29)
    replace hX := (hX.alloc (.cells #[.int .u8 v.k, .int .i64 v.n, .string v.s] 26)).alloc (.cells #[.int .u8 0, .int .i64 0, .string ⟨#[]⟩, .int .u8 b.k, .int .i64 b.n, .string b.s] 29)
    have b9 := Later.then (Later.then b8 (later_new w7 (.cells #[.int .u8 v.k, .int .i64 v.n, .string v.s] 26))) (later_new _ (.cells #[.int .u8 0, .int .i64 0, .string ⟨#[]⟩, .int .u8 b.k, .int .i64 b.n, .string b.s] 29))
    have hP := Blk.new (w7.alloc (.cells #[.int .u8 v.k, .int .i64 v.n, .string v.s] 26)) 29 #[.int .u8 0, .int .i64 0, .string ⟨#[]⟩, .int .u8 b.k, .int .i64 b.n, .string b.s]
    rw [World.size_alloc] at hP
    clear b8 cX
    generalize (w7.alloc (.cells #[.int .u8 v.k, .int .i64 v.n, .string v.s] 26)).alloc (.cells #[.int .u8 0, .int .i64 0, .string ⟨#[]⟩, .int .u8 b.k, .int .i64 b.n, .string b.s] 29) = W9 at *
    generalize w7.heap.size = g at *

    have hrep2 := HR.out.feed hop2.1 hop2.2 (zeroVal, b)
    have hok2 := Lib.hid (rep_ok hop2.1 hop2.2 hrep2 (by simp only [List.length_cons]; omega))

    have hans2 := Lib.hid (ans_feed hop2.1 hop2.2 (by decide) HR.out HA.out (zeroVal, b) (by simp [one, zeroVal]) (by simp [amt, zeroVal]) (by simp [key, zeroVal]))

    have hall : s.all < 4611686018427387904 := by rw [HR.out.all]; omega
    refine (feed_any p s (zeroVal, b).1 (zeroVal, b).2 _ hS HOK.out hall (by unfold Val.Ok zeroVal; simp)).mono ?_
    rintro e w10 ⟨rfl, hS2, hg2⟩
    replace hV := hV.grown hg2 (fun e => by injection e with e; omega)
    replace b9 := b9.trans (below_grown hg2 b9.size hp2)
    clear hg2 hS hX HR HA HOK hrep2 hP
    generalize s.feed (zeroVal, b).1 (zeroVal, b).2 = s2 at *
    go_wp2_with fail
    refine (answer_any p s2 v err _ hS2 hok2.out hans2.out).mono ?_
    rintro e w11 ⟨rfl, b11⟩
    replace hV := hV.later b11
    replace b9 := Later.then b9 b11
    clear b11 hS2 hok2 hans2
    unfold ansV

    have cV := val_cells (hV.alloc (.cells #[.int .u8 v.k, .int .i64 v.n, .string v.s] 26))
    have cV2 := val_cells (Blk.new w11 26 #[.int .u8 v.k, .int .i64 v.n, .string v.s])
    have b12 := Later.then b9 (later_new w11 (.cells #[.int .u8 v.k, .int .i64 v.n, .string v.s] 26))
    clear hV b9
    go_wp2_with fail
    refine (wakes_any _).mono ?_
    rintro e w12 ⟨rfl, b13⟩
    go_wp2_with fail
    go_ret
    exact ⟨rfl, Later.then b12 b13⟩
  · go_wp2_with fail
    have hV := (Blk.new w7 26 #[.int .u8 v.k, .int .i64 v.n, .string v.s]).alloc (.cells #[.int .u8 0, .int .i64 0, .string ⟨#[]⟩, .int .u8 b.k, .int .i64 b.n, .string b.s] 29)
    replace hS := (Blk.alloc hS (.cells #[.int .u8 v.k, .int .i64 v.n, .string v.s] 26)).alloc (.cells #[.int .u8 0, .int .i64 0, .string ⟨#[]⟩, .int .u8 b.k, .int .i64 b.n, .string b.s] 29)
    replace hX := (hX.alloc (.cells #[.int .u8 v.k, .int .i64 v.n, .string v.s] 26)).alloc (.cells #[.int .u8 0, .int .i64 0, .string ⟨#[]⟩, .int .u8 b.k, .int .i64 b.n, .string b.s] 29)
    have b9 := Later.then (Later.then b8 (later_new w7 (.cells #[.int .u8 v.k, .int .i64 v.n, .string v.s] 26))) (later_new _ (.cells #[.int .u8 0, .int .i64 0, .string ⟨#[]⟩, .int .u8 b.k, .int .i64 b.n, .string b.s] 29))
    have hP := Blk.new (w7.alloc (.cells #[.int .u8 v.k, .int .i64 v.n, .string v.s] 26)) 29 #[.int .u8 0, .int .i64 0, .string ⟨#[]⟩, .int .u8 b.k, .int .i64 b.n, .string b.s]
    rw [World.size_alloc] at hP
    clear b8 cX
    generalize (w7.alloc (.cells #[.int .u8 v.k, .int .i64 v.n, .string v.s] 26)).alloc (.cells #[.int .u8 0, .int .i64 0, .string ⟨#[]⟩, .int .u8 b.k, .int .i64 b.n, .string b.s] 29) = W9 at *
    generalize w7.heap.size = g at *

    have hrep2 := HR.out.feed hop2.1 hop2.2 (zeroVal, b)
    have hok2 := Lib.hid (rep_ok hop2.1 hop2.2 hrep2 (by simp only [List.length_cons]; omega))

    have hans2 := Lib.hid (ans_feed hop2.1 hop2.2 (by decide) HR.out HA.out (zeroVal, b) (by simp [one, zeroVal]) (by simp [amt, zeroVal]) (by simp [key, zeroVal]))

    have hall : s.all < 4611686018427387904 := by rw [HR.out.all]; omega
    refine (feed_any p s (zeroVal, b).1 (zeroVal, b).2 _ hS HOK.out hall (by unfold Val.Ok zeroVal; simp)).mono ?_
    rintro e w10 ⟨rfl, hS2, hg2⟩
    replace hV := hV.grown hg2 (fun e => by injection e with e; omega)
    replace b9 := b9.trans (below_grown hg2 b9.size hp2)
    clear hg2 hS hX HR HA HOK hrep2 hP
    generalize s.feed (zeroVal, b).1 (zeroVal, b).2 = s2 at *
    go_wp2_with fail
    refine (answer_any p s2 v err _ hS2 hok2.out hans2.out).mono ?_
    rintro e w11 ⟨rfl, b11⟩
    replace hV := hV.later b11
    replace b9 := Later.then b9 b11
    clear b11 hS2 hok2 hans2
    unfold ansV

    have cV := val_cells (hV.alloc (.cells #[.int .u8 v.k, .int .i64 v.n, .string v.s] 26))
    have cV2 := val_cells (Blk.new w11 26 #[.int .u8 v.k, .int .i64 v.n, .string v.s])
    have b12 := Later.then b9 (later_new w11 (.cells #[.int .u8 v.k, .int .i64 v.n, .string v.s] 26))
    clear hV b9
    go_wp2_with fail
    refine (wakes_any _).mono ?_
    rintro e w12 ⟨rfl, b13⟩
    go_wp2_with fail
    go_ret
    exact ⟨rfl, Later.then b12 b13⟩
  · go_wp2_with fail
    have hV := (Blk.new w7 26 #[.int .u8 v.k, .int .i64 v.n, .string v.s]).alloc (.cells #[.int .u8 0, .int .i64 0, .string ⟨#[]⟩, .int .u8 b.k, .int .i64 b.n, .string b.s] 29)
    replace hS := (Blk.alloc hS (.cells #[.int .u8 v.k, .int .i64 v.n, .string v.s] 26)).alloc (.cells #[.int .u8 0, .int .i64 0, .string ⟨#[]⟩, .int .u8 b.k, .int .i64 b.n, .string b.s] 29)
    replace hX := (hX.alloc (.cells #[.int .u8 v.k, .int .i64 v.n, .string v.s] 26)).alloc (.cells #[.int .u8 0, .int .i64 0, .string ⟨#[]⟩, .int .u8 b.k, .int .i64 b.n, .string b.s] 29)
    have b9 := Later.then (Later.then b8 (later_new w7 (.cells #[.int .u8 v.k, .int .i64 v.n, .string v.s] 26))) (later_new _ (.cells #[.int .u8 0, .int .i64 0, .string ⟨#[]⟩, .int .u8 b.k, .int .i64 b.n, .string b.s] 29))
    have hP := Blk.new (w7.alloc (.cells #[.int .u8 v.k, .int .i64 v.n, .string v.s] 26)) 29 #[.int .u8 0, .int .i64 0, .string ⟨#[]⟩, .int .u8 b.k, .int .i64 b.n, .string b.s]
    rw [World.size_alloc] at hP
    clear b8 cX
    generalize (w7.alloc (.cells #[.int .u8 v.k, .int .i64 v.n, .string v.s] 26)).alloc (.cells #[.int .u8 0, .int .i64 0, .string ⟨#[]⟩, .int .u8 b.k, .int .i64 b.n, .string b.s] 29) = W9 at *
    generalize w7.heap.size = g at *

    have hrep2 := HR.out.feed hop2.1 hop2.2 (zeroVal, b)
    have hok2 := Lib.hid (rep_ok hop2.1 hop2.2 hrep2 (by simp only [List.length_cons]; omega))

    have hans2 := Lib.hid (ans_feed hop2.1 hop2.2 (by decide) HR.out HA.out (zeroVal, b) (by simp [one, zeroVal]) (by simp [amt, zeroVal]) (by simp [key, zeroVal]))

    have hall : s.all < 4611686018427387904 := by rw [HR.out.all]; omega
    refine (feed_any p s (zeroVal, b).1 (zeroVal, b).2 _ hS HOK.out hall (by unfold Val.Ok zeroVal; simp)).mono ?_
    rintro e w10 ⟨rfl, hS2, hg2⟩
    replace hV := hV.grown hg2 (fun e => by injection e with e; omega)
    replace b9 := b9.trans (below_grown hg2 b9.size hp2)
    clear hg2 hS hX HR HA HOK hrep2 hP
    generalize s.feed (zeroVal, b).1 (zeroVal, b).2 = s2 at *
    go_wp2_with fail
    refine (answer_any p s2 v err _ hS2 hok2.out hans2.out).mono ?_
    rintro e w11 ⟨rfl, b11⟩
    replace hV := hV.later b11
    replace b9 := Later.then b9 b11
    clear b11 hS2 hok2 hans2
    unfold ansV

    have cV := val_cells (hV.alloc (.cells #[.int .u8 v.k, .int .i64 v.n, .string v.s] 26))
    have cV2 := val_cells (Blk.new w11 26 #[.int .u8 v.k, .int .i64 v.n, .string v.s])
    have b12 := Later.then b9 (later_new w11 (.cells #[.int .u8 v.k, .int .i64 v.n, .string v.s] 26))
    clear hV b9
    go_wp2_with fail
    refine (wakes_any _).mono ?_
    rintro e w12 ⟨rfl, b13⟩
    go_wp2_with fail
    go_ret
    exact ⟨rfl, Later.then b12 b13⟩
  · have cX2 := val_cells ((hX.alloc (.cells #[.int .u8 v.k, .int .i64 v.n, .string v.s] 26)).alloc (.cells #[.int .u8 0, .int .i64 0, .string ⟨#[]⟩, .int .u8 b.k, .int .i64 b.n, .string b.s] 29))
    have hQq := Blk.new (w7.alloc (.cells #[.int .u8 v.k, .int .i64 v.n, .string v.s] 26)) 29 #[.int .u8 0, .int .i64 0, .string ⟨#[]⟩, .int .u8 b.k, .int .i64 b.n, .string b.s]
    rw [World.size_alloc] at hQq
    have fP := hQq.frozen
    have cP : PairAt _ _ 0 (zeroVal, b) := pairAt_of hQq 0 (zeroVal, b) rfl rfl rfl rfl rfl rfl
    unfold PairAt at cP

    go_wp2_with fail
    have hV := (Blk.new w7 26 #[.int .u8 v.k, .int .i64 v.n, .string v.s]).alloc (.cells #[.int .u8 b.k, .int .i64 b.n, .string b.s, .int .u8 0, .int .i64 0, .string ⟨#[]⟩] 29)
    replace hS := (Blk.alloc hS (.cells #[.int .u8 v.k, .int .i64 v.n, .string v.s] 26)).alloc (.cells #[.int .u8 b.k, .int .i64 b.n, .string b.s, .int .u8 0, .int .i64 0, .string ⟨#[]⟩] 29)
    replace hX := (hX.alloc (.cells #[.int .u8 v.k, .int .i64 v.n, .string v.s] 26)).alloc (.cells #[.int .u8 b.k, .int .i64 b.n, .string b.s, .int .u8 0, .int .i64 0, .string ⟨#[]⟩] 29)
    have b9 := Later.then (Later.then b8 (later_new w7 (.cells #[.int .u8 v.k, .int .i64 v.n, .string v.s] 26))) (later_new _ (.cells #[.int .u8 b.k, .int .i64 b.n, .string b.s, .int .u8 0, .int .i64 0, .string ⟨#[]⟩] 29))
    have hP := Blk.new (w7.alloc (.cells #[.int .u8 v.k, .int .i64 v.n, .string v.s] 26)) 29 #[.int .u8 b.k, .int .i64 b.n, .string b.s, .int .u8 0, .int .i64 0, .string ⟨#[]⟩]
    rw [World.size_alloc] at hP
    clear b8 cX cX2 fP cP hQq
    generalize (w7.alloc (.cells #[.int .u8 v.k, .int .i64 v.n, .string v.s] 26)).alloc (.cells #[.int .u8 b.k, .int .i64 b.n, .string b.s, .int .u8 0, .int .i64 0, .string ⟨#[]⟩] 29) = W9 at *
    generalize w7.heap.size = g at *

    have hrep2 := HR.out.feed hop2.1 hop2.2 (b, zeroVal)
    have hok2 := Lib.hid (rep_ok hop2.1 hop2.2 hrep2 (by simp only [List.length_cons]; omega))

    have hans2 := Lib.hid (ans_feed hop2.1 hop2.2 (by decide) HR.out HA.out (b, zeroVal) (by simp [one, zeroVal]) (by simp [amt, zeroVal]) (.inl (by simp [key, zeroVal])))

    have hall : s.all < 4611686018427387904 := by rw [HR.out.all]; omega
    refine (feed_any p s (b, zeroVal).1 (b, zeroVal).2 _ hS HOK.out hall (HB.out)).mono ?_
    rintro e w10 ⟨rfl, hS2, hg2⟩
    replace hV := hV.grown hg2 (fun e => by injection e with e; omega)
    replace b9 := b9.trans (below_grown hg2 b9.size hp2)
    clear hg2 hS hX HR HA HOK hrep2 hP
    generalize s.feed (b, zeroVal).1 (b, zeroVal).2 = s2 at *
    go_wp2_with fail
    refine (answer_any p s2 v err _ hS2 hok2.out hans2.out).mono ?_
    rintro e w11 ⟨rfl, b11⟩
    replace hV := hV.later b11
    replace b9 := Later.then b9 b11
    clear b11 hS2 hok2 hans2
    unfold ansV

    have cV := val_cells (hV.alloc (.cells #[.int .u8 v.k, .int .i64 v.n, .string v.s] 26))
    have cV2 := val_cells (Blk.new w11 26 #[.int .u8 v.k, .int .i64 v.n, .string v.s])
    have b12 := Later.then b9 (later_new w11 (.cells #[.int .u8 v.k, .int .i64 v.n, .string v.s] 26))
    clear hV b9
    go_wp2_with fail
    refine (wakes_any _).mono ?_
    rintro e w12 ⟨rfl, b13⟩
    go_wp2_with fail
    go_ret
    exact ⟨rfl, Later.then b12 b13⟩
  · have cX2 := val_cells ((hX.alloc (.cells #[.int .u8 v.k, .int .i64 v.n, .string v.s] 26)).alloc (.cells #[.int .u8 0, .int .i64 0, .string ⟨#[]⟩, .int .u8 b.k, .int .i64 b.n, .string b.s] 29))
    have hQq := Blk.new (w7.alloc (.cells #[.int .u8 v.k, .int .i64 v.n, .string v.s] 26)) 29 #[.int .u8 0, .int .i64 0, .string ⟨#[]⟩, .int .u8 b.k, .int .i64 b.n, .string b.s]
    rw [World.size_alloc] at hQq
    have fP := hQq.frozen
    have cP : PairAt _ _ 0 (zeroVal, b) := pairAt_of hQq 0 (zeroVal, b) rfl rfl rfl rfl rfl rfl
    unfold PairAt at cP

    go_wp2_with fail
    have hV := (Blk.new w7 26 #[.int .u8 v.k, .int .i64 v.n, .string v.s]).alloc (.cells #[.int .u8 b.k, .int .i64 b.n, .string b.s, .int .u8 0, .int .i64 0, .string ⟨#[]⟩] 29)
    replace hS := (Blk.alloc hS (.cells #[.int .u8 v.k, .int .i64 v.n, .string v.s] 26)).alloc (.cells #[.int .u8 b.k, .int .i64 b.n, .string b.s, .int .u8 0, .int .i64 0, .string ⟨#[]⟩] 29)
    replace hX := (hX.alloc (.cells #[.int .u8 v.k, .int .i64 v.n, .string v.s] 26)).alloc (.cells #[.int .u8 b.k, .int .i64 b.n, .string b.s, .int .u8 0, .int .i64 0, .string ⟨#[]⟩] 29)
    have b9 := Later.then (Later.then b8 (later_new w7 (.cells #[.int .u8 v.k, .int .i64 v.n, .string v.s] 26))) (later_new _ (.cells #[.int .u8 b.k, .int .i64 b.n, .string b.s, .int .u8 0, .int .i64 0, .string ⟨#[]⟩] 29))
    have hP := Blk.new (w7.alloc (.cells #[.int .u8 v.k, .int .i64 v.n, .string v.s] 26)) 29 #[.int .u8 b.k, .int .i64 b.n, .string b.s, .int .u8 0, .int .i64 0, .string ⟨#[]⟩]
    rw [World.size_alloc] at hP
    clear b8 cX cX2 fP cP hQq
    generalize (w7.alloc (.cells #[.int .u8 v.k, .int .i64 v.n, .string v.s] 26)).alloc (.cells #[.int .u8 b.k, .int .i64 b.n, .string b.s, .int .u8 0, .int .i64 0, .string ⟨#[]⟩] 29) = W9 at *
    generalize w7.heap.size = g at *

    have hrep2 := HR.out.feed hop2.1 hop2.2 (b, zeroVal)
    have hok2 := Lib.hid (rep_ok hop2.1 hop2.2 hrep2 (by simp only [List.length_cons]; omega))

    have hans2 := Lib.hid (ans_feed hop2.1 hop2.2 (by decide) HR.out HA.out (b, zeroVal) (by simp [one, zeroVal]) (by simp [amt, zeroVal]) (.inl (by simp [key, zeroVal])))

    have hall : s.all < 4611686018427387904 := by rw [HR.out.all]; omega
    refine (feed_any p s (b, zeroVal).1 (b, zeroVal).2 _ hS HOK.out hall (HB.out)).mono ?_
    rintro e w10 ⟨rfl, hS2, hg2⟩
    replace hV := hV.grown hg2 (fun e => by injection e with e; omega)
    replace b9 := b9.trans (below_grown hg2 b9.size hp2)
    clear hg2 hS hX HR HA HOK hrep2 hP
    generalize s.feed (b, zeroVal).1 (b, zeroVal).2 = s2 at *
    go_wp2_with fail
    refine (answer_any p s2 v err _ hS2 hok2.out hans2.out).mono ?_
    rintro e w11 ⟨rfl, b11⟩
    replace hV := hV.later b11
    replace b9 := Later.then b9 b11
    clear b11 hS2 hok2 hans2
    unfold ansV

    have cV := val_cells (hV.alloc (.cells #[.int .u8 v.k, .int .i64 v.n, .string v.s] 26))
    have cV2 := val_cells (Blk.new w11 26 #[.int .u8 v.k, .int .i64 v.n, .string v.s])
    have b12 := Later.then b9 (later_new w11 (.cells #[.int .u8 v.k, .int .i64 v.n, .string v.s] 26))
    clear hV b9
    go_wp2_with fail
    refine (wakes_any _).mono ?_
    rintro e w12 ⟨rfl, b13⟩
    go_wp2_with fail
    go_ret
    exact ⟨rfl, Later.then b12 b13⟩
  · by_cases hln : (0 : Int) < (l.length : Int)
    · have d2 : decide ((0 : Int) < (l.length : Int)) = true := by simpa using hln
      by_cases hk : (0 : Int) ≤ k
      · have d3 : decide ((0 : Int) ≤ k) = true := by simpa using hk
        have hj : Int.tmod k (l.length : Int) = ((k.toNat % l.length : Nat) : Int) := by
          rw [Int.tmod_eq_emod_of_nonneg hk, Int.natCast_emod, Int.toNat_of_nonneg hk]
        have hjl : k.toNat % l.length < l.length := Nat.mod_lt _ (by omega)
        generalize k.toNat % l.length = j at *
        have hz : ((l.length : Int) == 0) = false := by rw [beq_eq_false_iff_ne]; omega
        obtain ⟨bA, offA, rfl, hbA, hpA⟩ := (HRP.out.below b8).at_ hjl
        have cX2 := val_cells ((hX.alloc (.cells #[.int .u8 v.k, .int .i64 v.n, .string v.s] 26)).alloc (.cells #[.int .u8 0, .int .i64 0, .string ⟨#[]⟩, .int .u8 b.k, .int .i64 b.n, .string b.s] 29))
        have hQq := Blk.new (w7.alloc (.cells #[.int .u8 v.k, .int .i64 v.n, .string v.s] 26)) 29 #[.int .u8 0, .int .i64 0, .string ⟨#[]⟩, .int .u8 b.k, .int .i64 b.n, .string b.s]
        rw [World.size_alloc] at hQq
        have fP := hQq.frozen
        have cP : PairAt _ _ 0 (zeroVal, b) := pairAt_of hQq 0 (zeroVal, b) rfl rfl rfl rfl rfl rfl
        unfold PairAt at cP

        have cPair : PairAt ((w7.alloc (.cells #[.int .u8 v.k, .int .i64 v.n, .string v.s] 26)).alloc (.cells #[.int .u8 0, .int .i64 0, .string ⟨#[]⟩, .int .u8 b.k, .int .i64 b.n, .string b.s] 29)) bA (offA + j * 6) l[j] := hpA.keep fun o => (Later.then (later_new w7 (.cells #[.int .u8 v.k, .int .i64 v.n, .string v.s] 26)) (later_new _ (.cells #[.int .u8 0, .int .i64 0, .string ⟨#[]⟩, .int .u8 b.k, .int .i64 b.n, .string b.s] 29))).cell (p := ⟨bA, o, none⟩) (by have := b8.size; show bA < _; omega)
        unfold PairAt at cPair

        go_wp2_with fail
        have hV := (Blk.new w7 26 #[.int .u8 v.k, .int .i64 v.n, .string v.s]).alloc (.cells #[.int .u8 l[j].1.k, .int .i64 l[j].1.n, .string l[j].1.s, .int .u8 l[j].2.k, .int .i64 l[j].2.n, .string l[j].2.s] 29)
        replace hS := (Blk.alloc hS (.cells #[.int .u8 v.k, .int .i64 v.n, .string v.s] 26)).alloc (.cells #[.int .u8 l[j].1.k, .int .i64 l[j].1.n, .string l[j].1.s, .int .u8 l[j].2.k, .int .i64 l[j].2.n, .string l[j].2.s] 29)
        replace hX := (hX.alloc (.cells #[.int .u8 v.k, .int .i64 v.n, .string v.s] 26)).alloc (.cells #[.int .u8 l[j].1.k, .int .i64 l[j].1.n, .string l[j].1.s, .int .u8 l[j].2.k, .int .i64 l[j].2.n, .string l[j].2.s] 29)
        have b9 := Later.then (Later.then b8 (later_new w7 (.cells #[.int .u8 v.k, .int .i64 v.n, .string v.s] 26))) (later_new _ (.cells #[.int .u8 l[j].1.k, .int .i64 l[j].1.n, .string l[j].1.s, .int .u8 l[j].2.k, .int .i64 l[j].2.n, .string l[j].2.s] 29))
        have hP := Blk.new (w7.alloc (.cells #[.int .u8 v.k, .int .i64 v.n, .string v.s] 26)) 29 #[.int .u8 l[j].1.k, .int .i64 l[j].1.n, .string l[j].1.s, .int .u8 l[j].2.k, .int .i64 l[j].2.n, .string l[j].2.s]
        rw [World.size_alloc] at hP
        clear b8 cX cX2 fP cP hQq cPair
        generalize (w7.alloc (.cells #[.int .u8 v.k, .int .i64 v.n, .string v.s] 26)).alloc (.cells #[.int .u8 l[j].1.k, .int .i64 l[j].1.n, .string l[j].1.s, .int .u8 l[j].2.k, .int .i64 l[j].2.n, .string l[j].2.s] 29) = W9 at *
        generalize w7.heap.size = g at *

        have hrep2 := HR.out.feed hop2.1 hop2.2 l[j]
        have hok2 := Lib.hid (rep_ok hop2.1 hop2.2 hrep2 (by simp only [List.length_cons]; omega))

        have hans2 := Lib.hid (ans_feed hop2.1 hop2.2 (by decide) HR.out HA.out l[j] (by simp [one, zeroVal]) (by simp [amt, zeroVal]) (.inr (List.getElem_mem hjl)))

        have hall : s.all < 4611686018427387904 := by rw [HR.out.all]; omega
        refine (feed_any p s l[j].1 l[j].2 _ hS HOK.out hall (HV.out _ (List.getElem_mem hjl))).mono ?_
        rintro e w10 ⟨rfl, hS2, hg2⟩
        replace hV := hV.grown hg2 (fun e => by injection e with e; omega)
        replace b9 := b9.trans (below_grown hg2 b9.size hp2)
        clear hg2 hS hX HR HA HOK hrep2 hP
        generalize s.feed l[j].1 l[j].2 = s2 at *
        go_wp2_with fail
        refine (answer_any p s2 v err _ hS2 hok2.out hans2.out).mono ?_
        rintro e w11 ⟨rfl, b11⟩
        replace hV := hV.later b11
        replace b9 := Later.then b9 b11
        clear b11 hS2 hok2 hans2
        unfold ansV

        have cV := val_cells (hV.alloc (.cells #[.int .u8 v.k, .int .i64 v.n, .string v.s] 26))
        have cV2 := val_cells (Blk.new w11 26 #[.int .u8 v.k, .int .i64 v.n, .string v.s])
        have b12 := Later.then b9 (later_new w11 (.cells #[.int .u8 v.k, .int .i64 v.n, .string v.s] 26))
        clear hV b9
        go_wp2_with fail
        refine (wakes_any _).mono ?_
        rintro e w12 ⟨rfl, b13⟩
        go_wp2_with fail
        go_ret
        exact ⟨rfl, Later.then b12 b13⟩
      · have d3 : decide ((0 : Int) ≤ k) = false := by simpa using hk
        go_wp2_with fail
        have hV := (Blk.new w7 26 #[.int .u8 v.k, .int .i64 v.n, .string v.s]).alloc (.cells #[.int .u8 0, .int .i64 0, .string ⟨#[]⟩, .int .u8 b.k, .int .i64 b.n, .string b.s] 29)
        replace hS := (Blk.alloc hS (.cells #[.int .u8 v.k, .int .i64 v.n, .string v.s] 26)).alloc (.cells #[.int .u8 0, .int .i64 0, .string ⟨#[]⟩, .int .u8 b.k, .int .i64 b.n, .string b.s] 29)
        replace hX := (hX.alloc (.cells #[.int .u8 v.k, .int .i64 v.n, .string v.s] 26)).alloc (.cells #[.int .u8 0, .int .i64 0, .string ⟨#[]⟩, .int .u8 b.k, .int .i64 b.n, .string b.s] 29)
        have b9 := Later.then (Later.then b8 (later_new w7 (.cells #[.int .u8 v.k, .int .i64 v.n, .string v.s] 26))) (later_new _ (.cells #[.int .u8 0, .int .i64 0, .string ⟨#[]⟩, .int .u8 b.k, .int .i64 b.n, .string b.s] 29))
        have hP := Blk.new (w7.alloc (.cells #[.int .u8 v.k, .int .i64 v.n, .string v.s] 26)) 29 #[.int .u8 0, .int .i64 0, .string ⟨#[]⟩, .int .u8 b.k, .int .i64 b.n, .string b.s]
        rw [World.size_alloc] at hP
        clear b8 cX
        generalize (w7.alloc (.cells #[.int .u8 v.k, .int .i64 v.n, .string v.s] 26)).alloc (.cells #[.int .u8 0, .int .i64 0, .string ⟨#[]⟩, .int .u8 b.k, .int .i64 b.n, .string b.s] 29) = W9 at *
        generalize w7.heap.size = g at *

        have hrep2 := HR.out.feed hop2.1 hop2.2 (zeroVal, b)
        have hok2 := Lib.hid (rep_ok hop2.1 hop2.2 hrep2 (by simp only [List.length_cons]; omega))

        have hans2 := Lib.hid (ans_feed hop2.1 hop2.2 (by decide) HR.out HA.out (zeroVal, b) (by simp [one, zeroVal]) (by simp [amt, zeroVal]) (.inl (by simp [key, zeroVal])))

        have hall : s.all < 4611686018427387904 := by rw [HR.out.all]; omega
        refine (feed_any p s (zeroVal, b).1 (zeroVal, b).2 _ hS HOK.out hall (by unfold Val.Ok zeroVal; simp)).mono ?_
        rintro e w10 ⟨rfl, hS2, hg2⟩
        replace hV := hV.grown hg2 (fun e => by injection e with e; omega)
        replace b9 := b9.trans (below_grown hg2 b9.size hp2)
        clear hg2 hS hX HR HA HOK hrep2 hP
        generalize s.feed (zeroVal, b).1 (zeroVal, b).2 = s2 at *
        go_wp2_with fail
        refine (answer_any p s2 v err _ hS2 hok2.out hans2.out).mono ?_
        rintro e w11 ⟨rfl, b11⟩
        replace hV := hV.later b11
        replace b9 := Later.then b9 b11
        clear b11 hS2 hok2 hans2
        unfold ansV

        have cV := val_cells (hV.alloc (.cells #[.int .u8 v.k, .int .i64 v.n, .string v.s] 26))
        have cV2 := val_cells (Blk.new w11 26 #[.int .u8 v.k, .int .i64 v.n, .string v.s])
        have b12 := Later.then b9 (later_new w11 (.cells #[.int .u8 v.k, .int .i64 v.n, .string v.s] 26))
        clear hV b9
        go_wp2_with fail
        refine (wakes_any _).mono ?_
        rintro e w12 ⟨rfl, b13⟩
        go_wp2_with fail
        go_ret
        exact ⟨rfl, Later.then b12 b13⟩
    · have d2 : decide ((0 : Int) < (l.length : Int)) = false := by simpa using hln
      go_wp2_with fail
      have hV := (Blk.new w7 26 #[.int .u8 v.k, .int .i64 v.n, .string v.s]).alloc (.cells #[.int .u8 0, .int .i64 0, .string ⟨#[]⟩, .int .u8 b.k, .int .i64 b.n, .string b.s] 29)
      replace hS := (Blk.alloc hS (.cells #[.int .u8 v.k, .int .i64 v.n, .string v.s] 26)).alloc (.cells #[.int .u8 0, .int .i64 0, .string ⟨#[]⟩, .int .u8 b.k, .int .i64 b.n, .string b.s] 29)
      replace hX := (hX.alloc (.cells #[.int .u8 v.k, .int .i64 v.n, .string v.s] 26)).alloc (.cells #[.int .u8 0, .int .i64 0, .string ⟨#[]⟩, .int .u8 b.k, .int .i64 b.n, .string b.s] 29)
      have b9 := Later.then (Later.then b8 (later_new w7 (.cells #[.int .u8 v.k, .int .i64 v.n, .string v.s] 26))) (later_new _ (.cells #[.int .u8 0, .int .i64 0, .string ⟨#[]⟩, .int .u8 b.k, .int .i64 b.n, .string b.s] 29))
      have hP := Blk.new (w7.alloc (.cells #[.int .u8 v.k, .int .i64 v.n, .string v.s] 26)) 29 #[.int .u8 0, .int .i64 0, .string ⟨#[]⟩, .int .u8 b.k, .int .i64 b.n, .string b.s]
      rw [World.size_alloc] at hP
      clear b8 cX
      generalize (w7.alloc (.cells #[.int .u8 v.k, .int .i64 v.n, .string v.s] 26)).alloc (.cells #[.int .u8 0, .int .i64 0, .string ⟨#[]⟩, .int .u8 b.k, .int .i64 b.n, .string b.s] 29) = W9 at *
      generalize w7.heap.size = g at *

      have hrep2 := HR.out.feed hop2.1 hop2.2 (zeroVal, b)
      have hok2 := Lib.hid (rep_ok hop2.1 hop2.2 hrep2 (by simp only [List.length_cons]; omega))

      have hans2 := Lib.hid (ans_feed hop2.1 hop2.2 (by decide) HR.out HA.out (zeroVal, b) (by simp [one, zeroVal]) (by simp [amt, zeroVal]) (.inl (by simp [key, zeroVal])))

      have hall : s.all < 4611686018427387904 := by rw [HR.out.all]; omega
      refine (feed_any p s (zeroVal, b).1 (zeroVal, b).2 _ hS HOK.out hall (by unfold Val.Ok zeroVal; simp)).mono ?_
      rintro e w10 ⟨rfl, hS2, hg2⟩
      replace hV := hV.grown hg2 (fun e => by injection e with e; omega)
      replace b9 := b9.trans (below_grown hg2 b9.size hp2)
      clear hg2 hS hX HR HA HOK hrep2 hP
      generalize s.feed (zeroVal, b).1 (zeroVal, b).2 = s2 at *
      go_wp2_with fail
      refine (answer_any p s2 v err _ hS2 hok2.out hans2.out).mono ?_
      rintro e w11 ⟨rfl, b11⟩
      replace hV := hV.later b11
      replace b9 := Later.then b9 b11
      clear b11 hS2 hok2 hans2
      unfold ansV

      have cV := val_cells (hV.alloc (.cells #[.int .u8 v.k, .int .i64 v.n, .string v.s] 26))
      have cV2 := val_cells (Blk.new w11 26 #[.int .u8 v.k, .int .i64 v.n, .string v.s])
      have b12 := Later.then b9 (later_new w11 (.cells #[.int .u8 v.k, .int .i64 v.n, .string v.s] 26))
      clear hV b9
      go_wp2_with fail
      refine (wakes_any _).mono ?_
      rintro e w12 ⟨rfl, b13⟩
      go_wp2_with fail
      go_ret
      exact ⟨rfl, Later.then b12 b13⟩
  · by_cases hln : (0 : Int) < (l.length : Int)
    · have d2 : decide ((0 : Int) < (l.length : Int)) = true := by simpa using hln
      by_cases hk : (0 : Int) ≤ k
      · have d3 : decide ((0 : Int) ≤ k) = true := by simpa using hk
        have hj : Int.tmod k (l.length : Int) = ((k.toNat % l.length : Nat) : Int) := by
          rw [Int.tmod_eq_emod_of_nonneg hk, Int.natCast_emod, Int.toNat_of_nonneg hk]
        have hjl : k.toNat % l.length < l.length := Nat.mod_lt _ (by omega)
        generalize k.toNat % l.length = j at *
        have hz : ((l.length : Int) == 0) = false := by rw [beq_eq_false_iff_ne]; omega
        obtain ⟨bA, offA, rfl, hbA, hpA⟩ := (HRP.out.below b8).at_ hjl
        have cX2 := val_cells ((hX.alloc (.cells #[.int .u8 v.k, .int .i64 v.n, .string v.s] 26)).alloc (.cells #[.int .u8 0, .int .i64 0, .string ⟨#[]⟩, .int .u8 b.k, .int .i64 b.n, .string b.s] 29))
        have hQq := Blk.new (w7.alloc (.cells #[.int .u8 v.k, .int .i64 v.n, .string v.s] 26)) 29 #[.int .u8 0, .int .i64 0, .string ⟨#[]⟩, .int .u8 b.k, .int .i64 b.n, .string b.s]
        rw [World.size_alloc] at hQq
        have fP := hQq.frozen
        have cP : PairAt _ _ 0 (zeroVal, b) := pairAt_of hQq 0 (zeroVal, b) rfl rfl rfl rfl rfl rfl
        unfold PairAt at cP

        have cPair : PairAt ((w7.alloc (.cells #[.int .u8 v.k, .int .i64 v.n, .string v.s] 26)).alloc (.cells #[.int .u8 0, .int .i64 0, .string ⟨#[]⟩, .int .u8 b.k, .int .i64 b.n, .string b.s] 29)) bA (offA + j * 6) l[j] := hpA.keep fun o => (Later.then (later_new w7 (.cells #[.int .u8 v.k, .int .i64 v.n, .string v.s] 26)) (later_new _ (.cells #[.int .u8 0, .int .i64 0, .string ⟨#[]⟩, .int .u8 b.k, .int .i64 b.n, .string b.s] 29))).cell (p := ⟨bA, o, none⟩) (by have := b8.size; show bA < _; omega)
        unfold PairAt at cPair

        go_wp2_with fail
        have hV := (Blk.new w7 26 #[.int .u8 v.k, .int .i64 v.n, .string v.s]).alloc (.cells #[.int .u8 l[j].1.k, .int .i64 l[j].1.n, .string l[j].1.s, .int .u8 l[j].2.k, .int .i64 l[j].2.n, .string l[j].2.s] 29)
        replace hS := (Blk.alloc hS (.cells #[.int .u8 v.k, .int .i64 v.n, .string v.s] 26)).alloc (.cells #[.int .u8 l[j].1.k, .int .i64 l[j].1.n, .string l[j].1.s, .int .u8 l[j].2.k, .int .i64 l[j].2.n, .string l[j].2.s] 29)
        replace hX := (hX.alloc (.cells #[.int .u8 v.k, .int .i64 v.n, .string v.s] 26)).alloc (.cells #[.int .u8 l[j].1.k, .int .i64 l[j].1.n, .string l[j].1.s, .int .u8 l[j].2.k, .int .i64 l[j].2.n, .string l[j].2.s] 29)
        have b9 := Later.then (Later.then b8 (later_new w7 (.cells #[.int .u8 v.k, .int .i64 v.n, .string v.s] 26))) (later_new _ (.cells #[.int .u8 l[j].1.k, .int .i64 l[j].1.n, .string l[j].1.s, .int .u8 l[j].2.k, .int .i64 l[j].2.n, .string l[j].2.s] 29))
        have hP := Blk.new (w7.alloc (.cells #[.int .u8 v.k, .int .i64 v.n, .string v.s] 26)) 29 #[.int .u8 l[j].1.k, .int .i64 l[j].1.n, .string l[j].1.s, .int .u8 l[j].2.k, .int .i64 l[j].2.n, .string l[j].2.s]
        rw [World.size_alloc] at hP
        clear b8 cX cX2 fP cP hQq cPair
        generalize (w7.alloc (.cells #[.int .u8 v.k, .int .i64 v.n, .string v.s] 26)).alloc (.cells #[.int .u8 l[j].1.k, .int .i64 l[j].1.n, .string l[j].1.s, .int .u8 l[j].2.k, .int .i64 l[j].2.n, .string l[j].2.s] 29) = W9 at *
        generalize w7.heap.size = g at *

        have hrep2 := HR.out.feed hop2.1 hop2.2 l[j]
        have hok2 := Lib.hid (rep_ok hop2.1 hop2.2 hrep2 (by simp only [List.length_cons]; omega))

        have hans2 := Lib.hid (ans_feed hop2.1 hop2.2 (by decide) HR.out HA.out l[j] (by simp [one, zeroVal]) (by simp [amt, zeroVal]) (.inr (List.getElem_mem hjl)))

        have hall : s.all < 4611686018427387904 := by rw [HR.out.all]; omega
        refine (feed_any p s l[j].1 l[j].2 _ hS HOK.out hall (HV.out _ (List.getElem_mem hjl))).mono ?_
        rintro e w10 ⟨rfl, hS2, hg2⟩
        replace hV := hV.grown hg2 (fun e => by injection e with e; omega)
        replace b9 := b9.trans (below_grown hg2 b9.size hp2)
        clear hg2 hS hX HR HA HOK hrep2 hP
        generalize s.feed l[j].1 l[j].2 = s2 at *
        go_wp2_with fail
        refine (answer_any p s2 v err _ hS2 hok2.out hans2.out).mono ?_
        rintro e w11 ⟨rfl, b11⟩
        replace hV := hV.later b11
        replace b9 := Later.then b9 b11
        clear b11 hS2 hok2 hans2
        unfold ansV

        have cV := val_cells (hV.alloc (.cells #[.int .u8 v.k, .int .i64 v.n, .string v.s] 26))
        have cV2 := val_cells (Blk.new w11 26 #[.int .u8 v.k, .int .i64 v.n, .string v.s])
        have b12 := Later.then b9 (later_new w11 (.cells #[.int .u8 v.k, .int .i64 v.n, .string v.s] 26))
        clear hV b9
        go_wp2_with fail
        refine (wakes_any _).mono ?_
        rintro e w12 ⟨rfl, b13⟩
        go_wp2_with fail
        go_ret
        exact ⟨rfl, Later.then b12 b13⟩
      · have d3 : decide ((0 : Int) ≤ k) = false := by simpa using hk
        go_wp2_with fail
        have hV := (Blk.new w7 26 #[.int .u8 v.k, .int .i64 v.n, .string v.s]).alloc (.cells #[.int .u8 0, .int .i64 0, .string ⟨#[]⟩, .int .u8 b.k, .int .i64 b.n, .string b.s] 29)
        replace hS := (Blk.alloc hS (.cells #[.int .u8 v.k, .int .i64 v.n, .string v.s] 26)).alloc (.cells #[.int .u8 0, .int .i64 0, .string ⟨#[]⟩, .int .u8 b.k, .int .i64 b.n, .string b.s] 29)
        replace hX := (hX.alloc (.cells #[.int .u8 v.k, .int .i64 v.n, .string v.s] 26)).alloc (.cells #[.int .u8 0, .int .i64 0, .string ⟨#[]⟩, .int .u8 b.k, .int .i64 b.n, .string b.s] 29)
        have b9 := Later.then (Later.then b8 (later_new w7 (.cells #[.int .u8 v.k, .int .i64 v.n, .string v.s] 26))) (later_new _ (.cells #[.int .u8 0, .int .i64 0, .string ⟨#[]⟩, .int .u8 b.k, .int .i64 b.n, .string b.s] 29))
        have hP := Blk.new (w7.alloc (.cells #[.int .u8 v.k, .int .i64 v.n, .string v.s] 26)) 29 #[.int .u8 0, .int .i64 0, .string ⟨#[]⟩, .int .u8 b.k, .int .i64 b.n, .string b.s]
        rw [World.size_alloc] at hP
        clear b8 cX
        generalize (w7.alloc (.cells #[.int .u8 v.k, .int .i64 v.n, .string v.s] 26)).alloc (.cells #[.int .u8 0, .int .i64 0, .string ⟨#[]⟩, .int .u8 b.k, .int .i64 b.n, .string b.s] 29) = W9 at *
        generalize w7.heap.size = g at *

        have hrep2 := HR.out.feed hop2.1 hop2.2 (zeroVal, b)
        have hok2 := Lib.hid (rep_ok hop2.1 hop2.2 hrep2 (by simp only [List.length_cons]; omega))

        have hans2 := Lib.hid (ans_feed hop2.1 hop2.2 (by decide) HR.out HA.out (zeroVal, b) (by simp [one, zeroVal]) (by simp [amt, zeroVal]) (.inl (by simp [key, zeroVal])))

        have hall : s.all < 4611686018427387904 := by rw [HR.out.all]; omega
        refine (feed_any p s (zeroVal, b).1 (zeroVal, b).2 _ hS HOK.out hall (by unfold Val.Ok zeroVal; simp)).mono ?_
        rintro e w10 ⟨rfl, hS2, hg2⟩
        replace hV := hV.grown hg2 (fun e => by injection e with e; omega)
        replace b9 := b9.trans (below_grown hg2 b9.size hp2)
        clear hg2 hS hX HR HA HOK hrep2 hP
        generalize s.feed (zeroVal, b).1 (zeroVal, b).2 = s2 at *
        go_wp2_with fail
        refine (answer_any p s2 v err _ hS2 hok2.out hans2.out).mono ?_
        rintro e w11 ⟨rfl, b11⟩
        replace hV := hV.later b11
        replace b9 := Later.then b9 b11
        clear b11 hS2 hok2 hans2
        unfold ansV

        have cV := val_cells (hV.alloc (.cells #[.int .u8 v.k, .int .i64 v.n, .string v.s] 26))
        have cV2 := val_cells (Blk.new w11 26 #[.int .u8 v.k, .int .i64 v.n, .string v.s])
        have b12 := Later.then b9 (later_new w11 (.cells #[.int .u8 v.k, .int .i64 v.n, .string v.s] 26))
        clear hV b9
        go_wp2_with fail
        refine (wakes_any _).mono ?_
        rintro e w12 ⟨rfl, b13⟩
        go_wp2_with fail
        go_ret
        exact ⟨rfl, Later.then b12 b13⟩
    · have d2 : decide ((0 : Int) < (l.length : Int)) = false := by simpa using hln
      go_wp2_with fail
      have hV := (Blk.new w7 26 #[.int .u8 v.k, .int .i64 v.n, .string v.s]).alloc (.cells #[.int .u8 0, .int .i64 0, .string ⟨#[]⟩, .int .u8 b.k, .int .i64 b.n, .string b.s] 29)
      replace hS := (Blk.alloc hS (.cells #[.int .u8 v.k, .int .i64 v.n, .string v.s] 26)).alloc (.cells #[.int .u8 0, .int .i64 0, .string ⟨#[]⟩, .int .u8 b.k, .int .i64 b.n, .string b.s] 29)
      replace hX := (hX.alloc (.cells #[.int .u8 v.k, .int .i64 v.n, .string v.s] 26)).alloc (.cells #[.int .u8 0, .int .i64 0, .string ⟨#[]⟩, .int .u8 b.k, .int .i64 b.n, .string b.s] 29)
      have b9 := Later.then (Later.then b8 (later_new w7 (.cells #[.int .u8 v.k, .int .i64 v.n, .string v.s] 26))) (later_new _ (.cells #[.int .u8 0, .int .i64 0, .string ⟨#[]⟩, .int .u8 b.k, .int .i64 b.n, .string b.s] 29))
      have hP := Blk.new (w7.alloc (.cells #[.int .u8 v.k, .int .i64 v.n, .string v.s] 26)) 29 #[.int .u8 0, .int .i64 0, .string ⟨#[]⟩, .int .u8 b.k, .int .i64 b.n, .string b.s]
      rw [World.size_alloc] at hP
      clear b8 cX
      generalize (w7.alloc (.cells #[.int .u8 v.k, .int .i64 v.n, .string v.s] 26)).alloc (.cells #[.int .u8 0, .int .i64 0, .string ⟨#[]⟩, .int .u8 b.k, .int .i64 b.n, .string b.s] 29) = W9 at *
      generalize w7.heap.size = g at *

      have hrep2 := HR.out.feed hop2.1 hop2.2 (zeroVal, b)
      have hok2 := Lib.hid (rep_ok hop2.1 hop2.2 hrep2 (by simp only [List.length_cons]; omega))

      have hans2 := Lib.hid (ans_feed hop2.1 hop2.2 (by decide) HR.out HA.out (zeroVal, b) (by simp [one, zeroVal]) (by simp [amt, zeroVal]) (.inl (by simp [key, zeroVal])))

      have hall : s.all < 4611686018427387904 := by rw [HR.out.all]; omega
      refine (feed_any p s (zeroVal, b).1 (zeroVal, b).2 _ hS HOK.out hall (by unfold Val.Ok zeroVal; simp)).mono ?_
      rintro e w10 ⟨rfl, hS2, hg2⟩
      replace hV := hV.grown hg2 (fun e => by injection e with e; omega)
      replace b9 := b9.trans (below_grown hg2 b9.size hp2)
      clear hg2 hS hX HR HA HOK hrep2 hP
      generalize s.feed (zeroVal, b).1 (zeroVal, b).2 = s2 at *
      go_wp2_with fail
      refine (answer_any p s2 v err _ hS2 hok2.out hans2.out).mono ?_
      rintro e w11 ⟨rfl, b11⟩
      replace hV := hV.later b11
      replace b9 := Later.then b9 b11
      clear b11 hS2 hok2 hans2
      unfold ansV

      have cV := val_cells (hV.alloc (.cells #[.int .u8 v.k, .int .i64 v.n, .string v.s] 26))
      have cV2 := val_cells (Blk.new w11 26 #[.int .u8 v.k, .int .i64 v.n, .string v.s])
      have b12 := Later.then b9 (later_new w11 (.cells #[.int .u8 v.k, .int .i64 v.n, .string v.s] 26))
      clear hV b9
      go_wp2_with fail
      refine (wakes_any _).mono ?_
      rintro e w12 ⟨rfl, b13⟩
      go_wp2_with fail
      go_ret
      exact ⟨rfl, Later.then b12 b13⟩
end Go.Proofs.Ytjpgahfabmgpiaa
