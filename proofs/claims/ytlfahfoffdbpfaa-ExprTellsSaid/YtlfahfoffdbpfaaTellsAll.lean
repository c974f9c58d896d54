/- ExprTells: for every input the law returns true, and each argument reads afterwards as it read before. No condition. The frame of the row; the walk is tells_walk. -/
import Derived.Test.YtlfahfoffdbpfaaSize
import Derived.Test.YtlfahfoffdbpfaaEvRef1
import Derived.Test.YtlfahfoffdbpfaaSafe2
import Derived.Test.YtlfahfoffdbpfaaTrue
import Derived.Test.YtlfahfoffdbpfaaEvRef3
import Derived.Test.YtlfahfoffdbpfaaEvRef3b
import Derived.Test.YtlfahfoffdbpfaaEvalT
import Derived.Test.YtlfahfoffdbpfaaSound
import Derived.Test.YtlfahfoffdbpfaaEvRef4
import Derived.Test.YtlfahfoffdbpfaaEvRef5b
import Derived.Test.YtlfahfoffdbpfaaTyRefT
import Derived.Test.YtlfahfoffdbpfaaWakes15
import Derived.Deep.DeepCutAuto
import Derived.Test.YtlfahfoffdbpfaaOpenT
import Derived.Test.YtlfahfoffdbpfaaRows
import Derived.ProofKit
import Derived.OpenShut
import Derived.ShutString
import Derived.ChangeOld
import Derived.Below
import Derived.Carry
import Derived.SizedLaws
/- expr.Same and tidelineref13.Same of any trees. Printed by gen_same.py. -/
namespace Go.Proofs.Ytlfahfoffdbpfaa
open Go.ChangeShapes Go.WideShapes Go.ChangeAt Go.RowKit
set_option linter.unusedVariables false
set_option linter.unusedSimpArgs false

def headB (y z : Ex) : Bool := y.op == z.op && ((y.v.k == z.v.k && (y.v.n == z.v.n && y.v.s.toList == z.v.s.toList)) && (y.name.toList == z.name.toList && y.width == z.width))
mutual
def Tr.same : Tr → Tr → Bool
  | .mk o1 v1 n1 w1 a1, .mk o2 v2 n2 w2 a2 => (o1 == o2 && ((v1.k == v2.k && (v1.n == v2.n && v1.s.toList == v2.s.toList)) && (n1.toList == n2.toList && w1 == w2))) && (a1.length == a2.length && Tr.sames a1 a2)
def Tr.sames : List Tr → List Tr → Bool
  | t :: ts, u :: us => t.same u && Tr.sames ts us
  | _, _ => true
end
def SameIsa (w : World) (y z : Ex) (b : Bool) : Prop := ∀ W, Below w.heap.size w W → Calls Try.prog 28 #[.agg #[.int .u8 y.op, .int .u8 y.v.k, .int .i64 y.v.n, .string y.v.s, .string y.name, .int .i64 y.width, .slice y.A y.n y.c], .agg #[.int .u8 z.op, .int .u8 z.v.k, .int .i64 z.v.n, .string z.v.s, .string z.name, .int .i64 z.width, .slice z.A z.n z.c]] W fun e w' => e = .returned (.bool b) ∧ Below W.heap.size W w'
def ListIsa (w : World) (y z : Ex) (b : Bool) : Prop := ∀ W, Below w.heap.size w W → Calls Try.prog 56 #[.slice y.A y.n y.c, .slice z.A z.n z.c, .func (.func 28) #[] #[]] W fun e w' => e = .returned (.bool b) ∧ Below W.heap.size W w'
set_option maxHeartbeats 4000000 in
set_option maxRecDepth 100000 in
theorem samea_node (y z : Ex) (bl : Bool) (w : World) (hL : ListIsa w y z bl) : Calls Try.prog 28 #[.agg #[.int .u8 y.op, .int .u8 y.v.k, .int .i64 y.v.n, .string y.v.s, .string y.name, .int .i64 y.width, .slice y.A y.n y.c], .agg #[.int .u8 z.op, .int .u8 z.v.k, .int .i64 z.v.n, .string z.v.s, .string z.name, .int .i64 z.width, .slice z.A z.n z.c]] w fun e w' => e = .returned (.bool (headB y z && bl)) ∧ Below w.heap.size w w' := by
  have HL := Lib.hid hL
  clear hL
  go_enter Try.func28, Try.ntmps28
  have hX := (Blk.new w 36 #[.int .u8 y.op, .int .u8 y.v.k, .int .i64 y.v.n, .string y.v.s, .string y.name, .int .i64 y.width, .slice y.A y.n y.c]).alloc (.cells #[.int .u8 z.op, .int .u8 z.v.k, .int .i64 z.v.n, .string z.v.s, .string z.name, .int .i64 z.width, .slice z.A z.n z.c] 36)
  have hZ := Blk.new (w.alloc (.cells #[.int .u8 y.op, .int .u8 y.v.k, .int .i64 y.v.n, .string y.v.s, .string y.name, .int .i64 y.width, .slice y.A y.n y.c] 36)) 36 #[.int .u8 z.op, .int .u8 z.v.k, .int .i64 z.v.n, .string z.v.s, .string z.name, .int .i64 z.width, .slice z.A z.n z.c]
  rw [World.size_alloc] at hZ
  have hB := Later.then (later_new w (.cells #[.int .u8 y.op, .int .u8 y.v.k, .int .i64 y.v.n, .string y.v.s, .string y.name, .int .i64 y.width, .slice y.A y.n y.c] 36)) (later_new _ (.cells #[.int .u8 z.op, .int .u8 z.v.k, .int .i64 z.v.n, .string z.v.s, .string z.name, .int .i64 z.width, .slice z.A z.n z.c] 36))
  have x0 := hX.cell 0
  have x1 := hX.cell 1
  have x2 := hX.cell 2
  have x3 := hX.cell 3
  have x4 := hX.cell 4
  have x5 := hX.cell 5
  have x6 := hX.cell 6
  simp only [List.getElem?_toArray, List.getElem?_cons_zero, List.getElem?_cons_succ] at x0 x1 x2 x3 x4 x5 x6
  have z0 := hZ.cell 0
  have z1 := hZ.cell 1
  have z2 := hZ.cell 2
  have z3 := hZ.cell 3
  have z4 := hZ.cell 4
  have z5 := hZ.cell 5
  have z6 := hZ.cell 6
  simp only [List.getElem?_toArray, List.getElem?_cons_zero, List.getElem?_cons_succ] at z0 z1 z2 z3 z4 z5 z6
  cases e1 : (y.op == z.op)
  · go_wp2_with fail
    go_ret
    exact ⟨by simp [headB, e1], hB⟩
  · cases e2 : (y.v.k == z.v.k)
    · go_wp2_with fail
      go_ret
      exact ⟨by simp [headB, e1, e2], hB⟩
    · cases e3 : (y.v.n == z.v.n)
      · go_wp2_with fail
        go_ret
        exact ⟨by simp [headB, e1, e2, e3], hB⟩
      · cases e4 : (y.v.s.toList == z.v.s.toList)
        · go_wp2_with fail
          go_ret
          exact ⟨by simp [headB, e1, e2, e3, e4], hB⟩
        · cases e5 : (y.name.toList == z.name.toList)
          · go_wp2_with fail
            go_ret
            exact ⟨by simp [headB, e1, e2, e3, e4, e5], hB⟩
          · cases e6 : (y.width == z.width)
            · go_wp2_with fail
              go_ret
              exact ⟨by simp [headB, e1, e2, e3, e4, e5, e6], hB⟩
            · go_wp2_with fail
              refine (HL.out _ hB).mono ?_
              rintro e w1 ⟨rfl, b1⟩
              replace hB := Later.then hB b1
              clear b1 x0 x1 x2 x3 x4 x5 x6 z0 z1 z2 z3 z4 z5 z6
              go_wp2_with fail
              go_ret
              exact ⟨by simp [headB, e1, e2, e3, e4, e5, e6], hB⟩
def samesa : List (Ex × Ex × Bool) → Bool
  | [] => true
  | a :: l => a.2.2 && samesa l
set_option maxHeartbeats 4000000 in
set_option maxRecDepth 100000 in
theorem lista_any (A A' : Option Addr) (c c' : Nat) (ys zs : List Ex) (bs : List Bool) (w : World) (hl : ys.length ≤ 1599289640356) (hl' : zs.length ≤ 1599289640356) (hbs : bs.length = ys.length) (hA : RE w w.heap.size A ys) (hA' : RE w w.heap.size A' zs) (hE : ys.length = zs.length → ∀ (i : Nat) y z b, ys[i]? = some y → zs[i]? = some z → bs[i]? = some b → SameIsa w y z b) :
    Calls Try.prog 56 #[.slice A ys.length c, .slice A' zs.length c', .func (.func 28) #[] #[]] w fun e w' => e = .returned (.bool (ys.length == zs.length && bs.all id)) ∧ Below w.heap.size w w' := by
  have HA := Lib.hid hA
  have HA' := Lib.hid hA'
  have HE := Lib.hid hE
  have HBS := Lib.hid hbs
  clear hA hA' hE hbs
  by_cases hne : ys.length = zs.length
  · have t0 : (ys.length != zs.length) = false := by simpa using hne
    have t0' : ((ys.length : Int) != (zs.length : Int)) = false := by simp [hne]
    have HNE := Lib.hid hne
    have hle : ys.length ≤ zs.length := by omega
    rw [show (ys.length == zs.length) = true by simpa using hne]
    clear hne
    rw [Bool.true_and]
    go_enter Try.func56, Try.ntmps56
    go_wp2_with fail
    clear t0 t0'
    go_loopw [17] (fun i wr => ∃ k : Nat, k ≤ ys.length ∧ i = .int .i64 k ∧ bs.all id = (bs.drop k).all id ∧ Below w.heap.size w wr) (fun i _ => ys.length - (intOf i).toNat)
    case atStart => exact ⟨0, Nat.zero_le _, rfl, rfl, Below.refl _ _⟩
    case round =>
      obtain ⟨k, hk, rfl, hal, hb⟩ := hrel
      have HAL := Lib.hid hal
      clear hal
      by_cases hlt : k < ys.length
      · have hlt2 : k < zs.length := by omega
        have hlt3 : k < bs.length := by have := HBS.out; omega
        obtain ⟨b, off, rfl, hbb, hex⟩ := (HA.out.below hb).at_ hlt
        obtain ⟨b2, off2, rfl, hbb2, hez⟩ := (HA'.out.below hb).at_ hlt2
        have hev := HE.out HNE.out k _ _ _ (List.getElem?_eq_getElem hlt) (List.getElem?_eq_getElem hlt2) (List.getElem?_eq_getElem hlt3)
        have HD := Lib.hid (show bs.drop k = bs[k] :: bs.drop (k + 1) from List.drop_eq_getElem_cons hlt3)
        generalize ys[k] = y at *
        generalize zs[k] = z at *
        generalize bs[k] = sb at *
        have hbw : b < wr.heap.size := Nat.lt_of_lt_of_le hbb hb.size
        have hbw2 : b2 < wr.heap.size := Nat.lt_of_lt_of_le hbb2 hb.size
        have bb := Later.then (later_new wr (.cells #[.int .u8 y.op, .int .u8 y.v.k, .int .i64 y.v.n, .string y.v.s, .string y.name, .int .i64 y.width, .slice y.A y.n y.c] 36)) (later_new _ (.cells #[.int .u8 z.op, .int .u8 z.v.k, .int .i64 z.v.n, .string z.v.s, .string z.name, .int .i64 z.width, .slice z.A z.n z.c] 36))
        have hez1 := hez.keep (w' := wr.alloc (.cells #[.int .u8 y.op, .int .u8 y.v.k, .int .i64 y.v.n, .string y.v.s, .string y.name, .int .i64 y.width, .slice y.A y.n y.c] 36)) fun o => (later_new wr (.cells #[.int .u8 y.op, .int .u8 y.v.k, .int .i64 y.v.n, .string y.v.s, .string y.name, .int .i64 y.width, .slice y.A y.n y.c] 36)).cell (p := ⟨b2, o, none⟩) hbw2
        unfold ExAt at hex hez1
        go_wp2_with fail
        refine (hev _ (Later.then hb bb)).mono ?_
        rintro e w1 ⟨rfl, b1⟩
        have hb1 := Later.then hb (Later.then bb b1)
        clear hex hez hez1 hev bb b1 hb
        cases sb
        · go_wp2_with fail
          go_ret
          refine ⟨?_, hb1⟩
          rw [HAL.out, HD.out]
          rfl
        · go_wp2_with fail
          go_roundw
          case rel =>
            refine ⟨k + 1, hlt, by go_num, ?_, hb1⟩
            rw [HAL.out, HD.out]
            rfl
          case measure => simp [intOf]; omega
      · go_wp2_with fail
        go_ret
        refine ⟨?_, hb⟩
        rw [HAL.out, List.drop_eq_nil_of_le (by have := HBS.out; omega)]
        rfl
  · have t0 : (ys.length != zs.length) = true := by simpa using hne
    have t0' : ((ys.length : Int) != (zs.length : Int)) = true := by simp; omega
    rw [show (ys.length == zs.length) = false by simpa using hne]
    clear hne
    go_enter Try.func56, Try.ntmps56
    go_wp2_with fail
    go_ret
    exact ⟨rfl, Below.refl _ _⟩
mutual
theorem Tr.samea_is : ∀ (t u : Tr) (y z : Ex) (w : World), t.ok → u.ok → t.at_ w (Old w) y → u.at_ w (Old w) z → SameIsa w y z (t.same u)
  | .mk o1 v1 n1 w1 a1, .mk o2 v2 n2 w2 a2, y, z, w, hok, hok', hat, hat' => by
    intro W hb
    have h1 := hat.later hb
    have h2 := hat'.later hb
    unfold Tr.at_ at h1 h2
    unfold Tr.ok at hok hok'
    obtain ⟨p1, p2, p3, p4, p5, ys, p6, p7⟩ := h1
    obtain ⟨q1, q2, q3, q4, q5, zs, q6, q7⟩ := h2
    have hlY := p7.length
    have hlZ := q7.length
    have k := samea_node y z (a1.length == a2.length && Tr.sames a1 a2) W (by
      intro W' hW'
      have hp7 := p7.later hW'
      have hq7 := q7.later hW'
      by_cases hll : a1.length = a2.length
      · obtain ⟨bs, b1, b2, b3⟩ := Tr.sameas_is a1 a2 ys zs W' hok.2.2.2.2.2 hok'.2.2.2.2.2 hp7 hq7 hll
        have kk := lista_any y.A z.A y.c z.c ys zs bs W' (by rw [hlY]; exact hok.2.1) (by rw [hlZ]; exact hok'.2.1) (by rw [b1, hlY]) ((p6.old.below hW').more hW'.size) ((q6.old.below hW').more hW'.size) (fun _ => b3)
        rw [hlY, hlZ, b2] at kk
        rw [p5, q5]
        exact kk
      · have kk := lista_any y.A z.A y.c z.c ys zs (List.replicate ys.length true) W' (by rw [hlY]; exact hok.2.1) (by rw [hlZ]; exact hok'.2.1) (by simp) ((p6.old.below hW').more hW'.size) ((q6.old.below hW').more hW'.size) (fun h => absurd (by rw [← hlY, ← hlZ]; exact h) hll)
        have e0 : (a1.length == a2.length) = false := by simpa using hll
        rw [hlY, hlZ, e0] at kk
        rw [p5, q5, e0]
        exact kk)
    unfold headB at k
    rw [p1, p2, p3, p4, q1, q2, q3, q4] at k
    unfold Tr.same
    rw [← p1, ← p2, ← p3, ← p4, ← q1, ← q2, ← q3, ← q4] at k ⊢
    exact k
theorem Tr.sameas_is : ∀ (ts us : List Tr) (ys zs : List Ex) (w : World), Tr.oks ts → Tr.oks us → Tr.all_ w (Old w) ts ys → Tr.all_ w (Old w) us zs → ts.length = us.length → ∃ bs : List Bool, bs.length = ts.length ∧ bs.all id = Tr.sames ts us ∧ ∀ (i : Nat) y z b, ys[i]? = some y → zs[i]? = some z → bs[i]? = some b → SameIsa w y z b
  | [], [], ys, zs, w, _, _, _, _, _ => ⟨[], rfl, by simp [Tr.sames], fun i y z b _ _ h => by simp at h⟩
  | [], _ :: _, ys, zs, w, _, _, _, _, h => by simp at h
  | _ :: _, [], ys, zs, w, _, _, _, _, h => by simp at h
  | t :: ts, u :: us, ys, zs, w, hok, hok', hat, hat', hl => by
    unfold Tr.all_ at hat hat'
    unfold Tr.oks at hok hok'
    obtain ⟨y, ys', rfl, h2, h3⟩ := hat
    obtain ⟨z, zs', rfl, h2', h3'⟩ := hat'
    obtain ⟨bs, b1, b2, b3⟩ := Tr.sameas_is ts us ys' zs' w hok.2 hok'.2 h3 h3' (by simpa using hl)
    refine ⟨t.same u :: bs, by simp [b1], by simp [Tr.sames, b2], ?_⟩
    intro i y' z' b hy hz hb
    match i, hy, hz, hb with
    | 0, hy, hz, hb =>
      simp at hy hz hb
      subst hy hz hb
      exact Tr.samea_is t u y z w hok.1 hok'.1 h2 h2'
    | i + 1, hy, hz, hb => exact b3 i y' z' b (by simpa using hy) (by simpa using hz) (by simpa using hb)
end
def SameIsb (w : World) (y z : Ex) (b : Bool) : Prop := ∀ W, Below w.heap.size w W → Calls Try.prog 29 #[.agg #[.int .u8 y.op, .int .u8 y.v.k, .int .i64 y.v.n, .string y.v.s, .string y.name, .int .i64 y.width, .slice y.A y.n y.c], .agg #[.int .u8 z.op, .int .u8 z.v.k, .int .i64 z.v.n, .string z.v.s, .string z.name, .int .i64 z.width, .slice z.A z.n z.c]] W fun e w' => e = .returned (.bool b) ∧ Below W.heap.size W w'
def ListIsb (w : World) (y z : Ex) (b : Bool) : Prop := ∀ W, Below w.heap.size w W → Calls Try.prog 57 #[.slice y.A y.n y.c, .slice z.A z.n z.c] W fun e w' => e = .returned (.bool b) ∧ Below W.heap.size W w'
set_option maxHeartbeats 4000000 in
set_option maxRecDepth 100000 in
theorem sameb_node (y z : Ex) (bl : Bool) (w : World) (hL : ListIsb w y z bl) : Calls Try.prog 29 #[.agg #[.int .u8 y.op, .int .u8 y.v.k, .int .i64 y.v.n, .string y.v.s, .string y.name, .int .i64 y.width, .slice y.A y.n y.c], .agg #[.int .u8 z.op, .int .u8 z.v.k, .int .i64 z.v.n, .string z.v.s, .string z.name, .int .i64 z.width, .slice z.A z.n z.c]] w fun e w' => e = .returned (.bool (headB y z && bl)) ∧ Below w.heap.size w w' := by
  have HL := Lib.hid hL
  clear hL
  go_enter Try.func29, Try.ntmps29
  have hX := (Blk.new w 36 #[.int .u8 y.op, .int .u8 y.v.k, .int .i64 y.v.n, .string y.v.s, .string y.name, .int .i64 y.width, .slice y.A y.n y.c]).alloc (.cells #[.int .u8 z.op, .int .u8 z.v.k, .int .i64 z.v.n, .string z.v.s, .string z.name, .int .i64 z.width, .slice z.A z.n z.c] 36)
  have hZ := Blk.new (w.alloc (.cells #[.int .u8 y.op, .int .u8 y.v.k, .int .i64 y.v.n, .string y.v.s, .string y.name, .int .i64 y.width, .slice y.A y.n y.c] 36)) 36 #[.int .u8 z.op, .int .u8 z.v.k, .int .i64 z.v.n, .string z.v.s, .string z.name, .int .i64 z.width, .slice z.A z.n z.c]
  rw [World.size_alloc] at hZ
  have hB := Later.then (later_new w (.cells #[.int .u8 y.op, .int .u8 y.v.k, .int .i64 y.v.n, .string y.v.s, .string y.name, .int .i64 y.width, .slice y.A y.n y.c] 36)) (later_new _ (.cells #[.int .u8 z.op, .int .u8 z.v.k, .int .i64 z.v.n, .string z.v.s, .string z.name, .int .i64 z.width, .slice z.A z.n z.c] 36))
  have x0 := hX.cell 0
  have x1 := hX.cell 1
  have x2 := hX.cell 2
  have x3 := hX.cell 3
  have x4 := hX.cell 4
  have x5 := hX.cell 5
  have x6 := hX.cell 6
  simp only [List.getElem?_toArray, List.getElem?_cons_zero, List.getElem?_cons_succ] at x0 x1 x2 x3 x4 x5 x6
  have z0 := hZ.cell 0
  have z1 := hZ.cell 1
  have z2 := hZ.cell 2
  have z3 := hZ.cell 3
  have z4 := hZ.cell 4
  have z5 := hZ.cell 5
  have z6 := hZ.cell 6
  simp only [List.getElem?_toArray, List.getElem?_cons_zero, List.getElem?_cons_succ] at z0 z1 z2 z3 z4 z5 z6
  cases e1 : (y.op == z.op)
  · go_wp2_with fail
    go_ret
    exact ⟨by simp [headB, e1], hB⟩
  · cases e2 : (y.v.k == z.v.k)
    · go_wp2_with fail
      go_ret
      exact ⟨by simp [headB, e1, e2], hB⟩
    · cases e3 : (y.v.n == z.v.n)
      · go_wp2_with fail
        go_ret
        exact ⟨by simp [headB, e1, e2, e3], hB⟩
      · cases e4 : (y.v.s.toList == z.v.s.toList)
        · go_wp2_with fail
          go_ret
          exact ⟨by simp [headB, e1, e2, e3, e4], hB⟩
        · cases e5 : (y.name.toList == z.name.toList)
          · go_wp2_with fail
            go_ret
            exact ⟨by simp [headB, e1, e2, e3, e4, e5], hB⟩
          · cases e6 : (y.width == z.width)
            · go_wp2_with fail
              go_ret
              exact ⟨by simp [headB, e1, e2, e3, e4, e5, e6], hB⟩
            · go_wp2_with fail
              refine (HL.out _ hB).mono ?_
              rintro e w1 ⟨rfl, b1⟩
              replace hB := Later.then hB b1
              clear b1 x0 x1 x2 x3 x4 x5 x6 z0 z1 z2 z3 z4 z5 z6
              go_wp2_with fail
              go_ret
              exact ⟨by simp [headB, e1, e2, e3, e4, e5, e6], hB⟩
def samesb : List (Ex × Ex × Bool) → Bool
  | [] => true
  | a :: l => a.2.2 && samesb l
set_option maxHeartbeats 4000000 in
set_option maxRecDepth 100000 in
theorem listb_any (A A' : Option Addr) (c c' : Nat) (ys zs : List Ex) (bs : List Bool) (w : World) (hl : ys.length ≤ 1599289640356) (hl' : zs.length ≤ 1599289640356) (hbs : bs.length = ys.length) (hA : RE w w.heap.size A ys) (hA' : RE w w.heap.size A' zs) (hE : ys.length = zs.length → ∀ (i : Nat) y z b, ys[i]? = some y → zs[i]? = some z → bs[i]? = some b → SameIsb w y z b) :
    Calls Try.prog 57 #[.slice A ys.length c, .slice A' zs.length c'] w fun e w' => e = .returned (.bool (ys.length == zs.length && bs.all id)) ∧ Below w.heap.size w w' := by
  have HA := Lib.hid hA
  have HA' := Lib.hid hA'
  have HE := Lib.hid hE
  have HBS := Lib.hid hbs
  clear hA hA' hE hbs
  by_cases hne : ys.length = zs.length
  · have t0 : (ys.length != zs.length) = false := by simpa using hne
    have t0' : ((ys.length : Int) != (zs.length : Int)) = false := by simp [hne]
    have HNE := Lib.hid hne
    have hle : ys.length ≤ zs.length := by omega
    rw [show (ys.length == zs.length) = true by simpa using hne]
    clear hne
    rw [Bool.true_and]
    go_enter Try.func57, Try.ntmps57
    go_wp2_with fail
    clear t0 t0'
    go_loopw [5] (fun i wr => ∃ k : Nat, k ≤ ys.length ∧ i = .int .i64 k ∧ bs.all id = (bs.drop k).all id ∧ Below w.heap.size w wr) (fun i _ => ys.length - (intOf i).toNat)
    case atStart => exact ⟨0, Nat.zero_le _, rfl, rfl, Below.refl _ _⟩
    case round =>
      obtain ⟨k, hk, rfl, hal, hb⟩ := hrel
      have HAL := Lib.hid hal
      clear hal
      by_cases hlt : k < ys.length
      · have hlt2 : k < zs.length := by omega
        have hlt3 : k < bs.length := by have := HBS.out; omega
        obtain ⟨b, off, rfl, hbb, hex⟩ := (HA.out.below hb).at_ hlt
        obtain ⟨b2, off2, rfl, hbb2, hez⟩ := (HA'.out.below hb).at_ hlt2
        have hev := HE.out HNE.out k _ _ _ (List.getElem?_eq_getElem hlt) (List.getElem?_eq_getElem hlt2) (List.getElem?_eq_getElem hlt3)
        have HD := Lib.hid (show bs.drop k = bs[k] :: bs.drop (k + 1) from List.drop_eq_getElem_cons hlt3)
        generalize ys[k] = y at *
        generalize zs[k] = z at *
        generalize bs[k] = sb at *
        have hbw : b < wr.heap.size := Nat.lt_of_lt_of_le hbb hb.size
        have hbw2 : b2 < wr.heap.size := Nat.lt_of_lt_of_le hbb2 hb.size
        have hcx := fun q : Ext wr.heap.size wr => (hex.keep (w' := q.w) fun o => q.h.cell (p := ⟨b, o, none⟩) hbw)
        have hcz := fun q : Ext wr.heap.size wr => (hez.keep (w' := q.w) fun o => q.h.cell (p := ⟨b2, o, none⟩) hbw2)
        unfold ExAt at hcx hcz
        have hev2 := fun q : Ext wr.heap.size wr => hev q.w (Later.then hb q.h)
        go_wp2_with fail
        refine region_cut 10 wr.heap.size wr (Below.refl _ _) (by kernel_rfl) (by kernel_rfl) (by kernel_rfl) (by kernel_rfl) ?_
        simp only [List.take_succ_cons, List.take_zero, List.drop_succ_cons, List.drop_zero]
        repeat (go_big_quiet_step (fail))
        go_big_quiet_step ((go_at_call 29; exact calls_later (Nat.le_refl _) (hev2 _)))
        repeat (go_big_quiet_step (fail))
        refine wpQuiet_nil ?_
        rintro V4 ⟨x9, hx9⟩
        have hW := x9.h
        rw [← hx9] at hW
        have hb1 := Later.then hb hW
        clear hx9 x9 hcx hcz hev2 hex hez hev hb hW
        cases sb
        · go_wp2_with fail
          go_ret
          refine ⟨?_, hb1⟩
          rw [HAL.out, HD.out]
          rfl
        · go_wp2_with fail
          go_roundw
          case rel =>
            refine ⟨k + 1, hlt, by go_num, ?_, hb1⟩
            rw [HAL.out, HD.out]
            rfl
          case measure => simp [intOf]; omega
      · go_wp2_with fail
        go_ret
        refine ⟨?_, hb⟩
        rw [HAL.out, List.drop_eq_nil_of_le (by have := HBS.out; omega)]
        rfl
  · have t0 : (ys.length != zs.length) = true := by simpa using hne
    have t0' : ((ys.length : Int) != (zs.length : Int)) = true := by simp; omega
    rw [show (ys.length == zs.length) = false by simpa using hne]
    clear hne
    go_enter Try.func57, Try.ntmps57
    go_wp2_with fail
    go_ret
    exact ⟨rfl, Below.refl _ _⟩
mutual
theorem Tr.sameb_is : ∀ (t u : Tr) (y z : Ex) (w : World), t.ok → u.ok → t.at_ w (Old w) y → u.at_ w (Old w) z → SameIsb w y z (t.same u)
  | .mk o1 v1 n1 w1 a1, .mk o2 v2 n2 w2 a2, y, z, w, hok, hok', hat, hat' => by
    intro W hb
    have h1 := hat.later hb
    have h2 := hat'.later hb
    unfold Tr.at_ at h1 h2
    unfold Tr.ok at hok hok'
    obtain ⟨p1, p2, p3, p4, p5, ys, p6, p7⟩ := h1
    obtain ⟨q1, q2, q3, q4, q5, zs, q6, q7⟩ := h2
    have hlY := p7.length
    have hlZ := q7.length
    have k := sameb_node y z (a1.length == a2.length && Tr.sames a1 a2) W (by
      intro W' hW'
      have hp7 := p7.later hW'
      have hq7 := q7.later hW'
      by_cases hll : a1.length = a2.length
      · obtain ⟨bs, b1, b2, b3⟩ := Tr.samebs_is a1 a2 ys zs W' hok.2.2.2.2.2 hok'.2.2.2.2.2 hp7 hq7 hll
        have kk := listb_any y.A z.A y.c z.c ys zs bs W' (by rw [hlY]; exact hok.2.1) (by rw [hlZ]; exact hok'.2.1) (by rw [b1, hlY]) ((p6.old.below hW').more hW'.size) ((q6.old.below hW').more hW'.size) (fun _ => b3)
        rw [hlY, hlZ, b2] at kk
        rw [p5, q5]
        exact kk
      · have kk := listb_any y.A z.A y.c z.c ys zs (List.replicate ys.length true) W' (by rw [hlY]; exact hok.2.1) (by rw [hlZ]; exact hok'.2.1) (by simp) ((p6.old.below hW').more hW'.size) ((q6.old.below hW').more hW'.size) (fun h => absurd (by rw [← hlY, ← hlZ]; exact h) hll)
        have e0 : (a1.length == a2.length) = false := by simpa using hll
        rw [hlY, hlZ, e0] at kk
        rw [p5, q5, e0]
        exact kk)
    unfold headB at k
    rw [p1, p2, p3, p4, q1, q2, q3, q4] at k
    unfold Tr.same
    rw [← p1, ← p2, ← p3, ← p4, ← q1, ← q2, ← q3, ← q4] at k ⊢
    exact k
theorem Tr.samebs_is : ∀ (ts us : List Tr) (ys zs : List Ex) (w : World), Tr.oks ts → Tr.oks us → Tr.all_ w (Old w) ts ys → Tr.all_ w (Old w) us zs → ts.length = us.length → ∃ bs : List Bool, bs.length = ts.length ∧ bs.all id = Tr.sames ts us ∧ ∀ (i : Nat) y z b, ys[i]? = some y → zs[i]? = some z → bs[i]? = some b → SameIsb w y z b
  | [], [], ys, zs, w, _, _, _, _, _ => ⟨[], rfl, by simp [Tr.sames], fun i y z b _ _ h => by simp at h⟩
  | [], _ :: _, ys, zs, w, _, _, _, _, h => by simp at h
  | _ :: _, [], ys, zs, w, _, _, _, _, h => by simp at h
  | t :: ts, u :: us, ys, zs, w, hok, hok', hat, hat', hl => by
    unfold Tr.all_ at hat hat'
    unfold Tr.oks at hok hok'
    obtain ⟨y, ys', rfl, h2, h3⟩ := hat
    obtain ⟨z, zs', rfl, h2', h3'⟩ := hat'
    obtain ⟨bs, b1, b2, b3⟩ := Tr.samebs_is ts us ys' zs' w hok.2 hok'.2 h3 h3' (by simpa using hl)
    refine ⟨t.same u :: bs, by simp [b1], by simp [Tr.sames, b2], ?_⟩
    intro i y' z' b hy hz hb
    match i, hy, hz, hb with
    | 0, hy, hz, hb =>
      simp at hy hz hb
      subst hy hz hb
      exact Tr.sameb_is t u y z w hok.1 hok'.1 h2 h2'
    | i + 1, hy, hz, hb => exact b3 i y' z' b (by simpa using hy) (by simpa using hz) (by simpa using hb)
end
end Go.Proofs.Ytlfahfoffdbpfaa

/- the document's Safe and True. Printed by gen_same.py. -/
namespace Go.Proofs.Ytlfahfoffdbpfaa
open Go.ChangeShapes Go.WideShapes Go.ChangeAt Go.RowKit
set_option linter.unusedVariables false
set_option linter.unusedSimpArgs false

def SafeRefIs (w : World) (y : Ex) (b : Bool) : Prop := ∀ W, Below w.heap.size w W → Calls Try.prog 27 #[.agg #[.int .u8 y.op, .int .u8 y.v.k, .int .i64 y.v.n, .string y.v.s, .string y.name, .int .i64 y.width, .slice y.A y.n y.c]] W fun e w' => e = .returned (.bool b) ∧ Below W.heap.size W w'
theorem risk_is (op : Int) (h : 0 ≤ op ∧ op ≤ 255) : riskB op = (wantsR op == 2 || isAgg op) := by
  unfold riskB wantsR isAgg isOp givesN aggN
  have hc : (op = 0 ∨ op = 1 ∨ op = 2) ∨ op = 3 ∨ op = 4 ∨ (5 ≤ op ∧ op ≤ 9) ∨ (10 ≤ op ∧ op ≤ 15) ∨ op = 16 ∨ op = 17 ∨ op = 18 ∨ op = 19 ∨ op = 20 ∨ op = 21 ∨ (22 ≤ op ∧ op ≤ 26) ∨ op = 27 ∨ op = 28 ∨ 29 ≤ op := by omega
  rw [Bool.eq_iff_iff]
  simp only [Bool.or_eq_true, Bool.and_eq_true, beq_iff_eq, decide_eq_true_eq]
  constructor
  · intro hh
    rcases hh with ⟨h1, h2⟩ | h1
    · left
      split at h2
      · omega
      · repeat (first | omega | rfl | split)
    · right
      split at h1
      · omega
      · split at h1
        · omega
        · split at h1 <;> omega
  · intro hh
    rcases hh with h1 | h1
    · left
      refine ⟨?_, ?_⟩
      · split at h1
        · omega
        · split at h1 <;> omega
      · split at h1
        · omega
        · split at h1
          · repeat (first | omega | rfl | split)
          · omega
    · right
      repeat (first | omega | split)
set_option maxHeartbeats 4000000 in
set_option maxRecDepth 100000 in
theorem saferef_node (op : Int) (hop : 0 ≤ op ∧ op ≤ 255) (v : Val) (name : ByteArray) (width : Int) (A : Option Addr) (c : Nat) (args : List (Ex × Bool)) (w : World) (hl : args.length ≤ 1599289640356) (hA : RE w w.heap.size A (args.map (·.1))) (hE : ∀ a ∈ args, SafeRefIs w a.1 a.2) :
    Calls Try.prog 27 #[.agg #[.int .u8 op, .int .u8 v.k, .int .i64 v.n, .string v.s, .string name, .int .i64 width, .slice A args.length c]] w fun e w' => e = .returned (.bool (!(wantsR op == 2 || isAgg op) && allB args)) ∧ Below w.heap.size w w' := by
  have HA := Lib.hid hA
  have HE := Lib.hid hE
  clear hA hE
  go_enter Try.func27, Try.ntmps27
  have hX := Blk.new w 36 #[.int .u8 op, .int .u8 v.k, .int .i64 v.n, .string v.s, .string name, .int .i64 width, .slice A args.length c]
  have hB := later_new w (.cells #[.int .u8 op, .int .u8 v.k, .int .i64 v.n, .string v.s, .string name, .int .i64 width, .slice A args.length c] 36)
  have x0 := hX.cell 0
  have x1 := hX.cell 1
  have x2 := hX.cell 2
  have x3 := hX.cell 3
  have x4 := hX.cell 4
  have x5 := hX.cell 5
  have x6 := hX.cell 6
  simp only [List.getElem?_toArray, List.getElem?_cons_zero, List.getElem?_cons_succ] at x0 x1 x2 x3 x4 x5 x6
  go_wp2_with fail
  refine (wantsR_any op hop.1 hop.2 _).mono ?_
  rintro e w1 ⟨rfl, rfl⟩
  cases hw : (wantsR op == 2)
  · go_wp2_with fail
    refine (isR_any op hop.1 hop.2 _).mono ?_
    rintro e w1 ⟨rfl, rfl⟩
    cases ha : isAgg op
    · go_wp2_with fail
      have HWA := Lib.hid hw
      have HAG := Lib.hid ha
      clear x0 x1 x2 x3 x4 x5 x6 hw ha
      generalize w.alloc (.cells #[.int .u8 op, .int .u8 v.k, .int .i64 v.n, .string v.s, .string name, .int .i64 width, .slice A args.length c] 36) = W at *
      go_loopw [3] (fun i wr => ∃ k : Nat, k ≤ args.length ∧ i = .int .i64 k ∧ allB args = allB (args.drop k) ∧ Below W.heap.size W wr) (fun i _ => args.length - (intOf i).toNat)
      case atStart => exact ⟨0, Nat.zero_le _, rfl, rfl, Below.refl _ _⟩
      case round =>
        obtain ⟨k, hk, rfl, hp, hb⟩ := hrel
        have HP := Lib.hid hp
        clear hp
        have x6 := (hX.later hb).cell 6
        simp only [List.getElem?_toArray, List.getElem?_cons_zero, List.getElem?_cons_succ] at x6
        by_cases hlt : k < args.length
        · obtain ⟨b, off, rfl, hbb, hex⟩ := (HA.out.below (Later.then hB hb)).at_ (show k < (args.map (·.1)).length by simpa using hlt)
          have he1 : (args.map (·.1))[k]'(by simpa using hlt) = args[k].1 := by simp
          rw [he1] at hex
          clear he1
          have hev := HE.out args[k] (List.getElem_mem hlt)
          have HD := Lib.hid (show args.drop k = args[k] :: args.drop (k + 1) from List.drop_eq_getElem_cons hlt)
          generalize args[k] = yb at *
          obtain ⟨y, sb⟩ := yb
          dsimp only at *
          unfold ExAt at hex
          go_wp2_with fail
          refine (hev _ (Later.then hB hb)).mono ?_
          rintro e w2 ⟨rfl, b2⟩
          have hb1 := Later.then hb b2
          clear hex hev b2 x6
          cases sb
          · go_wp2_with fail
            go_ret
            refine ⟨?_, Later.then hB hb1⟩
            rw [HP.out, HD.out]
            simp [allB]
          · go_wp2_with fail
            go_roundw
            case rel =>
              refine ⟨k + 1, hlt, by go_num, ?_, hb1⟩
              rw [HP.out, HD.out]
              simp [allB]
            case measure => simp [intOf]; omega
        · go_wp2_with fail
          go_ret
          refine ⟨?_, Later.then hB hb⟩
          rw [HP.out, List.drop_eq_nil_of_le (by omega), HWA.out, HAG.out]
          rfl
    · go_wp2_with fail
      go_ret
      exact ⟨by rw [ha]; simp, hB⟩
  · go_wp2_with fail
    go_ret
    exact ⟨by rw [hw]; simp, hB⟩
mutual
theorem Tr.saferef_is : ∀ (t : Tr) (y : Ex) (w : World), t.ok → t.at_ w (Old w) y → SafeRefIs w y t.safe
  | .mk op v name width args, y, w, hok, hat => by
    intro W hb
    have hat2 := hat.later hb
    unfold Tr.at_ at hat2
    obtain ⟨h1, h2, h3, h4, h5, ys, h6, h7⟩ := hat2
    unfold Tr.ok at hok
    obtain ⟨l, hl1, hl2, hl3⟩ := Tr.saferefs_is args ys W hok.2.2.2.2.2 h7
    obtain ⟨yop, yv, yname, ywidth, yA, yn, yc⟩ := y
    dsimp only at h1 h2 h3 h4 h5 h6
    subst h1 h2 h3 h4 h5
    have hlen : l.length = args.length := by
      have : (l.map (·.1)).length = ys.length := by rw [hl1]
      rw [List.length_map, h7.length] at this
      exact this
    have k := saferef_node yop hok.2.2.1 yv yname ywidth yA yc l W (by rw [hlen]; exact hok.2.1) (by rw [hl1]; exact h6.old) hl3
    rw [hl2, hlen] at k
    unfold Tr.safe
    rw [show riskB yop = (wantsR yop == 2 || isAgg yop) from risk_is yop hok.2.2.1]
    exact k
theorem Tr.saferefs_is : ∀ (ts : List Tr) (ys : List Ex) (w : World), Tr.oks ts → Tr.all_ w (Old w) ts ys → ∃ l : List (Ex × Bool), l.map (·.1) = ys ∧ allB l = Tr.safes ts ∧ ∀ a ∈ l, SafeRefIs w a.1 a.2
  | [], ys, w, _, hat => by
    unfold Tr.all_ at hat
    subst hat
    exact ⟨[], rfl, by simp [Tr.safes, allB], by simp⟩
  | t :: ts, ys, w, hok, hat => by
    unfold Tr.all_ at hat
    unfold Tr.oks at hok
    obtain ⟨y, ys', rfl, h2, h3⟩ := hat
    obtain ⟨l, hl1, hl2, hl3⟩ := Tr.saferefs_is ts ys' w hok.2 h3
    refine ⟨(y, t.safe) :: l, by simp [hl1], by simp [hl2, Tr.safes, allB], fun a ha => ?_⟩
    rcases List.mem_cons.1 ha with rfl | ha
    · exact Tr.saferef_is t y w hok.1 h2
    · exact hl3 a ha
end
set_option maxHeartbeats 4000000 in
set_option maxRecDepth 100000 in
theorem trueref_any (A : Option Addr) (n c : Nat) (hn : 0 < n) (hn2 : n ≤ 1599289640356) (y : Ex) (ys : List Ex) (cV rV : Value) (r : Val × Int) (w : World) (hA : RE w w.heap.size A (y :: ys)) (hE : EvRefIs w cV rV y r.1 r.2) :
    Calls Try.prog 26 #[.slice A n c, cV, rV] w fun e w' => e = .returned (.tuple #[.bool (trueV r).1, .int .i64 (trueV r).2]) ∧ Below w.heap.size w w' := by
  obtain ⟨b, off, rfl, hb, hex⟩ := re_hd hA
  have HE := Lib.hid hE
  clear hA hE
  have t0 : (n == 0) = false := by simp; omega
  have t0' : ((n : Int) == 0) = false := by simp; omega
  unfold ExAt at hex
  go_enter Try.func26, Try.ntmps26
  go_wp2_with fail
  refine (HE.out w (Below.refl _ _)).mono ?_
  rintro e w1 ⟨rfl, b1⟩
  clear hex t0 t0' HE
  obtain ⟨v, f⟩ := r
  unfold ansV
  dsimp only
  have hv := Blk.new w1 23 #[.int .u8 v.k, .int .i64 v.n, .string v.s]
  have hB := Later.then b1 (later_new w1 (.cells #[.int .u8 v.k, .int .i64 v.n, .string v.s] 23))
  clear b1
  have cv := val_cells hv
  by_cases hf : f = 0
  · subst hf
    cases e1 : (v.k != 1)
    · have HQ := Lib.hid (show trueV (v, 0) = (v.n == 1, 0) by
        have : v.k = 1 := by simpa using e1
        unfold trueV
        rw [if_neg (by simp), if_neg (by simp [goes2, this])])
      go_wp2_with fail
      exact bodyPost_ret (v := .tuple #[.bool (v.n == 1), .int .i64 0]) (by simp [results, Try.results26, go_sem]) rfl ⟨by rw [HQ.out], hB⟩
    · cases e2 : (v.k != 0)
      · have HQ := Lib.hid (show trueV (v, 0) = (v.n == 1, 0) by
          have : v.k = 0 := by simpa using e2
          unfold trueV
          rw [if_neg (by simp), if_neg (by simp [goes2, this])])
        go_wp2_with fail
        exact bodyPost_ret (v := .tuple #[.bool (v.n == 1), .int .i64 0]) (by simp [results, Try.results26, go_sem]) rfl ⟨by rw [HQ.out], hB⟩
      · have HQ := Lib.hid (show trueV (v, 0) = (false, 40) by
          have h1 : ¬ v.k = 1 := by simpa using e1
          have h2 : ¬ v.k = 0 := by simpa using e2
          unfold trueV
          rw [if_neg (by simp), if_pos (by simp [goes2, h1, h2])])
        go_wp2_with fail
        exact bodyPost_ret (v := .tuple #[.bool false, .int .i64 40]) (by simp [results, Try.results26, go_sem]) rfl ⟨by rw [HQ.out], hB⟩
  · have t1 : (f != 0) = true := by simpa using hf
    have HQ := Lib.hid (show trueV (v, f) = (false, f) by unfold trueV; rw [if_pos hf])
    clear hf
    go_wp2_with fail
    exact bodyPost_ret (v := .tuple #[.bool false, .int .i64 f]) (by simp [results, Try.results26, go_sem]) rfl ⟨by rw [HQ.out], hB⟩
end Go.Proofs.Ytlfahfoffdbpfaa

/- The document's Eval of any tree is the program's. -/
namespace Go.Proofs.Ytlfahfoffdbpfaa
open Go.ChangeShapes Go.WideShapes Go.ChangeAt Go.RowKit
set_option linter.unusedVariables false
set_option linter.unusedSimpArgs false

theorem good_col (cols : List Col) (row : List Val) (name : ByteArray) (h : (colR cols row name).2 = 0) : good (colR cols row name).1 = true := by
  unfold colR at *
  by_cases h1 : placeK name cols < cols.length ∧ placeK name cols < row.length
  · rw [if_pos h1] at h ⊢
    by_cases h2 : good (row.getD (placeK name cols) zeroVal) = true
    · rw [if_pos h2]; exact h2
    · rw [if_neg h2]; exact good_zero
  · rw [if_neg h1]; exact good_zero
theorem good_node (op wd : Int) (h3 : 3 ≤ op) (h20 : op ≤ 20) (vs : List Val) (h : (nodeT op wd vs).2 = 0) : good (nodeT op wd vs).1 = true := by
  unfold nodeT at *
  by_cases h1 : suitsB op (vs.map (·.k)) = false
  · rw [if_pos h1]; exact good_zero
  · rw [if_neg h1] at h ⊢
    by_cases h2 : nullsB op = false ∧ (vs.map (·.k)).any (· == 0) = true
    · rw [if_pos h2]; exact good_zero
    · rw [if_neg h2] at h ⊢
      rcases sound_do op wd h3 h20 vs with k | k
      · exact k.2.1
      · omega
theorem good_evalN (cols : List Col) (row : List Val) (x : Ex) (rs : List (Val × Int)) (h : (evalN cols row x rs).2 = 0) : good (evalN cols row x rs).1 = true := by
  unfold evalN at *
  by_cases h1 : firstE rs = 0
  · simp only [h1, ne_eq, not_true_eq_false, ↓reduceIte] at h ⊢
    by_cases h2 : formE x = 0
    · simp only [h2, ne_eq, not_true_eq_false, ↓reduceIte] at h ⊢
      by_cases h3 : x.op = 1
      · simp only [h3, ↓reduceIte]
        unfold formE at h2
        by_cases hg : good x.v = true
        · exact hg
        · exfalso
          rw [if_neg (by simp [hg, h3]), if_neg (by simp [isOp, h3])] at h2
          split at h2 <;> omega
      · simp only [h3, ↓reduceIte] at h ⊢
        by_cases h4 : x.op = 2
        · simp only [h4, ↓reduceIte] at h ⊢
          exact good_col _ _ _ h
        · simp only [h4, ↓reduceIte] at h ⊢
          have hz := formE_zero h2 h4 h3
          have hop : 3 ≤ x.op ∧ x.op ≤ 20 := by simpa [isOp] using hz.1
          exact good_node _ _ hop.1 hop.2 _ h
    · simp only [h2, ne_eq, not_false_eq_true, ↓reduceIte]
      exact good_zero
  · simp only [h1, ne_eq, not_false_eq_true, ↓reduceIte]
    exact good_zero
mutual
theorem Tr.eval_good (cols : List Col) (row : List Val) : ∀ t : Tr, (t.eval cols row).2 = 0 → good (t.eval cols row).1 = true
  | .mk op v name width args, h => by
    unfold Tr.eval at *
    exact good_evalN _ _ _ _ h
theorem Tr.evals_good (cols : List Col) (row : List Val) : ∀ ts : List Tr, ∀ z ∈ Tr.evals cols row ts, z.2 = 0 → good z.1 = true
  | [], z, hz, _ => by simp [Tr.evals] at hz
  | t :: ts, z, hz, h => by
    unfold Tr.evals at hz
    rcases List.mem_cons.1 hz with rfl | hz
    · exact Tr.eval_good cols row t h
    · exact Tr.evals_good cols row ts z hz h
end
theorem ord_same {op c : Int} (h : 10 ≤ op ∧ op ≤ 15) (wd : Int) (v1 v2 : Val) : doT op.toNat wd [v1, v2] = (boolV (ordC op (vcmp v1 v2)), 0) := by
  have hc : op = 10 ∨ op = 11 ∨ op = 12 ∨ op = 13 ∨ op = 14 ∨ op = 15 := by omega
  have e : ∀ c : Int, (c == 0) = decide (c = 0) := fun c => by cases h : decide (c = 0) <;> simp_all
  have e' : ∀ c : Int, (c != 0) = !decide (c = 0) := fun c => by cases h : decide (c = 0) <;> simp_all
  rcases hc with rfl | rfl | rfl | rfl | rfl | rfl
  · show (boolV (decide (vcmp v1 v2 = 0)), 0) = (boolV (vcmp v1 v2 == 0), (0 : Int)); rw [e]
  · show (boolV (!decide (vcmp v1 v2 = 0)), 0) = (boolV (vcmp v1 v2 != 0), (0 : Int)); rw [e']
  all_goals rfl

section
variable (op : Int) (xv : Val) (name : ByteArray) (width : Int) (A : Option Addr) (c : Nat)
set_option maxHeartbeats 1000000 in
theorem evref_op2 (cV rV : Value) (args : List (Ex × Val)) (hop : 0 ≤ op ∧ op ≤ 255) (hop2 : op ≠ 2 ∨ args ≠ []) (hok : ∀ a ∈ args, a.2.Ok) (hgd : ∀ a ∈ args, good a.2 = true) (w : World) (hl : args.length ≤ 1599289640356) (hA : RE w w.heap.size A (args.map (·.1))) (hE : ∀ a ∈ args, EvRefIs w cV rV a.1 a.2 0) :
    Calls Try.prog 25 #[.agg #[.int .u8 op, .int .u8 xv.k, .int .i64 xv.n, .string xv.s, .string name, .int .i64 width, .slice A args.length c], cV, rV] w fun en w' => en = .returned (ansV (evalR ⟨op, xv, name, width, A, args.length, c⟩ (args.map (·.2))).1 (evalR ⟨op, xv, name, width, A, args.length, c⟩ (args.map (·.2))).2) ∧ Below w.heap.size w w' := by
  rcases formB_of ⟨op, xv, name, width, A, args.length, c⟩ hop with ⟨hf, hb⟩ | ⟨hf, hb, ha⟩ | ⟨hf, hb, ha⟩
  · have e : evalR ⟨op, xv, name, width, A, args.length, c⟩ (args.map (·.2)) = (zeroVal, 21) := by unfold evalR; rw [if_pos (by rw [hf]; decide), hf]
    rw [e]
    exact evref_form op xv name width A c cV rV args hop hb w hl hA hE
  · have e : evalR ⟨op, xv, name, width, A, args.length, c⟩ (args.map (·.2)) = (zeroVal, 42) := by unfold evalR; rw [if_pos (by rw [hf]; decide), hf]
    rw [e]
    exact evref_agg op xv name width A c cV rV args hop hb ha w hl hA hE
  · by_cases h1 : op = 1
    · have e : evalR ⟨op, xv, name, width, A, args.length, c⟩ (args.map (·.2)) = (xv, 0) := by unfold evalR; rw [if_neg (by rw [hf]; decide), if_pos h1]
      rw [e]
      exact evref_lit op xv name width A c cV rV args hop hb ha (by simpa using h1) w hl hA hE
    · have h2 : op ≠ 2 := by
        intro e2
        rcases hop2 with h | h
        · exact h e2
        · exact h (formE_two hf e2)
      obtain ⟨hiso, hnargs, hwd⟩ := formE_zero hf h2 h1
      dsimp only at hnargs hwd
      have h320 : 3 ≤ op ∧ op ≤ 20 := by simpa [isOp] using hiso
      have t1 : (op == 1) = false := by simpa using h1
      have t2 : (op == 2) = false := by simpa using h2
      have et : evalR ⟨op, xv, name, width, A, args.length, c⟩ (args.map (·.2)) = nodeT op width (args.map (·.2)) := by
        unfold evalR
        rw [if_neg (by rw [hf]; decide), if_neg h1]
      have hw := wants_same h320
      rw [et]
      clear et
      by_cases h18 : op = 18
      · have hlen : args.length = 1 := by subst h18; have h9 : argsN 18 = 1 := rfl; omega
        obtain ⟨⟨y1, v1⟩, rfl⟩ := len1 hlen
        subst h18
        exact evref_isnull 18 xv name width A c cV rV _ hop hb ha t1 t2 rfl w hl hA hE |>.mono fun en w' hh => ⟨by rw [hh.1]; have e9 : nodeT 18 width [v1] = (boolV (v1.k == 0), 0) := (by unfold nodeT; rw [if_neg (by simp [suitsB, wantsN, goes2]), if_neg (by simp [nullsB])]; show (boolV ((v1.k == 0) == true), (0 : Int)) = _; simp); show _ = Ending.returned (ansV (nodeT 18 width [v1]).1 (nodeT 18 width [v1]).2); rw [e9]; simp, hh.2⟩
      by_cases h19 : op = 19
      · have hlen : args.length = 1 := by subst h19; have h9 : argsN 19 = 1 := rfl; omega
        obtain ⟨⟨y1, v1⟩, rfl⟩ := len1 hlen
        subst h19
        exact evref_notnull 19 xv name width A c cV rV _ hop hb ha t1 t2 rfl w hl hA hE |>.mono fun en w' hh => ⟨by rw [hh.1]; have e9 : nodeT 19 width [v1] = (boolV (!(v1.k == 0)), 0) := (by unfold nodeT; rw [if_neg (by simp [suitsB, wantsN, goes2]), if_neg (by simp [nullsB])]; show (boolV ((v1.k == 0) == false), (0 : Int)) = _; simp); show _ = Ending.returned (ansV (nodeT 19 width [v1]).1 (nodeT 19 width [v1]).2); rw [e9]; simp, hh.2⟩
      have t3 : (op == 18) = false := by simpa using h18
      have t4 : (op == 19) = false := by simpa using h19
      have hlen : args.length = 1 ∧ (op = 3 ∨ op = 4 ∨ op = 20) ∨ args.length = 2 ∧ (5 ≤ op ∧ op ≤ 17) := by
        unfold argsN at hnargs
        split at hnargs
        · left; omega
        · right; omega
      rcases hlen with ⟨hlen, hop1⟩ | ⟨hlen, hop1⟩
      · obtain ⟨⟨y1, v1⟩, rfl⟩ := len1 hlen
        have hor : isOrder op = false := by unfold isOrder; simp; omega
        have t6 : (op == 16) = false := by simp; omega
        have t7 : (op == 17) = false := by simp; omega
        have hnb : nullsB op = false := by unfold nullsB; simp; omega
        have hs : suitsB op [v1.k] = goesR v1.k (wantsR op) := by rw [hw]; rfl
        show Calls _ _ _ _ fun en w' => en = .returned (ansV (nodeT op width [v1]).1 (nodeT op width [v1]).2) ∧ _
        cases hgo : goesR v1.k (wantsR op)
        · have e : nodeT op width [v1] = (zeroVal, 40) := by unfold nodeT; rw [if_pos (by show suitsB op [v1.k] = false; rw [hs, hgo])]
          rw [e]
          exact evref_suit op xv name width A c cV rV _ hop hb ha t1 t2 t3 t4 (by simp [hgo]) w hl hA hE
        · have hal : ([(y1, v1)].all fun a => goesR a.2.k (wantsR op)) = true := by simp [hgo]
          cases hnu : (v1.k == 0)
          · have e : nodeT op width [v1] = doT op.toNat width [v1] := by unfold nodeT; rw [if_neg (by show ¬ suitsB op [v1.k] = false; rw [hs, hgo]; simp), if_neg (by simp [hnu])]
            rw [e]
            have hnu2 : ([(y1, v1)].any (·.2.k == 0)) = false := by simp [hnu]
            by_cases h4 : op = 4
            · subst h4
              exact evref_not 4 xv name width A c cV rV _ hop hb ha t1 t2 t3 t4 t6 t7 hor hnu2 rfl rfl hal w hl hA hE
            · refine evref_num1 op xv name width A c cV rV _ hop hb ha t1 t2 t3 t4 t6 t7 hor hnu2 (by simpa using h4) rfl ?_ hal w hl hA hE
              intro vs hvs
              subst hvs
              have hv := hok (y1, v1) (by simp)
              rcases hop1 with rfl | rfl | rfl
              · exact reck_neg width v1.n 0 hv (by unfold In6; omega)
              · exact absurd rfl h4
              · exact reck_bucket width v1.n 0 hv (by unfold In6; omega) (hwd rfl).1 (hwd rfl).2
          · have e : nodeT op width [v1] = (zeroVal, 0) := by unfold nodeT; rw [if_neg (by show ¬ suitsB op [v1.k] = false; rw [hs, hgo]; simp), if_pos ⟨hnb, by simpa using hnu⟩]
            rw [e]
            exact evref_nul1 op xv name width A c cV rV _ hop hb ha t1 t2 t3 t4 t6 t7 hor (by simp [hnu]) hal w hl hA hE
      · obtain ⟨⟨y1, v1⟩, ⟨y2, v2⟩, rfl⟩ := len2 hlen
        have hs : suitsB op [v1.k, v2.k] = (goesR v1.k (wantsR op) && (goesR v2.k (wantsR op) && (!isOrder op || goesR v1.k v2.k))) := by rw [hw]; rfl
        show Calls _ _ _ _ fun en w' => en = .returned (ansV (nodeT op width [v1, v2]).1 (nodeT op width [v1, v2]).2) ∧ _
        cases hall : (goesR v1.k (wantsR op) && goesR v2.k (wantsR op))
        · have hs0 : suitsB op [v1.k, v2.k] = false := by rw [hs, ← Bool.and_assoc, hall]; rfl
          have e : nodeT op width [v1, v2] = (zeroVal, 40) := by unfold nodeT; rw [if_pos (show suitsB op ([v1, v2].map (·.k)) = false from hs0)]
          rw [e]
          exact evref_suit op xv name width A c cV rV _ hop hb ha t1 t2 t3 t4 (by simpa using hall) w hl hA hE
        · have hs1 : suitsB op [v1.k, v2.k] = (!isOrder op || goesR v1.k v2.k) := by rw [hs, ← Bool.and_assoc, hall]; rfl
          have hal : ([(y1, v1), (y2, v2)].all fun a => goesR a.2.k (wantsR op)) = true := by simpa using hall
          have hgd2 : ∀ a ∈ [(y1, v1), (y2, v2)], good a.2 = true := hgd
          by_cases h16 : op = 16
          · subst h16
            have e : nodeT 16 width [v1, v2] = (logicT false [v1, v2], 0) := by unfold nodeT; rw [if_neg (by show ¬ suitsB 16 [v1.k, v2.k] = false; rw [hs1]; simp [isOrder]), if_neg (by simp [nullsB])]; rfl
            rw [e]
            exact evref_and 16 xv name width A c cV rV _ hop hb ha t1 t2 t3 t4 rfl rfl rfl hgd2 hal w hl hA hE
          by_cases h17 : op = 17
          · subst h17
            have e : nodeT 17 width [v1, v2] = (logicT true [v1, v2], 0) := by unfold nodeT; rw [if_neg (by show ¬ suitsB 17 [v1.k, v2.k] = false; rw [hs1]; simp [isOrder]), if_neg (by simp [nullsB])]; rfl
            rw [e]
            exact evref_or 17 xv name width A c cV rV _ hop hb ha t1 t2 t3 t4 rfl rfl rfl hgd2 hal w hl hA hE
          have t6 : (op == 16) = false := by simpa using h16
          have t7 : (op == 17) = false := by simpa using h17
          have t8 : (op == 4) = false := by simp; omega
          have hnb : nullsB op = false := by unfold nullsB; simp; omega
          cases hor : isOrder op
          · have hs2 : ¬ suitsB op [v1.k, v2.k] = false := by rw [hs1, hor]; simp
            cases hnu : ([(y1, v1), (y2, v2)].any (·.2.k == 0))
            · have e : nodeT op width [v1, v2] = doT op.toNat width [v1, v2] := by unfold nodeT; rw [if_neg (show ¬ suitsB op ([v1, v2].map (·.k)) = false from hs2), if_neg (by rintro ⟨_, h⟩; simp at h hnu; omega)]
              rw [e]
              refine evref_num2 op xv name width A c cV rV _ hop hb ha t1 t2 t3 t4 t6 t7 hor hnu t8 rfl ?_ hal w hl hA hE
              intro vs hvs
              subst hvs
              have hv1 := hok (y1, v1) (by simp)
              have hv2 := hok (y2, v2) (by simp)
              have hc : op = 5 ∨ op = 6 ∨ op = 7 ∨ op = 8 ∨ op = 9 := by unfold isOrder at hor; simp at hor; omega
              rcases hc with rfl | rfl | rfl | rfl | rfl
              · exact reck_add width v1.n v2.n hv1 hv2
              · exact reck_sub width v1.n v2.n hv1 hv2
              · exact reck_mul width v1.n v2.n hv1 hv2
              · exact reck_div width v1.n v2.n hv1 hv2
              · exact reck_mod width v1.n v2.n hv1 hv2
            · have e : nodeT op width [v1, v2] = (zeroVal, 0) := by unfold nodeT; rw [if_neg (show ¬ suitsB op ([v1, v2].map (·.k)) = false from hs2), if_pos ⟨hnb, by simpa using hnu⟩]
              rw [e]
              exact evref_nul1 op xv name width A c cV rV _ hop hb ha t1 t2 t3 t4 t6 t7 hor hnu hal w hl hA hE
          · cases hgs : goesR v1.k v2.k
            · have e : nodeT op width [v1, v2] = (zeroVal, 40) := by unfold nodeT; rw [if_pos (by show suitsB op [v1.k, v2.k] = false; rw [hs1, hor, hgs]; rfl)]
              rw [e]
              exact evref_ordbad op xv name width A c cV rV _ hop hb ha t1 t2 t3 t4 t6 t7 hor (fun vs h => by rw [← h]; exact hgs) rfl hal w hl hA hE
            · have hs2 : ¬ suitsB op [v1.k, v2.k] = false := by rw [hs1, hgs]; simp
              cases hnu : ([(y1, v1), (y2, v2)].any (·.2.k == 0))
              · have e : nodeT op width [v1, v2] = doT op.toNat width [v1, v2] := by unfold nodeT; rw [if_neg (show ¬ suitsB op ([v1, v2].map (·.k)) = false from hs2), if_neg (by rintro ⟨_, h⟩; simp at h hnu; omega)]
                rw [e, ord_same (c := 0) (by unfold isOrder at hor; simpa using hor)]
                exact evref_cmp op xv name width A c cV rV _ hop hb ha t1 t2 t3 t4 t6 t7 hor hnu (fun vs h => by rw [← h]; exact hgs) t8 rfl hal w hl hA hE
              · have e : nodeT op width [v1, v2] = (zeroVal, 0) := by unfold nodeT; rw [if_neg (show ¬ suitsB op ([v1, v2].map (·.k)) = false from hs2), if_pos ⟨hnb, by simpa using hnu⟩]
                rw [e]
                exact evref_nul2 op xv name width A c cV rV _ hop hb ha t1 t2 t3 t4 t6 t7 hor hnu (fun vs h => by rw [← h]; exact hgs) rfl hal w hl hA hE
end
section
variable (cols : List Col) (CA : Option Addr) (cc : Nat) (row : List Val) (RA : Option Addr) (rc : Nat)
theorem evref_all (op : Int) (xv : Val) (name : ByteArray) (width : Int) (A : Option Addr) (c : Nat) (args : List (Ex × (Val × Int))) (hok : ∀ a ∈ args, a.2.1.Ok) (hz : ∀ a ∈ args, a.2.2 ≠ 0 → a.2.1 = zeroVal) (hgd : ∀ a ∈ args, a.2.2 = 0 → good a.2.1 = true) (hop : 0 ≤ op ∧ op ≤ 255) (w : World) (hl : args.length ≤ 1599289640356) (hA : RE w w.heap.size A (args.map (·.1)))
    (hC : RC w w.heap.size CA cols) (hcl : cols.length ≤ 140737488355328) (hV : RV w w.heap.size RA row) (hrl : row.length ≤ 140737488355328)
    (hE : ∀ a ∈ args, EvRefIs w (.slice CA cols.length cc) (.slice RA row.length rc) a.1 a.2.1 a.2.2) :
    Calls Try.prog 25 #[.agg #[.int .u8 op, .int .u8 xv.k, .int .i64 xv.n, .string xv.s, .string name, .int .i64 width, .slice A args.length c], .slice CA cols.length cc, .slice RA row.length rc] w fun en w' => en = .returned (ansV (evalN cols row ⟨op, xv, name, width, none, args.length, 0⟩ (args.map (·.2))).1 (evalN cols row ⟨op, xv, name, width, none, args.length, 0⟩ (args.map (·.2))).2) ∧ Below w.heap.size w w' := by
  rcases first_split args with h0 | ⟨pre, bad, post, rfl, hpre, hbad⟩
  · have hf : firstE (args.map (·.2)) = 0 := firstE_zero fun a ha => by obtain ⟨z, hz, rfl⟩ := List.mem_map.1 ha; exact h0 z hz
    by_cases h2 : op = 2 ∧ args = []
    · obtain ⟨rfl, rfl⟩ := h2
      have k := evref_col 2 xv name width A c (.slice CA cols.length cc) (.slice RA row.length rc) [] hop (by rfl) (by rfl) (by rfl) (by rfl) cols CA cc row RA rc rfl rfl hcl hrl w (by simp) hA (by simp) hC hV
      have e : evalN cols row ⟨2, xv, name, width, none, 0, 0⟩ [] = colR cols row name := by
        unfold evalN
        rw [if_neg (by simp [firstE]), if_neg (by simp [formE]), if_neg (by simp), if_pos (by rfl)]
      show Calls _ _ _ _ fun en w' => en = .returned (ansV (evalN cols row ⟨2, xv, name, width, none, 0, 0⟩ []).1 (evalN cols row ⟨2, xv, name, width, none, 0, 0⟩ []).2) ∧ _
      rw [e]
      exact k
    · have k := evref_op2 op xv name width A c (.slice CA cols.length cc) (.slice RA row.length rc) (args.map fun a => (a.1, a.2.1)) hop (by
          by_cases ho : op = 2
          · right; intro h; exact h2 ⟨ho, by simpa using h⟩
          · exact .inl ho) (fun a ha => by obtain ⟨z, hz, rfl⟩ := List.mem_map.1 ha; exact hok z hz) (fun a ha => by obtain ⟨z, hz, rfl⟩ := List.mem_map.1 ha; exact hgd z hz (h0 z hz)) w (by simpa using hl) (by simpa [Function.comp_def] using hA) (fun a ha => by
          obtain ⟨z, hz, rfl⟩ := List.mem_map.1 ha
          have := hE z hz
          rw [h0 z hz] at this
          exact this)
      rw [List.length_map] at k
      have hm : (args.map fun a => (a.1, a.2.1)).map (·.2) = (args.map (·.2)).map (·.1) := by simp [Function.comp_def]
      rw [hm] at k
      have e : evalN cols row ⟨op, xv, name, width, none, args.length, 0⟩ (args.map (·.2)) = evalR ⟨op, xv, name, width, A, args.length, c⟩ ((args.map (·.2)).map (·.1)) := by
        have hfe' : formE ⟨op, xv, name, width, A, args.length, c⟩ = formE ⟨op, xv, name, width, none, args.length, 0⟩ := rfl
        unfold evalN evalR
        rw [if_neg (by rw [hf]; simp), hfe']
        dsimp only
        by_cases hfe : formE ⟨op, xv, name, width, none, args.length, 0⟩ = 0
        · simp only [hfe, ne_eq, not_true_eq_false, ↓reduceIte]
          by_cases h1 : op = 1
          · simp only [h1, ↓reduceIte]
          · simp only [h1, ↓reduceIte]
            rw [if_neg]
            intro ho
            exact h2 ⟨ho, formE_two (l := args) hfe ho⟩
        · simp only [hfe, ne_eq, not_false_eq_true, ↓reduceIte]
      rw [e]
      exact k
  · have hbz : bad.2.1 = zeroVal := hz bad (by simp) hbad
    have hbE := hE bad (by simp)
    rw [hbz] at hbE
    have k := evref_err op xv name width A (pre ++ bad :: post).length c (.slice CA cols.length cc) (.slice RA row.length rc) (pre.map fun a => (a.1, a.2.1)) bad.1 bad.2.2 (post.map (·.1)) (by simp; omega) w (by simp at hl ⊢; omega) hl (by simpa [Function.comp_def] using hA) (fun a ha => by
      obtain ⟨z, hz', rfl⟩ := List.mem_map.1 ha
      have := hE z (by simp [hz'])
      rw [hpre z hz'] at this
      exact this) hbE hbad
    have hf : firstE ((pre ++ bad :: post).map (·.2)) = bad.2.2 := by
      rw [List.map_append, List.map_cons]
      exact firstE_at (fun a ha => by obtain ⟨z, hz', rfl⟩ := List.mem_map.1 ha; exact hpre z hz') hbad
    have e : evalN cols row ⟨op, xv, name, width, none, (pre ++ bad :: post).length, 0⟩ ((pre ++ bad :: post).map (·.2)) = (zeroVal, bad.2.2) := by
      unfold evalN
      rw [if_pos (by rw [hf]; exact hbad), hf]
    rw [e]
    exact k

mutual
theorem Tr.evref_is (hcl : cols.length ≤ 140737488355328) (hrl : row.length ≤ 140737488355328) (hro : ∀ v ∈ row, v.Ok) : ∀ (t : Tr) (y : Ex) (w : World), t.ok → t.at_ w (Old w) y → RC w w.heap.size CA cols → RV w w.heap.size RA row → EvRefIs w (.slice CA cols.length cc) (.slice RA row.length rc) y (t.eval cols row).1 (t.eval cols row).2
  | .mk op v name width args, y, w, hok, hat, hC, hV => by
    intro W hb
    have hat2 := hat.later hb
    unfold Tr.at_ at hat2
    obtain ⟨h1, h2, h3, h4, h5, ys, h6, h7⟩ := hat2
    unfold Tr.ok at hok
    obtain ⟨l, hl1, hl2, hl3⟩ := Tr.evrefs_is hcl hrl hro args ys W hok.2.2.2.2.2 h7 (hC.later hb) (hV.later hb)
    obtain ⟨yop, yv, yname, ywidth, yA, yn, yc⟩ := y
    dsimp only at h1 h2 h3 h4 h5 h6
    subst h1 h2 h3 h4 h5
    have hlen : l.length = args.length := by
      have : (l.map (·.2)).length = (Tr.evals cols row args).length := by rw [hl2]
      rw [List.length_map, Tr.evals_length] at this
      exact this
    have hzz : ∀ a ∈ l, a.2.1.Ok ∧ (a.2.2 ≠ 0 → a.2.1 = zeroVal) ∧ (a.2.2 = 0 → good a.2.1 = true) := fun a ha => by
      have hm : a.2 ∈ Tr.evals cols row args := by rw [← hl2]; exact List.mem_map.2 ⟨a, ha, rfl⟩
      exact ⟨Tr.evals_ok cols row hro args hok.2.2.2.2.2 _ hm, Tr.evals_zero cols row args _ hm, Tr.evals_good cols row args _ hm⟩
    have k := evref_all cols CA cc row RA rc yop yv yname ywidth yA yc l (fun a ha => (hzz a ha).1) (fun a ha => (hzz a ha).2.1) (fun a ha => (hzz a ha).2.2) hok.2.2.1 W (by rw [hlen]; exact hok.2.1) (by rw [hl1]; exact h6.old) (hC.later hb) hcl (hV.later hb) hrl hl3
    rw [hl2, hlen] at k
    unfold Tr.eval
    exact k
theorem Tr.evrefs_is (hcl : cols.length ≤ 140737488355328) (hrl : row.length ≤ 140737488355328) (hro : ∀ v ∈ row, v.Ok) : ∀ (ts : List Tr) (ys : List Ex) (w : World), Tr.oks ts → Tr.all_ w (Old w) ts ys → RC w w.heap.size CA cols → RV w w.heap.size RA row → ∃ l : List (Ex × (Val × Int)), l.map (·.1) = ys ∧ l.map (·.2) = Tr.evals cols row ts ∧ ∀ a ∈ l, EvRefIs w (.slice CA cols.length cc) (.slice RA row.length rc) a.1 a.2.1 a.2.2
  | [], ys, w, _, hat, _, _ => by
    unfold Tr.all_ at hat
    subst hat
    exact ⟨[], rfl, by simp [Tr.evals], by simp⟩
  | t :: ts, ys, w, hok, hat, hC, hV => by
    unfold Tr.all_ at hat
    unfold Tr.oks at hok
    obtain ⟨y, ys', rfl, h2, h3⟩ := hat
    obtain ⟨l, hl1, hl2, hl3⟩ := Tr.evrefs_is hcl hrl hro ts ys' w hok.2 h3 hC hV
    refine ⟨(y, t.eval cols row) :: l, by simp [hl1], by simp [hl2, Tr.evals], fun a ha => ?_⟩
    rcases List.mem_cons.1 ha with rfl | ha
    · exact Tr.evref_is hcl hrl hro t y w hok.1 h2 hC hV
    · exact hl3 a ha
end
end
end Go.Proofs.Ytlfahfoffdbpfaa

/- ExprTells: the walk. Printed by gen_tells.py. -/
namespace Go.Proofs.Ytlfahfoffdbpfaa
open Go.ChangeShapes Go.WideShapes Go.ChangeAt Go.RowKit
set_option linter.unusedVariables false
set_option linter.unusedSimpArgs false

theorem two_all {w : World} {S : Nat → Prop} {t u : Tr} {y z : Ex} (h : t.at_ w S y) (h' : u.at_ w S z) : Tr.all_ w S [t, u] [y, z] := by
  unfold Tr.all_
  refine ⟨y, [z], rfl, h, ?_⟩
  unfold Tr.all_
  exact ⟨z, [], rfl, h', by unfold Tr.all_; rfl⟩
theorem two_oks {t u : Tr} (h : t.ok) (h' : u.ok) : Tr.oks [t, u] := by
  unfold Tr.oks
  refine ⟨h, ?_⟩
  unfold Tr.oks
  exact ⟨h', by unfold Tr.oks; trivial⟩

set_option maxHeartbeats 4000000 in
set_option maxRecDepth 100000 in
theorem tells_any (y z : Ex) (t u : Tr) (cols : List Col) (CA : Option Addr) (cc : Nat) (row : List Val) (RA : Option Addr) (rc : Nat) (w : World) (hok : t.ok) (hat : t.at_ w (Old w) y) (hok' : u.ok) (hat' : u.at_ w (Old w) z) (hC : RC w w.heap.size CA cols) (hcl : cols.length ≤ 140737488355328) (hV : RV w w.heap.size RA row) (hrl : row.length ≤ 140737488355328) (hro : ∀ v ∈ row, v.Ok) :
    Calls Try.prog 8 #[.agg #[.int .u8 y.op, .int .u8 y.v.k, .int .i64 y.v.n, .string y.v.s, .string y.name, .int .i64 y.width, .slice y.A y.n y.c], .agg #[.int .u8 z.op, .int .u8 z.v.k, .int .i64 z.v.n, .string z.v.s, .string z.name, .int .i64 z.width, .slice z.A z.n z.c], .slice CA cols.length cc, .slice RA row.length rc] w fun e w' => e = .returned (.bool true) ∧ Below w.heap.size w w' := by
  have HT := Lib.hid (Tr.type_is cols CA cc hcl t y w hok hat hC)
  have HTR := Lib.hid (Tr.tyref_is cols CA cc hcl t y w hok hat hC)
  have HE := Lib.hid (Tr.eval_is cols CA cc row RA rc hcl hrl hro t y w hok hat hC hV)
  have HER := Lib.hid (Tr.evref_is cols CA cc row RA rc hcl hrl hro t y w hok hat hC hV)
  have HS := Lib.hid (Tr.safe_is t y w hok hat)
  have HSR := Lib.hid (Tr.saferef_is t y w hok hat)
  have HSA := Lib.hid (Tr.samea_is t u y z w hok hok' hat hat')
  have HSB := Lib.hid (Tr.sameb_is t u y z w hok hok' hat hat')
  have HOK := Lib.hid hok
  have HAT := Lib.hid hat
  have HOK' := Lib.hid hok'
  have HAT' := Lib.hid hat'
  have HV := Lib.hid hV
  clear hok hat hok' hat' hC hV hro
  generalize t.type cols = ty at *
  generalize t.eval cols row = r at *
  generalize t.safe = sb at *
  generalize t.same u = sm at *
  obtain ⟨tt, te⟩ := ty
  obtain ⟨v, f⟩ := r
  dsimp only at *
  go_enter Try.func8, Try.ntmps8
  have hX := (Blk.new w 36 #[.int .u8 y.op, .int .u8 y.v.k, .int .i64 y.v.n, .string y.v.s, .string y.name, .int .i64 y.width, .slice y.A y.n y.c]).alloc (.cells #[.int .u8 z.op, .int .u8 z.v.k, .int .i64 z.v.n, .string z.v.s, .string z.name, .int .i64 z.width, .slice z.A z.n z.c] 36)
  have hY := Blk.new (w.alloc (.cells #[.int .u8 y.op, .int .u8 y.v.k, .int .i64 y.v.n, .string y.v.s, .string y.name, .int .i64 y.width, .slice y.A y.n y.c] 36)) 36 #[.int .u8 z.op, .int .u8 z.v.k, .int .i64 z.v.n, .string z.v.s, .string z.name, .int .i64 z.width, .slice z.A z.n z.c]
  rw [World.size_alloc] at hY
  have hB := Later.then (later_new w (.cells #[.int .u8 y.op, .int .u8 y.v.k, .int .i64 y.v.n, .string y.v.s, .string y.name, .int .i64 y.width, .slice y.A y.n y.c] 36)) (later_new _ (.cells #[.int .u8 z.op, .int .u8 z.v.k, .int .i64 z.v.n, .string z.v.s, .string z.name, .int .i64 z.width, .slice z.A z.n z.c] 36))
  go_upto_region 1 with fail
  generalize (w.alloc (.cells #[.int .u8 y.op, .int .u8 y.v.k, .int .i64 y.v.n, .string y.v.s, .string y.name, .int .i64 y.width, .slice y.A y.n y.c] 36)).alloc (.cells #[.int .u8 z.op, .int .u8 z.v.k, .int .i64 z.v.n, .string z.v.s, .string z.name, .int .i64 z.width, .slice z.A z.n z.c] 36) = W0 at *
  generalize w.heap.size + 1 = gy at *
  have x0 := hX.cell 0
  have x1 := hX.cell 1
  have x2 := hX.cell 2
  have x3 := hX.cell 3
  have x4 := hX.cell 4
  have x5 := hX.cell 5
  have x6 := hX.cell 6
  simp only [List.getElem?_toArray, List.getElem?_cons_zero, List.getElem?_cons_succ] at x0 x1 x2 x3 x4 x5 x6
  have y0 := hY.cell 0
  have y1 := hY.cell 1
  have y2 := hY.cell 2
  have y3 := hY.cell 3
  have y4 := hY.cell 4
  have y5 := hY.cell 5
  have y6 := hY.cell 6
  simp only [List.getElem?_toArray, List.getElem?_cons_zero, List.getElem?_cons_succ] at y0 y1 y2 y3 y4 y5 y6
  go_wp2_with fail
  clear x0 x1 x2 x3 x4 x5 x6 y0 y1 y2 y3 y4 y5 y6
  have hS := Blk.new W0 36 #[.int .u8 y.op, .int .u8 y.v.k, .int .i64 y.v.n, .string y.v.s, .string y.name, .int .i64 y.width, .slice y.A y.n y.c, .int .u8 z.op, .int .u8 z.v.k, .int .i64 z.v.n, .string z.v.s, .string z.name, .int .i64 z.width, .slice z.A z.n z.c]
  have bb := later_new W0 (.cells #[.int .u8 y.op, .int .u8 y.v.k, .int .i64 y.v.n, .string y.v.s, .string y.name, .int .i64 y.width, .slice y.A y.n y.c, .int .u8 z.op, .int .u8 z.v.k, .int .i64 z.v.n, .string z.v.s, .string z.name, .int .i64 z.width, .slice z.A z.n z.c] 36)
  replace hX := hX.later bb
  replace hY := hY.later bb
  replace hB := Later.then hB bb
  clear bb
  refine (great_any (some ⟨W0.heap.size, 0, none⟩) 2 [t, u] [y, z] cols CA cc row RA rc _ (by simp) (two_oks HOK.out HOK'.out) (two_all (HAT.out.later hB) (HAT'.out.later hB)) (re_two hS) (HV.out.later hB) hcl hrl).mono ?_
  clear hS
  rintro e_ w1 ⟨bg, rfl, b1⟩
  replace hX := hX.later b1
  replace hY := hY.later b1
  replace hB := Later.then hB b1
  clear b1
  cases bg
  · have x0 := hX.cell 0
    have x1 := hX.cell 1
    have x2 := hX.cell 2
    have x3 := hX.cell 3
    have x4 := hX.cell 4
    have x5 := hX.cell 5
    have x6 := hX.cell 6
    simp only [List.getElem?_toArray, List.getElem?_cons_zero, List.getElem?_cons_succ] at x0 x1 x2 x3 x4 x5 x6
    have y0 := hY.cell 0
    have y1 := hY.cell 1
    have y2 := hY.cell 2
    have y3 := hY.cell 3
    have y4 := hY.cell 4
    have y5 := hY.cell 5
    have y6 := hY.cell 6
    simp only [List.getElem?_toArray, List.getElem?_cons_zero, List.getElem?_cons_succ] at y0 y1 y2 y3 y4 y5 y6
    go_wp2_with fail
    clear x0 x1 x2 x3 x4 x5 x6 y0 y1 y2 y3 y4 y5 y6
    refine (HT.out _ hB).mono ?_
    rintro e_ w2 ⟨rfl, b1⟩
    replace hX := hX.later b1
    replace hY := hY.later b1
    replace hB := Later.then hB b1
    clear b1
    have x0 := hX.cell 0
    have x1 := hX.cell 1
    have x2 := hX.cell 2
    have x3 := hX.cell 3
    have x4 := hX.cell 4
    have x5 := hX.cell 5
    have x6 := hX.cell 6
    simp only [List.getElem?_toArray, List.getElem?_cons_zero, List.getElem?_cons_succ] at x0 x1 x2 x3 x4 x5 x6
    have y0 := hY.cell 0
    have y1 := hY.cell 1
    have y2 := hY.cell 2
    have y3 := hY.cell 3
    have y4 := hY.cell 4
    have y5 := hY.cell 5
    have y6 := hY.cell 6
    simp only [List.getElem?_toArray, List.getElem?_cons_zero, List.getElem?_cons_succ] at y0 y1 y2 y3 y4 y5 y6
    go_wp2_with fail
    clear x0 x1 x2 x3 x4 x5 x6 y0 y1 y2 y3 y4 y5 y6
    refine (HTR.out _ hB).mono ?_
    rintro e_ w3 ⟨rfl, b1⟩
    replace hX := hX.later b1
    replace hY := hY.later b1
    replace hB := Later.then hB b1
    clear b1
    have x0 := hX.cell 0
    have x1 := hX.cell 1
    have x2 := hX.cell 2
    have x3 := hX.cell 3
    have x4 := hX.cell 4
    have x5 := hX.cell 5
    have x6 := hX.cell 6
    simp only [List.getElem?_toArray, List.getElem?_cons_zero, List.getElem?_cons_succ] at x0 x1 x2 x3 x4 x5 x6
    have y0 := hY.cell 0
    have y1 := hY.cell 1
    have y2 := hY.cell 2
    have y3 := hY.cell 3
    have y4 := hY.cell 4
    have y5 := hY.cell 5
    have y6 := hY.cell 6
    simp only [List.getElem?_toArray, List.getElem?_cons_zero, List.getElem?_cons_succ] at y0 y1 y2 y3 y4 y5 y6
    go_wp2_with fail
    clear x0 x1 x2 x3 x4 x5 x6 y0 y1 y2 y3 y4 y5 y6
    refine (HE.out _ hB).mono ?_
    rintro e_ w4 ⟨rfl, b1⟩
    replace hX := hX.later b1
    replace hY := hY.later b1
    replace hB := Later.then hB b1
    clear b1
    unfold ansV
    have bb := later_new w4 (.cells #[.int .u8 v.k, .int .i64 v.n, .string v.s] 23)
    have hv1 := Blk.new w4 23 #[.int .u8 v.k, .int .i64 v.n, .string v.s]
    replace hX := hX.later bb
    replace hY := hY.later bb
    replace hB := Later.then hB bb
    clear bb
    have x0 := hX.cell 0
    have x1 := hX.cell 1
    have x2 := hX.cell 2
    have x3 := hX.cell 3
    have x4 := hX.cell 4
    have x5 := hX.cell 5
    have x6 := hX.cell 6
    simp only [List.getElem?_toArray, List.getElem?_cons_zero, List.getElem?_cons_succ] at x0 x1 x2 x3 x4 x5 x6
    have y0 := hY.cell 0
    have y1 := hY.cell 1
    have y2 := hY.cell 2
    have y3 := hY.cell 3
    have y4 := hY.cell 4
    have y5 := hY.cell 5
    have y6 := hY.cell 6
    simp only [List.getElem?_toArray, List.getElem?_cons_zero, List.getElem?_cons_succ] at y0 y1 y2 y3 y4 y5 y6
    go_wp2_with fail
    clear x0 x1 x2 x3 x4 x5 x6 y0 y1 y2 y3 y4 y5 y6
    refine (HER.out _ hB).mono ?_
    rintro e_ w5 ⟨rfl, b1⟩
    replace hX := hX.later b1
    replace hY := hY.later b1
    replace hv1 := hv1.later b1
    replace hB := Later.then hB b1
    clear b1
    unfold ansV
    have bb := later_new w5 (.cells #[.int .u8 v.k, .int .i64 v.n, .string v.s] 23)
    have hv2 := Blk.new w5 23 #[.int .u8 v.k, .int .i64 v.n, .string v.s]
    replace hX := hX.later bb
    replace hY := hY.later bb
    replace hv1 := hv1.later bb
    replace hB := Later.then hB bb
    clear bb
    have x0 := hX.cell 0
    have x1 := hX.cell 1
    have x2 := hX.cell 2
    have x3 := hX.cell 3
    have x4 := hX.cell 4
    have x5 := hX.cell 5
    have x6 := hX.cell 6
    simp only [List.getElem?_toArray, List.getElem?_cons_zero, List.getElem?_cons_succ] at x0 x1 x2 x3 x4 x5 x6
    have y0 := hY.cell 0
    have y1 := hY.cell 1
    have y2 := hY.cell 2
    have y3 := hY.cell 3
    have y4 := hY.cell 4
    have y5 := hY.cell 5
    have y6 := hY.cell 6
    simp only [List.getElem?_toArray, List.getElem?_cons_zero, List.getElem?_cons_succ] at y0 y1 y2 y3 y4 y5 y6
    go_wp2_with fail
    clear x0 x1 x2 x3 x4 x5 x6 y0 y1 y2 y3 y4 y5 y6
    have hS := Blk.new (w5.alloc (.cells #[.int .u8 v.k, .int .i64 v.n, .string v.s] 23)) 36 #[.int .u8 y.op, .int .u8 y.v.k, .int .i64 y.v.n, .string y.v.s, .string y.name, .int .i64 y.width, .slice y.A y.n y.c, .int .u8 z.op, .int .u8 z.v.k, .int .i64 z.v.n, .string z.v.s, .string z.name, .int .i64 z.width, .slice z.A z.n z.c]
    rw [World.size_alloc] at hS
    have bb := later_new (w5.alloc (.cells #[.int .u8 v.k, .int .i64 v.n, .string v.s] 23)) (.cells #[.int .u8 y.op, .int .u8 y.v.k, .int .i64 y.v.n, .string y.v.s, .string y.name, .int .i64 y.width, .slice y.A y.n y.c, .int .u8 z.op, .int .u8 z.v.k, .int .i64 z.v.n, .string z.v.s, .string z.name, .int .i64 z.width, .slice z.A z.n z.c] 36)
    replace hX := hX.later bb
    replace hY := hY.later bb
    replace hv1 := hv1.later bb
    replace hv2 := hv2.later bb
    replace hB := Later.then hB bb
    clear bb
    refine (true_any (some ⟨w5.heap.size + 1, 0, none⟩) 2 2 (by omega) (by omega) y [z] _ _ (v, f) _ (re_two hS) (fun W' hW' => HE.out W' (Later.then hB hW'))).mono ?_
    clear hS
    rintro e_ w6 ⟨rfl, b1⟩
    replace hX := hX.later b1
    replace hY := hY.later b1
    replace hv1 := hv1.later b1
    replace hv2 := hv2.later b1
    replace hB := Later.then hB b1
    clear b1
    have x0 := hX.cell 0
    have x1 := hX.cell 1
    have x2 := hX.cell 2
    have x3 := hX.cell 3
    have x4 := hX.cell 4
    have x5 := hX.cell 5
    have x6 := hX.cell 6
    simp only [List.getElem?_toArray, List.getElem?_cons_zero, List.getElem?_cons_succ] at x0 x1 x2 x3 x4 x5 x6
    have y0 := hY.cell 0
    have y1 := hY.cell 1
    have y2 := hY.cell 2
    have y3 := hY.cell 3
    have y4 := hY.cell 4
    have y5 := hY.cell 5
    have y6 := hY.cell 6
    simp only [List.getElem?_toArray, List.getElem?_cons_zero, List.getElem?_cons_succ] at y0 y1 y2 y3 y4 y5 y6
    go_wp2_with fail
    clear x0 x1 x2 x3 x4 x5 x6 y0 y1 y2 y3 y4 y5 y6
    have hS := Blk.new w6 36 #[.int .u8 y.op, .int .u8 y.v.k, .int .i64 y.v.n, .string y.v.s, .string y.name, .int .i64 y.width, .slice y.A y.n y.c]
    have bb := later_new w6 (.cells #[.int .u8 y.op, .int .u8 y.v.k, .int .i64 y.v.n, .string y.v.s, .string y.name, .int .i64 y.width, .slice y.A y.n y.c] 36)
    replace hX := hX.later bb
    replace hY := hY.later bb
    replace hv1 := hv1.later bb
    replace hv2 := hv2.later bb
    replace hB := Later.then hB bb
    clear bb
    refine (trueref_any (some ⟨w6.heap.size, 0, none⟩) 1 1 (by omega) (by omega) y [] _ _ (v, f) _ (re_one hS) (fun W' hW' => HER.out W' (Later.then hB hW'))).mono ?_
    clear hS
    rintro e_ w7 ⟨rfl, b1⟩
    replace hX := hX.later b1
    replace hY := hY.later b1
    replace hv1 := hv1.later b1
    replace hv2 := hv2.later b1
    replace hB := Later.then hB b1
    clear b1
    generalize (trueV (v, f)).1 = tb
    generalize (trueV (v, f)).2 = te2
    go_wp2_with fail
    refine (true_nil none 0 _ _ _).mono ?_
    rintro e_ w8 ⟨rfl, rfl⟩
    go_wp2_with fail
    have xz0 := fun q : Ext w7.heap.size w7 => (hX.later q.h).cell 0
    have xz1 := fun q : Ext w7.heap.size w7 => (hX.later q.h).cell 1
    have xz2 := fun q : Ext w7.heap.size w7 => (hX.later q.h).cell 2
    have xz3 := fun q : Ext w7.heap.size w7 => (hX.later q.h).cell 3
    have xz4 := fun q : Ext w7.heap.size w7 => (hX.later q.h).cell 4
    have xz5 := fun q : Ext w7.heap.size w7 => (hX.later q.h).cell 5
    have xz6 := fun q : Ext w7.heap.size w7 => (hX.later q.h).cell 6
    simp only [List.getElem?_toArray, List.getElem?_cons_zero, List.getElem?_cons_succ] at xz0 xz1 xz2 xz3 xz4 xz5 xz6
    have yz0 := fun q : Ext w7.heap.size w7 => (hY.later q.h).cell 0
    have yz1 := fun q : Ext w7.heap.size w7 => (hY.later q.h).cell 1
    have yz2 := fun q : Ext w7.heap.size w7 => (hY.later q.h).cell 2
    have yz3 := fun q : Ext w7.heap.size w7 => (hY.later q.h).cell 3
    have yz4 := fun q : Ext w7.heap.size w7 => (hY.later q.h).cell 4
    have yz5 := fun q : Ext w7.heap.size w7 => (hY.later q.h).cell 5
    have yz6 := fun q : Ext w7.heap.size w7 => (hY.later q.h).cell 6
    simp only [List.getElem?_toArray, List.getElem?_cons_zero, List.getElem?_cons_succ] at yz0 yz1 yz2 yz3 yz4 yz5 yz6
    have z1 := fun q : Ext w7.heap.size w7 => val_cells (hv1.later q.h)
    have z2 := fun q : Ext w7.heap.size w7 => val_cells (hv2.later q.h)
    have hs1 := fun q : Ext w7.heap.size w7 => HS.out q.w (Later.then hB q.h)
    have hs2 := fun q : Ext w7.heap.size w7 => HSR.out q.w (Later.then hB q.h)
    have hs3 := fun q : Ext w7.heap.size w7 => HSA.out q.w (Later.then hB q.h)
    have hs4 := fun q : Ext w7.heap.size w7 => HSB.out q.w (Later.then hB q.h)
    refine region_cut 54 w7.heap.size w7 (Below.refl _ _) (by kernel_rfl) (by kernel_rfl) (by kernel_rfl) (by kernel_rfl) ?_
    simp only [List.append, List.take_succ_cons, List.take_zero, List.drop_succ_cons, List.drop_zero]
    repeat (go_big_quiet_step (fail))
    go_big_quiet_step ((go_at_call 22; exact calls_later (Nat.le_refl _) (hs1 _)))
    repeat (go_big_quiet_step (fail))
    go_big_quiet_step ((go_at_call 27; exact calls_later (Nat.le_refl _) (hs2 _)))
    repeat (go_big_quiet_step (fail))
    go_big_quiet_step ((go_at_call 28; exact calls_later (Nat.le_refl _) (hs3 _)))
    repeat (go_big_quiet_step (fail))
    go_big_quiet_step ((go_at_call 29; exact calls_later (Nat.le_refl _) (hs4 _)))
    repeat (go_big_quiet_step (fail))
    go_big_quiet_step ((go_at_call 12; exact calls_later (Nat.le_refl _) (wakes_any _)))
    repeat (go_big_quiet_step (fail))
    refine wpQuiet_nil ?_
    rintro V4 ⟨x9, hx9⟩
    have hW := x9.h
    rw [← hx9] at hW
    clear hx9 x9
    go_wp2_with fail
    go_ret
    exact ⟨rfl, Later.then hB hW⟩
  · go_wp2_with fail
    refine (wakes_any _).mono ?_
    rintro e_ w9 ⟨rfl, b9⟩
    go_wp2_with fail
    go_ret
    exact ⟨rfl, Later.then hB b9⟩
end Go.Proofs.Ytlfahfoffdbpfaa

/- ExprTells: the walk, as the frame wants it. -/
namespace Go.Proofs.Ytlfahfoffdbpfaa
open Go.ChangeShapes Go.WideShapes Go.ChangeAt Go.RowKit
set_option linter.unusedVariables false
set_option maxRecDepth 100000
theorem tells_walk {H : Type} (enc : TypeId × Value → H) (W : World) (base : Nat) (v0 v1 v2 v3 : Value) (d0 d1 d2 d3 : DataW H) (p0 p1 p2 p3 : List MemPlace)
    (ok0 : Value.okWide Try.prog W .any base 36 v0) (ok1 : Value.okWide Try.prog W .any base 36 v1) (ok2 : Value.okWide Try.prog W .any base 43 v2) (ok3 : Value.okWide Try.prog W .any base 40 v3)
    (k0 : DataW.Trod enc Try.prog W 0 (fun _ => true) true 36 v0 d0 p0) (k1 : DataW.Trod enc Try.prog W 0 (fun _ => true) true 36 v1 d1 p1) (k2 : DataW.Trod enc Try.prog W 0 (fun _ => true) true 43 v2 d2 p2) (k3 : DataW.Trod enc Try.prog W 0 (fun _ => true) true 40 v3 d3 p3)
    (l0 : Light 36 d0) (l1 : Light 36 d1) (l2 : Light 43 d2) (l3 : Light 40 d3) :
    Calls Try.prog 8 #[v0, v1, v2, v3] W fun e w' => e = .returned (.bool true) ∧ Below W.heap.size W w' := by
  obtain ⟨y, t, rfl, hat, hok⟩ := expr_open ok0 k0 l0
  obtain ⟨z, u, rfl, hat', hok'⟩ := expr_open ok1 k1 l1
  obtain ⟨CA, cols, cc, rfl, hC, hcl, _⟩ := cols_open ok2 k2 l2
  obtain ⟨RA, row, rc, rfl, hV, hrl, hro⟩ := vals_open ok3 k3 l3
  exact tells_any y z t u cols CA cc row RA rc W hok hat hok' hat' hC hcl hV hrl (fun v hv => (hro v hv).1)
end Go.Proofs.Ytlfahfoffdbpfaa

namespace Go.Proofs.Ytlfahfoffdbpfaa.exprTells
open Go.ChangeShapes Go.WideShapes Go.ChangeAt Go.RowKit
set_option linter.unusedVariables false

theorem own : ownKnob Try.prog.godebug = none := by kernel_rfl
theorem laidOut : laidOutB Try.prog = true := by kernel_rfl

set_option maxRecDepth 100000 in
theorem lifted (os : Os) (started : os.Started) (H : Type) (enc : TypeId × Value → H) :
    ReturnsInHanded {} Try.checked os 8 .any (Rows.exprTellsSpec.pre6 enc Try.prog Try.f8 Rows.exprTellsRow.domain false) (Rows.exprTellsSpec.post enc Try.prog Try.f8 false true false false) := by
  refine returnsInHanded_of_change_sized (C := Try.checked) own started (by kernel_rfl) Try.func8
    (ChangeSpec.witness6 (enc := enc) (C := Try.checked) false ⟨#[], #[.agg #[.int .u8 1, .int .u8 0, .int .i64 0, .string ⟨#[]⟩, .string ⟨#[]⟩, .int .i64 0, .slice none 0 0], .agg #[.int .u8 1, .int .u8 0, .int .i64 0, .string ⟨#[]⟩, .string ⟨#[]⟩, .int .i64 0, .slice none 0 0], .slice none 0 0, .slice none 0 0], []⟩ 8 (by kernel_rfl) (by kernel_rfl) (by kernel_rfl) (by kernel_rfl)) ?_
  intro W base args ds gs before hval0 hW hcnd hsz0 _
  have hval : ∀ (j : Nat) t v, Try.f8.params[j]? = some t → args[j]? = some v → Value.okWide Try.prog W .any base t v := hval0
  have hsz : (DataW.weightsEach Try.prog (Try.f8.params.toList ++ Rows.exprTellsSpec.plain.varTypes Try.prog) (ds ++ gs)).all (· ≤ reachBytes) = true := hsz0
  have hW' := hW
  obtain ⟨p, q, hA0, hV, rfl, hfz, hnd⟩ := hW
  have hA : DataW.TrodAll enc Try.prog W 0 (fun _ => true) true Try.f8.params.toList args.toList ds p := hA0
  rw [Try.params8] at hA hval hsz
  obtain ⟨v0, vs0, d0, ds0, p0, q0, hargs, rfl, rfl, h0, r0⟩ := trodAll_cons hA
  obtain ⟨v1, vs1, d1, ds1, p1, q1, rfl, rfl, rfl, h1, r1⟩ := trodAll_cons r0
  obtain ⟨v2, vs2, d2, ds2, p2, q2, rfl, rfl, rfl, h2, r2⟩ := trodAll_cons r1
  obtain ⟨v3, vs3, d3, ds3, p3, q3, rfl, rfl, rfl, h3, r3⟩ := trodAll_cons r2
  obtain ⟨rfl, rfl, rfl⟩ := trodAll_nil r3
  obtain rfl : args = #[v0, v1, v2, v3] := by cases args; simp_all
  obtain ⟨rfl, rfl⟩ := trodVars_none hV
  have l0 : Light 36 d0 := fun n hn => of_decide_eq_true (List.all_eq_true.1 hsz n (DataW.weights_mem_each (j := 0) rfl rfl n hn))
  have l1 : Light 36 d1 := fun n hn => of_decide_eq_true (List.all_eq_true.1 hsz n (DataW.weights_mem_each (j := 1) rfl rfl n hn))
  have l2 : Light 43 d2 := fun n hn => of_decide_eq_true (List.all_eq_true.1 hsz n (DataW.weights_mem_each (j := 2) rfl rfl n hn))
  have l3 : Light 40 d3 := fun n hn => of_decide_eq_true (List.all_eq_true.1 hsz n (DataW.weights_mem_each (j := 3) rfl rfl n hn))
  have lt0 : ∀ x ∈ p0, x.block < W.heap.size := by obtain ⟨m, hm⟩ := h0; exact DataW.trod_lt m _ _ _ hm
  have lt1 : ∀ x ∈ p1, x.block < W.heap.size := by obtain ⟨m, hm⟩ := h1; exact DataW.trod_lt m _ _ _ hm
  have lt2 : ∀ x ∈ p2, x.block < W.heap.size := by obtain ⟨m, hm⟩ := h2; exact DataW.trod_lt m _ _ _ hm
  have lt3 : ∀ x ∈ p3, x.block < W.heap.size := by obtain ⟨m, hm⟩ := h3; exact DataW.trod_lt m _ _ _ hm
  refine (tells_walk enc W base v0 v1 v2 v3 d0 d1 d2 d3 p0 p1 p2 p3 (hval 0 36 v0 rfl rfl) (hval 1 36 v1 rfl rfl) (hval 2 43 v2 rfl rfl) (hval 3 40 v3 rfl rfl) h0 h1 h2 h3 l0 l1 l2 l3).mono fun e W' ⟨he, bel⟩ => ?_
  subst he
  exact ⟨_, rfl, _, _, _, [], _, [], hW', trodAll_mk1 (shut_bool Try.underlying4 _), (trodAll_cons_mk (Below.trod laidOut (by kernel_rfl) (of_decide_eq_true (by kernel_rfl)) h0 bel lt0) (trodAll_cons_mk (Below.trod laidOut (by kernel_rfl) (of_decide_eq_true (by kernel_rfl)) h1 bel lt1) (trodAll_cons_mk (Below.trod laidOut (by kernel_rfl) (of_decide_eq_true (by kernel_rfl)) h2 bel lt2) (trodAll_cons_mk (Below.trod laidOut (by kernel_rfl) (of_decide_eq_true (by kernel_rfl)) h3 bel lt3) trodAll_mk0)))), rfl, bel.frame _, fun h => by cases h⟩

theorem over : Rows.exprTellsRow.holds Try.pinned (OpenSpec.ofChange Rows.exprTellsSpec) :=
  OpenClaim.holds_of_wide 8 Try.f8 rfl rfl rfl rfl rfl rfl rfl ⟨rfl, rfl, rfl, rfl, rfl⟩ rfl rfl rfl rfl rfl (by kernel_rfl) Try.func8 (by kernel_rfl)
    (of_decide_eq_true (by kernel_rfl)) (by unfold Func.isWrapper; first | (rw [if_pos (by decide +kernel)]; kernel_rfl) | (rw [if_neg (by decide +kernel)]; exact ⟨rfl, rfl⟩))
    (fun os started H enc _ => lifted os started H enc)
end Go.Proofs.Ytlfahfoffdbpfaa.exprTells
namespace Go.Proofs.Ytlfahfoffdbpfaa
/-- the statement -/
theorem exprTells_proved : Rows.ExprTellsSaid := exprTells.over
end Go.Proofs.Ytlfahfoffdbpfaa
#print axioms Go.Proofs.Ytlfahfoffdbpfaa.exprTells_proved
