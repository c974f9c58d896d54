/- The law's own functions: number, fed, great. -/
import Derived.Test.YtjpgahfabmgpiaaAdd
namespace Go.Proofs.Ytjpgahfabmgpiaa
open Go.ChangeShapes Go.WideShapes Go.ChangeAt Go.RowKit
set_option linter.unusedVariables false

/-- the cells of a pair -/
def PairAt (w : World) (b off : Nat) (x : Val × Val) : Prop :=
  w.cell? ⟨b, off, none⟩ = some (.int .u8 x.1.k) ∧ w.cell? ⟨b, off + 1, none⟩ = some (.int .i64 x.1.n) ∧ w.cell? ⟨b, off + 2, none⟩ = some (.string x.1.s) ∧
  w.cell? ⟨b, off + 3, none⟩ = some (.int .u8 x.2.k) ∧ w.cell? ⟨b, off + 4, none⟩ = some (.int .i64 x.2.n) ∧ w.cell? ⟨b, off + 5, none⟩ = some (.string x.2.s)
/-- a slice that reads as pairs -/
def RP (w : World) (B : Nat) (A : Option Addr) (l : List (Val × Val)) : Prop :=
  l = [] ∨ ∃ b off, A = some ⟨b, off, none⟩ ∧ b < B ∧ ∀ i x, l[i]? = some x → PairAt w b (off + i * 6) x
theorem PairAt.keep {w w' : World} {b off : Nat} {x : Val × Val} (h : PairAt w b off x) (hk : ∀ o, w'.cell? ⟨b, o, none⟩ = w.cell? ⟨b, o, none⟩) : PairAt w' b off x := by
  unfold PairAt at *
  simp only [hk]
  exact h
theorem RP.below {w w' : World} {B : Nat} {A : Option Addr} {l : List (Val × Val)} (h : RP w B A l) (hb : Below B w w') : RP w' B A l := by
  rcases h with h | ⟨b, off, h1, h2, h3⟩
  · exact .inl h
  · exact .inr ⟨b, off, h1, h2, fun i x hx => (h3 i x hx).keep fun o => hb.cell (p := ⟨b, o, none⟩) h2⟩
theorem RP.more {w : World} {B B' : Nat} {A : Option Addr} {l : List (Val × Val)} (h : RP w B A l) (hB : B ≤ B') : RP w B' A l := by
  rcases h with h | ⟨b, off, h1, h2, h3⟩
  · exact .inl h
  · exact .inr ⟨b, off, h1, by omega, h3⟩
theorem RP.at_ {w : World} {B : Nat} {A : Option Addr} {l : List (Val × Val)} (h : RP w B A l) {k : Nat} (hk : k < l.length) : ∃ b off, A = some ⟨b, off, none⟩ ∧ b < B ∧ PairAt w b (off + k * 6) l[k] := by
  rcases h with h | ⟨b, off, h1, h2, h3⟩
  · subst h; simp at hk
  · exact ⟨b, off, h1, h2, h3 k _ (List.getElem?_eq_getElem hk)⟩

set_option maxHeartbeats 1000000 in
theorem lnumber_any (n : Int) (w : World) : Calls Try.prog 8 #[.int .i64 n] w fun e w' => e = .returned (.agg #[.int .u8 2, .int .i64 n, .string ByteArray.empty]) ∧ Below w.heap.size w w' := by
  go_enter Try.func8, Try.ntmps8
  go_wp2
  exact bodyPost_ret (v := .agg #[.int .u8 2, .int .i64 n, .string ByteArray.empty]) (by simp [results, Try.results8, go_sem]; rfl) rfl ⟨rfl, by go_grown⟩

/-- a state to which pairs were fed -/
def St.feeds (s : St) (l : List (Val × Val)) : St := l.foldl (fun s x => s.feed x.1 x.2) s
def fedSt (op : Int) (l : List (Val × Val)) : St := (stNew op).feeds l

theorem does_op (s : St) (a b : Val) : (s.does a b).op = s.op ∧ (s.does a b).all = s.all := by
  unfold St.does St.some_ St.put St.alone St.timed St.take
  repeat' (first | exact ⟨rfl, rfl⟩ | split)
theorem does_count (s : St) (a b : Val) : (s.count ≤ (s.does a b).count ∧ (s.does a b).count ≤ s.count + 1) := by
  unfold St.does St.some_ St.put St.alone St.timed St.take
  repeat' (first | omega | (dsimp only; omega) | split)
theorem does_sum (s : St) (a b : Val) (h0 : 0 ≤ s.sum) (h1 : s.sum < M * M) : 0 ≤ (s.does a b).sum ∧ (s.does a b).sum < M * M := by
  have := wplus_bd s.sum (widen a.n)
  unfold St.does St.some_ St.put St.alone St.timed St.take
  repeat' (first | exact ⟨h0, h1⟩ | exact this | split)

/-- how the numbers of a state stand behind n pairs -/
structure St.Near (s : St) (op : Int) (n : Int) : Prop where
  op : s.op = op
  all : s.all = n
  count0 : 0 ≤ s.count
  count1 : s.count ≤ n
  sum0 : 0 ≤ s.sum
  sum1 : s.sum < M * M
theorem near_new (op : Int) : (stNew op).Near op 0 := ⟨rfl, rfl, by simp [stNew], by simp [stNew], by simp [stNew], by simp [stNew, M]⟩
theorem near_feed {s : St} {op n : Int} (h : s.Near op n) (a b : Val) : (s.feed a b).Near op (n + 1) := by
  have h1 := does_op { s with all := s.all + 1 } a b
  have h2 := does_count { s with all := s.all + 1 } a b
  have h3 := does_sum { s with all := s.all + 1 } a b h.sum0 h.sum1
  unfold St.feed
  simp only at h1 h2
  refine ⟨h1.1.trans h.op, by rw [h1.2, h.all], ?_, ?_, h3.1, h3.2⟩
  · have := h.count0; omega
  · have := h.count1; omega
theorem near_ok {s : St} {op n : Int} (h : s.Near op n) (h0 : 21 ≤ op) (h1 : op ≤ 28) (hn0 : 0 ≤ n) (hn : n < 4611686018427387904) : s.Ok := by
  refine ⟨by rw [h.op]; exact h0, by rw [h.op]; exact h1, by rw [h.all]; exact hn0, by rw [h.all]; omega, h.count0, ?_, h.sum0, h.sum1⟩
  have := h.count1; omega
theorem near_feeds (op : Int) : ∀ (l : List (Val × Val)) (s : St) (n : Int), s.Near op n → (s.feeds l).Near op (n + l.length)
  | [], s, n, h => by simpa [St.feeds] using h
  | x :: l, s, n, h => by
    have := near_feeds op l _ _ (near_feed h x.1 x.2)
    simp only [St.feeds, List.foldl_cons, List.length_cons] at this ⊢
    rwa [show n + ((l.length + 1 : Nat) : Int) = n + 1 + (l.length : Int) by omega]

def FedPost (op : Int) (l : List (Val × Val)) (w : World) (e : Ending) (w' : World) : Prop := ∃ p, w.heap.size ≤ p ∧ e = .returned (.pointer (some ⟨p, 0, none⟩)) ∧ StAt w' p (fedSt op l) ∧ Below w.heap.size w w'

set_option maxHeartbeats 2000000 in
set_option maxRecDepth 100000 in
theorem fed_any (op : Int) (A : Option Addr) (c : Nat) (l : List (Val × Val)) (w : World) (hop : isAgg op = true) (h : RP w w.heap.size A l) (hl : l.length ≤ 1000000) (hv : ∀ x ∈ l, x.1.Ok) :
    Calls Try.prog 9 #[.int .u8 op, .slice A l.length c] w (FedPost op l w) := by
  have HH := Lib.hid h
  have HV := Lib.hid hv
  clear h hv
  go_enter Try.func9, Try.ntmps9
  go_wp2_with fail
  refine (new_any op _ hop).mono ?_
  rintro e w1 ⟨p, hp, rfl, hS, hB⟩
  go_wp2_with fail
  have hop2 : 21 ≤ op ∧ op ≤ 28 := by simpa [isAgg] using hop
  clear hop
  go_loopw [7] (fun i wr => ∃ k : Nat, k ≤ l.length ∧ i = .int .i64 k ∧ StAt wr p ((stNew op).feeds (l.take k)) ∧ Below w.heap.size w wr) (fun i _ => l.length - (intOf i).toNat)
  case atStart => exact ⟨0, Nat.zero_le _, rfl, hS, hB⟩
  case round =>
    obtain ⟨k, hk, rfl, hS1, hB1⟩ := hrel
    clear hS hB
    by_cases hlt : k < l.length
    · have hRP := HH.out.below hB1
      obtain ⟨b, off, rfl, hb, hpair⟩ := hRP.at_ hlt
      have hvk := HV.out l[k] (List.getElem_mem hlt)
      have hnear := near_feeds op (l.take k) (stNew op) 0 (near_new op)
      have hlen : (l.take k).length = k := by simp; omega
      rw [hlen] at hnear
      have hok := near_ok hnear hop2.1 hop2.2 (by omega) (by omega)
      have hall : ((stNew op).feeds (l.take k)).all < 4611686018427387904 := by rw [hnear.all]; omega
      have HN := Lib.hid (show (stNew op).feeds (l.take (k + 1)) = ((stNew op).feeds (l.take k)).feed l[k].1 l[k].2 by
        unfold St.feeds; rw [List.take_add_one, List.getElem?_eq_getElem hlt, List.foldl_append]; rfl)
      generalize (stNew op).feeds (l.take k) = s at *
      generalize l[k] = x at *
      clear hnear hlen
      have HOK := Lib.hid hok
      clear hok
      go_wp2_with fail
      have cS := fun y : Ext wr.heap.size wr => hpair.keep (w' := y.w) fun o => y.cell (p := ⟨b, o, none⟩) (by have := hB1.size; simp; omega)
      unfold PairAt at cS
      refine region_cut 11 wr.heap.size wr (Below.refl _ _) (by kernel_rfl) (by kernel_rfl) (by kernel_rfl) (by kernel_rfl) ?_
      simp only [List.take_succ_cons, List.take_zero, List.drop_succ_cons, List.drop_zero]
      repeat (go_big_quiet_step (fail))
      refine wpQuiet_nil ?_
      rintro W2 ⟨x2, hx2⟩
      have hW := x2.h
      rw [← hx2] at hW
      clear hx2 x2 cS
      go_wp2_with fail
      refine (feed_any p s x.1 x.2 W2 (Blk.later hS1 hW) HOK.out hall hvk).mono ?_
      rintro e w2 ⟨rfl, hS2, hg⟩
      go_wp2_with fail
      go_roundw
      case rel => exact ⟨k + 1, hlt, by go_num, by rw [HN.out]; exact hS2, (hB1.trans (hW.mono hB1.size)).trans (below_grown hg (by have := hB1.size; have := hW.size; omega) hp)⟩
      case measure => simp [intOf]; omega
    · go_wp2_with fail
      go_ret
      exact ⟨p, hp, rfl, by rwa [List.take_of_length_le (by omega)] at hS1, hB1⟩
end Go.Proofs.Ytjpgahfabmgpiaa
