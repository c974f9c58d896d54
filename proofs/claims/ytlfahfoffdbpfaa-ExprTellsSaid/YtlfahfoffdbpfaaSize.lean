/- tidelinelaw14.Size: what it returns; tidelinelaw15.great returns a bool. -/
import Derived.Test.YtlfahfoffdbpfaaOpenT
namespace Go.Proofs.Ytlfahfoffdbpfaa
open Go.ChangeShapes Go.WideShapes Go.ChangeAt Go.RowKit
set_option linter.unusedVariables false
set_option linter.unusedSimpArgs false

def Tr.op : Tr → Int | .mk op _ _ _ _ => op
def Tr.v : Tr → Val | .mk _ v _ _ _ => v
def Tr.name : Tr → ByteArray | .mk _ _ name _ _ => name
def Tr.width : Tr → Int | .mk _ _ _ width _ => width
def Tr.args : Tr → List Tr | .mk _ _ _ _ args => args
/-- one more element -/
def sizeE (n a b m : Int) : Int := wrap64 (wrap64 (wrap64 (wrap64 (n + 1) + wrap64 (wrap64 (a / 5000) * 2000)) + wrap64 (wrap64 (b / 5000) * 2000)) + m)
mutual
def Tr.size : Tr → Int
  | .mk op v name width args => Tr.sizeL 0 args
def Tr.sizeL : Int → List Tr → Int
  | n, [] => n
  | n, .mk op v name width args :: ts => if n < 2000 then Tr.sizeL (sizeE n name.size v.s.size (Tr.sizeL 0 args)) ts else n
end
theorem Tr.all_.get {w : World} {S : Nat → Prop} : ∀ {ts : List Tr} {ys : List Ex} {i : Nat} {t : Tr}, Tr.all_ w S ts ys → ts[i]? = some t → ∃ y, ys[i]? = some y ∧ t.at_ w S y
  | [], ys, i, t, h, ht => by simp at ht
  | x :: ts, ys, 0, t, h, ht => by
    unfold Tr.all_ at h
    obtain ⟨y, ys', rfl, h2, h3⟩ := h
    simp at ht
    subst ht
    exact ⟨y, rfl, h2⟩
  | x :: ts, ys, i + 1, t, h, ht => by
    unfold Tr.all_ at h
    obtain ⟨y, ys', rfl, h2, h3⟩ := h
    have := Tr.all_.get h3 (i := i) (t := t) (by simpa using ht)
    simpa using this
def SizeIs (w : World) (y : Ex) (n : Int) : Prop := ∀ W, Below w.heap.size w W → Calls Try.prog 40 #[.slice y.A y.n y.c] W fun e w' => e = .returned (.int .i64 n) ∧ Below W.heap.size W w'

set_option maxHeartbeats 2000000 in
set_option maxRecDepth 100000 in
theorem size_op (A : Option Addr) (c : Nat) (ts : List Tr) (ys : List Ex) (w : World) (hl : ts.length ≤ 1599289640356) (hall : Tr.all_ w (Old w) ts ys) (hA : RE w w.heap.size A ys) (hE : ∀ (i : Nat) (t : Tr) (y : Ex), ts[i]? = some t → ys[i]? = some y → SizeIs w y t.size) :
    Calls Try.prog 40 #[.slice A ts.length c] w fun e w' => e = .returned (.int .i64 (Tr.sizeL 0 ts)) ∧ Below w.heap.size w w' := by
  have HA := Lib.hid hA
  have HE := Lib.hid hE
  have HL := Lib.hid hall
  clear hA hE hall
  go_enter Try.func40, Try.ntmps40
  go_wp2_with fail
  go_loopw [3, 4] (fun nv i wr => ∃ (k : Nat) (n : Int), k ≤ ts.length ∧ i = .int .i64 k ∧ nv = .int .i64 n ∧ Tr.sizeL 0 ts = Tr.sizeL n (ts.drop k) ∧ Below w.heap.size w wr) (fun _ i _ => ts.length - (intOf i).toNat)
  case atStart => exact ⟨0, 0, Nat.zero_le _, rfl, rfl, rfl, Below.refl _ _⟩
  case round =>
    obtain ⟨k, n, hk, rfl, rfl, hF, hb⟩ := hrel
    have HF := Lib.hid hF
    clear hF
    by_cases hlt : k < ts.length
    · have HD := Lib.hid (show ts.drop k = ts[k] :: ts.drop (k + 1) from List.drop_eq_getElem_cons hlt)
      obtain ⟨y, hy, hat⟩ := HL.out.get (List.getElem?_eq_getElem hlt)
      have hsz := HE.out k _ y (List.getElem?_eq_getElem hlt) hy
      by_cases h2 : n < 2000
      · have hyk : k < ys.length := by
          rcases Nat.lt_or_ge k ys.length with h | h
          · exact h
          · rw [List.getElem?_eq_none h] at hy; cases hy
        obtain ⟨b, off, rfl, hbb, hex⟩ := (HA.out.below hb).at_ hyk
        have he1 : ys[k] = y := by rw [List.getElem?_eq_getElem hyk] at hy; simpa using hy
        rw [he1] at hex
        clear he1 hy hyk
        generalize ts[k] = t at *
        obtain ⟨top, tv, tname, twidth, targs⟩ := t
        unfold Tr.at_ at hat
        have h4 := hat.2.1
        have h5 := hat.2.2.1
        clear hat
        have HG := Lib.hid (show Tr.sizeL n (.mk top tv tname twidth targs :: ts.drop (k + 1)) = Tr.sizeL (sizeE n y.name.size y.v.s.size (Tr.size (.mk top tv tname twidth targs))) (ts.drop (k + 1)) by
          rw [h4, h5]
          conv => lhs; unfold Tr.sizeL
          rw [if_pos h2]
          rfl)
        clear h4 h5
        generalize Tr.size (.mk top tv tname twidth targs) = m at *
        have t1 := decide_eq_true h2
        have hcx := fun x : Ext wr.heap.size wr => (hex.keep (w' := x.w) fun o => x.h.cell (p := ⟨b, o, none⟩) (Nat.lt_of_lt_of_le hbb hb.size))
        unfold ExAt at hcx
        have hsz2 := fun x : Ext wr.heap.size wr => hsz x.w (Later.then hb x.h)
        go_wp2_with fail
        refine region_cut 28 wr.heap.size wr (Below.refl _ _) (by kernel_rfl) (by kernel_rfl) (by kernel_rfl) (by kernel_rfl) ?_
        simp only [List.take_succ_cons, List.take_zero, List.drop_succ_cons, List.drop_zero]
        repeat (go_big_quiet_step (fail))
        go_big_quiet_step ((go_at_call 40; exact calls_later (Nat.le_refl _) (hsz2 _)))
        repeat (go_big_quiet_step (fail))
        refine wpQuiet_nil ?_
        rintro V4 ⟨x2, hx2⟩
        have hW := x2.h
        rw [← hx2] at hW
        clear hx2 x2 hcx hex
        go_wp2_with fail
        go_roundw
        case rel =>
          refine ⟨k + 1, sizeE n y.name.size y.v.s.size m, hlt, by go_num, by unfold sizeE; rfl, ?_, Later.then hb hW⟩
          rw [HF.out, HD.out]
          exact HG.out
        case measure => simp [intOf]; omega
      · have t1 := decide_eq_false h2
        generalize ts[k] = t at *
        obtain ⟨top, tv, tname, twidth, targs⟩ := t
        have HG := Lib.hid (show Tr.sizeL n (.mk top tv tname twidth targs :: ts.drop (k + 1)) = n by
          unfold Tr.sizeL
          rw [if_neg h2])
        clear hsz hat hy
        go_wp2_with fail
        go_ret
        refine ⟨?_, hb⟩
        rw [HF.out, HD.out, HG.out]
        rfl
    · go_wp2_with fail
      go_ret
      refine ⟨?_, hb⟩
      rw [HF.out, List.drop_eq_nil_of_le (by omega)]
      unfold Tr.sizeL
      rfl
mutual
theorem Tr.size_is : ∀ (t : Tr) (y : Ex) (w : World), t.ok → t.at_ w (Old w) y → SizeIs w y t.size
  | .mk op v name width args, y, w, hok, hat => by
    intro W hb
    have hat2 := hat.later hb
    unfold Tr.at_ at hat2
    obtain ⟨h1, h2, h3, h4, h5, ys, h6, h7⟩ := hat2
    unfold Tr.ok at hok
    have k := size_op y.A y.c args ys W hok.2.1 h7 h6.old (Tr.sizes_is args ys W hok.2.2.2.2.2 h7)
    rw [h5]
    unfold Tr.size
    exact k
theorem Tr.sizes_is : ∀ (ts : List Tr) (ys : List Ex) (w : World), Tr.oks ts → Tr.all_ w (Old w) ts ys → ∀ (i : Nat) (t : Tr) (y : Ex), ts[i]? = some t → ys[i]? = some y → SizeIs w y t.size
  | [], ys, w, _, _, i, t, y, ht, _ => by simp at ht
  | x :: ts, ys, w, hok, hat, i, t, y, ht, hy => by
    unfold Tr.all_ at hat
    unfold Tr.oks at hok
    obtain ⟨y', ys', rfl, h2, h3⟩ := hat
    match i, ht, hy with
    | 0, ht, hy =>
      simp at ht hy
      subst ht hy
      exact Tr.size_is x y' w hok.1 h2
    | i + 1, ht, hy => exact Tr.sizes_is ts ys' w hok.2 h3 i t y (by simpa using ht) (by simpa using hy)
end

/-- great returns a bool -/
def SomeB (w : World) (e : Ending) (w' : World) : Prop := ∃ b : Bool, e = .returned (.bool b) ∧ Below w.heap.size w w'
set_option maxHeartbeats 2000000 in
theorem great_any (A : Option Addr) (c : Nat) (ts : List Tr) (ys : List Ex) (cols : List Col) (CA : Option Addr) (cc : Nat) (row : List Val) (RA : Option Addr) (rc : Nat) (w : World) (hl : ts.length ≤ 1599289640356) (hok : Tr.oks ts) (hall : Tr.all_ w (Old w) ts ys) (hA : RE w w.heap.size A ys) (hV : RV w w.heap.size RA row) (hcl : cols.length ≤ 140737488355328) (hrl : row.length ≤ 140737488355328) :
    Calls Try.prog 18 #[.slice A ts.length c, .slice CA cols.length cc, .slice RA row.length rc] w (SomeB w) := by
  have hs := size_op A c ts ys w hl hall hA (Tr.sizes_is ts ys w hok hall)
  have HV := Lib.hid hV
  clear hV hA hall hok
  go_enter Try.func18, Try.ntmps18
  go_wp2_with fail
  refine hs.mono ?_
  rintro e w1 ⟨rfl, b1⟩
  clear hs
  generalize Tr.sizeL 0 ts = n at *
  replace HV := Lib.hid (HV.out.later b1)
  have yes : ∀ w2, Below w.heap.size w w2 → SomeB w (.returned (.bool true)) w2 := fun w2 h => ⟨true, rfl, h⟩
  have no : ∀ w2, Below w.heap.size w w2 → SomeB w (.returned (.bool false)) w2 := fun w2 h => ⟨false, rfl, h⟩
  have YES := Lib.hid yes
  have NO := Lib.hid no
  clear yes no
  by_cases h1 : 500 < n
  · have t1 := decide_eq_true h1
    go_wp2_with fail
    go_ret
    exact YES.out _ b1
  · have t1 := decide_eq_false h1
    by_cases h2 : 60 < cols.length
    · have t2 : decide ((60 : Int) < cols.length) = true := decide_eq_true (by omega)
      go_wp2_with fail
      go_ret
      exact YES.out _ b1
    · have t2 : decide ((60 : Int) < cols.length) = false := decide_eq_false (by omega)
      by_cases h3 : 60 < row.length
      · have t3 : decide ((60 : Int) < row.length) = true := decide_eq_true (by omega)
        go_wp2_with fail
        go_ret
        exact YES.out _ b1
      · have t3 : decide ((60 : Int) < row.length) = false := decide_eq_false (by omega)
        go_wp2_with fail
        clear t1 t2 t3 h1 h2 h3
        go_loop [7] (fun i => ∃ k : Nat, k ≤ row.length ∧ i = .int .i64 k) (fun i => row.length - (intOf i).toNat)
        case atStart => exact ⟨0, Nat.zero_le _, rfl⟩
        case round =>
          obtain ⟨k, hk, rfl⟩ := hrel
          by_cases hlt : k < row.length
          · obtain ⟨b, off, rfl, hbb, hval⟩ := HV.out.at_ hlt
            generalize row[k] = v at *
            unfold ValAt at hval
            by_cases h5 : 5000 < v.s.size
            · go_wp2_with fail
              go_ret
              exact YES.out _ b1
            · go_wp2_with fail
              go_round
              case rel => exact ⟨k + 1, hlt, by go_num⟩
              case measure => simp [intOf]; omega
          · go_wp2_with fail
            go_ret
            exact NO.out _ b1
end Go.Proofs.Ytlfahfoffdbpfaa
