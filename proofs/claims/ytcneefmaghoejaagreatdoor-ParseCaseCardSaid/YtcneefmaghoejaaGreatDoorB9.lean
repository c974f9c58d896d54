/- Parts of the proof: PaE, LexA, Shelf. Put together by slim.py. -/
import Derived.Test.YtcneefmaghoejaaGreatDoorProg
import Derived.Shelf.Abstract
import Derived.Shelf.Strings.Builder1
import Derived.Shelf.Strings.OnBuilder
import Derived.Shelf.Small.Utf8
import Derived.Shelf.Strings.BuilderK
import Derived.Shelf.Strconv.ParseIntEmpty
import Derived.Shelf.LaysM
import Derived.Shelf.Strconv.Clone
import Derived.Shelf.Strconv.SyntaxError
import Derived.Shelf.LaysC
import Derived.Shelf.Strconv.ToError
import Derived.Shelf.Strconv.Lower
import Derived.Shelf.Strconv.ParseUint10
import Derived.Shelf.Strconv.ParseUint10Empty
import Derived.Shelf.Strconv.ParseUint10Any
import Derived.Shelf.Strconv.ParseInt10
import Derived.Shelf.Strconv.RangeError
import Derived.Shelf.Strconv.ToErrorRange
import Derived.Shelf.Strconv.ParseUintEmpty
import Derived.Shelf.Strconv.ParseUint10b64
import Derived.Shelf.Strconv.ParseUint10b32
import Derived.Shelf.Strconv.ParseUint10b16
import Derived.Shelf.Strconv.ParseUint10b8
import Derived.Shelf.Strconv.ParseUint10At
import Derived.Shelf.Strconv.ParseInt10At64
import Derived.Shelf.Strconv.ParseInt10At32
import Derived.Shelf.Strconv.ParseInt10At16
import Derived.Shelf.Strconv.ParseInt10At8
import Derived.Shelf.Strconv.ParseInt10All
import Derived.Shelf.Strconv.ParseIntPublic10
import Derived.Shelf.Strconv.ErrVarParseInt
import Derived.Shelf.Strings.Prefix
import Derived.Shelf.Strings.Fields
import Derived.Test.YtcneefmaghoejaaGreatDoorB2
import Derived.Test.YtcneefmaghoejaaGreatDoorB6
import Derived.Test.YtcneefmaghoejaaGreatDoorB8
set_option linter.unusedSimpArgs false
set_option linter.unusedVariables false
namespace Go.Proofs.YtcneefmaghoejaaGreatDoor
theorem opOf_nil : ∀ ks, opOf ks [] = none
  | [] => rfl
  | (s, o) :: ks => by simp only [opOf, headIs]; exact opOf_nil ks
theorem leftF_fuel {below : Ps Tr} (hb : Sane below) (lv : Nat) : ∀ (f g : Nat) (x : Tr) (l : Wds), l.length ≤ f → l.length ≤ g → leftF below lv f x l = leftF below lv g x l
  | 0, 0, x, l, _, _ => rfl
  | 0, g + 1, x, l, h, _ => by
    have : l = [] := List.eq_nil_of_length_eq_zero (by omega)
    subst this
    simp only [leftF, opOf_nil]
    rfl
  | f + 1, 0, x, l, _, h => by
    have : l = [] := List.eq_nil_of_length_eq_zero (by omega)
    subst this
    simp only [leftF, opOf_nil]
    rfl
  | f + 1, g + 1, x, l, hf, hg => by
    simp only [leftF]
    cases e : opOf (opsL lv) l with
    | none => rfl
    | some o =>
      obtain ⟨s, _, hs⟩ := opOf_some e
      have ht := head_tail hs
      simp only [bind_at]
      cases e2 : below l.tail with
      | error n => rfl
      | ok y =>
        obtain ⟨y, r⟩ := y
        have := hb.len e2
        exact leftF_fuel hb lv f g _ r (by omega) (by omega)
def leftL (below : Ps Tr) (lv : Nat) (x : Tr) : Ps Tr := fun l => leftF below lv l.length x l
theorem leftP_L (below : Ps Tr) (lv : Nat) : leftP below lv = (do let x ← below; leftL below lv x) := rfl
theorem leftL_eq {below : Ps Tr} (hb : Sane below) (lv : Nat) (x : Tr) (l : Wds) : leftL below lv x l = match opOf (opsL lv) l with
    | none => .ok (x, l)
    | some o => (do let y ← below; leftL below lv (opT o [x, y])) l.tail := by
  match l with
  | [] => simp only [opOf_nil]; rfl
  | t :: r =>
    show leftF below lv (r.length + 1) x (t :: r) = _
    simp only [leftF]
    cases e : opOf (opsL lv) (t :: r) with
    | none => rfl
    | some o =>
      simp only [bind_at, List.tail_cons]
      cases e2 : below r with
      | error n => rfl
      | ok y =>
        obtain ⟨y, r2⟩ := y
        have := hb.len e2
        exact leftF_fuel hb lv _ _ _ r2 (by omega) (Nat.le_refl _)
theorem sane_leftL {below : Ps Tr} (hb : Sane below) (lv : Nat) (x : Tr) : Sane (leftL below lv x) := sane_at (q := fun l => leftF below lv l.length x) fun l => sane_leftF hb lv _ _
theorem moreF_fuel {α : Type} {el : Ps α} (hb : Sane el) : ∀ (f g : Nat) (acc : List α) (l : Wds), l.length ≤ f → l.length ≤ g → moreF el f acc l = moreF el g acc l
  | 0, 0, x, l, _, _ => rfl
  | 0, g + 1, x, l, h, _ => by
    have : l = [] := List.eq_nil_of_length_eq_zero (by omega)
    subst this
    simp [moreF, headIs]
    rfl
  | f + 1, 0, x, l, _, h => by
    have : l = [] := List.eq_nil_of_length_eq_zero (by omega)
    subst this
    simp [moreF, headIs]
    rfl
  | f + 1, g + 1, x, l, hf, hg => by
    simp only [moreF]
    cases e : headIs s_comma l
    · rfl
    · have ht := head_tail e
      simp only [if_true, bind_at]
      cases e2 : el l.tail with
      | error n => rfl
      | ok y =>
        obtain ⟨y, r⟩ := y
        have := hb.len e2
        exact moreF_fuel hb f g _ r (by omega) (by omega)
def moreL {α : Type} (el : Ps α) (acc : List α) : Ps (List α) := fun l => moreF el l.length acc l
theorem listP_L {α : Type} (el : Ps α) : listP el = (do let x ← el; moreL el [x]) := rfl
theorem moreL_eq {α : Type} {el : Ps α} (hb : Sane el) (acc : List α) : moreL el acc = (do
    if ← may s_comma then
      let y ← el
      moreL el (acc ++ [y])
    else return acc) := by
  funext l
  rw [may_bind]
  match l with
  | [] => rfl
  | t :: r =>
    show moreF el (r.length + 1) acc (t :: r) = _
    simp only [moreF]
    cases e : headIs s_comma (t :: r)
    · rfl
    · simp only [if_true, bind_at, List.tail_cons]
      cases e2 : el r with
      | error n => rfl
      | ok y =>
        obtain ⟨y, r2⟩ := y
        have := hb.len e2
        exact moreF_fuel hb _ _ _ r2 (by omega) (Nat.le_refl _)
theorem sane_moreL {α : Type} {el : Ps α} (hb : Sane el) (acc : List α) : Sane (moreL el acc) := sane_at (q := fun l => moreF el l.length acc) fun l => sane_more hb _ _
def RSt.op (lv : Nat) (σ : RSt) : Option Int := opOf (opsL lv) σ.words
theorem step_left {below : Ps Tr} (hb : Sane below) (lv : Nat) (x : Tr) (σ : RSt) : stepS (leftL below lv x) σ = match σ.op lv with
    | none => σ
    | some o => stepS (do let y ← below; leftL below lv (opT o [x, y])) (.good σ.words.tail) := by
  match σ with
  | .bad n => simp only [RSt.op, RSt.words, opOf_nil]; rfl
  | .good l =>
    simp only [stepS, RSt.op, RSt.words]
    rw [leftL_eq hb]
    cases e : opOf (opsL lv) l <;> rfl
theorem gives_left_none {below : Ps Tr} (hb : Sane below) (lv : Nat) (x : Tr) (σ : RSt) (h : σ.op lv = none) : Gives (leftL below lv x) σ x := by
  match σ with
  | .bad n => trivial
  | .good l =>
    have : opOf (opsL lv) l = none := h
    simp only [Gives, leftL_eq hb, this]
theorem gives_left_some {below : Ps Tr} (hb : Sane below) (lv : Nat) (x z : Tr) (o : Int) (σ : RSt) (h : σ.op lv = some o) (k : Gives (do let y ← below; leftL below lv (opT o [x, y])) (.good σ.words.tail) z) : Gives (leftL below lv x) σ z := by
  match σ with
  | .bad n => trivial
  | .good l =>
    have h : opOf (opsL lv) l = some o := h
    simp only [Gives, leftL_eq hb, h]
    exact k
end Go.Proofs.YtcneefmaghoejaaGreatDoor
namespace Go.Proofs.YtcneefmaghoejaaGreatDoor
open Go.ChangeShapes Go.WideShapes Go.ChangeAt Go.RowKit Go.Shelf
set_option linter.unusedVariables false
set_option linter.unusedSimpArgs false
def Said (f : FuncId) (p : UInt8 → Bool) : Prop := ∀ (c : UInt8) (W : World), Calls Tryz.prog f #[.int .u8 (c.toNat : Int)] W fun e w' => e = .returned (.bool (p c)) ∧ W = w'
theorem ret_bool {a b : Bool} (h : a = b) : Ending.returned (.bool a) = .returned (.bool b) := by rw [h]
theorem ret_int {k : IntKind} {a b : Int} (h : a = b) : Ending.returned (.int k a) = .returned (.int k b) := by rw [h]
theorem letter_nat (c : UInt8) : letterB c = ((decide ((97 : Int) ≤ c.toNat) && decide ((c.toNat : Int) ≤ 122)) || (decide ((65 : Int) ≤ c.toNat) && decide ((c.toNat : Int) ≤ 90)) || ((c.toNat : Int) == 95)) := by
  rw [Bool.eq_iff_iff]
  simp only [letterB, UInt8.le_iff_toNat_le, ← UInt8.toNat_inj, Bool.or_eq_true, Bool.and_eq_true, decide_eq_true_eq, beq_iff_eq]
  simp
  omega
theorem digit_nat (c : UInt8) : digitB c = (decide ((48 : Int) ≤ c.toNat) && decide ((c.toNat : Int) ≤ 57)) := by
  rw [Bool.eq_iff_iff]
  simp only [digitB, UInt8.le_iff_toNat_le, Bool.and_eq_true, decide_eq_true_eq]
  simp
  omega
set_option maxHeartbeats 1000000 in
theorem letter_any : Said 35 letterB := by
  intro c W
  rw [letter_nat]
  have h1 := c.toNat_lt
  generalize c.toNat = n at *
  go_enter Tryz.func35, Tryz.ntmps35
  go_wp2
  all_goals
    go_ret
    refine ⟨?_, rfl⟩
    first | rfl | (refine ret_bool ?_; rw [Bool.eq_iff_iff]; simp; omega) | (refine ret_bool ?_; rw [Bool.eq_iff_iff]; simp; done)
theorem digit_any : Said 34 digitB := by
  intro c W
  rw [digit_nat]
  have h1 := c.toNat_lt
  generalize c.toNat = n at *
  go_enter Tryz.func34, Tryz.ntmps34
  go_wp2
  all_goals
    go_ret
    refine ⟨?_, rfl⟩
    first | rfl | (refine ret_bool ?_; rw [Bool.eq_iff_iff]; simp; omega) | (refine ret_bool ?_; rw [Bool.eq_iff_iff]; simp; done)
theorem eq_nat (c : UInt8) (k : UInt8) : (c == k) = ((c.toNat : Int) == (k.toNat : Int)) := by
  rw [Bool.eq_iff_iff]
  simp [← UInt8.toNat_inj]
  omega
theorem blank_nat (c : UInt8) : blankB c = (((c.toNat : Int) == 32) || ((c.toNat : Int) == 9) || ((c.toNat : Int) == 10) || ((c.toNat : Int) == 13)) := by
  simp only [blankB, eq_nat]
  rfl
theorem skip1_any : Said 58 blankB := by
  intro c W
  rw [blank_nat]
  generalize c.toNat = n at *
  go_enter Tryz.func58, Tryz.ntmps58
  go_wp2
  all_goals
    go_ret
    refine ⟨?_, rfl⟩
    first | rfl | (refine ret_bool ?_; rw [Bool.eq_iff_iff]; simp; omega) | (refine ret_bool ?_; rw [Bool.eq_iff_iff]; simp; done)
theorem skip2_any : Said 60 (fun c => !(c == 10)) := by
  intro c W
  simp only [eq_nat]
  generalize c.toNat = n at *
  go_enter Tryz.func60, Tryz.ntmps60
  go_wp2
  all_goals
    go_ret
    refine ⟨?_, rfl⟩
    first | rfl | (refine ret_bool ?_; rw [Bool.eq_iff_iff]; simp; omega) | (refine ret_bool ?_; rw [Bool.eq_iff_iff]; simp; done)
theorem next1_any : Said 63 (fun c => c == 39) := by
  intro c W
  simp only [eq_nat]
  generalize c.toNat = n at *
  go_enter Tryz.func63, Tryz.ntmps63
  go_wp2
  all_goals
    go_ret
    refine ⟨?_, rfl⟩
    first | rfl | (refine ret_bool ?_; rw [Bool.eq_iff_iff]; simp; omega) | (refine ret_bool ?_; rw [Bool.eq_iff_iff]; simp; done)
theorem word1_any : Said 93 wordB := by
  intro c W
  unfold wordB
  cases h : letterB c
  · go_enter Tryz.func93, Tryz.ntmps93
    go_wp2_with (first | (go_at_call 35; refine (letter_any c _).mono ?_; rintro e w' ⟨rfl, rfl⟩; rw [h]) | (go_at_call 34; refine (digit_any c _).mono ?_; rintro e w' ⟨rfl, rfl⟩))
    go_ret
    exact ⟨by simp, rfl⟩
  · go_enter Tryz.func93, Tryz.ntmps93
    go_wp2_with (first | (go_at_call 35; refine (letter_any c _).mono ?_; rintro e w' ⟨rfl, rfl⟩; rw [h]) | (go_at_call 34; refine (digit_any c _).mono ?_; rintro e w' ⟨rfl, rfl⟩))
    go_ret
    exact ⟨by simp, rfl⟩
def lexV (s : ByteArray) (at_ : Nat) : Array Value := #[.string s, .int .i64 at_]
theorem lex_cells {w : World} {g : Nat} {t : TypeId} {s : ByteArray} {a : Nat} (h : Blk w g t (lexV s a)) : w.cell? ⟨g, 0, none⟩ = some (.string s) ∧ w.cell? ⟨g, 1, none⟩ = some (.int .i64 a) := ⟨h.cell 0, h.cell 1⟩
structure Asks (f : FuncId) (p : UInt8 → Bool) : Prop where
  enter : ∀ args w, (callFunc f args).run Tryz.prog w = .ok (.enter f args) w
  says : Said f p
theorem letter_asks : Asks 35 letterB := ⟨enters_of Tryz.func35 (by kernel_rfl) rfl, letter_any⟩
theorem digit_asks : Asks 34 digitB := ⟨enters_of Tryz.func34 (by kernel_rfl) rfl, digit_any⟩
theorem blank_asks : Asks 58 blankB := ⟨enters_of Tryz.func58 (by kernel_rfl) rfl, skip1_any⟩
theorem line_asks : Asks 60 (fun c => !(c == 10)) := ⟨enters_of Tryz.func60 (by kernel_rfl) rfl, skip2_any⟩
theorem quote_asks : Asks 63 (fun c => c == 39) := ⟨enters_of Tryz.func63 (by kernel_rfl) rfl, next1_any⟩
theorem word_asks : Asks 93 wordB := ⟨enters_of Tryz.func93 (by kernel_rfl) rfl, word1_any⟩
set_option maxHeartbeats 1000000 in
set_option maxRecDepth 100000 in
theorem far_any {f : FuncId} {p : UInt8 → Bool} (hf : Asks f p) (s : ByteArray) (at_ k : Nat) (g : Nat) (w : World) (hL : Blk w g 77 (lexV s at_)) (hk : k ≤ s.size) (hs : s.size ≤ 4294967280) :
    Calls Tryz.prog 57 #[.pointer (some ⟨g, 0, none⟩), .int .i64 k, .func (.func f) #[] #[]] w fun e w' => e = .returned (.int .i64 (farN p s.data.toList k)) ∧ w = w' := by
  obtain ⟨c0, c1⟩ := lex_cells hL
  have hlen : s.data.toList.length = s.size := by simp
  have HL := Lib.hid hlen
  clear hlen
  have ef := hf.enter
  go_enter Tryz.func57, Tryz.ntmps57
  go_wp2_with fail
  go_loop [1] (fun u => ∃ j : Nat, j ≤ s.size ∧ u = .int .i64 j ∧ farN p s.data.toList k = farN p s.data.toList j) (fun u => s.size - (intOf u).toNat)
  case atStart => exact ⟨k, hk, rfl, rfl⟩
  case round =>
    obtain ⟨j, hj, rfl, hfar⟩ := hrel
    have HF := Lib.hid hfar
    clear hfar
    by_cases hlt : j < s.size
    · have HB := Lib.hid (byte_at s j hlt)
      cases hpp : p s[j]
      · have HP := Lib.hid hpp
        clear hpp
        go_wp2_with (go_at_fn f; refine (hf.says s[j] _).mono ?_; rintro e w' ⟨rfl, rfl⟩; rw [HP.out])
        go_ret
        exact ⟨ret_int (by rw [HF.out, farN_no HB.out HP.out]), rfl⟩
      · have HP := Lib.hid hpp
        clear hpp
        go_wp2_with (go_at_fn f; refine (hf.says s[j] _).mono ?_; rintro e w' ⟨rfl, rfl⟩; rw [HP.out])
        go_round
        case rel => exact ⟨j + 1, hlt, by go_num, by rw [HF.out, farN_yes HB.out HP.out]⟩
        case measure => simp [intOf]; omega
    · go_wp2_with fail
      go_ret
      exact ⟨ret_int (by rw [HF.out, farN_end (by rw [HL.out]; omega)]), rfl⟩
end Go.Proofs.YtcneefmaghoejaaGreatDoor
namespace Go.Proofs
open Go.Shelf
def Tryz.lays169_ren : Go.Shelf.Ren := ⟨fun | 169 => 97 | n => n, fun | 70 => 122 | 9 => 9 | 0 => 0 | 72 => 124 | 37 => 53 | 127 => 136 | 3 => 3 | 5 => 5 | n => n, fun | n => n⟩
theorem Tryz.lays169 : Go.Proofs.Lays.n169 Tryz.prog Tryz.lays169_ren := {
  mixed := by kernel_rfl
  f169 := Tryz.func97.trans (congrArg some (by kernel_rfl))
  t0 := Tryz.underlying0
  a0 := Tryz.isAgg0
  z0 := Tryz.sizeOf0
  v0 := Tryz.zeroValue0
  t3 := Tryz.underlying3
  a3 := Tryz.isAgg3
  z3 := Tryz.sizeOf3
  v3 := Tryz.zeroValue3
  t9 := Tryz.underlying9
  a9 := Tryz.isAgg9
  z9 := Tryz.sizeOf9
  v9 := Tryz.zeroValue9
  t37 := Tryz.underlying53
  a37 := Tryz.isAgg53
  z37 := Tryz.sizeOf53
  v37 := Tryz.zeroValue53
  t70 := Tryz.underlying122
  a70 := Tryz.isAgg122
  z70 := Tryz.sizeOf122
  v70 := Tryz.zeroValue122
  t72 := Tryz.underlying124
  a72 := Tryz.isAgg124
  z72 := Tryz.sizeOf124
  v72 := Tryz.zeroValue124
  t127 := Tryz.underlying136
  a127 := Tryz.isAgg136
  z127 := Tryz.sizeOf136
  v127 := Tryz.zeroValue136 }
theorem Tryz.Builder_Extra_169 : Builder.Extra Tryz.prog Tryz.lays169_ren := {
  sizeBuilder := by kernel_rfl
  liesBuilder := by kernel_rfl
  t5 := Tryz.underlying5
  a5 := Tryz.isAgg5
  z5 := Tryz.sizeOf5
  v5 := Tryz.zeroValue5
  infoByte := by kernel_rfl
  cellsByte := by kernel_rfl
  sizeByte := by kernel_rfl
  neB5 := by decide }
open Go.RowKit in
theorem Tryz.Builder_String_any (B b : Nat) (l : List UInt8) (w : World) (h : Lib.IsBuilder 124 5 B b (Lib.byteCells l) w) (hBw : B ≤ w.heap.size) :
    Calls Tryz.prog 97 #[.pointer (some ⟨b, 0, none⟩)] w fun e w' => e = .returned (.string ⟨l.toArray⟩) ∧ Below B w w' := Any.Builder_String_any Tryz.lays169 Tryz.Builder_Extra_169 B b l w h hBw
def Tryz.lays159_ren : Go.Shelf.Ren := ⟨fun | 159 => 95 | 165 => 109 | 166 => 110 | 167 => 98 | 169 => 97 | 230 => 111 | 204 => 112 | 240 => 115 | 241 => 121 | 197 => 122 | 118 => 123 | 168 => 124 | 270 => 125 | 262 => 126 | 276 => 132 | 277 => 137 | 260 => 138 | 242 => 139 | 313 => 140 | 278 => 149 | 274 => 150 | 275 => 151 | n => n, fun | 9 => 9 | 4 => 4 | 3 => 3 | 5 => 5 | 72 => 124 | 0 => 0 | 76 => 131 | 75 => 119 | 107 => 134 | 70 => 122 | 20 => 20 | 37 => 53 | 127 => 136 | 21 => 21 | 105 => 144 | 164 => 158 | 162 => 173 | 203 => 171 | 119 => 137 | 46 => 154 | 139 => 192 | 138 => 191 | 51 => 163 | 160 => 193 | 208 => 204 | 206 => 202 | 80 => 89 | n => n, fun | 13 => 2 | 3 => 6 | 4 => 7 | n => n⟩
theorem Tryz.lays159 : Go.Proofs.Lays.n159 Tryz.prog Tryz.lays159_ren := {
  mixed := by kernel_rfl
  f118 := Tryz.func123.trans (congrArg some (by kernel_rfl))
  f159 := Tryz.func95.trans (congrArg some (by kernel_rfl))
  f165 := Tryz.func109.trans (congrArg some (by kernel_rfl))
  f166 := Tryz.func110.trans (congrArg some (by kernel_rfl))
  f167 := Tryz.func98.trans (congrArg some (by kernel_rfl))
  f168 := Tryz.func124.trans (congrArg some (by kernel_rfl))
  f169 := Tryz.func97.trans (congrArg some (by kernel_rfl))
  f197 := Tryz.func122.trans (congrArg some (by kernel_rfl))
  f204 := Tryz.func112.trans (congrArg some (by kernel_rfl))
  f230 := Tryz.func111.trans (congrArg some (by kernel_rfl))
  f240 := Tryz.func115.trans (congrArg some (by kernel_rfl))
  f241 := Tryz.func121.trans (congrArg some (by kernel_rfl))
  f242 := Tryz.func139.trans (congrArg some (by kernel_rfl))
  f260 := Tryz.func138.trans (congrArg some (by kernel_rfl))
  f262 := Tryz.func126.trans (congrArg some (by kernel_rfl))
  f270 := Tryz.func125.trans (congrArg some (by kernel_rfl))
  f274 := Tryz.func150.trans (congrArg some (by kernel_rfl))
  f275 := Tryz.func151.trans (congrArg some (by kernel_rfl))
  f276 := Tryz.func132.trans (congrArg some (by kernel_rfl))
  f277 := Tryz.func137.trans (congrArg some (by kernel_rfl))
  f278 := Tryz.func149.trans (congrArg some (by kernel_rfl))
  f313 := Tryz.func140.trans (congrArg some (by kernel_rfl))
  t0 := Tryz.underlying0
  a0 := Tryz.isAgg0
  z0 := Tryz.sizeOf0
  v0 := Tryz.zeroValue0
  t3 := Tryz.underlying3
  a3 := Tryz.isAgg3
  z3 := Tryz.sizeOf3
  v3 := Tryz.zeroValue3
  t4 := Tryz.underlying4
  a4 := Tryz.isAgg4
  z4 := Tryz.sizeOf4
  v4 := Tryz.zeroValue4
  t5 := Tryz.underlying5
  a5 := Tryz.isAgg5
  z5 := Tryz.sizeOf5
  v5 := Tryz.zeroValue5
  t9 := Tryz.underlying9
  a9 := Tryz.isAgg9
  z9 := Tryz.sizeOf9
  v9 := Tryz.zeroValue9
  t20 := Tryz.underlying20
  a20 := Tryz.isAgg20
  z20 := Tryz.sizeOf20
  v20 := Tryz.zeroValue20
  t21 := Tryz.underlying21
  a21 := Tryz.isAgg21
  z21 := Tryz.sizeOf21
  v21 := Tryz.zeroValue21
  t37 := Tryz.underlying53
  a37 := Tryz.isAgg53
  z37 := Tryz.sizeOf53
  v37 := Tryz.zeroValue53
  t46 := Tryz.underlying154
  a46 := Tryz.isAgg154
  z46 := Tryz.sizeOf154
  v46 := Tryz.zeroValue154
  t51 := Tryz.underlying163
  a51 := Tryz.isAgg163
  z51 := Tryz.sizeOf163
  v51 := Tryz.zeroValue163
  t70 := Tryz.underlying122
  a70 := Tryz.isAgg122
  z70 := Tryz.sizeOf122
  v70 := Tryz.zeroValue122
  t72 := Tryz.underlying124
  a72 := Tryz.isAgg124
  z72 := Tryz.sizeOf124
  v72 := Tryz.zeroValue124
  t75 := Tryz.underlying119
  a75 := Tryz.isAgg119
  z75 := Tryz.sizeOf119
  v75 := Tryz.zeroValue119
  t76 := Tryz.underlying131
  a76 := Tryz.isAgg131
  z76 := Tryz.sizeOf131
  v76 := Tryz.zeroValue131
  t105 := Tryz.underlying144
  a105 := Tryz.isAgg144
  z105 := Tryz.sizeOf144
  v105 := Tryz.zeroValue144
  t107 := Tryz.underlying134
  a107 := Tryz.isAgg134
  z107 := Tryz.sizeOf134
  v107 := Tryz.zeroValue134
  t119 := Tryz.underlying137
  a119 := Tryz.isAgg137
  z119 := Tryz.sizeOf137
  t127 := Tryz.underlying136
  a127 := Tryz.isAgg136
  z127 := Tryz.sizeOf136
  v127 := Tryz.zeroValue136
  t138 := Tryz.underlying191
  a138 := Tryz.isAgg191
  z138 := Tryz.sizeOf191
  v138 := Tryz.zeroValue191
  t139 := Tryz.underlying192
  a139 := Tryz.isAgg192
  z139 := Tryz.sizeOf192
  v139 := Tryz.zeroValue192
  t160 := Tryz.underlying193
  a160 := Tryz.isAgg193
  z160 := Tryz.sizeOf193
  v160 := Tryz.zeroValue193
  t162 := Tryz.underlying173
  a162 := Tryz.isAgg173
  z162 := Tryz.sizeOf173
  v162 := Tryz.zeroValue173
  t164 := Tryz.underlying158
  a164 := Tryz.isAgg158
  z164 := Tryz.sizeOf158
  v164 := Tryz.zeroValue158
  t203 := Tryz.underlying171
  a203 := Tryz.isAgg171
  z203 := Tryz.sizeOf171
  v203 := Tryz.zeroValue171
  t206 := Tryz.underlying202
  a206 := Tryz.isAgg202
  z206 := Tryz.sizeOf202
  v206 := Tryz.zeroValue202
  t208 := Tryz.underlying204
  a208 := Tryz.isAgg204
  z208 := Tryz.sizeOf204
  v208 := Tryz.zeroValue204
  g3 := by kernel_rfl
  g4 := by kernel_rfl
  g13 := by kernel_rfl }
theorem Tryz.Builder_Extra_159 : Builder.Extra Tryz.prog Tryz.lays159_ren := {
  sizeBuilder := by kernel_rfl
  liesBuilder := by kernel_rfl
  t5 := Tryz.underlying5
  a5 := Tryz.isAgg5
  z5 := Tryz.sizeOf5
  v5 := Tryz.zeroValue5
  infoByte := by kernel_rfl
  cellsByte := by kernel_rfl
  sizeByte := by kernel_rfl
  neB5 := by decide }
open Go.RowKit in
theorem Tryz.strings_ToLower_ascii (s : ByteArray) (w : World) (hs : s.size ≤ 140737488355328) (hascii : ∀ (j : Nat) (b : UInt8), s.data.toList[j]? = some b → b.toNat < 128) :
    Calls Tryz.prog 95 #[.string s] w fun e w' => e = .returned (.string ⟨(Lib.toLowerA s.data.toList).toArray⟩) ∧ Below w.heap.size w w' := Any.strings_ToLower_ascii Tryz.lays159 Tryz.Builder_Extra_159 s w hs hascii
def Tryz.laysC174_ren : Go.Shelf.Ren := ⟨fun | 174 => 96 | 247 => 113 | 245 => 114 | 287 => 127 | 279 => 128 | 280 => 129 | 281 => 130 | 282 => 131 | 321 => 141 | 322 => 142 | 316 => 143 | 171 => 145 | 205 => 144 | 243 => 152 | 246 => 154 | 283 => 156 | 284 => 157 | 285 => 158 | 286 => 159 | 129 => 162 | 317 => 161 | 318 => 163 | 319 => 164 | 320 => 165 | 337 => 167 | 338 => 168 | n => n, fun | 9 => 9 | 3 => 3 | 2 => 2 | 75 => 119 | 85 => 120 | 4 => 4 | 167 => 150 | 5 => 5 | 53 => 151 | 175 => 152 | 46 => 154 | 168 => 155 | 37 => 53 | 0 => 0 | 210 => 176 | 21 => 21 | 127 => 136 | 145 => 198 | 143 => 196 | 171 => 206 | 173 => 209 | 212 => 213 | 51 => 163 | 20 => 20 | 213 => 214 | 232 => 218 | 233 => 219 | 80 => 89 | n => n, fun | 15 => 3 | 16 => 4 | 17 => 8 | 18 => 9 | 19 => 10 | n => n⟩
theorem Tryz.laysC174 : Go.Proofs.LaysC.n174 Tryz.prog Tryz.laysC174_ren := {
  mixed := by kernel_rfl
  f129 := Tryz.func162.trans (congrArg some (by kernel_rfl))
  f171 := Tryz.func145.trans (congrArg some (by kernel_rfl))
  f174 := Tryz.func96.trans (congrArg some (by kernel_rfl))
  f205 := Tryz.func144.trans (congrArg some (by kernel_rfl))
  f243 := Tryz.func152.trans (congrArg some (by kernel_rfl))
  f245 := Tryz.func114.trans (congrArg some (by kernel_rfl))
  f246 := Tryz.func154.trans (congrArg some (by kernel_rfl))
  f247 := Tryz.func113.trans (congrArg some (by kernel_rfl))
  f279 := Tryz.func128.trans (congrArg some (by kernel_rfl))
  f280 := Tryz.func129.trans (congrArg some (by kernel_rfl))
  f281 := Tryz.func130.trans (congrArg some (by kernel_rfl))
  f282 := Tryz.func131.trans (congrArg some (by kernel_rfl))
  f283 := Tryz.func156.trans (congrArg some (by kernel_rfl))
  f284 := Tryz.func157.trans (congrArg some (by kernel_rfl))
  f285 := Tryz.func158.trans (congrArg some (by kernel_rfl))
  f286 := Tryz.func159.trans (congrArg some (by kernel_rfl))
  f287 := Tryz.func127.trans (congrArg some (by kernel_rfl))
  f316 := Tryz.func143.trans (congrArg some (by kernel_rfl))
  f317 := Tryz.func161.trans (congrArg some (by kernel_rfl))
  f318 := Tryz.func163.trans (congrArg some (by kernel_rfl))
  f319 := Tryz.func164.trans (congrArg some (by kernel_rfl))
  f320 := Tryz.func165.trans (congrArg some (by kernel_rfl))
  f321 := Tryz.func141.trans (congrArg some (by kernel_rfl))
  f322 := Tryz.func142.trans (congrArg some (by kernel_rfl))
  f337 := Tryz.func167.trans (congrArg some (by kernel_rfl))
  f338 := Tryz.func168.trans (congrArg some (by kernel_rfl))
  t0 := Tryz.underlying0
  a0 := Tryz.isAgg0
  z0 := Tryz.sizeOf0
  v0 := Tryz.zeroValue0
  t2 := Tryz.underlying2
  a2 := Tryz.isAgg2
  z2 := Tryz.sizeOf2
  v2 := Tryz.zeroValue2
  t3 := Tryz.underlying3
  a3 := Tryz.isAgg3
  z3 := Tryz.sizeOf3
  v3 := Tryz.zeroValue3
  t4 := Tryz.underlying4
  a4 := Tryz.isAgg4
  z4 := Tryz.sizeOf4
  v4 := Tryz.zeroValue4
  t5 := Tryz.underlying5
  a5 := Tryz.isAgg5
  z5 := Tryz.sizeOf5
  v5 := Tryz.zeroValue5
  t9 := Tryz.underlying9
  a9 := Tryz.isAgg9
  z9 := Tryz.sizeOf9
  v9 := Tryz.zeroValue9
  t20 := Tryz.underlying20
  a20 := Tryz.isAgg20
  z20 := Tryz.sizeOf20
  v20 := Tryz.zeroValue20
  t21 := Tryz.underlying21
  a21 := Tryz.isAgg21
  z21 := Tryz.sizeOf21
  v21 := Tryz.zeroValue21
  t37 := Tryz.underlying53
  a37 := Tryz.isAgg53
  z37 := Tryz.sizeOf53
  v37 := Tryz.zeroValue53
  t46 := Tryz.underlying154
  a46 := Tryz.isAgg154
  z46 := Tryz.sizeOf154
  v46 := Tryz.zeroValue154
  t51 := Tryz.underlying163
  a51 := Tryz.isAgg163
  z51 := Tryz.sizeOf163
  v51 := Tryz.zeroValue163
  t53 := Tryz.underlying151
  a53 := Tryz.isAgg151
  z53 := Tryz.sizeOf151
  v53 := Tryz.zeroValue151
  t75 := Tryz.underlying119
  a75 := Tryz.isAgg119
  z75 := Tryz.sizeOf119
  v75 := Tryz.zeroValue119
  t85 := Tryz.underlying120
  a85 := Tryz.isAgg120
  z85 := Tryz.sizeOf120
  v85 := Tryz.zeroValue120
  t127 := Tryz.underlying136
  a127 := Tryz.isAgg136
  z127 := Tryz.sizeOf136
  v127 := Tryz.zeroValue136
  t143 := Tryz.underlying196
  a143 := Tryz.isAgg196
  z143 := Tryz.sizeOf196
  v143 := Tryz.zeroValue196
  t145 := Tryz.underlying198
  a145 := Tryz.isAgg198
  z145 := Tryz.sizeOf198
  v145 := Tryz.zeroValue198
  t167 := Tryz.underlying150
  a167 := Tryz.isAgg150
  z167 := Tryz.sizeOf150
  v167 := Tryz.zeroValue150
  t168 := Tryz.underlying155
  a168 := Tryz.isAgg155
  z168 := Tryz.sizeOf155
  v168 := Tryz.zeroValue155
  t171 := Tryz.underlying206
  a171 := Tryz.isAgg206
  z171 := Tryz.sizeOf206
  v171 := Tryz.zeroValue206
  t173 := Tryz.underlying209
  a173 := Tryz.isAgg209
  z173 := Tryz.sizeOf209
  v173 := Tryz.zeroValue209
  t175 := Tryz.underlying152
  a175 := Tryz.isAgg152
  z175 := Tryz.sizeOf152
  v175 := Tryz.zeroValue152
  t210 := Tryz.underlying176
  a210 := Tryz.isAgg176
  z210 := Tryz.sizeOf176
  v210 := Tryz.zeroValue176
  t212 := Tryz.underlying213
  a212 := Tryz.isAgg213
  z212 := Tryz.sizeOf213
  v212 := Tryz.zeroValue213
  t213 := Tryz.underlying214
  a213 := Tryz.isAgg214
  z213 := Tryz.sizeOf214
  t232 := Tryz.underlying218
  a232 := Tryz.isAgg218
  z232 := Tryz.sizeOf218
  v232 := Tryz.zeroValue218
  t233 := Tryz.underlying219
  a233 := Tryz.isAgg219
  z233 := Tryz.sizeOf219
  v233 := Tryz.zeroValue219
  g15 := by kernel_rfl
  g16 := by kernel_rfl
  g17 := by kernel_rfl
  g18 := by kernel_rfl
  g19 := by kernel_rfl
  t80 := Tryz.underlying89
  a80 := Tryz.isAgg89
  z80 := Tryz.sizeOf89
  v80 := Tryz.zeroValue89
  i0 := by kernel_rfl
  i2 := by kernel_rfl
  i3 := by kernel_rfl
  i4 := by kernel_rfl
  i5 := by kernel_rfl
  i9 := by kernel_rfl
  i20 := by kernel_rfl
  i21 := by kernel_rfl
  i37 := by kernel_rfl
  i46 := by kernel_rfl
  i51 := by kernel_rfl
  i53 := by kernel_rfl
  i75 := by kernel_rfl
  i80 := by kernel_rfl
  i85 := by kernel_rfl
  i127 := by kernel_rfl
  i143 := by kernel_rfl
  i145 := by kernel_rfl
  i167 := by kernel_rfl
  i168 := by kernel_rfl
  i171 := by kernel_rfl
  i173 := by kernel_rfl
  i175 := by kernel_rfl
  i210 := by kernel_rfl
  i212 := by kernel_rfl
  i232 := by kernel_rfl
  i233 := by kernel_rfl
  m15 := by kernel_rfl
  m16 := by kernel_rfl
  m17 := by kernel_rfl
  m18 := by kernel_rfl
  m19 := by kernel_rfl
  c0 := by kernel_rfl
  c2 := by kernel_rfl
  c3 := by kernel_rfl
  c4 := by kernel_rfl
  c5 := by kernel_rfl
  c9 := by kernel_rfl
  c20 := by kernel_rfl
  c21 := by kernel_rfl
  c37 := by kernel_rfl
  c46 := by kernel_rfl
  c51 := by kernel_rfl
  c53 := by kernel_rfl
  c75 := by kernel_rfl
  c80 := by kernel_rfl
  c85 := by kernel_rfl
  c127 := by kernel_rfl
  c143 := by kernel_rfl
  c145 := by kernel_rfl
  c167 := by kernel_rfl
  c168 := by kernel_rfl
  c171 := by kernel_rfl
  c173 := by kernel_rfl
  c175 := by kernel_rfl
  c210 := by kernel_rfl
  c212 := by kernel_rfl
  c213 := by kernel_rfl
  c232 := by kernel_rfl
  c233 := by kernel_rfl }
open Go.RowKit in
theorem Tryz.strconv_ParseInt_10_at64_ok (s : ByteArray) (hmax : s.size ≤ 9223372036854775806) (v : Int) (h : Lib.parseIntB 64 s.data.toList = .ok v) (w : World) :
    Calls Tryz.prog 96 #[.string s, .int .i64 10, .int .i64 64] w fun e w' => e = .returned (.tuple #[.int .i64 v, .nilIface]) ∧ (w' = w ∨ ∃ t, w' = Lib.bytesWorld w 5 t) := Any.strconv_ParseInt_10_at64_ok Tryz.laysC174 s hmax v h w
open Go.RowKit in
theorem Tryz.strconv_ParseInt_10_at64_range_var (s : ByteArray) (hlim : s.size ≤ 281474976710656) (h : Lib.parseIntB 64 s.data.toList = .range) (tp : TypeId) (p : Value) (w : World) (hvar : w.var? Tryz.prog "strconv.ErrRange" = some #[.iface tp p]) :
    Calls Tryz.prog 96 #[.string s, .int .i64 10, .int .i64 64] w fun e w' => ∃ N, e = .returned (.tuple #[.int .i64 (Lib.intSat 64 s.data.toList), .iface 155 (.pointer (some ⟨N, 0, none⟩))]) ∧ w.heap.size ≤ N ∧ w'.heap[N]? = some (.cells #[.string ⟨#[80, 97, 114, 115, 101, 73, 110, 116]⟩, .string s, .iface tp p] 176 (0, 0)) ∧ Below w.heap.size w w' := Any.strconv_ParseInt_10_at64_range_var Tryz.laysC174 s hlim h tp p w hvar
def Tryz.lays99_ren : Go.Shelf.Ren := ⟨fun | 99 => 59 | 206 => 92 | n => n, fun | 9 => 9 | 4 => 4 | 3 => 3 | n => n, fun | n => n⟩
theorem Tryz.lays99 : Go.Proofs.Lays.n99 Tryz.prog Tryz.lays99_ren := {
  mixed := by kernel_rfl
  f99 := Tryz.func59.trans (congrArg some (by kernel_rfl))
  f206 := Tryz.func92.trans (congrArg some (by kernel_rfl))
  t3 := Tryz.underlying3
  a3 := Tryz.isAgg3
  z3 := Tryz.sizeOf3
  v3 := Tryz.zeroValue3
  t4 := Tryz.underlying4
  a4 := Tryz.isAgg4
  z4 := Tryz.sizeOf4
  v4 := Tryz.zeroValue4
  t9 := Tryz.underlying9
  a9 := Tryz.isAgg9
  z9 := Tryz.sizeOf9
  v9 := Tryz.zeroValue9 }
open Go.RowKit Go.Lib in
theorem Tryz.strings_HasPrefix (s p : ByteArray) (w : World) :
    Calls Tryz.prog 59 #[.string s, .string p] w fun e w' => e = .returned (.bool (Lib.hasPrefix s.data.toList p.data.toList)) ∧ w' = w := Any.strings_HasPrefix Tryz.lays99 s p w
def Tryz.lays157_ren : Go.Shelf.Ren := ⟨fun | 157 => 99 | 229 => 116 | 199 => 117 | 261 => 133 | 311 => 146 | 312 => 147 | n => n, fun | 9 => 9 | 31 => 112 | 3 => 3 | 5 => 5 | 4 => 4 | 119 => 137 | 0 => 0 | 40 => 139 | 152 => 160 | 21 => 21 | 154 => 162 | 51 => 163 | 141 => 165 | 196 => 182 | 193 => 179 | 198 => 185 | 49 => 183 | 194 => 180 | 201 => 188 | 226 => 199 | 46 => 154 | 227 => 200 | n => n, fun | 0 => 0 | 6 => 1 | n => n⟩
theorem Tryz.lays157 : Go.Proofs.Lays.n157 Tryz.prog Tryz.lays157_ren := {
  mixed := by kernel_rfl
  f157 := Tryz.func99.trans (congrArg some (by kernel_rfl))
  f199 := Tryz.func117.trans (congrArg some (by kernel_rfl))
  f229 := Tryz.func116.trans (congrArg some (by kernel_rfl))
  f261 := Tryz.func133.trans (congrArg some (by kernel_rfl))
  f311 := Tryz.func146.trans (congrArg some (by kernel_rfl))
  f312 := Tryz.func147.trans (congrArg some (by kernel_rfl))
  t0 := Tryz.underlying0
  a0 := Tryz.isAgg0
  z0 := Tryz.sizeOf0
  v0 := Tryz.zeroValue0
  t3 := Tryz.underlying3
  a3 := Tryz.isAgg3
  z3 := Tryz.sizeOf3
  v3 := Tryz.zeroValue3
  t4 := Tryz.underlying4
  a4 := Tryz.isAgg4
  z4 := Tryz.sizeOf4
  v4 := Tryz.zeroValue4
  t5 := Tryz.underlying5
  a5 := Tryz.isAgg5
  z5 := Tryz.sizeOf5
  v5 := Tryz.zeroValue5
  t9 := Tryz.underlying9
  a9 := Tryz.isAgg9
  z9 := Tryz.sizeOf9
  v9 := Tryz.zeroValue9
  t21 := Tryz.underlying21
  a21 := Tryz.isAgg21
  z21 := Tryz.sizeOf21
  v21 := Tryz.zeroValue21
  t31 := Tryz.underlying112
  a31 := Tryz.isAgg112
  z31 := Tryz.sizeOf112
  v31 := Tryz.zeroValue112
  t40 := Tryz.underlying139
  a40 := Tryz.isAgg139
  z40 := Tryz.sizeOf139
  v40 := Tryz.zeroValue139
  t46 := Tryz.underlying154
  a46 := Tryz.isAgg154
  z46 := Tryz.sizeOf154
  v46 := Tryz.zeroValue154
  t49 := Tryz.underlying183
  a49 := Tryz.isAgg183
  z49 := Tryz.sizeOf183
  v49 := Tryz.zeroValue183
  t51 := Tryz.underlying163
  a51 := Tryz.isAgg163
  z51 := Tryz.sizeOf163
  v51 := Tryz.zeroValue163
  t119 := Tryz.underlying137
  a119 := Tryz.isAgg137
  z119 := Tryz.sizeOf137
  t141 := Tryz.underlying165
  a141 := Tryz.isAgg165
  z141 := Tryz.sizeOf165
  v141 := Tryz.zeroValue165
  t152 := Tryz.underlying160
  a152 := Tryz.isAgg160
  z152 := Tryz.sizeOf160
  v152 := Tryz.zeroValue160
  t154 := Tryz.underlying162
  a154 := Tryz.isAgg162
  z154 := Tryz.sizeOf162
  v154 := Tryz.zeroValue162
  t193 := Tryz.underlying179
  a193 := Tryz.isAgg179
  z193 := Tryz.sizeOf179
  v193 := Tryz.zeroValue179
  t194 := Tryz.underlying180
  a194 := Tryz.isAgg180
  z194 := Tryz.sizeOf180
  v194 := Tryz.zeroValue180
  t196 := Tryz.underlying182
  a196 := Tryz.isAgg182
  z196 := Tryz.sizeOf182
  v196 := Tryz.zeroValue182
  t198 := Tryz.underlying185
  a198 := Tryz.isAgg185
  z198 := Tryz.sizeOf185
  v198 := Tryz.zeroValue185
  t201 := Tryz.underlying188
  a201 := Tryz.isAgg188
  z201 := Tryz.sizeOf188
  v201 := Tryz.zeroValue188
  t226 := Tryz.underlying199
  a226 := Tryz.isAgg199
  z226 := Tryz.sizeOf199
  v226 := Tryz.zeroValue199
  t227 := Tryz.underlying200
  a227 := Tryz.isAgg200
  z227 := Tryz.sizeOf200
  v227 := Tryz.zeroValue200
  g0 := by kernel_rfl
  g6 := by kernel_rfl }
open Go.RowKit Go.Lib in
theorem Tryz.strings_Fields (s : ByteArray) (w : World) (hs : s.size < 4294967281) (hascii : ∀ (j : Nat) b, s.data.toList[j]? = some b → b.toNat < 128) (htab : Lib.TabIs Tryz.prog w "strings.asciiSpace" .u8 Lib.asciiSpaceTab) :
    Calls Tryz.prog 99 #[.string s] w fun e w' =>
      e = .returned (.slice (some ⟨w.heap.size, 0, none⟩) (Lib.fields s.data.toList).length (Lib.fields s.data.toList).length) ∧ w' = w.alloc (.cells ((Lib.fields s.data.toList).map fun l => Value.string ⟨l.toArray⟩).toArray 9) := Any.strings_Fields Tryz.lays157 (by kernel_rfl) (by kernel_rfl) s w hs hascii htab
end Go.Proofs
