/- Parts of the proof: Ga. Put together by slim.py. -/
import Derived.Test.YtcneefmaghoejaaGreatDoorB23
namespace Go.Proofs.YtcneefmaghoejaaGreatDoor
open Go.ChangeShapes Go.WideShapes Go.ChangeAt Go.RowKit
set_option linter.unusedVariables false
set_option linter.unusedSimpArgs false
def litX (v : Val) : Ex := ⟨1, v, ⟨#[]⟩, 0, none, 0, 0⟩
set_option maxHeartbeats 4000000 in
set_option maxRecDepth 100000 in
theorem glit_any (k n : Int) (s : ByteArray) (w : World) : Calls Tryz.prog 169 #[.agg #[.int .u8 k, .int .i64 n, .string s]] w fun e w' => e = .returned (exV (litX ⟨k, n, s⟩)) ∧ Below w.heap.size w w' := by
  have hb := Later.then (later_new w (.cells #[.int .u8 k, .int .i64 n, .string s] 33)) (later_new _ (.cells ex0 49))
  have hQ := Blk.new (w.alloc (.cells #[.int .u8 k, .int .i64 n, .string s] 33)) 49 ex0
  rw [show (w.alloc (.cells #[.int .u8 k, .int .i64 n, .string s] 33)).heap.size = w.heap.size + 1 by simp] at hQ
  have HQ := Lib.hid hQ
  have HB := Lib.hid hb
  clear hQ hb
  go_enter Tryz.func169, Tryz.ntmps169
  go_wp2_with (first
    | (refine wpList_store_row rfl 49 (.tmp 2) (.tmp 4) rfl (w.heap.size + 1) (exC (litX ⟨k, n, s⟩)).toArray rfl rfl 49 ex0 HQ.out gex_info rfl (ex_oneC _) ?_
       have HR := Lib.hid (HQ.out.row (exC (litX ⟨k, n, s⟩)).toArray)))
  refine bodyPost_ret (v := exV (litX ⟨k, n, s⟩)) (results_cell_row Tryz.results169 _ _ (w.heap.size + 1) 49 (exC (litX ⟨k, n, s⟩)).toArray (0, 0) _ rfl HR.out Tryz.underlying49 rfl gex_info) rfl ⟨rfl, ?_⟩
  exact HB.out.trans (below_grown (grown_row _ (w.heap.size + 1) _) HB.out.size (Nat.le_succ _))
theorem litX_at (w : World) (S : Nat → Prop) (v : Val) : (litT v).at_ w S (litX v) := lit_at w S v
theorem ga_int {W : Ps Tr} {t : Wd} {r : Wds} (h : t.k = 2) : atomP W (t :: r) = .ok (litT ⟨2, t.n, ByteArray.empty⟩, r) := by simp [atomP, h]
theorem ga_text {W : Ps Tr} {t : Wd} {r : Wds} (h : t.k = 3) : atomP W (t :: r) = .ok (litT ⟨3, 0, ⟨t.s.toArray⟩⟩, r) := by simp [atomP, h]
section
variable {W : Ps Tr} {l : Wds} (h2 : ∀ t r, l = t :: r → t.k ≠ 2 ∧ t.k ≠ 3) (hne : l ≠ [])
include h2 hne
theorem ga_true (h : headIs w_true l = true) : atomP W l = .ok (litT ⟨1, 1, ByteArray.empty⟩, l.tail) := by
  match l, hne with
  | t :: r, _ =>
    obtain ⟨a, b⟩ := h2 t r rfl
    have h : isW w_true t = true := h
    simp [atomP, a, b, h]
theorem ga_false (h1 : headIs w_true l = false) (h : headIs w_false l = true) : atomP W l = .ok (litT ⟨1, 0, ByteArray.empty⟩, l.tail) := by
  match l, hne with
  | t :: r, _ =>
    obtain ⟨a, b⟩ := h2 t r rfl
    have h1 : isW w_true t = false := h1
    have h : isW w_false t = true := h
    simp [atomP, a, b, h, h1]
theorem ga_null (h1 : headIs w_true l = false) (h3 : headIs w_false l = false) (h : headIs w_null l = true) : atomP W l = .ok (litT nilVal, l.tail) := by
  match l, hne with
  | t :: r, _ =>
    obtain ⟨a, b⟩ := h2 t r rfl
    have h1 : isW w_true t = false := h1
    have h3 : isW w_false t = false := h3
    have h : isW w_null t = true := h
    simp [atomP, a, b, h, h1, h3]
theorem ga_open (h1 : headIs w_true l = false) (h3 : headIs w_false l = false) (h4 : headIs w_null l = false) (h : headIs s_open l = true) : atomP W l = (do let x ← W; must s_close; return x : Ps Tr) l.tail := by
  match l, hne with
  | t :: r, _ =>
    obtain ⟨a, b⟩ := h2 t r rfl
    have h1 : isW w_true t = false := h1
    have h3 : isW w_false t = false := h3
    have h4 : isW w_null t = false := h4
    have h : isW s_open t = true := h
    simp only [atomP, a, b, h, h1, h3, h4, if_true, if_false, List.tail_cons]
    rfl
theorem ga_named (h1 : headIs w_true l = false) (h3 : headIs w_false l = false) (h4 : headIs w_null l = false) (h : headIs s_open l = false) : atomP W l = namedP W l := by
  match l, hne with
  | t :: r, _ =>
    obtain ⟨a, b⟩ := h2 t r rfl
    have h1 : isW w_true t = false := h1
    have h3 : isW w_false t = false := h3
    have h4 : isW w_null t = false := h4
    have h : isW s_open t = false := h
    simp only [atomP, a, b, h, h1, h3, h4, if_true, if_false]
    rfl
end
theorem ga_err {W : Ps Tr} {l : Wds} {n : Nat} (h : nameP l = .error n) : namedP W l = .error n := bind_errP h
theorem ga_col {W : Ps Tr} {l r : Wds} {nm : ByteArray} (h : nameP l = .ok (nm, r)) (ho : headIs s_open r = false) : namedP W l = .ok (colT nm, r) := by
  unfold namedP
  refine (bind_okP h).trans ?_
  simp only [ho]
  rfl
theorem ga_fun {l r : Wds} {nm : ByteArray} (h : nameP l = .ok (nm, r)) (ho : headIs s_open r = true) : namedP (exprL 0) l = fnP nm r.tail := by
  unfold namedP
  refine (bind_okP h).trans ?_
  obtain ⟨t, q, rfl, _⟩ := headIs_cons ho
  simp only [ho, if_true]
  unfold fnP
  cases funOf nm <;> rfl
def colX (nm : ByteArray) : Ex := ⟨2, nilY, nm, 0, none, 0, 0⟩
set_option maxHeartbeats 4000000 in
set_option maxRecDepth 100000 in
theorem g_atom_int (ρ : Rdr) (w : World) (l : Wds) (lg dp : Bool) (h : ρ.gat w l lg dp) (hk : ∀ t r, l = t :: r → t.k = 2) :
    Calls Tryz.prog 166 #[ρ.ptr] w (exPost ρ w lg dp (atomP (exprL 0)) l) := by
  obtain ⟨t, r, pl, hte, hl, hlt, hsm, hpl, htp, hn0, hn1, hp⟩ := h.peek
  have hgg := h.lt_
  have hb0 := later_new w (.cells ex0 49)
  have hnow := gnow_any ρ _ l lg dp (h.later hb0)
  rw [← hte] at hnow
  have HQ := Lib.hid (Blk.new w 49 ex0)
  have HD := Lib.hid (GDid.of_later h hb0)
  have HL := Lib.hid hl
  have hlf := h.left
  have hrl : r.length + 1 ≤ ρ.n := by have := hlf.2; rw [hl] at this; simpa using this
  have HRL := Lib.hid (show (l.length : Int) = (r.length : Int) + 1 by rw [hl]; rfl)
  have hsz : (w.alloc (.cells ex0 49)).heap.size = w.heap.size + 1 := by simp
  have hk := hk t.w r hl
  have HK := Lib.hid hk
  have g2 : ((t.w.k : Int) == 2) = true := by simp; omega
  clear hk
  clear hte hpl htp hp hlt h hb0 hl hlf
  unfold ex0 at hnow hsz
  go_enter Tryz.func166, Tryz.ntmps166
  go_wp2_with fail
  refine hnow.mono ?_
  clear hnow
  rintro e w1 ⟨rfl, b1⟩
  have hb1 := later_new w1 (.cells (tokB t) 46)
  have HT1 := Lib.hid (Blk.new w1 46 (tokB t))
  have HD1 := Lib.hid ((HD.out.later b1).later hb1)
  have HQ1 := Lib.hid ((HQ.out.later b1).later hb1)
  have htq : w.heap.size + 1 ≤ w1.heap.size := by have := b1.size; omega
  clear b1 hb1 HD HQ hsz
  unfold tokB at *
  go_upto_region 2 with fail
  generalize w1.alloc _ = W1 at *
  generalize w1.heap.size = tb at *
  obtain ⟨u0, u1, u2, u3, v0, v1, v2, v3⟩ := four_facts HT1.out
  obtain ⟨c0, c1, c2, c3, f1, f2, f3⟩ := HD1.out.at_.facts
  rw [HRL.out] at c1
  have e1 : (ρ.n : Int) - ((r.length : Int) + 1) + 1 = (ρ.n : Int) - r.length := by omega
  have hst := Rdr.gat.step (t := t.w) (l := r) (by have := HD1.out.at_; rw [HL.out] at this; exact this) (by have := HK.out; omega)
  have HD2 := Lib.hid (HD1.out.trans hst)
  have HQ2 := Lib.hid (HQ1.out.far (p := ⟨ρ.g, 1, none⟩) (by simp; omega) (.int .i64 ((ρ.n : Int) - r.length)))
  clear hst
  unfold Rdr.ptr
  go_wp2_with fail
  refine (glit_any 2 t.w.n ⟨#[]⟩ _).mono ?_
  rintro e w3 ⟨rfl, b3⟩
  have HD3 := Lib.hid (HD2.out.later b3)
  have HQ3 := Lib.hid (HQ2.out.later b3)
  clear b3 HD2 HQ2 HD1 HQ1 HT1 u0 u1 u2 u3 v0 v1 v2 v3 c0 c1 c2 c3 f1 f2 f3
  go_wp2_with (first
    | (refine wpList_store_row rfl 49 (.tmp 2) (.tmp 22) rfl w.heap.size (exC (litX ⟨2, t.w.n, ⟨#[]⟩⟩)).toArray rfl rfl 49 ex0 HQ3.out gex_info rfl (ex_oneC _) ?_
       have HR := Lib.hid (HQ3.out.row (exC (litX ⟨2, t.w.n, ⟨#[]⟩⟩)).toArray)))
  refine bodyPost_ret (v := exV (litX ⟨2, t.w.n, ⟨#[]⟩⟩)) (results_cell_row Tryz.results166 _ _ w.heap.size 49 (exC (litX ⟨2, t.w.n, ⟨#[]⟩⟩)).toArray (0, 0) _ rfl HR.out Tryz.underlying49 rfl gex_info) rfl ?_
  exact exPost_put hgg HD3.out (litX_at _ _ ⟨2, t.w.n, ⟨#[]⟩⟩) (by rw [HL.out]; exact ga_int HK.out)
set_option maxHeartbeats 4000000 in
set_option maxRecDepth 100000 in
theorem g_atom_text (ρ : Rdr) (w : World) (l : Wds) (lg dp : Bool) (h : ρ.gat w l lg dp) (hk : ∀ t r, l = t :: r → t.k = 3) :
    Calls Tryz.prog 166 #[ρ.ptr] w (exPost ρ w lg dp (atomP (exprL 0)) l) := by
  obtain ⟨t, r, pl, hte, hl, hlt, hsm, hpl, htp, hn0, hn1, hp⟩ := h.peek
  have hgg := h.lt_
  have hb0 := later_new w (.cells ex0 49)
  have hnow := gnow_any ρ _ l lg dp (h.later hb0)
  rw [← hte] at hnow
  have HQ := Lib.hid (Blk.new w 49 ex0)
  have HD := Lib.hid (GDid.of_later h hb0)
  have HL := Lib.hid hl
  have hlf := h.left
  have hrl : r.length + 1 ≤ ρ.n := by have := hlf.2; rw [hl] at this; simpa using this
  have HRL := Lib.hid (show (l.length : Int) = (r.length : Int) + 1 by rw [hl]; rfl)
  have hsz : (w.alloc (.cells ex0 49)).heap.size = w.heap.size + 1 := by simp
  have hk := hk t.w r hl
  have HK := Lib.hid hk
  have g2 : ((t.w.k : Int) == 2) = false := by simp; omega
  have g3 : ((t.w.k : Int) == 3) = true := by simp; omega
  clear hk
  clear hte hpl htp hp hlt h hb0 hl hlf
  unfold ex0 at hnow hsz
  go_enter Tryz.func166, Tryz.ntmps166
  go_wp2_with fail
  refine hnow.mono ?_
  clear hnow
  rintro e w1 ⟨rfl, b1⟩
  have hb1 := later_new w1 (.cells (tokB t) 46)
  have HT1 := Lib.hid (Blk.new w1 46 (tokB t))
  have HD1 := Lib.hid ((HD.out.later b1).later hb1)
  have HQ1 := Lib.hid ((HQ.out.later b1).later hb1)
  have htq : w.heap.size + 1 ≤ w1.heap.size := by have := b1.size; omega
  clear b1 hb1 HD HQ hsz
  unfold tokB at *
  go_upto_region 2 with fail
  generalize w1.alloc _ = W1 at *
  generalize w1.heap.size = tb at *
  obtain ⟨u0, u1, u2, u3, v0, v1, v2, v3⟩ := four_facts HT1.out
  obtain ⟨c0, c1, c2, c3, f1, f2, f3⟩ := HD1.out.at_.facts
  rw [HRL.out] at c1
  have e1 : (ρ.n : Int) - ((r.length : Int) + 1) + 1 = (ρ.n : Int) - r.length := by omega
  have hst := Rdr.gat.step (t := t.w) (l := r) (by have := HD1.out.at_; rw [HL.out] at this; exact this) (by have := HK.out; omega)
  have HD2 := Lib.hid (HD1.out.trans hst)
  have HQ2 := Lib.hid (HQ1.out.far (p := ⟨ρ.g, 1, none⟩) (by simp; omega) (.int .i64 ((ρ.n : Int) - r.length)))
  clear hst
  unfold Rdr.ptr
  go_wp2_with fail
  refine (glit_any 3 0 ⟨t.w.s.toArray⟩ _).mono ?_
  rintro e w3 ⟨rfl, b3⟩
  have HD3 := Lib.hid (HD2.out.later b3)
  have HQ3 := Lib.hid (HQ2.out.later b3)
  clear b3 HD2 HQ2 HD1 HQ1 HT1 u0 u1 u2 u3 v0 v1 v2 v3 c0 c1 c2 c3 f1 f2 f3
  go_wp2_with (first
    | (refine wpList_store_row rfl 49 (.tmp 2) (.tmp 37) rfl w.heap.size (exC (litX ⟨3, 0, ⟨t.w.s.toArray⟩⟩)).toArray rfl rfl 49 ex0 HQ3.out gex_info rfl (ex_oneC _) ?_
       have HR := Lib.hid (HQ3.out.row (exC (litX ⟨3, 0, ⟨t.w.s.toArray⟩⟩)).toArray)))
  refine bodyPost_ret (v := exV (litX ⟨3, 0, ⟨t.w.s.toArray⟩⟩)) (results_cell_row Tryz.results166 _ _ w.heap.size 49 (exC (litX ⟨3, 0, ⟨t.w.s.toArray⟩⟩)).toArray (0, 0) _ rfl HR.out Tryz.underlying49 rfl gex_info) rfl ?_
  exact exPost_put hgg HD3.out (litX_at _ _ ⟨3, 0, ⟨t.w.s.toArray⟩⟩) (by rw [HL.out]; exact ga_text HK.out)
set_option maxHeartbeats 4000000 in
set_option maxRecDepth 100000 in
theorem g_atom_w1 (ρ : Rdr) (w : World) (l : Wds) (lg dp : Bool) (h : ρ.gat w l lg dp) (hk : ∀ t r, l = t :: r → t.k ≠ 2 ∧ t.k ≠ 3) (h_w_true : headIs w_true l = true) :
    Calls Tryz.prog 166 #[ρ.ptr] w (exPost ρ w lg dp (atomP (exprL 0)) l) := by
  have HKK := Lib.hid hk
  obtain ⟨t, r, pl, hte, hl, hlt, hsm, hpl, htp, hn0, hn1, hp⟩ := h.peek
  have hgg := h.lt_
  have hb0 := later_new w (.cells ex0 49)
  have hnow := gnow_any ρ _ l lg dp (h.later hb0)
  rw [← hte] at hnow
  have HQ := Lib.hid (Blk.new w 49 ex0)
  have HD := Lib.hid (GDid.of_later h hb0)
  have HL := Lib.hid hl
  have hlf := h.left
  have hrl : r.length + 1 ≤ ρ.n := by have := hlf.2; rw [hl] at this; simpa using this
  have HRL := Lib.hid (show (l.length : Int) = (r.length : Int) + 1 by rw [hl]; rfl)
  have hsz : (w.alloc (.cells ex0 49)).heap.size = w.heap.size + 1 := by simp
  have hk := hk t.w r hl
  have g2 : ((t.w.k : Int) == 2) = false := by simp; omega
  have g3 : ((t.w.k : Int) == 3) = false := by simp; omega
  clear hk
  clear hte hpl htp hp hlt h hb0 hl hlf
  unfold ex0 at hnow hsz
  go_enter Tryz.func166, Tryz.ntmps166
  go_wp2_with fail
  refine hnow.mono ?_
  clear hnow
  rintro e w1 ⟨rfl, b1⟩
  have hb1 := later_new w1 (.cells (tokB t) 46)
  have HT1 := Lib.hid (Blk.new w1 46 (tokB t))
  have HD1 := Lib.hid ((HD.out.later b1).later hb1)
  have HQ1 := Lib.hid ((HQ.out.later b1).later hb1)
  have htq : w.heap.size + 1 ≤ w1.heap.size := by have := b1.size; omega
  clear b1 hb1 HD HQ hsz
  unfold tokB at *
  go_upto_region 2 with fail
  generalize w1.alloc _ = W1 at *
  generalize w1.heap.size = tb at *
  obtain ⟨u0, u1, u2, u3, v0, v1, v2, v3⟩ := four_facts HT1.out
  have hm := ghave_any ρ W1 l lg dp HD1.out.at_ ⟨#[116, 114, 117, 101]⟩
  rw [show (⟨#[116, 114, 117, 101]⟩ : ByteArray).data.toList = w_true from rfl, h_w_true, after_yes h_w_true] at hm
  go_wp2_with fail
  refine hm.mono ?_
  clear hm
  rintro e w2 ⟨rfl, d⟩
  have HD2 := Lib.hid (HD1.out.trans d)
  have HQ2 := Lib.hid (d.blk HQ1.out (by omega))
  clear d HD1 HQ1 HT1 u0 u1 u2 u3 v0 v1 v2 v3
  generalize hW2 : w2 = W2 at *
  clear hW2
  go_wp2_with fail
  refine (glit_any 1 1 ⟨#[]⟩ _).mono ?_
  rintro e w9 ⟨rfl, b9⟩
  have HD9 := Lib.hid (HD2.out.later b9)
  have HQ9 := Lib.hid (HQ2.out.later b9)
  clear b9 HD2 HQ2
  go_wp2_with (first
    | (refine wpList_store_row rfl 49 (.tmp 2) (.tmp 42) rfl w.heap.size (exC (litX ⟨1, 1, ⟨#[]⟩⟩)).toArray rfl rfl 49 ex0 HQ9.out gex_info rfl (ex_oneC _) ?_
       have HR := Lib.hid (HQ9.out.row (exC (litX ⟨1, 1, ⟨#[]⟩⟩)).toArray)))
  refine bodyPost_ret (v := exV (litX ⟨1, 1, ⟨#[]⟩⟩)) (results_cell_row Tryz.results166 _ _ w.heap.size 49 (exC (litX ⟨1, 1, ⟨#[]⟩⟩)).toArray (0, 0) _ rfl HR.out Tryz.underlying49 rfl gex_info) rfl ?_
  exact exPost_put hgg HD9.out (litX_at _ _ ⟨1, 1, ⟨#[]⟩⟩) (ga_true HKK.out (by rw [HL.out]; simp) h_w_true)
set_option maxHeartbeats 4000000 in
set_option maxRecDepth 100000 in
theorem g_atom_w2 (ρ : Rdr) (w : World) (l : Wds) (lg dp : Bool) (h : ρ.gat w l lg dp) (hk : ∀ t r, l = t :: r → t.k ≠ 2 ∧ t.k ≠ 3) (h_w_true : headIs w_true l = false) (h_w_false : headIs w_false l = true) :
    Calls Tryz.prog 166 #[ρ.ptr] w (exPost ρ w lg dp (atomP (exprL 0)) l) := by
  have HKK := Lib.hid hk
  obtain ⟨t, r, pl, hte, hl, hlt, hsm, hpl, htp, hn0, hn1, hp⟩ := h.peek
  have hgg := h.lt_
  have hb0 := later_new w (.cells ex0 49)
  have hnow := gnow_any ρ _ l lg dp (h.later hb0)
  rw [← hte] at hnow
  have HQ := Lib.hid (Blk.new w 49 ex0)
  have HD := Lib.hid (GDid.of_later h hb0)
  have HL := Lib.hid hl
  have hlf := h.left
  have hrl : r.length + 1 ≤ ρ.n := by have := hlf.2; rw [hl] at this; simpa using this
  have HRL := Lib.hid (show (l.length : Int) = (r.length : Int) + 1 by rw [hl]; rfl)
  have hsz : (w.alloc (.cells ex0 49)).heap.size = w.heap.size + 1 := by simp
  have hk := hk t.w r hl
  have g2 : ((t.w.k : Int) == 2) = false := by simp; omega
  have g3 : ((t.w.k : Int) == 3) = false := by simp; omega
  clear hk
  clear hte hpl htp hp hlt h hb0 hl hlf
  unfold ex0 at hnow hsz
  go_enter Tryz.func166, Tryz.ntmps166
  go_wp2_with fail
  refine hnow.mono ?_
  clear hnow
  rintro e w1 ⟨rfl, b1⟩
  have hb1 := later_new w1 (.cells (tokB t) 46)
  have HT1 := Lib.hid (Blk.new w1 46 (tokB t))
  have HD1 := Lib.hid ((HD.out.later b1).later hb1)
  have HQ1 := Lib.hid ((HQ.out.later b1).later hb1)
  have htq : w.heap.size + 1 ≤ w1.heap.size := by have := b1.size; omega
  clear b1 hb1 HD HQ hsz
  unfold tokB at *
  go_upto_region 2 with fail
  generalize w1.alloc _ = W1 at *
  generalize w1.heap.size = tb at *
  obtain ⟨u0, u1, u2, u3, v0, v1, v2, v3⟩ := four_facts HT1.out
  have hm := ghave_any ρ W1 l lg dp HD1.out.at_ ⟨#[116, 114, 117, 101]⟩
  rw [show (⟨#[116, 114, 117, 101]⟩ : ByteArray).data.toList = w_true from rfl, h_w_true, after_no h_w_true] at hm
  go_wp2_with fail
  refine hm.mono ?_
  clear hm
  rintro e w2 ⟨rfl, d⟩
  have HD2 := Lib.hid (HD1.out.trans d)
  have HQ2 := Lib.hid (d.blk HQ1.out (by omega))
  clear d HD1 HQ1 HT1 u0 u1 u2 u3 v0 v1 v2 v3
  generalize hW2 : w2 = W2 at *
  clear hW2
  have hm := ghave_any ρ W2 l lg dp HD2.out.at_ ⟨#[102, 97, 108, 115, 101]⟩
  rw [show (⟨#[102, 97, 108, 115, 101]⟩ : ByteArray).data.toList = w_false from rfl, h_w_false, after_yes h_w_false] at hm
  go_wp2_with fail
  refine hm.mono ?_
  clear hm
  rintro e w3 ⟨rfl, d⟩
  have HD3 := Lib.hid (HD2.out.trans d)
  have HQ3 := Lib.hid (d.blk HQ2.out (by omega))
  clear d HD2 HQ2
  generalize hW3 : w3 = W3 at *
  clear hW3
  go_wp2_with fail
  refine (glit_any 1 0 ⟨#[]⟩ _).mono ?_
  rintro e w9 ⟨rfl, b9⟩
  have HD9 := Lib.hid (HD3.out.later b9)
  have HQ9 := Lib.hid (HQ3.out.later b9)
  clear b9 HD3 HQ3
  go_wp2_with (first
    | (refine wpList_store_row rfl 49 (.tmp 2) (.tmp 47) rfl w.heap.size (exC (litX ⟨1, 0, ⟨#[]⟩⟩)).toArray rfl rfl 49 ex0 HQ9.out gex_info rfl (ex_oneC _) ?_
       have HR := Lib.hid (HQ9.out.row (exC (litX ⟨1, 0, ⟨#[]⟩⟩)).toArray)))
  refine bodyPost_ret (v := exV (litX ⟨1, 0, ⟨#[]⟩⟩)) (results_cell_row Tryz.results166 _ _ w.heap.size 49 (exC (litX ⟨1, 0, ⟨#[]⟩⟩)).toArray (0, 0) _ rfl HR.out Tryz.underlying49 rfl gex_info) rfl ?_
  exact exPost_put hgg HD9.out (litX_at _ _ ⟨1, 0, ⟨#[]⟩⟩) (ga_false HKK.out (by rw [HL.out]; simp) h_w_true h_w_false)
set_option maxHeartbeats 4000000 in
set_option maxRecDepth 100000 in
theorem g_atom_w3 (ρ : Rdr) (w : World) (l : Wds) (lg dp : Bool) (h : ρ.gat w l lg dp) (hk : ∀ t r, l = t :: r → t.k ≠ 2 ∧ t.k ≠ 3) (h_w_true : headIs w_true l = false) (h_w_false : headIs w_false l = false) (h_w_null : headIs w_null l = true) :
    Calls Tryz.prog 166 #[ρ.ptr] w (exPost ρ w lg dp (atomP (exprL 0)) l) := by
  have HKK := Lib.hid hk
  obtain ⟨t, r, pl, hte, hl, hlt, hsm, hpl, htp, hn0, hn1, hp⟩ := h.peek
  have hgg := h.lt_
  have hb0 := later_new w (.cells ex0 49)
  have hnow := gnow_any ρ _ l lg dp (h.later hb0)
  rw [← hte] at hnow
  have HQ := Lib.hid (Blk.new w 49 ex0)
  have HD := Lib.hid (GDid.of_later h hb0)
  have HL := Lib.hid hl
  have hlf := h.left
  have hrl : r.length + 1 ≤ ρ.n := by have := hlf.2; rw [hl] at this; simpa using this
  have HRL := Lib.hid (show (l.length : Int) = (r.length : Int) + 1 by rw [hl]; rfl)
  have hsz : (w.alloc (.cells ex0 49)).heap.size = w.heap.size + 1 := by simp
  have hk := hk t.w r hl
  have g2 : ((t.w.k : Int) == 2) = false := by simp; omega
  have g3 : ((t.w.k : Int) == 3) = false := by simp; omega
  clear hk
  clear hte hpl htp hp hlt h hb0 hl hlf
  unfold ex0 at hnow hsz
  go_enter Tryz.func166, Tryz.ntmps166
  go_wp2_with fail
  refine hnow.mono ?_
  clear hnow
  rintro e w1 ⟨rfl, b1⟩
  have hb1 := later_new w1 (.cells (tokB t) 46)
  have HT1 := Lib.hid (Blk.new w1 46 (tokB t))
  have HD1 := Lib.hid ((HD.out.later b1).later hb1)
  have HQ1 := Lib.hid ((HQ.out.later b1).later hb1)
  have htq : w.heap.size + 1 ≤ w1.heap.size := by have := b1.size; omega
  clear b1 hb1 HD HQ hsz
  unfold tokB at *
  go_upto_region 2 with fail
  generalize w1.alloc _ = W1 at *
  generalize w1.heap.size = tb at *
  obtain ⟨u0, u1, u2, u3, v0, v1, v2, v3⟩ := four_facts HT1.out
  have hm := ghave_any ρ W1 l lg dp HD1.out.at_ ⟨#[116, 114, 117, 101]⟩
  rw [show (⟨#[116, 114, 117, 101]⟩ : ByteArray).data.toList = w_true from rfl, h_w_true, after_no h_w_true] at hm
  go_wp2_with fail
  refine hm.mono ?_
  clear hm
  rintro e w2 ⟨rfl, d⟩
  have HD2 := Lib.hid (HD1.out.trans d)
  have HQ2 := Lib.hid (d.blk HQ1.out (by omega))
  clear d HD1 HQ1 HT1 u0 u1 u2 u3 v0 v1 v2 v3
  generalize hW2 : w2 = W2 at *
  clear hW2
  have hm := ghave_any ρ W2 l lg dp HD2.out.at_ ⟨#[102, 97, 108, 115, 101]⟩
  rw [show (⟨#[102, 97, 108, 115, 101]⟩ : ByteArray).data.toList = w_false from rfl, h_w_false, after_no h_w_false] at hm
  go_wp2_with fail
  refine hm.mono ?_
  clear hm
  rintro e w3 ⟨rfl, d⟩
  have HD3 := Lib.hid (HD2.out.trans d)
  have HQ3 := Lib.hid (d.blk HQ2.out (by omega))
  clear d HD2 HQ2
  generalize hW3 : w3 = W3 at *
  clear hW3
  have hm := ghave_any ρ W3 l lg dp HD3.out.at_ ⟨#[110, 117, 108, 108]⟩
  rw [show (⟨#[110, 117, 108, 108]⟩ : ByteArray).data.toList = w_null from rfl, h_w_null, after_yes h_w_null] at hm
  go_wp2_with fail
  refine hm.mono ?_
  clear hm
  rintro e w4 ⟨rfl, d⟩
  have HD4 := Lib.hid (HD3.out.trans d)
  have HQ4 := Lib.hid (d.blk HQ3.out (by omega))
  clear d HD3 HQ3
  generalize hW4 : w4 = W4 at *
  clear hW4
  go_wp2_with fail
  refine (glit_any 0 0 ⟨#[]⟩ _).mono ?_
  rintro e w9 ⟨rfl, b9⟩
  have HD9 := Lib.hid (HD4.out.later b9)
  have HQ9 := Lib.hid (HQ4.out.later b9)
  clear b9 HD4 HQ4
  go_wp2_with (first
    | (refine wpList_store_row rfl 49 (.tmp 2) (.tmp 52) rfl w.heap.size (exC (litX ⟨0, 0, ⟨#[]⟩⟩)).toArray rfl rfl 49 ex0 HQ9.out gex_info rfl (ex_oneC _) ?_
       have HR := Lib.hid (HQ9.out.row (exC (litX ⟨0, 0, ⟨#[]⟩⟩)).toArray)))
  refine bodyPost_ret (v := exV (litX ⟨0, 0, ⟨#[]⟩⟩)) (results_cell_row Tryz.results166 _ _ w.heap.size 49 (exC (litX ⟨0, 0, ⟨#[]⟩⟩)).toArray (0, 0) _ rfl HR.out Tryz.underlying49 rfl gex_info) rfl ?_
  exact exPost_put hgg HD9.out (litX_at _ _ ⟨0, 0, ⟨#[]⟩⟩) (ga_null HKK.out (by rw [HL.out]; simp) h_w_true h_w_false h_w_null)
end Go.Proofs.YtcneefmaghoejaaGreatDoor
