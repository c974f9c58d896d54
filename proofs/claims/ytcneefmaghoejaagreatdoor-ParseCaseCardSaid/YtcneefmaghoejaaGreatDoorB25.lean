/- Parts of the proof: Gb, Dep, PaT. Put together by slim.py. -/
import Derived.Test.YtcneefmaghoejaaGreatDoorB8
import Derived.Test.YtcneefmaghoejaaGreatDoorB22
import Derived.Test.YtcneefmaghoejaaGreatDoorB24
namespace Go.Proofs.YtcneefmaghoejaaGreatDoor
open Go.ChangeShapes Go.WideShapes Go.ChangeAt Go.RowKit
set_option linter.unusedVariables false
set_option linter.unusedSimpArgs false
set_option maxHeartbeats 4000000 in
set_option maxRecDepth 100000 in
theorem g_atom_open (ρ : Rdr) (w : World) (l : Wds) (lg dp : Bool) (h : ρ.gat w l lg dp) (hk : ∀ t r, l = t :: r → t.k ≠ 2 ∧ t.k ≠ 3) (h_w_true : headIs w_true l = false) (h_w_false : headIs w_false l = false) (h_w_null : headIs w_null l = false) (h_s_open : headIs s_open l = true) (IH : GIH ρ (8 * l.length)) :
    Calls Tryz.prog 166 #[ρ.ptr] w (exPost ρ w lg dp (atomP (exprL 0)) l) := by
  have HKK := Lib.hid hk
  have hln := head_len h_s_open
  obtain ⟨t, r, pl, hte, hl, hlt, hsm, hpl, htp, hn0, hn1, hp⟩ := h.peek
  have hgg := h.lt_
  have hb0 := later_new w (.cells ex0 49)
  have hnow := gnow_any ρ _ l lg dp (h.later hb0)
  rw [← hte] at hnow
  have HQ := Lib.hid (Blk.new w 49 ex0)
  have HD := Lib.hid (GDid.of_later h hb0)
  have HL := Lib.hid hl
  have hlf := h.left
  have hrl : r.length + 1 ≤ ρ.n := by have := hlf.2; rw [hl] at this; simpa using this
  have HRL := Lib.hid (show (l.length : Int) = (r.length : Int) + 1 by rw [hl]; rfl)
  have hsz : (w.alloc (.cells ex0 49)).heap.size = w.heap.size + 1 := by simp
  have hk := hk t.w r hl
  have g2 : ((t.w.k : Int) == 2) = false := by simp; omega
  have g3 : ((t.w.k : Int) == 3) = false := by simp; omega
  clear hk
  clear hte hpl htp hp hlt h hb0 hl hlf
  unfold ex0 at hnow hsz
  go_enter Tryz.func166, Tryz.ntmps166
  go_wp2_with fail
  refine hnow.mono ?_
  clear hnow
  rintro e w1 ⟨rfl, b1⟩
  have hb1 := later_new w1 (.cells (tokB t) 46)
  have HT1 := Lib.hid (Blk.new w1 46 (tokB t))
  have HD1 := Lib.hid ((HD.out.later b1).later hb1)
  have HQ1 := Lib.hid ((HQ.out.later b1).later hb1)
  have htq : w.heap.size + 1 ≤ w1.heap.size := by have := b1.size; omega
  clear b1 hb1 HD HQ hsz
  unfold tokB at *
  go_upto_region 2 with fail
  generalize w1.alloc _ = W1 at *
  generalize w1.heap.size = tb at *
  obtain ⟨u0, u1, u2, u3, v0, v1, v2, v3⟩ := four_facts HT1.out
  have hm := ghave_any ρ W1 l lg dp HD1.out.at_ ⟨#[116, 114, 117, 101]⟩
  rw [show (⟨#[116, 114, 117, 101]⟩ : ByteArray).data.toList = w_true from rfl, h_w_true, after_no h_w_true] at hm
  go_wp2_with fail
  refine hm.mono ?_
  clear hm
  rintro e w2 ⟨rfl, d⟩
  have HD2 := Lib.hid (HD1.out.trans d)
  have HQ2 := Lib.hid (d.blk HQ1.out (by omega))
  clear d HD1 HQ1 HT1 u0 u1 u2 u3 v0 v1 v2 v3
  generalize hW2 : w2 = W2 at *
  clear hW2
  have hm := ghave_any ρ W2 l lg dp HD2.out.at_ ⟨#[102, 97, 108, 115, 101]⟩
  rw [show (⟨#[102, 97, 108, 115, 101]⟩ : ByteArray).data.toList = w_false from rfl, h_w_false, after_no h_w_false] at hm
  go_wp2_with fail
  refine hm.mono ?_
  clear hm
  rintro e w3 ⟨rfl, d⟩
  have HD3 := Lib.hid (HD2.out.trans d)
  have HQ3 := Lib.hid (d.blk HQ2.out (by omega))
  clear d HD2 HQ2
  generalize hW3 : w3 = W3 at *
  clear hW3
  have hm := ghave_any ρ W3 l lg dp HD3.out.at_ ⟨#[110, 117, 108, 108]⟩
  rw [show (⟨#[110, 117, 108, 108]⟩ : ByteArray).data.toList = w_null from rfl, h_w_null, after_no h_w_null] at hm
  go_wp2_with fail
  refine hm.mono ?_
  clear hm
  rintro e w4 ⟨rfl, d⟩
  have HD4 := Lib.hid (HD3.out.trans d)
  have HQ4 := Lib.hid (d.blk HQ3.out (by omega))
  clear d HD3 HQ3
  generalize hW4 : w4 = W4 at *
  clear hW4
  have hm := ghave_any ρ W4 l lg dp HD4.out.at_ ⟨#[40]⟩
  rw [show (⟨#[40]⟩ : ByteArray).data.toList = s_open from rfl, h_s_open, after_yes h_s_open] at hm
  go_wp2_with fail
  refine hm.mono ?_
  clear hm
  rintro e w5 ⟨rfl, d⟩
  have HD5 := Lib.hid (HD4.out.trans d)
  have HQ5 := Lib.hid (d.blk HQ4.out (by omega))
  clear d HD4 HQ4
  generalize hW5 : w5 = W5 at *
  clear hW5
  have HE := Lib.hid (ga_open (W := exprL 0) HKK.out (by rw [HL.out]; simp) h_w_true h_w_false h_w_null h_s_open)
  go_wp2_with fail
  refine (IH 0 l.tail W5 lg dp (by omega) (by omega) HD5.out.at_).mono ?_
  intro e w6 hp
  rcases hp.cases with ⟨t6, r6, v, hok, rfl, y, rfl, hat, d⟩ | ⟨m, herr, rfl, hg⟩
  case inr =>
    have HF := Lib.hid (HE.out.trans (bind_errP herr))
    have HG := Lib.hid HD5.out.grown
    clear hp herr
    go_wp2_with fail
    exact body_panic rfl (exPost_err HF.out HG.out hg)
  have HE6 := Lib.hid (HE.out.trans (bind_okP hok))
  have hq5 := HQ5.out.lt
  have hx := later_new w6 (.cells (exC y).toArray 49)
  have hD6 := (HD5.out.trans d).later hx
  have HQ6 := Lib.hid ((d.blk HQ5.out (by omega)).later hx)
  have HX6 := Lib.hid (Blk.new w6 49 (exC y).toArray)
  have HT6 := Lib.hid ((hat.more (show w.heap.size + 1 ≤ W5.heap.size by omega)).later hx)
  have HD6 := Lib.hid hD6
  have hq6 : w.heap.size < w6.heap.size := by have := d.size; omega
  clear hp hok hx hD6 d hat HD5 HQ5 HE
  unfold exV
  unfold exC at *
  go_upto_region 16 with fail
  generalize (World.alloc _ _) = W6 at *
  generalize w6.heap.size = qx at *
  have hb := later_new W6 (.cells (strsC [s_close]) 9)
  have hgl := HD6.out.lt
  have HB := Lib.hid (HD6.out.later hb)
  have HQ7 := Lib.hid (HQ6.out.later hb)
  have HX7 := Lib.hid (HX6.out.later hb)
  have HT7 := Lib.hid (HT6.out.later hb)
  have hm := gmust_any ρ _ _ lg dp HB.out.at_ [s_close] W6.heap.size 1 rfl (Blk.new W6 _ _) (by omega) (by omega)
  clear hb HD6 HQ6 HX6 HT6
  unfold strsC strOf at *
  simp only [List.map_cons, List.map_nil] at hm HB HQ7 HX7 HT7
  rw [show s_close.toArray = #[41] from rfl] at hm HB HQ7 HX7 HT7
  go_wp2_with fail
  refine hm.mono ?_
  clear hm
  intro e w8 hp
  rcases hp.cases with ⟨_, r8, v, hok, rfl, rfl, d⟩ | ⟨m, herr, rfl, hg⟩
  case inr =>
    have HF := Lib.hid (HE6.out.trans (bind_errP (show must s_close r6 = .error m by rw [← musts_one]; exact herr)))
    have HG := Lib.hid HB.out.grown
    clear hp herr
    go_wp2_with fail
    exact body_panic rfl (exPost_err HF.out HG.out hg)
  have hmt : must s_close r6 = .ok ((), r8) := by rw [← musts_one]; exact hok
  have HE8 := Lib.hid (HE6.out.trans (bind_okP hmt))
  have HD8 := Lib.hid (HB.out.trans d)
  have HQ8 := Lib.hid (d.blk HQ7.out (by omega))
  have HX8 := Lib.hid (d.blk HX7.out (by omega))
  have HT8 := Lib.hid (HT7.out.grown d.grown (by omega))
  clear hp hok hmt d HB HQ7 HX7 HT7 HE6
  go_wp2_with (first
    | (refine wpList_load_row rfl 49 (.tmp 4) rfl qx rfl 49 (exC y).toArray (0, 0) _ HX8.out Tryz.underlying49 rfl gex_info ?_)
    | (refine wpList_store_row rfl 49 (.tmp 2) (.tmp 61) rfl w.heap.size (exC y).toArray rfl rfl 49 ex0 HQ8.out gex_info rfl (ex_oneC _) ?_
       have HR := Lib.hid (HQ8.out.row (exC y).toArray)))
  refine bodyPost_ret (v := exV y) (results_cell_row Tryz.results166 _ _ w.heap.size 49 (exC y).toArray (0, 0) _ rfl HR.out Tryz.underlying49 rfl gex_info) rfl ?_
  exact exPost_put hgg HD8.out HT8.out (HE8.out.trans rfl)
set_option maxHeartbeats 4000000 in
set_option maxRecDepth 100000 in
theorem g_atom_named (ρ : Rdr) (w : World) (l : Wds) (lg dp : Bool) (h : ρ.gat w l lg dp) (hk : ∀ t r, l = t :: r → t.k ≠ 2 ∧ t.k ≠ 3) (h_w_true : headIs w_true l = false) (h_w_false : headIs w_false l = false) (h_w_null : headIs w_null l = false) (h_s_open : headIs s_open l = false) (IH : GIH ρ (8 * l.length)) :
    Calls Tryz.prog 166 #[ρ.ptr] w (exPost ρ w lg dp (atomP (exprL 0)) l) := by
  have HKK := Lib.hid hk
  obtain ⟨t, r, pl, hte, hl, hlt, hsm, hpl, htp, hn0, hn1, hp⟩ := h.peek
  have hgg := h.lt_
  have hb0 := later_new w (.cells ex0 49)
  have hnow := gnow_any ρ _ l lg dp (h.later hb0)
  rw [← hte] at hnow
  have HQ := Lib.hid (Blk.new w 49 ex0)
  have HD := Lib.hid (GDid.of_later h hb0)
  have HL := Lib.hid hl
  have hlf := h.left
  have hrl : r.length + 1 ≤ ρ.n := by have := hlf.2; rw [hl] at this; simpa using this
  have HRL := Lib.hid (show (l.length : Int) = (r.length : Int) + 1 by rw [hl]; rfl)
  have hsz : (w.alloc (.cells ex0 49)).heap.size = w.heap.size + 1 := by simp
  have hk := hk t.w r hl
  have g2 : ((t.w.k : Int) == 2) = false := by simp; omega
  have g3 : ((t.w.k : Int) == 3) = false := by simp; omega
  clear hk
  clear hte hpl htp hp hlt h hb0 hl hlf
  unfold ex0 at hnow hsz
  go_enter Tryz.func166, Tryz.ntmps166
  go_wp2_with fail
  refine hnow.mono ?_
  clear hnow
  rintro e w1 ⟨rfl, b1⟩
  have hb1 := later_new w1 (.cells (tokB t) 46)
  have HT1 := Lib.hid (Blk.new w1 46 (tokB t))
  have HD1 := Lib.hid ((HD.out.later b1).later hb1)
  have HQ1 := Lib.hid ((HQ.out.later b1).later hb1)
  have htq : w.heap.size + 1 ≤ w1.heap.size := by have := b1.size; omega
  clear b1 hb1 HD HQ hsz
  unfold tokB at *
  go_upto_region 2 with fail
  generalize w1.alloc _ = W1 at *
  generalize w1.heap.size = tb at *
  obtain ⟨u0, u1, u2, u3, v0, v1, v2, v3⟩ := four_facts HT1.out
  have hm := ghave_any ρ W1 l lg dp HD1.out.at_ ⟨#[116, 114, 117, 101]⟩
  rw [show (⟨#[116, 114, 117, 101]⟩ : ByteArray).data.toList = w_true from rfl, h_w_true, after_no h_w_true] at hm
  go_wp2_with fail
  refine hm.mono ?_
  clear hm
  rintro e w2 ⟨rfl, d⟩
  have HD2 := Lib.hid (HD1.out.trans d)
  have HQ2 := Lib.hid (d.blk HQ1.out (by omega))
  clear d HD1 HQ1 HT1 u0 u1 u2 u3 v0 v1 v2 v3
  generalize hW2 : w2 = W2 at *
  clear hW2
  have hm := ghave_any ρ W2 l lg dp HD2.out.at_ ⟨#[102, 97, 108, 115, 101]⟩
  rw [show (⟨#[102, 97, 108, 115, 101]⟩ : ByteArray).data.toList = w_false from rfl, h_w_false, after_no h_w_false] at hm
  go_wp2_with fail
  refine hm.mono ?_
  clear hm
  rintro e w3 ⟨rfl, d⟩
  have HD3 := Lib.hid (HD2.out.trans d)
  have HQ3 := Lib.hid (d.blk HQ2.out (by omega))
  clear d HD2 HQ2
  generalize hW3 : w3 = W3 at *
  clear hW3
  have hm := ghave_any ρ W3 l lg dp HD3.out.at_ ⟨#[110, 117, 108, 108]⟩
  rw [show (⟨#[110, 117, 108, 108]⟩ : ByteArray).data.toList = w_null from rfl, h_w_null, after_no h_w_null] at hm
  go_wp2_with fail
  refine hm.mono ?_
  clear hm
  rintro e w4 ⟨rfl, d⟩
  have HD4 := Lib.hid (HD3.out.trans d)
  have HQ4 := Lib.hid (d.blk HQ3.out (by omega))
  clear d HD3 HQ3
  generalize hW4 : w4 = W4 at *
  clear hW4
  have hm := ghave_any ρ W4 l lg dp HD4.out.at_ ⟨#[40]⟩
  rw [show (⟨#[40]⟩ : ByteArray).data.toList = s_open from rfl, h_s_open, after_no h_s_open] at hm
  go_wp2_with fail
  refine hm.mono ?_
  clear hm
  rintro e w5 ⟨rfl, d⟩
  have HD5 := Lib.hid (HD4.out.trans d)
  have HQ5 := Lib.hid (d.blk HQ4.out (by omega))
  clear d HD4 HQ4
  generalize hW5 : w5 = W5 at *
  clear hW5
  have HE := Lib.hid (ga_named (W := exprL 0) HKK.out (by rw [HL.out]; simp) h_w_true h_w_false h_w_null h_s_open)
  go_wp2_with fail
  refine (gname_any ρ W5 l lg dp HD5.out.at_).mono ?_
  intro e w6 hp
  rcases hp.cases with ⟨nm, r6, v, hok, rfl, rfl, d⟩ | ⟨m, herr, rfl, hg⟩
  case inr =>
    have HF := Lib.hid (HE.out.trans (ga_err herr))
    have HG := Lib.hid HD5.out.grown
    clear hp herr
    go_wp2_with fail
    exact body_panic rfl (exPost_err HF.out HG.out hg)
  have hl6 : r6.length ≤ l.length := sane_name.len hok
  have hq5 := HQ5.out.lt
  have HD6 := Lib.hid (HD5.out.trans d)
  have HQ6 := Lib.hid (d.blk HQ5.out (by omega))
  have HOK := Lib.hid hok
  have hm := ghave_any ρ w6 r6 lg dp HD6.out.at_ ⟨#[40]⟩
  rw [show (⟨#[40]⟩ : ByteArray).data.toList = s_open from rfl] at hm
  clear hp hok d HD5 HQ5
  cases ho : headIs s_open r6
  · rw [ho, after_no ho] at hm
    have HF := Lib.hid (HE.out.trans (ga_col HOK.out ho))
    clear ho
    go_wp2_with fail
    refine hm.mono ?_
    clear hm
    rintro e w7 ⟨rfl, d⟩
    have HD7 := Lib.hid (HD6.out.trans d)
    have HQ7 := Lib.hid (d.blk HQ6.out (by omega))
    clear d HD6 HQ6
    go_wp2_with (first
      | (refine wpList_store_row rfl 49 (.tmp 2) (.tmp 68) rfl w.heap.size (exC (colX nm)).toArray rfl rfl 49 ex0 HQ7.out gex_info rfl (ex_oneC _) ?_
         have HR := Lib.hid (HQ7.out.row (exC (colX nm)).toArray)))
    refine bodyPost_ret (v := exV (colX nm)) (results_cell_row Tryz.results166 _ _ w.heap.size 49 (exC (colX nm)).toArray (0, 0) _ rfl HR.out Tryz.underlying49 rfl gex_info) rfl ?_
    exact exPost_put hgg HD7.out (col_at _ _ nm) HF.out
  · rw [ho, after_yes ho] at hm
    have HF := Lib.hid (HE.out.trans (ga_fun HOK.out ho))
    have hhl := head_len ho
    obtain ⟨t0, q0, hr6, ht0⟩ := headIs_cons ho
    have H0 := Lib.hid (show (RSt.good (t0 :: r6.tail)).of ρ.ws by have := HD6.out.at_.of; rw [hr6] at this ⊢; exact this)
    clear ho hr6
    go_wp2_with fail
    refine hm.mono ?_
    clear hm
    rintro e w7 ⟨rfl, d⟩
    have HD7 := Lib.hid (HD6.out.trans d)
    have HQ7 := Lib.hid (d.blk HQ6.out (by omega))
    clear d HD6 HQ6
    generalize hW7 : w7 = W7 at *
    clear hW7
    have hlt9 : r6.tail.length < l.length := by omega
    generalize r6.tail = r7 at *
    have hlf7 := HD7.out.at_.left
    obtain ⟨c0, c1, c2, c3, f1, f2, f3⟩ := HD7.out.at_.facts
    have e7 : (ρ.n : Int) - (r7.length : Int) - 1 = (ρ.n : Int) - ((r7.length : Int) + 1) := by omega
    have hsn := HD7.out.at_.small
    have hfn := g_function ρ W7 r7 lg dp HD7.out.at_ nm t0 H0.out (fun l2 W2 hl2 hg2 => IH 0 l2 W2 lg dp (by omega) (by omega) hg2)
    unfold Rdr.ptr at *
    go_wp2_with fail
    refine hfn.mono ?_
    clear hfn c0 c1 c2 c3 f1 f2 f3
    intro e w8 hp
    rcases hp.cases with ⟨t8, r8, v, hok, rfl, y, rfl, hat, d⟩ | ⟨m, herr, rfl, hg⟩
    case inr =>
      have HF2 := Lib.hid (HF.out.trans herr)
      have HG := Lib.hid HD7.out.grown
      clear hp herr
      go_wp2_with fail
      exact body_panic rfl (exPost_err HF2.out HG.out hg)
    have hq7 := HQ7.out.lt
    have HD8 := Lib.hid (HD7.out.trans d)
    have HQ8 := Lib.hid (d.blk HQ7.out (by omega))
    have HT8 := Lib.hid (hat.more (show w.heap.size + 1 ≤ W7.heap.size by omega))
    have HF2 := Lib.hid (HF.out.trans hok)
    clear hp hok d hat HD7 HQ7
    go_wp2_with (first
      | (refine wpList_store_row rfl 49 (.tmp 2) (.tmp 76) rfl w.heap.size (exC (y)).toArray rfl rfl 49 ex0 HQ8.out gex_info rfl (ex_oneC _) ?_
         have HR := Lib.hid (HQ8.out.row (exC (y)).toArray)))
    refine bodyPost_ret (v := exV (y)) (results_cell_row Tryz.results166 _ _ w.heap.size 49 (exC (y)).toArray (0, 0) _ rfl HR.out Tryz.underlying49 rfl gex_info) rfl ?_
    exact exPost_put hgg HD8.out HT8.out HF2.out
theorem g_atom (ρ : Rdr) (w : World) (l : Wds) (lg dp : Bool) (h : ρ.gat w l lg dp) (IH : GIH ρ (8 * l.length)) :
    Calls Tryz.prog 166 #[ρ.ptr] w (exPost ρ w lg dp (exprL 7) l) := by
  rw [exprL_7]
  obtain ⟨t, r, pl, hte, hl, _⟩ := h.peek
  have all : ∀ {p : Wd → Prop}, p t.w → ∀ x q, l = x :: q → p x := by
    intro p hp x q he
    rw [hl] at he
    injection he with h1 h2
    rw [← h1]
    exact hp
  by_cases h2 : t.w.k = 2
  · exact g_atom_int ρ w l lg dp h (all (p := fun x => x.k = 2) h2)
  by_cases h3 : t.w.k = 3
  · exact g_atom_text ρ w l lg dp h (all (p := fun x => x.k = 3) h3)
  have hk := all (p := fun x => x.k ≠ 2 ∧ x.k ≠ 3) ⟨h2, h3⟩
  cases a : headIs w_true l
  · cases b : headIs w_false l
    · cases c : headIs w_null l
      · cases d : headIs s_open l
        · exact g_atom_named ρ w l lg dp h hk a b c d IH
        · exact g_atom_open ρ w l lg dp h hk a b c d IH
      · exact g_atom_w3 ρ w l lg dp h hk a b c
    · exact g_atom_w2 ρ w l lg dp h hk a b
  · exact g_atom_w1 ρ w l lg dp h hk a
theorem g_all (ρ : Rdr) : ∀ m, GIH ρ m
  | 0 => fun lv l W lg dp h1 h2 h3 => absurd h2 (by omega)
  | m + 1 => fun lv l W lg dp h1 h2 h3 => by
    have ih := g_all ρ m
    match lv, h1 with
    | 0, _ => exact g_left0 ρ W l lg dp h3 (ih.less (by omega))
    | 1, _ => exact g_left1 ρ W l lg dp h3 (ih.less (by omega))
    | 2, _ => exact g_un2 ρ W l lg dp h3 (ih.less (by omega))
    | 3, _ => exact g_cmp ρ W l lg dp h3 (ih.less (by omega))
    | 4, _ => exact g_left4 ρ W l lg dp h3 (ih.less (by omega))
    | 5, _ => exact g_left5 ρ W l lg dp h3 (ih.less (by omega))
    | 6, _ => exact g_un6 ρ W l lg dp h3 (ih.less (by omega))
    | 7, _ => exact g_atom ρ W l lg dp h3 (ih.less (by omega))
theorem g_or (ρ : Rdr) (w : World) (l : Wds) (lg dp : Bool) (h : ρ.gat w l lg dp) : Calls Tryz.prog 104 #[ρ.ptr] w (exPost ρ w lg dp exprP l) := g_all ρ (8 * l.length + 8) 0 l w lg dp (by omega) (by omega) h
end Go.Proofs.YtcneefmaghoejaaGreatDoor
namespace Go.Proofs.YtcneefmaghoejaaGreatDoor
open Go.ChangeShapes Go.WideShapes Go.ChangeAt Go.RowKit
set_option linter.unusedVariables false
set_option linter.unusedSimpArgs false
def maxs : List Nat → Nat
  | [] => 0
  | a :: l => max a (maxs l)
theorem maxs_append : ∀ (l : List Nat) (a : Nat), maxs (l ++ [a]) = max (maxs l) a
  | [], a => by simp [maxs]
  | b :: l, a => by simp only [List.cons_append, maxs, maxs_append l a]; omega
theorem maxs_take {l : List Nat} {i d : Nat} (h : l[i]? = some d) : maxs (l.take (i + 1)) = max (maxs (l.take i)) d := by
  rw [List.take_add_one, h]
  exact maxs_append _ _
theorem maxs_mem : ∀ {l : List Nat} {d : Nat}, d ∈ l → d ≤ maxs l
  | a :: l, d, h => by
    rcases List.mem_cons.1 h with rfl | h
    · simp only [maxs]; omega
    · have := maxs_mem h; simp only [maxs]; omega
theorem maxs_take_le : ∀ (l : List Nat) (i : Nat), maxs (l.take i) ≤ maxs l
  | [], i => by simp [maxs]
  | a :: l, 0 => by simp [maxs]
  | a :: l, i + 1 => by have := maxs_take_le l i; simp only [List.take_succ_cons, maxs]; omega
theorem depths_maxs : ∀ ts : List Tr, Tr.depths ts = maxs (ts.map Tr.depth)
  | [] => by simp [Tr.depths, maxs]
  | t :: ts => by simp [Tr.depths, maxs, depths_maxs ts]
def DepIs (f : FuncId) (w : World) (y : Ex) (d : Nat) : Prop := ∀ W, Below w.heap.size w W → Calls Tryz.prog f #[exV y] W fun e w' => e = .returned (.int .i64 d) ∧ Below W.heap.size W w'
set_option maxHeartbeats 1000000 in
set_option maxRecDepth 100000 in
theorem gdepth_step (w : World) (y : Ex) (ys : List Ex) (ds : List Nat) (S : Nat → Prop) (hS : ∀ b, S b → b < w.heap.size) (hn : y.n = ys.length) (hA : RL exC 7 w S y.A ys) (hd : ds.length = ys.length) (hD : ∀ (i : Nat) x d, ys[i]? = some x → ds[i]? = some d → DepIs 105 w x d) (hm : maxs ds ≤ 1000000) (hl : ys.length ≤ 1000000000) : DepIs 105 w y (maxs ds + 1) := by
  intro W hW
  obtain ⟨yop, yv, yname, ywidth, yA, yn, yc⟩ := y
  have hn : yn = ys.length := hn
  subst hn
  have HD := Lib.hid hD
  have HM := Lib.hid hm
  have HDL := Lib.hid hd
  have HA := Lib.hid hA
  clear hD hm hd hA
  unfold exV exC
  have HX := Blk.new W 49 #[.int .u8 yop, .int .u8 yv.k, .int .i64 yv.n, .string yv.s, .string yname, .int .i64 ywidth, .slice yA ys.length yc]
  have hb := later_new W (.cells #[.int .u8 yop, .int .u8 yv.k, .int .i64 yv.n, .string yv.s, .string yname, .int .i64 ywidth, .slice yA ys.length yc] 49)
  go_enter Tryz.func105, Tryz.ntmps105
  have x6 := HX.cell 6
  simp only [List.getElem?_toArray, List.getElem?_cons_zero, List.getElem?_cons_succ] at x6
  go_wp2_with fail
  clear x6
  generalize W.alloc _ = W1 at *
  have HBW := Lib.hid hb
  have HW := Lib.hid hW
  clear hb
  go_loopw [3, 9] (fun m iv wr => ∃ i : Nat, i ≤ ys.length ∧ iv = .int .i64 i ∧ m = .int .i64 (maxs (ds.take i)) ∧ Below W1.heap.size W1 wr) (fun _ iv _ => ys.length - (intOf iv).toNat)
  case atStart => exact ⟨0, Nat.zero_le _, rfl, rfl, Below.refl _ _⟩
  case round =>
    obtain ⟨i, hi, rfl, rfl, hbw⟩ := hrel
    have hml := maxs_take_le ds i
    have hmm := HM.out
    by_cases hlt : i < ys.length
    · obtain ⟨x, hx⟩ : ∃ x, ys[i]? = some x := ⟨_, List.getElem?_eq_getElem hlt⟩
      obtain ⟨d, hdd⟩ : ∃ d, ds[i]? = some d := ⟨_, List.getElem?_eq_getElem (by rw [HDL.out]; exact hlt)⟩
      have hDx := HD.out i x d hx hdd
      have hdm := maxs_mem (List.mem_of_getElem? hdd)
      have HMT := Lib.hid (maxs_take hdd)
      have hwr : Below w.heap.size w wr := hW.trans ((Later.then HBW.out hbw).mono hW.size)
      rcases HA.out with h0 | ⟨b, off, hAe, hSb, hc⟩
      · subst h0; simp at hlt
      have hcell := fun j u hu => (hwr.cell (p := ⟨b, off + i * 7 + j, none⟩) (hS b hSb)).trans (hc i x j u hx hu)
      have k0 := hcell 0 _ rfl
      have k1 := hcell 1 _ rfl
      have k2 := hcell 2 _ rfl
      have k3 := hcell 3 _ rfl
      have k4 := hcell 4 _ rfl
      have k5 := hcell 5 _ rfl
      have k6 := hcell 6 _ rfl
      simp only [Nat.add_zero] at k0
      clear hx hdd hcell hc
      subst hAe
      go_wp2_with fail
      have bx := later_new wr (exO x)
      refine (hDx _ (Below.trans hwr (bx.mono hwr.size))).mono ?_
      rintro e w' ⟨rfl, b0⟩
      have b' := Later.then bx b0
      go_wp2_with fail
      go_roundw
      case rel =>
        refine ⟨i + 1, by omega, by go_num, ?_, hbw.trans (b'.mono hbw.size)⟩
        rw [HMT.out, show (max ((maxs (ds.take i) : Nat) : Int) (d : Int)) = ((max (maxs (ds.take i)) d : Nat) : Int) by omega]
      case measure => simp [intOf]; omega
    · obtain rfl : i = ys.length := by omega
      have htk : ds.take ys.length = ds := List.take_of_length_le (Nat.le_of_eq HDL.out)
      rw [htk] at hml
      simp only [htk]
      go_wp2_with fail
      go_ret
      exact ⟨ret_int (by omega), Later.then HBW.out hbw⟩
mutual
def Tr.thin : Tr → Prop
  | .mk op v name width args => args.length ≤ 1000000000 ∧ Tr.thins args
def Tr.thins : List Tr → Prop
  | [] => True
  | t :: ts => t.thin ∧ Tr.thins ts
end
mutual
theorem Tr.gdep {w : World} {S : Nat → Prop} (hS : ∀ b, S b → b < w.heap.size) : ∀ (t : Tr) (y : Ex), t.at_ w S y → t.thin → t.depth ≤ 1000000 → DepIs 105 w y t.depth
  | .mk op v name width args, y, h, ht, hd => by
    unfold Tr.at_ at h
    obtain ⟨_, _, _, _, hn, ys, hr, ha⟩ := h
    unfold Tr.thin at ht
    simp only [Tr.depth] at hd ⊢
    have hl := Tr.all_.length ha
    rw [depths_maxs] at hd ⊢
    exact gdepth_step w y ys (args.map Tr.depth) S hS (by rw [hn, hl]) hr (by simp [hl]) (Tr.gdeps hS args ys ha ht.2 (by omega)) (by omega) (by rw [hl]; exact ht.1)
theorem Tr.gdeps {w : World} {S : Nat → Prop} (hS : ∀ b, S b → b < w.heap.size) : ∀ (ts : List Tr) (ys : List Ex), Tr.all_ w S ts ys → Tr.thins ts → maxs (ts.map Tr.depth) ≤ 1000000 → ∀ (i : Nat) x d, ys[i]? = some x → (ts.map Tr.depth)[i]? = some d → DepIs 105 w x d
  | [], ys, h, _, _, i, x, d, hx, hd => by simp at hd
  | t :: ts, ys, h, ht, hm, i, x, d, hx, hd => by
    unfold Tr.all_ at h
    obtain ⟨y, ys', rfl, h1, h2⟩ := h
    unfold Tr.thins at ht
    simp only [List.map_cons, maxs] at hm
    match i, hx, hd with
    | 0, hx, hd =>
      simp at hx hd
      subst hx hd
      exact Tr.gdep hS t y h1 ht.1 (by omega)
    | i + 1, hx, hd => exact Tr.gdeps hS ts ys' h2 ht.2 (by omega) i x d (by simpa using hx) (by simpa using hd)
end
end Go.Proofs.YtcneefmaghoejaaGreatDoor
set_option linter.unusedSimpArgs false
set_option linter.unusedVariables false
namespace Go.Proofs.YtcneefmaghoejaaGreatDoor
theorem bind_inv {α β : Type} {p : Ps α} {f : α → Ps β} {l r : Wds} {y : β} (h : (p >>= f) l = .ok (y, r)) : ∃ x m, p l = .ok (x, m) ∧ f x m = .ok (y, r) := by
  rw [bind_at] at h
  cases e : p l with
  | error n => rw [e] at h; cases h
  | ok z => rw [e] at h; exact ⟨z.1, z.2, rfl, h⟩
theorem pure_inv {α : Type} {x y : α} {l r : Wds} (h : (pure x : Ps α) l = .ok (y, r)) : y = x ∧ r = l := by
  have h : (Except.ok (x, l) : Except Nat (α × Wds)) = .ok (y, r) := h
  injection h with h
  injection h with h1 h2
  exact ⟨h1.symm, h2.symm⟩
theorem may_inv {s : List UInt8} {b : Bool} {l r : Wds} (h : may s l = .ok (b, r)) : (b = true ∧ headIs s l = true ∧ r = l.tail ∧ r.length + 1 = l.length) ∨ (b = false ∧ headIs s l = false ∧ r = l) := by
  unfold may at h
  split at h
  · rename_i hh
    injection h with h
    injection h with h1 h2
    obtain ⟨t, q, rfl, _⟩ := headIs_cons hh
    exact .inl ⟨h1.symm, hh, h2.symm, by rw [← h2]; simp⟩
  · rename_i hh
    injection h with h
    injection h with h1 h2
    exact .inr ⟨h1.symm, by simpa using hh, h2.symm⟩
theorem must_inv {s : List UInt8} {l r : Wds} (h : must s l = .ok ((), r)) : headIs s l = true ∧ r = l.tail ∧ r.length + 1 = l.length := by
  unfold must at h
  split at h
  · rename_i hh
    injection h with h
    injection h with h1 h2
    obtain ⟨t, q, rfl, _⟩ := headIs_cons hh
    exact ⟨hh, h2.symm, by rw [← h2]; simp⟩
  · cases h
def TQ (p : Ps Tr) : Prop := ∀ l t r, p l = .ok (t, r) → t.thin ∧ t.depth + r.length ≤ l.length
theorem depth_one (op : Int) (x : Tr) : (opT op [x]).depth = x.depth + 1 := by simp [opT, Tr.depth, Tr.depths]
theorem depth_two (op : Int) (x y : Tr) : (opT op [x, y]).depth = max x.depth y.depth + 1 := by simp [opT, Tr.depth, Tr.depths]
theorem thin_one {op : Int} {x : Tr} (h : x.thin) : (opT op [x]).thin := by unfold opT Tr.thin; exact ⟨by simp, h, trivial⟩
theorem thin_two {op : Int} {x y : Tr} (h : x.thin) (k : y.thin) : (opT op [x, y]).thin := by unfold opT Tr.thin; exact ⟨by simp, h, k, trivial⟩
theorem tq_leftF {below : Ps Tr} (hb : TQ below) (lv : Nat) : ∀ (f : Nat) (x : Tr) (n : Nat) (l : Wds) (t : Tr) (r : Wds), x.thin → x.depth + l.length ≤ n → leftF below lv f x l = .ok (t, r) → t.thin ∧ t.depth + r.length ≤ n
  | 0, x, n, l, t, r, hx, hn, h => by
    obtain ⟨rfl, rfl⟩ := pure_inv h
    exact ⟨hx, hn⟩
  | f + 1, x, n, l, t, r, hx, hn, h => by
    simp only [leftF] at h
    cases e : opOf (opsL lv) l with
    | none =>
      rw [e] at h
      injection h with h
      injection h with h1 h2
      subst h1; subst h2
      exact ⟨hx, hn⟩
    | some o =>
      rw [e] at h
      obtain ⟨y, m, h1, h2⟩ := bind_inv h
      obtain ⟨k1, k2⟩ := hb _ _ _ h1
      obtain ⟨s, _, hs⟩ := opOf_some e
      obtain ⟨w, q, rfl, _⟩ := headIs_cons hs
      simp only [List.tail_cons, List.length_cons] at *
      refine tq_leftF hb lv f _ n _ _ _ (thin_two hx k1) ?_ h2
      rw [depth_two]
      omega
theorem tq_left {below : Ps Tr} (hb : TQ below) (lv : Nat) : TQ (leftP below lv) := by
  intro l t r h
  obtain ⟨x, m, h1, h2⟩ := bind_inv h
  obtain ⟨k1, k2⟩ := hb _ _ _ h1
  exact tq_leftF hb lv _ x _ m t r k1 k2 h2
theorem tq_un {same below : Ps Tr} (hs : TQ same) (hb : TQ below) (s : List UInt8) (op : Int) : TQ (unP s op same below) := by
  intro l t r h
  obtain ⟨b, m, h1, h2⟩ := bind_inv h
  rcases may_inv h1 with ⟨rfl, _, _, hl⟩ | ⟨rfl, _, rfl⟩
  · obtain ⟨x, m2, h3, h4⟩ := bind_inv h2
    obtain ⟨rfl, rfl⟩ := pure_inv h4
    obtain ⟨k1, k2⟩ := hs _ _ _ h3
    exact ⟨thin_one k1, by rw [depth_one]; omega⟩
  · exact hb _ _ _ h2
theorem tq_cmp {below : Ps Tr} (hb : TQ below) : TQ (cmpP below) := by
  intro l t r h
  obtain ⟨x, m, h1, h2⟩ := bind_inv h
  obtain ⟨k1, k2⟩ := hb _ _ _ h1
  obtain ⟨b, m2, h3, h4⟩ := bind_inv h2
  rcases may_inv h3 with ⟨rfl, _, _, hl⟩ | ⟨rfl, _, rfl⟩
  · obtain ⟨n, m3, h5, h6⟩ := bind_inv h4
    obtain ⟨_, m4, h7, h8⟩ := bind_inv h6
    obtain ⟨rfl, rfl⟩ := pure_inv h8
    have := (sane_may w_not).len h5
    obtain ⟨_, _, hm⟩ := must_inv h7
    exact ⟨thin_one k1, by rw [depth_one]; omega⟩
  · have h4 : cmpF below x m2 = _ := h4
    unfold cmpF at h4
    cases e : opOf (opsL 3) m2 with
    | none =>
      rw [e] at h4
      injection h4 with h4
      injection h4 with h5 h6
      subst h5; subst h6
      exact ⟨k1, k2⟩
    | some o =>
      rw [e] at h4
      obtain ⟨y, m3, h5, h6⟩ := bind_inv h4
      obtain ⟨rfl, rfl⟩ := pure_inv h6
      obtain ⟨k3, k4⟩ := hb _ _ _ h5
      obtain ⟨s, _, hs⟩ := opOf_some e
      obtain ⟨w, q, rfl, _⟩ := headIs_cons hs
      simp only [List.tail_cons, List.length_cons] at *
      exact ⟨thin_two k1 k3, by rw [depth_two]; omega⟩
theorem tq_args {whole : Ps Tr} (hb : TQ whole) (op : Int) : TQ (argsP whole op) := by
  intro l t r h
  obtain ⟨width, m, h1, h2⟩ := bind_inv h
  obtain ⟨x, m2, h3, h4⟩ := bind_inv h2
  obtain ⟨ys, m3, h5, h6⟩ := bind_inv h4
  obtain ⟨_, m4, h7, h8⟩ := bind_inv h6
  obtain ⟨rfl, rfl⟩ := pure_inv h8
  obtain ⟨_, _, hm⟩ := must_inv h7
  obtain ⟨k1, k2⟩ := hb _ _ _ h3
  have hw : m.length ≤ l.length := by
    unfold widthP at h1
    split at h1
    · obtain ⟨n, q, g1, g2⟩ := bind_inv h1
      obtain ⟨_, q2, g3, g4⟩ := bind_inv g2
      obtain ⟨_, rfl⟩ := pure_inv g4
      have := sane_num.len g1
      have := (sane_must s_comma).len g3
      omega
    · obtain ⟨_, rfl⟩ := pure_inv h1
      exact Nat.le_refl _
  have hy : (ys = [] ∧ m3 = m2) ∨ ∃ y, ys = [y] ∧ y.thin ∧ y.depth + m3.length ≤ m2.length := by
    unfold secondP at h5
    split at h5
    · obtain ⟨_, q, g1, g2⟩ := bind_inv h5
      obtain ⟨y, q2, g3, g4⟩ := bind_inv g2
      obtain ⟨rfl, rfl⟩ := pure_inv g4
      obtain ⟨a1, a2⟩ := hb _ _ _ g3
      have := (sane_must s_comma).len g1
      exact .inr ⟨y, rfl, a1, by omega⟩
    · obtain ⟨rfl, rfl⟩ := pure_inv h5
      exact .inl ⟨rfl, rfl⟩
  rcases hy with ⟨rfl, rfl⟩ | ⟨y, rfl, a1, a2⟩
  · refine ⟨by unfold Tr.thin; exact ⟨by simp, k1, trivial⟩, ?_⟩
    simp only [Tr.depth, Tr.depths]
    omega
  · refine ⟨by unfold Tr.thin; exact ⟨by simp, k1, a1, trivial⟩, ?_⟩
    simp only [Tr.depth, Tr.depths]
    omega
theorem tq_leaf {t : Tr} {r l : Wds} (h : t.thin) (hd : t.depth = 1) (hr : r.length < l.length) : t.thin ∧ t.depth + r.length ≤ l.length := ⟨h, by omega⟩
theorem thin_leaf (op : Int) (v : Val) (n : ByteArray) (k : Int) : (Tr.mk op v n k []).thin := by unfold Tr.thin; exact ⟨by simp, trivial⟩
theorem depth_leaf (op : Int) (v : Val) (n : ByteArray) (k : Int) : (Tr.mk op v n k []).depth = 1 := by simp [Tr.depth, Tr.depths]
theorem tq_fun {whole : Ps Tr} (hb : TQ whole) (op : Int) : TQ (funP whole op) := by
  intro l t r h
  unfold funP at h
  split at h
  · obtain ⟨b, m, h1, h2⟩ := bind_inv h
    rcases may_inv h1 with ⟨rfl, _, _, hl⟩ | ⟨rfl, _, rfl⟩
    · obtain ⟨_, m2, h3, h4⟩ := bind_inv h2
      obtain ⟨rfl, rfl⟩ := pure_inv h4
      obtain ⟨_, _, hm⟩ := must_inv h3
      exact tq_leaf (thin_leaf _ _ _ _) (depth_leaf _ _ _ _) (by omega)
    · exact tq_args hb 22 _ _ _ h2
  · exact tq_args hb op _ _ _ h
theorem tq_named {whole : Ps Tr} (hb : TQ whole) : TQ (namedP whole) := by
  intro l t r h
  obtain ⟨n, m, h1, h2⟩ := bind_inv h
  have hn : m.length < l.length := by
    unfold nameP at h1
    split at h1
    · cases h1
    · split at h1
      · injection h1 with h1
        injection h1 with _ h1
        subst h1
        simp
      · cases h1
  have h2 : (if headIs s_open m then (match funOf n with | none => .error m.length | some op => funP whole op m.tail) else .ok (colT n, m) : Except Nat (Tr × Wds)) = _ := h2
  split at h2
  · rename_i hh
    cases e : funOf n with
    | none => rw [e] at h2; cases h2
    | some op =>
      rw [e] at h2
      obtain ⟨k1, k2⟩ := tq_fun hb op _ _ _ h2
      exact ⟨k1, by simp at k2; omega⟩
  · injection h2 with h2
    injection h2 with h3 h4
    subst h3; subst h4
    exact tq_leaf (thin_leaf _ _ _ _) (depth_leaf _ _ _ _) hn
theorem tq_atom {whole : Ps Tr} (hb : TQ whole) : TQ (atomP whole) := by
  intro l t r h
  match l with
  | [] => cases h
  | a :: q =>
    simp only [atomP] at h
    have lf : ∀ v, (.ok (litT v, q) : Except Nat (Tr × Wds)) = .ok (t, r) → t.thin ∧ t.depth + r.length ≤ (a :: q).length := by
      intro v e
      injection e with e
      injection e with e1 e2
      subst e1; subst e2
      exact tq_leaf (thin_leaf _ _ _ _) (depth_leaf _ _ _ _) (by simp)
    split at h
    · exact lf _ h
    split at h
    · exact lf _ h
    split at h
    · exact lf _ h
    split at h
    · exact lf _ h
    split at h
    · exact lf _ h
    split at h
    · obtain ⟨x, m, h1, h2⟩ := bind_inv h
      obtain ⟨_, m2, h3, h4⟩ := bind_inv h2
      obtain ⟨rfl, rfl⟩ := pure_inv h4
      obtain ⟨k1, k2⟩ := hb _ _ _ h1
      obtain ⟨_, _, hm⟩ := must_inv h3
      exact ⟨k1, by simp; omega⟩
    · exact tq_named hb _ _ _ h
theorem tq_wrong : TQ wrongP := by intro l t r h; cases h
theorem tq_pE : ∀ f lv, TQ (pE f lv)
  | 0, lv => by unfold pE; exact tq_wrong
  | f + 1, 0 => by unfold pE; exact tq_left (tq_pE f 1) 0
  | f + 1, 1 => by unfold pE; exact tq_left (tq_pE f 2) 1
  | f + 1, 2 => by unfold pE; exact tq_un (tq_pE f 2) (tq_pE f 3) _ _
  | f + 1, 3 => by unfold pE; exact tq_cmp (tq_pE f 4)
  | f + 1, 4 => by unfold pE; exact tq_left (tq_pE f 5) 4
  | f + 1, 5 => by unfold pE; exact tq_left (tq_pE f 6) 5
  | f + 1, 6 => by unfold pE; exact tq_un (tq_pE f 6) (tq_pE f 7) _ _
  | f + 1, lv + 7 => by unfold pE; exact tq_atom (tq_pE f 0)
theorem tq_expr : TQ exprP := fun l t r h => tq_pE _ _ l t r h
end Go.Proofs.YtcneefmaghoejaaGreatDoor
