/- Parts of the proof: Gp4, Gx, Gl. Put together by slim.py. -/
import Derived.Test.YtcneefmaghoejaaGreatDoorB14
namespace Go.Proofs.YtcneefmaghoejaaGreatDoor
open Go.ChangeShapes Go.WideShapes Go.ChangeAt Go.RowKit
set_option linter.unusedVariables false
set_option linter.unusedSimpArgs false
theorem any_no {s : List UInt8} {ks : List (List UInt8)} {l : Wds} (h : headIs s l = false) : anyP (s :: ks) l = anyP ks l := by
  simp only [anyP, h]
  rfl
theorem any_yes {s : List UInt8} {ks : List (List UInt8)} {l : Wds} (h : headIs s l = true) : anyP (s :: ks) l = .ok (s, l.tail) := by
  simp only [anyP, h, if_true]
theorem after_no {s : List UInt8} {l : Wds} (h : headIs s l = false) : afterW s l = l := by unfold afterW; rw [h]; rfl
theorem after_yes {s : List UInt8} {l : Wds} (h : headIs s l = true) : afterW s l = l.tail := by unfold afterW; rw [h]; rfl
set_option maxHeartbeats 4000000 in
set_option maxRecDepth 100000 in
theorem gone_any (ρ : Rdr) (w : World) (l : Wds) (lg dp : Bool) (h : ρ.gat w l lg dp) (ks : List (List UInt8)) (b n : Nat) (hn : ks.length = n) (hb : Blk w b 9 (strsC ks)) (hbg : ρ.g ≠ b) (hsm : n ≤ 10) :
    Calls Tryz.prog 68 #[ρ.ptr, .slice (some ⟨b, 0, none⟩) n n] w (GP ρ w (anyP ks) l fun s r v w' => v = strOf s ∧ GDid ρ w w' r lg dp) := by
  have HH := Lib.hid h
  have HB := Lib.hid hb
  clear h hb
  go_enter Tryz.func68, Tryz.ntmps68
  go_wp2_with fail
  go_loopw [9] (fun u wr => ∃ (i : Nat), i ≤ n ∧ u = .int .i64 i ∧ GDid ρ w wr l lg dp ∧ anyP ks l = anyP (ks.drop i) l) (fun u _ => n - (intOf u).toNat)
  case atStart => exact ⟨0, Nat.zero_le _, rfl, GDid.refl HH.out, rfl⟩
  case round =>
    obtain ⟨i, hi, rfl, hD, hst⟩ := hrel
    have HD := Lib.hid hD
    have HS := Lib.hid hst
    clear hD hst
    by_cases hlt : i < n
    · obtain ⟨s, hs⟩ : ∃ s, ks[i]? = some s := ⟨_, List.getElem?_eq_getElem (by omega)⟩
      have hc := strs_cell (HD.out.blk HB.out (fun e => hbg e.symm)) hs
      have HDR := Lib.hid (drop_get hs)
      clear hs
      have hm := ghave_any ρ wr l lg dp HD.out.at_ ⟨s.toArray⟩
      rw [show (⟨s.toArray⟩ : ByteArray).data.toList = s by simp] at hm
      cases hh : headIs s l
      · have HHD := Lib.hid hh
        rw [hh, after_no hh] at hm
        clear hh
        go_wp2_with fail
        refine hm.mono ?_
        clear hm
        rintro e w1 ⟨rfl, d1⟩
        go_wp2_with fail
        go_roundw
        case rel => exact ⟨i + 1, by omega, by go_num, HD.out.trans d1, by rw [HS.out, HDR.out, any_no HHD.out]⟩
        case measure => simp [intOf]; omega
      · have HHD := Lib.hid hh
        rw [hh, after_yes hh] at hm
        clear hh
        go_wp2_with fail
        refine hm.mono ?_
        clear hm
        rintro e w1 ⟨rfl, d1⟩
        go_wp2_with fail
        go_ret
        exact GP.ok (by rw [HS.out, HDR.out, any_yes HHD.out]) ⟨rfl, HD.out.trans d1⟩
    · obtain rfl : i = n := by omega
      have HDR := Lib.hid (show ks.drop i = [] from List.drop_eq_nil_of_le (by omega))
      have hf := gfail_any ρ wr l lg dp HD.out.at_
      go_wp2_with fail
      refine hf.mono ?_
      clear hf
      rintro e w1 ⟨rfl, hg2⟩
      go_wp2_with fail
      exact body_panic rfl (GP.err (n := l.length) (by rw [HS.out, HDR.out]; rfl) ⟨rfl, grown_trans HD.out.grown hg2⟩)
theorem must_yes {s : List UInt8} {l : Wds} (h : headIs s l = true) : must s l = .ok ((), l.tail) := by simp only [must, h, if_true]
theorem must_no {s : List UInt8} {l : Wds} (h : headIs s l = false) : must s l = .error l.length := by simp only [must, h]; rfl
theorem any_must {s : List UInt8} {l r : Wds} {x : List UInt8} (h : anyP [s] l = .ok (x, r)) : must s l = .ok ((), r) := by
  cases hh : headIs s l
  · rw [any_no hh] at h; cases h
  · rw [any_yes hh] at h; injection h with h; injection h with h1 h2; rw [must_yes hh, h2]
theorem any_must_err {s : List UInt8} {l : Wds} {n : Nat} (h : anyP [s] l = .error n) : must s l = .error n := by
  cases hh : headIs s l
  · rw [any_no hh] at h; injection h with h; rw [must_no hh, h]
  · rw [any_yes hh] at h; cases h
set_option maxHeartbeats 4000000 in
set_option maxRecDepth 100000 in
theorem gmust_any (ρ : Rdr) (w : World) (l : Wds) (lg dp : Bool) (h : ρ.gat w l lg dp) (ks : List (List UInt8)) (b n : Nat) (hn : ks.length = n) (hb : Blk w b 9 (strsC ks)) (hbg : ρ.g ≠ b) (hsm : n ≤ 10) :
    Calls Tryz.prog 67 #[ρ.ptr, .slice (some ⟨b, 0, none⟩) n n] w (GP ρ w (musts ks) l fun s r v w' => v = .tuple #[] ∧ GDid ρ w w' r lg dp) := by
  have HH := Lib.hid h
  have HB := Lib.hid hb
  clear h hb
  go_enter Tryz.func67, Tryz.ntmps67
  go_wp2_with fail
  go_loopw [8] (fun u wr => ∃ (i : Nat) (l' : Wds), i ≤ n ∧ u = .int .i64 i ∧ GDid ρ w wr l' lg dp ∧ musts ks l = musts (ks.drop i) l') (fun u _ => n - (intOf u).toNat)
  case atStart => exact ⟨0, l, Nat.zero_le _, rfl, GDid.refl HH.out, rfl⟩
  case round =>
    obtain ⟨i, l', hi, rfl, hD, hst⟩ := hrel
    have HD := Lib.hid hD
    have HS := Lib.hid hst
    clear hD hst
    by_cases hlt : i < n
    · obtain ⟨s, hs⟩ : ∃ s, ks[i]? = some s := ⟨_, List.getElem?_eq_getElem (by omega)⟩
      have hc := strs_cell (HD.out.blk HB.out (fun e => hbg e.symm)) hs
      have HDR := Lib.hid (drop_get hs)
      clear hs
      have hb1 := later_new wr (.cells (strsC [s]) 9)
      have hm := gone_any ρ _ l' lg dp (HD.out.at_.later hb1) [s] wr.heap.size 1 rfl (Blk.new wr _ _) (by have := HD.out.lt; omega) (by omega)
      have HB1 := Lib.hid hb1
      clear hb1
      unfold strsC strOf at hm
      simp only [List.map_cons, List.map_nil] at hm
      go_wp2_with fail
      refine hm.mono ?_
      clear hm
      intro e w1 hp
      rcases hp.cases with ⟨x, r, v, hok, rfl, rfl, d1⟩ | ⟨m, herr, rfl, hg⟩
      · clear hp
        go_wp2_with fail
        go_roundw
        case rel => exact ⟨i + 1, r, by omega, by go_num, (HD.out.later HB1.out).trans d1, by rw [HS.out, HDR.out]; exact bind_okP (any_must hok)⟩
        case measure => simp [intOf]; omega
      · clear hp
        go_wp2_with fail
        exact body_panic rfl (GP.err (n := m) (by rw [HS.out, HDR.out]; exact bind_errP (any_must_err herr)) ⟨rfl, grown_trans (HD.out.later HB1.out).grown hg⟩)
    · obtain rfl : i = n := by omega
      have hd : ks.drop i = [] := List.drop_eq_nil_of_le (by omega)
      rw [hd] at HS
      go_wp2_with fail
      go_end0
      exact GP.ok HS.out ⟨rfl, HD.out⟩
end Go.Proofs.YtcneefmaghoejaaGreatDoor
namespace Go.Proofs.YtcneefmaghoejaaGreatDoor
open Go.ChangeShapes Go.WideShapes Go.ChangeAt Go.RowKit
set_option linter.unusedVariables false
set_option linter.unusedSimpArgs false
def exPost (ρ : Rdr) (W : World) (lg dp : Bool) (P : Ps Tr) (l : Wds) (e : Ending) (w' : World) : Prop :=
  GP ρ W P l (fun t r v w' => ∃ y : Ex, v = exV y ∧ t.at_ w' (Btw W.heap.size w') y ∧ GDid ρ W w' r lg dp) e w'
def gfun : Nat → FuncId
  | 0 => 104
  | 1 => 119
  | 2 => 136
  | 3 => 148
  | 4 => 153
  | 5 => 155
  | 6 => 160
  | _ => 166
def GIH (ρ : Rdr) (m : Nat) : Prop := ∀ (lv : Nat) (l : Wds) (W : World) (lg dp : Bool), lv ≤ 7 → 8 * l.length + (7 - lv) < m → ρ.gat W l lg dp → Calls Tryz.prog (gfun lv) #[ρ.ptr] W (exPost ρ W lg dp (exprL lv) l)
theorem GIH.less {ρ : Rdr} {m k : Nat} (h : GIH ρ m) (hk : k ≤ m) : GIH ρ k := fun lv l W lg dp h1 h2 h3 => h lv l W lg dp h1 (by omega) h3
def ex0 : Array Value := #[.int .u8 0, .int .u8 0, .int .i64 0, .string ⟨#[]⟩, .string ⟨#[]⟩, .int .i64 0, .slice none 0 0]
theorem gex_info : (Tryz.prog.info? 49).map (·.size) = some 7 := by kernel_rfl
theorem ex_oneC (y : Ex) : (exC y).toArray.all (·.oneCell') = true := by simp [exC, Value.oneCell']
theorem exPost_put {ρ : Rdr} {w W : World} {lg dp : Bool} {P : Ps Tr} {l r : Wds} {t : Tr} {y : Ex} (hg : ρ.g < w.heap.size) (hd : GDid ρ w W r lg dp) (ht : t.at_ W (Btw (w.heap.size + 1) W) y) (hp : P l = .ok (t, r)) : exPost ρ w lg dp P l (.returned (exV y)) (W.setRow w.heap.size (exC y).toArray) :=
  GP.ok hp ⟨y, rfl, (Tr.at_.keep (btw_row W (Nat.lt_succ_self _) _) t y ht).more (Nat.le_succ _), hd.own hg (grown_row W w.heap.size _) (fun G e => by injection e with e; omega)⟩
theorem exPost_err {ρ : Rdr} {w W w' : World} {lg dp : Bool} {P : Ps Tr} {l : Wds} {n : Nat} (hp : P l = .error n) (hg : w.grownBy W (some ρ.g)) (k : W.grownBy w' (some ρ.g)) : exPost ρ w lg dp P l (.panicked [faultE (ρ.placeOf n)]) w' := GP.err hp ⟨rfl, grown_trans hg k⟩
theorem un_no {s : List UInt8} {op : Int} {p q : Ps Tr} {l : Wds} (h : headIs s l = false) : unP s op p q l = q l := by
  unfold unP; rw [may_bind]; simp only [h]; rfl
theorem un_yes {s : List UInt8} {op : Int} {p q : Ps Tr} {l : Wds} (h : headIs s l = true) : unP s op p q l = (do let x ← p; return opT op [x]) l.tail := by
  unfold unP; rw [may_bind]; simp only [h, if_true]
theorem head_len {s : List UInt8} {l : Wds} (h : headIs s l = true) : l.tail.length + 1 = l.length := by
  obtain ⟨t, r, rfl, _⟩ := headIs_cons h
  simp
set_option maxHeartbeats 4000000 in
set_option maxRecDepth 100000 in
theorem g_un2 (ρ : Rdr) (w : World) (l : Wds) (lg dp : Bool) (h : ρ.gat w l lg dp) (IH : GIH ρ (8 * l.length + 5)) :
    Calls Tryz.prog 136 #[ρ.ptr] w (exPost ρ w lg dp (exprL 2) l) := by
  have hgg := h.lt_
  have hb := later_new w (.cells ex0 49)
  have hm := ghave_any ρ _ l lg dp (h.later hb) ⟨#[110, 111, 116]⟩
  have HQ := Lib.hid (Blk.new w 49 ex0)
  have HD := Lib.hid (GDid.of_later h hb)
  have hsz : (w.alloc (.cells ex0 49)).heap.size = w.heap.size + 1 := by simp
  rw [exprL_2]
  rw [show (⟨#[110, 111, 116]⟩ : ByteArray).data.toList = w_not from rfl] at hm
  clear h hb
  unfold ex0 at hm hsz
  cases hh : headIs w_not l
  · rw [hh, after_no hh] at hm
    have HHD := Lib.hid hh
    clear hh
    go_enter Tryz.func136, Tryz.ntmps136
    go_wp2_with fail
    refine hm.mono ?_
    clear hm
    rintro e w1 ⟨rfl, d1⟩
    go_wp2_with fail
    refine (IH 3 l w1 lg dp (by omega) (by omega) d1.at_).mono ?_
    intro e w2 hp
    rcases hp.cases with ⟨t, r, v, hok, rfl, y, rfl, hat, d2⟩ | ⟨n, herr, rfl, hg⟩
    · have HD2 := Lib.hid (HD.out.trans (d1.trans d2))
      have HQ2 := Lib.hid (d2.blk (d1.blk HQ.out (by omega)) (by omega))
      have HAT := Lib.hid (hat.more (by have := d1.size; omega : w.heap.size + 1 ≤ w1.heap.size))
      have HOK := Lib.hid hok
      clear hp d1 d2 hat hok IH HQ HD hsz
      go_wp2_with (first
        | (refine wpList_store_row rfl 49 (.tmp 2) (.tmp 10) rfl w.heap.size (exC y).toArray rfl rfl 49 ex0 HQ2.out gex_info rfl (ex_oneC _) ?_
           have HR := Lib.hid (HQ2.out.row (exC y).toArray)))
      refine bodyPost_ret (v := exV y) (results_cell_row Tryz.results136 _ _ w.heap.size 49 (exC y).toArray (0, 0) _ rfl HR.out Tryz.underlying49 rfl gex_info) rfl ?_
      exact exPost_put hgg HD2.out HAT.out ((un_no HHD.out).trans HOK.out)
    · have HG := Lib.hid (grown_trans HD.out.grown d1.grown)
      have HE := Lib.hid herr
      clear hp d1 IH HQ HD hsz herr
      go_wp2_with fail
      exact body_panic rfl (exPost_err ((un_no HHD.out).trans HE.out) HG.out hg)
  · rw [hh, after_yes hh] at hm
    have HHD := Lib.hid hh
    have hln := head_len hh
    clear hh
    go_enter Tryz.func136, Tryz.ntmps136
    go_wp2_with fail
    refine hm.mono ?_
    clear hm
    rintro e w1 ⟨rfl, d1⟩
    go_wp2_with fail
    refine (IH 2 l.tail w1 lg dp (by omega) (by omega) d1.at_).mono ?_
    intro e w2 hp
    rcases hp.cases with ⟨t, r, v, hok, rfl, y, rfl, hat, d2⟩ | ⟨n, herr, rfl, hg⟩
    · have HD2 := Lib.hid ((HD.out.trans (d1.trans d2)).later (later_new w2 (.cells (exC y).toArray 49)))
      have HQ2 := Lib.hid ((d2.blk (d1.blk HQ.out (by omega)) (by omega)).alloc (.cells (exC y).toArray 49))
      have hs2 : w.heap.size + 1 ≤ w2.heap.size := by have := d1.size; have := d2.size; omega
      have HAT := Lib.hid ((hat.more (by have := d1.size; omega : w.heap.size + 1 ≤ w1.heap.size)).later (later_new w2 (.cells (exC y).toArray 49)))
      have HY := Lib.hid (op1_at (S := Btw (w.heap.size + 1) (w2.alloc (.cells (exC y).toArray 49))) 4 (Blk.new w2 49 (exC y).toArray) ⟨hs2, by simp⟩ HAT.out)
      have HOK := Lib.hid hok
      clear hp d1 d2 hat hok IH HQ HD hsz HAT
      unfold exV exC at *
      go_wp2_with (first
        | (refine wpList_store_row rfl 49 (.tmp 2) (.tmp 8) rfl w.heap.size (exC (opY 4 w2.heap.size 1)).toArray rfl rfl 49 ex0 HQ2.out gex_info rfl (ex_oneC _) ?_
           have HR := Lib.hid (HQ2.out.row (exC (opY 4 w2.heap.size 1)).toArray)))
      refine bodyPost_ret (v := exV (opY 4 w2.heap.size 1)) (results_cell_row Tryz.results136 _ _ w.heap.size 49 (exC (opY 4 w2.heap.size 1)).toArray (0, 0) _ rfl HR.out Tryz.underlying49 rfl gex_info) rfl ?_
      exact exPost_put hgg HD2.out HY.out ((un_yes HHD.out).trans (bind_okP HOK.out))
    · have HG := Lib.hid (grown_trans HD.out.grown d1.grown)
      have HE := Lib.hid herr
      clear hp d1 IH HQ HD hsz herr
      go_wp2_with fail
      exact body_panic rfl (exPost_err ((un_yes HHD.out).trans (bind_errP HE.out)) HG.out hg)
set_option maxHeartbeats 4000000 in
set_option maxRecDepth 100000 in
theorem g_un6 (ρ : Rdr) (w : World) (l : Wds) (lg dp : Bool) (h : ρ.gat w l lg dp) (IH : GIH ρ (8 * l.length + 1)) :
    Calls Tryz.prog 160 #[ρ.ptr] w (exPost ρ w lg dp (exprL 6) l) := by
  have hgg := h.lt_
  have hb := later_new w (.cells ex0 49)
  have hm := ghave_any ρ _ l lg dp (h.later hb) ⟨#[45]⟩
  have HQ := Lib.hid (Blk.new w 49 ex0)
  have HD := Lib.hid (GDid.of_later h hb)
  have hsz : (w.alloc (.cells ex0 49)).heap.size = w.heap.size + 1 := by simp
  rw [exprL_6]
  rw [show (⟨#[45]⟩ : ByteArray).data.toList = s_minus from rfl] at hm
  clear h hb
  unfold ex0 at hm hsz
  cases hh : headIs s_minus l
  · rw [hh, after_no hh] at hm
    have HHD := Lib.hid hh
    clear hh
    go_enter Tryz.func160, Tryz.ntmps160
    go_wp2_with fail
    refine hm.mono ?_
    clear hm
    rintro e w1 ⟨rfl, d1⟩
    go_wp2_with fail
    refine (IH 7 l w1 lg dp (by omega) (by omega) d1.at_).mono ?_
    intro e w2 hp
    rcases hp.cases with ⟨t, r, v, hok, rfl, y, rfl, hat, d2⟩ | ⟨n, herr, rfl, hg⟩
    · have HD2 := Lib.hid (HD.out.trans (d1.trans d2))
      have HQ2 := Lib.hid (d2.blk (d1.blk HQ.out (by omega)) (by omega))
      have HAT := Lib.hid (hat.more (by have := d1.size; omega : w.heap.size + 1 ≤ w1.heap.size))
      have HOK := Lib.hid hok
      clear hp d1 d2 hat hok IH HQ HD hsz
      go_wp2_with (first
        | (refine wpList_store_row rfl 49 (.tmp 2) (.tmp 10) rfl w.heap.size (exC y).toArray rfl rfl 49 ex0 HQ2.out gex_info rfl (ex_oneC _) ?_
           have HR := Lib.hid (HQ2.out.row (exC y).toArray)))
      refine bodyPost_ret (v := exV y) (results_cell_row Tryz.results160 _ _ w.heap.size 49 (exC y).toArray (0, 0) _ rfl HR.out Tryz.underlying49 rfl gex_info) rfl ?_
      exact exPost_put hgg HD2.out HAT.out ((un_no HHD.out).trans HOK.out)
    · have HG := Lib.hid (grown_trans HD.out.grown d1.grown)
      have HE := Lib.hid herr
      clear hp d1 IH HQ HD hsz herr
      go_wp2_with fail
      exact body_panic rfl (exPost_err ((un_no HHD.out).trans HE.out) HG.out hg)
  · rw [hh, after_yes hh] at hm
    have HHD := Lib.hid hh
    have hln := head_len hh
    clear hh
    go_enter Tryz.func160, Tryz.ntmps160
    go_wp2_with fail
    refine hm.mono ?_
    clear hm
    rintro e w1 ⟨rfl, d1⟩
    go_wp2_with fail
    refine (IH 6 l.tail w1 lg dp (by omega) (by omega) d1.at_).mono ?_
    intro e w2 hp
    rcases hp.cases with ⟨t, r, v, hok, rfl, y, rfl, hat, d2⟩ | ⟨n, herr, rfl, hg⟩
    · have HD2 := Lib.hid ((HD.out.trans (d1.trans d2)).later (later_new w2 (.cells (exC y).toArray 49)))
      have HQ2 := Lib.hid ((d2.blk (d1.blk HQ.out (by omega)) (by omega)).alloc (.cells (exC y).toArray 49))
      have hs2 : w.heap.size + 1 ≤ w2.heap.size := by have := d1.size; have := d2.size; omega
      have HAT := Lib.hid ((hat.more (by have := d1.size; omega : w.heap.size + 1 ≤ w1.heap.size)).later (later_new w2 (.cells (exC y).toArray 49)))
      have HY := Lib.hid (op1_at (S := Btw (w.heap.size + 1) (w2.alloc (.cells (exC y).toArray 49))) 3 (Blk.new w2 49 (exC y).toArray) ⟨hs2, by simp⟩ HAT.out)
      have HOK := Lib.hid hok
      clear hp d1 d2 hat hok IH HQ HD hsz HAT
      unfold exV exC at *
      go_wp2_with (first
        | (refine wpList_store_row rfl 49 (.tmp 2) (.tmp 8) rfl w.heap.size (exC (opY 3 w2.heap.size 1)).toArray rfl rfl 49 ex0 HQ2.out gex_info rfl (ex_oneC _) ?_
           have HR := Lib.hid (HQ2.out.row (exC (opY 3 w2.heap.size 1)).toArray)))
      refine bodyPost_ret (v := exV (opY 3 w2.heap.size 1)) (results_cell_row Tryz.results160 _ _ w.heap.size 49 (exC (opY 3 w2.heap.size 1)).toArray (0, 0) _ rfl HR.out Tryz.underlying49 rfl gex_info) rfl ?_
      exact exPost_put hgg HD2.out HY.out ((un_yes HHD.out).trans (bind_okP HOK.out))
    · have HG := Lib.hid (grown_trans HD.out.grown d1.grown)
      have HE := Lib.hid herr
      clear hp d1 IH HQ HD hsz herr
      go_wp2_with fail
      exact body_panic rfl (exPost_err ((un_yes HHD.out).trans (bind_errP HE.out)) HG.out hg)
end Go.Proofs.YtcneefmaghoejaaGreatDoor
namespace Go.Proofs.YtcneefmaghoejaaGreatDoor
open Go.ChangeShapes Go.WideShapes Go.ChangeAt Go.RowKit
set_option linter.unusedVariables false
set_option linter.unusedSimpArgs false
def opC (x : List UInt8 × Int) : List Value := [.string ⟨x.1.toArray⟩, .int .u8 x.2]
def opsV (ks : List (List UInt8 × Int)) : Array Value := (ks.flatMap opC).toArray
theorem ops_cell {w : World} {b : Nat} {T : TypeId} {ks : List (List UInt8 × Int)} (h : Blk w b T (opsV ks)) {i : Nat} {s : List UInt8} {o : Int} (hi : ks[i]? = some (s, o)) : w.cell? ⟨b, i * 2, none⟩ = some (.string ⟨s.toArray⟩) ∧ w.cell? ⟨b, i * 2 + 1, none⟩ = some (.int .u8 o) := by
  have f := flat_cell (f := opC) (size := 2) (fun _ => rfl) ks i (s, o) hi
  constructor
  · rw [h.cell]
    have := f 0 _ rfl
    simpa [opsV] using this
  · rw [h.cell]
    have := f 1 _ rfl
    simpa [opsV] using this
set_option maxHeartbeats 4000000 in
set_option maxRecDepth 100000 in
theorem gleft1_any (ρ : Rdr) (w : World) (l : Wds) (lg dp : Bool) (h : ρ.gat w l lg dp) (s : List UInt8) (o : Int) (pb : Nat) (hp : Blk w pb 58 #[ρ.ptr]) :
    Calls Tryz.prog 135 #[.agg #[.string ⟨s.toArray⟩, .int .u8 o], .pointer (some ⟨pb, 0, none⟩)] w fun e w' => e = .returned (.bool (headIs s l)) ∧ GDid ρ w w' (afterW s l) lg dp := by
  have hb := later_new w (.cells #[.string ⟨s.toArray⟩, .int .u8 o] 142)
  have hm := ghave_any ρ _ l lg dp (h.later hb) ⟨s.toArray⟩
  rw [show (⟨s.toArray⟩ : ByteArray).data.toList = s by simp] at hm
  have HD := Lib.hid (GDid.of_later h hb)
  have c0 := hp.cell 0
  simp only [List.getElem?_toArray, List.getElem?_cons_zero] at c0
  have hpl := hp.lt
  clear h hb
  go_enter Tryz.func135, Tryz.ntmps135
  go_wp2_with fail
  refine hm.mono ?_
  clear hm
  rintro e w1 ⟨rfl, d1⟩
  go_wp2_with fail
  go_ret
  exact ⟨rfl, HD.out.trans d1⟩
theorem opOf_no {s : List UInt8} {o : Int} {ks : List (List UInt8 × Int)} {l : Wds} (h : headIs s l = false) : opOf ((s, o) :: ks) l = opOf ks l := by simp [opOf, h]
theorem opOf_yes {s : List UInt8} {o : Int} {ks : List (List UInt8 × Int)} {l : Wds} (h : headIs s l = true) : opOf ((s, o) :: ks) l = some o := by simp [opOf, h]
def ixPost (ρ : Rdr) (w : World) (ks : List (List UInt8 × Int)) (l : Wds) (lg dp : Bool) (e : Ending) (w' : World) : Prop :=
  (opOf ks l = none ∧ e = .returned (.int .i64 (-1)) ∧ GDid ρ w w' l lg dp) ∨ ∃ (i : Nat) (s : List UInt8) (o : Int), ks[i]? = some (s, o) ∧ opOf ks l = some o ∧ headIs s l = true ∧ e = .returned (.int .i64 i) ∧ GDid ρ w w' l.tail lg dp
set_option maxHeartbeats 4000000 in
set_option maxRecDepth 100000 in
theorem gindex_any (ρ : Rdr) (w : World) (l : Wds) (lg dp : Bool) (h : ρ.gat w l lg dp) (ks : List (List UInt8 × Int)) (b n pb : Nat) (hn : ks.length = n) (hb : Blk w b 142 (opsV ks)) (hbg : b ≠ ρ.g) (hp : Blk w pb 58 #[ρ.ptr]) (hpg : pb ≠ ρ.g) (hsm : n ≤ 10) :
    Calls Tryz.prog 134 #[.slice (some ⟨b, 0, none⟩) n n, .func (.func 135) #[] #[.pointer (some ⟨pb, 0, none⟩)]] w (ixPost ρ w ks l lg dp) := by
  have HH := Lib.hid h
  have HB := Lib.hid hb
  have HP := Lib.hid hp
  clear h hb hp
  have en : ∀ args w, (callFunc 135 args).run Tryz.prog w = .ok (.enter 135 args) w := enters_of Tryz.func135 (by kernel_rfl) rfl
  go_enter Tryz.func134, Tryz.ntmps134
  go_wp2_with fail
  go_loopw [8] (fun u wr => ∃ (i : Nat), i ≤ n ∧ u = .int .i64 i ∧ GDid ρ w wr l lg dp ∧ opOf ks l = opOf (ks.drop i) l) (fun u _ => n - (intOf u).toNat)
  case atStart => exact ⟨0, Nat.zero_le _, rfl, GDid.refl HH.out, rfl⟩
  case round =>
    obtain ⟨i, hi, rfl, hD, hst⟩ := hrel
    have HD := Lib.hid hD
    have HS := Lib.hid hst
    clear hD hst
    by_cases hlt : i < n
    · obtain ⟨⟨s, o⟩, hs⟩ : ∃ x, ks[i]? = some x := ⟨_, List.getElem?_eq_getElem (by omega)⟩
      obtain ⟨c0, c1⟩ := ops_cell (HD.out.blk HB.out hbg) hs
      have HDR := Lib.hid (drop_get hs)
      have HSS := Lib.hid hs
      clear hs
      have hm := gleft1_any ρ wr l lg dp HD.out.at_ s o pb (HD.out.blk HP.out hpg)
      cases hh : headIs s l
      · have HHD := Lib.hid hh
        rw [hh, after_no hh] at hm
        clear hh
        go_wp2_with fail
        refine hm.mono ?_
        clear hm
        rintro e w1 ⟨rfl, d1⟩
        go_wp2_with fail
        go_roundw
        case rel => exact ⟨i + 1, by omega, by go_num, HD.out.trans d1, by rw [HS.out, HDR.out, opOf_no HHD.out]⟩
        case measure => simp [intOf]; omega
      · have HHD := Lib.hid hh
        rw [hh, after_yes hh] at hm
        clear hh
        go_wp2_with fail
        refine hm.mono ?_
        clear hm
        rintro e w1 ⟨rfl, d1⟩
        go_wp2_with fail
        go_ret
        exact .inr ⟨i, s, o, HSS.out, by rw [HS.out, HDR.out, opOf_yes HHD.out], HHD.out, rfl, HD.out.trans d1⟩
    · obtain rfl : i = n := by omega
      have HDR := Lib.hid (show ks.drop i = [] from List.drop_eq_nil_of_le (by omega))
      go_wp2_with fail
      go_ret
      exact .inl ⟨by rw [HS.out, HDR.out]; rfl, rfl, HD.out⟩
end Go.Proofs.YtcneefmaghoejaaGreatDoor
