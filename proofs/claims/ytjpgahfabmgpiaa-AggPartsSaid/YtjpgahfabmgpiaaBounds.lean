/- AggBounds: the walk. -/
import Derived.Test.YtjpgahfabmgpiaaBoundsPlain
import Derived.Test.YtjpgahfabmgpiaaOwn
namespace Go.Proofs.Ytjpgahfabmgpiaa
open Go.ChangeShapes Go.WideShapes Go.ChangeAt Go.RowKit
set_option linter.unusedVariables false
set_option linter.unusedSimpArgs false

def pairCells (x : Val × Val) : List Value := [.int .u8 x.1.k, .int .i64 x.1.n, .string x.1.s, .int .u8 x.2.k, .int .i64 x.2.n, .string x.2.s]
theorem pair_info : (Try.prog.info? 29).map (fun i => (i.zero, i.size, i.bytes)) = some (some (.agg #[.int .u8 0, .int .i64 0, .string ⟨#[]⟩, .int .u8 0, .int .i64 0, .string ⟨#[]⟩]), 6, 64) := by kernel_rfl

theorem flat_at {α : Type} {f : α → List Value} {size : Nat} (hf : ∀ x, (f x).length = size) : ∀ (l : List α) (i j : Nat) (x : α), l[i]? = some x → j < size → (l.flatMap f)[i * size + j]? = (f x)[j]?
  | [], i, j, x, h, hj => by simp at h
  | y :: l, 0, j, x, h, hj => by
    simp at h
    subst h
    simp only [List.flatMap_cons, Nat.zero_mul, Nat.zero_add]
    rw [List.getElem?_append_left (by rw [hf]; exact hj)]
  | y :: l, i + 1, j, x, h, hj => by
    have := flat_at hf l i j x (by simpa using h) hj
    simp only [List.flatMap_cons]
    rw [List.getElem?_append_right (by rw [hf, Nat.succ_mul]; omega), hf, ← this]
    congr 1
    rw [Nat.succ_mul]
    omega
theorem own_rp {w : World} {base : Nat} {v : Value} {l : List (Val × Val)} (h : OwnF pairCells 29 6 w base v l) : ∃ A c, v = .slice A l.length c ∧ RP w w.heap.size A l := by
  obtain ⟨A, c, rfl, hr, _, hA⟩ := h.reads
  refine ⟨A, c, rfl, ?_⟩
  rcases hA with rfl | ⟨g, rfl, hg⟩
  · exact .inl rfl
  · rcases List.eq_nil_or_concat l with rfl | hne
    · exact .inl rfl
    · have hpos : 0 < l.length := by obtain ⟨_, _, rfl⟩ := hne; simp
      obtain ⟨ad, e, hb, hc⟩ := hr.2 hpos
      injection e with e
      subst e
      refine .inr ⟨g, 0, rfl, hb, fun i x hx => ?_⟩
      have hk : ∀ j, j < 6 → ∀ u, (pairCells x)[j]? = some u → w.cell? ⟨g, 0 + i * 6 + j, none⟩ = some u := fun j hj u hu => by
        have := hc (i * 6 + j) u ((flat_at (f := pairCells) (size := 6) (fun _ => rfl) l i j x hx hj).trans hu)
        rw [add_none] at this
        rwa [← Nat.add_assoc] at this
      exact ⟨hk 0 (by omega) _ rfl, hk 1 (by omega) _ rfl, hk 2 (by omega) _ rfl, hk 3 (by omega) _ rfl, hk 4 (by omega) _ rfl, hk 5 (by omega) _ rfl⟩

set_option maxHeartbeats 4000000 in
set_option maxRecDepth 100000 in
theorem bounds_any (A : Option Addr) (c : Nat) (l : List Int) (w : World) (h : RN w w.heap.size A l) (hm : l.length ≤ 9223372036854775807) :
    Calls Try.prog 3 #[.slice A l.length c] w fun e w' => e = .returned (.bool true) ∧ Below w.heap.size w w' := by
  have HR := Lib.hid h
  clear h
  rcases Nat.lt_or_ge 300 l.length with hl | hl
  · have d0 : decide ((300 : Int) < (l.length : Int)) = true := by simp; omega
    go_enter Try.func3, Try.ntmps3
    go_wp2_with fail
    refine (wakes_any _).mono ?_
    rintro e w7 ⟨rfl, b7⟩
    go_wp2_with fail
    go_ret
    exact ⟨rfl, b7⟩
  have d0 : decide ((300 : Int) < (l.length : Int)) = false := by simp; omega
  go_enter Try.func3, Try.ntmps3
  go_wp2_with fail
  go_loopw [3, 4] (fun pv i wr => ∃ k : Nat, k ≤ l.length ∧ i = .int .i64 k ∧ OwnF pairCells 29 6 wr w.heap.size pv (ints (l.take k)) ∧ Below w.heap.size w wr ∧ ∀ n ∈ l.take k, -1125899906842624 ≤ n ∧ n ≤ 1125899906842624) (fun _ i _ => l.length - (intOf i).toNat)
  case atStart => exact ⟨0, Nat.zero_le _, rfl, OwnF.nil, Below.refl _ _, by simp⟩
  case round =>
    obtain ⟨k, hk, rfl, hO, hB, hbd⟩ := hrel
    have HO := Lib.hid hO
    have HBD := Lib.hid hbd
    clear hO hbd
    by_cases hlt : k < l.length
    · obtain ⟨b, off, rfl, hb, hcell⟩ := (HR.out.below hB).at_ hlt
      have hn0 : (l[k] < -1125899906842624) ∨ (¬ l[k] < -1125899906842624 ∧ 1125899906842624 < l[k]) ∨ (¬ l[k] < -1125899906842624 ∧ ¬ 1125899906842624 < l[k]) := by omega
      have HT := Lib.hid (show l.take (k + 1) = l.take k ++ [l[k]] by rw [List.take_add_one, List.getElem?_eq_getElem hlt]; rfl)
      generalize l[k] = n at *
      rcases hn0 with h1 | ⟨h1, h2⟩ | ⟨h1, h2⟩
      · have d1 : decide (n < -1125899906842624) = true := by simpa using h1
        go_wp2_with fail
        refine (wakes_any _).mono ?_
        rintro e w7 ⟨rfl, b7⟩
        go_wp2_with fail
        go_ret
        exact ⟨rfl, Later.then hB b7⟩
      · have d1 : decide (n < -1125899906842624) = false := by simpa using h1
        have d2 : decide (1125899906842624 < n) = true := by simpa using h2
        go_wp2_with fail
        refine (wakes_any _).mono ?_
        rintro e w7 ⟨rfl, b7⟩
        go_wp2_with fail
        go_ret
        exact ⟨rfl, Later.then hB b7⟩
      · have d1 : decide (n < -1125899906842624) = false := by simpa using h1
        have d2 : decide (1125899906842624 < n) = false := by simpa using h2
        go_wp2_with fail
        refine (lnumber_any n _).mono ?_
        rintro e w1 ⟨rfl, b1⟩
        replace hB := Later.then hB b1
        have hO := HO.out.later b1
        clear HO hcell b1
        have hG := Blk.new w1 29 #[.int .u8 2, .int .i64 n, .string ByteArray.empty, .int .u8 0, .int .i64 0, .string ⟨#[]⟩]
        replace hO := hO.later (later_new w1 (.cells #[.int .u8 2, .int .i64 n, .string ByteArray.empty, .int .u8 0, .int .i64 0, .string ⟨#[]⟩] 29))
        replace hB := Later.then hB (later_new w1 (.cells #[.int .u8 2, .int .i64 n, .string ByteArray.empty, .int .u8 0, .int .i64 0, .string ⟨#[]⟩] 29))
        have HO := Lib.hid hO
        have HG := Lib.hid hG
        have hkl : (l.take k).length = k := by simp; omega
        clear hO hG
        go_wp2_with (first
          | (at_builtin
             refine wpList_append_one rfl (.tmp 40) (.tmp 47) 24 rfl _ 64 Try.underlying24 pair_info rfl (by omega) (num n, zeroVal) rfl (by simp [pairCells, Value.oneCell']) rfl HO.out w1.heap.size rfl HG.out (by rw [ints_len, hkl]; omega) (by rw [ints_len, hkl]; omega) hB.size ?_
             intro v2 w2 o2 g2
             have b2 := below_own HO.out g2 hB.size
             have O2 := Lib.hid o2
             clear o2 g2 HO HG))
        go_roundw
        case rel =>
          refine ⟨k + 1, hlt, by go_num, ?_, hB.trans b2, ?_⟩
          · rw [HT.out]
            have e : ints (l.take k ++ [n]) = ints (l.take k) ++ [(num n, zeroVal)] := by simp [ints]
            rw [e]
            exact O2.out
          · rw [HT.out]
            intro m hm
            rcases List.mem_append.1 hm with hm | hm
            · exact HBD.out m hm
            · simp at hm; subst hm; exact ⟨h1, h2⟩
        case measure => simp [intOf]; omega
    · have htk : l.take k = l := List.take_of_length_le (by omega)
      rw [htk] at HO HBD
      have hkk : k = l.length := by omega
      clear htk hk
      obtain ⟨AP, cP, rfl, hRP⟩ := own_rp HO.out
      have HRP := Lib.hid hRP
      clear hRP HO
      have HV := Lib.hid (ints_ok l HBD.out)
      have HOK : ∀ op : Int, 21 ≤ op ∧ op ≤ 28 → Hid (fedSt op (ints l)).Ok := fun op ho => rep_ok ho.1 ho.2 (rep_fed ho.1 ho.2 _) (by rw [ints_len]; omega)
      have HA : ∃ v1 v2 v3 v4 v5 : Val, Hid (AnsIs (fedSt 22 (ints l)) v1 0) ∧ Hid (AnsIs (fedSt 23 (ints l)) v2 0) ∧ Hid (AnsIs (fedSt 26 (ints l)) v3 0) ∧ Hid (AnsIs (fedSt 24 (ints l)) v4 0) ∧ Hid (AnsIs (fedSt 25 (ints l)) v5 0) ∧ Hid (v1 = num l.length ∧ ((l = [] ∧ v2 = zeroVal ∧ v3 = zeroVal ∧ v4 = zeroVal ∧ v5 = zeroVal) ∨
          (l ≠ [] ∧ v2 = num (isum l) ∧ v3 = num (isum l / l.length) ∧ ∃ m m', m ∈ l ∧ m' ∈ l ∧ v4 = num m ∧ v5 = num m' ∧ (∀ n ∈ l, m ≤ n ∧ 0 ≤ vcmp (num n) (num m)) ∧ (∀ n ∈ l, n ≤ m' ∧ vcmp (num n) (num m') ≤ 0)))) := by
        rcases Classical.em (l = []) with rfl | hne
        · obtain ⟨a1, a2, a3, a4, a5⟩ := ans_none
          exact ⟨_, _, _, _, _, a1, a2, a3, a4, a5, rfl, .inl ⟨rfl, rfl, rfl, rfl, rfl⟩⟩
        · obtain ⟨m, hm, am, pm⟩ := ans_min l hne
          obtain ⟨m', hm', am', pm'⟩ := ans_max l hne
          exact ⟨_, _, _, _, _, ans_count l, ans_sum l hl HBD.out hne, ans_avg l hl HBD.out hne, am, am', rfl, .inr ⟨hne, rfl, rfl, m, m', hm, hm', rfl, rfl, pm, pm'⟩⟩
      obtain ⟨v1, v2, v3, v4, v5, HA1, HA2, HA3, HA4, HA5, HF⟩ := HA
      go_wp2_with fail
      refine (fed_any 22 AP cP (ints l) _ rfl HRP.out (by rw [ints_len]; omega) HV.out).mono ?_
      rintro e w1 ⟨p, hp, rfl, hS, b1⟩
      go_wp2_with fail
      refine (answer_any p _ v1 0 _ hS (HOK 22 (by decide)).out HA1.out).mono ?_
      rintro e w2 ⟨rfl, b2⟩
      clear hS
      unfold ansV
      go_wp2_with fail
      have b3 := Later.then b1 (Later.then b2 (later_new w2 (.cells #[.int .u8 v1.k, .int .i64 v1.n, .string v1.s] 26)))
      replace hB := Later.then hB b3
      replace HRP := Lib.hid ((HRP.out.below b3).more b3.size)
      have hV1 := Blk.new w2 26 #[.int .u8 v1.k, .int .i64 v1.n, .string v1.s]
      clear b1 b2 b3 hp
      generalize w2.alloc (.cells #[.int .u8 v1.k, .int .i64 v1.n, .string v1.s] 26) = W1 at *
      generalize w2.heap.size = g1 at *
      refine (fed_any 23 AP cP (ints l) _ rfl HRP.out (by rw [ints_len]; omega) HV.out).mono ?_
      rintro e w1 ⟨p, hp, rfl, hS, b1⟩
      go_wp2_with fail
      refine (answer_any p _ v2 0 _ hS (HOK 23 (by decide)).out HA2.out).mono ?_
      rintro e w2 ⟨rfl, b2⟩
      clear hS
      unfold ansV
      go_wp2_with fail
      have b3 := Later.then b1 (Later.then b2 (later_new w2 (.cells #[.int .u8 v2.k, .int .i64 v2.n, .string v2.s] 26)))
      replace hB := Later.then hB b3
      replace HRP := Lib.hid ((HRP.out.below b3).more b3.size)
      replace hV1 := hV1.later b3
      have hV2 := Blk.new w2 26 #[.int .u8 v2.k, .int .i64 v2.n, .string v2.s]
      clear b1 b2 b3 hp
      generalize w2.alloc (.cells #[.int .u8 v2.k, .int .i64 v2.n, .string v2.s] 26) = W2 at *
      generalize w2.heap.size = g2 at *
      refine (fed_any 26 AP cP (ints l) _ rfl HRP.out (by rw [ints_len]; omega) HV.out).mono ?_
      rintro e w1 ⟨p, hp, rfl, hS, b1⟩
      go_wp2_with fail
      refine (answer_any p _ v3 0 _ hS (HOK 26 (by decide)).out HA3.out).mono ?_
      rintro e w2 ⟨rfl, b2⟩
      clear hS
      unfold ansV
      go_wp2_with fail
      have b3 := Later.then b1 (Later.then b2 (later_new w2 (.cells #[.int .u8 v3.k, .int .i64 v3.n, .string v3.s] 26)))
      replace hB := Later.then hB b3
      replace HRP := Lib.hid ((HRP.out.below b3).more b3.size)
      replace hV1 := hV1.later b3
      replace hV2 := hV2.later b3
      have hV3 := Blk.new w2 26 #[.int .u8 v3.k, .int .i64 v3.n, .string v3.s]
      clear b1 b2 b3 hp
      generalize w2.alloc (.cells #[.int .u8 v3.k, .int .i64 v3.n, .string v3.s] 26) = W3 at *
      generalize w2.heap.size = g3 at *
      refine (fed_any 24 AP cP (ints l) _ rfl HRP.out (by rw [ints_len]; omega) HV.out).mono ?_
      rintro e w1 ⟨p, hp, rfl, hS, b1⟩
      go_wp2_with fail
      refine (answer_any p _ v4 0 _ hS (HOK 24 (by decide)).out HA4.out).mono ?_
      rintro e w2 ⟨rfl, b2⟩
      clear hS
      unfold ansV
      go_wp2_with fail
      have b3 := Later.then b1 (Later.then b2 (later_new w2 (.cells #[.int .u8 v4.k, .int .i64 v4.n, .string v4.s] 26)))
      replace hB := Later.then hB b3
      replace HRP := Lib.hid ((HRP.out.below b3).more b3.size)
      replace hV1 := hV1.later b3
      replace hV2 := hV2.later b3
      replace hV3 := hV3.later b3
      have hV4 := Blk.new w2 26 #[.int .u8 v4.k, .int .i64 v4.n, .string v4.s]
      clear b1 b2 b3 hp
      generalize w2.alloc (.cells #[.int .u8 v4.k, .int .i64 v4.n, .string v4.s] 26) = W4 at *
      generalize w2.heap.size = g4 at *
      refine (fed_any 25 AP cP (ints l) _ rfl HRP.out (by rw [ints_len]; omega) HV.out).mono ?_
      rintro e w1 ⟨p, hp, rfl, hS, b1⟩
      go_wp2_with fail
      refine (answer_any p _ v5 0 _ hS (HOK 25 (by decide)).out HA5.out).mono ?_
      rintro e w2 ⟨rfl, b2⟩
      clear hS
      unfold ansV
      obtain ⟨e1, hcase⟩ := HF.out
      subst e1
      have b3 := Later.then b1 (Later.then b2 (later_new w2 (.cells #[.int .u8 v5.k, .int .i64 v5.n, .string v5.s] 26)))
      replace hB := Later.then hB b3
      replace HRP := Lib.hid ((HRP.out.below b3).more b3.size)
      have c1 := val_cells (hV1.later b3)
      have c2 := val_cells (hV2.later b3)
      have c3 := val_cells (hV3.later b3)
      have c4 := val_cells (hV4.later b3)
      have c5 := val_cells (Blk.new w2 26 #[.int .u8 v5.k, .int .i64 v5.n, .string v5.s])
      replace hV1 := hV1.later b3
      replace hV2 := hV2.later b3
      replace hV3 := hV3.later b3
      replace hV4 := hV4.later b3
      have hV5 := Blk.new w2 26 #[.int .u8 v5.k, .int .i64 v5.n, .string v5.s]
      clear b1 b2 b3 hp HA1 HA2 HA3 HA4 HA5 HOK HV HF
      rcases hcase with ⟨hnil, rfl, rfl, rfl, rfl⟩ | ⟨hne, rfl, rfl, m, m', hm, hm', rfl, rfl, h4, h5⟩
      · clear hV1 hV2 hV3 hV4 hV5 HRP
        subst hnil
        have hl0 : ((([] : List Int).length : Nat) : Int) = 0 := rfl
        unfold num at c1
        rw [hl0] at c1
        clear hl0
        unfold zeroVal at c1 c2 c3 c4 c5 hB ⊢
        go_wp2_with fail
        refine (wakes_any _).mono ?_
        rintro e w7 ⟨rfl, b7⟩
        go_wp2_with fail
        go_ret
        exact ⟨rfl, Later.then hB b7⟩
      · have hz : ((l.length : Int) == 0) = false := by rw [beq_eq_false_iff_ne]; have := List.length_pos_iff.2 hne; omega
        obtain ⟨q1, q2, q3, q4⟩ := avg_bd l hne (fun n hn => (h4 n hn).1) (fun n hn => (h5 n hn).1)
        have q5 := isum_bd l hl HBD.out
        have H4 := Lib.hid h4
        have H5 := Lib.hid h5
        unfold num at c1 c2 c3 c4 c5 hV1 hV2 hV3 hV4 hV5 hB HRP ⊢
        generalize isum l = S at *
        generalize hq : S / (l.length : Int) = q at *
        clear hq
        have q6 : q * (l.length : Int) ≤ 337769972052787200 ∧ -337769972052787500 ≤ q * (l.length : Int) := by omega
        have w1' : IntKind.i64.wrap (q * (l.length : Int)) = q * (l.length : Int) := by rw [IntKind.wrap_i64]; omega
        clear h4 h5
        go_wp2_with fail
        simp only [ints_len]
        clear c1 c2 c3 c4 c5
        generalize w2.alloc (.cells #[.int .u8 2, .int .i64 m', .string ByteArray.empty] 26) = W5 at *
        generalize w2.heap.size = g5 at *
        go_loopw [16] (fun i wr => ∃ k : Nat, k ≤ l.length ∧ i = .int .i64 k ∧ Below W5.heap.size W5 wr) (fun i _ => l.length - (intOf i).toNat)
        case atStart => exact ⟨0, Nat.zero_le _, rfl, Below.refl _ _⟩
        case round =>
          obtain ⟨j, hj, rfl, hb5⟩ := hrel
          by_cases hjl : j < l.length
          · obtain ⟨bP, offP, rfl, hbP, hpair⟩ := (HRP.out.below hb5).at_ (show j < (ints l).length by rw [ints_len]; exact hjl)
            have he : (ints l)[j]'(by rw [ints_len]; exact hjl) = (num l[j], zeroVal) := by simp [ints]
            rw [he] at hpair
            have hn4 := (H4.out l[j] (List.getElem_mem hjl)).2
            have hn5 := (H5.out l[j] (List.getElem_mem hjl)).2
            clear he
            generalize l[j] = n at *
            have k4 := Lib.hid (compare_any (num n) (num m))
            have k5 := Lib.hid (compare_any (num n) (num m'))
            have r4 : decide (vcmp (num n) (num m) < 0) = false := by simpa using hn4
            have r5 : decide (0 < vcmp (num n) (num m')) = false := by simpa using hn5
            generalize vcmp (num n) (num m) = x4 at *
            generalize vcmp (num n) (num m') = x5 at *
            unfold num at k4 k5 hpair
            unfold zeroVal at hpair
            go_wp2_with fail
            have cS := fun y : Ext wr.heap.size wr => hpair.keep (w' := y.w) fun o => y.cell (p := ⟨bP, o, none⟩) (by have := hb5.size; simp; omega)
            unfold PairAt at cS
            dsimp only at cS
            have c4 := fun y : Ext wr.heap.size wr => val_cells (hV4.later (Later.then hb5 y.h))
            have c5 := fun y : Ext wr.heap.size wr => val_cells (hV5.later (Later.then hb5 y.h))
            refine region_cut 18 wr.heap.size wr (Below.refl _ _) (by kernel_rfl) (by kernel_rfl) (by kernel_rfl) (by kernel_rfl) ?_
            simp only [List.take_succ_cons, List.take_zero, List.drop_succ_cons, List.drop_zero]
            repeat (go_big_quiet_step (first
              | (go_at_call_of 11 m; exact calls_later (Nat.le_refl _) (k4.out _))
              | (go_at_call_of 11 m'; exact calls_later (Nat.le_refl _) (k5.out _))))
            refine wpQuiet_nil ?_
            rintro W6 ⟨x6, hx6⟩
            have hW := x6.h
            rw [← hx6] at hW
            clear hx6 x6 cS c4 c5
            go_wp2_with fail
            go_roundw
            case rel => exact ⟨j + 1, hjl, by go_num, Later.then hb5 hW⟩
            case measure => simp [intOf]; omega
          · have c1 := val_cells (hV1.later hb5)
            have c2 := val_cells (hV2.later hb5)
            have c3 := val_cells (hV3.later hb5)
            have c4 := val_cells (hV4.later hb5)
            have c5 := val_cells (hV5.later hb5)
            have t1 : decide (0 ≤ S - q * (l.length : Int)) = true := by simpa using q3
            have t2 : decide (S - q * (l.length : Int) < (l.length : Int)) = true := by simpa using q4
            have t3 : decide (m ≤ q) = true := by simpa using q1
            have t4 : decide (q ≤ m') = true := by simpa using q2
            go_wp2_with fail
            refine (wakes_any _).mono ?_
            rintro e w7 ⟨rfl, b7⟩
            go_wp2_with fail
            go_ret
            exact ⟨rfl, Later.then hB (Later.then hb5 b7)⟩
end Go.Proofs.Ytjpgahfabmgpiaa
