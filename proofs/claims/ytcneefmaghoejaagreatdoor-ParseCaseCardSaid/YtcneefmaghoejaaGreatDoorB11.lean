/- Parts of the proof: Buf, LexT, LexW, LexG. Put together by slim.py. -/
import Derived.Test.YtcneefmaghoejaaGreatDoorProg
import Derived.Shelf.Strings.Builder1
import Derived.Test.YtcneefmaghoejaaGreatDoorB6
import Derived.Test.YtcneefmaghoejaaGreatDoorB10
namespace Go.Proofs.YtcneefmaghoejaaGreatDoor
open Go.ChangeShapes Go.WideShapes Go.ChangeAt Go.RowKit Go.Shelf
set_option linter.unusedVariables false
theorem size_builder : (Tryz.prog.info? 124).map (·.size) = some 2 := by kernel_rfl
theorem lies_builder : liesAt Tryz.prog Tryz.prog.depth 124 (2 / Tryz.prog.cellsOf 124) 0 124 1 = true := by kernel_rfl
theorem info_byte : (Tryz.prog.info? 5).map (fun i => (i.zero, i.size, i.bytes)) = some (some (.int .u8 0), 1, 1) := by kernel_rfl
set_option maxHeartbeats 1000000 in
set_option maxRecDepth 100000 in
theorem check_used (b : Nat) (w : World) (h0 : w.cell? ⟨b, 0, none⟩ = some (.pointer (some ⟨b, 0, none⟩))) :
    Calls Tryz.prog 115 #[.pointer (some ⟨b, 0, none⟩)] w fun e w' => e = .returned (.tuple #[]) ∧ w = w' := by
  obtain ⟨j, hj, _⟩ := Option.map_eq_some_iff.1 size_builder
  go_enter Tryz.func115, Tryz.ntmps115
  go_wp2_with fail
  rw [Lib.run_neq_ptr_same w _ Tryz.underlying122 hj]
  go_wp2_with fail
  go_end0
  exact ⟨rfl, rfl⟩
set_option maxHeartbeats 1000000 in
set_option maxRecDepth 100000 in
theorem check_fresh (b : Nat) (w : World) (h0 : w.cell? ⟨b, 0, none⟩ = some (.pointer none)) (hsh : w.shape? b = some (124, 2)) (hfz : w.frozen? ⟨b, 0, none⟩ = false) :
    Calls Tryz.prog 115 #[.pointer (some ⟨b, 0, none⟩)] w fun e w' => e = .returned (.tuple #[]) ∧ w' = w.setCell ⟨b, 0, none⟩ (.pointer (some ⟨b, 0, none⟩)) := by
  obtain ⟨j, hj, hjs⟩ := Option.map_eq_some_iff.1 size_builder
  go_enter Tryz.func115, Tryz.ntmps115
  go_wp2_with fail
  rw [Lib.run_to_unsafe w ⟨b, 0, none⟩ Tryz.underlying122 Tryz.underlying158 hj (by rw [hjs]; decide) hsh (Nat.zero_lt_succ 1)]
  simp only [Result.andThen]
  rw [Oper.upon_value]
  go_wp2_with fail
  rw [run_callFunc_extern Tryz.func132 (by kernel_rfl) (by kernel_rfl) (by kernel_rfl) (e := Extern.AbiNoEscape.same) (by kernel_rfl)]
  rw [Lib.run_noEscape]
  simp only [Result.andThen]
  rw [Oper.upon_value]
  go_wp2_with fail
  rw [Lib.run_from_unsafe w ⟨b, 0, none⟩ Tryz.underlying158 Tryz.underlying122 hj hsh lies_builder]
  simp only [Result.andThen]
  rw [Oper.upon_value]
  go_wp2_with fail
  go_end0
  exact ⟨rfl, rfl⟩
def IsBuf (B b : Nat) (l : List UInt8) (w : World) : Prop := Lib.IsBuilder 124 5 B b (Lib.byteCells l) w
theorem check_any (B b : Nat) (bs : List Value) (w : World) (h : Lib.IsBuilder 124 5 B b bs w) :
    Calls Tryz.prog 115 #[.pointer (some ⟨b, 0, none⟩)] w fun e w' => e = .returned (.tuple #[]) ∧ Lib.BuilderAt 124 5 B b (.pointer (some ⟨b, 0, none⟩)) bs w' ∧ Below B w w' := by
  rcases h with h | h
  · refine (check_fresh b w h.cell0 h.shape h.frozen0).mono ?_
    rintro e w' ⟨rfl, rfl⟩
    exact ⟨rfl, h.used _, (Below.refl B w).setCell (p := ⟨b, 0, none⟩) h.1 _⟩
  · refine (check_used b w h.cell0).mono ?_
    rintro e w' ⟨rfl, rfl⟩
    exact ⟨rfl, h, Below.refl B _⟩
set_option maxHeartbeats 2000000 in
set_option maxRecDepth 100000 in
theorem write_any (B b : Nat) (bs : List Value) (c : Int) (w : World) (h : Lib.IsBuilder 124 5 B b bs w) (hlen : bs.length + 1 ≤ 140737488355328) (hBw : B ≤ w.heap.size) :
    Calls Tryz.prog 98 #[.pointer (some ⟨b, 0, none⟩), .int .u8 c] w fun e w' => e = .returned .nilIface ∧ Lib.BuilderAt 124 5 B b (.pointer (some ⟨b, 0, none⟩)) (bs ++ [.int .u8 c]) w' ∧ Below B w w' := by
  obtain ⟨i0, hi, hz0, hz1, hz2⟩ := info_parts info_byte
  go_enter Tryz.func98, Tryz.ntmps98
  go_wp2_with fail
  refine (check_any B b bs _ h).mono ?_
  rintro e w1 ⟨rfl, h1, hb1⟩
  obtain ⟨hB, v, hbk, hown, hne⟩ := h1
  have c0 : w1.cell? ⟨b, 0, none⟩ = some (.pointer (some ⟨b, 0, none⟩)) := by rw [Lib.cell_of_heap hbk]; rfl
  have c1 : w1.cell? ⟨b, 1, none⟩ = some v := by rw [Lib.cell_of_heap hbk]; rfl
  go_wp2_with (at_builtin; refine wpList_append_own _ rfl _ _ 53 rfl B 5 i0 (.int .u8 0) 1 1 Tryz.underlying53 hi hz0 hz1 hz2 rfl (by decide) _ _ _ rfl (hown.alloc _) ⟨w1.heap.size, 0, none⟩ 1 1 [.int .u8 c] rfl rfl ?c1 ?c2 ?c3 ?c4 ?c5 ?_)
  case c1 =>
    intro j u hj
    match j, hj with
    | 0, hj => simp at hj; subst hj; simp [Addr.add]
  case c2 => intro u hu; simp at hu; subst hu; rfl
  case c3 => unfold maxLen; omega
  case c4 => omega
  case c5 => have := hb1.size; simp; omega
  intro v' w2 hown' hgrow _
  have hlt : b < w1.heap.size := by
    rcases Nat.lt_or_ge b w1.heap.size with h' | h'
    · exact h'
    · simp [Array.getElem?_eq_none h'] at hbk
  have hb2 : w2.heap[b]? = some (.cells #[.pointer (some ⟨b, 0, none⟩), v] 124 (0, 0)) := by
    rw [hgrow.block b (by simp; omega) (fun e => hne e.symm), Lib.alloc_old w1 _ b hlt]
    exact hbk
  have d0 : w2.cell? ⟨b, 0, none⟩ = some (.pointer (some ⟨b, 0, none⟩)) := by rw [Lib.cell_of_heap hb2]; rfl
  have d1 : w2.cell? ⟨b, 1, none⟩ = some v := by rw [Lib.cell_of_heap hb2]; rfl
  have f1 : w2.frozen? ⟨b, 1, none⟩ = false := Lib.frozen_of_heap hb2 1
  obtain ⟨g, cap, rfl⟩ : ∃ g cap, v' = .slice (some ⟨g, 0, none⟩) (bs.length + 1) cap := by
    rcases hown'.2 with ⟨_, h0⟩ | ⟨g, cap, cur, hv, _⟩
    · omega
    · exact ⟨g, cap, hv⟩
  go_wp2_with fail
  go_ret
  refine ⟨rfl, ?_, ?_⟩
  · exact Lib.BuilderAt.put (T := 124) (e := 5) hB hb2 (bs' := bs ++ [.int .u8 c]) (by simpa using hown') (by decide)
  · exact ((hb1.alloc (by have := hb1.size; omega) _).grown hgrow (by have := hb1.size; simp; omega) (fun k hk => (hown.lt k hk).1)).setCell (p := ⟨b, 1, none⟩) hB _
theorem write_byte (B b : Nat) (l : List UInt8) (c : UInt8) (w : World) (h : IsBuf B b l w) (hlen : l.length + 1 ≤ 140737488355328) (hBw : B ≤ w.heap.size) :
    Calls Tryz.prog 98 #[.pointer (some ⟨b, 0, none⟩), .int .u8 (c.toNat : Int)] w fun e w' => e = .returned .nilIface ∧ IsBuf B b (l ++ [c]) w' ∧ Below B w w' := by
  refine (write_any B b (Lib.byteCells l) c.toNat w h (by rw [Lib.byteCells_length]; exact hlen) hBw).mono ?_
  rintro e w' ⟨he, h1, h2⟩
  refine ⟨he, .inr ?_, h2⟩
  have : Lib.byteCells (l ++ [c]) = Lib.byteCells l ++ [.int .u8 (c.toNat : Int)] := by simp [Lib.byteCells]
  rw [this]
  exact h1
end Go.Proofs.YtcneefmaghoejaaGreatDoor
namespace Go.Proofs.YtcneefmaghoejaaGreatDoor
open Go.ChangeShapes Go.WideShapes Go.ChangeAt Go.RowKit Go.Shelf
set_option linter.unusedVariables false
set_option linter.unusedSimpArgs false
def more (acc : List UInt8) (x : Option (List UInt8 × List UInt8)) : Option (List UInt8 × List UInt8) := x.map fun y => (acc ++ y.1, y.2)
theorem more_nil (x : Option (List UInt8 × List UInt8)) : more [] x = x := by cases x <;> rfl
theorem text_other {c : UInt8} (h : c ≠ 39) (r acc : List UInt8) : more acc (textL (c :: r)) = more (acc ++ [c]) (textL r) := by
  cases r with
  | nil => simp [textL, h, more]
  | cons d r =>
    simp only [textL, if_neg h, more]
    cases textL (d :: r) <;> simp
theorem text_two (r acc : List UInt8) : more acc (textL (39 :: 39 :: r)) = more (acc ++ [39]) (textL r) := by
  simp only [textL, more, if_true]
  cases textL r <;> simp
theorem text_end {r : List UInt8} (h : r.head? ≠ some 39) (acc : List UInt8) : more acc (textL (39 :: r)) = some (acc, r) := by
  cases r with
  | nil => simp [textL, more]
  | cons d r =>
    have : d ≠ 39 := fun e => h (by rw [e]; rfl)
    simp [textL, this, more]
theorem builder_string (B b : Nat) (l : List UInt8) (w : World) (h : IsBuf B b l w) (hB : B ≤ w.heap.size) : Calls Tryz.prog 97 #[.pointer (some ⟨b, 0, none⟩)] w fun e w' => e = .returned (.string ⟨l.toArray⟩) ∧ Below B w w' := Tryz.Builder_String_any B b l w h hB
structure TextAt (s : ByteArray) (g at_ : Nat) (w : World) (acc : List UInt8) (w' : World) : Prop where
  at_ : At s g w at_ w'
  buf : IsBuf (w.heap.size + 1) (w.heap.size + 1) acc w'
  res : Blk w' w.heap.size 46 #[.int .u8 0, .string ⟨#[]⟩, .int .i64 0, .int .i64 0]
theorem At.under {s : ByteArray} {g a B : Nat} {w w1 w2 : World} (h : At s g w a w1) (hb : Below B w1 w2) (hg : g < B) (hB : w.heap.size ≤ B) : At s g w a w2 :=
  ⟨h.1.below hb hg, hb.os.trans h.2.os, hb.tape.trans h.2.tape, hb.output.trans h.2.output, Nat.le_trans h.2.size hb.size, fun k hk hkg => (hb.block k (by omega)).trans (h.2.block k hk hkg)⟩
theorem TextAt.size {s : ByteArray} {g at_ : Nat} {w w' : World} {acc : List UInt8} (h : TextAt s g at_ w acc w') : w.heap.size + 1 ≤ w'.heap.size := h.res.lt
theorem TextAt.next {s : ByteArray} {g at_ : Nat} {w w' w'' : World} {acc acc' : List UInt8} (h : TextAt s g at_ w acc w') (hg : g < w.heap.size) (hb : Below (w.heap.size + 1) w' w'') (hbuf : IsBuf (w.heap.size + 1) (w.heap.size + 1) acc' w'') : TextAt s g at_ w acc' w'' :=
  ⟨h.at_.under hb (by omega) (by omega), hbuf, h.res.below hb (by omega)⟩
set_option maxHeartbeats 4000000 in
set_option maxRecDepth 100000 in
theorem text_any (s : ByteArray) (g at_ : Nat) (w : World) (hL : Blk w g 77 (lexV s at_)) (r : List UInt8) (hd : s.data.toList.drop at_ = 39 :: r) (hs : s.size ≤ 4294967280) :
    Calls Tryz.prog 64 #[.pointer (some ⟨g, 0, none⟩)] w (readP s g at_ w (oneL (39 :: r))) := by
  have ha : at_ < s.size := by
    rcases Nat.lt_or_ge at_ s.size with h | h
    · exact h
    · rw [List.drop_eq_nil_of_le (by simpa using h)] at hd; cases hd
  have hr : r = s.data.toList.drop (at_ + 1) := by
    rw [← List.drop_drop, hd]; rfl
  subst hr
  have hone : oneL (39 :: s.data.toList.drop (at_ + 1)) = match more [] (textL (s.data.toList.drop (at_ + 1))) with
      | some (t, rest) => .ok (⟨3, t, 0⟩, rest)
      | none => .error 30 := by
    rw [more_nil]
    have h1 : letterB 39 = false := by decide
    have h2 : digitB 39 = false := by decide
    simp only [oneL, h1, h2]
    rfl
  obtain ⟨c0, c1⟩ := lex_cells hL
  have hlt := hL.lt
  have hne : w.heap.size ≠ g := by omega
  generalize oneL (39 :: s.data.toList.drop (at_ + 1)) = R at *
  have HONE := Lib.hid hone
  have HDR := Lib.hid hd
  clear hone hd
  go_enter Tryz.func64, Tryz.ntmps64
  go_wp2_with fail
  have hT : TextAt s g at_ w [] ((w.alloc (.cells #[.int .u8 0, .string ⟨#[]⟩, .int .i64 0, .int .i64 0] 46)).alloc (.cells #[.pointer none, .slice none 0 0] 124)) := by
    refine ⟨(At.refl hL).later (((Below.refl _ _).alloc (Nat.le_refl _) _).alloc (by simp) _), .inl ⟨Nat.le_refl _, .slice none 0 0, ?_, ⟨rfl, .inl ⟨rfl, rfl⟩⟩, by simp [Value.ownBlock]⟩, (Blk.new w _ _).alloc _⟩
    have := heap_alloc_new (w.alloc (.cells #[.int .u8 0, .string ⟨#[]⟩, .int .i64 0, .int .i64 0] 46)) (.cells #[.pointer none, .slice none 0 0] 124)
    simpa using this
  generalize (w.alloc (.cells #[.int .u8 0, .string ⟨#[]⟩, .int .i64 0, .int .i64 0] 46)).alloc (.cells #[.pointer none, .slice none 0 0] 124) = W at *
  clear c0 c1
  obtain ⟨c0, c1⟩ := lex_cells hT.at_.1
  have HT := Lib.hid hT
  clear hT
  go_wp2_with fail
  go_loopw [5] (fun u wr => ∃ (k : Nat) (acc : List UInt8), k ≤ s.size ∧ acc.length ≤ k ∧ u = .int .i64 k ∧ TextAt s g at_ w acc wr ∧ more [] (textL (s.data.toList.drop (at_ + 1))) = more acc (textL (s.data.toList.drop k))) (fun u _ => s.size - (intOf u).toNat)
  case atStart => exact ⟨at_ + 1, [], ha, by simp, by go_num, HT.out, rfl⟩
  case round =>
    obtain ⟨k, acc, hk, hacc, rfl, hT, hm⟩ := hrel
    have HM := Lib.hid hm
    clear hm c0 c1
    obtain ⟨c0, c1⟩ := lex_cells hT.at_.1
    have hsz := hT.size
    have HT2 := Lib.hid hT
    clear hT
    have HLEN := Lib.hid (show s.data.toList.length = s.size by simp)
    by_cases hks : k < s.size
    · have HB := Lib.hid (byte_at s k hks)
      by_cases hq : s[k] = 39
      · have HQ := Lib.hid hq
        have t1 : (((s[k].toNat : Nat) : Int) == 39) = true := by rw [hq]; rfl
        clear hq
        by_cases hk1 : k + 1 < s.size
        · have HB1 := Lib.hid (byte_at s (k + 1) hk1)
          have n1 : ¬ ((k : Int) + 1 = s.size) := by omega
          have n2 : (((k : Int) + 1) == (s.size : Int)) = false := by simpa using n1
          by_cases hq1 : s[k + 1] = 39
          · have HQ1 := Lib.hid hq1
            have t2 : (((s[k + 1].toNat : Nat) : Int) == 39) = true := by rw [hq1]; rfl
            have t3 : (((s[k + 1].toNat : Nat) : Int) != 39) = false := by rw [hq1]; rfl
            clear hq1
            go_wp2_with fail
            rw [HQ1.out]
            refine (write_byte _ _ acc 39 _ HT2.out.buf (by omega) hsz).mono ?_
            rintro e w1 ⟨rfl, hb, b1⟩
            go_wp2_with fail
            go_roundw
            case rel =>
              refine ⟨k + 2, acc ++ [39], by omega, by simp; omega, by go_num, HT2.out.next hlt b1 hb, ?_⟩
              rw [HM.out, drop_at HB.out, drop_at HB1.out, HQ.out, HQ1.out, text_two]
            case measure => simp [intOf]; omega
          · have t2 : (((s[k + 1].toNat : Nat) : Int) == 39) = false := by
              rw [beq_eq_false_iff_ne]
              intro h
              exact hq1 (UInt8.toNat_inj.1 (by simpa using (by omega : s[k + 1].toNat = 39)))
            have t3 : (((s[k + 1].toNat : Nat) : Int) != 39) = true := by simpa [bne] using t2
            have HEND := Lib.hid (show (s.data.toList.drop (k + 1)).head? ≠ some 39 by rw [drop_at HB1.out]; simpa using hq1)
            clear hq1
            go_wp2_with fail
            refine (builder_string _ _ acc _ HT2.out.buf hsz).mono ?_
            rintro e w1 ⟨rfl, b1⟩
            have hat := HT2.out.at_.under b1 (by omega) (by omega)
            have HZ3 := Lib.hid (HT2.out.res.below b1 (by omega))
            have HAT := Lib.hid hat
            go_wp2_with fail
            refine (found_any s g at_ (k + 1) 3 ⟨acc.toArray⟩ 0 0 _ HAT.out.1).mono ?_
            rintro e w2 ⟨rfl, hat2⟩
            obtain ⟨z0, z1, z2, z3, y0, y1, y2, y3⟩ := four_facts (hat2.other HZ3.out hne)
            go_wp2_with fail
            refine bodyPost_ret (v := .tuple #[.agg #[.int .u8 3, .string ⟨acc.toArray⟩, .int .i64 0, .int .i64 at_], .int .i64 0]) ?_ rfl ?_
            · simp [results, Tryz.results64, go_sem, z0, z1, z2, z3]
            · rw [HONE.out, HM.out, drop_at HB.out, HQ.out, text_end HEND.out]
              refine ⟨rfl, ?_⟩
              show At s g w (s.size - _) _
              have e : s.size - (s.data.toList.drop (k + 1)).length = k + 1 := by rw [List.length_drop, HLEN.out]; omega
              rw [e]
              exact (((HAT.out.trans hat2).far (Nat.le_refl _) hne 0 _).far (Nat.le_refl _) hne 1 _ |>.far (Nat.le_refl _) hne 2 _ |>.far (Nat.le_refl _) hne 3 _)
        · have n1 : ((k : Int) + 1 = s.size) := by omega
          have n2 : (((k : Int) + 1) == (s.size : Int)) = true := by simpa using n1
          have n3 : s.size = k + 1 := by omega
          have HEND := Lib.hid (show (s.data.toList.drop (k + 1)).head? ≠ some 39 by rw [List.drop_eq_nil_of_le (by rw [HLEN.out]; omega)]; simp)
          have HN3 := Lib.hid n3
          clear n3 n1
          go_wp2_with fail
          refine (builder_string _ _ acc _ HT2.out.buf hsz).mono ?_
          rintro e w1 ⟨rfl, b1⟩
          have hat := HT2.out.at_.under b1 (by omega) (by omega)
          have HZ3 := Lib.hid (HT2.out.res.below b1 (by omega))
          have HAT := Lib.hid hat
          go_wp2_with fail
          refine (found_any s g at_ (k + 1) 3 ⟨acc.toArray⟩ 0 0 _ HAT.out.1).mono ?_
          rintro e w2 ⟨rfl, hat2⟩
          obtain ⟨z0, z1, z2, z3, y0, y1, y2, y3⟩ := four_facts (hat2.other HZ3.out hne)
          go_wp2_with fail
          refine bodyPost_ret (v := .tuple #[.agg #[.int .u8 3, .string ⟨acc.toArray⟩, .int .i64 0, .int .i64 at_], .int .i64 0]) ?_ rfl ?_
          · simp [results, Tryz.results64, go_sem, z0, z1, z2, z3]
          · rw [HONE.out, HM.out, drop_at HB.out, HQ.out, text_end HEND.out]
            refine ⟨rfl, ?_⟩
            show At s g w (s.size - _) _
            have e : s.size - (s.data.toList.drop (k + 1)).length = k + 1 := by rw [List.length_drop, HLEN.out]; omega
            rw [e]
            exact (((HAT.out.trans hat2).far (Nat.le_refl _) hne 0 _).far (Nat.le_refl _) hne 1 _ |>.far (Nat.le_refl _) hne 2 _ |>.far (Nat.le_refl _) hne 3 _)
      · have HQ := Lib.hid hq
        have t1 : (((s[k].toNat : Nat) : Int) == 39) = false := by
          rw [beq_eq_false_iff_ne]
          intro h
          exact hq (UInt8.toNat_inj.1 (by simpa using (by omega : s[k].toNat = 39)))
        clear hq
        go_wp2_with fail
        refine (write_byte _ _ acc s[k] _ HT2.out.buf (by omega) hsz).mono ?_
        rintro e w1 ⟨rfl, hb, b1⟩
        go_wp2_with fail
        go_roundw
        case rel =>
          refine ⟨k + 1, acc ++ [s[k]], by omega, by simp; omega, by go_num, HT2.out.next hlt b1 hb, ?_⟩
          rw [HM.out, drop_at HB.out, text_other HQ.out]
        case measure => simp [intOf]; omega
    · have HNIL := Lib.hid (show s.data.toList.drop k = [] by rw [List.drop_eq_nil_of_le (by rw [HLEN.out]; omega)])
      obtain ⟨z0, z1, z2, z3, y0, y1, y2, y3⟩ := four_facts HT2.out.res
      go_wp2_with fail
      refine bodyPost_ret (v := .tuple #[.agg #[.int .u8 0, .string ⟨#[]⟩, .int .i64 0, .int .i64 0], .int .i64 30]) ?_ rfl ?_
      · simp [results, Tryz.results64, go_sem, z0, z1, z2, z3]
      · rw [HONE.out, HM.out, HNIL.out]
        exact ⟨rfl, (((HT2.out.at_.far (Nat.le_refl _) hne 0 _).far (Nat.le_refl _) hne 1 _ |>.far (Nat.le_refl _) hne 2 _ |>.far (Nat.le_refl _) hne 3 _))⟩
end Go.Proofs.YtcneefmaghoejaaGreatDoor
namespace Go.Proofs.YtcneefmaghoejaaGreatDoor
open Go.ChangeShapes Go.WideShapes Go.ChangeAt Go.RowKit Go.Shelf
set_option linter.unusedVariables false
set_option linter.unusedSimpArgs false
set_option maxHeartbeats 4000000 in
set_option maxRecDepth 100000 in
theorem word_any (s : ByteArray) (g at_ : Nat) (w : World) (hL : Blk w g 77 (lexV s at_)) (c : UInt8) (r : List UInt8) (hd : s.data.toList.drop at_ = c :: r) (hc : letterB c = true) (hs : s.size ≤ 4294967280) :
    Calls Tryz.prog 61 #[.pointer (some ⟨g, 0, none⟩)] w (readP s g at_ w (oneL (c :: r))) := by
  have ha : at_ ≤ s.size := by
    rcases Nat.lt_or_ge s.size at_ with h | h
    · rw [List.drop_eq_nil_of_le (by simp; omega)] at hd; cases hd
    · exact h
  have hone : oneL (c :: r) = if ((c :: r).takeWhile wordB).length ≤ 32 then .ok (⟨1, ((c :: r).takeWhile wordB).map lowB, 0⟩, (c :: r).dropWhile wordB) else .error 2 := by
    simp only [oneL, if_pos hc]
  rw [hone, ← hd, ← far_len]
  have HDR := Lib.hid hd
  clear hd hone
  obtain ⟨c0, c1⟩ := lex_cells hL
  have hlt := hL.lt
  have hle := farN_le wordB s.data.toList at_ (by simpa using ha)
  have hge := farN_ge wordB s.data.toList at_
  have HE := Lib.hid (extract_far wordB s at_)
  have HR := Lib.hid (far_rest wordB s ha)
  simp at hle
  by_cases hl : farN wordB s.data.toList at_ - at_ ≤ 32
  · rw [if_pos hl]
    go_enter Tryz.func61, Tryz.ntmps61
    go_wp2_with fail
    refine (far_any word_asks s at_ at_ g _ (hL.alloc _) ha hs).mono ?_
    rintro e w' ⟨rfl, rfl⟩
    generalize hk : farN wordB s.data.toList at_ = k at *
    have HK := Lib.hid hk
    clear hk
    have g1 := decide_eq_false (show ¬ (32 : Int) < (k : Int) - at_ by omega)
    go_wp2_with fail
    have HX1 := Lib.hid (show (s.extract at_ k).size ≤ 4294967280 by rw [ByteArray.size_extract]; omega)
    have HX2 := Lib.hid (show ∀ c ∈ (s.extract at_ k).data.toList, wordB c = true by rw [HE.out]; exact tw_word _)
    have HA := Lib.hid (hL.alloc (.cells #[.int .u8 0, .string ⟨#[]⟩, .int .i64 0, .int .i64 0] 46))
    have bb := later_new w (.cells #[.int .u8 0, .string ⟨#[]⟩, .int .i64 0, .int .i64 0] 46)
    have HZ := Lib.hid (Blk.new w 46 #[.int .u8 0, .string ⟨#[]⟩, .int .i64 0, .int .i64 0])
    have hne : w.heap.size ≠ g := by omega
    go_region_with (first
      | (go_at_call 95; refine (toLower_word HX1.out HX2.out _).mono ?_; rintro e w1 ⟨rfl, b1⟩)
      | (go_at_call 94; refine (found_any s g at_ k _ _ _ _ _ (HA.out.drew.later b1)).mono ?_; rintro e w2 ⟨rfl, hat⟩; obtain ⟨z0, z1, z2, z3, y0, y1, y2, y3⟩ := four_facts (hat.other (HZ.out.drew.later b1) hne)))
    all_goals
      go_wp2_with fail
      refine bodyPost_ret (v := .tuple #[.agg #[.int .u8 1, .string ⟨((s.extract at_ k).data.toList.map lowB).toArray⟩, .int .i64 0, .int .i64 at_], .int .i64 0]) ?_ rfl ?_
      · simp [results, Tryz.results61, go_sem, z0, z1, z2, z3]
      · rw [HE.out]
        refine ⟨rfl, ?_⟩
        show At s g w (s.size - _) _
        rw [HR.out]
        exact (((((((At.refl hL).later bb).later (Below.refl _ _).drew).later b1).trans hat).far (Nat.le_refl _) hne 0 _).far (Nat.le_refl _) hne 1 _ |>.far (Nat.le_refl _) hne 2 _ |>.far (Nat.le_refl _) hne 3 _)
  · rw [if_neg hl]
    go_enter Tryz.func61, Tryz.ntmps61
    go_wp2_with fail
    refine (far_any word_asks s at_ at_ g _ (hL.alloc _) ha hs).mono ?_
    rintro e w' ⟨rfl, rfl⟩
    generalize hk : farN wordB s.data.toList at_ = k at *
    have HK := Lib.hid hk
    clear hk
    have g1 := decide_eq_true (show (32 : Int) < (k : Int) - at_ by omega)
    go_wp2_with fail
    refine bodyPost_ret (v := .tuple #[.agg #[.int .u8 0, .string ⟨#[]⟩, .int .i64 0, .int .i64 0], .int .i64 2]) ?_ rfl ⟨rfl, ?_⟩
    · simp [results, Tryz.results61, go_sem]
    · exact (At.refl hL).later ((Below.refl _ _).alloc (Nat.le_refl _) _)
end Go.Proofs.YtcneefmaghoejaaGreatDoor
namespace Go.Proofs.YtcneefmaghoejaaGreatDoor
open Go.ChangeShapes Go.WideShapes Go.ChangeAt Go.RowKit Go.Shelf
set_option linter.unusedVariables false
set_option linter.unusedSimpArgs false
theorem fields_any (s : ByteArray) (l : List (List UInt8)) (hl : Lib.fields s.data.toList = l) (hs : s.size < 4294967281) (hascii : s.data.toList.all (fun b => b.toNat < 128) = true) {B : Nat} {w : World} (hE : Env B w) :
    Calls Tryz.prog 99 #[.string s] w fun e w' => e = .returned (.slice (some ⟨w.heap.size, 0, none⟩) l.length l.length) ∧ w' = w.alloc (.cells (l.map fun l => Value.string ⟨l.toArray⟩).toArray 9) := by
  refine (Tryz.strings_Fields s w hs (fun j b hb => of_decide_eq_true (List.all_eq_true.1 hascii b (List.mem_of_getElem? hb))) hE.lib.space).mono ?_
  rintro e w' ⟨rfl, rfl⟩
  rw [hl]
  exact ⟨rfl, rfl⟩
theorem drewN_more (w : World) (a b : Nat) : (w.drewN a).drewN b = w.drewN (a + b) := by simp [World.drewN, Nat.add_assoc]
def signsS : ByteArray := ⟨#[60, 62, 32, 60, 61, 32, 62, 61, 32, 40, 32, 41, 32, 44, 32, 42, 32, 43, 32, 45, 32, 47, 32, 37, 32, 61, 32, 60, 32, 62, 32, 59]⟩
theorem signs_fields : Lib.fields signsS.data.toList = signs := by decide +kernel
theorem sign_at {i : Nat} (hi : i < 15) : ∃ x, signs[i]? = some x ∧ signs.drop i = x :: signs.drop (i + 1) ∧ 1 ≤ x.length ∧ x.length ≤ 2 := by
  have key : ∀ i, i < 15 → ∃ x, signs[i]? = some x ∧ 1 ≤ x.length ∧ x.length ≤ 2 := by
    intro i hi
    match i, hi with
    | 0, _ | 1, _ | 2, _ | 3, _ | 4, _ | 5, _ | 6, _ | 7, _ | 8, _ | 9, _ | 10, _ | 11, _ | 12, _ | 13, _ | 14, _ => exact ⟨_, rfl, by decide, by decide⟩
    | n + 15, h => omega
  obtain ⟨x, h1, h2, h3⟩ := key i hi
  refine ⟨x, h1, ?_, h2, h3⟩
  have hlt : i < signs.length := hi
  rw [List.drop_eq_getElem_cons hlt]
  rw [List.getElem?_eq_getElem hlt] at h1
  injection h1 with h1
  rw [h1]
set_option maxHeartbeats 4000000 in
set_option maxRecDepth 100000 in
theorem sign_any (B : Nat) (s : ByteArray) (g at_ : Nat) (w : World) (hE : Env B w) (hB : B ≤ g) (hL : Blk w g 77 (lexV s at_)) (c : UInt8) (r : List UInt8) (hd : s.data.toList.drop at_ = c :: r) (h1 : letterB c = false) (h2 : digitB c = false) (h3 : c ≠ 39) (hs : s.size ≤ 4294967280) :
    Calls Tryz.prog 65 #[.pointer (some ⟨g, 0, none⟩)] w (readP s g at_ w (oneL (c :: r))) := by
  have ha : at_ < s.size := by
    rcases Nat.lt_or_ge at_ s.size with h | h
    · exact h
    · rw [List.drop_eq_nil_of_le (by simpa using h)] at hd; cases hd
  have hone : oneL (c :: r) = match signIn signs (s.data.toList.drop at_) with
      | some x => .ok (⟨4, x, 0⟩, (s.data.toList.drop at_).drop x.length)
      | none => .error 30 := by
    rw [hd]
    simp only [oneL, h1, h2, if_neg h3]
    rfl
  obtain ⟨c0, c1⟩ := lex_cells hL
  have hlt := hL.lt
  have hne : w.heap.size ≠ g := by omega
  generalize oneL (c :: r) = R at *
  have HONE := Lib.hid hone
  clear hone hd
  go_enter Tryz.func65, Tryz.ntmps65
  go_wp2_with fail
  have bb := later_new w (.cells #[.int .u8 0, .string ⟨#[]⟩, .int .i64 0, .int .i64 0] 46)
  refine (fields_any signsS signs signs_fields (by decide +kernel) (by decide +kernel) (hE.later bb)).mono ?_
  rintro e w1 ⟨rfl, rfl⟩
  have HZ := Lib.hid ((Blk.new w 46 #[.int .u8 0, .string ⟨#[]⟩, .int .i64 0, .int .i64 0]).alloc (.cells (signs.map fun l => Value.string ⟨l.toArray⟩).toArray 9))
  have HS := Lib.hid (Blk.new (w.alloc (.cells #[.int .u8 0, .string ⟨#[]⟩, .int .i64 0, .int .i64 0] 46)) 9 (signs.map fun l => Value.string ⟨l.toArray⟩).toArray)
  have hat : At s g w at_ ((w.alloc (.cells #[.int .u8 0, .string ⟨#[]⟩, .int .i64 0, .int .i64 0] 46)).alloc (.cells (signs.map fun l => Value.string ⟨l.toArray⟩).toArray 9)) := (At.refl hL).later (((Below.refl _ _).alloc (Nat.le_refl _) _).alloc (by simp) _)
  generalize hb : (w.alloc (.cells #[.int .u8 0, .string ⟨#[]⟩, .int .i64 0, .int .i64 0] 46)).heap.size = b at *
  obtain rfl : b = w.heap.size + 1 := by rw [← hb]; simp
  generalize (w.alloc (.cells #[.int .u8 0, .string ⟨#[]⟩, .int .i64 0, .int .i64 0] 46)).alloc (.cells (signs.map fun l => Value.string ⟨l.toArray⟩).toArray 9) = W at *
  clear c0 c1 hb
  have HAT := Lib.hid hat
  have hlen : signs.length = 15 := rfl
  rw [hlen]
  clear hlen hat
  go_wp2_with fail
  go_loopw [8] (fun u wr => ∃ i n : Nat, i ≤ 15 ∧ u = .int .i64 i ∧ wr = W.drewN n ∧ signIn signs (s.data.toList.drop at_) = signIn (signs.drop i) (s.data.toList.drop at_)) (fun u _ => 15 - (intOf u).toNat)
  case atStart => exact ⟨0, 0, by omega, rfl, rfl, rfl⟩
  case round =>
    obtain ⟨i, n, hi, rfl, rfl, hsg⟩ := hrel
    have HSG := Lib.hid hsg
    clear hsg
    by_cases hlt15 : i < 15
    · obtain ⟨x, hx, hdx, hx1, hx2⟩ := sign_at hlt15
      have hcell : (W.drewN n).cell? ⟨w.heap.size + 1, i, none⟩ = some (.string ⟨x.toArray⟩) := by
        rw [(HS.out.drewN n).cell i]
        simp [hx]
      have HATn := Lib.hid (HAT.out.later (drewN_below W n))
      have HZn := Lib.hid (HZ.out.drewN n)
      obtain ⟨c0, c1⟩ := lex_cells HATn.out.1
      generalize hWn : W.drewN n = Wn at *
      have HWN := Lib.hid hWn
      have HX := Lib.hid hx
      have HDX := Lib.hid hdx
      clear hWn hx hdx
      cases hp : Lib.hasPrefix (s.data.toList.drop at_) x
      · have HP := Lib.hid hp
        clear hp
        go_wp2_with fail
        go_quiet ((go_at_call 59; exact Calls.quiet_of_same (prefix_is HP.out _)))
        go_wp2_with fail
        go_roundw
        case rel =>
          refine ⟨i + 1, n + nq, by omega, by go_num, ?_, ?_⟩
          · rw [← HWN.out]
            exact drewN_more W n nq
          · rw [HSG.out, HDX.out, signIn, if_neg]
            have := HP.out
            simp only [Lib.hasPrefix] at this
            rw [this]; decide
        case measure => simp [intOf]; omega
      · have HP := Lib.hid hp
        clear hp
        go_wp2_with fail
        go_quiet ((go_at_call 59; exact Calls.quiet_of_same (prefix_is HP.out _)))
        have HATq := Lib.hid (HATn.out.later (drewN_below Wn nq))
        have HZq := Lib.hid (HZn.out.drewN nq)
        generalize Wn.drewN nq = Wq at *
        clear c0 c1 hcell
        obtain ⟨c0, c1⟩ := lex_cells HATq.out.1
        go_wp2_with fail
        have hcast : ((at_ : Int) + (x.length : Int)) = ((at_ + x.length : Nat) : Int) := by omega
        rw [hcast]
        refine (found_any s g at_ (at_ + x.length) 4 ⟨x.toArray⟩ 0 0 _ HATq.out.1).mono ?_
        rintro e w2 ⟨rfl, hat2⟩
        obtain ⟨z0, z1, z2, z3, y0, y1, y2, y3⟩ := four_facts (hat2.other HZq.out hne)
        clear hcast
        go_wp2_with fail
        refine bodyPost_ret (v := .tuple #[.agg #[.int .u8 4, .string ⟨x.toArray⟩, .int .i64 0, .int .i64 at_], .int .i64 0]) ?_ rfl ?_
        · simp [results, Tryz.results65, go_sem, z0, z1, z2, z3]
        · have e1 : signIn signs (s.data.toList.drop at_) = some x := by
            rw [HSG.out, HDX.out, signIn, if_pos]
            exact HP.out
          rw [HONE.out, e1]
          refine ⟨rfl, ?_⟩
          show At s g w (s.size - _) _
          have e2 : s.size - ((s.data.toList.drop at_).drop x.length).length = at_ + x.length := by
            have h4 : x.length ≤ (s.data.toList.drop at_).length := by
              have := HP.out
              simp only [Lib.hasPrefix, List.isPrefixOf_iff_prefix] at this
              exact this.length_le
            rw [List.length_drop] at h4 ⊢
            simp at h4 ⊢
            omega
          rw [e2]
          exact (((HATq.out.trans hat2).far (Nat.le_refl _) hne 0 _).far (Nat.le_refl _) hne 1 _ |>.far (Nat.le_refl _) hne 2 _ |>.far (Nat.le_refl _) hne 3 _)
    · obtain rfl : i = 15 := by omega
      have HATn := Lib.hid (HAT.out.later (drewN_below W n))
      have HZn := Lib.hid (HZ.out.drewN n)
      generalize W.drewN n = Wn at *
      obtain ⟨z0, z1, z2, z3, y0, y1, y2, y3⟩ := four_facts HZn.out
      go_wp2_with fail
      refine bodyPost_ret (v := .tuple #[.agg #[.int .u8 0, .string ⟨#[]⟩, .int .i64 0, .int .i64 0], .int .i64 30]) ?_ rfl ?_
      · simp [results, Tryz.results65, go_sem, z0, z1, z2, z3]
      · rw [HONE.out, HSG.out]
        exact ⟨rfl, (((HATn.out.far (Nat.le_refl _) hne 0 _).far (Nat.le_refl _) hne 1 _ |>.far (Nat.le_refl _) hne 2 _ |>.far (Nat.le_refl _) hne 3 _))⟩
end Go.Proofs.YtcneefmaghoejaaGreatDoor
