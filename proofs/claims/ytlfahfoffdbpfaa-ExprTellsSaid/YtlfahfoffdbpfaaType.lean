/- expr.Type of an operation whose arguments have types. Printed by gen_type.py. -/
import Derived.Test.YtlfahfoffdbpfaaEval1
namespace Go.Proofs.Ytlfahfoffdbpfaa
open Go.ChangeShapes Go.WideShapes Go.ChangeAt Go.RowKit
set_option linter.unusedVariables false
set_option linter.unusedSimpArgs false

def typeR (x : Ex) (ts : List Int) : Int × Int :=
  if formE x ≠ 0 then (0, formE x) else if x.op = 1 then (x.v.k, 0) else if suitsB x.op ts = false then (0, 40) else (givesN x.op, 0)
/-- an expression has the type t, in every world that is later than w -/
def TypeIs (w : World) (cV : Value) (y : Ex) (t : Int) : Prop := ∀ W, Below w.heap.size w W → Calls Try.prog 21 #[.agg #[.int .u8 y.op, .int .u8 y.v.k, .int .i64 y.v.n, .string y.v.s, .string y.name, .int .i64 y.width, .slice y.A y.n y.c], cV] W fun en w' => en = .returned (.tuple #[.int .u8 t, .int .i64 0]) ∧ Below W.heap.size W w'

set_option maxHeartbeats 3000000 in
set_option maxRecDepth 100000 in
theorem type_op2 (op : Int) (xv : Val) (name : ByteArray) (width : Int) (A : Option Addr) (c : Nat) (cV : Value) (args : List (Ex × Int)) (hop2 : op ≠ 2 ∨ args ≠ []) (w : World) (hl : args.length ≤ 1599289640356) (hA : RE w w.heap.size A (args.map (·.1))) (hE : ∀ a ∈ args, TypeIs w cV a.1 a.2) :
    Calls Try.prog 21 #[.agg #[.int .u8 op, .int .u8 xv.k, .int .i64 xv.n, .string xv.s, .string name, .int .i64 width, .slice A args.length c], cV] w fun en w' => en = .returned (.tuple #[.int .u8 (typeR ⟨op, xv, name, width, A, args.length, c⟩ (args.map (·.2))).1, .int .i64 (typeR ⟨op, xv, name, width, A, args.length, c⟩ (args.map (·.2))).2]) ∧ Below w.heap.size w w' := by
  have HOP2 := Lib.hid hop2
  have HA := Lib.hid hA
  have HE := Lib.hid hE
  clear hA hE hop2
  go_enter Try.func21, Try.ntmps21
  have hX := Blk.new w 36 #[.int .u8 op, .int .u8 xv.k, .int .i64 xv.n, .string xv.s, .string name, .int .i64 width, .slice A args.length c]
  have x6 := hX.cell 6
  simp only [List.getElem?_toArray, List.getElem?_cons_zero, List.getElem?_cons_succ] at x6
  go_wp2_with fail
  have hB := later_new w (.cells #[.int .u8 op, .int .u8 xv.k, .int .i64 xv.n, .string xv.s, .string name, .int .i64 width, .slice A args.length c] 36)
  clear x6
  generalize w.alloc (.cells #[.int .u8 op, .int .u8 xv.k, .int .i64 xv.n, .string xv.s, .string name, .int .i64 width, .slice A args.length c] 36) = W at *
  go_loopw [6, 17] (fun kv i wr => ∃ k : Nat, k ≤ args.length ∧ i = .int .i64 k ∧ OwnF kindCell 5 1 wr W.heap.size kv ((args.take k).map (·.2)) ∧ Below W.heap.size W wr) (fun _ i _ => args.length - (intOf i).toNat)
  case atStart => exact ⟨0, Nat.zero_le _, rfl, OwnF.nil, Below.refl _ _⟩
  case round =>
    obtain ⟨k, hk, rfl, hK, hb⟩ := hrel
    have HK := Lib.hid hK
    clear hK
    rcases Nat.lt_or_ge k args.length with hlt | hge
    · obtain ⟨b, off, rfl, hbb, hex⟩ := (HA.out.below (hB.trans (hb.mono hB.size))).at_ (show k < (args.map (·.1)).length by simpa using hlt)
      have he1 : (args.map (·.1))[k]'(by simpa using hlt) = args[k].1 := by simp
      rw [he1] at hex
      clear he1
      have hev := HE.out args[k] (List.getElem_mem hlt)
      have HT := Lib.hid (show args.take (k + 1) = args.take k ++ [args[k]] by rw [List.take_add_one, List.getElem?_eq_getElem hlt]; rfl)
      generalize args[k] = yv at *
      obtain ⟨y, v⟩ := yv
      dsimp only at *
      unfold ExAt at hex
      go_wp2_with fail
      have bY := later_new wr (.cells #[.int .u8 y.op, .int .u8 y.v.k, .int .i64 y.v.n, .string y.v.s, .string y.name, .int .i64 y.width, .slice y.A y.n y.c] 36)
      refine (hev _ (hB.trans ((Later.then hb bY).mono hB.size))).mono ?_
      rintro e w1 ⟨rfl, b1⟩
      have hb1 := Later.then bY b1
      have bN := later_new w1 (.cells #[.int .u8 v] 5)
      have hG := Blk.new w1 5 #[.int .u8 v]
      have hb2 := Later.then hb1 bN
      replace HK := Lib.hid (HK.out.later hb2)
      replace hb := Later.then hb hb2
      have hlenk : ((args.take k).map (·.2)).length ≤ 1599289640356 := by simp; omega
      generalize hks : (args.take k).map (·.2) = ks at *
      have HKS := Lib.hid hks
      have HG := Lib.hid hG
      have hbase := hb.size
      clear hks hG hb2 hb1 b1 bY bN hev hex
      go_wp2_with (first
        | (at_builtin
           refine wpList_append_one rfl (.tmp 30) (.tmp 32) 57 rfl _ 1 Try.underlying57 u8_info rfl (by omega) v rfl (by simp [kindCell, Value.oneCell']) rfl HK.out w1.heap.size rfl HG.out (by omega) (by omega) hbase ?_
           intro v4 w4 o4 g4
           have b4 := below_own HK.out g4 hbase
           have O4 := Lib.hid o4
           clear o4 g4 HK HG))
      go_roundw
      case rel =>
        refine ⟨k + 1, hlt, by go_num, ?_, hb.trans b4⟩
        rw [HT.out, List.map_append, HKS.out]; exact O4.out
      case measure => simp [intOf]; omega
    · have htk : args.take k = args := List.take_of_length_le hge
      rw [htk] at HK
      clear htk
      obtain ⟨A9, c9, hu9, hKC⟩ := own_cells (f := kindCell) (size := 1) (fun _ => rfl) HK.out
      rw [List.length_map] at hu9
      subst hu9
      have hX2 := hX.later hb
      have hB2 := Later.then hB hb
      clear HK hX hB
      have HKC := Lib.hid hKC
      clear hKC
      have x0 := hX2.cell 0
      have x1 := hX2.cell 1
      have x2 := hX2.cell 2
      have x3 := hX2.cell 3
      have x4 := hX2.cell 4
      have x5 := hX2.cell 5
      have x6 := hX2.cell 6
      simp only [List.getElem?_toArray, List.getElem?_cons_zero, List.getElem?_cons_succ] at x0 x1 x2 x3 x4 x5 x6
      go_wp2_with fail
      refine (form_any ⟨op, xv, name, width, A, args.length, c⟩ _).mono ?_
      rintro e w1 ⟨oo, rfl, hOI, b1⟩
      clear x0 x1 x2 x3 x4 x5 x6
      obtain ⟨a, wa, gi, al, nu, d, rfl, _, hd⟩ := hOI.shape
      have hd1 : d.oneCell' = true := by rcases hd with rfl | ⟨F, C, rfl⟩ <;> rfl
      have hst := fun (u : Addr) (m : Mode) (w : World) => run_store Try.prog w u d m hd1
      unfold opArr
      have b2 := Later.then b1 (later_new w1 (.cells #[.int .i64 a, .int .u8 wa, .int .u8 gi, .bool al, .bool nu, d] 60))
      replace hX2 := hX2.later b2
      replace hB2 := Later.then hB2 b2
      have hO2 := Blk.new w1 60 #[.int .i64 a, .int .u8 wa, .int .u8 gi, .bool al, .bool nu, d]
      have HOI := Lib.hid (hOI.later (later_new w1 (.cells #[.int .i64 a, .int .u8 wa, .int .u8 gi, .bool al, .bool nu, d] 60)))
      have HKB := Lib.hid b2
      clear hOI b1 b2 hd
      generalize hfe : formE ⟨op, xv, name, width, A, args.length, c⟩ = fe
      have HFE := Lib.hid hfe
      clear hfe
      have x0 := hX2.cell 0
      have x1 := hX2.cell 1
      have x6 := hX2.cell 6
      have o0 := hO2.cell 0
      have o1 := hO2.cell 1
      have o2 := hO2.cell 2
      have o3 := hO2.cell 3
      have o4 := hO2.cell 4
      have o5 := hO2.cell 5
      simp only [List.getElem?_toArray, List.getElem?_cons_zero, List.getElem?_cons_succ] at x0 x1 x6 o0 o1 o2 o3 o4 o5
      by_cases hf : fe = 0
      · subst hf
        by_cases h1 : op = 1
        · have HR := Lib.hid (show typeR ⟨op, xv, name, width, A, args.length, c⟩ (args.map (·.2)) = (xv.k, 0) by unfold typeR; rw [if_neg (by rw [HFE.out]; simp), if_pos h1])
          have t1 : (op == 1) = true := by simpa using h1
          clear h1
          go_wp2_with fail
          exact bodyPost_ret (v := .tuple #[.int .u8 xv.k, .int .i64 0]) (by simp [results, Try.results21, go_sem]) rfl ⟨by rw [HR.out], hB2⟩
        · have t1 : (op == 1) = false := by simpa using h1
          have hop2' : op ≠ 2 := by
            intro e2
            rcases HOP2.out with h | h
            · exact h e2
            · exact h (formE_two HFE.out e2)
          have t2 : (op == 2) = false := by simpa using hop2'
          obtain ⟨hiso, hnargs, hwd⟩ := formE_zero HFE.out hop2' h1
          clear hop2'
          dsimp only at hiso hnargs hwd
          have hopr : 3 ≤ op ∧ op ≤ 20 := by simpa [isOp] using hiso
          have hcast : ((op.toNat : Nat) : Int) = op := by omega
          have hOp : OpIs (w1.alloc (.cells #[.int .i64 a, .int .u8 wa, .int .u8 gi, .bool al, .bool nu, d] 60)) op.toNat (.agg (opArr a wa gi al nu d)) := by
            rcases HOI.out with ⟨_, h⟩ | ⟨h, _⟩
            · exact h
            · dsimp only at h; rw [hiso] at h; cases h
          have hfl := hOp.fields
          rw [hcast] at hfl
          obtain ⟨hwa, hgi, hal, hnu⟩ := hfl
          have HWA := Lib.hid hwa
          have HAL := Lib.hid hal
          have HGI := Lib.hid hgi
          have hn12 : args.length = 1 ∧ al = false ∨ args.length = 2 := by
            rw [hal]
            unfold argsN at hnargs
            split at hnargs
            · left
              refine ⟨by omega, ?_⟩
              simp [alikeB]
              omega
            · right; omega
          have H1 := Lib.hid h1
          have HEQ : Hid (∀ r, (if suitsB op (args.map (·.2)) = false then (0, 40) else (givesN op, 0)) = r → typeR ⟨op, xv, name, width, A, args.length, c⟩ (args.map (·.2)) = r) := fun r hr => by
            unfold typeR
            rw [if_neg (by rw [HFE.out]; simp), if_neg H1.out]
            exact hr
          clear hwa hal hnu hgi hnargs hiso hopr hOp HOI hwd h1 HFE
          rcases hn12 with ⟨hlen, rfl⟩ | hlen
          · obtain ⟨⟨y1, v1⟩, rfl⟩ := len1 hlen
            clear hlen
            simp only [List.map_cons, List.map_nil, List.length_cons, List.length_nil, Nat.zero_add, Nat.reduceAdd] at *
            have hkc := HKC.out
            clear HKC
            rcases hkc with hkc | ⟨g9, rfl, hg9, hkc⟩
            · simp at hkc
            have kc1 := (HKB.out.cell (p := ⟨g9, 0, none⟩) hg9).trans (hkc 0 v1 0 _ rfl (by omega) rfl)
            have hg9' := Nat.lt_of_lt_of_le hg9 HKB.out.size
            clear hkc HKB
            go_wp2_with fail
            refine (suits_one a wa gi nu d hd1 g9 0 c9 v1 _ hg9' kc1).mono ?_
            rintro e w3 ⟨rfl, b3⟩
            clear x0 x1 x6 o0 o1 o2 o3 o4 o5
            replace hX2 := hX2.later b3
            replace hO2 := hO2.later b3
            replace hB2 := Later.then hB2 b3
            clear b3
            have HSB : Hid (suitsB op [v1] = goes2 v1 wa) := by have z1 := HWA.out; have z2 := HAL.out; show suitsB _ _ = _; simp only [suitsB, ← z1, ← z2]
            cases hs : goes2 v1 wa
            · have HQ := Lib.hid (HEQ.out (0, 40) (by rw [HSB.out, hs, if_pos rfl]))
              have x0 := hX2.cell 0
              have x1 := hX2.cell 1
              have x6 := hX2.cell 6
              have o0 := hO2.cell 0
              have o1 := hO2.cell 1
              have o2 := hO2.cell 2
              have o3 := hO2.cell 3
              have o4 := hO2.cell 4
              have o5 := hO2.cell 5
              simp only [List.getElem?_toArray, List.getElem?_cons_zero, List.getElem?_cons_succ] at x0 x1 x6 o0 o1 o2 o3 o4 o5
              go_wp2_with fail
              exact bodyPost_ret (v := .tuple #[.int .u8 0, .int .i64 40]) (by simp [results, Try.results21, go_sem]) rfl ⟨congrArg (fun r : Int × Int => Ending.returned (.tuple #[.int .u8 r.1, .int .i64 r.2])) HQ.out.symm, hB2⟩
            · have HQ := Lib.hid (HEQ.out (gi, 0) (by rw [HSB.out, hs, if_neg (by simp), HGI.out]))
              have x0 := hX2.cell 0
              have x1 := hX2.cell 1
              have x6 := hX2.cell 6
              have o0 := hO2.cell 0
              have o1 := hO2.cell 1
              have o2 := hO2.cell 2
              have o3 := hO2.cell 3
              have o4 := hO2.cell 4
              have o5 := hO2.cell 5
              simp only [List.getElem?_toArray, List.getElem?_cons_zero, List.getElem?_cons_succ] at x0 x1 x6 o0 o1 o2 o3 o4 o5
              go_wp2_with fail
              exact bodyPost_ret (v := .tuple #[.int .u8 gi, .int .i64 0]) (by simp [results, Try.results21, go_sem]) rfl ⟨congrArg (fun r : Int × Int => Ending.returned (.tuple #[.int .u8 r.1, .int .i64 r.2])) HQ.out.symm, hB2⟩
          · obtain ⟨⟨y1, v1⟩, ⟨y2, v2⟩, rfl⟩ := len2 hlen
            clear hlen
            simp only [List.map_cons, List.map_nil, List.length_cons, List.length_nil, Nat.zero_add, Nat.reduceAdd] at *
            have hkc := HKC.out
            clear HKC
            rcases hkc with hkc | ⟨g9, rfl, hg9, hkc⟩
            · simp at hkc
            have kc1 := (HKB.out.cell (p := ⟨g9, 0, none⟩) hg9).trans (hkc 0 v1 0 _ rfl (by omega) rfl)
            have kc2 := (HKB.out.cell (p := ⟨g9, 1, none⟩) hg9).trans (hkc 1 v2 0 _ rfl (by omega) rfl)
            have hg9' := Nat.lt_of_lt_of_le hg9 HKB.out.size
            clear hkc HKB
            go_wp2_with fail
            refine (suits_two a wa gi al nu d hd1 g9 0 c9 v1 v2 _ hg9' kc1 kc2).mono ?_
            rintro e w3 ⟨rfl, b3⟩
            clear x0 x1 x6 o0 o1 o2 o3 o4 o5
            replace hX2 := hX2.later b3
            replace hO2 := hO2.later b3
            replace hB2 := Later.then hB2 b3
            clear b3
            have HSB : Hid (suitsB op [v1, v2] = (goes2 v1 wa && (goes2 v2 wa && (!al || goes2 v1 v2)))) := by have z1 := HWA.out; have z2 := HAL.out; show suitsB _ _ = _; simp only [suitsB, ← z1, ← z2]
            cases hs : (goes2 v1 wa && (goes2 v2 wa && (!al || goes2 v1 v2)))
            · have HQ := Lib.hid (HEQ.out (0, 40) (by rw [HSB.out, hs, if_pos rfl]))
              have x0 := hX2.cell 0
              have x1 := hX2.cell 1
              have x6 := hX2.cell 6
              have o0 := hO2.cell 0
              have o1 := hO2.cell 1
              have o2 := hO2.cell 2
              have o3 := hO2.cell 3
              have o4 := hO2.cell 4
              have o5 := hO2.cell 5
              simp only [List.getElem?_toArray, List.getElem?_cons_zero, List.getElem?_cons_succ] at x0 x1 x6 o0 o1 o2 o3 o4 o5
              go_wp2_with fail
              exact bodyPost_ret (v := .tuple #[.int .u8 0, .int .i64 40]) (by simp [results, Try.results21, go_sem]) rfl ⟨congrArg (fun r : Int × Int => Ending.returned (.tuple #[.int .u8 r.1, .int .i64 r.2])) HQ.out.symm, hB2⟩
            · have HQ := Lib.hid (HEQ.out (gi, 0) (by rw [HSB.out, hs, if_neg (by simp), HGI.out]))
              have x0 := hX2.cell 0
              have x1 := hX2.cell 1
              have x6 := hX2.cell 6
              have o0 := hO2.cell 0
              have o1 := hO2.cell 1
              have o2 := hO2.cell 2
              have o3 := hO2.cell 3
              have o4 := hO2.cell 4
              have o5 := hO2.cell 5
              simp only [List.getElem?_toArray, List.getElem?_cons_zero, List.getElem?_cons_succ] at x0 x1 x6 o0 o1 o2 o3 o4 o5
              go_wp2_with fail
              exact bodyPost_ret (v := .tuple #[.int .u8 gi, .int .i64 0]) (by simp [results, Try.results21, go_sem]) rfl ⟨congrArg (fun r : Int × Int => Ending.returned (.tuple #[.int .u8 r.1, .int .i64 r.2])) HQ.out.symm, hB2⟩
      · have HR := Lib.hid (show typeR ⟨op, xv, name, width, A, args.length, c⟩ (args.map (·.2)) = (0, fe) by unfold typeR; rw [if_pos (by rw [HFE.out]; exact hf), HFE.out])
        have t1 : (fe != 0) = true := by simpa using hf
        clear hf
        go_wp2_with fail
        exact bodyPost_ret (v := .tuple #[.int .u8 0, .int .i64 fe]) (by simp [results, Try.results21, go_sem]) rfl ⟨by rw [HR.out], hB2⟩

/-- a good literal's type is its value's kind -/
theorem type_op (op : Int) (hop2 : op ≠ 2) (xv : Val) (name : ByteArray) (width : Int) (A : Option Addr) (c : Nat) (cV : Value) (args : List (Ex × Int)) (w : World) (hl : args.length ≤ 1599289640356) (hA : RE w w.heap.size A (args.map (·.1))) (hE : ∀ a ∈ args, TypeIs w cV a.1 a.2) :
    Calls Try.prog 21 #[.agg #[.int .u8 op, .int .u8 xv.k, .int .i64 xv.n, .string xv.s, .string name, .int .i64 width, .slice A args.length c], cV] w fun en w' => en = .returned (.tuple #[.int .u8 (typeR ⟨op, xv, name, width, A, args.length, c⟩ (args.map (·.2))).1, .int .i64 (typeR ⟨op, xv, name, width, A, args.length, c⟩ (args.map (·.2))).2]) ∧ Below w.heap.size w w' :=
  type_op2 op xv name width A c cV args (.inl hop2) w hl hA hE
theorem type_lit (w : World) (cV : Value) (v : Val) (hg : good v = true) : TypeIs w cV ⟨1, v, ByteArray.empty, 0, none, 0, 0⟩ v.k := by
  intro W hb
  have h := type_op 1 (by decide) v ByteArray.empty 0 none 0 cV [] W (by simp) (.inl rfl) (by simp)
  have e : typeR ⟨1, v, ByteArray.empty, 0, none, 0, 0⟩ [] = (v.k, 0) := by
    have f : formE ⟨1, v, ByteArray.empty, 0, none, 0, 0⟩ = 0 := by unfold formE; rw [if_pos (by simp [hg])]
    unfold typeR
    rw [if_neg (by rw [f]; simp), if_pos rfl]
  refine h.mono fun en w' hh => ⟨?_, hh.2⟩
  rw [hh.1]
  show Ending.returned (.tuple #[.int .u8 (typeR ⟨1, v, ByteArray.empty, 0, none, 0, 0⟩ []).1, .int .i64 (typeR ⟨1, v, ByteArray.empty, 0, none, 0, 0⟩ []).2]) = _
  rw [e]
end Go.Proofs.Ytlfahfoffdbpfaa
