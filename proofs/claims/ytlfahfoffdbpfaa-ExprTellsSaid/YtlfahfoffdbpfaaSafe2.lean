/- expr.Safe of any tree. Printed by gen_safe2.py. -/
import Derived.Test.YtlfahfoffdbpfaaSafe
import Derived.Test.YtlfahfoffdbpfaaTree
namespace Go.Proofs.Ytlfahfoffdbpfaa
open Go.ChangeShapes Go.WideShapes Go.ChangeAt Go.RowKit
set_option linter.unusedVariables false
set_option linter.unusedSimpArgs false

/-- an expression is safe, or not, in every world that is later than w -/
def SafeIs (w : World) (y : Ex) (b : Bool) : Prop := ∀ W, Below w.heap.size w W → Calls Try.prog 22 #[.agg #[.int .u8 y.op, .int .u8 y.v.k, .int .i64 y.v.n, .string y.v.s, .string y.name, .int .i64 y.width, .slice y.A y.n y.c]] W fun e w' => e = .returned (.bool b) ∧ Below W.heap.size W w'
set_option maxHeartbeats 1000000 in
theorem safe1_is (y : Ex) (b : Bool) (w : World) (h : SafeIs w y b) (W : World) (hW : Below w.heap.size w W) : Calls Try.prog 44 #[.agg #[.int .u8 y.op, .int .u8 y.v.k, .int .i64 y.v.n, .string y.v.s, .string y.name, .int .i64 y.width, .slice y.A y.n y.c]] W fun e w' => e = .returned (.bool (!b)) ∧ Below W.heap.size W w' := by
  have H := Lib.hid h
  clear h
  have bb := later_new W (.cells #[.int .u8 y.op, .int .u8 y.v.k, .int .i64 y.v.n, .string y.v.s, .string y.name, .int .i64 y.width, .slice y.A y.n y.c] 36)
  go_enter Try.func44, Try.ntmps44
  go_wp2_with fail
  refine (H.out _ (Later.then hW bb)).mono ?_
  rintro e w1 ⟨rfl, b1⟩
  have hb := Later.then bb b1
  clear bb b1
  go_wp2_with fail
  go_ret
  exact ⟨rfl, hb⟩
def allB : List (Ex × Bool) → Bool
  | [] => true
  | a :: l => a.2 && allB l
def SafeIdx (all : Bool) (w : World) (e : Ending) (w' : World) : Prop := ∃ i : Int, e = .returned (.int .i64 i) ∧ (all = true → i = -1) ∧ (all = false → 0 ≤ i) ∧ Below w.heap.size w w'
set_option maxHeartbeats 2000000 in
set_option maxRecDepth 100000 in
theorem safeIndex_any (A : Option Addr) (c : Nat) (args : List (Ex × Bool)) (w : World) (hl : args.length ≤ 1599289640356) (hA : RE w w.heap.size A (args.map (·.1))) (hE : ∀ a ∈ args, SafeIs w a.1 a.2) :
    Calls Try.prog 86 #[.slice A args.length c, .func (.func 44) #[] #[]] w (SafeIdx (allB args) w) := by
  have HA := Lib.hid hA
  have HE := Lib.hid hE
  clear hA hE
  go_enter Try.func86, Try.ntmps86
  go_wp2_with fail
  go_loopw [5, 8] (fun _ i wr => ∃ k : Nat, k ≤ args.length ∧ i = .int .i64 k ∧ allB args = allB (args.drop k) ∧ Below w.heap.size w wr) (fun _ i _ => args.length - (intOf i).toNat)
  case atStart => exact ⟨0, Nat.zero_le _, rfl, rfl, Below.refl _ _⟩
  case round =>
    obtain ⟨k, hk, rfl, hp, hb⟩ := hrel
    have HP := Lib.hid hp
    clear hp
    by_cases hlt : k < args.length
    · obtain ⟨b, off, rfl, hbb, hex⟩ := (HA.out.below hb).at_ (show k < (args.map (·.1)).length by simpa using hlt)
      have he1 : (args.map (·.1))[k]'(by simpa using hlt) = args[k].1 := by simp
      rw [he1] at hex
      clear he1
      have hev := HE.out args[k] (List.getElem_mem hlt)
      have HD := Lib.hid (show args.drop k = args[k] :: args.drop (k + 1) from List.drop_eq_getElem_cons hlt)
      generalize args[k] = yb at *
      obtain ⟨y, sb⟩ := yb
      dsimp only at *
      unfold ExAt at hex
      go_wp2_with fail
      refine (safe1_is y sb w hev _ hb).mono ?_
      rintro e w1 ⟨rfl, b1⟩
      have hb1 := Later.then hb b1
      clear hex hev b1 hb
      cases sb
      · go_wp2_with fail
        go_ret
        exact ⟨k, rfl, fun h => by rw [HP.out, HD.out] at h; exact absurd h (by simp [allB]), fun _ => by omega, hb1⟩
      · go_wp2_with fail
        go_roundw
        case rel =>
          refine ⟨k + 1, hlt, by go_num, ?_, hb1⟩
          rw [HP.out, HD.out]
          simp [allB]
        case measure => simp [intOf]; omega
    · go_wp2_with fail
      go_ret
      exact ⟨-1, rfl, fun _ => rfl, fun h => by rw [HP.out, List.drop_eq_nil_of_le (by omega)] at h; exact absurd h (by simp [allB]), hb⟩
set_option maxHeartbeats 1000000 in
theorem safeContains_any (A : Option Addr) (c : Nat) (args : List (Ex × Bool)) (w : World) (hl : args.length ≤ 1599289640356) (hA : RE w w.heap.size A (args.map (·.1))) (hE : ∀ a ∈ args, SafeIs w a.1 a.2) :
    Calls Try.prog 43 #[.slice A args.length c, .func (.func 44) #[] #[]] w fun e w' => e = .returned (.bool (!allB args)) ∧ Below w.heap.size w w' := by
  have hi := safeIndex_any A c args w hl hA hE
  clear hA hE
  go_enter Try.func43, Try.ntmps43
  go_wp2_with fail
  refine hi.mono ?_
  rintro e w1 ⟨i, rfl, h1, h2, b1⟩
  cases ha : allB args
  · have h3 : 0 ≤ i := h2 ha
    have t1 := decide_eq_true h3
    clear h1 h2 hi
    go_wp2_with fail
    go_ret
    exact ⟨by rw [ha]; rfl, b1⟩
  · have h3 : i = -1 := h1 ha
    clear h1 h2 hi
    subst h3
    go_wp2_with fail
    go_ret
    exact ⟨by rw [ha]; rfl, b1⟩
/-- an operation that may go wrong by itself -/
def riskB (op : Int) : Bool := (isOp op && givesN op == 2) || decide (0 ≤ aggN op)
theorem OIs.gives {w : World} {op a wa gi : Int} {al nu : Bool} {d : Value} (h : OIs w op (opArr a wa gi al nu d)) : (gi == 2) = (isOp op && givesN op == 2) := by
  rcases h with ⟨h1, h2⟩ | ⟨h1, h2⟩
  · have h3 : 3 ≤ op ∧ op ≤ 20 := by simpa [isOp] using h1
    have := h2.fields.2.1
    rw [show ((op.toNat : Nat) : Int) = op by omega] at this
    rw [h1, this]
    rfl
  · rw [h1]
    simp [opArr, zeroOp] at h2
    rw [h2.2.2.1]
    rfl

set_option maxHeartbeats 2000000 in
set_option maxRecDepth 100000 in
theorem safe_node (op : Int) (v : Val) (name : ByteArray) (width : Int) (A : Option Addr) (c : Nat) (args : List (Ex × Bool)) (w : World) (hl : args.length ≤ 1599289640356) (hA : RE w w.heap.size A (args.map (·.1))) (hE : ∀ a ∈ args, SafeIs w a.1 a.2) :
    Calls Try.prog 22 #[.agg #[.int .u8 op, .int .u8 v.k, .int .i64 v.n, .string v.s, .string name, .int .i64 width, .slice A args.length c]] w fun e w' => e = .returned (.bool (!riskB op && allB args)) ∧ Below w.heap.size w w' := by
  have HA := Lib.hid hA
  have HE := Lib.hid hE
  clear hA hE
  go_enter Try.func22, Try.ntmps22
  go_wp2_with fail
  have hX := Blk.new w 36 #[.int .u8 op, .int .u8 v.k, .int .i64 v.n, .string v.s, .string name, .int .i64 width, .slice A args.length c]
  have hB := later_new w (.cells #[.int .u8 op, .int .u8 v.k, .int .i64 v.n, .string v.s, .string name, .int .i64 width, .slice A args.length c] 36)
  have hgx := hX.lt
  generalize w.alloc (.cells #[.int .u8 op, .int .u8 v.k, .int .i64 v.n, .string v.s, .string name, .int .i64 width, .slice A args.length c] 36) = W at *
  refine region_by2 6 (FR op W.heap.size) (FR.refl _ _) (fun _ _ _ => FR.trans) (fun u => ?_) (safeV W.heap.size w.heap.size op) (safeU W.heap.size op) ?_ (fun i u u' v h hr => safeV_stays _ _ _ _ _ _ _ h hr) (by kernel_rfl) (by kernel_rfl) (by kernel_rfl) ?_ ?_
  · exact ⟨(Below.refl _ _).drew, fun g t cs h => .inl h, fun g es c h => h⟩
  · intro i o u u' ρ ρ' hi hu hr hk
    refine safeU_stays _ _ i hu hr fun e => ?_
    subst e
    simp only [List.take_succ_cons, List.take_zero] at hi hk
    refine hk 4 ?_ _ 3 rfl rfl
    injection hi with hi
    subst hi
    decide
  · simp only [List.take_succ_cons, List.take_zero]
    refine ⟨?_, ?_, ?_, ?_, ?_, ?_, trivial⟩
    · intro ρ w1 hc hL hr
      have e1 := hc.func 41
      refine opW_call (f := 41) (args := #[]) (w' := w1) (by simp [go_sem, e1]) ?_
      refine (found_any op w1).mono ?_
      rintro e w2 ⟨v, he, hf, hb⟩
      exact ⟨v, he, FR.later hb hL.below.size, hf, fun h => by cases h⟩
    · intro ρ w1 hc hL hr
      have h1 : ρ (.tmp 1) = .pointer (some ⟨w.heap.size, 0, none⟩) := hr.1
      exact opW_run (w' := w1) (by simp [go_sem, h1]) ⟨FR.refl _ _ _, rfl, fun h => by cases h⟩
    · intro ρ w1 hc hL hr
      have h1 : ρ (.tmp 5) = .pointer (some ⟨w.heap.size, 0, none⟩) := hr.1
      have c0 := (hX.below hL.below hgx).cell 0
      simp only [List.getElem?_toArray, List.getElem?_cons_zero] at c0
      exact opW_run (w' := w1) (by simp [go_sem, h1, c0]) ⟨FR.refl _ _ _, rfl, fun h => by cases h⟩
    · intro ρ w1 hc hL hr
      obtain ⟨g, es, h1, hg, hfd⟩ : Found w1 op (ρ (.tmp 4)) := hr.1
      have h2 : ρ (.tmp 6) = .int .u8 op := hr.2.1
      rcases hfd with ⟨ho, i, o, hfi, hoi⟩ | ⟨ho, hfi⟩
      · have hl := look_yes0 _ _ _ _ hg op i _ hfi
        exact opW_run (v := .agg o) (w' := w1) (by simp [execOp, h1, h2, hl]) ⟨FR.refl _ _ _, ⟨o, rfl, .inl ⟨ho, hoi⟩⟩, fun h => by cases h⟩
      · have hl := look_no0 _ _ _ _ hg op hfi
        exact opW_run (v := .agg zeroOp) (w' := w1) (by simp [execOp, h1, h2, hl]) ⟨FR.refl _ _ _, ⟨zeroOp, rfl, .inr ⟨ho, rfl⟩⟩, fun h => by cases h⟩
    · intro ρ w1 hc hL hr
      refine opW_run (w' := w1.alloc (.cells #[.int .i64 0, .int .u8 0, .int .u8 0, .bool false, .bool false, .nilFunc] 60)) (by simp [go_sem]) ⟨FR.later (later_new w1 _) hL.below.size, ⟨w1.heap.size, rfl, hL.below.size, _, Blk.new w1 _ _, rfl⟩, fun h => by cases h⟩
    · intro ρ w1 hc hL hr
      obtain ⟨g, h1, hgB, cs, hcs, hsz⟩ : ∃ g, ρ (.tmp 3) = .pointer (some ⟨g, 0, none⟩) ∧ W.heap.size ≤ g ∧ ∃ cs, Blk w1 g 60 cs ∧ cs.size = 6 := hr.1
      obtain ⟨o, h2, ho⟩ : ∃ o, ρ (.tmp 7) = .agg o ∧ OIs w1 op o := hr.2.1
      obtain ⟨a, wa, gi, al, nu, d, rfl, _, hd⟩ := ho.shape
      obtain ⟨f1, f2⟩ := setOp_fr hcs hsz hgB ho
      have hself := setOp_self hcs hsz a wa gi al nu d
      have c' : ∀ i, (hi : i < 6) → w1.cell? ⟨g, i, none⟩ = some (cs[i]'(by omega)) := fun i hi => (hcs.cell i).trans (Array.getElem?_eq_getElem (by omega))
      have fz := hcs.frozen
      have c0 := c' 0 (by omega)
      have c1 := c' 1 (by omega)
      have c2 := c' 2 (by omega)
      have c3 := c' 3 (by omega)
      have c4 := c' 4 (by omega)
      have c5 := c' 5 (by omega)
      refine opW_skip (w' := setOp w1 g a wa gi al nu d) ?_ ⟨f1, trivial, fun _ => ⟨g, _, h1, hgB, f2, hself⟩⟩
      unfold setOp
      rcases hd with rfl | ⟨F, C, rfl⟩
      · simp [go_sem, h1, h2, opArr, c0, c1, c2, c3, c4, c5, fz]
      · simp [go_sem, h1, h2, opArr, c0, c1, c2, c3, c4, c5, fz]
  · intro w1 hL
    simp only [List.take_succ_cons, List.take_zero, List.drop_succ_cons, List.drop_zero]
    rintro _ ⟨gm, es, rfl, hgm, hfd⟩ _ rfl _ rfl _ ⟨o3, rfl, h3⟩ _ ⟨g4, rfl, hg4, cs, hcs, hsz⟩ hu
    obtain ⟨g, o, hg, hgB, ho, hob⟩ := hu 5 _ rfl rfl
    have hgg : g4 = g := by simpa [Act.put, Act.eval] using hg
    subst hgg
    clear hu hg hcs hsz cs hfd hgm es h3 hg4
    replace hX := hX.below hL.below hgx
    replace hB := hB.trans (hL.below.mono hB.size)
    clear hL hgx
    obtain ⟨a, wa, gi, al, nu, d, rfl, _, _⟩ := ho.shape
    have HGI := Lib.hid ho.gives
    have x0 := hX.cell 0
    have x6 := hX.cell 6
    have o2 := hob.cell 2
    unfold opArr at o2
    simp only [List.getElem?_toArray, List.getElem?_cons_zero, List.getElem?_cons_succ] at x0 x6 o2
    clear ho
    simp only [FinOf, Act.put, List.setIfInBounds_toArray, List.set_cons_succ, List.set_cons_zero]
    cases hg2 : (gi == 2)
    · have HR := Lib.hid (show riskB op = decide (0 ≤ aggN op) by unfold riskB; rw [← HGI.out, hg2]; rfl)
      go_wp2_with fail
      refine (aggregate_any op _).mono ?_
      rintro e w2 ⟨rfl, rfl⟩
      by_cases ha : 0 ≤ aggN op
      · have HR2 := Lib.hid (HR.out.trans (decide_eq_true ha))
        have t1 := decide_eq_true ha
        go_wp2_with fail
        go_ret
        exact ⟨by rw [HR2.out]; rfl, hB⟩
      · have HR2 := Lib.hid (HR.out.trans (decide_eq_false ha))
        have t1 := decide_eq_false ha
        go_wp2_with fail
        refine (safeContains_any A c args _ hl ((HA.out.below hB).more hB.size) (fun z hz W hW => HE.out z hz W (Later.then hB hW))).mono ?_
        rintro e w2 ⟨rfl, b2⟩
        go_wp2_with fail
        go_ret
        exact ⟨by rw [HR2.out]; simp, Later.then hB b2⟩
    · have HR := Lib.hid (show riskB op = true by unfold riskB; rw [← HGI.out, hg2]; rfl)
      go_wp2_with fail
      go_ret
      exact ⟨by rw [HR.out]; rfl, hB⟩
mutual
def Tr.safe : Tr → Bool
  | .mk op v name width args => !riskB op && Tr.safes args
def Tr.safes : List Tr → Bool
  | [] => true
  | t :: ts => t.safe && Tr.safes ts
end
mutual
theorem Tr.safe_is : ∀ (t : Tr) (y : Ex) (w : World), t.ok → t.at_ w (Old w) y → SafeIs w y t.safe
  | .mk op v name width args, y, w, hok, hat => by
    intro W hb
    have hat2 := hat.later hb
    unfold Tr.at_ at hat2
    obtain ⟨h1, h2, h3, h4, h5, ys, h6, h7⟩ := hat2
    unfold Tr.ok at hok
    obtain ⟨l, hl1, hl2, hl3⟩ := Tr.safes_is args ys W hok.2.2.2.2.2 h7
    obtain ⟨yop, yv, yname, ywidth, yA, yn, yc⟩ := y
    dsimp only at h1 h2 h3 h4 h5 h6
    subst h1 h2 h3 h4 h5
    have hlen : l.length = args.length := by
      have : (l.map (·.1)).length = ys.length := by rw [hl1]
      rw [List.length_map, h7.length] at this
      exact this
    have k := safe_node yop yv yname ywidth yA yc l W (by rw [hlen]; exact hok.2.1) (by rw [hl1]; exact h6.old) hl3
    rw [hl2, hlen] at k
    unfold Tr.safe
    exact k
theorem Tr.safes_is : ∀ (ts : List Tr) (ys : List Ex) (w : World), Tr.oks ts → Tr.all_ w (Old w) ts ys → ∃ l : List (Ex × Bool), l.map (·.1) = ys ∧ allB l = Tr.safes ts ∧ ∀ a ∈ l, SafeIs w a.1 a.2
  | [], ys, w, _, hat => by
    unfold Tr.all_ at hat
    subst hat
    exact ⟨[], rfl, by simp [Tr.safes, allB], by simp⟩
  | t :: ts, ys, w, hok, hat => by
    unfold Tr.all_ at hat
    unfold Tr.oks at hok
    obtain ⟨y, ys', rfl, h2, h3⟩ := hat
    obtain ⟨l, hl1, hl2, hl3⟩ := Tr.safes_is ts ys' w hok.2 h3
    refine ⟨(y, t.safe) :: l, by simp [hl1], by simp [hl2, Tr.safes, allB], fun a ha => ?_⟩
    rcases List.mem_cons.1 ha with rfl | ha
    · exact Tr.safe_is t y w hok.1 h2
    · exact hl3 a ha
end
end Go.Proofs.Ytlfahfoffdbpfaa
