/- Parts of the proof: Lb, Handed, Laid13. Put together by slim.py. -/
import Derived.ProofKit
import Derived.LaidMore
import Derived.Stop.Joined
import Derived.MakeChecks
import Derived.HandedShaped
import Derived.SizedLaws
import Derived.Test.YtcneefmaghoejaaGreatDoorRows
import Derived.Lay
import Derived.Stop.LaidErr
import Derived.Lib.LaidTab
import Derived.LaidHandle
import Derived.Test.YtcneefmaghoejaaGreatDoorB10
import Derived.Test.YtcneefmaghoejaaGreatDoorB47
namespace Go.Proofs.YtcneefmaghoejaaGreatDoor
open Go.ChangeShapes Go.WideShapes Go.ChangeAt Go.RowKit Go.Shelf
set_option linter.unusedVariables false
set_option linter.unusedSimpArgs false
theorem low_ne {c : UInt8} (h : letterB c = true) : lowB c ≠ 61 ∧ lowB c ≠ 43 := by
  have key : ∀ n : Fin 256, letterB (UInt8.ofNat n.val) = true → lowB (UInt8.ofNat n.val) ≠ 61 ∧ lowB (UInt8.ofNat n.val) ≠ 43 := by decide +kernel
  have := key ⟨c.toNat, c.toNat_lt⟩
  simp only [UInt8.ofNat_toNat] at this
  exact this h
theorem oneL_kind {r rest : List UInt8} {w : Wd} (h : oneL r = .ok (w, rest)) : (w.k = 1 ∧ w.s ≠ [61] ∧ w.s ≠ [43]) ∨ w.k = 2 ∨ w.k = 3 ∨ (w.k = 4 ∧ w.s ∈ signs) := by
  match r with
  | [] => simp [oneL] at h
  | c :: r =>
    simp only [oneL] at h
    split at h
    · rename_i hc
      have hw : wordB c = true := by simp [wordB, hc]
      split at h
      · injection h with h; injection h with h1 h2; subst h1 h2
        refine .inl ⟨rfl, ?_, ?_⟩
        · simp only [List.takeWhile_cons, hw, if_true, List.map_cons]
          intro e
          injection e with e _
          exact absurd e (low_ne hc).1
        · simp only [List.takeWhile_cons, hw, if_true, List.map_cons]
          intro e
          injection e with e _
          exact absurd e (low_ne hc).2
      · cases h
    · split at h
      · split at h
        · injection h with h; injection h with h1 h2; subst h1 h2
          exact .inr (.inl rfl)
        · cases h
      · split at h
        · split at h
          · injection h with h; injection h with h1 h2; subst h1 h2
            exact .inr (.inr (.inl rfl))
          · cases h
        · split at h
          · rename_i s hs
            injection h with h; injection h with h1 h2; subst h1 h2
            exact .inr (.inr (.inr ⟨rfl, (signIn_spec hs).1⟩))
          · cases h
theorem run_kind {r q : List UInt8} {ws : List (Wd × Nat)} (h : Run r ws q) : ∀ x ∈ ws, (x.1.k = 1 ∧ x.1.s ≠ [61] ∧ x.1.s ≠ [43]) ∨ x.1.k = 2 ∨ x.1.k = 3 ∨ (x.1.k = 4 ∧ x.1.s ∈ signs) := by
  induction h with
  | stop r => intro x hx; simp at hx
  | step hs ho _ ih =>
    intro x hx
    rcases List.mem_cons.1 hx with rfl | hx
    · exact oneL_kind ho
    · exact ih x hx
def openWs : List (List UInt8) := [w_select, w_where, w_having, w_by, s_eq, s_plus, w_and, w_or]
def opnB (t : Wd) : Bool := !(t.k == 2) && !(t.k == 3) && openWs.contains t.s
def alnB (x nx : Wd) : Bool := x.k == 3 || x.k == 2 || (x.k == 1 && nameB x.s && !(nx.s == s_open))
theorem par_ok {s : List UInt8} (h : parX s = 0) : ∃ d, parseL s = .ok d ∧ parS s = d := by
  unfold parX at h
  unfold parS
  cases hp : parseL s with
  | ok d => exact ⟨d, rfl, rfl⟩
  | error px =>
    exfalso
    obtain ⟨p, x⟩ := px
    rw [hp] at h
    have h : x = 0 := h
    subst h
    unfold parseL at hp
    split at hp
    · rename_i px hl
      injection hp with hp
      subst hp
      rcases lexL_errs hl with h | h <;> omega
    · split at hp
      · injection hp with hp; injection hp with _ hp; cases hp
      · split at hp
        · injection hp with hp; injection hp with _ hp; cases hp
        · split at hp
          · injection hp with hp; injection hp with _ hp; cases hp
          · cases hp
theorem parse_inv {s : List UInt8} {d : St} {l : List Tok} (h : parseL s = .ok d) (hl : lexL s = .ok l) : (∃ r, wholeP (l.map (·.w)) = .ok (d, r)) ∧ d.long = false ∧ deepB d.exprs = false := by
  unfold parseL at h
  rw [hl] at h
  simp only at h
  split at h
  · cases h
  · rename_i t r hw
    split at h
    · cases h
    · rename_i h1
      split at h
      · cases h
      · rename_i h2
        injection h with h
        subst h
        exact ⟨⟨r, hw⟩, by simpa using h1, by simpa using h2⟩
theorem parse_back {t : List UInt8} {d : St} {m : List Tok} {r : Wds} (hm : lexL t = .ok m) (hw : wholeP (m.map (·.w)) = .ok (d, r)) (h1 : d.long = false) (h2 : deepB d.exprs = false) : parseL t = .ok d := by
  rw [parse_good hm hw, h1, h2]
  rfl
theorem brackets_law {s : List UInt8} {l : List Tok} {pre : List UInt8} {ws : List (Wd × Nat)} {ps : List (List UInt8)} (h : Cut s l pre ws ps) (hl : lexL s = .ok l) (hs : s.length ≤ 1000) {d : St} (hp : parseL s = .ok d) (hk : d.kind = 8) {i : Nat} {t x nx : Tok} (h1 : l[i]? = some t) (h2 : l[i + 1]? = some x) (h3 : l[i + 2]? = some nx) (ho : opnB t.w = true) (ha : alnB x.w nx.w = true) :
    parseL (layL (some (i + 1)) 0 ps) = .ok d := by
  obtain ⟨⟨r, hw⟩, k1, k2⟩ := parse_inv hp hl
  obtain ⟨m, hm, hmw⟩ := lay_lex h (by omega) (some (i + 1))
  have hlw := h.words
  obtain ⟨_, ws0, hrun, hl0⟩ := run_of_ok hl
  have hws : ws0.map (·.1) = ws.map (·.1) := by
    have e : l.map (·.w) = ws0.map (·.1) ++ [⟨0, [], 0⟩] := by rw [hl0, List.map_append, List.map_map]; rfl
    rw [hlw] at e
    exact (List.append_cancel_right e).symm
  have hlen : l.length = ws.length + 1 := by have := congrArg List.length hlw; simpa using this
  have hi2 : i + 2 < l.length := (List.getElem?_eq_some_iff.1 h3).1
  have g1 : (l.map (·.w))[i]? = some t.w := by simp [h1]
  have g2 : (l.map (·.w))[i + 1]? = some x.w := by simp [h2]
  have g3 : (l.map (·.w))[i + 2]? = some nx.w := by simp [h3]
  obtain ⟨W, hWe⟩ : ∃ W, W = ws.map (·.1) := ⟨_, rfl⟩
  rw [← hWe] at hlw hmw hws
  have hWl : W.length = ws.length := by rw [hWe]; simp
  rw [hlw] at g1 g2 g3 hw
  rw [List.getElem?_append_left (by omega)] at g1 g2
  -- the words around
  have hx : W = W.take (i + 1) ++ x.w :: W.drop (i + 2) := by
    obtain ⟨hlt, he⟩ := List.getElem?_eq_some_iff.1 g2
    conv => lhs; rw [← List.take_append_drop (i + 1) W, List.drop_eq_getElem_cons hlt, he]
  have hlast : (W.take (i + 1)).getLast? = some t.w := by
    rw [List.take_add_one, g1]
    simp
  have hopn : Opn t.w := by
    have hmem : t.w ∈ ws0.map (·.1) := by rw [hws]; exact List.mem_of_getElem? g1
    obtain ⟨y, hy, hye⟩ := List.mem_map.1 hmem
    have hkd := run_kind hrun y hy
    rw [hye] at hkd
    unfold opnB at ho
    simp only [Bool.and_eq_true, Bool.not_eq_true', beq_eq_false_iff_ne] at ho
    obtain ⟨⟨o1, o2⟩, o3⟩ := ho
    have o3 : t.w.s ∈ openWs := by simpa using o3
    rcases hkd with ⟨e1, e2, e3⟩ | e1 | e1 | ⟨e1, e2⟩
    · refine .inl ⟨e1, ?_⟩
      simp only [openWs, List.mem_cons, List.not_mem_nil, or_false] at o3 ⊢
      rcases o3 with o | o | o | o | o | o | o | o
      · exact .inl o
      · exact .inr (.inl o)
      · exact .inr (.inr (.inl o))
      · exact .inr (.inr (.inr (.inl o)))
      · exact absurd o e2
      · exact absurd o e3
      · exact .inr (.inr (.inr (.inr (.inl o))))
      · exact .inr (.inr (.inr (.inr (.inr o))))
    · exact absurd e1 o1
    · exact absurd e1 o2
    · refine .inr ⟨e1, ?_⟩
      simp only [openWs, List.mem_cons, List.not_mem_nil, or_false] at o3 ⊢
      rcases o3 with o | o | o | o | o | o | o | o
      · rw [o] at e2; exact absurd e2 (by decide)
      · rw [o] at e2; exact absurd e2 (by decide)
      · rw [o] at e2; exact absurd e2 (by decide)
      · rw [o] at e2; exact absurd e2 (by decide)
      · exact .inl o
      · exact .inr o
      · rw [o] at e2; exact absurd e2 (by decide)
      · rw [o] at e2; exact absurd e2 (by decide)
  have hnx : ∃ r, W.drop (i + 2) ++ [(⟨0, [], 0⟩ : Wd)] = nx.w :: r := by
    have e : W.drop (i + 2) ++ [(⟨0, [], 0⟩ : Wd)] = (W ++ [(⟨0, [], 0⟩ : Wd)]).drop (i + 2) := by
      exact (List.drop_append_of_le_length (by omega)).symm
    rw [e]
    obtain ⟨hlt, he⟩ := List.getElem?_eq_some_iff.1 g3
    exact ⟨_, by rw [List.drop_eq_getElem_cons hlt, he]⟩
  obtain ⟨rr, hrr⟩ := hnx
  have hopd : Opd x.w (W.drop (i + 2) ++ [⟨0, [], 0⟩]) := by
    unfold alnB at ha
    simp only [Bool.or_eq_true, Bool.and_eq_true, beq_iff_eq, Bool.not_eq_true'] at ha
    rcases ha with (ha | ha) | ⟨⟨ha, hn⟩, hq⟩
    · exact .inr (.inl ha)
    · exact .inl ha
    · refine .inr (.inr ⟨ha, hn, ?_⟩)
      rw [hrr]
      simp [headIs, isW, hq]
  rw [hx, List.append_assoc, List.cons_append] at hw
  obtain ⟨r2, hw2⟩ := whole_brackets ⟨t.w, hlast, hopn⟩ hopd hw hk
  refine parse_back hm (r := r2) ?_ k1 k2
  rw [hmw, hx, layW_at (i + 1) 0 (W.take (i + 1)) x.w (W.drop (i + 2)) (by simp; omega)]
  rw [List.append_assoc]
  exact hw2
end Go.Proofs.YtcneefmaghoejaaGreatDoor
namespace Go.Proofs.YtcneefmaghoejaaGreatDoor
open Go.ChangeShapes Go.WideShapes Go.ChangeAt Go.RowKit
set_option linter.unusedVariables false
theorem handed_of {H : Type} {enc : TypeId × Value → H} {C : Checked} {os : Os} {f : FuncId} {fn : Func} {s : ChangeSpec} {conds : List PathCond} {apart fresh handsOn again : Bool} {X : World → Array Value → Prop}
    (hX : ∀ (w w' : World) (args : Array Value), w.heap = w'.heap → X w args → X w' args)
    (own : ownKnob C.prog.godebug = none) (started : os.Started) (noInit : C.prog.inits.idxOf? f = none) (hfn : C.prog.funcs[f]? = some fn)
    (witness : ∃ (w : World) (tape : Tape) (i : Input), w.os = os ∧ (w.forCall tape i).Shaped C.prog ∧ i.vars = [] ∧ Input.okWide C.prog (w.forCall tape i) .any w.heap.size f i ∧
      ((s.pre enc C.prog fn conds apart (w.forCall tape i).memory i.args ∧ X (w.forCall tape i).memory i.args) ∧ sizedMet enc C.prog fn (OpenSpec.ofChange s) apart (w.forCall tape i).memory i.args) ∧ ({} : Assume).holds C.prog (lone (Frame.enter C.prog f i.args .normal) [] (w.forCall tape i)))
    (contract : ∀ (W : World) (base : Nat) (args : Array Value) (ds gs : List (DataW H)) (before : List MemPlace),
      (∀ (j : Nat) t v, fn.params[j]? = some t → args[j]? = some v → Value.okWide C.prog W .any base t v) →
      DataW.Whole enc C.prog fn.params.toList s.vars apart W args.toList ds gs before →
      (DataW.weightsEach C.prog (fn.params.toList ++ s.plain.varTypes C.prog) (ds ++ gs)).all (· ≤ reachBytes) = true → X W args → W.ShapedOpen C.prog →
      Calls C.prog f args W fun e W' => ∃ v, e = .returned v ∧ s.post enc C.prog fn apart fresh handsOn again W args v W') :
    ReturnsInHanded {} C os f .any (fun w args => (s.pre enc C.prog fn conds apart w args ∧ X w args) ∧ sizedMet enc C.prog fn (OpenSpec.ofChange s) apart w args) (s.post enc C.prog fn apart fresh handsOn again) := by
  refine returnsInHanded_of_calls own started noInit witness ?_
  intro w tape i _ hsh _ hok hpre hholds
  obtain ⟨_, _, _, fn', hfn', _, _, _, _, hval⟩ := hok
  have e : fn' = fn := Option.some.inj (hfn'.symm.trans hfn)
  subst e
  obtain ⟨⟨⟨ds, gs, before, hw, hc⟩, hx⟩, hz⟩ := hpre
  have hw' := DataW.Whole.of_heap (w' := w.forCall tape i) (by rfl) hw
  refine (contract (w.forCall tape i) w.heap.size i.args ds gs before hval hw' (hz.weights hw) (hX _ _ _ (by rfl) hx) hsh).mono fun e W' ⟨v, he, hp⟩ => ?_
  subst he
  exact ChangeSpec.post_blind hp
end Go.Proofs.YtcneefmaghoejaaGreatDoor
namespace Go.Proofs.YtcneefmaghoejaaGreatDoor
open Go.ChangeShapes Go.WideShapes Go.ChangeAt Go.RowKit
set_option linter.unusedVariables false
def laidL : List (String × DataW Unit) := Rows.parseTellsRow.laid
noncomputable def laidW (os : Os) : World := World.laidAll Tryz.prog os laidL
theorem laid_os (os : Os) : (laidW os).os = os := World.laidAll_os _ _ _
set_option maxRecDepth 100000 in
theorem laid_met (os : Os) (args : Array Value) : laidMetH Tryz.prog laidL ((laidW os).forCall (fun _ _ => 0) ⟨#[], args, []⟩).memory := by
  rw [MakeChecks.laidMetH_plain _ _ _ (by kernel_rfl)]
  exact laidMet_laidAll _ (by kernel_rfl) (by kernel_rfl)
set_option maxRecDepth 100000 in
theorem laid_shaped (os : Os) (args : Array Value) : ((laidW os).forCall (fun _ _ => 0) ⟨#[], args, []⟩).Shaped Tryz.prog := World.shaped_of_ZipB (by kernel_rfl) (by kernel_rfl)
set_option maxRecDepth 100000 in
theorem space_tab : (Rows.laid_strings_asciiSpace : DataW Unit) = Lib.tabData .u8 Lib.asciiSpaceTab := by kernel_rfl
theorem row_error : ∀ u, Tryz.prog.typeName? 3 u = some "*errors.errorString" → u = 196 := by
  intro u h
  have star : "*" ++ "errors.errorString" = "*errors.errorString" := by decide
  exact typeName_ptr_named (nm := "errors.errorString") (by rw [star]; kernel_rfl) (by kernel_rfl) (by decide) u (by rw [star]; exact h)
theorem env_of {W : World} (h : laidMetH Tryz.prog laidL W) : LexEnv W := by
  rw [MakeChecks.laidMetH_plain _ _ _ (by kernel_rfl)] at h
  have h4 : laidMet Tryz.prog (("strconv.ErrRange", .iface "*errors.errorString" (.ptr (.agg [.lit (.string [118, 97, 108, 117, 101, 32, 111, 117, 116, 32, 111, 102, 32, 114, 97, 110, 103, 101])]))) :: [("strconv.ErrSyntax", Rows.laid_strconv_ErrSyntax), ("unicode.White_Space", Rows.laid_unicode_White_Space), ("strings.asciiSpace", Rows.laid_strings_asciiSpace), ("unicode.CaseRanges", Rows.laid_unicode_CaseRanges), ("unicode/utf8.first", Rows.laid_unicode_utf8_first)]) W := h.tail.tail.tail.tail
  have h7 : laidMet Tryz.prog (("strings.asciiSpace", Rows.laid_strings_asciiSpace) :: [("unicode.CaseRanges", Rows.laid_unicode_CaseRanges), ("unicode/utf8.first", Rows.laid_unicode_utf8_first)]) W := h4.tail.tail.tail
  rw [space_tab] at h7
  refine ⟨Lib.tabIs_of_head (g := 0) (t := 137) (e := 5) (n := 256) (by kernel_rfl) (by kernel_rfl) Tryz.underlying137 Tryz.underlying5 (by kernel_rfl) (by kernel_rfl) h7, ?_⟩
  obtain ⟨a, s, hv, _⟩ := laid_sentinel (g := 4) (ti := 119) h4 (by kernel_rfl) (by kernel_rfl) Tryz.underlying119 row_error Tryz.underlying196 Tryz.underlying198 rfl rfl Tryz.underlying9 (by kernel_rfl) (by kernel_rfl)
  exact ⟨_, _, hv⟩
end Go.Proofs.YtcneefmaghoejaaGreatDoor
