/- An expression of so many operations, in so many brackets: its words, its tree. -/
import Derived.Test.YtcneefmaghoejaaGreatDoorB48
import Derived.Test.YtcneefmaghoejaaGreatDoorB49
namespace Go.Proofs.YtcneefmaghoejaaGreatDoor
open Go.ChangeShapes Go.WideShapes Go.ChangeAt Go.RowKit Go.Shelf
set_option linter.unusedVariables false
set_option linter.unusedSimpArgs false
def wM : Wd := ⟨4, [45], 0⟩
def wA : Wd := ⟨1, [97], 0⟩
def wE : Wd := ⟨0, [], 0⟩
def negT : Nat → Tr
  | 0 => colT ⟨#[97]⟩
  | n + 1 => opT 3 [negT n]
theorem neg_depth : ∀ n, (negT n).depth = n + 1
  | 0 => by simp [negT, colT, Tr.depth, Tr.depths]
  | n + 1 => by simp only [negT]; rw [depth_one, neg_depth n]
/-- nothing goes on -/
structure Stop (s : Wds) : Prop where
  op : ∀ lv, opOf (opsL lv) s = none
  is_ : headIs w_is s = false
  open_ : headIs s_open s = false
theorem stop_close (r : Wds) : Stop (bC :: r) := ⟨fun lv => op_close lv r, rfl, rfl⟩
theorem left_stop {below : Ps Tr} (hb : Sane below) (lv : Nat) {x : Tr} {l s : Wds} (h : below l = .ok (x, s)) (hs : Stop s) : leftP below lv l = .ok (x, s) := by
  rw [leftP_L, bind_okP h, leftL_eq hb, hs.op]
theorem lift6 {l s : Wds} {t : Wd} {x : Tr} (ht : isW w_not t = false) (h : exprL 6 (t :: l) = .ok (x, s)) (hs : Stop s) : exprL 0 (t :: l) = .ok (x, s) := by
  have e5 : exprL 5 (t :: l) = .ok (x, s) := by rw [exprL_5]; exact left_stop (sane_exprL 6) 5 h hs
  have e4 : exprL 4 (t :: l) = .ok (x, s) := by rw [exprL_4]; exact left_stop (sane_exprL 5) 4 e5 hs
  have e3 : exprL 3 (t :: l) = .ok (x, s) := by
    rw [exprL_3]
    unfold cmpP
    rw [bind_okP e4, may_bind]
    simp only [hs.is_, Bool.false_eq_true, if_false]
    show cmpF (exprL 4) x s = _
    unfold cmpF
    rw [hs.op]
  have e2 : exprL 2 (t :: l) = .ok (x, s) := by rw [exprL_2]; exact un_opd ht e3
  have e1 : exprL 1 (t :: l) = .ok (x, s) := by rw [exprL_1]; exact left_stop (sane_exprL 2) 1 e2 hs
  rw [exprL_0]
  exact left_stop (sane_exprL 1) 0 e1 hs
theorem neg_read {s : Wds} (hs : Stop s) : ∀ n, exprL 6 (List.replicate n wM ++ wA :: s) = .ok (negT n, s)
  | 0 => by
    have e7 : exprL 7 (wA :: s) = .ok (colT ⟨#[97]⟩, s) := by
      rw [exprL_7]
      show namedP (exprL 0) (wA :: s) = _
      rw [named_K, bind_okP (x := (⟨#[97]⟩ : ByteArray)) (r := s) rfl]
      unfold namedK
      rw [hs.open_]
      rfl
    show exprL 6 (wA :: s) = _
    rw [exprL_6]
    exact un_opd (by decide) e7
  | n + 1 => by
    have ih := neg_read hs n
    rw [List.replicate_succ, List.cons_append, exprL_6]
    unfold unP
    rw [may_bind]
    simp only [show headIs s_minus (wM :: (List.replicate n wM ++ wA :: s)) = true from rfl, if_true, List.tail_cons]
    exact (bind_okP ih).trans rfl
theorem neg_head (n : Nat) (s : Wds) : ∃ t l, List.replicate n wM ++ wA :: s = t :: l ∧ isW w_not t = false ∧ isW s_star t = false := by
  cases n with
  | zero => exact ⟨wA, s, rfl, by decide, by decide⟩
  | succ n => exact ⟨wM, _, by rw [List.replicate_succ]; rfl, by decide, by decide⟩
theorem brk_read (n : Nat) : ∀ (b : Nat) {s : Wds}, Stop s → exprL 0 (List.replicate b bO ++ (List.replicate n wM ++ wA :: (List.replicate b bC ++ s))) = .ok (negT n, s)
  | 0, s, hs => by
    show exprL 0 (List.replicate n wM ++ wA :: s) = _
    have h6 := neg_read hs n
    obtain ⟨t, l, e, ht, _⟩ := neg_head n s
    rw [e] at h6 ⊢
    exact lift6 ht h6 hs
  | b + 1, s, hs => by
    have ih := brk_read n b (stop_close s)
    have e : List.replicate (b + 1) bC ++ s = List.replicate b bC ++ bC :: s := by
      rw [List.replicate_succ', List.append_assoc]; rfl
    rw [e, List.replicate_succ, List.cons_append]
    have e7 : exprL 7 (bO :: (List.replicate b bO ++ (List.replicate n wM ++ wA :: (List.replicate b bC ++ bC :: s)))) = .ok (negT n, s) := by
      rw [exprL_7]
      show (do let y ← exprL 0; must s_close; return y) (List.replicate b bO ++ (List.replicate n wM ++ wA :: (List.replicate b bC ++ bC :: s))) = _
      refine (bind_okP ih).trans ?_
      exact (bind_okP (x := ()) (r := s) rfl).trans rfl
    refine lift6 (by decide) ?_ hs
    rw [exprL_6]
    exact un_opd (by decide) e7
def deepW (n b : Nat) : Wds := ⟨1, w_select, 0⟩ :: (List.replicate b bO ++ (List.replicate n wM ++ wA :: (List.replicate b bC ++ [⟨1, w_from, 0⟩, ⟨1, [116], 0⟩, wE])))
def deepD (n : Nat) : St := { kind := 8, query := { items := [(negT n, ByteArray.empty)], frm := ⟨#[116]⟩ } }
theorem deep_whole (n b : Nat) : wholeP (deepW n b) = .ok (deepD n, [wE]) := by
  have hst : Stop [⟨1, w_from, 0⟩, ⟨1, [116], 0⟩, wE] := ⟨fun lv => by match lv with | 0 | 1 | 2 | 3 | 4 | 5 => rfl | n + 6 => rfl, rfl, rfl⟩
  have he := brk_read n b hst
  obtain ⟨L, hL⟩ : ∃ L, L = List.replicate b bO ++ (List.replicate n wM ++ wA :: (List.replicate b bC ++ [⟨1, w_from, 0⟩, ⟨1, [116], 0⟩, wE])) := ⟨_, rfl⟩
  have hstar : headIs s_star L = false := by
    rw [hL]
    cases b with
    | zero =>
      obtain ⟨t, l, e, _, ht⟩ := neg_head n (List.replicate 0 bC ++ [⟨1, w_from, 0⟩, ⟨1, [116], 0⟩, wE])
      show headIs s_star (List.replicate n wM ++ wA :: _) = false
      rw [e]
      exact ht
    | succ b => rw [List.replicate_succ]; rfl
  rw [← hL] at he
  unfold deepW
  rw [← hL]
  rw [whole_select rfl rfl]
  have hitem : itemP L = .ok ((negT n, ByteArray.empty), [⟨1, w_from, 0⟩, ⟨1, [116], 0⟩, wE]) := (bind_okP (show exprP L = _ from he)).trans rfl
  have hlist : listP itemP L = .ok ([(negT n, ByteArray.empty)], [⟨1, w_from, 0⟩, ⟨1, [116], 0⟩, wE]) := (bind_okP hitem).trans rfl
  have hitems : itemsP L = .ok ([(negT n, ByteArray.empty)], [⟨1, w_from, 0⟩, ⟨1, [116], 0⟩, wE]) := by
    unfold itemsP
    rw [may_bind]
    simp only [hstar]
    exact hlist
  have hq : queryP (⟨1, w_select, 0⟩ :: L) = .ok ({ items := [(negT n, ByteArray.empty)], frm := ⟨#[116]⟩ }, [wE]) := by
    rw [query_K]
    refine (bind_okP (x := ()) (r := L) rfl).trans ?_
    exact (bind_okP hitems).trans rfl
  have hsel : selectP (⟨1, w_select, 0⟩ :: L) = .ok (deepD n, [wE]) := (bind_okP hq).trans rfl
  exact (bind_okP hsel).trans rfl
/-! ### the text -/
def t_select : List UInt8 := [115, 101, 108, 101, 99, 116, 32]
def t_from : List UInt8 := [32, 102, 114, 111, 109, 32, 116]
def dashes : Nat → List UInt8
  | 0 => []
  | n + 1 => 45 :: 32 :: dashes n
def deepT (n b : Nat) : List UInt8 := t_select ++ (List.replicate b 40 ++ (dashes n ++ 97 :: (List.replicate b 41 ++ t_from)))
theorem run_cons {c : UInt8} {r rest : List UInt8} {w : Wd} {ws : Wds} (hs : skipL false (c :: r) = c :: r) (ho : oneL (c :: r) = .ok (w, rest)) (h : ∃ x, Run rest x [] ∧ x.map (·.1) = ws) : ∃ x, Run (c :: r) x [] ∧ x.map (·.1) = w :: ws := by
  obtain ⟨x, h1, h2⟩ := h
  exact ⟨_, .step hs ho h1, by rw [List.map_cons, h2]⟩
theorem run_close : ∀ b, ∃ x, Run (List.replicate b 41 ++ t_from) x [] ∧ x.map (·.1) = List.replicate b bC ++ [⟨1, w_from, 0⟩, ⟨1, [116], 0⟩]
  | 0 => by
    have h : lexL t_from = .ok [⟨⟨1, w_from, 0⟩, 1⟩, ⟨⟨1, [116], 0⟩, 6⟩, ⟨⟨0, [], 0⟩, 7⟩] := by kernel_rfl
    obtain ⟨_, ws, hr, hl⟩ := run_of_ok h
    refine ⟨ws, hr, ?_⟩
    have := congrArg (List.map (·.w)) hl
    rw [List.map_append, List.map_map] at this
    have e : (ws.map ((fun x => x.w) ∘ tokAt t_from.length)) = ws.map (·.1) := rfl
    rw [e] at this
    have this : ([⟨1, w_from, 0⟩, ⟨1, [116], 0⟩] ++ [⟨0, [], 0⟩] : List Wd) = ws.map (·.1) ++ [⟨0, [], 0⟩] := this
    exact (List.append_cancel_right this).symm
  | b + 1 => by
    rw [List.replicate_succ, List.replicate_succ, List.cons_append, List.cons_append]
    exact run_cons rfl rfl (run_close b)
theorem run_a (b : Nat) : ∃ x, Run (97 :: (List.replicate b 41 ++ t_from)) x [] ∧ x.map (·.1) = wA :: (List.replicate b bC ++ [⟨1, w_from, 0⟩, ⟨1, [116], 0⟩]) := by
  refine run_cons rfl ?_ (run_close b)
  cases b <;> rfl
theorem run_neg (b : Nat) : ∀ n, ∃ x, Run (dashes n ++ 97 :: (List.replicate b 41 ++ t_from)) x [] ∧ x.map (·.1) = List.replicate n wM ++ wA :: (List.replicate b bC ++ [⟨1, w_from, 0⟩, ⟨1, [116], 0⟩])
  | 0 => run_a b
  | n + 1 => by
    obtain ⟨x, h1, h2⟩ := run_neg b n
    rw [List.replicate_succ, List.cons_append]
    exact run_cons (c := 45) (r := 32 :: (dashes n ++ 97 :: (List.replicate b 41 ++ t_from))) (rest := 32 :: (dashes n ++ 97 :: (List.replicate b 41 ++ t_from))) (w := wM) rfl rfl ⟨x, h1.start rfl, h2⟩
theorem run_open (n b : Nat) : ∀ k, ∃ x, Run (List.replicate k 40 ++ (dashes n ++ 97 :: (List.replicate b 41 ++ t_from))) x [] ∧ x.map (·.1) = List.replicate k bO ++ (List.replicate n wM ++ wA :: (List.replicate b bC ++ [⟨1, w_from, 0⟩, ⟨1, [116], 0⟩]))
  | 0 => run_neg b n
  | k + 1 => by
    rw [List.replicate_succ, List.replicate_succ, List.cons_append, List.cons_append]
    exact run_cons rfl rfl (run_open n b k)
theorem dashes_len : ∀ n, (dashes n).length = 2 * n
  | 0 => rfl
  | n + 1 => by simp [dashes, dashes_len n]; omega
theorem deep_lex (n b : Nat) (hn : n ≤ 200) (hb : b ≤ 200) : ∃ l, lexL (deepT n b) = .ok l ∧ l.map (·.w) = deepW n b := by
  obtain ⟨x, h1, h2⟩ := run_open n b b
  have h3 : ∃ x, Run (deepT n b) x [] ∧ x.map (·.1) = ⟨1, w_select, 0⟩ :: (List.replicate b bO ++ (List.replicate n wM ++ wA :: (List.replicate b bC ++ [⟨1, w_from, 0⟩, ⟨1, [116], 0⟩]))) :=
    run_cons (rest := 32 :: (List.replicate b 40 ++ (dashes n ++ 97 :: (List.replicate b 41 ++ t_from)))) rfl rfl ⟨x, h1.start rfl, h2⟩
  obtain ⟨y, h4, h5⟩ := h3
  refine ⟨_, lex_run ?_ h4 rfl, ?_⟩
  · simp only [deepT, List.length_append, List.length_cons, List.length_replicate, dashes_len]
    have : t_select.length = 7 := rfl
    have : t_from.length = 7 := rfl
    omega
  · rw [List.map_append, List.map_map]
    show y.map (·.1) ++ [wE] = _
    rw [h5]
    unfold deepW
    simp
theorem deep_parse (n b : Nat) (hn : n ≤ 200) (hb : b ≤ 200) : parseL (deepT n b) = if 32 < n + 1 then .error (0, 32) else .ok (deepD n) := by
  obtain ⟨l, h1, h2⟩ := deep_lex n b hn hb
  have hw := deep_whole n b
  rw [← h2] at hw
  rw [parse_good h1 hw]
  have e1 : (deepD n).long = false := by simp [deepD, St.long, Qu.long]
  have e2 : deepB (deepD n).exprs = decide (32 < n + 1) := by simp [deepD, St.exprs, Qu.exprs, deepB, neg_depth]
  rw [e1, e2]
  simp
end Go.Proofs.YtcneefmaghoejaaGreatDoor
