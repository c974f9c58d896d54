/- Parts of the proof: Gd2. Put together by slim.py. -/
import Derived.Test.YtcneefmaghoejaaGreatDoorB17
import Derived.Test.YtcneefmaghoejaaGreatDoorB27
namespace Go.Proofs.YtcneefmaghoejaaGreatDoor
open Go.ChangeShapes Go.WideShapes Go.ChangeAt Go.RowKit
set_option linter.unusedVariables false
set_option linter.unusedSimpArgs false
def px11Ok (o0 o1 o2 o3 o4 o5 o6 o7 o8 o9 o10 : Oper) (s0 s1 d0 d1 d2 d3 d4 d5 d6 d7 d9 : Tmp) : Bool :=
  (tmpsOf o0 == [s0]) && (srcAt [o0, o1, o2, o3, o4, o5, o6, o7, o8, o9, o10] o0 s0 == none) && (tmpsOf o1 == [d0]) && (srcAt [o0, o1, o2, o3, o4, o5, o6, o7, o8, o9, o10] o1 d0 == some 0) && (tmpsOf o2 == [s1]) && (srcAt [o0, o1, o2, o3, o4, o5, o6, o7, o8, o9, o10] o2 s1 == none) && (tmpsOf o3 == [d2]) && (srcAt [o0, o1, o2, o3, o4, o5, o6, o7, o8, o9, o10] o3 d2 == some 2) && (tmpsOf o4 == [d1]) && (srcAt [o0, o1, o2, o3, o4, o5, o6, o7, o8, o9, o10] o4 d1 == some 1) && (tmpsOf o5 == []) && (tmpsOf o6 == [d1, d5]) && (srcAt [o0, o1, o2, o3, o4, o5, o6, o7, o8, o9, o10] o6 d1 == some 1) && (srcAt [o0, o1, o2, o3, o4, o5, o6, o7, o8, o9, o10] o6 d5 == some 5) && (tmpsOf o7 == [d6, d4]) && (srcAt [o0, o1, o2, o3, o4, o5, o6, o7, o8, o9, o10] o7 d6 == some 6) && (srcAt [o0, o1, o2, o3, o4, o5, o6, o7, o8, o9, o10] o7 d4 == some 4) && (tmpsOf o8 == [d7, d3]) && (srcAt [o0, o1, o2, o3, o4, o5, o6, o7, o8, o9, o10] o8 d7 == some 7) && (srcAt [o0, o1, o2, o3, o4, o5, o6, o7, o8, o9, o10] o8 d3 == some 3) && (tmpsOf o9 == [s0]) && (srcAt [o0, o1, o2, o3, o4, o5, o6, o7, o8, o9, o10] o9 s0 == none) && (tmpsOf o10 == [d9, d6]) && (srcAt [o0, o1, o2, o3, o4, o5, o6, o7, o8, o9, o10] o10 d9 == some 9) && (srcAt [o0, o1, o2, o3, o4, o5, o6, o7, o8, o9, o10] o10 d6 == some 6) && o0.guard.isNone && o1.guard.isNone && o2.guard.isNone && o3.guard.isNone && o4.guard.isNone && o5.guard.isNone && o6.guard.isNone && o7.guard.isNone && o8.guard.isNone && o9.guard.isNone && o10.guard.isNone && edgeOn o6 1 && edgeOn o6 3 && edgeOn o6 5 && edgeOn o7 6 && edgeOn o8 6 && edgeOn o10 6
def px11G (γ : GLs) (v : Value) (acc : List Tr) (lg dp : Bool) (l r : Wds) (t : Tr) (n0 : Nat) (σ : Nat → Option Value) (w : World) : Prop :=
  match σ 6 with
  | none => σ 7 = none ∧ σ 8 = none ∧ σ 10 = none ∧ (∀ x, σ 1 = some x → x = v) ∧ PxA γ v acc lg dp l r t n0 (σ 3) (σ 5) w
  | some a => (σ 1).isSome = true ∧ (σ 5).isSome = true ∧ (∀ x, σ 1 = some x → x = v) ∧ ∃ c, σ 3 = some c ∧ PxB γ v acc lg dp r t a c (σ 8).isSome (σ 10).isSome w ∧ ∀ x, σ 7 = some x → ∃ G cap, a = .slice (some ⟨G, 0, none⟩) (acc.length + 1) cap ∧ x = .pointer (some ⟨G, acc.length * 7, none⟩)
theorem px11G_drew {γ : GLs} (F : γ.Fit) {v : Value} {acc : List Tr} {lg dp : Bool} {l r : Wds} {t : Tr} {n0 : Nat} (σ : Nat → Option Value) (w : World) (h : px11G γ v acc lg dp l r t n0 σ w) : px11G γ v acc lg dp l r t n0 σ w.drew := by
  have hb : Below w.heap.size w w.drew := (Below.refl _ _).drew
  unfold px11G at *
  cases ha : σ 6 with
  | none => rw [ha] at h; obtain ⟨h1, h2, h3, h4, h5⟩ := h; exact ⟨h1, h2, h3, h4, h5.later F hb⟩
  | some a => rw [ha] at h; obtain ⟨h1, h2, h3, c, h4, h5, h6⟩ := h; exact ⟨h1, h2, h3, c, h4, h5.later F hb, h6⟩
section
variable {γ : GLs} {v : Value} {acc : List Tr} {lg dp : Bool} {l r : Wds} {t : Tr} {w0 : World} {Q : Exit → Act → World → Prop} {a0 : Act} {id : Nat} {o0 o1 o2 o3 o4 o5 o6 o7 o8 o9 o10 : Oper} {s0 s1 d0 d1 d2 d3 d4 d5 d6 d7 d9 : Tmp} {vs0 vs1 : Value} {F : FuncId} {args : Array Value}
theorem region_px11 (Ft : γ.Fit)
    (hm : Tryz.prog.follows .mixedOrders = true) (hok : okFrom [o0, o1, o2, o3, o4, o5, o6, o7, o8, o9, o10] a0.tmps.size [o0, o1, o2, o3, o4, o5, o6, o7, o8, o9, o10] 0 = true) (hz : tailOk ([o0, o1, o2, o3, o4, o5, o6, o7, o8, o9, o10] ++ []) [] 11 = true) (hpo : px11Ok o0 o1 o2 o3 o4 o5 o6 o7 o8 o9 o10 s0 s1 d0 d1 d2 d3 d4 d5 d6 d7 d9 = true)
    (es0 : a0.eval (.tmp s0) = vs0) (es1 : a0.eval (.tmp s1) = vs1)
    (hfa : ∀ ρ w, ρ (.tmp s0) = vs0 → (execOp ρ o0).run Tryz.prog w = .ok (.value (.pointer (some ⟨γ.qb, γ.k, none⟩))) w) (hfb : ∀ ρ w, ρ (.tmp s0) = vs0 → (execOp ρ o9).run Tryz.prog w = .ok (.value (.pointer (some ⟨γ.qb, γ.k, none⟩))) w)
    (hld : ∀ ρ w, ρ (.tmp d0) = .pointer (some ⟨γ.qb, γ.k, none⟩) → w.cell? ⟨γ.qb, γ.k, none⟩ = some v → (execOp ρ o1).run Tryz.prog w = .ok (.value v) w)
    (hlp : ∀ ρ w, ρ (.tmp s1) = vs1 → w.cell? ⟨γ.pb, 0, none⟩ = some γ.ρ.ptr → (execOp ρ o2).run Tryz.prog w = .ok (.value γ.ρ.ptr) w)
    (hcl : ∀ ρ w, Consts ρ → ρ (.tmp d2) = γ.ρ.ptr → (execOp ρ o3).run Tryz.prog w = .ok (.enter F args) w)
    (hln : ∀ ρ w, ρ (.tmp d1) = v → (execOp ρ o4).run Tryz.prog w = .ok (.value (.int .i64 (acc.length : Int))) w)
    (hz0 : ∀ ρ w, Consts ρ → (execOp ρ o5).run Tryz.prog w = .ok (.value (.slice (some ⟨w.heap.size, 0, none⟩) 1 1)) (w.alloc (.cells ex0 49)))
    (hap : ∀ ρ w x v' w', ρ (.tmp d1) = v → ρ (.tmp d5) = x → (Builtin.append_ #[25, 25] 25 #[v, x]).run Tryz.prog w = .ok v' w' → (execOp ρ o6).run Tryz.prog w = .ok (.value v') w')
    (hix : ∀ ρ w G cap, ρ (.tmp d6) = .slice (some ⟨G, 0, none⟩) (acc.length + 1) cap → ρ (.tmp d4) = .int .i64 (acc.length : Int) → (execOp ρ o7).run Tryz.prog w = .ok (.value (.pointer (some ⟨G, acc.length * 7, none⟩))) w)
    (hst : ∀ ρ w G (y : Ex), ρ (.tmp d7) = .pointer (some ⟨G, acc.length * 7, none⟩) → ρ (.tmp d3) = exV y → (∀ j u, ex0[j]? = some u → w.cell? ⟨G, acc.length * 7 + j, none⟩ = some u) → (∀ i, w.frozen? ⟨G, i, none⟩ = false) → (execOp ρ o8).run Tryz.prog w = .ok .skip (putEA w G (acc.length * 7) y))
    (hsp : ∀ ρ w A n c, ρ (.tmp d9) = .pointer (some ⟨γ.qb, γ.k, none⟩) → ρ (.tmp d6) = .slice A n c → w.cell? ⟨γ.qb, γ.k, none⟩ = some v → w.frozen? ⟨γ.qb, γ.k, none⟩ = false → (execOp ρ o10).run Tryz.prog w = .ok .skip (w.setCell ⟨γ.qb, γ.k, none⟩ (.slice A n c)))
    (A : γ.at_ elTr 49 v acc w0) (D : GDid γ.ρ γ.W0 w0 l lg dp) (hlen : acc.length ≤ 5000)
    (hcall : ∀ w, γ.ρ.gat w l lg dp → Calls Tryz.prog F args w fun e w' => ∃ y, e = .returned (exV y) ∧ t.at_ w' (Btw w.heap.size w') y ∧ GDid γ.ρ w w' r lg (dp || decide (32 < t.depth)))
    (hfin : ∀ a' w, a'.defers = a0.defers → γ.acc elTr 49 (acc ++ [t]) w → GDid γ.ρ γ.W0 w r lg (dp || decide (32 < t.depth)) → wpList Tryz.prog [o0, o1, o2, o3, o4, o5, o6, o7, o8, o9, o10].toArray Q [] a' w) :
    (Code.region id [o0, o1, o2, o3, o4, o5, o6, o7, o8, o9, o10].toArray true).wp Tryz.prog Q a0 w0 := by
  simp only [px11Ok, Bool.and_eq_true, beq_iff_eq, Option.isNone_iff_eq_none] at hpo
  obtain ⟨⟨⟨⟨⟨⟨⟨⟨⟨⟨⟨⟨⟨⟨⟨⟨⟨⟨⟨⟨⟨⟨⟨⟨⟨⟨⟨⟨⟨⟨⟨⟨⟨⟨⟨⟨⟨⟨⟨⟨⟨t0, m0_0⟩, t1⟩, m1_0⟩, t2⟩, m2_0⟩, t3⟩, m3_0⟩, t4⟩, m4_0⟩, t5⟩, t6⟩, m6_0⟩, m6_1⟩, t7⟩, m7_0⟩, m7_1⟩, t8⟩, m8_0⟩, m8_1⟩, t9⟩, m9_0⟩, t10⟩, m10_0⟩, m10_1⟩, g0⟩, g1⟩, g2⟩, g3⟩, g4⟩, g5⟩, g6⟩, g7⟩, g8⟩, g9⟩, g10⟩, e6_1⟩, e6_3⟩, e6_5⟩, e7_6⟩, e8_6⟩, e10_6⟩ := hpo
  have hv0 : ∀ G, v.ownBlock = some G → G < w0.heap.size := fun G hG => (A.ge hG).2
  have hB0 := A.sz
  have dfr : ∀ (ls : List Oper) (k : Nat) (V : Nat → World → Value → Prop) (K : Act → World → Prop) (a : Act) (w : World), (∀ a' : Act, a'.defers = a.defers → K a' w) → FinOf V K ls k a w := by
    intro ls
    induction ls with
    | nil => intro k V K a w h; exact h a rfl
    | cons o ls ih =>
      intro k V K a w h
      unfold FinOf
      cases o.dst with
      | none => exact ih _ _ _ _ _ h
      | some d => exact fun x _ => ih _ _ _ _ _ fun a' ha' => h a' (ha'.trans rfl)
  refine region_many [] [o0, o1, o2, o3, o4, o5, o6, o7, o8, o9, o10] (by simp) (fun i => if i = 0 then .pointer (some ⟨γ.qb, γ.k, none⟩) else if i = 2 then γ.ρ.ptr else if i = 4 then .int .i64 (acc.length : Int) else if i = 9 then .pointer (some ⟨γ.qb, γ.k, none⟩) else undef) [1, 3, 5, 6, 7, 8, 10] (px11G γ v acc lg dp l r t w0.heap.size) (px11G_drew Ft) ⟨rfl, rfl, rfl, (fun x e => by cases e), PxA.start A D⟩ hm hok hz rfl ?_ ?_
  · refine ⟨?_, ?_, ?_, ?_, ?_, ?_, ?_, ?_, ?_, ?_, ?_, trivial⟩
    · intro ρ w σ hcs hG hr he hno
      rw [t0] at hr
      have r0 := hr.1
      simp only [m0_0] at r0
      refine ⟨g0, ?_⟩
      exact hfa ρ w (r0.trans es0)
    · intro ρ w σ hcs hG hr he hno
      rw [t1] at hr
      have r0 := hr.1
      simp only [m1_0] at r0
      unfold VofM at r0
      rw [if_neg (by decide)] at r0
      refine ⟨g1, ?_⟩
      rw [if_pos (by decide)]
      have hσ := hno (by decide)
      unfold px11G at hG
      have ha : σ 6 = none := by
        cases ha : σ 6 with
        | none => rfl
        | some a => rw [ha] at hG; have := hG.1; rw [hσ] at this; cases this
      rw [ha] at hG
      obtain ⟨k1, k2, k3, k4, hA⟩ := hG
      refine opW_run (hld ρ w r0 (hA.at_.cell Ft)) ?_
      show px11G γ v acc lg dp l r t w0.heap.size _ _
      unfold px11G
      simp only [updM, ha, k1, k2, k3, Nat.reduceEqDiff, if_true, if_false]
      exact ⟨trivial, trivial, trivial, fun x e => by injection e with e; exact e.symm, hA⟩
    · intro ρ w σ hcs hG hr he hno
      rw [t2] at hr
      have r0 := hr.1
      simp only [m2_0] at r0
      refine ⟨g2, ?_⟩
      refine hlp ρ w (r0.trans es1) ?_
      unfold px11G at hG
      cases ha : σ 6 with
      | none => rw [ha] at hG; exact hG.2.2.2.2.at_.ptr
      | some a => rw [ha] at hG; obtain ⟨_, _, _, c, _, hB, _⟩ := hG; exact hB.pbk.cell 0
    · intro ρ w σ hcs hG hr he hno
      rw [t3] at hr
      have r0 := hr.1
      simp only [m3_0] at r0
      unfold VofM at r0
      rw [if_neg (by decide)] at r0
      refine ⟨g3, ?_⟩
      rw [if_pos (by decide)]
      have hσ := hno (by decide)
      unfold px11G at hG
      have ha : σ 6 = none := by
        cases ha : σ 6 with
        | none => rfl
        | some a => rw [ha] at hG; obtain ⟨_, _, _, c, hc, _⟩ := hG; rw [hσ] at hc; cases hc
      rw [ha] at hG
      obtain ⟨k1, k2, k3, k4, hA⟩ := hG
      rw [hσ] at hA
      have hrun := hcl ρ w hcs r0
      unfold opW
      rw [hrun]
      refine (hcall w (hA.no rfl).at_).mono ?_
      rintro e w' ⟨y, rfl, hat, dd⟩
      refine ⟨exV y, rfl, ?_⟩
      show px11G γ v acc lg dp l r t w0.heap.size _ _
      unfold px11G
      simp only [updM, ha, k1, k2, k3, Nat.reduceEqDiff, if_true, if_false]
      exact ⟨trivial, trivial, trivial, k4, hA.call Ft hB0 hat dd⟩
    · intro ρ w σ hcs hG hr he hno
      rw [t4] at hr
      have r0 := hr.1
      simp only [m4_0] at r0
      unfold VofM at r0
      rw [if_pos (by decide)] at r0
      refine ⟨g4, ?_⟩
      refine hln ρ w ?_
      unfold px11G at hG
      cases ha : σ 6 with
      | none => rw [ha] at hG; exact hG.2.2.2.1 _ r0
      | some a => rw [ha] at hG; exact hG.2.2.1 _ r0
    · intro ρ w σ hcs hG hr he hno
      rw [t5] at hr
      refine ⟨g5, ?_⟩
      rw [if_pos (by decide)]
      have hσ := hno (by decide)
      unfold px11G at hG
      have ha : σ 6 = none := by
        cases ha : σ 6 with
        | none => rfl
        | some a => rw [ha] at hG; have := hG.2.1; rw [hσ] at this; cases this
      rw [ha] at hG
      obtain ⟨k1, k2, k3, k4, hA⟩ := hG
      rw [hσ] at hA
      refine opW_run (hz0 ρ w hcs) ?_
      show px11G γ v acc lg dp l r t w0.heap.size _ _
      unfold px11G
      simp only [updM, ha, k1, k2, k3, Nat.reduceEqDiff, if_true, if_false]
      exact ⟨trivial, trivial, trivial, k4, hA.zero_ Ft⟩
    · intro ρ w σ hcs hG hr he hno
      rw [t6] at hr
      have r0 := hr.1
      simp only [m6_0] at r0
      unfold VofM at r0
      rw [if_pos (by decide)] at r0
      have r1 := hr.2.1
      simp only [m6_1] at r1
      unfold VofM at r1
      rw [if_pos (by decide)] at r1
      refine ⟨g6, ?_⟩
      rw [if_pos (by decide)]
      have hσ := hno (by decide)
      unfold px11G at hG
      rw [hσ] at hG
      obtain ⟨k1, k2, k3, k4, hA⟩ := hG
      have hcs3 := he 3 (edgeOn_iff.1 e6_3) (by decide)
      have hls3 := he 1 (edgeOn_iff.1 e6_1) (by decide)
      obtain ⟨cv, hcv⟩ := Option.isSome_iff_exists.1 hcs3
      obtain ⟨lv, hlv⟩ := Option.isSome_iff_exists.1 hls3
      rw [hcv, r1] at hA
      obtain ⟨v', w', hr', hPB⟩ := hA.app Ft hB0 hv0 hlen
      refine opW_run (hap ρ w (ρ (.tmp d5)) v' w' (k4 _ r0) rfl hr') ?_
      show px11G γ v acc lg dp l r t w0.heap.size _ _
      unfold px11G
      simp only [updM, hcv, hlv, k1, k2, k3, r1, Nat.reduceEqDiff, if_true, if_false, Option.isSome_some, Option.isSome_none]
      refine ⟨trivial, trivial, ?_, cv, rfl, hPB, ?_⟩
      · intro x e
        exact k4 x (hlv.trans e)
      · intro x e
        cases e
    · intro ρ w σ hcs hG hr he hno
      rw [t7] at hr
      have r0 := hr.1
      simp only [m7_0] at r0
      unfold VofM at r0
      rw [if_pos (by decide)] at r0
      have r1 := hr.2.1
      simp only [m7_1] at r1
      unfold VofM at r1
      rw [if_neg (by decide)] at r1
      refine ⟨g7, ?_⟩
      rw [if_pos (by decide)]
      have hσ := hno (by decide)
      unfold px11G at hG
      have ha := he 6 (edgeOn_iff.1 e7_6) (by decide)
      obtain ⟨a, ha⟩ := Option.isSome_iff_exists.1 ha
      rw [ha] at hG
      obtain ⟨k1, k2, k3, c, hc, hB, k5⟩ := hG
      have hrow := hB.row
      obtain ⟨G, cap, ys, y, e1, e2, e3, e4, e5, e6⟩ := hrow
      rw [ha] at r0
      injection r0 with r0
      refine opW_run (hix ρ w G cap (r0.symm.trans e1) r1) ?_
      show px11G γ v acc lg dp l r t w0.heap.size _ _
      unfold px11G
      simp only [updM, ha, hc, hσ, Nat.reduceEqDiff, if_true, if_false]
      exact ⟨k1, k2, k3, c, rfl, hB, fun x e => by injection e with e; exact ⟨G, cap, e1, e.symm⟩⟩
    · intro ρ w σ hcs hG hr he hno
      rw [t8] at hr
      have r0 := hr.1
      simp only [m8_0] at r0
      unfold VofM at r0
      rw [if_pos (by decide)] at r0
      have r1 := hr.2.1
      simp only [m8_1] at r1
      unfold VofM at r1
      rw [if_pos (by decide)] at r1
      refine ⟨g8, ?_⟩
      rw [if_pos (by decide)]
      have hσ := hno (by decide)
      unfold px11G at hG
      have ha := he 6 (edgeOn_iff.1 e8_6) (by decide)
      obtain ⟨a, ha⟩ := Option.isSome_iff_exists.1 ha
      rw [ha] at hG
      obtain ⟨k1, k2, k3, c, hc, hB, k5⟩ := hG
      have hrow := hB.row
      obtain ⟨G, cap, ys, y, e1, e2, e3, e4, e5, e6⟩ := hrow
      obtain ⟨G2, cap2, e7, e8⟩ := k5 _ r0
      rw [hc] at r1
      injection r1 with r1
      have hown : a.ownBlock = some G2 := by rw [e7]; rfl
      rw [hσ] at hB
      rw [hσ] at e6
      have e6 : OwnF exC 49 7 w γ.B a (ys ++ [zeroE]) := e6
      obtain ⟨cur, hcur⟩ := (e6.lt hown).2.2
      obtain ⟨G3, c3, hsl, _, _, hcells⟩ := e6.cell (f := exC) (fun _ => rfl) (k := acc.length) (x := zeroE) (by rw [← e3]; simp)
      have hG3 : G3 = G2 := by rw [hsl] at hown; simp [Value.ownBlock] at hown; exact hown
      subst hG3
      subst e2
      have hrun := hst ρ w G3 y e8 r1.symm (fun j u hu => hcells j u (by have : (exC zeroE).toArray[j]? = some u := hu; simpa using this)) (fun i => Blk.frozen hcur i)
      unfold opW
      rw [hrun]
      show px11G γ v acc lg dp l r t w0.heap.size _ _
      unfold px11G
      simp only [updM, ha, hc, Nat.reduceEqDiff, if_true, if_false, Option.isSome_some]
      exact ⟨k1, k2, k3, _, rfl, hB.elem Ft e7, k5⟩
    · intro ρ w σ hcs hG hr he hno
      rw [t9] at hr
      have r0 := hr.1
      simp only [m9_0] at r0
      refine ⟨g9, ?_⟩
      exact hfb ρ w (r0.trans es0)
    · intro ρ w σ hcs hG hr he hno
      rw [t10] at hr
      have r0 := hr.1
      simp only [m10_0] at r0
      unfold VofM at r0
      rw [if_neg (by decide)] at r0
      have r1 := hr.2.1
      simp only [m10_1] at r1
      unfold VofM at r1
      rw [if_pos (by decide)] at r1
      refine ⟨g10, ?_⟩
      rw [if_pos (by decide)]
      have hσ := hno (by decide)
      unfold px11G at hG
      have ha := he 6 (edgeOn_iff.1 e10_6) (by decide)
      obtain ⟨a, ha⟩ := Option.isSome_iff_exists.1 ha
      rw [ha] at hG
      obtain ⟨k1, k2, k3, c, hc, hB, k5⟩ := hG
      have hrow := hB.row
      obtain ⟨G, cap, ys, y, e1, e2, e3, e4, e5, e6⟩ := hrow
      rw [ha] at r1
      injection r1 with r1
      rw [hσ] at hB
      have hcell : w.cell? ⟨γ.qb, γ.k, none⟩ = some v := by rw [hB.blk.cell]; simp [Ft.kS]
      have hrun := hsp ρ w (some ⟨G, 0, none⟩) (acc.length + 1) cap r0 (r1.symm.trans e1) hcell (hB.blk.frozen _)
      unfold opW
      rw [hrun]
      show px11G γ v acc lg dp l r t w0.heap.size _ _
      unfold px11G
      simp only [updM, ha, hc, Nat.reduceEqDiff, if_true, if_false, Option.isSome_some]
      have hL := hB.list Ft
      rw [e1] at hL ⊢
      exact ⟨k1, k2, k3, c, rfl, hL, by rw [e1] at k5; exact k5⟩
  · intro σ w hall hG
    have ha := hall 6 (by decide)
    obtain ⟨a, ha⟩ := Option.isSome_iff_exists.1 ha
    have h8 := hall 8 (by decide)
    have h10 := hall 10 (by decide)
    unfold px11G at hG
    rw [ha, h8, h10] at hG
    obtain ⟨_, _, _, c, _, hB, _⟩ := hG
    exact dfr _ _ _ _ _ _ fun a' ha' => hfin a' w ha' ⟨a, hB.done⟩ hB.did
theorem region_px11_panic (Ft : γ.Fit) {E : List PanicEntry → World → Prop}
    (hm : Tryz.prog.follows .mixedOrders = true) (hok : okFrom [o0, o1, o2, o3, o4, o5, o6, o7, o8, o9, o10] a0.tmps.size [o0, o1, o2, o3, o4, o5, o6, o7, o8, o9, o10] 0 = true) (hz : tailOk ([o0, o1, o2, o3, o4, o5, o6, o7, o8, o9, o10] ++ []) [] 11 = true) (hpo : px11Ok o0 o1 o2 o3 o4 o5 o6 o7 o8 o9 o10 s0 s1 d0 d1 d2 d3 d4 d5 d6 d7 d9 = true)
    (es0 : a0.eval (.tmp s0) = vs0) (es1 : a0.eval (.tmp s1) = vs1)
    (hfa : ∀ ρ w, ρ (.tmp s0) = vs0 → (execOp ρ o0).run Tryz.prog w = .ok (.value (.pointer (some ⟨γ.qb, γ.k, none⟩))) w) (hfb : ∀ ρ w, ρ (.tmp s0) = vs0 → (execOp ρ o9).run Tryz.prog w = .ok (.value (.pointer (some ⟨γ.qb, γ.k, none⟩))) w)
    (hld : ∀ ρ w, ρ (.tmp d0) = .pointer (some ⟨γ.qb, γ.k, none⟩) → w.cell? ⟨γ.qb, γ.k, none⟩ = some v → (execOp ρ o1).run Tryz.prog w = .ok (.value v) w)
    (hlp : ∀ ρ w, ρ (.tmp s1) = vs1 → w.cell? ⟨γ.pb, 0, none⟩ = some γ.ρ.ptr → (execOp ρ o2).run Tryz.prog w = .ok (.value γ.ρ.ptr) w)
    (hcl : ∀ ρ w, Consts ρ → ρ (.tmp d2) = γ.ρ.ptr → (execOp ρ o3).run Tryz.prog w = .ok (.enter F args) w)
    (hln : ∀ ρ w, ρ (.tmp d1) = v → (execOp ρ o4).run Tryz.prog w = .ok (.value (.int .i64 (acc.length : Int))) w)
    (hz0 : ∀ ρ w, Consts ρ → (execOp ρ o5).run Tryz.prog w = .ok (.value (.slice (some ⟨w.heap.size, 0, none⟩) 1 1)) (w.alloc (.cells ex0 49)))
    (hbk : blkOk [o0, o1, o2, o3, o4, o5, o6, o7, o8, o9, o10] 3 [6, 7, 8, 9, 10] = true) (A : γ.at_ elTr 49 v acc w0)
    (hcall : ∀ w, Later w0 w → Calls Tryz.prog F args w fun e w' => ∃ C, e = .panicked C ∧ E C w') (hQ : ∀ C a w, a.defers = a0.defers → E C w → Q (.panic C) a w) :
    (Code.region id [o0, o1, o2, o3, o4, o5, o6, o7, o8, o9, o10].toArray true).wp Tryz.prog Q a0 w0 := by
  simp only [px11Ok, Bool.and_eq_true, beq_iff_eq, Option.isNone_iff_eq_none] at hpo
  obtain ⟨⟨⟨⟨⟨⟨⟨⟨⟨⟨⟨⟨⟨⟨⟨⟨⟨⟨⟨⟨⟨⟨⟨⟨⟨⟨⟨⟨⟨⟨⟨⟨⟨⟨⟨⟨⟨⟨⟨⟨⟨t0, m0_0⟩, t1⟩, m1_0⟩, t2⟩, m2_0⟩, t3⟩, m3_0⟩, t4⟩, m4_0⟩, t5⟩, t6⟩, m6_0⟩, m6_1⟩, t7⟩, m7_0⟩, m7_1⟩, t8⟩, m8_0⟩, m8_1⟩, t9⟩, m9_0⟩, t10⟩, m10_0⟩, m10_1⟩, g0⟩, g1⟩, g2⟩, g3⟩, g4⟩, g5⟩, g6⟩, g7⟩, g8⟩, g9⟩, g10⟩, e6_1⟩, e6_3⟩, e6_5⟩, e7_6⟩, e8_6⟩, e10_6⟩ := hpo
  refine region_panic [] [o0, o1, o2, o3, o4, o5, o6, o7, o8, o9, o10] (by simp) 3 [6, 7, 8, 9, 10] E Later Later.refl (fun _ _ _ => Later.trans) Later.drew (fun i _ x => if i = 0 then x = (.pointer (some ⟨γ.qb, γ.k, none⟩)) else if i = 1 then x = (v) else if i = 2 then x = (γ.ρ.ptr) else if i = 4 then x = (.int .i64 (acc.length : Int)) else if i = 9 then x = (.pointer (some ⟨γ.qb, γ.k, none⟩)) else True) (fun _ _ _ _ h _ => h) hm hok hz (by show 3 < 11; decide) hbk ?_ hQ
  refine ⟨?_, ?_, ?_, ?_, ?_, ?_, ?_, ?_, ?_, ?_, ?_, trivial⟩
  · refine .inr fun ρ w hcs hG hr => ?_
    rw [t0] at hr
    have r0 := hr.1
    simp only [m0_0] at r0
    refine ⟨g0, ?_⟩
    exact opW_run (hfa ρ w (r0.trans es0)) ⟨Later.refl _, rfl⟩
  · refine .inr fun ρ w hcs hG hr => ?_
    rw [t1] at hr
    have r0 := hr.1
    simp only [m1_0] at r0
    refine ⟨g1, ?_⟩
    exact opW_run (hld ρ w r0 ((A.later Ft hG).cell Ft)) ⟨Later.refl _, rfl⟩
  · refine .inr fun ρ w hcs hG hr => ?_
    rw [t2] at hr
    have r0 := hr.1
    simp only [m2_0] at r0
    refine ⟨g2, ?_⟩
    exact opW_run (hlp ρ w (r0.trans es1) (A.later Ft hG).ptr) ⟨Later.refl _, rfl⟩
  · refine .inr fun ρ w hcs hG hr => ?_
    rw [t3] at hr
    have r0 := hr.1
    simp only [m3_0] at r0
    refine ⟨g3, ?_⟩
    have hrun := hcl ρ w hcs r0
    show opP _ _ _ _ _
    unfold opP
    rw [hrun]
    exact hcall w hG
  · refine .inr fun ρ w hcs hG hr => ?_
    rw [t4] at hr
    have r0 := hr.1
    simp only [m4_0] at r0
    refine ⟨g4, ?_⟩
    exact opW_run (hln ρ w r0) ⟨Later.refl _, rfl⟩
  · refine .inr fun ρ w hcs hG hr => ?_
    rw [t5] at hr
    refine ⟨g5, ?_⟩
    exact opW_run (hz0 ρ w hcs) ⟨later_new _ _, trivial⟩
  · exact .inl (by decide)
  · exact .inl (by decide)
  · exact .inl (by decide)
  · exact .inl (by decide)
  · exact .inl (by decide)
end
def px9Ok (o0 o1 o2 o3 o4 o5 o6 o7 o8 : Oper) (s0 s1 d0 d1 d2 d3 d4 d5 d6 : Tmp) : Bool :=
  (tmpsOf o0 == [s0]) && (srcAt [o0, o1, o2, o3, o4, o5, o6, o7, o8] o0 s0 == none) && (tmpsOf o1 == [s1]) && (srcAt [o0, o1, o2, o3, o4, o5, o6, o7, o8] o1 s1 == none) && (tmpsOf o2 == [d1]) && (srcAt [o0, o1, o2, o3, o4, o5, o6, o7, o8] o2 d1 == some 1) && (tmpsOf o3 == [d0]) && (srcAt [o0, o1, o2, o3, o4, o5, o6, o7, o8] o3 d0 == some 0) && (tmpsOf o4 == []) && (tmpsOf o5 == [d0, d4]) && (srcAt [o0, o1, o2, o3, o4, o5, o6, o7, o8] o5 d0 == some 0) && (srcAt [o0, o1, o2, o3, o4, o5, o6, o7, o8] o5 d4 == some 4) && (tmpsOf o6 == [d5, d3]) && (srcAt [o0, o1, o2, o3, o4, o5, o6, o7, o8] o6 d5 == some 5) && (srcAt [o0, o1, o2, o3, o4, o5, o6, o7, o8] o6 d3 == some 3) && (tmpsOf o7 == [d6, d2]) && (srcAt [o0, o1, o2, o3, o4, o5, o6, o7, o8] o7 d6 == some 6) && (srcAt [o0, o1, o2, o3, o4, o5, o6, o7, o8] o7 d2 == some 2) && (tmpsOf o8 == [s0, d5]) && (srcAt [o0, o1, o2, o3, o4, o5, o6, o7, o8] o8 s0 == none) && (srcAt [o0, o1, o2, o3, o4, o5, o6, o7, o8] o8 d5 == some 5) && o0.guard.isNone && o1.guard.isNone && o2.guard.isNone && o3.guard.isNone && o4.guard.isNone && o5.guard.isNone && o6.guard.isNone && o7.guard.isNone && o8.guard.isNone && edgeOn o5 0 && edgeOn o5 2 && edgeOn o5 4 && edgeOn o6 5 && edgeOn o7 5 && edgeOn o8 5
def px9G (γ : GLs) (v : Value) (acc : List Tr) (lg dp : Bool) (l r : Wds) (t : Tr) (n0 : Nat) (σ : Nat → Option Value) (w : World) : Prop :=
  match σ 5 with
  | none => σ 6 = none ∧ σ 7 = none ∧ σ 8 = none ∧ (∀ x, σ 0 = some x → x = v) ∧ PxA γ v acc lg dp l r t n0 (σ 2) (σ 4) w
  | some a => (σ 0).isSome = true ∧ (σ 4).isSome = true ∧ (∀ x, σ 0 = some x → x = v) ∧ ∃ c, σ 2 = some c ∧ PxB γ v acc lg dp r t a c (σ 7).isSome (σ 8).isSome w ∧ ∀ x, σ 6 = some x → ∃ G cap, a = .slice (some ⟨G, 0, none⟩) (acc.length + 1) cap ∧ x = .pointer (some ⟨G, acc.length * 7, none⟩)
theorem px9G_drew {γ : GLs} (F : γ.Fit) {v : Value} {acc : List Tr} {lg dp : Bool} {l r : Wds} {t : Tr} {n0 : Nat} (σ : Nat → Option Value) (w : World) (h : px9G γ v acc lg dp l r t n0 σ w) : px9G γ v acc lg dp l r t n0 σ w.drew := by
  have hb : Below w.heap.size w w.drew := (Below.refl _ _).drew
  unfold px9G at *
  cases ha : σ 5 with
  | none => rw [ha] at h; obtain ⟨h1, h2, h3, h4, h5⟩ := h; exact ⟨h1, h2, h3, h4, h5.later F hb⟩
  | some a => rw [ha] at h; obtain ⟨h1, h2, h3, c, h4, h5, h6⟩ := h; exact ⟨h1, h2, h3, c, h4, h5.later F hb, h6⟩
section
variable {γ : GLs} {v : Value} {acc : List Tr} {lg dp : Bool} {l r : Wds} {t : Tr} {w0 : World} {Q : Exit → Act → World → Prop} {a0 : Act} {id : Nat} {o0 o1 o2 o3 o4 o5 o6 o7 o8 : Oper} {s0 s1 d0 d1 d2 d3 d4 d5 d6 : Tmp} {vs0 vs1 : Value} {F : FuncId} {args : Array Value}
theorem region_px9 (Ft : γ.Fit)
    (hm : Tryz.prog.follows .mixedOrders = true) (hok : okFrom [o0, o1, o2, o3, o4, o5, o6, o7, o8] a0.tmps.size [o0, o1, o2, o3, o4, o5, o6, o7, o8] 0 = true) (hz : tailOk ([o0, o1, o2, o3, o4, o5, o6, o7, o8] ++ []) [] 9 = true) (hpo : px9Ok o0 o1 o2 o3 o4 o5 o6 o7 o8 s0 s1 d0 d1 d2 d3 d4 d5 d6 = true)
    (es0 : a0.eval (.tmp s0) = vs0) (es1 : a0.eval (.tmp s1) = vs1)
    (hs0 : vs0 = .pointer (some ⟨γ.qb, γ.k, none⟩))
    (hld : ∀ ρ w, ρ (.tmp s0) = .pointer (some ⟨γ.qb, γ.k, none⟩) → w.cell? ⟨γ.qb, γ.k, none⟩ = some v → (execOp ρ o0).run Tryz.prog w = .ok (.value v) w)
    (hlp : ∀ ρ w, ρ (.tmp s1) = vs1 → w.cell? ⟨γ.pb, 0, none⟩ = some γ.ρ.ptr → (execOp ρ o1).run Tryz.prog w = .ok (.value γ.ρ.ptr) w)
    (hcl : ∀ ρ w, Consts ρ → ρ (.tmp d1) = γ.ρ.ptr → (execOp ρ o2).run Tryz.prog w = .ok (.enter F args) w)
    (hln : ∀ ρ w, ρ (.tmp d0) = v → (execOp ρ o3).run Tryz.prog w = .ok (.value (.int .i64 (acc.length : Int))) w)
    (hz0 : ∀ ρ w, Consts ρ → (execOp ρ o4).run Tryz.prog w = .ok (.value (.slice (some ⟨w.heap.size, 0, none⟩) 1 1)) (w.alloc (.cells ex0 49)))
    (hap : ∀ ρ w x v' w', ρ (.tmp d0) = v → ρ (.tmp d4) = x → (Builtin.append_ #[25, 25] 25 #[v, x]).run Tryz.prog w = .ok v' w' → (execOp ρ o5).run Tryz.prog w = .ok (.value v') w')
    (hix : ∀ ρ w G cap, ρ (.tmp d5) = .slice (some ⟨G, 0, none⟩) (acc.length + 1) cap → ρ (.tmp d3) = .int .i64 (acc.length : Int) → (execOp ρ o6).run Tryz.prog w = .ok (.value (.pointer (some ⟨G, acc.length * 7, none⟩))) w)
    (hst : ∀ ρ w G (y : Ex), ρ (.tmp d6) = .pointer (some ⟨G, acc.length * 7, none⟩) → ρ (.tmp d2) = exV y → (∀ j u, ex0[j]? = some u → w.cell? ⟨G, acc.length * 7 + j, none⟩ = some u) → (∀ i, w.frozen? ⟨G, i, none⟩ = false) → (execOp ρ o7).run Tryz.prog w = .ok .skip (putEA w G (acc.length * 7) y))
    (hsp : ∀ ρ w A n c, ρ (.tmp s0) = .pointer (some ⟨γ.qb, γ.k, none⟩) → ρ (.tmp d5) = .slice A n c → w.cell? ⟨γ.qb, γ.k, none⟩ = some v → w.frozen? ⟨γ.qb, γ.k, none⟩ = false → (execOp ρ o8).run Tryz.prog w = .ok .skip (w.setCell ⟨γ.qb, γ.k, none⟩ (.slice A n c)))
    (A : γ.at_ elTr 49 v acc w0) (D : GDid γ.ρ γ.W0 w0 l lg dp) (hlen : acc.length ≤ 5000)
    (hcall : ∀ w, γ.ρ.gat w l lg dp → Calls Tryz.prog F args w fun e w' => ∃ y, e = .returned (exV y) ∧ t.at_ w' (Btw w.heap.size w') y ∧ GDid γ.ρ w w' r lg (dp || decide (32 < t.depth)))
    (hfin : ∀ a' w, a'.defers = a0.defers → γ.acc elTr 49 (acc ++ [t]) w → GDid γ.ρ γ.W0 w r lg (dp || decide (32 < t.depth)) → wpList Tryz.prog [o0, o1, o2, o3, o4, o5, o6, o7, o8].toArray Q [] a' w) :
    (Code.region id [o0, o1, o2, o3, o4, o5, o6, o7, o8].toArray true).wp Tryz.prog Q a0 w0 := by
  simp only [px9Ok, Bool.and_eq_true, beq_iff_eq, Option.isNone_iff_eq_none] at hpo
  obtain ⟨⟨⟨⟨⟨⟨⟨⟨⟨⟨⟨⟨⟨⟨⟨⟨⟨⟨⟨⟨⟨⟨⟨⟨⟨⟨⟨⟨⟨⟨⟨⟨⟨⟨⟨t0, m0_0⟩, t1⟩, m1_0⟩, t2⟩, m2_0⟩, t3⟩, m3_0⟩, t4⟩, t5⟩, m5_0⟩, m5_1⟩, t6⟩, m6_0⟩, m6_1⟩, t7⟩, m7_0⟩, m7_1⟩, t8⟩, m8_0⟩, m8_1⟩, g0⟩, g1⟩, g2⟩, g3⟩, g4⟩, g5⟩, g6⟩, g7⟩, g8⟩, e5_0⟩, e5_2⟩, e5_4⟩, e6_5⟩, e7_5⟩, e8_5⟩ := hpo
  have hv0 : ∀ G, v.ownBlock = some G → G < w0.heap.size := fun G hG => (A.ge hG).2
  have hB0 := A.sz
  have dfr : ∀ (ls : List Oper) (k : Nat) (V : Nat → World → Value → Prop) (K : Act → World → Prop) (a : Act) (w : World), (∀ a' : Act, a'.defers = a.defers → K a' w) → FinOf V K ls k a w := by
    intro ls
    induction ls with
    | nil => intro k V K a w h; exact h a rfl
    | cons o ls ih =>
      intro k V K a w h
      unfold FinOf
      cases o.dst with
      | none => exact ih _ _ _ _ _ h
      | some d => exact fun x _ => ih _ _ _ _ _ fun a' ha' => h a' (ha'.trans rfl)
  refine region_many [] [o0, o1, o2, o3, o4, o5, o6, o7, o8] (by simp) (fun i => if i = 1 then γ.ρ.ptr else if i = 3 then .int .i64 (acc.length : Int) else undef) [0, 2, 4, 5, 6, 7, 8] (px9G γ v acc lg dp l r t w0.heap.size) (px9G_drew Ft) ⟨rfl, rfl, rfl, (fun x e => by cases e), PxA.start A D⟩ hm hok hz rfl ?_ ?_
  · refine ⟨?_, ?_, ?_, ?_, ?_, ?_, ?_, ?_, ?_, trivial⟩
    · intro ρ w σ hcs hG hr he hno
      rw [t0] at hr
      have r0 := hr.1
      simp only [m0_0] at r0
      refine ⟨g0, ?_⟩
      rw [if_pos (by decide)]
      have hσ := hno (by decide)
      unfold px9G at hG
      have ha : σ 5 = none := by
        cases ha : σ 5 with
        | none => rfl
        | some a => rw [ha] at hG; have := hG.1; rw [hσ] at this; cases this
      rw [ha] at hG
      obtain ⟨k1, k2, k3, k4, hA⟩ := hG
      refine opW_run (hld ρ w ((r0.trans es0).trans hs0) (hA.at_.cell Ft)) ?_
      show px9G γ v acc lg dp l r t w0.heap.size _ _
      unfold px9G
      simp only [updM, ha, k1, k2, k3, Nat.reduceEqDiff, if_true, if_false]
      exact ⟨trivial, trivial, trivial, fun x e => by injection e with e; exact e.symm, hA⟩
    · intro ρ w σ hcs hG hr he hno
      rw [t1] at hr
      have r0 := hr.1
      simp only [m1_0] at r0
      refine ⟨g1, ?_⟩
      refine hlp ρ w (r0.trans es1) ?_
      unfold px9G at hG
      cases ha : σ 5 with
      | none => rw [ha] at hG; exact hG.2.2.2.2.at_.ptr
      | some a => rw [ha] at hG; obtain ⟨_, _, _, c, _, hB, _⟩ := hG; exact hB.pbk.cell 0
    · intro ρ w σ hcs hG hr he hno
      rw [t2] at hr
      have r0 := hr.1
      simp only [m2_0] at r0
      unfold VofM at r0
      rw [if_neg (by decide)] at r0
      refine ⟨g2, ?_⟩
      rw [if_pos (by decide)]
      have hσ := hno (by decide)
      unfold px9G at hG
      have ha : σ 5 = none := by
        cases ha : σ 5 with
        | none => rfl
        | some a => rw [ha] at hG; obtain ⟨_, _, _, c, hc, _⟩ := hG; rw [hσ] at hc; cases hc
      rw [ha] at hG
      obtain ⟨k1, k2, k3, k4, hA⟩ := hG
      rw [hσ] at hA
      have hrun := hcl ρ w hcs r0
      unfold opW
      rw [hrun]
      refine (hcall w (hA.no rfl).at_).mono ?_
      rintro e w' ⟨y, rfl, hat, dd⟩
      refine ⟨exV y, rfl, ?_⟩
      show px9G γ v acc lg dp l r t w0.heap.size _ _
      unfold px9G
      simp only [updM, ha, k1, k2, k3, Nat.reduceEqDiff, if_true, if_false]
      exact ⟨trivial, trivial, trivial, k4, hA.call Ft hB0 hat dd⟩
    · intro ρ w σ hcs hG hr he hno
      rw [t3] at hr
      have r0 := hr.1
      simp only [m3_0] at r0
      unfold VofM at r0
      rw [if_pos (by decide)] at r0
      refine ⟨g3, ?_⟩
      refine hln ρ w ?_
      unfold px9G at hG
      cases ha : σ 5 with
      | none => rw [ha] at hG; exact hG.2.2.2.1 _ r0
      | some a => rw [ha] at hG; exact hG.2.2.1 _ r0
    · intro ρ w σ hcs hG hr he hno
      rw [t4] at hr
      refine ⟨g4, ?_⟩
      rw [if_pos (by decide)]
      have hσ := hno (by decide)
      unfold px9G at hG
      have ha : σ 5 = none := by
        cases ha : σ 5 with
        | none => rfl
        | some a => rw [ha] at hG; have := hG.2.1; rw [hσ] at this; cases this
      rw [ha] at hG
      obtain ⟨k1, k2, k3, k4, hA⟩ := hG
      rw [hσ] at hA
      refine opW_run (hz0 ρ w hcs) ?_
      show px9G γ v acc lg dp l r t w0.heap.size _ _
      unfold px9G
      simp only [updM, ha, k1, k2, k3, Nat.reduceEqDiff, if_true, if_false]
      exact ⟨trivial, trivial, trivial, k4, hA.zero_ Ft⟩
    · intro ρ w σ hcs hG hr he hno
      rw [t5] at hr
      have r0 := hr.1
      simp only [m5_0] at r0
      unfold VofM at r0
      rw [if_pos (by decide)] at r0
      have r1 := hr.2.1
      simp only [m5_1] at r1
      unfold VofM at r1
      rw [if_pos (by decide)] at r1
      refine ⟨g5, ?_⟩
      rw [if_pos (by decide)]
      have hσ := hno (by decide)
      unfold px9G at hG
      rw [hσ] at hG
      obtain ⟨k1, k2, k3, k4, hA⟩ := hG
      have hcs3 := he 2 (edgeOn_iff.1 e5_2) (by decide)
      have hls3 := he 0 (edgeOn_iff.1 e5_0) (by decide)
      obtain ⟨cv, hcv⟩ := Option.isSome_iff_exists.1 hcs3
      obtain ⟨lv, hlv⟩ := Option.isSome_iff_exists.1 hls3
      rw [hcv, r1] at hA
      obtain ⟨v', w', hr', hPB⟩ := hA.app Ft hB0 hv0 hlen
      refine opW_run (hap ρ w (ρ (.tmp d4)) v' w' (k4 _ r0) rfl hr') ?_
      show px9G γ v acc lg dp l r t w0.heap.size _ _
      unfold px9G
      simp only [updM, hcv, hlv, k1, k2, k3, r1, Nat.reduceEqDiff, if_true, if_false, Option.isSome_some, Option.isSome_none]
      refine ⟨trivial, trivial, ?_, cv, rfl, hPB, ?_⟩
      · intro x e
        exact k4 x (hlv.trans e)
      · intro x e
        cases e
    · intro ρ w σ hcs hG hr he hno
      rw [t6] at hr
      have r0 := hr.1
      simp only [m6_0] at r0
      unfold VofM at r0
      rw [if_pos (by decide)] at r0
      have r1 := hr.2.1
      simp only [m6_1] at r1
      unfold VofM at r1
      rw [if_neg (by decide)] at r1
      refine ⟨g6, ?_⟩
      rw [if_pos (by decide)]
      have hσ := hno (by decide)
      unfold px9G at hG
      have ha := he 5 (edgeOn_iff.1 e6_5) (by decide)
      obtain ⟨a, ha⟩ := Option.isSome_iff_exists.1 ha
      rw [ha] at hG
      obtain ⟨k1, k2, k3, c, hc, hB, k5⟩ := hG
      have hrow := hB.row
      obtain ⟨G, cap, ys, y, e1, e2, e3, e4, e5, e6⟩ := hrow
      rw [ha] at r0
      injection r0 with r0
      refine opW_run (hix ρ w G cap (r0.symm.trans e1) r1) ?_
      show px9G γ v acc lg dp l r t w0.heap.size _ _
      unfold px9G
      simp only [updM, ha, hc, hσ, Nat.reduceEqDiff, if_true, if_false]
      exact ⟨k1, k2, k3, c, rfl, hB, fun x e => by injection e with e; exact ⟨G, cap, e1, e.symm⟩⟩
    · intro ρ w σ hcs hG hr he hno
      rw [t7] at hr
      have r0 := hr.1
      simp only [m7_0] at r0
      unfold VofM at r0
      rw [if_pos (by decide)] at r0
      have r1 := hr.2.1
      simp only [m7_1] at r1
      unfold VofM at r1
      rw [if_pos (by decide)] at r1
      refine ⟨g7, ?_⟩
      rw [if_pos (by decide)]
      have hσ := hno (by decide)
      unfold px9G at hG
      have ha := he 5 (edgeOn_iff.1 e7_5) (by decide)
      obtain ⟨a, ha⟩ := Option.isSome_iff_exists.1 ha
      rw [ha] at hG
      obtain ⟨k1, k2, k3, c, hc, hB, k5⟩ := hG
      have hrow := hB.row
      obtain ⟨G, cap, ys, y, e1, e2, e3, e4, e5, e6⟩ := hrow
      obtain ⟨G2, cap2, e7, e8⟩ := k5 _ r0
      rw [hc] at r1
      injection r1 with r1
      have hown : a.ownBlock = some G2 := by rw [e7]; rfl
      rw [hσ] at hB
      rw [hσ] at e6
      have e6 : OwnF exC 49 7 w γ.B a (ys ++ [zeroE]) := e6
      obtain ⟨cur, hcur⟩ := (e6.lt hown).2.2
      obtain ⟨G3, c3, hsl, _, _, hcells⟩ := e6.cell (f := exC) (fun _ => rfl) (k := acc.length) (x := zeroE) (by rw [← e3]; simp)
      have hG3 : G3 = G2 := by rw [hsl] at hown; simp [Value.ownBlock] at hown; exact hown
      subst hG3
      subst e2
      have hrun := hst ρ w G3 y e8 r1.symm (fun j u hu => hcells j u (by have : (exC zeroE).toArray[j]? = some u := hu; simpa using this)) (fun i => Blk.frozen hcur i)
      unfold opW
      rw [hrun]
      show px9G γ v acc lg dp l r t w0.heap.size _ _
      unfold px9G
      simp only [updM, ha, hc, Nat.reduceEqDiff, if_true, if_false, Option.isSome_some]
      exact ⟨k1, k2, k3, _, rfl, hB.elem Ft e7, k5⟩
    · intro ρ w σ hcs hG hr he hno
      rw [t8] at hr
      have r0 := hr.1
      simp only [m8_0] at r0
      have r1 := hr.2.1
      simp only [m8_1] at r1
      unfold VofM at r1
      rw [if_pos (by decide)] at r1
      refine ⟨g8, ?_⟩
      rw [if_pos (by decide)]
      have hσ := hno (by decide)
      unfold px9G at hG
      have ha := he 5 (edgeOn_iff.1 e8_5) (by decide)
      obtain ⟨a, ha⟩ := Option.isSome_iff_exists.1 ha
      rw [ha] at hG
      obtain ⟨k1, k2, k3, c, hc, hB, k5⟩ := hG
      have hrow := hB.row
      obtain ⟨G, cap, ys, y, e1, e2, e3, e4, e5, e6⟩ := hrow
      rw [ha] at r1
      injection r1 with r1
      rw [hσ] at hB
      have hcell : w.cell? ⟨γ.qb, γ.k, none⟩ = some v := by rw [hB.blk.cell]; simp [Ft.kS]
      have hrun := hsp ρ w (some ⟨G, 0, none⟩) (acc.length + 1) cap ((r0.trans es0).trans hs0) (r1.symm.trans e1) hcell (hB.blk.frozen _)
      unfold opW
      rw [hrun]
      show px9G γ v acc lg dp l r t w0.heap.size _ _
      unfold px9G
      simp only [updM, ha, hc, Nat.reduceEqDiff, if_true, if_false, Option.isSome_some]
      have hL := hB.list Ft
      rw [e1] at hL ⊢
      exact ⟨k1, k2, k3, c, rfl, hL, by rw [e1] at k5; exact k5⟩
  · intro σ w hall hG
    have ha := hall 5 (by decide)
    obtain ⟨a, ha⟩ := Option.isSome_iff_exists.1 ha
    have h8 := hall 7 (by decide)
    have h10 := hall 8 (by decide)
    unfold px9G at hG
    rw [ha, h8, h10] at hG
    obtain ⟨_, _, _, c, _, hB, _⟩ := hG
    exact dfr _ _ _ _ _ _ fun a' ha' => hfin a' w ha' ⟨a, hB.done⟩ hB.did
theorem region_px9_panic (Ft : γ.Fit) {E : List PanicEntry → World → Prop}
    (hm : Tryz.prog.follows .mixedOrders = true) (hok : okFrom [o0, o1, o2, o3, o4, o5, o6, o7, o8] a0.tmps.size [o0, o1, o2, o3, o4, o5, o6, o7, o8] 0 = true) (hz : tailOk ([o0, o1, o2, o3, o4, o5, o6, o7, o8] ++ []) [] 9 = true) (hpo : px9Ok o0 o1 o2 o3 o4 o5 o6 o7 o8 s0 s1 d0 d1 d2 d3 d4 d5 d6 = true)
    (es0 : a0.eval (.tmp s0) = vs0) (es1 : a0.eval (.tmp s1) = vs1)
    (hs0 : vs0 = .pointer (some ⟨γ.qb, γ.k, none⟩))
    (hld : ∀ ρ w, ρ (.tmp s0) = .pointer (some ⟨γ.qb, γ.k, none⟩) → w.cell? ⟨γ.qb, γ.k, none⟩ = some v → (execOp ρ o0).run Tryz.prog w = .ok (.value v) w)
    (hlp : ∀ ρ w, ρ (.tmp s1) = vs1 → w.cell? ⟨γ.pb, 0, none⟩ = some γ.ρ.ptr → (execOp ρ o1).run Tryz.prog w = .ok (.value γ.ρ.ptr) w)
    (hcl : ∀ ρ w, Consts ρ → ρ (.tmp d1) = γ.ρ.ptr → (execOp ρ o2).run Tryz.prog w = .ok (.enter F args) w)
    (hln : ∀ ρ w, ρ (.tmp d0) = v → (execOp ρ o3).run Tryz.prog w = .ok (.value (.int .i64 (acc.length : Int))) w)
    (hz0 : ∀ ρ w, Consts ρ → (execOp ρ o4).run Tryz.prog w = .ok (.value (.slice (some ⟨w.heap.size, 0, none⟩) 1 1)) (w.alloc (.cells ex0 49)))
    (hbk : blkOk [o0, o1, o2, o3, o4, o5, o6, o7, o8] 2 [5, 6, 7, 8] = true) (A : γ.at_ elTr 49 v acc w0)
    (hcall : ∀ w, Later w0 w → Calls Tryz.prog F args w fun e w' => ∃ C, e = .panicked C ∧ E C w') (hQ : ∀ C a w, a.defers = a0.defers → E C w → Q (.panic C) a w) :
    (Code.region id [o0, o1, o2, o3, o4, o5, o6, o7, o8].toArray true).wp Tryz.prog Q a0 w0 := by
  simp only [px9Ok, Bool.and_eq_true, beq_iff_eq, Option.isNone_iff_eq_none] at hpo
  obtain ⟨⟨⟨⟨⟨⟨⟨⟨⟨⟨⟨⟨⟨⟨⟨⟨⟨⟨⟨⟨⟨⟨⟨⟨⟨⟨⟨⟨⟨⟨⟨⟨⟨⟨⟨t0, m0_0⟩, t1⟩, m1_0⟩, t2⟩, m2_0⟩, t3⟩, m3_0⟩, t4⟩, t5⟩, m5_0⟩, m5_1⟩, t6⟩, m6_0⟩, m6_1⟩, t7⟩, m7_0⟩, m7_1⟩, t8⟩, m8_0⟩, m8_1⟩, g0⟩, g1⟩, g2⟩, g3⟩, g4⟩, g5⟩, g6⟩, g7⟩, g8⟩, e5_0⟩, e5_2⟩, e5_4⟩, e6_5⟩, e7_5⟩, e8_5⟩ := hpo
  refine region_panic [] [o0, o1, o2, o3, o4, o5, o6, o7, o8] (by simp) 2 [5, 6, 7, 8] E Later Later.refl (fun _ _ _ => Later.trans) Later.drew (fun i _ x => if i = 0 then x = (v) else if i = 1 then x = (γ.ρ.ptr) else if i = 3 then x = (.int .i64 (acc.length : Int)) else True) (fun _ _ _ _ h _ => h) hm hok hz (by show 2 < 9; decide) hbk ?_ hQ
  refine ⟨?_, ?_, ?_, ?_, ?_, ?_, ?_, ?_, ?_, trivial⟩
  · refine .inr fun ρ w hcs hG hr => ?_
    rw [t0] at hr
    have r0 := hr.1
    simp only [m0_0] at r0
    refine ⟨g0, ?_⟩
    exact opW_run (hld ρ w ((r0.trans es0).trans hs0) ((A.later Ft hG).cell Ft)) ⟨Later.refl _, rfl⟩
  · refine .inr fun ρ w hcs hG hr => ?_
    rw [t1] at hr
    have r0 := hr.1
    simp only [m1_0] at r0
    refine ⟨g1, ?_⟩
    exact opW_run (hlp ρ w (r0.trans es1) (A.later Ft hG).ptr) ⟨Later.refl _, rfl⟩
  · refine .inr fun ρ w hcs hG hr => ?_
    rw [t2] at hr
    have r0 := hr.1
    simp only [m2_0] at r0
    refine ⟨g2, ?_⟩
    have hrun := hcl ρ w hcs r0
    show opP _ _ _ _ _
    unfold opP
    rw [hrun]
    exact hcall w hG
  · refine .inr fun ρ w hcs hG hr => ?_
    rw [t3] at hr
    have r0 := hr.1
    simp only [m3_0] at r0
    refine ⟨g3, ?_⟩
    exact opW_run (hln ρ w r0) ⟨Later.refl _, rfl⟩
  · refine .inr fun ρ w hcs hG hr => ?_
    rw [t4] at hr
    refine ⟨g4, ?_⟩
    exact opW_run (hz0 ρ w hcs) ⟨later_new _ _, trivial⟩
  · exact .inl (by decide)
  · exact .inl (by decide)
  · exact .inl (by decide)
  · exact .inl (by decide)
end
end Go.Proofs.YtcneefmaghoejaaGreatDoor
