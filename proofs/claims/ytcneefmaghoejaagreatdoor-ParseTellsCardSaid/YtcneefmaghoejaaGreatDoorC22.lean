/- Parts of the proof. -/
import Derived.Test.YtcneefmaghoejaaGreatDoorC21
namespace Go.Proofs.YtcneefmaghoejaaGreatDoor
open Go.ChangeShapes Go.WideShapes Go.ChangeAt Go.RowKit
set_option linter.unusedVariables false
set_option linter.unusedSimpArgs false
def Fv (o0 o1 o2 o3 o4 o5 o6 o7 o8 o9 mN:Oper)(s0 s1 d0 d1 d2 d3 d4 d5 d6 d7 d9:Tmp):Bool:=
 (tmpsOf o0== [s0])&&(ct [o0,o1,o2,o3,o4,o5,o6,o7,o8,o9,mN] o0 s0==none)&&(tmpsOf o1== [d0])&&(ct [o0,o1,o2,o3,o4,o5,o6,o7,o8,o9,mN] o1 d0==some 0)&&(tmpsOf o2== [s1])&&(ct [o0,o1,o2,o3,o4,o5,o6,o7,o8,o9,mN] o2 s1==none)&&(tmpsOf o3== [d2])&&(ct [o0,o1,o2,o3,o4,o5,o6,o7,o8,o9,mN] o3 d2==some 2)&&(tmpsOf o4== [d1])&&(ct [o0,o1,o2,o3,o4,o5,o6,o7,o8,o9,mN] o4 d1==some 1)&&(tmpsOf o5== [])&&(tmpsOf o6== [d1,d5])&&(ct [o0,o1,o2,o3,o4,o5,o6,o7,o8,o9,mN] o6 d1==some 1)&&(ct [o0,o1,o2,o3,o4,o5,o6,o7,o8,o9,mN] o6 d5==some 5)&&(tmpsOf o7== [d6,d4])&&(ct [o0,o1,o2,o3,o4,o5,o6,o7,o8,o9,mN] o7 d6==some 6)&&(ct [o0,o1,o2,o3,o4,o5,o6,o7,o8,o9,mN] o7 d4==some 4)&&(tmpsOf o8== [d7,d3])&&(ct [o0,o1,o2,o3,o4,o5,o6,o7,o8,o9,mN] o8 d7==some 7)&&(ct [o0,o1,o2,o3,o4,o5,o6,o7,o8,o9,mN] o8 d3==some 3)&&(tmpsOf o9== [s0])&&(ct [o0,o1,o2,o3,o4,o5,o6,o7,o8,o9,mN] o9 s0==none)&&(tmpsOf mN== [d9,d6])&&(ct [o0,o1,o2,o3,o4,o5,o6,o7,o8,o9,mN] mN d9==some 9)&&(ct [o0,o1,o2,o3,o4,o5,o6,o7,o8,o9,mN] mN d6==some 6)&& o0.guard.isNone && o1.guard.isNone && o2.guard.isNone && o3.guard.isNone && o4.guard.isNone && o5.guard.isNone && o6.guard.isNone && o7.guard.isNone && o8.guard.isNone && o9.guard.isNone && mN.guard.isNone && iq o6 1 && iq o6 3 && iq o6 5 && iq o7 6 && iq o8 6 && iq mN 6
def iJ (γ:uo)(v:Value)(acc:List Tr)(lg dp:Bool)(l r:bH)(t:Tr)(n0:Nat)(σ:Nat→Option Value)(w:World):Prop:=
 match σ 6 with
 | none=>σ 7=none∧σ 8=none∧σ 10=none∧(∀x,σ 1=some x→x=v)∧Ir γ v acc lg dp l r t n0 (σ 3) (σ 5) w
 | some a=>(σ 1).isSome=true∧(σ 5).isSome=true∧(∀x,σ 1=some x→x=v)∧∃c,σ 3=some c∧MR γ v acc lg dp r t a c (σ 8).isSome (σ 10).isSome w∧∀x,σ 7=some x→∃G cap,a=.slice (some ⟨G,0,none⟩) (acc.length+1) cap∧x=.pointer (some ⟨G,acc.length*7,none⟩)
theorem KW {γ:uo}(F:γ.Fit) {v:Value} {acc:List Tr} {lg dp:Bool} {l r:bH} {t:Tr} {n0:Nat}(σ:Nat→Option Value)(w:World)(h:iJ γ v acc lg dp l r t n0 σ w):iJ γ v acc lg dp l r t n0 σ w.drew:=by
 have hb:Below w.heap.size w w.drew:=(Below.refl _ _).drew;unfold iJ at*;cases ha:σ 6 with
 | none=>rw[ha] at h;obtain⟨h1,h2,h3,h4,h5⟩:=h;exact⟨h1,h2,h3,h4,h5.later F hb⟩
 | some a=>rw[ha] at h;obtain⟨h1,h2,h3,c,h4,h5,h6⟩:=h;exact⟨h1,h2,h3,c,h4,h5.later F hb,h6⟩
section
variable {γ:uo} {v:Value} {acc:List Tr} {lg dp:Bool} {l r:bH} {t:Tr} {w0:World} {Q:Exit→Act→World→Prop} {a0:Act} {id:Nat} {o0 o1 o2 o3 o4 o5 o6 o7 o8 o9 mN:Oper} {s0 s1 d0 d1 d2 d3 d4 d5 d6 d7 d9:Tmp} {vs0 vs1:Value} {F:FuncId} {args:Array Value}
theorem Iu (Ft:γ.Fit)
  (hm:Tryz.prog.follows .mixedOrders=true) (aO:eQ [o0,o1,o2,o3,o4,o5,o6,o7,o8,o9,mN] a0.tmps.size [o0,o1,o2,o3,o4,o5,o6,o7,o8,o9,mN] 0=true) (hz:fL ([o0,o1,o2,o3,o4,o5,o6,o7,o8,o9,mN]++ []) [] 11=true) (rW:Fv o0 o1 o2 o3 o4 o5 o6 o7 o8 o9 mN s0 s1 d0 d1 d2 d3 d4 d5 d6 d7 d9=true)
  (Fa:a0.eval (.tmp s0)=vs0) (Hc:a0.eval (.tmp s1)=vs1)
  (G7:∀ρ w,ρ (.tmp s0)=vs0→(execOp ρ o0).run Tryz.prog w=.ok (.value (.pointer (some ⟨γ.qb,γ.k,none⟩))) w) (hfb:∀ρ w,ρ (.tmp s0)=vs0→(execOp ρ o9).run Tryz.prog w=.ok (.value (.pointer (some ⟨γ.qb,γ.k,none⟩))) w)
  (RY:∀ρ w,ρ (.tmp d0)=.pointer (some ⟨γ.qb,γ.k,none⟩)→w.cell? ⟨γ.qb,γ.k,none⟩=some v→(execOp ρ o1).run Tryz.prog w=.ok (.value v) w)
  (N3:∀ρ w,ρ (.tmp s1)=vs1→w.cell? ⟨γ.pb,0,none⟩=some γ.ρ.ptr→(execOp ρ o2).run Tryz.prog w=.ok (.value γ.ρ.ptr) w)
  (jW:∀ρ w,dn ρ→ρ (.tmp d2)=γ.ρ.ptr→(execOp ρ o3).run Tryz.prog w=.ok (.enter F args) w)
  (QJ:∀ρ w,ρ (.tmp d1)=v→(execOp ρ o4).run Tryz.prog w=.ok (.value (.int .i64 (acc.length:Int))) w)
  (hz0:∀ρ w,dn ρ→(execOp ρ o5).run Tryz.prog w=.ok (.value (.slice (some ⟨w.heap.size,0,none⟩) 1 1)) (w.alloc (.cells eK 49)))
  (hap:∀ρ w x v' w',ρ (.tmp d1)=v→ρ (.tmp d5)=x→(Builtin.append_ #[25,25] 25 #[v,x]).run Tryz.prog w=.ok v' w'→(execOp ρ o6).run Tryz.prog w=.ok (.value v') w')
  (hix:∀ρ w G cap,ρ (.tmp d6)=.slice (some ⟨G,0,none⟩) (acc.length+1) cap→ρ (.tmp d4)=.int .i64 (acc.length:Int)→(execOp ρ o7).run Tryz.prog w=.ok (.value (.pointer (some ⟨G,acc.length*7,none⟩))) w)
  (hst:∀ρ w G (y:Ex),ρ (.tmp d7)=.pointer (some ⟨G,acc.length*7,none⟩)→ρ (.tmp d3)=ee y→(∀j u,eK[j]?=some u→w.cell? ⟨G,acc.length*7+j,none⟩=some u)→(∀i,w.frozen? ⟨G,i,none⟩=false)→(execOp ρ o8).run Tryz.prog w=.ok .skip (pg w G (acc.length*7) y))
  (hsp:∀ρ w A n c,ρ (.tmp d9)=.pointer (some ⟨γ.qb,γ.k,none⟩)→ρ (.tmp d6)=.slice A n c→w.cell? ⟨γ.qb,γ.k,none⟩=some v→w.frozen? ⟨γ.qb,γ.k,none⟩=false→(execOp ρ mN).run Tryz.prog w=.ok .skip (w.setCell ⟨γ.qb,γ.k,none⟩ (.slice A n c)))
  (A:γ.at_ gL 49 v acc w0) (D:bJ γ.ρ γ.W0 w0 l lg dp) (hlen:acc.length≤5000)
  (kG:∀w,γ.ρ.ij w l lg dp→Calls Tryz.prog F args w fun e w'=>∃y,e=.returned (ee y)∧t.at_ w' (eD w.heap.size w') y∧bJ γ.ρ w w' r lg (dp || decide (32 < t.depth)))
  (uU:∀a' w,a'.defers=a0.defers→γ.acc gL 49 (acc++ [t]) w→bJ γ.ρ γ.W0 w r lg (dp || decide (32 < t.depth))→wpList Tryz.prog [o0,o1,o2,o3,o4,o5,o6,o7,o8,o9,mN].toArray Q [] a' w):
  (Code.region id [o0,o1,o2,o3,o4,o5,o6,o7,o8,o9,mN].toArray true).wp Tryz.prog Q a0 w0:=by
 simp only[Fv,Bool.and_eq_true,beq_iff_eq,Option.isNone_iff_eq_none] at rW;obtain⟨⟨⟨⟨⟨⟨⟨⟨⟨⟨⟨⟨⟨⟨⟨⟨⟨⟨⟨⟨⟨⟨⟨⟨⟨⟨⟨⟨⟨⟨⟨⟨⟨⟨⟨⟨⟨⟨⟨⟨⟨t0,rX⟩,t1⟩,rY⟩,t2⟩,rZ⟩,t3⟩,se⟩,t4⟩,Av⟩,t5⟩,t6⟩,yO⟩,Hd⟩,t7⟩,Fc⟩,SU⟩,t8⟩,He⟩,Hf⟩,t9⟩,Sb⟩,t10⟩,Zx⟩,Zy⟩,g0⟩,g1⟩,g2⟩,g3⟩,g4⟩,g5⟩,g6⟩,g7⟩,g8⟩,g9⟩,g10⟩,abx⟩,aby⟩,Xl⟩,abz⟩,abA⟩,Zz⟩:=rW;have hv0:∀G,v.ownBlock=some G→G < w0.heap.size:=fun G hG=>(A.ge hG).2
 have hB0:=A.sz;have dfr:∀(ls:List Oper) (k:Nat) (V:Nat→World→Value→Prop) (K:Act→World→Prop) (a:Act) (w:World),(∀a':Act,a'.defers=a.defers→K a' w)→kA V K ls k a w:=by
  intro ls;induction ls with
  | nil=>intro k V K a w h;exact h a rfl
  | cons o ls ih=>
    intro k V K a w h;unfold kA;cases o.dst with
    | none=>exact ih _ _ _ _ _ h
    | some d=>exact fun x _=>ih _ _ _ _ _ fun a' ha'=>h a' (ha'.trans rfl)
 refine yr [] [o0,o1,o2,o3,o4,o5,o6,o7,o8,o9,mN] (by simp) (fun i=>if i=0 then .pointer (some ⟨γ.qb,γ.k,none⟩)else if i=2 then γ.ρ.ptr else if i=4 then .int .i64 (acc.length:Int)else if i=9 then .pointer (some ⟨γ.qb,γ.k,none⟩)else undef) [1,3,5,6,7,8,10] (iJ γ v acc lg dp l r t w0.heap.size) (KW Ft) ⟨rfl,rfl,rfl,(fun x e=>by cases e),Ir.start A D⟩ hm aO hz rfl ?_ ?_
 ·refine⟨?_,?_,?_,?_,?_,?_,?_,?_,?_,?_,?_,trivial⟩
  ·intro ρ w σ hcs hG hr he hno;rw[t0] at hr;have r0:=hr.1;simp only[rX] at r0;refine⟨g0,?_⟩;exact G7 ρ w (r0.trans Fa)
  ·intro ρ w σ hcs hG hr he hno;rw[t1] at hr;have r0:=hr.1;simp only[rY] at r0;unfold mq at r0;rw[if_neg (by decide)] at r0;refine⟨g1,?_⟩;rw[if_pos (by decide)];have sB:=hno (by decide);unfold iJ at hG;have ha:σ 6=none:=by
    cases ha:σ 6 with
    | none=>rfl
    | some a=>rw[ha] at hG;have:=hG.1;rw[sB] at this;cases this
   rw[ha] at hG;obtain⟨k1,k2,k3,k4,hA⟩:=hG;refine cz (RY ρ w r0 (hA.at_.cell Ft)) ?_;show iJ γ v acc lg dp l r t w0.heap.size _ _;unfold iJ;simp only[oP,ha,k1,k2,k3,Nat.reduceEqDiff,if_true,if_false];exact⟨trivial,trivial,trivial,fun x e=>by injection e with e;exact e.symm,hA⟩
  ·intro ρ w σ hcs hG hr he hno;rw[t2] at hr;have r0:=hr.1;simp only[rZ] at r0;refine⟨g2,?_⟩;refine N3 ρ w (r0.trans Hc) ?_;unfold iJ at hG;cases ha:σ 6 with
   | none=>rw[ha] at hG;exact hG.2.2.2.2.at_.ptr
   | some a=>rw[ha] at hG;obtain⟨_,_,_,c,_,hB,_⟩:=hG;exact hB.tK.cell 0
  ·intro ρ w σ hcs hG hr he hno;rw[t3] at hr;have r0:=hr.1;simp only[se] at r0;unfold mq at r0;rw[if_neg (by decide)] at r0;refine⟨g3,?_⟩;rw[if_pos (by decide)];have sB:=hno (by decide);unfold iJ at hG;have ha:σ 6=none:=by
    cases ha:σ 6 with
    | none=>rfl
    | some a=>rw[ha] at hG;obtain⟨_,_,_,c,hc,_⟩:=hG;rw[sB] at hc;cases hc
   rw[ha] at hG;obtain⟨k1,k2,k3,k4,hA⟩:=hG;rw[sB] at hA;have hrun:=jW ρ w hcs r0;unfold xR;rw[hrun];refine(kG w (hA.no rfl).at_).mono ?_;rintro e w' ⟨y,rfl,hat,dd⟩;refine⟨ee y,rfl,?_⟩;show iJ γ v acc lg dp l r t w0.heap.size _ _;unfold iJ;simp only[oP,ha,k1,k2,k3,Nat.reduceEqDiff,if_true,if_false];exact⟨trivial,trivial,trivial,k4,hA.call Ft hB0 hat dd⟩
  ·intro ρ w σ hcs hG hr he hno;rw[t4] at hr;have r0:=hr.1;simp only[Av] at r0;unfold mq at r0;rw[if_pos (by decide)] at r0;refine⟨g4,?_⟩;refine QJ ρ w ?_;unfold iJ at hG;cases ha:σ 6 with
   | none=>rw[ha] at hG;exact hG.2.2.2.1 _ r0
   | some a=>rw[ha] at hG;exact hG.2.2.1 _ r0
  ·intro ρ w σ hcs hG hr he hno;rw[t5] at hr;refine⟨g5,?_⟩;rw[if_pos (by decide)];have sB:=hno (by decide);unfold iJ at hG;have ha:σ 6=none:=by
    cases ha:σ 6 with
    | none=>rfl
    | some a=>rw[ha] at hG;have:=hG.2.1;rw[sB] at this;cases this
   rw[ha] at hG;obtain⟨k1,k2,k3,k4,hA⟩:=hG;rw[sB] at hA;refine cz (hz0 ρ w hcs) ?_;show iJ γ v acc lg dp l r t w0.heap.size _ _;unfold iJ;simp only[oP,ha,k1,k2,k3,Nat.reduceEqDiff,if_true,if_false];exact⟨trivial,trivial,trivial,k4,hA.Zw Ft⟩
  ·intro ρ w σ hcs hG hr he hno;rw[t6] at hr;have r0:=hr.1;simp only[yO] at r0;unfold mq at r0;rw[if_pos (by decide)] at r0;have r1:=hr.2.1;simp only[Hd] at r1;unfold mq at r1;rw[if_pos (by decide)] at r1;refine⟨g6,?_⟩;rw[if_pos (by decide)];have sB:=hno (by decide);unfold iJ at hG;rw[sB] at hG;obtain⟨k1,k2,k3,k4,hA⟩:=hG;have Cw:=he 3 (dZ.1 aby) (by decide);have N4:=he 1 (dZ.1 abx) (by decide);obtain⟨cv,hcv⟩:=Option.isSome_iff_exists.1 Cw;obtain⟨lv,hlv⟩:=Option.isSome_iff_exists.1 N4;rw[hcv,r1] at hA;obtain⟨v',w',gO,hPB⟩:=hA.app Ft hB0 hv0 hlen;refine cz (hap ρ w (ρ (.tmp d5)) v' w' (k4 _ r0) rfl gO) ?_;show iJ γ v acc lg dp l r t w0.heap.size _ _;unfold iJ;simp only[oP,hcv,hlv,k1,k2,k3,r1,Nat.reduceEqDiff,if_true,if_false,Option.isSome_some,Option.isSome_none];refine⟨trivial,trivial,?_,cv,rfl,hPB,?_⟩
   ·intro x e;exact k4 x (hlv.trans e)
   ·intro x e;cases e
  ·intro ρ w σ hcs hG hr he hno;rw[t7] at hr;have r0:=hr.1;simp only[Fc] at r0;unfold mq at r0;rw[if_pos (by decide)] at r0;have r1:=hr.2.1;simp only[SU] at r1;unfold mq at r1;rw[if_neg (by decide)] at r1;refine⟨g7,?_⟩;rw[if_pos (by decide)];have sB:=hno (by decide);unfold iJ at hG;have ha:=he 6 (dZ.1 abz) (by decide);obtain⟨a,ha⟩:=Option.isSome_iff_exists.1 ha;rw[ha] at hG;obtain⟨k1,k2,k3,c,hc,hB,k5⟩:=hG;have hrow:=hB.row;obtain⟨G,cap,ys,y,e1,e2,e3,e4,e5,e6⟩:=hrow;rw[ha] at r0;injection r0 with r0;refine cz (hix ρ w G cap (r0.symm.trans e1) r1) ?_;show iJ γ v acc lg dp l r t w0.heap.size _ _;unfold iJ;simp only[oP,ha,hc,sB,Nat.reduceEqDiff,if_true,if_false];exact⟨k1,k2,k3,c,rfl,hB,fun x e=>by injection e with e;exact⟨G,cap,e1,e.symm⟩⟩
  ·intro ρ w σ hcs hG hr he hno;rw[t8] at hr;have r0:=hr.1;simp only[He] at r0;unfold mq at r0;rw[if_pos (by decide)] at r0;have r1:=hr.2.1;simp only[Hf] at r1;unfold mq at r1;rw[if_pos (by decide)] at r1;refine⟨g8,?_⟩;rw[if_pos (by decide)];have sB:=hno (by decide);unfold iJ at hG;have ha:=he 6 (dZ.1 abA) (by decide);obtain⟨a,ha⟩:=Option.isSome_iff_exists.1 ha;rw[ha] at hG;obtain⟨k1,k2,k3,c,hc,hB,k5⟩:=hG;have hrow:=hB.row;obtain⟨G,cap,ys,y,e1,e2,e3,e4,e5,e6⟩:=hrow;obtain⟨G2,aah,e7,e8⟩:=k5 _ r0;rw[hc] at r1;injection r1 with r1;have hown:a.ownBlock=some G2:=by rw[e7];rfl
   rw[sB] at hB;rw[sB] at e6;have e6:df bl 49 7 w γ.B a (ys++ [zeroE]):=e6;obtain⟨cur,SS⟩:=(e6.lt hown).2.2;obtain⟨G3,c3,fE,_,_,zJ⟩:=e6.cell (f:=bl) (fun _=>rfl) (k:=acc.length) (x:=zeroE) (by rw[← e3];simp);have hG3:G3=G2:=by rw[fE] at hown;simp[Value.ownBlock] at hown;exact hown
   subst hG3;subst e2;have hrun:=hst ρ w G3 y e8 r1.symm (fun j u hu=>zJ j u (by have:(bl zeroE).toArray[j]?=some u:=hu;simpa using this)) (fun i=>au.frozen SS i);unfold xR;rw[hrun];show iJ γ v acc lg dp l r t w0.heap.size _ _;unfold iJ;simp only[oP,ha,hc,Nat.reduceEqDiff,if_true,if_false,Option.isSome_some];exact⟨k1,k2,k3,_,rfl,hB.elem Ft e7,k5⟩
  ·intro ρ w σ hcs hG hr he hno;rw[t9] at hr;have r0:=hr.1;simp only[Sb] at r0;refine⟨g9,?_⟩;exact hfb ρ w (r0.trans Fa)
  ·intro ρ w σ hcs hG hr he hno;rw[t10] at hr;have r0:=hr.1;simp only[Zx] at r0;unfold mq at r0;rw[if_neg (by decide)] at r0;have r1:=hr.2.1;simp only[Zy] at r1;unfold mq at r1;rw[if_pos (by decide)] at r1;refine⟨g10,?_⟩;rw[if_pos (by decide)];have sB:=hno (by decide);unfold iJ at hG;have ha:=he 6 (dZ.1 Zz) (by decide);obtain⟨a,ha⟩:=Option.isSome_iff_exists.1 ha;rw[ha] at hG;obtain⟨k1,k2,k3,c,hc,hB,k5⟩:=hG;have hrow:=hB.row;obtain⟨G,cap,ys,y,e1,e2,e3,e4,e5,e6⟩:=hrow;rw[ha] at r1;injection r1 with r1;rw[sB] at hB;have hcell:w.cell? ⟨γ.qb,γ.k,none⟩=some v:=by rw[hB.blk.cell];simp[Ft.kS]
   have hrun:=hsp ρ w (some ⟨G,0,none⟩) (acc.length+1) cap r0 (r1.symm.trans e1) hcell (hB.blk.frozen _);unfold xR;rw[hrun];show iJ γ v acc lg dp l r t w0.heap.size _ _;unfold iJ;simp only[oP,ha,hc,Nat.reduceEqDiff,if_true,if_false,Option.isSome_some];have hL:=hB.list Ft;rw[e1] at hL ⊢;exact⟨k1,k2,k3,c,rfl,hL,by rw[e1] at k5;exact k5⟩
 ·intro σ w hall hG;have ha:=hall 6 (by decide);obtain⟨a,ha⟩:=Option.isSome_iff_exists.1 ha;have h8:=hall 8 (by decide);have h10:=hall 10 (by decide);unfold iJ at hG;rw[ha,h8,h10] at hG;obtain⟨_,_,_,c,_,hB,_⟩:=hG;exact dfr _ _ _ _ _ _ fun a' ha'=>uU a' w ha' ⟨a,hB.done⟩ hB.did
theorem wq (Ft:γ.Fit) {E:List PanicEntry→World→Prop}
  (hm:Tryz.prog.follows .mixedOrders=true) (aO:eQ [o0,o1,o2,o3,o4,o5,o6,o7,o8,o9,mN] a0.tmps.size [o0,o1,o2,o3,o4,o5,o6,o7,o8,o9,mN] 0=true) (hz:fL ([o0,o1,o2,o3,o4,o5,o6,o7,o8,o9,mN]++ []) [] 11=true) (rW:Fv o0 o1 o2 o3 o4 o5 o6 o7 o8 o9 mN s0 s1 d0 d1 d2 d3 d4 d5 d6 d7 d9=true)
  (Fa:a0.eval (.tmp s0)=vs0) (Hc:a0.eval (.tmp s1)=vs1)
  (G7:∀ρ w,ρ (.tmp s0)=vs0→(execOp ρ o0).run Tryz.prog w=.ok (.value (.pointer (some ⟨γ.qb,γ.k,none⟩))) w) (hfb:∀ρ w,ρ (.tmp s0)=vs0→(execOp ρ o9).run Tryz.prog w=.ok (.value (.pointer (some ⟨γ.qb,γ.k,none⟩))) w)
  (RY:∀ρ w,ρ (.tmp d0)=.pointer (some ⟨γ.qb,γ.k,none⟩)→w.cell? ⟨γ.qb,γ.k,none⟩=some v→(execOp ρ o1).run Tryz.prog w=.ok (.value v) w)
  (N3:∀ρ w,ρ (.tmp s1)=vs1→w.cell? ⟨γ.pb,0,none⟩=some γ.ρ.ptr→(execOp ρ o2).run Tryz.prog w=.ok (.value γ.ρ.ptr) w)
  (jW:∀ρ w,dn ρ→ρ (.tmp d2)=γ.ρ.ptr→(execOp ρ o3).run Tryz.prog w=.ok (.enter F args) w)
  (QJ:∀ρ w,ρ (.tmp d1)=v→(execOp ρ o4).run Tryz.prog w=.ok (.value (.int .i64 (acc.length:Int))) w)
  (hz0:∀ρ w,dn ρ→(execOp ρ o5).run Tryz.prog w=.ok (.value (.slice (some ⟨w.heap.size,0,none⟩) 1 1)) (w.alloc (.cells eK 49)))
  (CW:Dd [o0,o1,o2,o3,o4,o5,o6,o7,o8,o9,mN] 3 [6,7,8,9,10]=true) (A:γ.at_ gL 49 v acc w0)
  (kG:∀w,ah w0 w→Calls Tryz.prog F args w fun e w'=>∃C,e=.panicked C∧E C w') (hQ:∀C a w,a.defers=a0.defers→E C w→Q (.panic C) a w):
  (Code.region id [o0,o1,o2,o3,o4,o5,o6,o7,o8,o9,mN].toArray true).wp Tryz.prog Q a0 w0:=by
 simp only[Fv,Bool.and_eq_true,beq_iff_eq,Option.isNone_iff_eq_none] at rW;obtain⟨⟨⟨⟨⟨⟨⟨⟨⟨⟨⟨⟨⟨⟨⟨⟨⟨⟨⟨⟨⟨⟨⟨⟨⟨⟨⟨⟨⟨⟨⟨⟨⟨⟨⟨⟨⟨⟨⟨⟨⟨t0,rX⟩,t1⟩,rY⟩,t2⟩,rZ⟩,t3⟩,se⟩,t4⟩,Av⟩,t5⟩,t6⟩,yO⟩,Hd⟩,t7⟩,Fc⟩,SU⟩,t8⟩,He⟩,Hf⟩,t9⟩,Sb⟩,t10⟩,Zx⟩,Zy⟩,g0⟩,g1⟩,g2⟩,g3⟩,g4⟩,g5⟩,g6⟩,g7⟩,g8⟩,g9⟩,g10⟩,abx⟩,aby⟩,Xl⟩,abz⟩,abA⟩,Zz⟩:=rW;refine lU [] [o0,o1,o2,o3,o4,o5,o6,o7,o8,o9,mN] (by simp) 3 [6,7,8,9,10] E ah ah.refl (fun _ _ _=>ah.trans) ah.drew (fun i _ x=>if i=0 then x=(.pointer (some ⟨γ.qb,γ.k,none⟩))else if i=1 then x=(v)else if i=2 then x=(γ.ρ.ptr)else if i=4 then x=(.int .i64 (acc.length:Int))else if i=9 then x=(.pointer (some ⟨γ.qb,γ.k,none⟩))else True) (fun _ _ _ _ h _=>h) hm aO hz (by show 3 < 11;decide) CW ?_ hQ;refine⟨?_,?_,?_,?_,?_,?_,?_,?_,?_,?_,?_,trivial⟩
 ·refine .inr fun ρ w hcs hG hr=>?_
  rw[t0] at hr;have r0:=hr.1;simp only[rX] at r0;refine⟨g0,?_⟩;exact cz (G7 ρ w (r0.trans Fa)) ⟨ah.refl _,rfl⟩
 ·refine .inr fun ρ w hcs hG hr=>?_
  rw[t1] at hr;have r0:=hr.1;simp only[rY] at r0;refine⟨g1,?_⟩;exact cz (RY ρ w r0 ((A.later Ft hG).cell Ft)) ⟨ah.refl _,rfl⟩
 ·refine .inr fun ρ w hcs hG hr=>?_
  rw[t2] at hr;have r0:=hr.1;simp only[rZ] at r0;refine⟨g2,?_⟩;exact cz (N3 ρ w (r0.trans Hc) (A.later Ft hG).ptr) ⟨ah.refl _,rfl⟩
 ·refine .inr fun ρ w hcs hG hr=>?_
  rw[t3] at hr;have r0:=hr.1;simp only[se] at r0;refine⟨g3,?_⟩;have hrun:=jW ρ w hcs r0;show Ox _ _ _ _ _;unfold Ox;rw[hrun];exact kG w hG
 ·refine .inr fun ρ w hcs hG hr=>?_
  rw[t4] at hr;have r0:=hr.1;simp only[Av] at r0;refine⟨g4,?_⟩;exact cz (QJ ρ w r0) ⟨ah.refl _,rfl⟩
 ·refine .inr fun ρ w hcs hG hr=>?_
  rw[t5] at hr;refine⟨g5,?_⟩;exact cz (hz0 ρ w hcs) ⟨aa _ _,trivial⟩
 ·exact .inl (by decide)
 ·exact .inl (by decide)
 ·exact .inl (by decide)
 ·exact .inl (by decide)
 ·exact .inl (by decide)
end
def MS (o0 o1 o2 o3 o4 o5 o6 o7 o8:Oper)(s0 s1 d0 d1 d2 d3 d4 d5 d6:Tmp):Bool:=
 (tmpsOf o0== [s0])&&(ct [o0,o1,o2,o3,o4,o5,o6,o7,o8] o0 s0==none)&&(tmpsOf o1== [s1])&&(ct [o0,o1,o2,o3,o4,o5,o6,o7,o8] o1 s1==none)&&(tmpsOf o2== [d1])&&(ct [o0,o1,o2,o3,o4,o5,o6,o7,o8] o2 d1==some 1)&&(tmpsOf o3== [d0])&&(ct [o0,o1,o2,o3,o4,o5,o6,o7,o8] o3 d0==some 0)&&(tmpsOf o4== [])&&(tmpsOf o5== [d0,d4])&&(ct [o0,o1,o2,o3,o4,o5,o6,o7,o8] o5 d0==some 0)&&(ct [o0,o1,o2,o3,o4,o5,o6,o7,o8] o5 d4==some 4)&&(tmpsOf o6== [d5,d3])&&(ct [o0,o1,o2,o3,o4,o5,o6,o7,o8] o6 d5==some 5)&&(ct [o0,o1,o2,o3,o4,o5,o6,o7,o8] o6 d3==some 3)&&(tmpsOf o7== [d6,d2])&&(ct [o0,o1,o2,o3,o4,o5,o6,o7,o8] o7 d6==some 6)&&(ct [o0,o1,o2,o3,o4,o5,o6,o7,o8] o7 d2==some 2)&&(tmpsOf o8== [s0,d5])&&(ct [o0,o1,o2,o3,o4,o5,o6,o7,o8] o8 s0==none)&&(ct [o0,o1,o2,o3,o4,o5,o6,o7,o8] o8 d5==some 5)&& o0.guard.isNone && o1.guard.isNone && o2.guard.isNone && o3.guard.isNone && o4.guard.isNone && o5.guard.isNone && o6.guard.isNone && o7.guard.isNone && o8.guard.isNone && iq o5 0 && iq o5 2 && iq o5 4 && iq o6 5 && iq o7 5 && iq o8 5
def lX (γ:uo)(v:Value)(acc:List Tr)(lg dp:Bool)(l r:bH)(t:Tr)(n0:Nat)(σ:Nat→Option Value)(w:World):Prop:=
 match σ 5 with
 | none=>σ 6=none∧σ 7=none∧σ 8=none∧(∀x,σ 0=some x→x=v)∧Ir γ v acc lg dp l r t n0 (σ 2) (σ 4) w
 | some a=>(σ 0).isSome=true∧(σ 4).isSome=true∧(∀x,σ 0=some x→x=v)∧∃c,σ 2=some c∧MR γ v acc lg dp r t a c (σ 7).isSome (σ 8).isSome w∧∀x,σ 6=some x→∃G cap,a=.slice (some ⟨G,0,none⟩) (acc.length+1) cap∧x=.pointer (some ⟨G,acc.length*7,none⟩)
theorem Pf {γ:uo}(F:γ.Fit) {v:Value} {acc:List Tr} {lg dp:Bool} {l r:bH} {t:Tr} {n0:Nat}(σ:Nat→Option Value)(w:World)(h:lX γ v acc lg dp l r t n0 σ w):lX γ v acc lg dp l r t n0 σ w.drew:=by
 have hb:Below w.heap.size w w.drew:=(Below.refl _ _).drew;unfold lX at*;cases ha:σ 5 with
 | none=>rw[ha] at h;obtain⟨h1,h2,h3,h4,h5⟩:=h;exact⟨h1,h2,h3,h4,h5.later F hb⟩
 | some a=>rw[ha] at h;obtain⟨h1,h2,h3,c,h4,h5,h6⟩:=h;exact⟨h1,h2,h3,c,h4,h5.later F hb,h6⟩
section
variable {γ:uo} {v:Value} {acc:List Tr} {lg dp:Bool} {l r:bH} {t:Tr} {w0:World} {Q:Exit→Act→World→Prop} {a0:Act} {id:Nat} {o0 o1 o2 o3 o4 o5 o6 o7 o8:Oper} {s0 s1 d0 d1 d2 d3 d4 d5 d6:Tmp} {vs0 vs1:Value} {F:FuncId} {args:Array Value}
theorem KX (Ft:γ.Fit)
  (hm:Tryz.prog.follows .mixedOrders=true) (aO:eQ [o0,o1,o2,o3,o4,o5,o6,o7,o8] a0.tmps.size [o0,o1,o2,o3,o4,o5,o6,o7,o8] 0=true) (hz:fL ([o0,o1,o2,o3,o4,o5,o6,o7,o8]++ []) [] 9=true) (rW:MS o0 o1 o2 o3 o4 o5 o6 o7 o8 s0 s1 d0 d1 d2 d3 d4 d5 d6=true)
  (Fa:a0.eval (.tmp s0)=vs0) (Hc:a0.eval (.tmp s1)=vs1)
  (hs0:vs0=.pointer (some ⟨γ.qb,γ.k,none⟩))
  (RY:∀ρ w,ρ (.tmp s0)=.pointer (some ⟨γ.qb,γ.k,none⟩)→w.cell? ⟨γ.qb,γ.k,none⟩=some v→(execOp ρ o0).run Tryz.prog w=.ok (.value v) w)
  (N3:∀ρ w,ρ (.tmp s1)=vs1→w.cell? ⟨γ.pb,0,none⟩=some γ.ρ.ptr→(execOp ρ o1).run Tryz.prog w=.ok (.value γ.ρ.ptr) w)
  (jW:∀ρ w,dn ρ→ρ (.tmp d1)=γ.ρ.ptr→(execOp ρ o2).run Tryz.prog w=.ok (.enter F args) w)
  (QJ:∀ρ w,ρ (.tmp d0)=v→(execOp ρ o3).run Tryz.prog w=.ok (.value (.int .i64 (acc.length:Int))) w)
  (hz0:∀ρ w,dn ρ→(execOp ρ o4).run Tryz.prog w=.ok (.value (.slice (some ⟨w.heap.size,0,none⟩) 1 1)) (w.alloc (.cells eK 49)))
  (hap:∀ρ w x v' w',ρ (.tmp d0)=v→ρ (.tmp d4)=x→(Builtin.append_ #[25,25] 25 #[v,x]).run Tryz.prog w=.ok v' w'→(execOp ρ o5).run Tryz.prog w=.ok (.value v') w')
  (hix:∀ρ w G cap,ρ (.tmp d5)=.slice (some ⟨G,0,none⟩) (acc.length+1) cap→ρ (.tmp d3)=.int .i64 (acc.length:Int)→(execOp ρ o6).run Tryz.prog w=.ok (.value (.pointer (some ⟨G,acc.length*7,none⟩))) w)
  (hst:∀ρ w G (y:Ex),ρ (.tmp d6)=.pointer (some ⟨G,acc.length*7,none⟩)→ρ (.tmp d2)=ee y→(∀j u,eK[j]?=some u→w.cell? ⟨G,acc.length*7+j,none⟩=some u)→(∀i,w.frozen? ⟨G,i,none⟩=false)→(execOp ρ o7).run Tryz.prog w=.ok .skip (pg w G (acc.length*7) y))
  (hsp:∀ρ w A n c,ρ (.tmp s0)=.pointer (some ⟨γ.qb,γ.k,none⟩)→ρ (.tmp d5)=.slice A n c→w.cell? ⟨γ.qb,γ.k,none⟩=some v→w.frozen? ⟨γ.qb,γ.k,none⟩=false→(execOp ρ o8).run Tryz.prog w=.ok .skip (w.setCell ⟨γ.qb,γ.k,none⟩ (.slice A n c)))
  (A:γ.at_ gL 49 v acc w0) (D:bJ γ.ρ γ.W0 w0 l lg dp) (hlen:acc.length≤5000)
  (kG:∀w,γ.ρ.ij w l lg dp→Calls Tryz.prog F args w fun e w'=>∃y,e=.returned (ee y)∧t.at_ w' (eD w.heap.size w') y∧bJ γ.ρ w w' r lg (dp || decide (32 < t.depth)))
  (uU:∀a' w,a'.defers=a0.defers→γ.acc gL 49 (acc++ [t]) w→bJ γ.ρ γ.W0 w r lg (dp || decide (32 < t.depth))→wpList Tryz.prog [o0,o1,o2,o3,o4,o5,o6,o7,o8].toArray Q [] a' w):
  (Code.region id [o0,o1,o2,o3,o4,o5,o6,o7,o8].toArray true).wp Tryz.prog Q a0 w0:=by
 simp only[MS,Bool.and_eq_true,beq_iff_eq,Option.isNone_iff_eq_none] at rW;obtain⟨⟨⟨⟨⟨⟨⟨⟨⟨⟨⟨⟨⟨⟨⟨⟨⟨⟨⟨⟨⟨⟨⟨⟨⟨⟨⟨⟨⟨⟨⟨⟨⟨⟨⟨t0,rX⟩,t1⟩,rY⟩,t2⟩,rZ⟩,t3⟩,se⟩,t4⟩,t5⟩,Fb⟩,Sa⟩,t6⟩,yO⟩,Hd⟩,t7⟩,Fc⟩,SU⟩,t8⟩,He⟩,Hf⟩,g0⟩,g1⟩,g2⟩,g3⟩,g4⟩,g5⟩,g6⟩,g7⟩,g8⟩,abC⟩,abD⟩,ago⟩,Xl⟩,abE⟩,abF⟩:=rW;have hv0:∀G,v.ownBlock=some G→G < w0.heap.size:=fun G hG=>(A.ge hG).2
 have hB0:=A.sz;have dfr:∀(ls:List Oper) (k:Nat) (V:Nat→World→Value→Prop) (K:Act→World→Prop) (a:Act) (w:World),(∀a':Act,a'.defers=a.defers→K a' w)→kA V K ls k a w:=by
  intro ls;induction ls with
  | nil=>intro k V K a w h;exact h a rfl
  | cons o ls ih=>
    intro k V K a w h;unfold kA;cases o.dst with
    | none=>exact ih _ _ _ _ _ h
    | some d=>exact fun x _=>ih _ _ _ _ _ fun a' ha'=>h a' (ha'.trans rfl)
 refine yr [] [o0,o1,o2,o3,o4,o5,o6,o7,o8] (by simp) (fun i=>if i=1 then γ.ρ.ptr else if i=3 then .int .i64 (acc.length:Int)else undef) [0,2,4,5,6,7,8] (lX γ v acc lg dp l r t w0.heap.size) (Pf Ft) ⟨rfl,rfl,rfl,(fun x e=>by cases e),Ir.start A D⟩ hm aO hz rfl ?_ ?_
 ·refine⟨?_,?_,?_,?_,?_,?_,?_,?_,?_,trivial⟩
  ·intro ρ w σ hcs hG hr he hno;rw[t0] at hr;have r0:=hr.1;simp only[rX] at r0;refine⟨g0,?_⟩;rw[if_pos (by decide)];have sB:=hno (by decide);unfold lX at hG;have ha:σ 5=none:=by
    cases ha:σ 5 with
    | none=>rfl
    | some a=>rw[ha] at hG;have:=hG.1;rw[sB] at this;cases this
   rw[ha] at hG;obtain⟨k1,k2,k3,k4,hA⟩:=hG;refine cz (RY ρ w ((r0.trans Fa).trans hs0) (hA.at_.cell Ft)) ?_;show lX γ v acc lg dp l r t w0.heap.size _ _;unfold lX;simp only[oP,ha,k1,k2,k3,Nat.reduceEqDiff,if_true,if_false];exact⟨trivial,trivial,trivial,fun x e=>by injection e with e;exact e.symm,hA⟩
  ·intro ρ w σ hcs hG hr he hno;rw[t1] at hr;have r0:=hr.1;simp only[rY] at r0;refine⟨g1,?_⟩;refine N3 ρ w (r0.trans Hc) ?_;unfold lX at hG;cases ha:σ 5 with
   | none=>rw[ha] at hG;exact hG.2.2.2.2.at_.ptr
   | some a=>rw[ha] at hG;obtain⟨_,_,_,c,_,hB,_⟩:=hG;exact hB.tK.cell 0
  ·intro ρ w σ hcs hG hr he hno;rw[t2] at hr;have r0:=hr.1;simp only[rZ] at r0;unfold mq at r0;rw[if_neg (by decide)] at r0;refine⟨g2,?_⟩;rw[if_pos (by decide)];have sB:=hno (by decide);unfold lX at hG;have ha:σ 5=none:=by
    cases ha:σ 5 with
    | none=>rfl
    | some a=>rw[ha] at hG;obtain⟨_,_,_,c,hc,_⟩:=hG;rw[sB] at hc;cases hc
   rw[ha] at hG;obtain⟨k1,k2,k3,k4,hA⟩:=hG;rw[sB] at hA;have hrun:=jW ρ w hcs r0;unfold xR;rw[hrun];refine(kG w (hA.no rfl).at_).mono ?_;rintro e w' ⟨y,rfl,hat,dd⟩;refine⟨ee y,rfl,?_⟩;show lX γ v acc lg dp l r t w0.heap.size _ _;unfold lX;simp only[oP,ha,k1,k2,k3,Nat.reduceEqDiff,if_true,if_false];exact⟨trivial,trivial,trivial,k4,hA.call Ft hB0 hat dd⟩
  ·intro ρ w σ hcs hG hr he hno;rw[t3] at hr;have r0:=hr.1;simp only[se] at r0;unfold mq at r0;rw[if_pos (by decide)] at r0;refine⟨g3,?_⟩;refine QJ ρ w ?_;unfold lX at hG;cases ha:σ 5 with
   | none=>rw[ha] at hG;exact hG.2.2.2.1 _ r0
   | some a=>rw[ha] at hG;exact hG.2.2.1 _ r0
  ·intro ρ w σ hcs hG hr he hno;rw[t4] at hr;refine⟨g4,?_⟩;rw[if_pos (by decide)];have sB:=hno (by decide);unfold lX at hG;have ha:σ 5=none:=by
    cases ha:σ 5 with
    | none=>rfl
    | some a=>rw[ha] at hG;have:=hG.2.1;rw[sB] at this;cases this
   rw[ha] at hG;obtain⟨k1,k2,k3,k4,hA⟩:=hG;rw[sB] at hA;refine cz (hz0 ρ w hcs) ?_;show lX γ v acc lg dp l r t w0.heap.size _ _;unfold lX;simp only[oP,ha,k1,k2,k3,Nat.reduceEqDiff,if_true,if_false];exact⟨trivial,trivial,trivial,k4,hA.Zw Ft⟩
  ·intro ρ w σ hcs hG hr he hno;rw[t5] at hr;have r0:=hr.1;simp only[Fb] at r0;unfold mq at r0;rw[if_pos (by decide)] at r0;have r1:=hr.2.1;simp only[Sa] at r1;unfold mq at r1;rw[if_pos (by decide)] at r1;refine⟨g5,?_⟩;rw[if_pos (by decide)];have sB:=hno (by decide);unfold lX at hG;rw[sB] at hG;obtain⟨k1,k2,k3,k4,hA⟩:=hG;have Cw:=he 2 (dZ.1 abD) (by decide);have N4:=he 0 (dZ.1 abC) (by decide);obtain⟨cv,hcv⟩:=Option.isSome_iff_exists.1 Cw;obtain⟨lv,hlv⟩:=Option.isSome_iff_exists.1 N4;rw[hcv,r1] at hA;obtain⟨v',w',gO,hPB⟩:=hA.app Ft hB0 hv0 hlen;refine cz (hap ρ w (ρ (.tmp d4)) v' w' (k4 _ r0) rfl gO) ?_;show lX γ v acc lg dp l r t w0.heap.size _ _;unfold lX;simp only[oP,hcv,hlv,k1,k2,k3,r1,Nat.reduceEqDiff,if_true,if_false,Option.isSome_some,Option.isSome_none];refine⟨trivial,trivial,?_,cv,rfl,hPB,?_⟩
   ·intro x e;exact k4 x (hlv.trans e)
   ·intro x e;cases e
  ·intro ρ w σ hcs hG hr he hno;rw[t6] at hr;have r0:=hr.1;simp only[yO] at r0;unfold mq at r0;rw[if_pos (by decide)] at r0;have r1:=hr.2.1;simp only[Hd] at r1;unfold mq at r1;rw[if_neg (by decide)] at r1;refine⟨g6,?_⟩;rw[if_pos (by decide)];have sB:=hno (by decide);unfold lX at hG;have ha:=he 5 (dZ.1 Xl) (by decide);obtain⟨a,ha⟩:=Option.isSome_iff_exists.1 ha;rw[ha] at hG;obtain⟨k1,k2,k3,c,hc,hB,k5⟩:=hG;have hrow:=hB.row;obtain⟨G,cap,ys,y,e1,e2,e3,e4,e5,e6⟩:=hrow;rw[ha] at r0;injection r0 with r0;refine cz (hix ρ w G cap (r0.symm.trans e1) r1) ?_;show lX γ v acc lg dp l r t w0.heap.size _ _;unfold lX;simp only[oP,ha,hc,sB,Nat.reduceEqDiff,if_true,if_false];exact⟨k1,k2,k3,c,rfl,hB,fun x e=>by injection e with e;exact⟨G,cap,e1,e.symm⟩⟩
  ·intro ρ w σ hcs hG hr he hno;rw[t7] at hr;have r0:=hr.1;simp only[Fc] at r0;unfold mq at r0;rw[if_pos (by decide)] at r0;have r1:=hr.2.1;simp only[SU] at r1;unfold mq at r1;rw[if_pos (by decide)] at r1;refine⟨g7,?_⟩;rw[if_pos (by decide)];have sB:=hno (by decide);unfold lX at hG;have ha:=he 5 (dZ.1 abE) (by decide);obtain⟨a,ha⟩:=Option.isSome_iff_exists.1 ha;rw[ha] at hG;obtain⟨k1,k2,k3,c,hc,hB,k5⟩:=hG;have hrow:=hB.row;obtain⟨G,cap,ys,y,e1,e2,e3,e4,e5,e6⟩:=hrow;obtain⟨G2,aah,e7,e8⟩:=k5 _ r0;rw[hc] at r1;injection r1 with r1;have hown:a.ownBlock=some G2:=by rw[e7];rfl
   rw[sB] at hB;rw[sB] at e6;have e6:df bl 49 7 w γ.B a (ys++ [zeroE]):=e6;obtain⟨cur,SS⟩:=(e6.lt hown).2.2;obtain⟨G3,c3,fE,_,_,zJ⟩:=e6.cell (f:=bl) (fun _=>rfl) (k:=acc.length) (x:=zeroE) (by rw[← e3];simp);have hG3:G3=G2:=by rw[fE] at hown;simp[Value.ownBlock] at hown;exact hown
   subst hG3;subst e2;have hrun:=hst ρ w G3 y e8 r1.symm (fun j u hu=>zJ j u (by have:(bl zeroE).toArray[j]?=some u:=hu;simpa using this)) (fun i=>au.frozen SS i);unfold xR;rw[hrun];show lX γ v acc lg dp l r t w0.heap.size _ _;unfold lX;simp only[oP,ha,hc,Nat.reduceEqDiff,if_true,if_false,Option.isSome_some];exact⟨k1,k2,k3,_,rfl,hB.elem Ft e7,k5⟩
  ·intro ρ w σ hcs hG hr he hno;rw[t8] at hr;have r0:=hr.1;simp only[He] at r0;have r1:=hr.2.1;simp only[Hf] at r1;unfold mq at r1;rw[if_pos (by decide)] at r1;refine⟨g8,?_⟩;rw[if_pos (by decide)];have sB:=hno (by decide);unfold lX at hG;have ha:=he 5 (dZ.1 abF) (by decide);obtain⟨a,ha⟩:=Option.isSome_iff_exists.1 ha;rw[ha] at hG;obtain⟨k1,k2,k3,c,hc,hB,k5⟩:=hG;have hrow:=hB.row;obtain⟨G,cap,ys,y,e1,e2,e3,e4,e5,e6⟩:=hrow;rw[ha] at r1;injection r1 with r1;rw[sB] at hB;have hcell:w.cell? ⟨γ.qb,γ.k,none⟩=some v:=by rw[hB.blk.cell];simp[Ft.kS]
   have hrun:=hsp ρ w (some ⟨G,0,none⟩) (acc.length+1) cap ((r0.trans Fa).trans hs0) (r1.symm.trans e1) hcell (hB.blk.frozen _);unfold xR;rw[hrun];show lX γ v acc lg dp l r t w0.heap.size _ _;unfold lX;simp only[oP,ha,hc,Nat.reduceEqDiff,if_true,if_false,Option.isSome_some];have hL:=hB.list Ft;rw[e1] at hL ⊢;exact⟨k1,k2,k3,c,rfl,hL,by rw[e1] at k5;exact k5⟩
 ·intro σ w hall hG;have ha:=hall 5 (by decide);obtain⟨a,ha⟩:=Option.isSome_iff_exists.1 ha;have h8:=hall 7 (by decide);have h10:=hall 8 (by decide);unfold lX at hG;rw[ha,h8,h10] at hG;obtain⟨_,_,_,c,_,hB,_⟩:=hG;exact dfr _ _ _ _ _ _ fun a' ha'=>uU a' w ha' ⟨a,hB.done⟩ hB.did
theorem xF (Ft:γ.Fit) {E:List PanicEntry→World→Prop}
  (hm:Tryz.prog.follows .mixedOrders=true) (aO:eQ [o0,o1,o2,o3,o4,o5,o6,o7,o8] a0.tmps.size [o0,o1,o2,o3,o4,o5,o6,o7,o8] 0=true) (hz:fL ([o0,o1,o2,o3,o4,o5,o6,o7,o8]++ []) [] 9=true) (rW:MS o0 o1 o2 o3 o4 o5 o6 o7 o8 s0 s1 d0 d1 d2 d3 d4 d5 d6=true)
  (Fa:a0.eval (.tmp s0)=vs0) (Hc:a0.eval (.tmp s1)=vs1)
  (hs0:vs0=.pointer (some ⟨γ.qb,γ.k,none⟩))
  (RY:∀ρ w,ρ (.tmp s0)=.pointer (some ⟨γ.qb,γ.k,none⟩)→w.cell? ⟨γ.qb,γ.k,none⟩=some v→(execOp ρ o0).run Tryz.prog w=.ok (.value v) w)
  (N3:∀ρ w,ρ (.tmp s1)=vs1→w.cell? ⟨γ.pb,0,none⟩=some γ.ρ.ptr→(execOp ρ o1).run Tryz.prog w=.ok (.value γ.ρ.ptr) w)
  (jW:∀ρ w,dn ρ→ρ (.tmp d1)=γ.ρ.ptr→(execOp ρ o2).run Tryz.prog w=.ok (.enter F args) w)
  (QJ:∀ρ w,ρ (.tmp d0)=v→(execOp ρ o3).run Tryz.prog w=.ok (.value (.int .i64 (acc.length:Int))) w)
  (hz0:∀ρ w,dn ρ→(execOp ρ o4).run Tryz.prog w=.ok (.value (.slice (some ⟨w.heap.size,0,none⟩) 1 1)) (w.alloc (.cells eK 49)))
  (CW:Dd [o0,o1,o2,o3,o4,o5,o6,o7,o8] 2 [5,6,7,8]=true) (A:γ.at_ gL 49 v acc w0)
  (kG:∀w,ah w0 w→Calls Tryz.prog F args w fun e w'=>∃C,e=.panicked C∧E C w') (hQ:∀C a w,a.defers=a0.defers→E C w→Q (.panic C) a w):
  (Code.region id [o0,o1,o2,o3,o4,o5,o6,o7,o8].toArray true).wp Tryz.prog Q a0 w0:=by
 simp only[MS,Bool.and_eq_true,beq_iff_eq,Option.isNone_iff_eq_none] at rW;obtain⟨⟨⟨⟨⟨⟨⟨⟨⟨⟨⟨⟨⟨⟨⟨⟨⟨⟨⟨⟨⟨⟨⟨⟨⟨⟨⟨⟨⟨⟨⟨⟨⟨⟨⟨t0,rX⟩,t1⟩,rY⟩,t2⟩,rZ⟩,t3⟩,se⟩,t4⟩,t5⟩,Fb⟩,Sa⟩,t6⟩,yO⟩,Hd⟩,t7⟩,Fc⟩,SU⟩,t8⟩,He⟩,Hf⟩,g0⟩,g1⟩,g2⟩,g3⟩,g4⟩,g5⟩,g6⟩,g7⟩,g8⟩,abC⟩,abD⟩,ago⟩,Xl⟩,abE⟩,abF⟩:=rW;refine lU [] [o0,o1,o2,o3,o4,o5,o6,o7,o8] (by simp) 2 [5,6,7,8] E ah ah.refl (fun _ _ _=>ah.trans) ah.drew (fun i _ x=>if i=0 then x=(v)else if i=1 then x=(γ.ρ.ptr)else if i=3 then x=(.int .i64 (acc.length:Int))else True) (fun _ _ _ _ h _=>h) hm aO hz (by show 2 < 9;decide) CW ?_ hQ;refine⟨?_,?_,?_,?_,?_,?_,?_,?_,?_,trivial⟩
 ·refine .inr fun ρ w hcs hG hr=>?_
  rw[t0] at hr;have r0:=hr.1;simp only[rX] at r0;refine⟨g0,?_⟩;exact cz (RY ρ w ((r0.trans Fa).trans hs0) ((A.later Ft hG).cell Ft)) ⟨ah.refl _,rfl⟩
 ·refine .inr fun ρ w hcs hG hr=>?_
  rw[t1] at hr;have r0:=hr.1;simp only[rY] at r0;refine⟨g1,?_⟩;exact cz (N3 ρ w (r0.trans Hc) (A.later Ft hG).ptr) ⟨ah.refl _,rfl⟩
 ·refine .inr fun ρ w hcs hG hr=>?_
  rw[t2] at hr;have r0:=hr.1;simp only[rZ] at r0;refine⟨g2,?_⟩;have hrun:=jW ρ w hcs r0;show Ox _ _ _ _ _;unfold Ox;rw[hrun];exact kG w hG
 ·refine .inr fun ρ w hcs hG hr=>?_
  rw[t3] at hr;have r0:=hr.1;simp only[se] at r0;refine⟨g3,?_⟩;exact cz (QJ ρ w r0) ⟨ah.refl _,rfl⟩
 ·refine .inr fun ρ w hcs hG hr=>?_
  rw[t4] at hr;refine⟨g4,?_⟩;exact cz (hz0 ρ w hcs) ⟨aa _ _,trivial⟩
 ·exact .inl (by decide)
 ·exact .inl (by decide)
 ·exact .inl (by decide)
 ·exact .inl (by decide)
end
set_option maxHeartbeats 4000000
set_option maxRecDepth 100000
theorem Iw (γ:uo)(F:γ.Fit)(Pg:γ.TQ=29)(hk:γ.k=4)(acc:List Tr)(W:World)(l:bH)(lg dp:Bool)(hn:acc.length≤5000)(hs:γ.acc gL 49 acc W)(hd:bJ γ.ρ γ.W0 W l lg dp):
  Calls Tryz.prog 101 #[.pointer (some ⟨γ.qb,0,none⟩),.pointer (some ⟨γ.pb,0,none⟩)] W (ru γ.ρ γ.W0 (fun t=>decide (32 < t.depth)) cW (γ.acc gL 49) acc lg dp l):=by
 obtain⟨v,A⟩:=hs;obtain⟨ys,ho,ha⟩:=A.row.has;obtain⟨A0,c0,hv⟩:=ho.form;have xE:ys.length=acc.length:=ha.len;rw[xE] at hv;subst hv;have SV:(Addr.mk γ.qb 4 none)=⟨γ.qb,γ.k,none⟩:=by rw[hk]
 clear ho ha xE Pg;go_enter Tryz.func101,Tryz.ntmps101;cases hx:cW l with
 | ok z=>
   obtain⟨t,r⟩:=z;go_wp2_with fail;refine Iu (lg:=lg) (dp:=dp) (l:=l) (r:=r) (t:=t) (γ:=γ) (v:=.slice A0 acc.length c0) (acc:=acc) (s0:=0) (s1:=1) (d0:=2) (d1:=3) (d2:=4) (d3:=5) (d4:=6) (d5:=7) (d6:=8) (d7:=9) (d9:=10) (vs0:=.pointer (some ⟨γ.qb,0,none⟩)) (vs1:=.pointer (some ⟨γ.pb,0,none⟩)) (F:=77) (args:= #[γ.ρ.ptr]) F (by kernel_rfl) (by kernel_rfl) (by kernel_rfl) (by kernel_rfl) rfl rfl ?_ ?_ ?_ ?_ ?_ ?_ ?_ ?_ ?_ ?_ ?_ A hd hn ?_ ?_
   ·intro ρ' w' h';rw[← SV];simp[go_sem,h']
   ·intro ρ' w' h';rw[← SV];simp[go_sem,h']
   ·intro ρ' w' h' hc';rw[← SV] at h' hc';simp[go_sem,h',hc']
   ·intro ρ' w' h' hc';simp[go_sem,h',hc']
   ·intro ρ' w' hc' h';simp[go_sem,h',hc'.const,hc'.func]
   ·intro ρ' w' h';simp[go_sem,h']
   ·intro ρ' w' hc';simp[go_sem,hc'.const,eK]
   ·intro ρ' w' x' v' Co kB jH gO;simp only[execOp,resolve,invoke,builtin,Sem.run_bind,Sem.run_pure,Result.andThen_ok,List.map_toArray,List.map_cons,List.map_nil,kB,jH,gO]
   ·intro ρ' w' G cap kB jH;simp[go_sem,kB,jH];intro hh;exact absurd hh (by omega)
   ·intro ρ' w' G y kB jH jW uY;have q0:=jW 0 _ rfl;have q1:=jW 1 _ rfl;have q2:=jW 2 _ rfl;have q3:=jW 3 _ rfl;have q4:=jW 4 _ rfl;have q5:=jW 5 _ rfl;have q6:=jW 6 _ rfl;simp only[Nat.add_zero] at q0;unfold ee bl at jH;simp[go_sem,kB,jH,q0,q1,q2,q3,q4,q5,q6,uY,pg]
   ·intro ρ' w' A1 n1 c1 kB jH hc' hf';simp[go_sem,kB,jH,hc',hf']
   ·intro w' QU;refine(lr γ.ρ w' l lg dp QU).mono ?_;intro e w'' hp;rcases hp.cases with ⟨t3,r3,v3,aO,rfl,y,rfl,hat,d2⟩|⟨m,ar,_⟩
    ·rw[hx] at aO;injection aO with aO;injection aO with h1 h2;subst h1 h2;exact⟨y,rfl,hat,d2⟩
    ·rw[hx] at ar;cases ar
   ·intro a' w' N5 oL hdd;have hE:ru γ.ρ γ.W0 (fun t=>decide (32 < t.depth)) cW (γ.acc gL 49) acc lg dp l (.returned (.tuple #[])) w':=ru.ok hx oL hdd;go_wp2_with fail;exact bodyPost_end (results_none Tryz.results101 _ _ _) N5 hE
 | error m=>
   go_wp2_with fail;refine wq (E:=fun C W=>C=[qG (γ.ρ.placeOf m)]∧γ.W0.grownBy W (some γ.ρ.g)) (γ:=γ) (v:=.slice A0 acc.length c0) (acc:=acc) (s0:=0) (s1:=1) (d0:=2) (d1:=3) (d2:=4) (d3:=5) (d4:=6) (d5:=7) (d6:=8) (d7:=9) (d9:=10) (vs0:=.pointer (some ⟨γ.qb,0,none⟩)) (vs1:=.pointer (some ⟨γ.pb,0,none⟩)) (F:=77) (args:= #[γ.ρ.ptr]) F (by kernel_rfl) (by kernel_rfl) (by kernel_rfl) (by kernel_rfl) rfl rfl ?_ ?_ ?_ ?_ ?_ ?_ ?_ (by kernel_rfl) A ?_ ?_
   ·intro ρ' w' h';rw[← SV];simp[go_sem,h']
   ·intro ρ' w' h';rw[← SV];simp[go_sem,h']
   ·intro ρ' w' h' hc';rw[← SV] at h' hc';simp[go_sem,h',hc']
   ·intro ρ' w' h' hc';simp[go_sem,h',hc']
   ·intro ρ' w' hc' h';simp[go_sem,h',hc'.const,hc'.func]
   ·intro ρ' w' h';simp[go_sem,h']
   ·intro ρ' w' hc';simp[go_sem,hc'.const,eK]
   ·intro w' hw';have We:=hd.later hw';refine(lr γ.ρ w' l lg dp We.at_).mono ?_;intro e w'' hp;rcases hp.cases with ⟨t3,r3,v,aO,_⟩|⟨m',ar,rfl,hg⟩
    ·rw[hx] at aO;cases aO
    ·rw[hx] at ar;injection ar with ar;subst ar;exact⟨_,rfl,rfl,af We.grown hg⟩
   ·rintro C a W' N5 ⟨rfl,hg⟩;have hE:ru γ.ρ γ.W0 (fun t=>decide (32 < t.depth)) cW (γ.acc gL 49) acc lg dp l (.panicked [qG (γ.ρ.placeOf m)]) W':=ru.err hx ⟨rfl,hg⟩;try simp only[Exit.inBlock,Exit.then]
    exact ag (P:=Tryz.prog) (fn:=Tryz.f101) N5 hE
theorem Ix (γ:uo)(F:γ.Fit)(Pg:γ.TQ=25)(hk:γ.k=0)(acc:List Tr)(W:World)(l:bH)(lg dp:Bool)(hn:acc.length≤5000)(hs:γ.acc gL 49 acc W)(hd:bJ γ.ρ γ.W0 W l lg dp):
  Calls Tryz.prog 76 #[.pointer (some ⟨γ.qb,0,none⟩),.pointer (some ⟨γ.pb,0,none⟩)] W (ru γ.ρ γ.W0 (fun t=>decide (32 < t.depth)) cW (γ.acc gL 49) acc lg dp l):=by
 obtain⟨v,A⟩:=hs;obtain⟨ys,ho,ha⟩:=A.row.has;obtain⟨A0,c0,hv⟩:=ho.form;have xE:ys.length=acc.length:=ha.len;rw[xE] at hv;subst hv;have SV:(Addr.mk γ.qb 0 none)=⟨γ.qb,γ.k,none⟩:=by rw[hk]
 clear ho ha xE Pg;go_enter Tryz.func76,Tryz.ntmps76;cases hx:cW l with
 | ok z=>
   obtain⟨t,r⟩:=z;go_wp2_with fail;refine KX (lg:=lg) (dp:=dp) (l:=l) (r:=r) (t:=t) (γ:=γ) (v:=.slice A0 acc.length c0) (acc:=acc) (s0:=0) (s1:=1) (d0:=2) (d1:=3) (d2:=4) (d3:=5) (d4:=6) (d5:=7) (d6:=8) (vs0:=.pointer (some ⟨γ.qb,0,none⟩)) (vs1:=.pointer (some ⟨γ.pb,0,none⟩)) (F:=77) (args:= #[γ.ρ.ptr]) F (by kernel_rfl) (by kernel_rfl) (by kernel_rfl) (by kernel_rfl) rfl rfl ?_ ?_ ?_ ?_ ?_ ?_ ?_ ?_ ?_ ?_ A hd hn ?_ ?_
   ·rw[← SV]
   ·intro ρ' w' h' hc';rw[← SV] at h' hc';simp[go_sem,h',hc']
   ·intro ρ' w' h' hc';simp[go_sem,h',hc']
   ·intro ρ' w' hc' h';simp[go_sem,h',hc'.const,hc'.func]
   ·intro ρ' w' h';simp[go_sem,h']
   ·intro ρ' w' hc';simp[go_sem,hc'.const,eK]
   ·intro ρ' w' x' v' Co kB jH gO;simp only[execOp,resolve,invoke,builtin,Sem.run_bind,Sem.run_pure,Result.andThen_ok,List.map_toArray,List.map_cons,List.map_nil,kB,jH,gO]
   ·intro ρ' w' G cap kB jH;simp[go_sem,kB,jH];intro hh;exact absurd hh (by omega)
   ·intro ρ' w' G y kB jH jW uY;have q0:=jW 0 _ rfl;have q1:=jW 1 _ rfl;have q2:=jW 2 _ rfl;have q3:=jW 3 _ rfl;have q4:=jW 4 _ rfl;have q5:=jW 5 _ rfl;have q6:=jW 6 _ rfl;simp only[Nat.add_zero] at q0;unfold ee bl at jH;simp[go_sem,kB,jH,q0,q1,q2,q3,q4,q5,q6,uY,pg]
   ·intro ρ' w' A1 n1 c1 kB jH hc' hf';simp[go_sem,kB,jH,hc',hf']
   ·intro w' QU;refine(lr γ.ρ w' l lg dp QU).mono ?_;intro e w'' hp;rcases hp.cases with ⟨t3,r3,v3,aO,rfl,y,rfl,hat,d2⟩|⟨m,ar,_⟩
    ·rw[hx] at aO;injection aO with aO;injection aO with h1 h2;subst h1 h2;exact⟨y,rfl,hat,d2⟩
    ·rw[hx] at ar;cases ar
   ·intro a' w' N5 oL hdd;have hE:ru γ.ρ γ.W0 (fun t=>decide (32 < t.depth)) cW (γ.acc gL 49) acc lg dp l (.returned (.tuple #[])) w':=ru.ok hx oL hdd;go_wp2_with fail;exact bodyPost_end (results_none Tryz.results76 _ _ _) N5 hE
 | error m=>
   go_wp2_with fail;refine xF (E:=fun C W=>C=[qG (γ.ρ.placeOf m)]∧γ.W0.grownBy W (some γ.ρ.g)) (γ:=γ) (v:=.slice A0 acc.length c0) (acc:=acc) (s0:=0) (s1:=1) (d0:=2) (d1:=3) (d2:=4) (d3:=5) (d4:=6) (d5:=7) (d6:=8) (vs0:=.pointer (some ⟨γ.qb,0,none⟩)) (vs1:=.pointer (some ⟨γ.pb,0,none⟩)) (F:=77) (args:= #[γ.ρ.ptr]) F (by kernel_rfl) (by kernel_rfl) (by kernel_rfl) (by kernel_rfl) rfl rfl ?_ ?_ ?_ ?_ ?_ ?_ (by kernel_rfl) A ?_ ?_
   ·rw[← SV]
   ·intro ρ' w' h' hc';rw[← SV] at h' hc';simp[go_sem,h',hc']
   ·intro ρ' w' h' hc';simp[go_sem,h',hc']
   ·intro ρ' w' hc' h';simp[go_sem,h',hc'.const,hc'.func]
   ·intro ρ' w' h';simp[go_sem,h']
   ·intro ρ' w' hc';simp[go_sem,hc'.const,eK]
   ·intro w' hw';have We:=hd.later hw';refine(lr γ.ρ w' l lg dp We.at_).mono ?_;intro e w'' hp;rcases hp.cases with ⟨t3,r3,v,aO,_⟩|⟨m',ar,rfl,hg⟩
    ·rw[hx] at aO;cases aO
    ·rw[hx] at ar;injection ar with ar;subst ar;exact⟨_,rfl,rfl,af We.grown hg⟩
   ·rintro C a W' N5 ⟨rfl,hg⟩;have hE:ru γ.ρ γ.W0 (fun t=>decide (32 < t.depth)) cW (γ.acc gL 49) acc lg dp l (.panicked [qG (γ.ρ.placeOf m)]) W':=ru.err hx ⟨rfl,hg⟩;try simp only[Exit.inBlock,Exit.then]
    exact ag (P:=Tryz.prog) (fn:=Tryz.f76) N5 hE
end Go.Proofs.YtcneefmaghoejaaGreatDoor
