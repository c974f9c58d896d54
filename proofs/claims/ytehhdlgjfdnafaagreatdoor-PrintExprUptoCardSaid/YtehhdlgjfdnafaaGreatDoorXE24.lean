/- Parts of the proof. -/
import Derived.Test.YtehhdlgjfdnafaaGreatDoorXE20
import Derived.Test.YtehhdlgjfdnafaaGreatDoorXE23
namespace Go.Proofs.YtehhdlgjfdnafaaGreatDoor
variable{p:Prop}
set_option maxHeartbeats 90000000
set_option maxRecDepth 100000
open Go.Lib (hid)
open Go.ChangeShapes Go.WideShapes Go.ChangeAt Go.RowKit List
set_option linter.unusedVariables false
set_option linter.unusedSimpArgs false
def FR (o0 o1 o2 o3 o4 o5 o6 o7 o8 o9 mg:Oper)(s0 s1 d0 d1 d2 d3 d4 d5 d6 d7 d9:Tmp):Bool:=
 (tmpsOf o0== [s0])&&(bw [o0,o1,o2,o3,o4,o5,o6,o7,o8,o9,mg] o0 s0==none)&&(tmpsOf o1== [d0])&&(bw [o0,o1,o2,o3,o4,o5,o6,o7,o8,o9,mg] o1 d0==some 0)&&(tmpsOf o2== [s1])&&(bw [o0,o1,o2,o3,o4,o5,o6,o7,o8,o9,mg] o2 s1==none)&&(tmpsOf o3== [d2])&&(bw [o0,o1,o2,o3,o4,o5,o6,o7,o8,o9,mg] o3 d2==some 2)&&(tmpsOf o4== [d1])&&(bw [o0,o1,o2,o3,o4,o5,o6,o7,o8,o9,mg] o4 d1==some 1)&&(tmpsOf o5== [])&&(tmpsOf o6== [d1,d5])&&(bw [o0,o1,o2,o3,o4,o5,o6,o7,o8,o9,mg] o6 d1==some 1)&&(bw [o0,o1,o2,o3,o4,o5,o6,o7,o8,o9,mg] o6 d5==some 5)&&(tmpsOf o7== [d6,d4])&&(bw [o0,o1,o2,o3,o4,o5,o6,o7,o8,o9,mg] o7 d6==some 6)&&(bw [o0,o1,o2,o3,o4,o5,o6,o7,o8,o9,mg] o7 d4==some 4)&&(tmpsOf o8== [d7,d3])&&(bw [o0,o1,o2,o3,o4,o5,o6,o7,o8,o9,mg] o8 d7==some 7)&&(bw [o0,o1,o2,o3,o4,o5,o6,o7,o8,o9,mg] o8 d3==some 3)&&(tmpsOf o9== [s0])&&(bw [o0,o1,o2,o3,o4,o5,o6,o7,o8,o9,mg] o9 s0==none)&&(tmpsOf mg== [d9,d6])&&(bw [o0,o1,o2,o3,o4,o5,o6,o7,o8,o9,mg] mg d9==some 9)&&(bw [o0,o1,o2,o3,o4,o5,o6,o7,o8,o9,mg] mg d6==some 6)&& o0.guard.isNone && o1.guard.isNone && o2.guard.isNone && o3.guard.isNone && o4.guard.isNone && o5.guard.isNone && o6.guard.isNone && o7.guard.isNone && o8.guard.isNone && o9.guard.isNone && mg.guard.isNone && fB o6 1 && fB o6 3 && fB o6 5 && fB o7 6 && fB o8 6 && fB mg 6
def gb (γ:tM)(v:Value)(acc:List Tr)(lg dp:Bool)(l r:aF)(t:Tr)(n0:Nat)(σ:Nat->Option Value)(w:World):Prop:=
 match σ 6 with
 | none=>σ 7=none/\σ 8=none/\σ 10=none/\(∀x,σ 1=some x->x=v)/\IX γ v acc lg dp l r t n0 (σ 3) (σ 5) w
 | some a=>(σ 1).isSome=true/\(σ 5).isSome=true/\(∀x,σ 1=some x->x=v)/\∃c,σ 3=some c/\Nv γ v acc lg dp r t a c (σ 8).isSome (σ 10).isSome w/\∀x,σ 7=some x->∃G cap,a=.slice (some ⟨G,0,none⟩) (acc.length+1) cap/\x=.pointer (some ⟨G,acc.length*7,none⟩)
variable{γ:tM}{v:Value}{acc:List Tr}{lg dp:Bool}{l r:aF}{t:Tr}{n0:Nat}
theorem LQ(F:γ.Fit)      (σ:Nat->Option Value)(w:World)(h:gb γ v acc lg dp l r t n0 σ w):gb γ v acc lg dp l r t n0 σ w.drew:=by
 have hb:Below w.heap.size w w.drew:=(Below.refl _ _).drew;unfold gb at*
 cases ha:σ 6 with
 | none=>exact Zgl
 | some a=>exact ZfQ
section
variable {γ:tM} {v:Value} {acc:List Tr} {lg dp:Bool} {l r:aF} {t:Tr} {w0:World} {Q:Exit->Act->World->Prop} {a0:Act} {id:Nat} {o0 o1 o2 o3 o4 o5 o6 o7 o8 o9 mg:Oper} {s0 s1 d0 d1 d2 d3 d4 d5 d6 d7 d9:Tmp} {vs0 vs1:Value} {F:FuncId} {args:Array Value}
theorem zc5.KaI(h:p:=by show gb γ v acc lg dp l r t w0.heap.size _ _;unfold gb;exact ZeI):p:=h
theorem zfn.Kbx(h:p:=by have hrun:=hsp ρ w (some ⟨G,0,none⟩) (acc.length+1) cap r0 (r1.symm.trans e1) hcell (hB.blk.frozen _);unfold wk;rw[hrun];show gb γ v acc lg dp l r t w0.heap.size _ _;unfold gb;exact Zd3):p:=h
theorem zfN.KbI(h:p:=by show gb γ v acc lg dp l r t w0.heap.size _ _;unfold gb;exact Zef):p:=h
theorem zhl.Kco(h:p:=by show gb γ v acc lg dp l r t w0.heap.size _ _;unfold gb;exact ZeB):p:=h
theorem zhG.Kcx(h:p:=by rw[if_pos Tac] at r1;refine⟨g6,?_⟩;rw[if_pos Tac];have sJ:=hno Tac;unfold gb at hG;rw[sJ] at hG;obtain⟨k1,k2,k3,k4,hA⟩:=hG;have aai:=he 3 (cO.1 afm) Tac;have aaj:=he 1 (cO.1 afl) Tac;obtain⟨cv,hcv⟩:=Option.isSome_iff_exists.1 aai;obtain⟨lv,hlv⟩:=Option.isSome_iff_exists.1 aaj;rw[hcv,r1] at hA;obtain⟨v',w',rq,hPB⟩:=hA.app Ft hB0 hv0 hlen;refine ae (hap ρ w (ρ (.tmp d5)) v' w' (k4 _ r0) rfl rq) ?_;show gb γ v acc lg dp l r t w0.heap.size _ _;unfold gb;exact ZcU):p:=h
theorem zhI.Kcy(h:p:=by rw[if_neg Tac] at r1;refine⟨g7,?_⟩;rw[if_pos Tac];have sJ:=hno Tac;unfold gb at hG;have ha:=he 6 (cO.1 afn) Tac;open zfN in exact ZdP):p:=h
theorem zd5.Ka2(h:p:=by
 refine ym [] [o0,o1,o2,o3,o4,o5,o6,o7,o8,o9,mg] Tae (λ i=>if i=0 then .pointer (some ⟨γ.qb,γ.k,none⟩)else if i=2 then γ.ρ.ptr else if i=4 then .int .i64 (acc.length:Int)else if i=9 then .pointer (some ⟨γ.qb,γ.k,none⟩)else undef) [1,3,5,6,7,8,10] (gb γ v acc lg dp l r t w0.heap.size) (LQ Ft) ⟨rfl,rfl,rfl,(λ x e=>by cases e),IX.start A D⟩ hm ay hz rfl ?_ ?_
 ·refine⟨?_,?_,?_,?_,?_,?_,?_,?_,?_,?_,?_,trivial⟩
  ·intro ρ w σ hcs hG hr he hno;rw[t0] at hr;have r0:=hr.1;simp only[sD] at r0;refine⟨g0,?_⟩;exact Xx ρ w (r0.trans FL)
  ·intro ρ w σ hcs hG hr he hno;rw[t1] at hr;have r0:=hr.1;simp only[sF] at r0;unfold lz at r0;rw[if_neg Tac] at r0;refine⟨g1,?_⟩;rw[if_pos Tac];have sJ:=hno Tac;unfold gb at hG
   have ha:σ 6=none:=by
    cases ha:σ 6 with
    | none=>rfl
    | some a=>rw[ha] at hG;have:=hG.1;rw[sJ] at this;cases this
   rw[ha] at hG;obtain⟨k1,k2,k3,k4,hA⟩:=hG;refine ae (Pj ρ w r0 (hA.at_.cell Ft)) ?_;show gb γ v acc lg dp l r t w0.heap.size _ _;unfold gb;exact Zei
  ·intro ρ w σ hcs hG hr he hno;rw[t2] at hr;have r0:=hr.1;simp only[sG] at r0;refine⟨g2,?_⟩;refine Ky ρ w (r0.trans IJ) ?_;unfold gb at hG
   cases ha:σ 6 with
   | none=>rw[ha] at hG;exact hG.2.2.2.2.at_.ptr
   | some a=>exact Zg5
  ·intro ρ w σ hcs hG hr he hno;rw[t3] at hr;have r0:=hr.1;simp only[sH] at r0;unfold lz at r0;rw[if_neg Tac] at r0;refine⟨g3,?_⟩;rw[if_pos Tac];have sJ:=hno Tac;unfold gb at hG
   have ha:σ 6=none:=by
    cases ha:σ 6 with
    | none=>rfl
    | some a=>exact Zg1
   open zhl in exact Zf4
  ·intro ρ w σ hcs hG hr he hno;rw[t4] at hr;have r0:=hr.1;simp only[Bk] at r0;unfold lz at r0;rw[if_pos Tac] at r0;refine⟨g4,?_⟩;refine Rb ρ w ?_;unfold gb at hG
   cases ha:σ 6 with
   | none=>rw[ha] at hG;exact hG.2.2.2.1 _ r0
   | some a=>rw[ha] at hG;exact hG.2.2.1 _ r0
  ·intro ρ w σ hcs hG hr he hno;rw[t5] at hr;refine⟨g5,?_⟩;rw[if_pos Tac];have sJ:=hno Tac;unfold gb at hG
   have ha:σ 6=none:=by
    cases ha:σ 6 with
    | none=>rfl
    | some a=>rw[ha] at hG;have:=hG.2.1;rw[sJ] at this;cases this
   rw[ha] at hG;obtain⟨k1,k2,k3,k4,hA⟩:=hG;rw[sJ] at hA;refine ae (hz0 ρ w hcs) ?_;show gb γ v acc lg dp l r t w0.heap.size _ _;unfold gb;exact ZeV
  ·open zhG in exact Zgn
  ·open zhI in exact Zgo
  ·intro ρ w σ hcs hG hr he hno;rw[t8] at hr;have r0:=hr.1;simp only[IL] at r0;unfold lz at r0;rw[if_pos Tac] at r0;have r1:=hr.2.1;simp only[IM] at r1;unfold lz at r1;rw[if_pos Tac] at r1;refine⟨g8,?_⟩;rw[if_pos Tac];have sJ:=hno Tac;unfold gb at hG;have ha:=he 6 (cO.1 afo) Tac;open zc5 in exact Za8
  ·intro ρ w σ hcs hG hr he hno;rw[t9] at hr;have r0:=hr.1;simp only[UC] at r0;refine⟨g9,?_⟩;exact hfb ρ w (r0.trans FL)
  ·intro ρ w σ hcs hG hr he hno;rw[t10] at hr;have r0:=hr.1;simp only[F9] at r0;unfold lz at r0;rw[if_neg Tac] at r0;have r1:=hr.2.1;simp only[G0] at r1;unfold lz at r1;rw[if_pos Tac] at r1;refine⟨g10,?_⟩;rw[if_pos Tac];have sJ:=hno Tac;unfold gb at hG;have ha:=he 6 (cO.1 G1) Tac;open zfn in exact Zc7
 ·intro σ w hall hG;have ha:=hall 6 Tac;obtain⟨a,ha⟩:=Option.isSome_iff_exists.1 ha;have h8:=hall 8 Tac;have h10:=hall 10 Tac;unfold gb at hG;exact ZeE):p:=h
theorem IY (Ft:γ.Fit)
  (hm:Tryz.prog.follows .mixedOrders=true) (ay:cM [o0,o1,o2,o3,o4,o5,o6,o7,o8,o9,mg] a0.tmps.size [o0,o1,o2,o3,o4,o5,o6,o7,o8,o9,mg] 0=true) (hz:dw ([o0,o1,o2,o3,o4,o5,o6,o7,o8,o9,mg]++ []) [] 11=true) (rf:FR o0 o1 o2 o3 o4 o5 o6 o7 o8 o9 mg s0 s1 d0 d1 d2 d3 d4 d5 d6 d7 d9=true)
  (FL:a0.eval (.tmp s0)=vs0) (IJ:a0.eval (.tmp s1)=vs1)
  (Xx:∀ρ w,ρ (.tmp s0)=vs0->(execOp ρ o0).run Tryz.prog w=.ok (.value (.pointer (some ⟨γ.qb,γ.k,none⟩))) w) (hfb:∀ρ w,ρ (.tmp s0)=vs0->(execOp ρ o9).run Tryz.prog w=.ok (.value (.pointer (some ⟨γ.qb,γ.k,none⟩))) w)
  (Pj:∀ρ w,ρ (.tmp d0)=.pointer (some ⟨γ.qb,γ.k,none⟩)->w.cell? ⟨γ.qb,γ.k,none⟩=some v->(execOp ρ o1).run Tryz.prog w=.ok (.value v) w)
  (Ky:∀ρ w,ρ (.tmp s1)=vs1->w.cell? ⟨γ.pb,0,none⟩=some γ.ρ.ptr->(execOp ρ o2).run Tryz.prog w=.ok (.value γ.ρ.ptr) w)
  (gw:∀ρ w,bP ρ->ρ (.tmp d2)=γ.ρ.ptr->(execOp ρ o3).run Tryz.prog w=.ok (.enter F args) w)
  (Rb:∀ρ w,ρ (.tmp d1)=v->(execOp ρ o4).run Tryz.prog w=.ok (.value (.int .i64 (acc.length:Int))) w)
  (hz0:∀ρ w,bP ρ->(execOp ρ o5).run Tryz.prog w=.ok (.value (.slice (some ⟨w.heap.size,0,none⟩) 1 1)) (w.alloc (.cells dz 36)))
  (hap:∀ρ w x v' w',ρ (.tmp d1)=v->ρ (.tmp d5)=x->(Builtin.append_ #[24,24] 24 #[v,x]).run Tryz.prog w=.ok v' w'->(execOp ρ o6).run Tryz.prog w=.ok (.value v') w')
  (XK:∀ρ w G cap,ρ (.tmp d6)=.slice (some ⟨G,0,none⟩) (acc.length+1) cap->ρ (.tmp d4)=.int .i64 (acc.length:Int)->(execOp ρ o7).run Tryz.prog w=.ok (.value (.pointer (some ⟨G,acc.length*7,none⟩))) w)
  (hst:∀ρ w G (y:Ex),ρ (.tmp d7)=.pointer (some ⟨G,acc.length*7,none⟩)->ρ (.tmp d3)=dA y->(∀j u,dz[j]?=some u->w.cell? ⟨G,acc.length*7+j,none⟩=some u)->(∀i,w.frozen? ⟨G,i,none⟩=false)->(execOp ρ o8).run Tryz.prog w=.ok .skip (oI w G (acc.length*7) y))
  (hsp:∀ρ w A n c,ρ (.tmp d9)=.pointer (some ⟨γ.qb,γ.k,none⟩)->ρ (.tmp d6)=.slice A n c->w.cell? ⟨γ.qb,γ.k,none⟩=some v->w.frozen? ⟨γ.qb,γ.k,none⟩=false->(execOp ρ mg).run Tryz.prog w=.ok .skip (w.setCell ⟨γ.qb,γ.k,none⟩ (.slice A n c)))
  (A:γ.at_ eJ 36 v acc w0) (D:aU γ.ρ γ.W0 w0 l lg dp) (hlen:acc.length<=5000)
  (iH:∀w,γ.ρ.fy w l lg dp->Calls Tryz.prog F args w λ e w'=>∃y,e=.returned (dA y)/\t.at_ w' (ep w.heap.size w') y/\aU γ.ρ w w' r lg (dp || decide (32 < t.depth)))
  (rZ:∀a' w,a'.defers=a0.defers->γ.acc eJ 36 (acc++ [t]) w->aU γ.ρ γ.W0 w r lg (dp || decide (32 < t.depth))->wpList Tryz.prog [o0,o1,o2,o3,o4,o5,o6,o7,o8,o9,mg].toArray Q [] a' w):
  (Code.region id [o0,o1,o2,o3,o4,o5,o6,o7,o8,o9,mg].toArray true).wp Tryz.prog Q a0 w0:=by simp only[FR,Bool.and_eq_true,beq_iff_eq,Option.isNone_iff_eq_none] at rf;obtain⟨⟨⟨⟨⟨⟨⟨⟨⟨⟨⟨⟨⟨⟨⟨⟨⟨⟨⟨⟨⟨⟨⟨⟨⟨⟨⟨⟨⟨⟨⟨⟨⟨⟨⟨⟨⟨⟨⟨⟨⟨t0,sD⟩,t1⟩,sF⟩,t2⟩,sG⟩,t3⟩,sH⟩,t4⟩,Bk⟩,t5⟩,t6⟩,yK⟩,IK⟩,t7⟩,FN⟩,UT⟩,t8⟩,IL⟩,IM⟩,t9⟩,UC⟩,t10⟩,F9⟩,G0⟩,g0⟩,g1⟩,g2⟩,g3⟩,g4⟩,g5⟩,g6⟩,g7⟩,g8⟩,g9⟩,g10⟩,afl⟩,afm⟩,YC⟩,afn⟩,afo⟩,G1⟩:=rf;open zd5 in exact ZbL
theorem wj (Ft:γ.Fit) {E:List PanicEntry->World->Prop}
  (hm:Tryz.prog.follows .mixedOrders=true) (ay:cM [o0,o1,o2,o3,o4,o5,o6,o7,o8,o9,mg] a0.tmps.size [o0,o1,o2,o3,o4,o5,o6,o7,o8,o9,mg] 0=true) (hz:dw ([o0,o1,o2,o3,o4,o5,o6,o7,o8,o9,mg]++ []) [] 11=true) (rf:FR o0 o1 o2 o3 o4 o5 o6 o7 o8 o9 mg s0 s1 d0 d1 d2 d3 d4 d5 d6 d7 d9=true)
  (FL:a0.eval (.tmp s0)=vs0) (IJ:a0.eval (.tmp s1)=vs1)
  (Xx:∀ρ w,ρ (.tmp s0)=vs0->(execOp ρ o0).run Tryz.prog w=.ok (.value (.pointer (some ⟨γ.qb,γ.k,none⟩))) w) (hfb:∀ρ w,ρ (.tmp s0)=vs0->(execOp ρ o9).run Tryz.prog w=.ok (.value (.pointer (some ⟨γ.qb,γ.k,none⟩))) w)
  (Pj:∀ρ w,ρ (.tmp d0)=.pointer (some ⟨γ.qb,γ.k,none⟩)->w.cell? ⟨γ.qb,γ.k,none⟩=some v->(execOp ρ o1).run Tryz.prog w=.ok (.value v) w)
  (Ky:∀ρ w,ρ (.tmp s1)=vs1->w.cell? ⟨γ.pb,0,none⟩=some γ.ρ.ptr->(execOp ρ o2).run Tryz.prog w=.ok (.value γ.ρ.ptr) w)
  (gw:∀ρ w,bP ρ->ρ (.tmp d2)=γ.ρ.ptr->(execOp ρ o3).run Tryz.prog w=.ok (.enter F args) w)
  (Rb:∀ρ w,ρ (.tmp d1)=v->(execOp ρ o4).run Tryz.prog w=.ok (.value (.int .i64 (acc.length:Int))) w)
  (hz0:∀ρ w,bP ρ->(execOp ρ o5).run Tryz.prog w=.ok (.value (.slice (some ⟨w.heap.size,0,none⟩) 1 1)) (w.alloc (.cells dz 36)))
  (ub:DJ [o0,o1,o2,o3,o4,o5,o6,o7,o8,o9,mg] 3 [6,7,8,9,10]=true) (A:γ.at_ eJ 36 v acc w0)
  (iH:∀w,af w0 w->Calls Tryz.prog F args w λ e w'=>∃C,e=.panicked C/\E C w') (hQ:∀C a w,a.defers=a0.defers->E C w->Q (.panic C) a w):
  (Code.region id [o0,o1,o2,o3,o4,o5,o6,o7,o8,o9,mg].toArray true).wp Tryz.prog Q a0 w0:=by
 simp only[FR,Bool.and_eq_true,beq_iff_eq,Option.isNone_iff_eq_none] at rf;obtain⟨⟨⟨⟨⟨⟨⟨⟨⟨⟨⟨⟨⟨⟨⟨⟨⟨⟨⟨⟨⟨⟨⟨⟨⟨⟨⟨⟨⟨⟨⟨⟨⟨⟨⟨⟨⟨⟨⟨⟨⟨t0,sD⟩,t1⟩,sF⟩,t2⟩,sG⟩,t3⟩,sH⟩,t4⟩,Bk⟩,t5⟩,t6⟩,yK⟩,IK⟩,t7⟩,FN⟩,UT⟩,t8⟩,IL⟩,IM⟩,t9⟩,UC⟩,t10⟩,F9⟩,G0⟩,g0⟩,g1⟩,g2⟩,g3⟩,g4⟩,g5⟩,g6⟩,g7⟩,g8⟩,g9⟩,g10⟩,afl⟩,afm⟩,YC⟩,afn⟩,afo⟩,G1⟩:=rf;refine kF [] [o0,o1,o2,o3,o4,o5,o6,o7,o8,o9,mg] Tae 3 [6,7,8,9,10] E af af.refl (λ _ _ _=>af.trans) af.drew (λ i _ x=>if i=0 then x=(.pointer (some ⟨γ.qb,γ.k,none⟩))else if i=1 then x=(v)else if i=2 then x=(γ.ρ.ptr)else if i=4 then x=(.int .i64 (acc.length:Int))else if i=9 then x=(.pointer (some ⟨γ.qb,γ.k,none⟩))else True) (λ _ _ _ _ h _=>h) hm ay hz (by show 3 < 11;decide) ub ?_ hQ;refine⟨?_,?_,?_,?_,?_,?_,ZcW,ZcW,ZcW,ZcW,ZcW,trivial⟩
 ·refine .inr λ ρ w hcs hG hr=>?_
  rw[t0] at hr;have r0:=hr.1;simp only[sD] at r0;refine⟨g0,?_⟩;exact ae (Xx ρ w (r0.trans FL)) ⟨af.refl _,rfl⟩
 ·refine .inr λ ρ w hcs hG hr=>?_
  rw[t1] at hr;have r0:=hr.1;simp only[sF] at r0;refine⟨g1,?_⟩;exact ae (Pj ρ w r0 ((A.later Ft hG).cell Ft)) ⟨af.refl _,rfl⟩
 ·refine .inr λ ρ w hcs hG hr=>?_
  rw[t2] at hr;have r0:=hr.1;simp only[sG] at r0;refine⟨g2,?_⟩;exact Zgy
 ·refine .inr λ ρ w hcs hG hr=>?_
  rw[t3] at hr;have r0:=hr.1;simp only[sH] at r0;refine⟨g3,?_⟩;have hrun:=gw ρ w hcs r0;exact Zd1
 ·refine .inr λ ρ w hcs hG hr=>?_
  rw[t4] at hr;have r0:=hr.1;simp only[Bk] at r0;refine⟨g4,?_⟩;exact ae (Rb ρ w r0) ⟨af.refl _,rfl⟩
 ·refine .inr λ ρ w hcs hG hr=>?_
  rw[t5] at hr;refine⟨g5,?_⟩;exact ae (hz0 ρ w hcs) ⟨aa _ _,trivial⟩
end
def Nw (o0 o1 o2 o3 o4 o5 o6 o7 o8:Oper)(s0 s1 d0 d1 d2 d3 d4 d5 d6:Tmp):Bool:=
 (tmpsOf o0== [s0])&&(bw [o0,o1,o2,o3,o4,o5,o6,o7,o8] o0 s0==none)&&(tmpsOf o1== [s1])&&(bw [o0,o1,o2,o3,o4,o5,o6,o7,o8] o1 s1==none)&&(tmpsOf o2== [d1])&&(bw [o0,o1,o2,o3,o4,o5,o6,o7,o8] o2 d1==some 1)&&(tmpsOf o3== [d0])&&(bw [o0,o1,o2,o3,o4,o5,o6,o7,o8] o3 d0==some 0)&&(tmpsOf o4== [])&&(tmpsOf o5== [d0,d4])&&(bw [o0,o1,o2,o3,o4,o5,o6,o7,o8] o5 d0==some 0)&&(bw [o0,o1,o2,o3,o4,o5,o6,o7,o8] o5 d4==some 4)&&(tmpsOf o6== [d5,d3])&&(bw [o0,o1,o2,o3,o4,o5,o6,o7,o8] o6 d5==some 5)&&(bw [o0,o1,o2,o3,o4,o5,o6,o7,o8] o6 d3==some 3)&&(tmpsOf o7== [d6,d2])&&(bw [o0,o1,o2,o3,o4,o5,o6,o7,o8] o7 d6==some 6)&&(bw [o0,o1,o2,o3,o4,o5,o6,o7,o8] o7 d2==some 2)&&(tmpsOf o8== [s0,d5])&&(bw [o0,o1,o2,o3,o4,o5,o6,o7,o8] o8 s0==none)&&(bw [o0,o1,o2,o3,o4,o5,o6,o7,o8] o8 d5==some 5)&& o0.guard.isNone && o1.guard.isNone && o2.guard.isNone && o3.guard.isNone && o4.guard.isNone && o5.guard.isNone && o6.guard.isNone && o7.guard.isNone && o8.guard.isNone && fB o5 0 && fB o5 2 && fB o5 4 && fB o6 5 && fB o7 5 && fB o8 5
def kK (γ:tM)(v:Value)(acc:List Tr)(lg dp:Bool)(l r:aF)(t:Tr)(n0:Nat)(σ:Nat->Option Value)(w:World):Prop:=
 match σ 5 with
 | none=>σ 6=none/\σ 7=none/\σ 8=none/\(∀x,σ 0=some x->x=v)/\IX γ v acc lg dp l r t n0 (σ 2) (σ 4) w
 | some a=>(σ 0).isSome=true/\(σ 4).isSome=true/\(∀x,σ 0=some x->x=v)/\∃c,σ 2=some c/\Nv γ v acc lg dp r t a c (σ 7).isSome (σ 8).isSome w/\∀x,σ 6=some x->∃G cap,a=.slice (some ⟨G,0,none⟩) (acc.length+1) cap/\x=.pointer (some ⟨G,acc.length*7,none⟩)
theorem Qm(F:γ.Fit)      (σ:Nat->Option Value)(w:World)(h:kK γ v acc lg dp l r t n0 σ w):kK γ v acc lg dp l r t n0 σ w.drew:=by
 have hb:Below w.heap.size w w.drew:=(Below.refl _ _).drew;unfold kK at*
 cases ha:σ 5 with
 | none=>exact Zgl
 | some a=>exact ZfQ
section
variable {γ:tM} {v:Value} {acc:List Tr} {lg dp:Bool} {l r:aF} {t:Tr} {w0:World} {Q:Exit->Act->World->Prop} {a0:Act} {id:Nat} {o0 o1 o2 o3 o4 o5 o6 o7 o8:Oper} {s0 s1 d0 d1 d2 d3 d4 d5 d6:Tmp} {vs0 vs1:Value} {F:FuncId} {args:Array Value}
theorem zc6.KaI(h:p:=by show kK γ v acc lg dp l r t w0.heap.size _ _;unfold kK;exact ZeI):p:=h
theorem zfo.Kbx(h:p:=by have hrun:=hsp ρ w (some ⟨G,0,none⟩) (acc.length+1) cap ((r0.trans FL).trans hs0) (r1.symm.trans e1) hcell (hB.blk.frozen _);unfold wk;rw[hrun];show kK γ v acc lg dp l r t w0.heap.size _ _;unfold kK;exact Zd3):p:=h
theorem zfO.KbI(h:p:=by show kK γ v acc lg dp l r t w0.heap.size _ _;unfold kK;exact Zef):p:=h
theorem zhm.Kco(h:p:=by show kK γ v acc lg dp l r t w0.heap.size _ _;unfold kK;exact ZeB):p:=h
theorem zhH.Kcx(h:p:=by rw[if_neg Tac] at r1;refine⟨g6,?_⟩;rw[if_pos Tac];have sJ:=hno Tac;unfold kK at hG;have ha:=he 5 (cO.1 YC) Tac;open zfO in exact ZdP):p:=h
theorem zhJ.Kcy(h:p:=by rw[if_pos Tac] at r1;refine⟨g7,?_⟩;rw[if_pos Tac];have sJ:=hno Tac;unfold kK at hG;have ha:=he 5 (cO.1 afs) Tac;open zc6 in exact Za8):p:=h
theorem zd6.Ka2(h:p:=by
 refine ym [] [o0,o1,o2,o3,o4,o5,o6,o7,o8] Tae (λ i=>if i=1 then γ.ρ.ptr else if i=3 then .int .i64 (acc.length:Int)else undef) [0,2,4,5,6,7,8] (kK γ v acc lg dp l r t w0.heap.size) (Qm Ft) ⟨rfl,rfl,rfl,(λ x e=>by cases e),IX.start A D⟩ hm ay hz rfl ?_ ?_
 ·refine⟨?_,?_,?_,?_,?_,?_,?_,?_,?_,trivial⟩
  ·intro ρ w σ hcs hG hr he hno;rw[t0] at hr;have r0:=hr.1;simp only[sD] at r0;refine⟨g0,?_⟩;rw[if_pos Tac];have sJ:=hno Tac;unfold kK at hG
   have ha:σ 5=none:=by
    cases ha:σ 5 with
    | none=>rfl
    | some a=>rw[ha] at hG;have:=hG.1;rw[sJ] at this;cases this
   rw[ha] at hG;obtain⟨k1,k2,k3,k4,hA⟩:=hG;refine ae (Pj ρ w ((r0.trans FL).trans hs0) (hA.at_.cell Ft)) ?_;show kK γ v acc lg dp l r t w0.heap.size _ _;unfold kK;exact Zei
  ·intro ρ w σ hcs hG hr he hno;rw[t1] at hr;have r0:=hr.1;simp only[sF] at r0;refine⟨g1,?_⟩;refine Ky ρ w (r0.trans IJ) ?_;unfold kK at hG
   cases ha:σ 5 with
   | none=>rw[ha] at hG;exact hG.2.2.2.2.at_.ptr
   | some a=>exact Zg5
  ·intro ρ w σ hcs hG hr he hno;rw[t2] at hr;have r0:=hr.1;simp only[sG] at r0;unfold lz at r0;rw[if_neg Tac] at r0;refine⟨g2,?_⟩;rw[if_pos Tac];have sJ:=hno Tac;unfold kK at hG
   have ha:σ 5=none:=by
    cases ha:σ 5 with
    | none=>rfl
    | some a=>exact Zg1
   open zhm in exact Zf4
  ·intro ρ w σ hcs hG hr he hno;rw[t3] at hr;have r0:=hr.1;simp only[sH] at r0;unfold lz at r0;rw[if_pos Tac] at r0;refine⟨g3,?_⟩;refine Rb ρ w ?_;unfold kK at hG
   cases ha:σ 5 with
   | none=>rw[ha] at hG;exact hG.2.2.2.1 _ r0
   | some a=>rw[ha] at hG;exact hG.2.2.1 _ r0
  ·intro ρ w σ hcs hG hr he hno;rw[t4] at hr;refine⟨g4,?_⟩;rw[if_pos Tac];have sJ:=hno Tac;unfold kK at hG
   have ha:σ 5=none:=by
    cases ha:σ 5 with
    | none=>rfl
    | some a=>rw[ha] at hG;have:=hG.2.1;rw[sJ] at this;cases this
   rw[ha] at hG;obtain⟨k1,k2,k3,k4,hA⟩:=hG;rw[sJ] at hA;refine ae (hz0 ρ w hcs) ?_;show kK γ v acc lg dp l r t w0.heap.size _ _;unfold kK;exact ZeV
  ·intro ρ w σ hcs hG hr he hno;rw[t5] at hr;have r0:=hr.1;simp only[FM] at r0;unfold lz at r0;rw[if_pos Tac] at r0;have r1:=hr.2.1;simp only[UB] at r1;unfold lz at r1;rw[if_pos Tac] at r1;refine⟨g5,?_⟩;rw[if_pos Tac];have sJ:=hno Tac;unfold kK at hG;rw[sJ] at hG;obtain⟨k1,k2,k3,k4,hA⟩:=hG;have aai:=he 2 (cO.1 afr) Tac;have aaj:=he 0 (cO.1 afq) Tac;obtain⟨cv,hcv⟩:=Option.isSome_iff_exists.1 aai;obtain⟨lv,hlv⟩:=Option.isSome_iff_exists.1 aaj;rw[hcv,r1] at hA;obtain⟨v',w',rq,hPB⟩:=hA.app Ft hB0 hv0 hlen;refine ae (hap ρ w (ρ (.tmp d4)) v' w' (k4 _ r0) rfl rq) ?_;show kK γ v acc lg dp l r t w0.heap.size _ _;unfold kK;exact ZcU
  ·open zhH in exact Zgn
  ·open zhJ in exact Zgo
  ·intro ρ w σ hcs hG hr he hno;rw[t8] at hr;have r0:=hr.1;simp only[IL] at r0;have r1:=hr.2.1;simp only[IM] at r1;unfold lz at r1;rw[if_pos Tac] at r1;refine⟨g8,?_⟩;rw[if_pos Tac];have sJ:=hno Tac;unfold kK at hG;have ha:=he 5 (cO.1 aft) Tac;open zfo in exact Zc7
 ·intro σ w hall hG;have ha:=hall 5 Tac;obtain⟨a,ha⟩:=Option.isSome_iff_exists.1 ha;have h8:=hall 7 Tac;have h10:=hall 8 Tac;unfold kK at hG;exact ZeE):p:=h
theorem LR (Ft:γ.Fit)
  (hm:Tryz.prog.follows .mixedOrders=true) (ay:cM [o0,o1,o2,o3,o4,o5,o6,o7,o8] a0.tmps.size [o0,o1,o2,o3,o4,o5,o6,o7,o8] 0=true) (hz:dw ([o0,o1,o2,o3,o4,o5,o6,o7,o8]++ []) [] 9=true) (rf:Nw o0 o1 o2 o3 o4 o5 o6 o7 o8 s0 s1 d0 d1 d2 d3 d4 d5 d6=true)
  (FL:a0.eval (.tmp s0)=vs0) (IJ:a0.eval (.tmp s1)=vs1)
  (hs0:vs0=.pointer (some ⟨γ.qb,γ.k,none⟩))
  (Pj:∀ρ w,ρ (.tmp s0)=.pointer (some ⟨γ.qb,γ.k,none⟩)->w.cell? ⟨γ.qb,γ.k,none⟩=some v->(execOp ρ o0).run Tryz.prog w=.ok (.value v) w)
  (Ky:∀ρ w,ρ (.tmp s1)=vs1->w.cell? ⟨γ.pb,0,none⟩=some γ.ρ.ptr->(execOp ρ o1).run Tryz.prog w=.ok (.value γ.ρ.ptr) w)
  (gw:∀ρ w,bP ρ->ρ (.tmp d1)=γ.ρ.ptr->(execOp ρ o2).run Tryz.prog w=.ok (.enter F args) w)
  (Rb:∀ρ w,ρ (.tmp d0)=v->(execOp ρ o3).run Tryz.prog w=.ok (.value (.int .i64 (acc.length:Int))) w)
  (hz0:∀ρ w,bP ρ->(execOp ρ o4).run Tryz.prog w=.ok (.value (.slice (some ⟨w.heap.size,0,none⟩) 1 1)) (w.alloc (.cells dz 36)))
  (hap:∀ρ w x v' w',ρ (.tmp d0)=v->ρ (.tmp d4)=x->(Builtin.append_ #[24,24] 24 #[v,x]).run Tryz.prog w=.ok v' w'->(execOp ρ o5).run Tryz.prog w=.ok (.value v') w')
  (XK:∀ρ w G cap,ρ (.tmp d5)=.slice (some ⟨G,0,none⟩) (acc.length+1) cap->ρ (.tmp d3)=.int .i64 (acc.length:Int)->(execOp ρ o6).run Tryz.prog w=.ok (.value (.pointer (some ⟨G,acc.length*7,none⟩))) w)
  (hst:∀ρ w G (y:Ex),ρ (.tmp d6)=.pointer (some ⟨G,acc.length*7,none⟩)->ρ (.tmp d2)=dA y->(∀j u,dz[j]?=some u->w.cell? ⟨G,acc.length*7+j,none⟩=some u)->(∀i,w.frozen? ⟨G,i,none⟩=false)->(execOp ρ o7).run Tryz.prog w=.ok .skip (oI w G (acc.length*7) y))
  (hsp:∀ρ w A n c,ρ (.tmp s0)=.pointer (some ⟨γ.qb,γ.k,none⟩)->ρ (.tmp d5)=.slice A n c->w.cell? ⟨γ.qb,γ.k,none⟩=some v->w.frozen? ⟨γ.qb,γ.k,none⟩=false->(execOp ρ o8).run Tryz.prog w=.ok .skip (w.setCell ⟨γ.qb,γ.k,none⟩ (.slice A n c)))
  (A:γ.at_ eJ 36 v acc w0) (D:aU γ.ρ γ.W0 w0 l lg dp) (hlen:acc.length<=5000)
  (iH:∀w,γ.ρ.fy w l lg dp->Calls Tryz.prog F args w λ e w'=>∃y,e=.returned (dA y)/\t.at_ w' (ep w.heap.size w') y/\aU γ.ρ w w' r lg (dp || decide (32 < t.depth)))
  (rZ:∀a' w,a'.defers=a0.defers->γ.acc eJ 36 (acc++ [t]) w->aU γ.ρ γ.W0 w r lg (dp || decide (32 < t.depth))->wpList Tryz.prog [o0,o1,o2,o3,o4,o5,o6,o7,o8].toArray Q [] a' w):
  (Code.region id [o0,o1,o2,o3,o4,o5,o6,o7,o8].toArray true).wp Tryz.prog Q a0 w0:=by simp only[Nw,Bool.and_eq_true,beq_iff_eq,Option.isNone_iff_eq_none] at rf;obtain⟨⟨⟨⟨⟨⟨⟨⟨⟨⟨⟨⟨⟨⟨⟨⟨⟨⟨⟨⟨⟨⟨⟨⟨⟨⟨⟨⟨⟨⟨⟨⟨⟨⟨⟨t0,sD⟩,t1⟩,sF⟩,t2⟩,sG⟩,t3⟩,sH⟩,t4⟩,t5⟩,FM⟩,UB⟩,t6⟩,yK⟩,IK⟩,t7⟩,FN⟩,UT⟩,t8⟩,IL⟩,IM⟩,g0⟩,g1⟩,g2⟩,g3⟩,g4⟩,g5⟩,g6⟩,g7⟩,g8⟩,afq⟩,afr⟩,ajW⟩,YC⟩,afs⟩,aft⟩:=rf;open zd6 in exact ZbL
theorem xz (Ft:γ.Fit) {E:List PanicEntry->World->Prop}
  (hm:Tryz.prog.follows .mixedOrders=true) (ay:cM [o0,o1,o2,o3,o4,o5,o6,o7,o8] a0.tmps.size [o0,o1,o2,o3,o4,o5,o6,o7,o8] 0=true) (hz:dw ([o0,o1,o2,o3,o4,o5,o6,o7,o8]++ []) [] 9=true) (rf:Nw o0 o1 o2 o3 o4 o5 o6 o7 o8 s0 s1 d0 d1 d2 d3 d4 d5 d6=true)
  (FL:a0.eval (.tmp s0)=vs0) (IJ:a0.eval (.tmp s1)=vs1)
  (hs0:vs0=.pointer (some ⟨γ.qb,γ.k,none⟩))
  (Pj:∀ρ w,ρ (.tmp s0)=.pointer (some ⟨γ.qb,γ.k,none⟩)->w.cell? ⟨γ.qb,γ.k,none⟩=some v->(execOp ρ o0).run Tryz.prog w=.ok (.value v) w)
  (Ky:∀ρ w,ρ (.tmp s1)=vs1->w.cell? ⟨γ.pb,0,none⟩=some γ.ρ.ptr->(execOp ρ o1).run Tryz.prog w=.ok (.value γ.ρ.ptr) w)
  (gw:∀ρ w,bP ρ->ρ (.tmp d1)=γ.ρ.ptr->(execOp ρ o2).run Tryz.prog w=.ok (.enter F args) w)
  (Rb:∀ρ w,ρ (.tmp d0)=v->(execOp ρ o3).run Tryz.prog w=.ok (.value (.int .i64 (acc.length:Int))) w)
  (hz0:∀ρ w,bP ρ->(execOp ρ o4).run Tryz.prog w=.ok (.value (.slice (some ⟨w.heap.size,0,none⟩) 1 1)) (w.alloc (.cells dz 36)))
  (ub:DJ [o0,o1,o2,o3,o4,o5,o6,o7,o8] 2 [5,6,7,8]=true) (A:γ.at_ eJ 36 v acc w0)
  (iH:∀w,af w0 w->Calls Tryz.prog F args w λ e w'=>∃C,e=.panicked C/\E C w') (hQ:∀C a w,a.defers=a0.defers->E C w->Q (.panic C) a w):
  (Code.region id [o0,o1,o2,o3,o4,o5,o6,o7,o8].toArray true).wp Tryz.prog Q a0 w0:=by
 simp only[Nw,Bool.and_eq_true,beq_iff_eq,Option.isNone_iff_eq_none] at rf;obtain⟨⟨⟨⟨⟨⟨⟨⟨⟨⟨⟨⟨⟨⟨⟨⟨⟨⟨⟨⟨⟨⟨⟨⟨⟨⟨⟨⟨⟨⟨⟨⟨⟨⟨⟨t0,sD⟩,t1⟩,sF⟩,t2⟩,sG⟩,t3⟩,sH⟩,t4⟩,t5⟩,FM⟩,UB⟩,t6⟩,yK⟩,IK⟩,t7⟩,FN⟩,UT⟩,t8⟩,IL⟩,IM⟩,g0⟩,g1⟩,g2⟩,g3⟩,g4⟩,g5⟩,g6⟩,g7⟩,g8⟩,afq⟩,afr⟩,ajW⟩,YC⟩,afs⟩,aft⟩:=rf;refine kF [] [o0,o1,o2,o3,o4,o5,o6,o7,o8] Tae 2 [5,6,7,8] E af af.refl (λ _ _ _=>af.trans) af.drew (λ i _ x=>if i=0 then x=(v)else if i=1 then x=(γ.ρ.ptr)else if i=3 then x=(.int .i64 (acc.length:Int))else True) (λ _ _ _ _ h _=>h) hm ay hz (by show 2 < 9;decide) ub ?_ hQ;refine⟨?_,?_,?_,?_,?_,ZcW,ZcW,ZcW,ZcW,trivial⟩
 ·refine .inr λ ρ w hcs hG hr=>?_
  rw[t0] at hr;have r0:=hr.1;simp only[sD] at r0;refine⟨g0,?_⟩;exact ae (Pj ρ w ((r0.trans FL).trans hs0) ((A.later Ft hG).cell Ft)) ⟨af.refl _,rfl⟩
 ·refine .inr λ ρ w hcs hG hr=>?_
  rw[t1] at hr;have r0:=hr.1;simp only[sF] at r0;refine⟨g1,?_⟩;exact Zgy
 ·refine .inr λ ρ w hcs hG hr=>?_
  rw[t2] at hr;have r0:=hr.1;simp only[sG] at r0;refine⟨g2,?_⟩;have hrun:=gw ρ w hcs r0;exact Zd1
 ·refine .inr λ ρ w hcs hG hr=>?_
  rw[t3] at hr;have r0:=hr.1;simp only[sH] at r0;refine⟨g3,?_⟩;exact ae (Rb ρ w r0) ⟨af.refl _,rfl⟩
 ·refine .inr λ ρ w hcs hG hr=>?_
  rw[t4] at hr;refine⟨g4,?_⟩;exact ae (hz0 ρ w hcs) ⟨aa _ _,trivial⟩
end
theorem zgM.Kb7(h:p:=by exact aj (P:=Tryz.prog) (fn:=Tryz.f151) hdf hE):p:=h
theorem zhU.KcE(h:p:=by exact bodyPost_end (results_none Tryz.results151 _ _ _) hdf hE):p:=h
theorem IZ (γ:tM)(F:γ.Fit)(Qn:γ.TQ=28)(hk:γ.k=4)(acc:List Tr)(W:World)(l:aF)(lg dp:Bool)(hn:acc.length<=5000)(hs:γ.acc eJ 36 acc W)(hd:aU γ.ρ γ.W0 W l lg dp):
  Calls Tryz.prog 151 #[.pointer (some ⟨γ.qb,0,none⟩),.pointer (some ⟨γ.pb,0,none⟩)] W (ri γ.ρ γ.W0 (λ t=>decide (32 < t.depth)) ey (γ.acc eJ 36) acc lg dp l):=by
 obtain⟨v,A⟩:=hs;obtain⟨ys,ho,ha⟩:=A.row.has;obtain⟨A0,c0,hv⟩:=ho.form;have xx:ys.length=acc.length:=ha.len;rw[xx] at hv;subst hv;have UU:(Addr.mk γ.qb 4 none)=⟨γ.qb,γ.k,none⟩:=by rw[hk]
 clear ho ha xx Qn;go_enter Tryz.func151,Tryz.ntmps151
 cases hx:ey l with
 | ok z=>
   obtain⟨t,r⟩:=z;go_wp2_with fail;refine IY (lg:=lg) (dp:=dp) (l:=l) (r:=r) (t:=t) (γ:=γ) (v:=.slice A0 acc.length c0) (acc:=acc) (s0:=0) (s1:=1) (d0:=2) (d1:=3) (d2:=4) (d3:=5) (d4:=6) (d5:=7) (d6:=8) (d7:=9) (d9:=10) (vs0:=.pointer (some ⟨γ.qb,0,none⟩)) (vs1:=.pointer (some ⟨γ.pb,0,none⟩)) (F:=120) (args:= #[γ.ρ.ptr]) F Tab Tab Tab Tab rfl rfl ZeT ZeT Zdt ZcL Zc8 ZcF ZeS ?_ Zgi Zcp Zg4 A hd hn Zcv ?_
   ·intro ρ' w' x' v' We pV mV rq;exact Za7
   ·open zhU in exact ZgC
 | error m=>
   go_wp2_with fail;refine wj (E:=λ C W=>C=[qH (γ.ρ.placeOf m)]/\γ.W0.grownBy W (some γ.ρ.g)) (γ:=γ) (v:=.slice A0 acc.length c0) (acc:=acc) (s0:=0) (s1:=1) (d0:=2) (d1:=3) (d2:=4) (d3:=5) (d4:=6) (d5:=7) (d6:=8) (d7:=9) (d9:=10) (vs0:=.pointer (some ⟨γ.qb,0,none⟩)) (vs1:=.pointer (some ⟨γ.pb,0,none⟩)) (F:=120) (args:= #[γ.ρ.ptr]) F Tab Tab Tab Tab rfl rfl ZeT ZeT Zdt ZcL Zc8 ZcF ZeS Tab A Zcu ?_
   ·open zgM in exact ZeF
theorem zgN.Kb7(h:p:=by exact aj (P:=Tryz.prog) (fn:=Tryz.f119) hdf hE):p:=h
theorem zhV.KcE(h:p:=by exact bodyPost_end (results_none Tryz.results119 _ _ _) hdf hE):p:=h
theorem Ja (γ:tM)(F:γ.Fit)(Qn:γ.TQ=24)(hk:γ.k=0)(acc:List Tr)(W:World)(l:aF)(lg dp:Bool)(hn:acc.length<=5000)(hs:γ.acc eJ 36 acc W)(hd:aU γ.ρ γ.W0 W l lg dp):
  Calls Tryz.prog 119 #[.pointer (some ⟨γ.qb,0,none⟩),.pointer (some ⟨γ.pb,0,none⟩)] W (ri γ.ρ γ.W0 (λ t=>decide (32 < t.depth)) ey (γ.acc eJ 36) acc lg dp l):=by
 obtain⟨v,A⟩:=hs;obtain⟨ys,ho,ha⟩:=A.row.has;obtain⟨A0,c0,hv⟩:=ho.form;have xx:ys.length=acc.length:=ha.len;rw[xx] at hv;subst hv;have UU:(Addr.mk γ.qb 0 none)=⟨γ.qb,γ.k,none⟩:=by rw[hk]
 clear ho ha xx Qn;go_enter Tryz.func119,Tryz.ntmps119
 cases hx:ey l with
 | ok z=>
   obtain⟨t,r⟩:=z;go_wp2_with fail;refine LR (lg:=lg) (dp:=dp) (l:=l) (r:=r) (t:=t) (γ:=γ) (v:=.slice A0 acc.length c0) (acc:=acc) (s0:=0) (s1:=1) (d0:=2) (d1:=3) (d2:=4) (d3:=5) (d4:=6) (d5:=7) (d6:=8) (vs0:=.pointer (some ⟨γ.qb,0,none⟩)) (vs1:=.pointer (some ⟨γ.pb,0,none⟩)) (F:=120) (args:= #[γ.ρ.ptr]) F Tab Tab Tab Tab rfl rfl ?_ Zdt ZcL Zc8 ZcF ZeS ?_ Zgi Zcp Zg4 A hd hn Zcv ?_
   ·rw[<- UU]
   ·intro ρ' w' x' v' We pV mV rq;exact Za7
   ·open zhV in exact ZgC
 | error m=>
   go_wp2_with fail;refine xz (E:=λ C W=>C=[qH (γ.ρ.placeOf m)]/\γ.W0.grownBy W (some γ.ρ.g)) (γ:=γ) (v:=.slice A0 acc.length c0) (acc:=acc) (s0:=0) (s1:=1) (d0:=2) (d1:=3) (d2:=4) (d3:=5) (d4:=6) (d5:=7) (d6:=8) (vs0:=.pointer (some ⟨γ.qb,0,none⟩)) (vs1:=.pointer (some ⟨γ.pb,0,none⟩)) (F:=120) (args:= #[γ.ρ.ptr]) F Tab Tab Tab Tab rfl rfl ?_ Zdt ZcL Zc8 ZcF ZeS Tab A Zcu ?_
   ·rw[<- UU]
   ·open zgN in exact ZeF
def Qv (ρ:bj)(W:World)(pb:Nat):tM:=⟨ρ,W,24,W.heap.size,0,pb,W.heap.size+1,#[.slice none 0 0],[],λ _ _=>True⟩
variable{ρ:bj}{W:World}{pb:Nat}
theorem Ve(hg:ρ.g < W.heap.size)(h1:ρ.g < pb)(h2:pb < W.heap.size):(Qv ρ W pb).Fit:=
 ⟨hg,Nat.le_refl _,h1,by show pb≠W.heap.size;omega,Nat.lt_succ_self _,by show pb < W.heap.size+1;omega,λ x hx=>by simp[Qv] at hx,by show 0 < 1;omega,λ w w' S S' h hk=>trivial⟩
theorem zhv.Kcs(h:p:=by
 have aZ:=F.gg;have hp0:=F.p0;have QM:=F.pq;have hqB:=F.qB;have hpB:=F.pB;have hsz:=A.sz;have hgW:γ.ρ.g < W.heap.size:=by have:=hd.lt;omega
 have hvo:∀G,v.ownBlock=some G->G < W.heap.size:=λ G hG=>(A.ge hG).2
 have HA:=hid A;have HD:=hid hd;have b1:=aa W (.cells #[.slice none 0 0] 24);have HR:=hid (av.new W 24 #[.slice none 0 0]);have HG1:=hid (aU.aA hd.at_ b1);clear Qn A hd b1;go_enter Tryz.func118,Tryz.ntmps118;go_upto_region 1 with fail;generalize hW1:(W.alloc _)=W1 at*;clear hW1;have hr1:=HR.out.lt;have p0:=(HA.out.grown F HG1.out.grown).ptr;have hb:=aa W1 (.cells (aK [bp]) 9);have xB:=hid (HG1.out.later hb);have JQ:=hid (HR.out.later hb);have hm:=aR γ.ρ _ l _ _ xB.out.at_ [bp] W1.heap.size 1 rfl (av.new W1 _ _) Taa Taa;clear hb HG1 HR;unfold aK strOf at hm xB JQ;simp only[map_cons,map_nil] at hm xB JQ;rw[show bp.toArray= #[40] from rfl] at hm xB JQ;go_wp2_with fail;refine hm.mono ?_;clear hm p0;intro e w2 hp
 rcases hp.cases with ⟨_,l2,v9,ay,rfl,rfl,d⟩|⟨m,au,rfl,hg⟩;case inr=>
  have CC:must bp l=.error m:=by rw[<- ax];exact au
  have HF:=hid (show rO l=.error m from ak CC);have HG:=hid (ai HD.out.grown xB.out.grown);clear hp au CC;go_wp2_with fail;exact aj rfl (tL.err HF.out ⟨rfl,ai HG.out hg⟩)
 have jx:must bp l=.ok ((),l2):=by rw[<- ax];exact ay
 have HE:=hid (show rO l=(dC ey >>= λ xs=>must aG >>= λ _=>pure xs) l2 from ag jx);have BR:=hid (xB.out.trans d);have HR3:=hid (d.blk JQ.out Taa);clear hp ay jx d xB JQ;have hA3:=HA.out.grown F BR.out.grown;have p0:=hA3.ptr;have F2:=Ve (ρ:=γ.ρ) (W:=W) (pb:=γ.pb) hgW hp0 Taa;have hac:(Qv γ.ρ W γ.pb).acc eJ 36 [] w2:=⟨.slice none 0 0,HR3.out,iX.nil eJ 36 w2 (W.heap.size+1),trivial,by have:=HR3.out.lt;show W.heap.size+1<=w2.heap.size;omega,hA3.tF,λ x hx=>by simp[Qv] at hx⟩
 have L:Lst γ.ρ W (λ t=>decide (32 < t.depth)) ey 119 #[.pointer (some ⟨W.heap.size,0,none⟩),.pointer (some ⟨γ.pb,0,none⟩)] ((Qv γ.ρ W γ.pb).acc eJ 36):=
  ⟨jP,enters_of Tryz.func119 Tab rfl,λ acc a b hs hg _=>by obtain⟨v,h⟩:=hs;exact⟨v,h.grown F2 hg⟩,λ acc W3 l lg dp hn hs hd=>Ja (Qv γ.ρ W γ.pb) F2 rfl rfl acc W3 l lg dp hn hs hd⟩
 have hm:=nj γ.ρ W (λ t=>decide (32 < t.depth)) ey 119 #[.pointer (some ⟨W.heap.size,0,none⟩),.pointer (some ⟨γ.pb,0,none⟩)] _ L w2 l2 lg dp BR.out hac hgW;have F4:=hid F2;clear L F2 hac hA3 HR3;go_wp2_with fail;refine hm.mono ?_;clear hm p0;intro e w3 hp;unfold ij at hp
 cases hx:dC ey l2 with
 | error m=>rw[hx] at hp;obtain⟨rfl,hg⟩:=hp;have HF:=hid (show rO l=.error m from HE.out.trans (ak hx));have HG:=hid (ai HD.out.grown hg);clear hx hg;go_wp2_with fail;exact aj rfl (tL.err HF.out ⟨rfl,HG.out⟩)
 | ok z=>
   obtain⟨xs,l3⟩:=z;rw[hx] at hp;obtain⟨rfl,⟨v3,hs⟩,hd⟩:=hp;have tq:=hid (show rO l=(must aG >>= λ _=>pure xs) l3 from HE.out.trans (ag hx));have HS:=hid hs;have Ga:=hid hd;clear hx hs hd HE BR;have hw3:=Ga.out.size;have aqz:=Ga.out.lt;have p0:=(HA.out.grown F Ga.out.grown).ptr;have hb:=aa w3 (.cells (aK [aG]) 9);have CA:=hid (Ga.out.later hb);have Wf:=hid (HS.out.later F4.out hb);have hm:=aR γ.ρ _ l3 _ _ CA.out.at_ [aG] w3.heap.size 1 rfl (av.new w3 _ _) Taa Taa;clear hb Ga HS;unfold aK strOf at hm CA Wf;simp only[map_cons,map_nil] at hm CA Wf;rw[show aG.toArray= #[41] from rfl] at hm CA Wf;go_wp2_with fail;refine hm.mono ?_;clear hm p0;intro e w4 hp
   rcases hp.cases with ⟨_,l4,v9,ay,rfl,rfl,d⟩|⟨m,au,rfl,hg⟩;case inr=>
    have CC:must aG l3=.error m:=by rw[<- ax];exact au
    have HF:=hid (show rO l=.error m from tq.out.trans (ak CC));have HG:=hid (ai HD.out.grown CA.out.grown);clear hp au CC;go_wp2_with fail;exact aj rfl (tL.err HF.out ⟨rfl,ai HG.out hg⟩)
   have jx:must aG l3=.ok ((),l4):=by rw[<- ax];exact ay
   have JA:=hid (show rO l=.ok (xs,l4)from tq.out.trans ((ag jx).trans rfl));have HG6:=hid (CA.out.trans d);have hS:=Wf.out.grown F4.out d.grown;clear hp ay jx d CA Wf;obtain⟨sl,hv,hn9,ja⟩:=hS.row.sl (B':=W.heap.size+1) (Nat.le_refl _);have x0:w4.cell? ⟨W.heap.size,0,none⟩=some v3:=hS.cell F4.out;rw[hv] at x0;obtain⟨A3,n3,c3⟩:=sl;unfold eU at x0;have HSL:=hid ja;have hA:=HA.out.grown F HG6.out.grown;have tD:=hid hA;have kq:=hA.cell F;rw[hk] at kq;have LU:=hA.sz;have hw4:=HG6.out.size;have HDD:=hid (HD.out.trans HG6.out);clear hA hS hv hn9 ja tq HG6 HA HD F4;go_wp2_with (first
    |(at_builtin
      refine dQ tD.out F rfl _ _ 29 rfl _ 24 Tryz.underlying29 Qp rfl Tac (⟨A3,n3,c3⟩:Sl) (row_one _) rfl rfl Taa Taa LU ?_
      intro ys v' W3 ha nV kD hv
      obtain⟨A9,n9,c9,rfl⟩:=mj nV
      obtain⟨LV,LW,uP,uQ⟩:=tD.out.push F HDD.out (n0:=W.heap.size+1) (x:=xs) (y:=(⟨A3,n3,c3⟩:Sl)) (show vh.rel w4 (ep (W.heap.size+1) w4) xs (⟨A3,n3,c3⟩:Sl)from HSL.out) Taa (λ G hG=>by have:=hvo G hG;omega) ha (aa _ _) kD nV Tay
      rw[hk] at LV LW uP uQ
      have LY:=hid uP
      have LZ:=hid uQ
      clear uP uQ ha nV kD hv))
   go_end0;exact tL.ok JA.out ⟨_,LY.out⟩ LZ.out):p:=h
theorem Qw (γ:tM)(F:γ.Fit)(Qn:γ.TQ=34)(hk:γ.k=19)(acc:List (List Tr))(W:World)(l:aF)(lg dp:Bool)(hn:acc.length<=5000)(hs:γ.acc vh 24 acc W)(hd:aU γ.ρ γ.W0 W l lg dp):
  Calls Tryz.prog 118 #[.pointer (some ⟨γ.pb,0,none⟩),.pointer (some ⟨γ.qb,0,none⟩)] W (tL γ.ρ γ.W0 (λ r=>decide (64 < r.length)) (λ r=>cR r) rO (γ.acc vh 24) acc lg dp l):=by obtain⟨v,A⟩:=hs;open zhv in exact Zga
end Go.Proofs.YtehhdlgjfdnafaaGreatDoor
