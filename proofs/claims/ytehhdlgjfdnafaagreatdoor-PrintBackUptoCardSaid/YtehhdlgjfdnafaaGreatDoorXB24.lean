/- Parts of the proof. -/
import Derived.Test.YtehhdlgjfdnafaaGreatDoorXB20
import Derived.Test.YtehhdlgjfdnafaaGreatDoorXB23
namespace Go.Proofs.YtehhdlgjfdnafaaGreatDoor
variable{p:Prop}
set_option maxHeartbeats 90000000
set_option maxRecDepth 100000
open Go.Lib (hid)
open Go.ChangeShapes Go.WideShapes Go.ChangeAt Go.RowKit List
set_option linter.unusedVariables false
set_option linter.unusedSimpArgs false
def Jb (o0 o1 o2 o3 o4 o5 o6 o7 o8 o9 mV:Oper)(s0 s1 d0 d1 d2 d3 d4 d5 d6 d7 d9:Tmp):Bool:=
 (tmpsOf o0== [s0])&&(bG [o0,o1,o2,o3,o4,o5,o6,o7,o8,o9,mV] o0 s0==none)&&(tmpsOf o1== [d0])&&(bG [o0,o1,o2,o3,o4,o5,o6,o7,o8,o9,mV] o1 d0==some 0)&&(tmpsOf o2== [s1])&&(bG [o0,o1,o2,o3,o4,o5,o6,o7,o8,o9,mV] o2 s1==none)&&(tmpsOf o3== [d2])&&(bG [o0,o1,o2,o3,o4,o5,o6,o7,o8,o9,mV] o3 d2==some 2)&&(tmpsOf o4== [d1])&&(bG [o0,o1,o2,o3,o4,o5,o6,o7,o8,o9,mV] o4 d1==some 1)&&(tmpsOf o5== [])&&(tmpsOf o6== [d1,d5])&&(bG [o0,o1,o2,o3,o4,o5,o6,o7,o8,o9,mV] o6 d1==some 1)&&(bG [o0,o1,o2,o3,o4,o5,o6,o7,o8,o9,mV] o6 d5==some 5)&&(tmpsOf o7== [d6,d4])&&(bG [o0,o1,o2,o3,o4,o5,o6,o7,o8,o9,mV] o7 d6==some 6)&&(bG [o0,o1,o2,o3,o4,o5,o6,o7,o8,o9,mV] o7 d4==some 4)&&(tmpsOf o8== [d7,d3])&&(bG [o0,o1,o2,o3,o4,o5,o6,o7,o8,o9,mV] o8 d7==some 7)&&(bG [o0,o1,o2,o3,o4,o5,o6,o7,o8,o9,mV] o8 d3==some 3)&&(tmpsOf o9== [s0])&&(bG [o0,o1,o2,o3,o4,o5,o6,o7,o8,o9,mV] o9 s0==none)&&(tmpsOf mV== [d9,d6])&&(bG [o0,o1,o2,o3,o4,o5,o6,o7,o8,o9,mV] mV d9==some 9)&&(bG [o0,o1,o2,o3,o4,o5,o6,o7,o8,o9,mV] mV d6==some 6)&& o0.guard.isNone && o1.guard.isNone && o2.guard.isNone && o3.guard.isNone && o4.guard.isNone && o5.guard.isNone && o6.guard.isNone && o7.guard.isNone && o8.guard.isNone && o9.guard.isNone && mV.guard.isNone && fX o6 1 && fX o6 3 && fX o6 5 && fX o7 6 && fX o8 6 && fX mV 6
def gM (γ:vp)(v:Value)(acc:List Tr)(lg dp:Bool)(l r:aI)(t:Tr)(n0:Nat)(σ:Nat->Option Value)(w:World):Prop:=
 match σ 6 with
 | none=>σ 7=none/\σ 8=none/\σ 10=none/\(∀x,σ 1=some x->x=v)/\Lv γ v acc lg dp l r t n0 (σ 3) (σ 5) w
 | some a=>(σ 1).isSome=true/\(σ 5).isSome=true/\(∀x,σ 1=some x->x=v)/\∃c,σ 3=some c/\Rb γ v acc lg dp r t a c (σ 8).isSome (σ 10).isSome w/\∀x,σ 7=some x->∃G cap,a=.slice (some ⟨G,0,none⟩) (acc.length+1) cap/\x=.pointer (some ⟨G,acc.length*7,none⟩)
variable{γ:vp}{v:Value}{acc:List Tr}{lg dp:Bool}{l r:aI}{t:Tr}{n0:Nat}
theorem Pl(F:γ.Fit)      (σ:Nat->Option Value)(w:World)(h:gM γ v acc lg dp l r t n0 σ w):gM γ v acc lg dp l r t n0 σ w.drew:=by
 have hb:Below w.heap.size w w.drew:=(Below.refl _ _).drew;unfold gM at*
 cases ha:σ 6 with
 | none=>exact ZgD
 | some a=>exact Zf7
section
variable {γ:vp} {v:Value} {acc:List Tr} {lg dp:Bool} {l r:aI} {t:Tr} {w0:World} {Q:Exit->Act->World->Prop} {a0:Act} {id:Nat} {o0 o1 o2 o3 o4 o5 o6 o7 o8 o9 mV:Oper} {s0 s1 d0 d1 d2 d3 d4 d5 d6 d7 d9:Tmp} {vs0 vs1:Value} {F:FuncId} {args:Array Value}
theorem zdm.KaL(h:p:=by show gM γ v acc lg dp l r t w0.heap.size _ _;unfold gM;exact ZeX):p:=h
theorem zfY.KbH(h:p:=by have hrun:=hsp ρ w (some ⟨G,0,none⟩) (acc.length+1) cap r0 (r1.symm.trans e1) hcell (hB.blk.frozen _);unfold yG;rw[hrun];show gM γ v acc lg dp l r t w0.heap.size _ _;unfold gM;exact Zek):p:=h
theorem zgq.KbT(h:p:=by show gM γ v acc lg dp l r t w0.heap.size _ _;unfold gM;exact Zex):p:=h
theorem zh0.Kcz(h:p:=by show gM γ v acc lg dp l r t w0.heap.size _ _;unfold gM;exact ZeR):p:=h
theorem ziq.KcK(h:p:=by rw[if_pos Tab] at r1;refine⟨g6,?_⟩;rw[if_pos Tab];have tR:=hno Tab;unfold gM at hG;rw[tR] at hG;obtain⟨k1,k2,k3,k4,hA⟩:=hG;have afC:=he 3 (cV.1 ale) Tab;have afD:=he 1 (cV.1 ald) Tab;obtain⟨cv,hcv⟩:=Option.isSome_iff_exists.1 afC;obtain⟨lv,hlv⟩:=Option.isSome_iff_exists.1 afD;rw[hcv,r1] at hA;obtain⟨v',w',sF,hPB⟩:=hA.app Ft hB0 hv0 hlen;refine ae (hap ρ w (ρ (.tmp d5)) v' w' (k4 _ r0) rfl sF) ?_;show gM γ v acc lg dp l r t w0.heap.size _ _;unfold gM;exact Zc8):p:=h
theorem zis.KcL(h:p:=by rw[if_neg Tab] at r1;refine⟨g7,?_⟩;rw[if_pos Tab];have tR:=hno Tab;unfold gM at hG;have ha:=he 6 (cV.1 alf) Tab;open zgq in exact Zd4):p:=h
theorem zez.Kba(h:p:=by
 refine Aq [] [o0,o1,o2,o3,o4,o5,o6,o7,o8,o9,mV] Tae (λ i=>if i=0 then .pointer (some ⟨γ.qb,γ.k,none⟩)else if i=2 then γ.ρ.ptr else if i=4 then .int .i64 (acc.length:Int)else if i=9 then .pointer (some ⟨γ.qb,γ.k,none⟩)else undef) [1,3,5,6,7,8,10] (gM γ v acc lg dp l r t w0.heap.size) (Pl Ft) ⟨rfl,rfl,rfl,(λ x e=>by cases e),Lv.start A D⟩ hm az hz rfl ?_ ?_
 ·refine⟨?_,?_,?_,?_,?_,?_,?_,?_,?_,?_,?_,trivial⟩
  ·intro ρ w σ hcs hG hr he hno;rw[t0] at hr;have r0:=hr.1;simp only[tM] at r0;refine⟨g0,?_⟩;exact U6 ρ w (r0.trans IU)
  ·intro ρ w σ hcs hG hr he hno;rw[t1] at hr;have r0:=hr.1;simp only[tN] at r0;unfold mm at r0;rw[if_neg Tab] at r0;refine⟨g1,?_⟩;rw[if_pos Tab];have tR:=hno Tab;unfold gM at hG
   have ha:σ 6=none:=by
    cases ha:σ 6 with
    | none=>rfl
    | some a=>rw[ha] at hG;have:=hG.1;rw[tR] at this;cases this
   rw[ha] at hG;obtain⟨k1,k2,k3,k4,hA⟩:=hG;refine ae (Tz ρ w r0 (hA.at_.cell Ft)) ?_;show gM γ v acc lg dp l r t w0.heap.size _ _;unfold gM;exact Zez
  ·intro ρ w σ hcs hG hr he hno;rw[t2] at hr;have r0:=hr.1;simp only[tO] at r0;refine⟨g2,?_⟩;refine Pm ρ w (r0.trans Lk) ?_;unfold gM at hG
   cases ha:σ 6 with
   | none=>rw[ha] at hG;exact hG.2.2.2.2.at_.ptr
   | some a=>exact Zhs
  ·intro ρ w σ hcs hG hr he hno;rw[t3] at hr;have r0:=hr.1;simp only[tP] at r0;unfold mm at r0;rw[if_neg Tab] at r0;refine⟨g3,?_⟩;rw[if_pos Tab];have tR:=hno Tab;unfold gM at hG
   have ha:σ 6=none:=by
    cases ha:σ 6 with
    | none=>rfl
    | some a=>exact Zhn
   open zh0 in exact Zgk
  ·intro ρ w σ hcs hG hr he hno;rw[t4] at hr;have r0:=hr.1;simp only[Db] at r0;unfold mm at r0;rw[if_pos Tab] at r0;refine⟨g4,?_⟩;refine Wh ρ w ?_;unfold gM at hG
   cases ha:σ 6 with
   | none=>rw[ha] at hG;exact hG.2.2.2.1 _ r0
   | some a=>rw[ha] at hG;exact hG.2.2.1 _ r0
  ·intro ρ w σ hcs hG hr he hno;rw[t5] at hr;refine⟨g5,?_⟩;rw[if_pos Tab];have tR:=hno Tab;unfold gM at hG
   have ha:σ 6=none:=by
    cases ha:σ 6 with
    | none=>rfl
    | some a=>rw[ha] at hG;have:=hG.2.1;rw[tR] at this;cases this
   rw[ha] at hG;obtain⟨k1,k2,k3,k4,hA⟩:=hG;rw[tR] at hA;refine ae (hz0 ρ w hcs) ?_;show gM γ v acc lg dp l r t w0.heap.size _ _;unfold gM;exact Ze9
  ·open ziq in exact ZgF
  ·open zis in exact ZgG
  ·intro ρ w σ hcs hG hr he hno;rw[t8] at hr;have r0:=hr.1;simp only[Lm] at r0;unfold mm at r0;rw[if_pos Tab] at r0;have r1:=hr.2.1;simp only[Ln] at r1;unfold mm at r1;rw[if_pos Tab] at r1;refine⟨g8,?_⟩;rw[if_pos Tab];have tR:=hno Tab;unfold gM at hG;have ha:=he 6 (cV.1 alg) Tab;open zdm in exact Zbd
  ·intro ρ w σ hcs hG hr he hno;rw[t9] at hr;have r0:=hr.1;simp only[YX] at r0;refine⟨g9,?_⟩;exact hfb ρ w (r0.trans IU)
  ·intro ρ w σ hcs hG hr he hno;rw[t10] at hr;have r0:=hr.1;simp only[acY] at r0;unfold mm at r0;rw[if_neg Tab] at r0;have r1:=hr.2.1;simp only[acZ] at r1;unfold mm at r1;rw[if_pos Tab] at r1;refine⟨g10,?_⟩;rw[if_pos Tab];have tR:=hno Tab;unfold gM at hG;have ha:=he 6 (cV.1 ada) Tab;open zfY in exact Zdl
 ·intro σ w hall hG;have ha:=hall 6 Tab;obtain⟨a,ha⟩:=Option.isSome_iff_exists.1 ha;have h8:=hall 8 Tab;have h10:=hall 10 Tab;unfold gM at hG;exact ZeU):p:=h
theorem Lz (Ft:γ.Fit)
  (hm:Tryz.prog.follows .mixedOrders=true) (az:cT [o0,o1,o2,o3,o4,o5,o6,o7,o8,o9,mV] a0.tmps.size [o0,o1,o2,o3,o4,o5,o6,o7,o8,o9,mV] 0=true) (hz:dD ([o0,o1,o2,o3,o4,o5,o6,o7,o8,o9,mV]++ []) [] 11=true) (sr:Jb o0 o1 o2 o3 o4 o5 o6 o7 o8 o9 mV s0 s1 d0 d1 d2 d3 d4 d5 d6 d7 d9=true)
  (IU:a0.eval (.tmp s0)=vs0) (Lk:a0.eval (.tmp s1)=vs1)
  (U6:∀ρ w,ρ (.tmp s0)=vs0->(execOp ρ o0).run Tryz.prog w=.ok (.value (.pointer (some ⟨γ.qb,γ.k,none⟩))) w) (hfb:∀ρ w,ρ (.tmp s0)=vs0->(execOp ρ o9).run Tryz.prog w=.ok (.value (.pointer (some ⟨γ.qb,γ.k,none⟩))) w)
  (Tz:∀ρ w,ρ (.tmp d0)=.pointer (some ⟨γ.qb,γ.k,none⟩)->w.cell? ⟨γ.qb,γ.k,none⟩=some v->(execOp ρ o1).run Tryz.prog w=.ok (.value v) w)
  (Pm:∀ρ w,ρ (.tmp s1)=vs1->w.cell? ⟨γ.pb,0,none⟩=some γ.ρ.ptr->(execOp ρ o2).run Tryz.prog w=.ok (.value γ.ρ.ptr) w)
  (fW:∀ρ w,cd ρ->ρ (.tmp d2)=γ.ρ.ptr->(execOp ρ o3).run Tryz.prog w=.ok (.enter F args) w)
  (Wh:∀ρ w,ρ (.tmp d1)=v->(execOp ρ o4).run Tryz.prog w=.ok (.value (.int .i64 (acc.length:Int))) w)
  (hz0:∀ρ w,cd ρ->(execOp ρ o5).run Tryz.prog w=.ok (.value (.slice (some ⟨w.heap.size,0,none⟩) 1 1)) (w.alloc (.cells dF 36)))
  (hap:∀ρ w x v' w',ρ (.tmp d1)=v->ρ (.tmp d5)=x->(Builtin.append_ #[24,24] 24 #[v,x]).run Tryz.prog w=.ok v' w'->(execOp ρ o6).run Tryz.prog w=.ok (.value v') w')
  (V9:∀ρ w G cap,ρ (.tmp d6)=.slice (some ⟨G,0,none⟩) (acc.length+1) cap->ρ (.tmp d4)=.int .i64 (acc.length:Int)->(execOp ρ o7).run Tryz.prog w=.ok (.value (.pointer (some ⟨G,acc.length*7,none⟩))) w)
  (hst:∀ρ w G (y:Ex),ρ (.tmp d7)=.pointer (some ⟨G,acc.length*7,none⟩)->ρ (.tmp d3)=dN y->(∀j u,dF[j]?=some u->w.cell? ⟨G,acc.length*7+j,none⟩=some u)->(∀i,w.frozen? ⟨G,i,none⟩=false)->(execOp ρ o8).run Tryz.prog w=.ok .skip (py w G (acc.length*7) y))
  (hsp:∀ρ w A n c,ρ (.tmp d9)=.pointer (some ⟨γ.qb,γ.k,none⟩)->ρ (.tmp d6)=.slice A n c->w.cell? ⟨γ.qb,γ.k,none⟩=some v->w.frozen? ⟨γ.qb,γ.k,none⟩=false->(execOp ρ mV).run Tryz.prog w=.ok .skip (w.setCell ⟨γ.qb,γ.k,none⟩ (.slice A n c)))
  (A:γ.at_ eE 36 v acc w0) (D:aY γ.ρ γ.W0 w0 l lg dp) (hlen:acc.length<=5000)
  (jf:∀w,γ.ρ.fU w l lg dp->Calls Tryz.prog F args w λ e w'=>∃y,e=.returned (dN y)/\t.at_ w' (eC w.heap.size w') y/\aY γ.ρ w w' r lg (dp || decide (32 < t.depth)))
  (tE:∀a' w,a'.defers=a0.defers->γ.acc eE 36 (acc++ [t]) w->aY γ.ρ γ.W0 w r lg (dp || decide (32 < t.depth))->wpList Tryz.prog [o0,o1,o2,o3,o4,o5,o6,o7,o8,o9,mV].toArray Q [] a' w):
  (Code.region id [o0,o1,o2,o3,o4,o5,o6,o7,o8,o9,mV].toArray true).wp Tryz.prog Q a0 w0:=by simp only[Jb,Bool.and_eq_true,beq_iff_eq,Option.isNone_iff_eq_none] at sr;obtain⟨⟨⟨⟨⟨⟨⟨⟨⟨⟨⟨⟨⟨⟨⟨⟨⟨⟨⟨⟨⟨⟨⟨⟨⟨⟨⟨⟨⟨⟨⟨⟨⟨⟨⟨⟨⟨⟨⟨⟨⟨t0,tM⟩,t1⟩,tN⟩,t2⟩,tO⟩,t3⟩,tP⟩,t4⟩,Db⟩,t5⟩,t6⟩,AZ⟩,Ll⟩,t7⟩,IW⟩,Zm⟩,t8⟩,Lm⟩,Ln⟩,t9⟩,YX⟩,t10⟩,acY⟩,acZ⟩,g0⟩,g1⟩,g2⟩,g3⟩,g4⟩,g5⟩,g6⟩,g7⟩,g8⟩,g9⟩,g10⟩,ald⟩,ale⟩,aas⟩,alf⟩,alg⟩,ada⟩:=sr;open zez in exact ZbU
theorem xT (Ft:γ.Fit) {E:List PanicEntry->World->Prop}
  (hm:Tryz.prog.follows .mixedOrders=true) (az:cT [o0,o1,o2,o3,o4,o5,o6,o7,o8,o9,mV] a0.tmps.size [o0,o1,o2,o3,o4,o5,o6,o7,o8,o9,mV] 0=true) (hz:dD ([o0,o1,o2,o3,o4,o5,o6,o7,o8,o9,mV]++ []) [] 11=true) (sr:Jb o0 o1 o2 o3 o4 o5 o6 o7 o8 o9 mV s0 s1 d0 d1 d2 d3 d4 d5 d6 d7 d9=true)
  (IU:a0.eval (.tmp s0)=vs0) (Lk:a0.eval (.tmp s1)=vs1)
  (U6:∀ρ w,ρ (.tmp s0)=vs0->(execOp ρ o0).run Tryz.prog w=.ok (.value (.pointer (some ⟨γ.qb,γ.k,none⟩))) w) (hfb:∀ρ w,ρ (.tmp s0)=vs0->(execOp ρ o9).run Tryz.prog w=.ok (.value (.pointer (some ⟨γ.qb,γ.k,none⟩))) w)
  (Tz:∀ρ w,ρ (.tmp d0)=.pointer (some ⟨γ.qb,γ.k,none⟩)->w.cell? ⟨γ.qb,γ.k,none⟩=some v->(execOp ρ o1).run Tryz.prog w=.ok (.value v) w)
  (Pm:∀ρ w,ρ (.tmp s1)=vs1->w.cell? ⟨γ.pb,0,none⟩=some γ.ρ.ptr->(execOp ρ o2).run Tryz.prog w=.ok (.value γ.ρ.ptr) w)
  (fW:∀ρ w,cd ρ->ρ (.tmp d2)=γ.ρ.ptr->(execOp ρ o3).run Tryz.prog w=.ok (.enter F args) w)
  (Wh:∀ρ w,ρ (.tmp d1)=v->(execOp ρ o4).run Tryz.prog w=.ok (.value (.int .i64 (acc.length:Int))) w)
  (hz0:∀ρ w,cd ρ->(execOp ρ o5).run Tryz.prog w=.ok (.value (.slice (some ⟨w.heap.size,0,none⟩) 1 1)) (w.alloc (.cells dF 36)))
  (vH:FY [o0,o1,o2,o3,o4,o5,o6,o7,o8,o9,mV] 3 [6,7,8,9,10]=true) (A:γ.at_ eE 36 v acc w0)
  (jf:∀w,af w0 w->Calls Tryz.prog F args w λ e w'=>∃C,e=.panicked C/\E C w') (hQ:∀C a w,a.defers=a0.defers->E C w->Q (.panic C) a w):
  (Code.region id [o0,o1,o2,o3,o4,o5,o6,o7,o8,o9,mV].toArray true).wp Tryz.prog Q a0 w0:=by
 simp only[Jb,Bool.and_eq_true,beq_iff_eq,Option.isNone_iff_eq_none] at sr;obtain⟨⟨⟨⟨⟨⟨⟨⟨⟨⟨⟨⟨⟨⟨⟨⟨⟨⟨⟨⟨⟨⟨⟨⟨⟨⟨⟨⟨⟨⟨⟨⟨⟨⟨⟨⟨⟨⟨⟨⟨⟨t0,tM⟩,t1⟩,tN⟩,t2⟩,tO⟩,t3⟩,tP⟩,t4⟩,Db⟩,t5⟩,t6⟩,AZ⟩,Ll⟩,t7⟩,IW⟩,Zm⟩,t8⟩,Lm⟩,Ln⟩,t9⟩,YX⟩,t10⟩,acY⟩,acZ⟩,g0⟩,g1⟩,g2⟩,g3⟩,g4⟩,g5⟩,g6⟩,g7⟩,g8⟩,g9⟩,g10⟩,ald⟩,ale⟩,aas⟩,alf⟩,alg⟩,ada⟩:=sr;refine lK [] [o0,o1,o2,o3,o4,o5,o6,o7,o8,o9,mV] Tae 3 [6,7,8,9,10] E af af.refl (λ _ _ _=>af.trans) af.drew (λ i _ x=>if i=0 then x=(.pointer (some ⟨γ.qb,γ.k,none⟩))else if i=1 then x=(v)else if i=2 then x=(γ.ρ.ptr)else if i=4 then x=(.int .i64 (acc.length:Int))else if i=9 then x=(.pointer (some ⟨γ.qb,γ.k,none⟩))else True) (λ _ _ _ _ h _=>h) hm az hz (by show 3 < 11;decide) vH ?_ hQ;refine⟨?_,?_,?_,?_,?_,?_,Zdb,Zdb,Zdb,Zdb,Zdb,trivial⟩
 ·refine .inr λ ρ w hcs hG hr=>?_
  rw[t0] at hr;have r0:=hr.1;simp only[tM] at r0;refine⟨g0,?_⟩;exact ae (U6 ρ w (r0.trans IU)) ⟨af.refl _,rfl⟩
 ·refine .inr λ ρ w hcs hG hr=>?_
  rw[t1] at hr;have r0:=hr.1;simp only[tN] at r0;refine⟨g1,?_⟩;exact ae (Tz ρ w r0 ((A.later Ft hG).cell Ft)) ⟨af.refl _,rfl⟩
 ·refine .inr λ ρ w hcs hG hr=>?_
  rw[t2] at hr;have r0:=hr.1;simp only[tO] at r0;refine⟨g2,?_⟩;exact ZgQ
 ·refine .inr λ ρ w hcs hG hr=>?_
  rw[t3] at hr;have r0:=hr.1;simp only[tP] at r0;refine⟨g3,?_⟩;have hrun:=fW ρ w hcs r0;exact Zei
 ·refine .inr λ ρ w hcs hG hr=>?_
  rw[t4] at hr;have r0:=hr.1;simp only[Db] at r0;refine⟨g4,?_⟩;exact ae (Wh ρ w r0) ⟨af.refl _,rfl⟩
 ·refine .inr λ ρ w hcs hG hr=>?_
  rw[t5] at hr;refine⟨g5,?_⟩;exact ae (hz0 ρ w hcs) ⟨aa _ _,trivial⟩
end
def Rc (o0 o1 o2 o3 o4 o5 o6 o7 o8:Oper)(s0 s1 d0 d1 d2 d3 d4 d5 d6:Tmp):Bool:=
 (tmpsOf o0== [s0])&&(bG [o0,o1,o2,o3,o4,o5,o6,o7,o8] o0 s0==none)&&(tmpsOf o1== [s1])&&(bG [o0,o1,o2,o3,o4,o5,o6,o7,o8] o1 s1==none)&&(tmpsOf o2== [d1])&&(bG [o0,o1,o2,o3,o4,o5,o6,o7,o8] o2 d1==some 1)&&(tmpsOf o3== [d0])&&(bG [o0,o1,o2,o3,o4,o5,o6,o7,o8] o3 d0==some 0)&&(tmpsOf o4== [])&&(tmpsOf o5== [d0,d4])&&(bG [o0,o1,o2,o3,o4,o5,o6,o7,o8] o5 d0==some 0)&&(bG [o0,o1,o2,o3,o4,o5,o6,o7,o8] o5 d4==some 4)&&(tmpsOf o6== [d5,d3])&&(bG [o0,o1,o2,o3,o4,o5,o6,o7,o8] o6 d5==some 5)&&(bG [o0,o1,o2,o3,o4,o5,o6,o7,o8] o6 d3==some 3)&&(tmpsOf o7== [d6,d2])&&(bG [o0,o1,o2,o3,o4,o5,o6,o7,o8] o7 d6==some 6)&&(bG [o0,o1,o2,o3,o4,o5,o6,o7,o8] o7 d2==some 2)&&(tmpsOf o8== [s0,d5])&&(bG [o0,o1,o2,o3,o4,o5,o6,o7,o8] o8 s0==none)&&(bG [o0,o1,o2,o3,o4,o5,o6,o7,o8] o8 d5==some 5)&& o0.guard.isNone && o1.guard.isNone && o2.guard.isNone && o3.guard.isNone && o4.guard.isNone && o5.guard.isNone && o6.guard.isNone && o7.guard.isNone && o8.guard.isNone && fX o5 0 && fX o5 2 && fX o5 4 && fX o6 5 && fX o7 5 && fX o8 5
def lU (γ:vp)(v:Value)(acc:List Tr)(lg dp:Bool)(l r:aI)(t:Tr)(n0:Nat)(σ:Nat->Option Value)(w:World):Prop:=
 match σ 5 with
 | none=>σ 6=none/\σ 7=none/\σ 8=none/\(∀x,σ 0=some x->x=v)/\Lv γ v acc lg dp l r t n0 (σ 2) (σ 4) w
 | some a=>(σ 0).isSome=true/\(σ 4).isSome=true/\(∀x,σ 0=some x->x=v)/\∃c,σ 2=some c/\Rb γ v acc lg dp r t a c (σ 7).isSome (σ 8).isSome w/\∀x,σ 6=some x->∃G cap,a=.slice (some ⟨G,0,none⟩) (acc.length+1) cap/\x=.pointer (some ⟨G,acc.length*7,none⟩)
theorem Uu(F:γ.Fit)      (σ:Nat->Option Value)(w:World)(h:lU γ v acc lg dp l r t n0 σ w):lU γ v acc lg dp l r t n0 σ w.drew:=by
 have hb:Below w.heap.size w w.drew:=(Below.refl _ _).drew;unfold lU at*
 cases ha:σ 5 with
 | none=>exact ZgD
 | some a=>exact Zf7
section
variable {γ:vp} {v:Value} {acc:List Tr} {lg dp:Bool} {l r:aI} {t:Tr} {w0:World} {Q:Exit->Act->World->Prop} {a0:Act} {id:Nat} {o0 o1 o2 o3 o4 o5 o6 o7 o8:Oper} {s0 s1 d0 d1 d2 d3 d4 d5 d6:Tmp} {vs0 vs1:Value} {F:FuncId} {args:Array Value}
theorem zdn.KaL(h:p:=by show lU γ v acc lg dp l r t w0.heap.size _ _;unfold lU;exact ZeX):p:=h
theorem zfZ.KbH(h:p:=by have hrun:=hsp ρ w (some ⟨G,0,none⟩) (acc.length+1) cap ((r0.trans IU).trans hs0) (r1.symm.trans e1) hcell (hB.blk.frozen _);unfold yG;rw[hrun];show lU γ v acc lg dp l r t w0.heap.size _ _;unfold lU;exact Zek):p:=h
theorem zgr.KbT(h:p:=by show lU γ v acc lg dp l r t w0.heap.size _ _;unfold lU;exact Zex):p:=h
theorem zh1.Kcz(h:p:=by show lU γ v acc lg dp l r t w0.heap.size _ _;unfold lU;exact ZeR):p:=h
theorem zir.KcK(h:p:=by rw[if_neg Tab] at r1;refine⟨g6,?_⟩;rw[if_pos Tab];have tR:=hno Tab;unfold lU at hG;have ha:=he 5 (cV.1 aas) Tab;open zgr in exact Zd4):p:=h
theorem zit.KcL(h:p:=by rw[if_pos Tab] at r1;refine⟨g7,?_⟩;rw[if_pos Tab];have tR:=hno Tab;unfold lU at hG;have ha:=he 5 (cV.1 alk) Tab;open zdn in exact Zbd):p:=h
theorem zeA.Kba(h:p:=by
 refine Aq [] [o0,o1,o2,o3,o4,o5,o6,o7,o8] Tae (λ i=>if i=1 then γ.ρ.ptr else if i=3 then .int .i64 (acc.length:Int)else undef) [0,2,4,5,6,7,8] (lU γ v acc lg dp l r t w0.heap.size) (Uu Ft) ⟨rfl,rfl,rfl,(λ x e=>by cases e),Lv.start A D⟩ hm az hz rfl ?_ ?_
 ·refine⟨?_,?_,?_,?_,?_,?_,?_,?_,?_,trivial⟩
  ·intro ρ w σ hcs hG hr he hno;rw[t0] at hr;have r0:=hr.1;simp only[tM] at r0;refine⟨g0,?_⟩;rw[if_pos Tab];have tR:=hno Tab;unfold lU at hG
   have ha:σ 5=none:=by
    cases ha:σ 5 with
    | none=>rfl
    | some a=>rw[ha] at hG;have:=hG.1;rw[tR] at this;cases this
   rw[ha] at hG;obtain⟨k1,k2,k3,k4,hA⟩:=hG;refine ae (Tz ρ w ((r0.trans IU).trans hs0) (hA.at_.cell Ft)) ?_;show lU γ v acc lg dp l r t w0.heap.size _ _;unfold lU;exact Zez
  ·intro ρ w σ hcs hG hr he hno;rw[t1] at hr;have r0:=hr.1;simp only[tN] at r0;refine⟨g1,?_⟩;refine Pm ρ w (r0.trans Lk) ?_;unfold lU at hG
   cases ha:σ 5 with
   | none=>rw[ha] at hG;exact hG.2.2.2.2.at_.ptr
   | some a=>exact Zhs
  ·intro ρ w σ hcs hG hr he hno;rw[t2] at hr;have r0:=hr.1;simp only[tO] at r0;unfold mm at r0;rw[if_neg Tab] at r0;refine⟨g2,?_⟩;rw[if_pos Tab];have tR:=hno Tab;unfold lU at hG
   have ha:σ 5=none:=by
    cases ha:σ 5 with
    | none=>rfl
    | some a=>exact Zhn
   open zh1 in exact Zgk
  ·intro ρ w σ hcs hG hr he hno;rw[t3] at hr;have r0:=hr.1;simp only[tP] at r0;unfold mm at r0;rw[if_pos Tab] at r0;refine⟨g3,?_⟩;refine Wh ρ w ?_;unfold lU at hG
   cases ha:σ 5 with
   | none=>rw[ha] at hG;exact hG.2.2.2.1 _ r0
   | some a=>rw[ha] at hG;exact hG.2.2.1 _ r0
  ·intro ρ w σ hcs hG hr he hno;rw[t4] at hr;refine⟨g4,?_⟩;rw[if_pos Tab];have tR:=hno Tab;unfold lU at hG
   have ha:σ 5=none:=by
    cases ha:σ 5 with
    | none=>rfl
    | some a=>rw[ha] at hG;have:=hG.2.1;rw[tR] at this;cases this
   rw[ha] at hG;obtain⟨k1,k2,k3,k4,hA⟩:=hG;rw[tR] at hA;refine ae (hz0 ρ w hcs) ?_;show lU γ v acc lg dp l r t w0.heap.size _ _;unfold lU;exact Ze9
  ·intro ρ w σ hcs hG hr he hno;rw[t5] at hr;have r0:=hr.1;simp only[IV] at r0;unfold mm at r0;rw[if_pos Tab] at r0;have r1:=hr.2.1;simp only[YW] at r1;unfold mm at r1;rw[if_pos Tab] at r1;refine⟨g5,?_⟩;rw[if_pos Tab];have tR:=hno Tab;unfold lU at hG;rw[tR] at hG;obtain⟨k1,k2,k3,k4,hA⟩:=hG;have afC:=he 2 (cV.1 alj) Tab;have afD:=he 0 (cV.1 ali) Tab;obtain⟨cv,hcv⟩:=Option.isSome_iff_exists.1 afC;obtain⟨lv,hlv⟩:=Option.isSome_iff_exists.1 afD;rw[hcv,r1] at hA;obtain⟨v',w',sF,hPB⟩:=hA.app Ft hB0 hv0 hlen;refine ae (hap ρ w (ρ (.tmp d4)) v' w' (k4 _ r0) rfl sF) ?_;show lU γ v acc lg dp l r t w0.heap.size _ _;unfold lU;exact Zc8
  ·open zir in exact ZgF
  ·open zit in exact ZgG
  ·intro ρ w σ hcs hG hr he hno;rw[t8] at hr;have r0:=hr.1;simp only[Lm] at r0;have r1:=hr.2.1;simp only[Ln] at r1;unfold mm at r1;rw[if_pos Tab] at r1;refine⟨g8,?_⟩;rw[if_pos Tab];have tR:=hno Tab;unfold lU at hG;have ha:=he 5 (cV.1 alm) Tab;open zfZ in exact Zdl
 ·intro σ w hall hG;have ha:=hall 5 Tab;obtain⟨a,ha⟩:=Option.isSome_iff_exists.1 ha;have h8:=hall 7 Tab;have h10:=hall 8 Tab;unfold lU at hG;exact ZeU):p:=h
theorem Pn (Ft:γ.Fit)
  (hm:Tryz.prog.follows .mixedOrders=true) (az:cT [o0,o1,o2,o3,o4,o5,o6,o7,o8] a0.tmps.size [o0,o1,o2,o3,o4,o5,o6,o7,o8] 0=true) (hz:dD ([o0,o1,o2,o3,o4,o5,o6,o7,o8]++ []) [] 9=true) (sr:Rc o0 o1 o2 o3 o4 o5 o6 o7 o8 s0 s1 d0 d1 d2 d3 d4 d5 d6=true)
  (IU:a0.eval (.tmp s0)=vs0) (Lk:a0.eval (.tmp s1)=vs1)
  (hs0:vs0=.pointer (some ⟨γ.qb,γ.k,none⟩))
  (Tz:∀ρ w,ρ (.tmp s0)=.pointer (some ⟨γ.qb,γ.k,none⟩)->w.cell? ⟨γ.qb,γ.k,none⟩=some v->(execOp ρ o0).run Tryz.prog w=.ok (.value v) w)
  (Pm:∀ρ w,ρ (.tmp s1)=vs1->w.cell? ⟨γ.pb,0,none⟩=some γ.ρ.ptr->(execOp ρ o1).run Tryz.prog w=.ok (.value γ.ρ.ptr) w)
  (fW:∀ρ w,cd ρ->ρ (.tmp d1)=γ.ρ.ptr->(execOp ρ o2).run Tryz.prog w=.ok (.enter F args) w)
  (Wh:∀ρ w,ρ (.tmp d0)=v->(execOp ρ o3).run Tryz.prog w=.ok (.value (.int .i64 (acc.length:Int))) w)
  (hz0:∀ρ w,cd ρ->(execOp ρ o4).run Tryz.prog w=.ok (.value (.slice (some ⟨w.heap.size,0,none⟩) 1 1)) (w.alloc (.cells dF 36)))
  (hap:∀ρ w x v' w',ρ (.tmp d0)=v->ρ (.tmp d4)=x->(Builtin.append_ #[24,24] 24 #[v,x]).run Tryz.prog w=.ok v' w'->(execOp ρ o5).run Tryz.prog w=.ok (.value v') w')
  (V9:∀ρ w G cap,ρ (.tmp d5)=.slice (some ⟨G,0,none⟩) (acc.length+1) cap->ρ (.tmp d3)=.int .i64 (acc.length:Int)->(execOp ρ o6).run Tryz.prog w=.ok (.value (.pointer (some ⟨G,acc.length*7,none⟩))) w)
  (hst:∀ρ w G (y:Ex),ρ (.tmp d6)=.pointer (some ⟨G,acc.length*7,none⟩)->ρ (.tmp d2)=dN y->(∀j u,dF[j]?=some u->w.cell? ⟨G,acc.length*7+j,none⟩=some u)->(∀i,w.frozen? ⟨G,i,none⟩=false)->(execOp ρ o7).run Tryz.prog w=.ok .skip (py w G (acc.length*7) y))
  (hsp:∀ρ w A n c,ρ (.tmp s0)=.pointer (some ⟨γ.qb,γ.k,none⟩)->ρ (.tmp d5)=.slice A n c->w.cell? ⟨γ.qb,γ.k,none⟩=some v->w.frozen? ⟨γ.qb,γ.k,none⟩=false->(execOp ρ o8).run Tryz.prog w=.ok .skip (w.setCell ⟨γ.qb,γ.k,none⟩ (.slice A n c)))
  (A:γ.at_ eE 36 v acc w0) (D:aY γ.ρ γ.W0 w0 l lg dp) (hlen:acc.length<=5000)
  (jf:∀w,γ.ρ.fU w l lg dp->Calls Tryz.prog F args w λ e w'=>∃y,e=.returned (dN y)/\t.at_ w' (eC w.heap.size w') y/\aY γ.ρ w w' r lg (dp || decide (32 < t.depth)))
  (tE:∀a' w,a'.defers=a0.defers->γ.acc eE 36 (acc++ [t]) w->aY γ.ρ γ.W0 w r lg (dp || decide (32 < t.depth))->wpList Tryz.prog [o0,o1,o2,o3,o4,o5,o6,o7,o8].toArray Q [] a' w):
  (Code.region id [o0,o1,o2,o3,o4,o5,o6,o7,o8].toArray true).wp Tryz.prog Q a0 w0:=by simp only[Rc,Bool.and_eq_true,beq_iff_eq,Option.isNone_iff_eq_none] at sr;obtain⟨⟨⟨⟨⟨⟨⟨⟨⟨⟨⟨⟨⟨⟨⟨⟨⟨⟨⟨⟨⟨⟨⟨⟨⟨⟨⟨⟨⟨⟨⟨⟨⟨⟨⟨t0,tM⟩,t1⟩,tN⟩,t2⟩,tO⟩,t3⟩,tP⟩,t4⟩,t5⟩,IV⟩,YW⟩,t6⟩,AZ⟩,Ll⟩,t7⟩,IW⟩,Zm⟩,t8⟩,Lm⟩,Ln⟩,g0⟩,g1⟩,g2⟩,g3⟩,g4⟩,g5⟩,g6⟩,g7⟩,g8⟩,ali⟩,alj⟩,aqz⟩,aas⟩,alk⟩,alm⟩:=sr;open zeA in exact ZbU
theorem zC (Ft:γ.Fit) {E:List PanicEntry->World->Prop}
  (hm:Tryz.prog.follows .mixedOrders=true) (az:cT [o0,o1,o2,o3,o4,o5,o6,o7,o8] a0.tmps.size [o0,o1,o2,o3,o4,o5,o6,o7,o8] 0=true) (hz:dD ([o0,o1,o2,o3,o4,o5,o6,o7,o8]++ []) [] 9=true) (sr:Rc o0 o1 o2 o3 o4 o5 o6 o7 o8 s0 s1 d0 d1 d2 d3 d4 d5 d6=true)
  (IU:a0.eval (.tmp s0)=vs0) (Lk:a0.eval (.tmp s1)=vs1)
  (hs0:vs0=.pointer (some ⟨γ.qb,γ.k,none⟩))
  (Tz:∀ρ w,ρ (.tmp s0)=.pointer (some ⟨γ.qb,γ.k,none⟩)->w.cell? ⟨γ.qb,γ.k,none⟩=some v->(execOp ρ o0).run Tryz.prog w=.ok (.value v) w)
  (Pm:∀ρ w,ρ (.tmp s1)=vs1->w.cell? ⟨γ.pb,0,none⟩=some γ.ρ.ptr->(execOp ρ o1).run Tryz.prog w=.ok (.value γ.ρ.ptr) w)
  (fW:∀ρ w,cd ρ->ρ (.tmp d1)=γ.ρ.ptr->(execOp ρ o2).run Tryz.prog w=.ok (.enter F args) w)
  (Wh:∀ρ w,ρ (.tmp d0)=v->(execOp ρ o3).run Tryz.prog w=.ok (.value (.int .i64 (acc.length:Int))) w)
  (hz0:∀ρ w,cd ρ->(execOp ρ o4).run Tryz.prog w=.ok (.value (.slice (some ⟨w.heap.size,0,none⟩) 1 1)) (w.alloc (.cells dF 36)))
  (vH:FY [o0,o1,o2,o3,o4,o5,o6,o7,o8] 2 [5,6,7,8]=true) (A:γ.at_ eE 36 v acc w0)
  (jf:∀w,af w0 w->Calls Tryz.prog F args w λ e w'=>∃C,e=.panicked C/\E C w') (hQ:∀C a w,a.defers=a0.defers->E C w->Q (.panic C) a w):
  (Code.region id [o0,o1,o2,o3,o4,o5,o6,o7,o8].toArray true).wp Tryz.prog Q a0 w0:=by
 simp only[Rc,Bool.and_eq_true,beq_iff_eq,Option.isNone_iff_eq_none] at sr;obtain⟨⟨⟨⟨⟨⟨⟨⟨⟨⟨⟨⟨⟨⟨⟨⟨⟨⟨⟨⟨⟨⟨⟨⟨⟨⟨⟨⟨⟨⟨⟨⟨⟨⟨⟨t0,tM⟩,t1⟩,tN⟩,t2⟩,tO⟩,t3⟩,tP⟩,t4⟩,t5⟩,IV⟩,YW⟩,t6⟩,AZ⟩,Ll⟩,t7⟩,IW⟩,Zm⟩,t8⟩,Lm⟩,Ln⟩,g0⟩,g1⟩,g2⟩,g3⟩,g4⟩,g5⟩,g6⟩,g7⟩,g8⟩,ali⟩,alj⟩,aqz⟩,aas⟩,alk⟩,alm⟩:=sr;refine lK [] [o0,o1,o2,o3,o4,o5,o6,o7,o8] Tae 2 [5,6,7,8] E af af.refl (λ _ _ _=>af.trans) af.drew (λ i _ x=>if i=0 then x=(v)else if i=1 then x=(γ.ρ.ptr)else if i=3 then x=(.int .i64 (acc.length:Int))else True) (λ _ _ _ _ h _=>h) hm az hz (by show 2 < 9;decide) vH ?_ hQ;refine⟨?_,?_,?_,?_,?_,Zdb,Zdb,Zdb,Zdb,trivial⟩
 ·refine .inr λ ρ w hcs hG hr=>?_
  rw[t0] at hr;have r0:=hr.1;simp only[tM] at r0;refine⟨g0,?_⟩;exact ae (Tz ρ w ((r0.trans IU).trans hs0) ((A.later Ft hG).cell Ft)) ⟨af.refl _,rfl⟩
 ·refine .inr λ ρ w hcs hG hr=>?_
  rw[t1] at hr;have r0:=hr.1;simp only[tN] at r0;refine⟨g1,?_⟩;exact ZgQ
 ·refine .inr λ ρ w hcs hG hr=>?_
  rw[t2] at hr;have r0:=hr.1;simp only[tO] at r0;refine⟨g2,?_⟩;have hrun:=fW ρ w hcs r0;exact Zei
 ·refine .inr λ ρ w hcs hG hr=>?_
  rw[t3] at hr;have r0:=hr.1;simp only[tP] at r0;refine⟨g3,?_⟩;exact ae (Wh ρ w r0) ⟨af.refl _,rfl⟩
 ·refine .inr λ ρ w hcs hG hr=>?_
  rw[t4] at hr;refine⟨g4,?_⟩;exact ae (hz0 ρ w hcs) ⟨aa _ _,trivial⟩
end
theorem zht.Kcj(h:p:=by exact aj (P:=Tryz.prog) (fn:=Tryz.f151) hdf hE):p:=h
theorem ziE.KcR(h:p:=by exact bodyPost_end (results_none Tryz.results151 _ _ _) hdf hE):p:=h
theorem LA (γ:vp)(F:γ.Fit)(Uv:γ.TQ=28)(hk:γ.k=4)(acc:List Tr)(W:World)(l:aI)(lg dp:Bool)(hn:acc.length<=5000)(hs:γ.acc eE 36 acc W)(hd:aY γ.ρ γ.W0 W l lg dp):
  Calls Tryz.prog 151 #[.pointer (some ⟨γ.qb,0,none⟩),.pointer (some ⟨γ.pb,0,none⟩)] W (sy γ.ρ γ.W0 (λ t=>decide (32 < t.depth)) eJ (γ.acc eE 36) acc lg dp l):=by
 obtain⟨v,A⟩:=hs;obtain⟨ys,ho,ha⟩:=A.row.has;obtain⟨A0,c0,hv⟩:=ho.form;have zz:ys.length=acc.length:=ha.len;rw[zz] at hv;subst hv;have Zn:(Addr.mk γ.qb 4 none)=⟨γ.qb,γ.k,none⟩:=by rw[hk]
 clear ho ha zz Uv;go_enter Tryz.func151,Tryz.ntmps151
 cases hx:eJ l with
 | ok z=>
   obtain⟨t,r⟩:=z;go_wp2_with fail;refine Lz (lg:=lg) (dp:=dp) (l:=l) (r:=r) (t:=t) (γ:=γ) (v:=.slice A0 acc.length c0) (acc:=acc) (s0:=0) (s1:=1) (d0:=2) (d1:=3) (d2:=4) (d3:=5) (d4:=6) (d5:=7) (d6:=8) (d7:=9) (d9:=10) (vs0:=.pointer (some ⟨γ.qb,0,none⟩)) (vs1:=.pointer (some ⟨γ.pb,0,none⟩)) (F:=120) (args:= #[γ.ρ.ptr]) F Tac Tac Tac Tac rfl rfl Ze8 Ze8 ZdI ZcY Zdm ZcS Ze7 ?_ ZgA ZcB Zhq A hd hn ZcH ?_
   ·intro ρ' w' x' v' O4 qZ nK sF;exact Zbc
   ·open ziE in exact ZgU
 | error m=>
   go_wp2_with fail;refine xT (E:=λ C W=>C=[rG (γ.ρ.placeOf m)]/\γ.W0.grownBy W (some γ.ρ.g)) (γ:=γ) (v:=.slice A0 acc.length c0) (acc:=acc) (s0:=0) (s1:=1) (d0:=2) (d1:=3) (d2:=4) (d3:=5) (d4:=6) (d5:=7) (d6:=8) (d7:=9) (d9:=10) (vs0:=.pointer (some ⟨γ.qb,0,none⟩)) (vs1:=.pointer (some ⟨γ.pb,0,none⟩)) (F:=120) (args:= #[γ.ρ.ptr]) F Tac Tac Tac Tac rfl rfl Ze8 Ze8 ZdI ZcY Zdm ZcS Ze7 Tac A ZcG ?_
   ·open zht in exact ZeV
theorem zhu.Kcj(h:p:=by exact aj (P:=Tryz.prog) (fn:=Tryz.f119) hdf hE):p:=h
theorem ziF.KcR(h:p:=by exact bodyPost_end (results_none Tryz.results119 _ _ _) hdf hE):p:=h
theorem LB (γ:vp)(F:γ.Fit)(Uv:γ.TQ=24)(hk:γ.k=0)(acc:List Tr)(W:World)(l:aI)(lg dp:Bool)(hn:acc.length<=5000)(hs:γ.acc eE 36 acc W)(hd:aY γ.ρ γ.W0 W l lg dp):
  Calls Tryz.prog 119 #[.pointer (some ⟨γ.qb,0,none⟩),.pointer (some ⟨γ.pb,0,none⟩)] W (sy γ.ρ γ.W0 (λ t=>decide (32 < t.depth)) eJ (γ.acc eE 36) acc lg dp l):=by
 obtain⟨v,A⟩:=hs;obtain⟨ys,ho,ha⟩:=A.row.has;obtain⟨A0,c0,hv⟩:=ho.form;have zz:ys.length=acc.length:=ha.len;rw[zz] at hv;subst hv;have Zn:(Addr.mk γ.qb 0 none)=⟨γ.qb,γ.k,none⟩:=by rw[hk]
 clear ho ha zz Uv;go_enter Tryz.func119,Tryz.ntmps119
 cases hx:eJ l with
 | ok z=>
   obtain⟨t,r⟩:=z;go_wp2_with fail;refine Pn (lg:=lg) (dp:=dp) (l:=l) (r:=r) (t:=t) (γ:=γ) (v:=.slice A0 acc.length c0) (acc:=acc) (s0:=0) (s1:=1) (d0:=2) (d1:=3) (d2:=4) (d3:=5) (d4:=6) (d5:=7) (d6:=8) (vs0:=.pointer (some ⟨γ.qb,0,none⟩)) (vs1:=.pointer (some ⟨γ.pb,0,none⟩)) (F:=120) (args:= #[γ.ρ.ptr]) F Tac Tac Tac Tac rfl rfl ?_ ZdI ZcY Zdm ZcS Ze7 ?_ ZgA ZcB Zhq A hd hn ZcH ?_
   ·rw[<- Zn]
   ·intro ρ' w' x' v' O4 qZ nK sF;exact Zbc
   ·open ziF in exact ZgU
 | error m=>
   go_wp2_with fail;refine zC (E:=λ C W=>C=[rG (γ.ρ.placeOf m)]/\γ.W0.grownBy W (some γ.ρ.g)) (γ:=γ) (v:=.slice A0 acc.length c0) (acc:=acc) (s0:=0) (s1:=1) (d0:=2) (d1:=3) (d2:=4) (d3:=5) (d4:=6) (d5:=7) (d6:=8) (vs0:=.pointer (some ⟨γ.qb,0,none⟩)) (vs1:=.pointer (some ⟨γ.pb,0,none⟩)) (F:=120) (args:= #[γ.ρ.ptr]) F Tac Tac Tac Tac rfl rfl ?_ ZdI ZcY Zdm ZcS Ze7 Tac A ZcG ?_
   ·rw[<- Zn]
   ·open zhu in exact ZeV
def UC (ρ:bp)(W:World)(pb:Nat):vp:=⟨ρ,W,24,W.heap.size,0,pb,W.heap.size+1,#[.slice none 0 0],[],λ _ _=>True⟩
variable{ρ:bp}{W:World}{pb:Nat}
theorem Zw(hg:ρ.g < W.heap.size)(h1:ρ.g < pb)(h2:pb < W.heap.size):(UC ρ W pb).Fit:=
 ⟨hg,Nat.le_refl _,h1,by show pb≠W.heap.size;omega,Nat.lt_succ_self _,by show pb < W.heap.size+1;omega,λ x hx=>by simp[UC] at hx,by show 0 < 1;omega,λ w w' S S' h hk=>trivial⟩
theorem zia.KcD(h:p:=by
 have bj:=F.gg;have hp0:=F.p0;have VO:=F.pq;have hqB:=F.qB;have hpB:=F.pB;have hsz:=A.sz;have hgW:γ.ρ.g < W.heap.size:=by have:=hd.lt;omega
 have hvo:∀G,v.ownBlock=some G->G < W.heap.size:=λ G hG=>(A.ge hG).2
 have HA:=hid A;have HD:=hid hd;have b1:=aa W (.cells #[.slice none 0 0] 24);have HR:=hid (av.new W 24 #[.slice none 0 0]);have HG1:=hid (aY.aC hd.at_ b1);clear Uv A hd b1;go_enter Tryz.func118,Tryz.ntmps118;go_upto_region 1 with fail;generalize hW1:(W.alloc _)=W1 at*;clear hW1;have hr1:=HR.out.lt;have p0:=(HA.out.grown F HG1.out.grown).ptr;have hb:=aa W1 (.cells (aP [bz]) 9);have zE:=hid (HG1.out.later hb);have Nk:=hid (HR.out.later hb);have hm:=aW γ.ρ _ l _ _ zE.out.at_ [bz] W1.heap.size 1 rfl (av.new W1 _ _) Taa Taa;clear hb HG1 HR;unfold aP strOf at hm zE Nk;simp only[map_cons,map_nil] at hm zE Nk;rw[show bz.toArray= #[40] from rfl] at hm zE Nk;go_wp2_with fail;refine hm.mono ?_;clear hm p0;intro e w2 hp
 rcases hp.cases with ⟨_,l2,v9,az,rfl,rfl,d⟩|⟨m,au,rfl,hg⟩;case inr=>
  have ER:must bz l=.error m:=by rw[<- ay];exact au
  have HF:=hid (show td l=.error m from ak ER);have HG:=hid (ai HD.out.grown zE.out.grown);clear hp au ER;go_wp2_with fail;exact aj rfl (vo.err HF.out ⟨rfl,ai HG.out hg⟩)
 have jW:must bz l=.ok ((),l2):=by rw[<- ay];exact az
 have HE:=hid (show td l=(dI eJ >>= λ xs=>must aM >>= λ _=>pure xs) l2 from ag jW);have Ek:=hid (zE.out.trans d);have HR3:=hid (d.blk Nk.out Taa);clear hp az jW d zE Nk;have hA3:=HA.out.grown F Ek.out.grown;have p0:=hA3.ptr;have F2:=Zw (ρ:=γ.ρ) (W:=W) (pb:=γ.pb) hgW hp0 Taa;have hac:(UC γ.ρ W γ.pb).acc eE 36 [] w2:=⟨.slice none 0 0,HR3.out,jw.nil eE 36 w2 (W.heap.size+1),trivial,by have:=HR3.out.lt;show W.heap.size+1<=w2.heap.size;omega,hA3.uS,λ x hx=>by simp[UC] at hx⟩
 have L:Lst γ.ρ W (λ t=>decide (32 < t.depth)) eJ 119 #[.pointer (some ⟨W.heap.size,0,none⟩),.pointer (some ⟨γ.pb,0,none⟩)] ((UC γ.ρ W γ.pb).acc eE 36):=
  ⟨kH,enters_of Tryz.func119 Tac rfl,λ acc a b hs hg _=>by obtain⟨v,h⟩:=hs;exact⟨v,h.grown F2 hg⟩,λ acc W3 l lg dp hn hs hd=>LB (UC γ.ρ W γ.pb) F2 rfl rfl acc W3 l lg dp hn hs hd⟩
 have hm:=nS γ.ρ W (λ t=>decide (32 < t.depth)) eJ 119 #[.pointer (some ⟨W.heap.size,0,none⟩),.pointer (some ⟨γ.pb,0,none⟩)] _ L w2 l2 lg dp Ek.out hac hgW;have HF2:=hid F2;clear L F2 hac hA3 HR3;go_wp2_with fail;refine hm.mono ?_;clear hm p0;intro e w3 hp;unfold iK at hp
 cases hx:dI eJ l2 with
 | error m=>rw[hx] at hp;obtain⟨rfl,hg⟩:=hp;have HF:=hid (show td l=.error m from HE.out.trans (ak hx));have HG:=hid (ai HD.out.grown hg);clear hx hg;go_wp2_with fail;exact aj rfl (vo.err HF.out ⟨rfl,HG.out⟩)
 | ok z=>
   obtain⟨xs,l3⟩:=z;rw[hx] at hp;obtain⟨rfl,⟨v3,hs⟩,hd⟩:=hp;have uK:=hid (show td l=(must aM >>= λ _=>pure xs) l3 from HE.out.trans (ag hx));have HS:=hid hs;have JJ:=hid hd;clear hx hs hd HE Ek;have hw3:=JJ.out.size;have axl:=JJ.out.lt;have p0:=(HA.out.grown F JJ.out.grown).ptr;have hb:=aa w3 (.cells (aP [aM]) 9);have EO:=hid (JJ.out.later hb);have O0:=hid (HS.out.later HF2.out hb);have hm:=aW γ.ρ _ l3 _ _ EO.out.at_ [aM] w3.heap.size 1 rfl (av.new w3 _ _) Taa Taa;clear hb JJ HS;unfold aP strOf at hm EO O0;simp only[map_cons,map_nil] at hm EO O0;rw[show aM.toArray= #[41] from rfl] at hm EO O0;go_wp2_with fail;refine hm.mono ?_;clear hm p0;intro e w4 hp
   rcases hp.cases with ⟨_,l4,v9,az,rfl,rfl,d⟩|⟨m,au,rfl,hg⟩;case inr=>
    have ER:must aM l3=.error m:=by rw[<- ay];exact au
    have HF:=hid (show td l=.error m from uK.out.trans (ak ER));have HG:=hid (ai HD.out.grown EO.out.grown);clear hp au ER;go_wp2_with fail;exact aj rfl (vo.err HF.out ⟨rfl,ai HG.out hg⟩)
   have jW:must aM l3=.ok ((),l4):=by rw[<- ay];exact az
   have MO:=hid (show td l=.ok (xs,l4)from uK.out.trans ((ag jW).trans rfl));have HG6:=hid (EO.out.trans d);have hS:=O0.out.grown HF2.out d.grown;clear hp az jW d EO O0;obtain⟨sl,hv,hn9,jk⟩:=hS.row.sl (B':=W.heap.size+1) (Nat.le_refl _);have x0:w4.cell? ⟨W.heap.size,0,none⟩=some v3:=hS.cell HF2.out;rw[hv] at x0;obtain⟨A3,n3,c3⟩:=sl;unfold fF at x0;have HSL:=hid jk;have hA:=HA.out.grown F HG6.out.grown;have uQ:=hid hA;have kq:=hA.cell F;rw[hk] at kq;have Pp:=hA.sz;have hw4:=HG6.out.size;have HDD:=hid (HD.out.trans HG6.out);clear hA hS hv hn9 jk uK HG6 HA HD HF2;go_wp2_with (first
    |(at_builtin
      refine dZ uQ.out F rfl _ _ 29 rfl _ 24 Tryz.underlying29 Ux rfl Tab (⟨A3,n3,c3⟩:Sl) (row_one _) rfl rfl Taa Taa Pp ?_
      intro ys v' W3 ha oQ lJ hv
      obtain⟨A9,n9,c9,rfl⟩:=mY oQ
      obtain⟨Pq,Pr,wG,wH⟩:=uQ.out.push F HDD.out (n0:=W.heap.size+1) (x:=xs) (y:=(⟨A3,n3,c3⟩:Sl)) (show rR.rel w4 (eC (W.heap.size+1) w4) xs (⟨A3,n3,c3⟩:Sl)from HSL.out) Taa (λ G hG=>by have:=hvo G hG;omega) ha (aa _ _) lJ oQ Tay
      rw[hk] at Pq Pr wG wH
      have Pt:=hid wG
      have Pu:=hid wH
      clear wG wH ha oQ lJ hv))
   go_end0;exact vo.ok MO.out ⟨_,Pt.out⟩ Pu.out):p:=h
theorem UD (γ:vp)(F:γ.Fit)(Uv:γ.TQ=34)(hk:γ.k=19)(acc:List (List Tr))(W:World)(l:aI)(lg dp:Bool)(hn:acc.length<=5000)(hs:γ.acc rR 24 acc W)(hd:aY γ.ρ γ.W0 W l lg dp):
  Calls Tryz.prog 118 #[.pointer (some ⟨γ.pb,0,none⟩),.pointer (some ⟨γ.qb,0,none⟩)] W (vo γ.ρ γ.W0 (λ r=>decide (64 < r.length)) (λ r=>cZ r) td (γ.acc rR 24) acc lg dp l):=by obtain⟨v,A⟩:=hs;open zia in exact Zgq
end Go.Proofs.YtehhdlgjfdnafaaGreatDoor
