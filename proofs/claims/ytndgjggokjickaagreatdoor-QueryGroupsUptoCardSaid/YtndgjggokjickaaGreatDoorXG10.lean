/- Parts of the proof. -/
import Derived.Test.YtndgjggokjickaaGreatDoorXG9
namespace Go.Proofs.YtndgjggokjickaaGreatDoor
variable{p:Prop}
set_option maxHeartbeats 90000000
set_option maxRecDepth 100000
open Go.ChangeShapes Go.WideShapes Go.ChangeAt Go.RowKit List
set_option linter.unusedVariables false
set_option linter.unusedSimpArgs false
variable{x':tE (uF×dp)}
theorem Rz(l:uF)(y:Tr) {x:tE (uF×dp)}(h:x'=(match x with | .error e=> .error e | .ok (ys,s)=> .ok (y::ys,s))):tS l x'=tS (l++ [y]) x:=by rw[h];exact DF l y x
theorem zbK.Kam(h:p:=by go_wp2_with fail;exact HE.ae er _ _ (.inl (HJ.ae.symm.trans oF.ae)) nO.ae ⟨rfl,rfl,rfl⟩ HW2.ae):p:=h
theorem zbL.Kam(h:p:=by go_wp2_with fail;exact HE.ae 40 _ _ (.inl (HJ.ae.symm.trans oF.ae)) V0 ⟨rfl,rfl,rfl⟩ HW2.ae):p:=h
theorem zdk.KaF(h:p:=by simp[go_sem,h,z0,z1,x2,x3,x4,x5,x6,bD]):p:=h
theorem ze7.Kbe(h:p:=by go_upto_region 41 with fail;generalize w6.alloc (.cells (az Kx) 46)=WD at*;go_wp2_with fail;refine(uh ty er WD).mono ?_;rintro e zq ⟨rfl,JL⟩;rw[BP nO.ae];have HW2:=aa (HW.ae.later JL);clear HW JL;obtain⟨_,_,_,uO,_,_,b4,b5,_⟩:=HW2.ae;open zbK in exact ZaB):p:=h
theorem zho.Kb8(h:p:=by have V1:=aa (sN.ae.apz (by rw[QU.ae] at zF ⊢;exact zF) (mB Hb.ae));exact Zch):p:=h
theorem zfa.Kbf(h:p:=by
 have Al:=aa HX;clear HX;go_wp2_with fail;refine(uh ty 0 WD).mono ?_;rintro e zq ⟨rfl,JL⟩;rw[FH]
 cases hgo:cf ty 1 with
 | false=>
   rw[if_pos rfl];have oF:=aa (show X=.error 40 by
    rw[uH.ae,IU.ae]
    show tS eM (if cf ty 1=false then _ else _)=_
    rw[if_pos hgo]
    rfl)
   have HW2:=aa (sN.ae.f.U9.later JL);clear JL sN Hb Oo hgo IU;obtain⟨_,_,_,uO,_,_,b4,b5,_⟩:=HW2.ae;open zbL in exact ZaB
 | true=>
   rw[if_neg V0];have EM:=aa (show X=tS (eM++ [t2]) (dm c.aI c.aF c.cols (q.fK.drop (k+1)) s2) by
    rw[uH.ae,IU.ae]
    refine Rz eM t2 ?_
    show(if cf ty 1=false then _ else _)=_
    rw[if_neg (by rw[hgo];decide)])
   have HPA:=aa (sN.ae.later JL);have aqS:=aa ((De.later (w0:=w0) (gp:=gp) (R:=PR u' v' { r with j:=rv }) JL).trees Hb.ae);have HYA:=aa (Oo.ae.later JL);clear sN Hb Oo JL uH IU hgo;have sN:=HPA;have Hb:=aqS;have Oo:=HYA;clear HPA aqS HYA;obtain⟨RA,rc,uW,_⟩:=sN.ae.o4.reads;have Aj:=aa sN.ae.o4;have HL7:=aa (show yh.length<=1000000 by have:=HFN.ae;have:=qA.ae;have:=GZ.ae;have:=Al.ae;omega);dsimp only at uW Aj;subst uW;obtain⟨r1,hr1⟩:∃r1:Rest,r1= { r with j:=Value.slice RA yh.length rc }:=⟨_,rfl⟩;have QU:=aa hr1;rw[<- hr1] at sN Hb;clear hr1;go_wp2_with fail;refine Gv (gp:=gp) (k:=14) (B:=w0.heap.size) (gx:=gY) (cs:=c.cells r1 u' v') (r:=Value.slice RA yh.length rc) (ys:=yh) (y:=Kx) (s0:=6) (s1:=22) (d0:=209) (d1:=210) (d2:=211) (d3:=212) (d4:=213) (d5:=214) (d6:=215) (d7:=216) (d8:=217) (d10:=218) (d11:=219) WC WC WC rfl rfl ?_ ?_ ?_ ?_ ?_ ?_ ?_ ?_ ?_ ?_ ?_ ?_ ?_ ?_ sN.ae.f.base.size sN.ae.blk Aj.ae HL7.ae Oo.ae Ua.ae.1 Ua.ae.2 ?_
   ·exact Zd5
   ·exact Zd5
   ·exact Zd5
   ·intro ρ w h hc;simp[go_sem,h,hc]
   ·intro ρ w h hb;open zdk in exact Zbq
   ·exact Zd5
   ·intro ρ w hc;simp[go_sem,hc.const,bD,wJ]
   ·exact Zeb
   ·exact Zgu
   ·rfl
   ·exact Zd5
   ·exact Zd5
   ·intro ρ w KK n1 c1 h1 h2 hc hf;simp[go_sem,h1,h2,hc,hf]
   ·rw[QU.ae];rfl
   open zho in exact Zf8):p:=h
theorem zbe.Kag(h:p:=by
 clear k1;go_wp2_with fail;clear z0 z1 x2 x3 x4 x5 x6;refine(Db c w0 gp { r with j:=rv } t y s1 u1 v1 Jt W2 je.ae kI.ae xm.ae tT.ae.ps TaM).mono ?_;intro e w6 hp;have tQ:=aa (lL c.aI c.aF c.cols t s1)
 cases hr:mb c.aI c.aF c.cols t s1 with
 | error er=>
   open ze7 in exact Zc4
 | ok p=>obtain⟨t2,ty,s2⟩:=p;have jL:=uU.ae;rw[hr] at hp tQ jL;obtain⟨Kx,u',v',M8,rfl,uG,pJ,hst⟩:=hp;have rR:=tT.ae.call hst pJ;have Xd:=tT.ae.tree hst pJ uG;have bg:=ah w6 (.cells (az Kx) 46);have Yq:=aB.new w6 46 (az Kx);have sN:=aa (rR.later bg);have Hb:=aa ((De.later (w0:=w0) (gp:=gp) (R:=PR u' v' { r with j:=rv }) bg).trees (Tr.eG Xd));have Ua:=aa (show w6.heap.size≠gp/\rv.ownBlock≠some w6.heap.size from⟨by have:=rR.f.lt;omega,λ e=>by have:=(rR.f.rows 4 TD _ e).2.1;omega⟩);have DG:=aa (tQ.ae.len _ _ _ rfl);have IU:=aa jL;have HX:=rR.t4.length;clear hr jL hst pJ uG rR Xd bg tQ uU tT;go_upto_region 41 with fail;open zfa in exact Zc5):p:=h
theorem zgg.KbG(h:p:=by clear iz MK;open zbe in exact Zau):p:=h
theorem zcA.Kax(h:p:=by
 have iz:=aa Gu;have b2:=Gu.f.z2;unfold fN at b2;have c5:=b2.cell 5;simp only[Uaa] at c5;rw[hn,<- NT] at c5;clear hE AK SZ qK hfn hz hS hw AL Ai G3 Wy Gu b2 hn NT;simp only[bK,eZ,Tryz.f28,Option.getD_some];go_wp2_with fail;clear c5;go_loopw [192] (λ i wr=>∃(k:Nat) (rv u1 v1:Value) (Jt yh:u_) (s1:dp) (eM:uF),k<=zs.length/\i=af k/\cW c w0 gp g2 (fN q L) g4 g5 D { r with j:=rv } wr u1 v1 Jt s1 hd yi yh [] ti eM []/\X=tS eM (dm c.aI c.aF c.cols (q.fK.drop k) s1)/\s1.aF.length+s1.aD.length+2*Tr.aN (q.fK.drop k)+2*Tr.aN (q.ord.map (·.1))<=1000000/\eM.length=k) (λ i _=>zs.length - (intOf i).toNat);case atStart=>exact⟨0,r.j,u,v,ya,[],s,[],Nat.zero_le _,rfl,iz.ae,by rw[drop_zero,Ha];exact HJ.ae,by rw[drop_zero];exact A2.ae,rfl⟩
 case round=>
  rename_i K hK;clear iz;obtain⟨k,rv,u1,v1,Jt,yh,s1,eM,hk,rfl,Gu,TZ,G3,TH⟩:=hrel;have uH:=aa TZ;have AW:=aa G3;have iz:=aa Gu;have qA:=aa TH;clear TZ G3 Gu TH;by_cases hlt:k < zs.length
  ·have gu:k < q.fK.length:=by rw[<- GZ.ae];exact hlt
   obtain⟨b,off,hA,Cu,hex⟩:∃b off,L.h.A=some ⟨b,off,none⟩/\b < w0.heap.size/\cg w0 b (off+k*7) zs[k]:=by exact Zg5
   have rI:(q.fK[k]'gu).at_ w0 (Old w0) zs[k]:=by obtain⟨Kx,h1,h2⟩:=pI gu mr.ae;rw[getElem?_eq_getElem hlt] at h1;injection h1 with h1;rw[h1];exact h2
   have gP:(q.fK[k]'gu).ok:=dO.1 LW.ae _ (getElem_mem gu);have hnd:Tr.aN (q.fK.drop k)=(q.fK[k]'gu).nodes+Tr.aN (q.fK.drop (k+1)):=uN gu;have hdr:dm c.aI c.aF c.cols (q.fK.drop k) s1=(match mb c.aI c.aF c.cols (q.fK[k]'gu) s1 with
     | .error e=> .error e
     | .ok (Kx,k2,s')=>if cf k2 1=false then .error 40 else match dm c.aI c.aF c.cols (q.fK.drop (k+1)) s' with
       | .error e=> .error e
       | .ok (ys,LC)=> .ok (Kx::ys,LC)):=by
    rw[drop_eq_getElem_cons gu];rfl
   generalize zs[k]=y at*;generalize (q.fK[k]'gu)=t at*;have iQ:=hex.keep (λ o=>iz.ae.f.base.cell (p:=⟨b,o,none⟩) Cu);unfold cg at iQ;have xm:=aa rI;have kI:=aa gP;have HND:=aa hnd;have uU:=aa hdr;have HAA:=aa hA;rw[hA];clear hex rI gP hnd hdr hA Cu gu;go_upto_region 40 with fail;open zgg in exact Zej
  ·have GR:k=zs.length:=by omega
   have V2:=aa (show X=.ok (eM,s1) by
    rw[uH.ae,GR,GZ.ae,drop_length]
    show Except.ok (eM++ [],s1)=_
    rw[append_nil])
   subst GR
   have key:∀T:x_,T.size=252->T.getD 2 undef=aw g2->T.getD 4 undef=aw g4->T.getD 5 undef=aw g5->T.getD 6 undef=aw gp->(eZ bK 9).wp Tryz.prog Q { tmps:=T,defers:=d } wr:=λ T hT h2 h4 h5 h6=>
    Xc c w0 gp g2 g4 g5 D q L { r with j:=rv } u1 v1 Jt s1 hd yi yh ti eM T hT h2 h4 h5 h6 d wr Q je.ae HK.ae HS.ae A1.ae (by have:=AW.ae;omega) iz.ae
     (λ er a W he hne ha Ly=>HE.ae er a W (.inr ⟨eM,s1,HJ.ae.symm.trans V2.ae,he⟩) hne ha Ly)
     (λ a W r' u' v' pY s' yo Lw he ha hp=>nI.ae a W r' u' v' pY s1 s' yh yo eM Lw (HJ.ae.symm.trans V2.ae) he ha hp)
   exact Zb4):p:=h
theorem zeF.Ka3(h:p:=by obtain⟨hn,zs,hw,AL⟩:=hih;have NT:zs.length=q.fK.length:=AL.length;obtain⟨X,Wy⟩:∃X,X=dm c.aI c.aF c.cols q.fK s:=⟨_,rfl⟩;have HE:=aa hE;open zcA in exact Za7):p:=h
theorem RD (c:PC)(w0:rQ)(gp g2 g4 g5 D:Nat)(q:Qy)(L:QL)(r:Rest)(u v:Value)(ya:u_)(s:dp)(hd:List aV)(yi:u_)(ti:uF)(T:x_)(hT:T.size=252)
  (h2:T.getD 2 undef=aw g2) (h4:T.getD 4 undef=aw g4) (h5:T.getD 5 undef=aw g5) (h6:T.getD 6 undef=aw gp) (d:List Deferred) (w:rQ) (Q:yD)
  (SZ:c.Ok w0) (qK:Tr.cH q.fK) (hih:fT w0 q.fK L.h.A L.h.n) (hfn:q.fK.length<=1000000) (hz:Tr.cH (q.ord.map (·.1))) (hS:fE w0 (q.ord.map λ y=>(y.1,.bool y.2)) L.o.A L.o.n) (Ai:q.ord.length<=1000000) (G3:s.aF.length+s.aD.length+2*Tr.aN q.fK+2*Tr.aN (q.ord.map (·.1))<=1000000)
  (Gu:cW c w0 gp g2 (fN q L) g4 g5 D r w u v ya s hd yi [] [] ti [] [])
  (hE:∀er a W,(dm c.aI c.aF c.cols q.fK s=.error er\/∃eM s',dm c.aI c.aF c.cols q.fK s=.ok (eM,s')/\dX c.aI c.aF c.cols q.ord s'=.error er)->er≠0->qf a d g4 g5->wW w0 g4 g5 D W->Q .ret a (jt W g4 g5 er))
  (AK:∀a W r' u' v' pY s1 s' yh yo eM Lw,dm c.aI c.aF c.cols q.fK s=.ok (eM,s1)->dX c.aI c.aF c.cols q.ord s1=.ok (Lw,s')->qf a d g4 g5->cW c w0 gp g2 (fN q L) g4 g5 D r' W u' v' pY s' hd yi yh yo ti eM Lw->Q .ret a (jF W g4 g5 gp)):
  (eZ bK 8).wp Tryz.prog Q { tmps:=T,defers:=d } w:=by
 open zeF in exact Zct
structure JM (gp B:Nat) (W:rQ) (cs:x_) (ri rh:Value) (yi:u_) (y:Ex) (hd:List aV) (EN:aV) (s5 s7 s8 EO Ub:Option Value) (s21:Bool) (w:rQ):Prop where
 e5:∀x,s5=some x->x=ri
 e8:s8.isSome=true->s5.isSome=true/\s7.isSome=true
 e21:s21=true->s8.isSome=true
 e18:Ub.isSome=true->EO.isSome=true
 z7:s8=none->∀x,s7=some x->∃g,x=aL g 1 1/\aB w g 46 (bD y).toArray
 z17:Ub=none->∀x,EO=some x->∃g,x=aL g 1 1/\aB w g 113 (aR EN).toArray
 items:aH bD 46 7 w B (s8.getD ri) (yi++if s8.isSome=true then [y] else [])
 head:aH aR 113 2 w B (Ub.getD rh) (hd++if Ub.isSome=true then [EN] else [])
 mvi:Mv W ri (s8.getD ri)
 mvh:Mv W rh (Ub.getD rh)
 blk:aB w gp 81 (if s21=true then cs.setIfInBounds 13 (s8.getD ri)else cs)
 far:∀b,b < W.heap.size->b≠gp->ri.ownBlock≠some b->rh.ownBlock≠some b->w.heap[b]?=W.heap[b]?
 os:w.os=W.os
 tape:w.tape=W.tape
 output:w.output=W.output
 size:W.heap.size<=w.heap.size
section
variable {gp B:Nat} {W w w':rQ} {cs:x_} {ri rh:Value} {yi:u_} {y:Ex} {hd:List aV} {EN:aV} {s5 s7 s8 EO Ub:Option Value} {s21:Bool}
theorem JM.later (h:JM gp B W cs ri rh yi y hd EN s5 s7 s8 EO Ub s21 w)(hb:aj w w'):JM gp B W cs ri rh yi y hd EN s5 s7 s8 EO Ub s21 w':=
 ⟨h.e5,h.e8,h.e21,h.e18,λ h1 x hx=>by obtain⟨g,k1,k2⟩:=h.z7 h1 x hx;exact⟨g,k1,k2.later hb⟩,λ h1 x hx=>by obtain⟨g,k1,k2⟩:=h.z17 h1 x hx;exact⟨g,k1,k2.later hb⟩,h.items.later hb,h.head.later hb,h.mvi,h.mvh,h.blk.later hb,λ b h1 h2 h3 h4=>(hb.block b (Nat.lt_of_lt_of_le h1 h.size)).trans (h.far b h1 h2 h3 h4),hb.os.trans h.os,hb.tape.trans h.tape,hb.output.trans h.output,Nat.le_trans h.size hb.size⟩
theorem JM.axl (h:JM gp B W cs ri rh yi y hd EN s5 s7 none EO Ub false w)(h5:s5.isSome=true)(h7:s7.isSome=true) {a:Value}(ho:aH bD 46 7 w' B a (yi++ [y]))(hg:w.grownBy w' ri.ownBlock)(hm:Mv w ri a):JM gp B W cs ri rh yi y hd EN s5 s7 (some a) EO Ub false w':=by
 have hi:aH bD 46 7 w B ri yi:=by simpa using h.items
 refine⟨h.e5,λ _=>⟨h5,h7⟩,λ _=>rfl,h.e18,(λ e=>by cases e),λ h1 x hx=>by obtain⟨g,k1,k2⟩:=h.z17 h1 x hx;exact⟨g,k1,dC k2 hi V0 hg⟩,ho,h.head.past hi V0 hg,hm.later h.size,h.mvh,dC h.blk hi V0 hg,λ b h1 h2 h3 h4=>(hg.block b (Nat.lt_of_lt_of_le h1 h.size) (Ne.symm h3)).trans (h.far b h1 h2 h3 h4),hg.os.trans h.os,hg.tape.trans h.tape,hg.output.trans h.output,Nat.le_trans h.size hg.size⟩
theorem JM.aqT (h:JM gp B W cs ri rh yi y hd EN s5 s7 s8 EO none s21 w)(h8:s8.isSome=true)(h17:EO.isSome=true) {a:Value}(ho:aH aR 113 2 w' B a (hd++ [EN]))(hg:w.grownBy w' rh.ownBlock)(hm:Mv w rh a):JM gp B W cs ri rh yi y hd EN s5 s7 s8 EO (some a) s21 w':=by
 have hi:aH aR 113 2 w B rh hd:=by simpa using h.head
 refine⟨h.e5,h.e8,h.e21,λ _=>h17,λ e=>by(rw[e] at h8;cases h8),(λ e=>by cases e),h.items.past hi V0 hg,ho,h.mvi,hm.later h.size,dC h.blk hi V0 hg,λ b h1 h2 h3 h4=>(hg.block b (Nat.lt_of_lt_of_le h1 h.size) (Ne.symm h4)).trans (h.far b h1 h2 h3 h4),hg.os.trans h.os,hg.tape.trans h.tape,hg.output.trans h.output,Nat.le_trans h.size hg.size⟩
theorem JM.aqU (h:JM gp B W cs ri rh yi y hd EN s5 s7 s8 EO Ub false w)(h8:s8.isSome=true):JM gp B W cs ri rh yi y hd EN s5 s7 s8 EO Ub true (w.setCell ⟨gp,13,none⟩ (s8.getD ri)):=by
 have hk:aB w gp 81 cs:=h.blk;have hn8:s8≠none:=λ e=>by rw[e] at h8;cases h8
 have hf:=λ b (hb:b≠gp)=>Below.heap_setCell w ⟨gp,13,none⟩ (s8.getD ri) b hb
 have hz:∀ {g:Nat} {t:TypeId} {c:x_},aB w g t c->t≠81->g≠gp:=λ k1 k2 e=>by subst e;have:=k1.symm.trans hk;injection this with this;injection this with _ this _;exact k2 this
 refine⟨h.e5,h.e8,λ _=>h8,h.e18,λ e=>absurd e hn8,λ h1 x hx=>by obtain⟨g,k1,k2⟩:=h.z17 h1 x hx;exact⟨g,k1,(hf g (hz k2 V0)).trans k2⟩,h.items.keep λ g hg2=>hf g λ e=>h.items.other hk V0 Taj,h.head.keep λ g hg2=>hf g λ e=>h.head.other hk V0 Taj,h.mvi,h.mvh,hk.aT 13 _,λ b h1 h2 h3 h4=>(hf b h2).trans (h.far b h1 h2 h3 h4),h.os,h.tape,h.output,by rw[World.size_setCell];exact h.size⟩
end
def qB (gp B:Nat)(W:rQ)(cs:x_)(ri rh:Value)(yi:u_)(y:Ex)(hd:List aV)(EN:aV)(σ:Nat->Option Value)(w:rQ):Prop:=JM gp B W cs ri rh yi y hd EN (σ 5) (σ 7) (σ 8) (σ 17) (σ 18) (σ 21).isSome w
variable{gp B:Nat}{W w:rQ}{cs:x_}{ri rh:Value}{yi:u_}{y:Ex}{hd:List aV}{EN:aV}{s5 s7 s8 EO Ub:Option Value}{s21:Bool}
theorem JM.c12(h:JM gp B W cs ri rh yi y hd EN s5 s7 s8 EO Ub s21 w)(hch:cs[12]?=some rh):w.cell? ⟨gp,12,none⟩=some rh:=by
 rw[h.blk.cell]
 cases s21 with
 | false=>exact hch
 | true=>rw[if_pos rfl,Array.getElem?_setIfInBounds_ne TD];exact hch
variable{P:Program}{o:Oper}{ρ:Operand->Value}{w':rQ}
theorem RF{T:Value->rQ->Prop}(h:(execOp ρ o).run P w=.ok .skip w')(ht:T undef w'):xq P o ρ w T:=by unfold xq;rw[h];exact ht
def rS (n:Nat):Code->Option Code
 | .region id ops b=>if id=n then some (.region id ops b)else none
 | .seq a b=>match rS n a with | some c=>some c | none=>rS n b
 | .cond _ a b=>match rS n a with | some c=>some c | none=>rS n b
 | .block _ c=>rS n c
 | .loop c=>rS n c
 | _=>none
noncomputable def DJ:Code:=(rS 35 (eZ bK 7)).getD .skip
def lbU (gp:Nat)(rh:Value)(y:Ex)(nm:t_)(ty:Int)(g16:Nat):Nat->Value:=λ i=>if i=0 then(aw gp)else if i=1 then(aw gp)else if i=2 then(aw gp)else if i=3 then(aw gp)else if i=4 then(bc gp 13)else if i=6 then(.agg (bD y).toArray)else if i=9 then(aw gp)else if i=10 then(aw gp)else if i=11 then(bc gp 12)else if i=12 then(rh)else if i=13 then(bc g16 7)else if i=14 then(.string nm)else if i=15 then(ag ty)else if i=16 then(.agg (aR ⟨nm,ty⟩).toArray)else if i=19 then(aw gp)else if i=20 then(bc gp 13)else undef
section
variable {gp B gY g16:Nat} {W:rQ} {cs:x_} {ri rh:Value} {yi:u_} {y:Ex} {hd:List aV} {nm:t_} {ty:Int} {Q:yD} {T:x_} {d:List Deferred}
theorem zdh.KaF(h:p:=by show(execOp ρ _).run Tryz.prog w9a=.ok (.value (.agg (bD y).toArray)) w9a;simp[go_sem,r0,z0,z1,x2,x3,x4,x5,x6,bD]):p:=h
theorem DL (hT:T.size=252)(es0:T.getD 6 undef=aw gp)(es1:T.getD 17 undef=aw gY)(es2:T.getD 16 undef=aw g16)(es3:T.getD 18 undef=ag ty)
  (hci:cs[13]?=some ri) (hch:cs[12]?=some rh) (hB:B<=W.heap.size) (hblk:aB W gp 81 cs) (hoi:aH bD 46 7 W B ri yi) (hoh:aH aR 113 2 W B rh hd) (NT:yi.length<=1000000) (hlh:hd.length<=1000000)
  (Yq:aB W gY 46 (bD y).toArray) (hY1:gY≠gp) (hY2:ri.ownBlock≠some gY) (hY3:rh.ownBlock≠some gY) (hn:W.cell? ⟨g16,7,none⟩=some (.string nm)) (hN0:g16 < W.heap.size) (hN1:g16≠gp) (hN2:ri.ownBlock≠some g16) (hN3:rh.ownBlock≠some g16)
  (ml:∀aek ael z167 z168 aem aen z171 aeo z173 aep z175 aeq aer aes aet aeu aev z182 z183 aew aex aey aez w9a a b s7 EO,JM gp B W cs ri rh yi y hd ⟨nm,ty⟩ (some ri) s7 (some a) EO (some b) true w9a->Q .normal { tmps:=(((((((((((((((((((((((T.setIfInBounds 165 aek).setIfInBounds 166 ael).setIfInBounds 167 z167).setIfInBounds 168 z168).setIfInBounds 169 aem).setIfInBounds 170 aen).setIfInBounds 171 z171).setIfInBounds 172 aeo).setIfInBounds 173 z173).setIfInBounds 174 aep).setIfInBounds 175 z175).setIfInBounds 176 aeq).setIfInBounds 177 aer).setIfInBounds 178 aes).setIfInBounds 179 aet).setIfInBounds 180 aeu).setIfInBounds 181 aev).setIfInBounds 182 z182).setIfInBounds 183 z183).setIfInBounds 184 aew).setIfInBounds 185 aex).setIfInBounds 186 aey).setIfInBounds 187 aez),defers:=d } (w9a.setCell ⟨gp,12,none⟩ b)):
  DJ.wp Tryz.prog Q { tmps:=T,defers:=d } W:=by
 obtain⟨f,rfl⟩:=ld T hT;have es0:f 6=_:=es0;have es1:f 17=_:=es1;have es2:f 16=_:=es2;have es3:f 18=_:=es3;unfold DJ;simp only[bK,eZ,Tryz.f28,Option.getD_some,rS,Nat.reduceEqDiff,if_true,if_false];refine mU _ _ (take_append_drop 22 _).symm (lbU gp rh y nm ty g16) [5,7,8,17,18,21] (qB gp B W cs ri rh yi y hd ⟨nm,ty⟩) (λ σ w9a h=>JM.later h (Below.refl _ _).drew) ⟨(λ x e=>by cases e),(λ e=>by cases e),(λ e=>by cases e),(λ e=>by cases e),(λ _ x e=>by cases e),(λ _ x e=>by cases e),by simpa using hoi,by simpa using hoh,Mv.refl _ _,Mv.refl _ _,hblk,λ _ _ _ _ _=>rfl,rfl,rfl,rfl,Nat.le_refl _⟩ WC WC WC WC ?_ ?_
 ·simp only[take_succ_cons,take_zero];refine⟨Zb9,Zb9,Zb9,?_,?_,?_,?_,?_,?_,Zb9,?_,?_,?_,?_,?_,?_,?_,?_,?_,?_,?_,?_,trivial⟩
  ·intro ρ w9a σ hc hG hr he hno;have r0:ρ (.tmp 167)=aw gp:=hr.1;exact ZaY
  ·intro ρ w9a σ hc hG hr he hno;have r0:ρ (.tmp 168)=aw gp:=hr.1;exact Zez
  ·intro ρ w9a σ hc hG hr he hno;have r0:ρ (.tmp 169)=bc gp 13:=hr.1;refine⟨rfl,?_⟩;unfold qB at hG;rw[if_pos V0];have kx:=hno V0
   have h8n:σ 8=none:=by
    cases h:σ 8 with
    | none=>rfl
    | some a=>have:=(hG.e8 (by rw[h];rfl)).1;rw[kx] at this;cases this
   have aeA:(σ 21).isSome=false:=by
    cases h:(σ 21).isSome with
    | false=>rfl
    | true=>have:=hG.e21 h;rw[h8n] at this;cases this
   have hb:=hG.blk;rw[aeA] at hb;have hb:aB w9a gp 81 cs:=hb;have c13:=(hb.cell 13).trans hci;refine aq (v:=ri) (w':=w9a) (by simp[go_sem,r0,c13]) ?_;show qB _ _ _ _ _ _ _ _ _ _ _ _;unfold qB;simp only[gX,Nat.reduceEqDiff,if_true,if_false];exact⟨λ x e=>by injection e with e;exact e.symm,λ e=>⟨rfl,(hG.e8 e).2⟩,hG.e21,hG.e18,hG.z7,hG.z17,hG.items,hG.head,hG.mvi,hG.mvh,hG.blk,hG.far,hG.os,hG.tape,hG.output,hG.size⟩
  ·intro ρ w9a σ hc hG hr he hno;have r0:ρ (.tmp 17)=aw gY:=(show ρ (.tmp 17)=f 17 from hr.1).trans es1;refine⟨rfl,?_⟩;unfold qB at hG;rw[if_neg V0];have hb:aB w9a gY 46 (bD y).toArray:=(hG.far gY Yq.lt hY1 hY2 hY3).trans Yq;open zdh in exact Zbq
  ·intro ρ w9a σ hc hG hr he hno;have r0:ρ (.tmp 171)=.agg (bD y).toArray:=hr.1;refine⟨rfl,?_⟩;unfold qB at hG;rw[if_pos V0];have kx:=hno V0;refine aq (v:=aL w9a.heap.size 1 1) (w':=w9a.alloc (.cells (bD y).toArray 46)) (by simp[go_sem,r0,bD]) ?_;show qB _ _ _ _ _ _ _ _ _ _ _ _;unfold qB;simp only[gX,Nat.reduceEqDiff,if_true,if_false];have hA:=hG.later (ah w9a (.cells (bD y).toArray 46));exact⟨hA.e5,λ e=>⟨(hA.e8 e).1,rfl⟩,hA.e21,hA.e18,λ _ x e=>by injection e with e;exact⟨w9a.heap.size,e.symm,aB.new w9a _ _⟩,hA.z17,hA.items,hA.head,hA.mvi,hA.mvh,hA.blk,hA.far,hA.os,hA.tape,hA.output,hA.size⟩
  ·intro ρ w9a σ hc hG hr he hno;have r0:σ 5=some (ρ (.tmp 170)):=hr.1;have r1:σ 7=some (ρ (.tmp 172)):=hr.2.1;refine⟨rfl,?_⟩;unfold qB at hG;rw[if_pos V0];have kx:=hno V0;have h5s:=he 5 (cO.1 WC) V0;have h7s:=he 7 (cO.1 WC) V0;rw[kx] at hG
   have aeA:(σ 21).isSome=false:=by
    cases h:(σ 21).isSome with
    | false=>rfl
    | true=>have:=hG.e21 h;cases this
   rw[aeA] at hG;obtain⟨Kx,hz1,hz2⟩:=hG.z7 rfl _ r1;have q0:=hG.e5 _ r0;have ake:aH bD 46 7 w9a B ri yi:=by simpa using hG.items
   obtain⟨v',w',hrun,ho,yL,Ey⟩:=eY (P:=Tryz.prog) (w:=w9a) 23 23 _ 88 Tryz.underlying23 gC rfl TD (λ _=>rfl) (y:=y) TaB ake Kx hz2 TD TD (Nat.le_trans hB hG.size);refine aq (v:=v') (w':=w') (by simp only[execOp,resolve,invoke,builtin,Sem.run_bind,Sem.run_pure,Result.andThen_ok,map_toArray,map_cons,map_nil,q0,hz1,hrun]) ?_;show qB _ _ _ _ _ _ _ _ _ _ _ _;unfold qB;simp only[gX,Nat.reduceEqDiff,if_true,if_false,aeA];exact hG.axl h5s h7s ho yL.grown Ey
  ·intro ρ w9a σ hc hG hr he hno;have r0:ρ (.tmp 174)=aw gp:=hr.1;exact ZaY
  ·intro ρ w9a σ hc hG hr he hno;have r0:ρ (.tmp 175)=aw gp:=hr.1;refine⟨rfl,?_⟩;unfold qB at hG;rw[if_neg V0];show(execOp ρ _).run Tryz.prog w9a=.ok (.value (bc gp 12)) w9a;simp[go_sem,r0]
  ·intro ρ w9a σ hc hG hr he hno;have r0:ρ (.tmp 176)=bc gp 12:=hr.1;refine⟨rfl,?_⟩;unfold qB at hG;rw[if_neg V0];have c12:=hG.c12 hch;show(execOp ρ _).run Tryz.prog w9a=.ok (.value (rh)) w9a;simp[go_sem,r0,c12]
  ·intro ρ w9a σ hc hG hr he hno;have r0:ρ (.tmp 16)=aw g16:=(show ρ (.tmp 16)=f 16 from hr.1).trans es2;refine⟨rfl,?_⟩;unfold qB at hG;rw[if_neg V0];show(execOp ρ _).run Tryz.prog w9a=.ok (.value (bc g16 7)) w9a;simp[go_sem,r0]
  ·intro ρ w9a σ hc hG hr he hno;have r0:ρ (.tmp 178)=bc g16 7:=hr.1;refine⟨rfl,?_⟩;unfold qB at hG;rw[if_neg V0];have cn:=(bI (hG.far g16 hN0 hN1 hN2 hN3) 7).trans hn;show(execOp ρ _).run Tryz.prog w9a=.ok (.value (.string nm)) w9a;simp[go_sem,r0,cn]
  ·intro ρ w9a σ hc hG hr he hno;have r0:ρ (.tmp 18)=ag ty:=(show ρ (.tmp 18)=f 18 from hr.1).trans es3;refine⟨rfl,?_⟩;unfold qB at hG;rw[if_neg V0];show(execOp ρ _).run Tryz.prog w9a=.ok (.value (ag ty)) w9a;simp[go_sem,r0]
  ·intro ρ w9a σ hc hG hr he hno;have r0:ρ (.tmp 179)=.string nm:=hr.1;have r1:ρ (.tmp 180)=ag ty:=hr.2.1;refine⟨rfl,?_⟩;unfold qB at hG;rw[if_neg V0];show(execOp ρ _).run Tryz.prog w9a=.ok (.value (.agg (aR ⟨nm,ty⟩).toArray)) w9a;simp[go_sem,r0,r1,aR]
  ·intro ρ w9a σ hc hG hr he hno;have r0:ρ (.tmp 181)=.agg (aR ⟨nm,ty⟩).toArray:=hr.1;refine⟨rfl,?_⟩;unfold qB at hG;rw[if_pos V0];have kx:=hno V0;refine aq (v:=aL w9a.heap.size 1 1) (w':=w9a.alloc (.cells (aR ⟨nm,ty⟩).toArray 113)) (by simp[go_sem,r0,aR]) ?_;show qB _ _ _ _ _ _ _ _ _ _ _ _;unfold qB;simp only[gX,Nat.reduceEqDiff,if_true,if_false];have hA:=hG.later (ah w9a (.cells (aR ⟨nm,ty⟩).toArray 113));exact⟨hA.e5,hA.e8,hA.e21,λ _=>rfl,hA.z7,λ _ x e=>by injection e with e;exact⟨w9a.heap.size,e.symm,aB.new w9a _ _⟩,hA.items,hA.head,hA.mvi,hA.mvh,hA.blk,hA.far,hA.os,hA.tape,hA.output,hA.size⟩
  ·intro ρ w9a σ hc hG hr he hno;have r0:ρ (.tmp 177)=rh:=hr.1;have r1:σ 17=some (ρ (.tmp 182)):=hr.2.1;refine⟨rfl,?_⟩;unfold qB at hG;rw[if_pos V0];have kx:=hno V0;have h8s:=he 8 (cO.1 WC) V0;have axo:=he 17 (cO.1 WC) V0;rw[kx] at hG;obtain⟨Kx,hz1,hz2⟩:=hG.z17 rfl _ r1;have ake:aH aR 113 2 w9a B rh hd:=by simpa using hG.head
   obtain⟨v',w',hrun,ho,yL,Ey⟩:=eY (P:=Tryz.prog) (w:=w9a) 28 28 _ 24 Tryz.underlying28 rD rfl TD (λ _=>rfl) (y:=⟨nm,ty⟩) Ta0 ake Kx hz2 TD TD (Nat.le_trans hB hG.size);refine aq (v:=v') (w':=w') (by simp only[execOp,resolve,invoke,builtin,Sem.run_bind,Sem.run_pure,Result.andThen_ok,map_toArray,map_cons,map_nil,r0,hz1,hrun]) ?_;show qB _ _ _ _ _ _ _ _ _ _ _ _;unfold qB;simp only[gX,Nat.reduceEqDiff,if_true,if_false];exact hG.aqT h8s axo ho yL.grown Ey
  ·intro ρ w9a σ hc hG hr he hno;have r0:ρ (.tmp 165)=aw gp:=hr.1;exact ZaY
  ·intro ρ w9a σ hc hG hr he hno;have r0:ρ (.tmp 184)=aw gp:=hr.1;exact Zez
  ·intro ρ w9a σ hc hG hr he hno;have r0:ρ (.tmp 185)=bc gp 13:=hr.1;have r1:σ 8=some (ρ (.tmp 173)):=hr.2.1;refine⟨rfl,?_⟩;unfold qB at hG;rw[if_pos V0];have kx:=hno V0;have h8s:=he 8 (cO.1 WC) V0;obtain⟨a,ha⟩:=Option.isSome_iff_exists.1 h8s;rw[kx] at hG;rw[ha] at r1;injection r1 with r1;have kj:aB w9a gp 81 cs:=hG.blk;have hit:=hG.items;rw[ha] at hit;obtain⟨q,c,e1,_,_⟩:=hit.block Taa;have e1:a=aL q _ c:=e1;have q1:=r1.symm.trans e1;have c13:=(kj.cell 13).trans hci;have f13:=kj.frozen 13;have hp:=JM.aqU hG h8s;rw[ha,e1] at hp;refine RF (w':=w9a.setCell ⟨gp,13,none⟩ (aL q (yi++if (some a).isSome=true then [y] else []).length c)) (by simp[go_sem,r0,q1,c13,f13]) ?_;show qB _ _ _ _ _ _ _ _ _ _ _ _;unfold qB;simp only[gX,Nat.reduceEqDiff,if_true,if_false,Option.isSome_some];rw[ha,e1];exact hp
 ·intro σ w9a hM hG;simp only[Uab];obtain⟨a,ha⟩:=Option.isSome_iff_exists.1 (hM 8 V0);obtain⟨b,hb⟩:=Option.isSome_iff_exists.1 (hM 18 V0);have h21:=hM 21 V0;unfold qB at hG;obtain⟨x5,h5⟩:=Option.isSome_iff_exists.1 (hM 5 V0);have h5e:=hG.e5 _ h5;rw[ha,hb,h21,h5,h5e] at hG;intro a0 q0 a1 q1 a2 q2 a3 q3 a4 q4 a5 q5 a6 q6 a7 q7 a8 q8 a9 q9 FI Vn L9 q11 a12 q12 a13 q13 a14 q14 a15 q15 a16 q16 a17 q17 a18 q18 a19 q19 a20 q20;have e1:a1=aw gp:=q1;have e18:σ 18=some a18:=q18;rw[hb] at e18;injection e18 with e18;clear q0 q1 q2 q3 q4 q5 q6 q7 q8 q9 Vn q11 q12 q13 q14 q15 q16 q17 q18 q19 q20;subst e1 e18;have V5:=hG.head;obtain⟨qq,cc,hqq,_,_⟩:=V5.block Taa;have hqq:b=aL qq _ cc:=hqq;have c12:=hG.c12 hch;have f12:=hG.blk.frozen 12;simp only[bT,bA,Act.put,Uac];simp only[bT,Uac] at ml;have HF:=aa ml;have HG:=aa hG;clear ml hG V5;obtain⟨n9,hn9⟩:∃n9,n9=(hd++if (some b).isSome=true then [(⟨nm,ty⟩:aV)] else []).length:=⟨_,rfl⟩;rw[<- hn9] at hqq;clear hn9;subst hqq;go_wp2_with fail;refine HF.ae _ _ _ _ _ _ _ _ _ _ _ _ _ _ _ _ _ _ _ _ _ _ _ _ _ _ _ _ HG.ae
end
section
variable {c:PC} {w0 w w1:rQ} {gp g2 g4 g5 D:Nat} {qc:x_} {r:Rest} {u v:Value} {ya:u_} {s:dp} {hd:List aV} {yi yh yo:u_} {ti th eM:uF}
theorem cW.RG (h:cW c w0 gp g2 qc g4 g5 D r w u v ya s hd yi yh yo ti th eM) {t:Tr} {y:Ex} {a b:Value} {EN:aV} {s7 EO:Option Value}(hl:JM gp w0.heap.size w (c.cells r u v) r.i r.h yi y hd EN (some r.i) s7 (some a) EO (some b) true w1)(ht:t.at_ w (sT w gp (PR u v r)) y):
  cW c w0 gp g2 qc g4 g5 D { r with h:=b,i:=a } (w1.setCell ⟨gp,12,none⟩ b) u v ya s (hd++ [EN]) (yi++ [y]) yh yo (ti++ [t]) th eM:=by
 have kj:aB w1 gp 81 ((c.cells r u v).setIfInBounds 13 a):=hl.blk;have hi:aH bD 46 7 w1 w0.heap.size a (yi++ [y]):=hl.items;have hh:aH aR 113 2 w1 w0.heap.size b (hd++ [EN]):=hl.head;have hf:=λ k (hk:k≠gp)=>Below.heap_setCell w1 ⟨gp,12,none⟩ b k hk
 have Kk:aH bD 46 7 (w1.setCell ⟨gp,12,none⟩ b) w0.heap.size a (yi++ [y]):=hi.keep λ g hg2=>hf g λ e=>hi.other kj V0 Taj
 have hh2:aH aR 113 2 (w1.setCell ⟨gp,12,none⟩ b) w0.heap.size b (hd++ [EN]):=hh.keep λ g hg2=>hf g λ e=>hh.other kj V0 Taj
 have hb2:aB (w1.setCell ⟨gp,12,none⟩ b) gp 81 (c.cells { r with h:=b,i:=a } u v):=kj.aT 12 b;have hab:∀q,a.ownBlock=some q->b.ownBlock≠some q:=λ q h1 h2=>by obtain⟨_,_,_,e1⟩:=hi.lt h1;obtain⟨_,_,_,e2⟩:=hh.lt h2;rw[e1] at e2;injection e2 with e2;injection e2 with _ e2 _;exact absurd e2 V0
 have p:De w0 gp (PR u v r) (PR u v { r with h:=b,i:=a }) (λ i=>i=2\/i=3) w (w1.setCell ⟨gp,12,none⟩ b):=by
  refine⟨hl.os,hl.tape,hl.output,by rw[World.size_setCell];exact hl.size,λ k h1 h2 h3=>(hf k h2).trans (hl.far k h1 h2 (h3 3 TD (.inr rfl)) (h3 2 TD (.inl rfl))),?_,?_,?_,?_⟩
  ·intro i hi hT
   match i with
   | 0 | 1 | 4 | 5=>rfl
   | 2=>exact absurd (.inl rfl) hT
   | 3=>exact absurd (.inr rfl) hT
   | n+6=>omega
  ·intro i hi hT;rcases hT with rfl | rfl
   ·exact hl.mvh
   ·exact hl.mvi
  ·intro i hi j hj hT hU nA q h1 h2;rcases hT with rfl | rfl <;> rcases hU with rfl | rfl
   ·exact nA rfl
   ·exact hab q h2 h1
   ·exact hab q h1 h2
   ·exact nA rfl
  ·intro i hi hT q hq;rcases hT with rfl | rfl
   ·have hq:b.ownBlock=some q:=hq;exact⟨(hh2.lt hq).2.1,(hh2.lt hq).1,λ e=>hh2.other hb2 V0 (by rw[hq,e])⟩
   ·have hq:a.ownBlock=some q:=hq;exact⟨(Kk.lt hq).2.1,(Kk.lt hq).1,λ e=>Kk.other hb2 V0 (by rw[hq,e])⟩
 have hT:=p.trees (ts:=[t]) (ys:=[y]) (Tr.eG ht);exact⟨h.f.step p,hb2,p.own h.f (i:=0) TD TD h.o0,p.own h.f (i:=1) TD TD h.o1,hh2,Kk,p.own h.f (i:=4) TD TD h.o4,p.own h.f (i:=5) TD TD h.o5,h.aD,Tr.all_append (p.trees h.t3) hT,p.trees h.t4,p.trees h.t5⟩
theorem cW.aqV {w':rQ} {u' v':Value} {pY:u_} {s':dp}(h:cW c w0 gp g2 qc g4 g5 D r w u v ya s hd yi yh yo ti th eM)(hs:ik gp w u v w' u' v')(hp:eQ c w0 gp r w' u' v' pY s') {t:Tr} {y:Ex}(ht:t.at_ w' (λ b=>(b < w0.heap.size\/w.heap.size<=b)/\Kp w' gp [u',v'] b) y):t.at_ w' (λ b=>sT w' gp (PR u' v' r) b/\(b < w0.heap.size\/w.heap.size<=b)/\Kp w' gp [u',v'] b) y:=by have p:=(h.call hs hp).f;refine Tr.at_.keep (λ b hb=>⟨λ _=>rfl,⟨hb.2.1,hb.2.2.1,λ i hi e=>?_⟩,hb⟩) t y ht;exact Zb2
theorem De.RH {R R':Nat->Value} {T:Nat->Prop} {w':rQ} {q:Nat}(p:De w0 gp R R' T w w') {ts:uF} {ys:u_}(h:Tr.aM w (λ b=>sT w gp R b/\b≠q) ts ys):Tr.aM w' (λ b=>sT w' gp R' b/\b≠q) ts ys:=Tr.aM.keep (λ b hb=>⟨λ o=>bI (p.keep hb.1) o,p.kp hb.1,hb.2⟩) ts ys h
theorem cW.aside (h:cW c w0 gp g2 qc g4 g5 D r w u v ya s hd yi [] [] ti [] []) {q:Nat}(hg:w.grownBy w1 (some q))(hl:w0.heap.size<=q)(hk:sT w gp (PR u v r) q)(hn:q≠g2/\q≠g4/\q≠g5/\q≠D)(ht:Tr.aM w (λ b=>sT w gp (PR u v r) b/\b≠q) ti yi):cW c w0 gp g2 qc g4 g5 D r w1 u v ya s hd yi [] [] ti [] []:=by
 have hb:=λ b (h1:b < w.heap.size) (h2:b≠q)=>hg.block b h1 (λ e=>by injection e with e;exact h2 e)
 have hkp:∀b,sT w gp (PR u v r) b->sT w1 gp (PR u v r) b:=λ b k=>⟨Nat.lt_of_lt_of_le k.1 hg.size,k.2⟩
 have hf:=h.f;have ho:∀ {α:Type} {f:α->wL} {e:TypeId} {size base:Nat} {l:List α} {x:Value},aH f e size w base x l->x.ownBlock≠some q->aH f e size w1 base x l:=λ o hx=>o.grown hg hx
 refine⟨⟨hf.low,Nat.lt_of_lt_of_le hf.lt hg.size,Below.trans hf.base (yB hg hf.base.size hl),λ i hi b hb=>⟨(hf.rows i hi b hb).1,Nat.lt_of_lt_of_le (hf.rows i hi b hb).2.1 hg.size,(hf.rows i hi b hb).2.2⟩,hf.ap,hkp _ hf.k2,hkp _ hf.k4,hkp _ hf.k5,hkp _ hf.kD,hf.new,(hb D hf.kD.1 (Ne.symm hn.2.2.2)).trans hf.dd,(hb g2 hf.k2.1 (Ne.symm hn.1)).trans hf.z2,(hb g4 hf.k4.1 (Ne.symm hn.2.1)).trans hf.z4,(hb g5 hf.k5.1 (Ne.symm hn.2.2.1)).trans hf.z5⟩,(hb gp hf.lt (Ne.symm hk.2.1)).trans h.blk,ho h.o0 (hk.2.2 0 TD),ho h.o1 (hk.2.2 1 TD),ho h.o2 (hk.2.2 2 TD),ho h.o3 (hk.2.2 3 TD),ho h.o4 (hk.2.2 4 TD),ho h.o5 (hk.2.2 5 TD),h.aD,Tr.aM.keep (λ b k=>⟨λ o=>bI (hb b k.1.1 k.2) o,hkp b k.1⟩) _ _ ht,?_,?_⟩
 ·unfold Tr.aM;rfl
 ·unfold Tr.aM;rfl
end
def Hc (g:Bool)(aF:uF)(cols:List aV)(q:Qy)(s:dp):tE (uF×uF×dp):=
 match dm g aF cols q.fK s with
 | .error e=> .error e
 | .ok (hs,s2)=>match dX g aF cols q.ord s2 with
   | .error e=> .error e
   | .ok (os,s3)=> .ok (hs,os,s3)
def wX (g:Bool)(aF:uF)(cols:List aV)(q:Qy)(s:dp):tE (uF×List aV×uF×uF×dp):=
 match cC g aF cols q.items s with
 | .error e=> .error e
 | .ok (is,hd,s1)=>match Hc g aF cols q s1 with
   | .error e=> .error e
   | .ok (hs,os,s3)=> .ok (is,hd,hs,os,s3)
def zG (l:uF)(m:List aV):tE (uF×List aV×dp)->tE (uF×List aV×dp)
 | .error e=> .error e
 | .ok (ys,hd,s)=> .ok (l++ys,m++hd,s)
theorem Xe (x:tE (uF×List aV×dp)):zG [] [] x=x:=by exact ZgQ
theorem RJ(l:uF)(m:List aV)(y:Tr)(cl:aV) {x x':tE (uF×List aV×dp)}(h:x'=(match x with | .error e=> .error e | .ok (ys,hd,s)=> .ok (y::ys,cl::hd,s))):zG l m x'=zG (l++ [y]) (m++ [cl]) x:=by
 rw[h]
 cases x with
 | error e=>rfl
 | ok p=>obtain⟨ys,hd,s⟩:=p;show Except.ok (l++y::ys,m++cl::hd,s)=Except.ok ((l++ [y])++ys,(m++ [cl])++hd,s);rw[append_assoc,append_assoc];rfl
variable{S:Nat->Prop}{x:Ex}
theorem V6{t:Tr} (h:t.at_ w S x):x.op=t.op/\x.name=t.name:=by
 cases t with
 | mk op v name width args=>unfold Tr.at_ at h;exact⟨h.1,h.2.2.1⟩
variable{b:t_}
theorem Nu(h:b.toList=[]):b.size=0:=by
 unfold ByteArray.toList ByteArray.toList.loop at h;split at h
 ·exfalso
  have:∀i r,(ByteArray.toList.loop b i r).length≥r.length:=by
   intro i r
   fun_induction ByteArray.toList.loop b i r with
   | case1 i r hi ih=>simp at ih;omega
   | case2=>simp
  have h2:=this 1 [b.get! 0];rw[h] at h2;simp at h2
 ·omega
theorem V7:(⟨#[]⟩:t_).toList=[]:=by unfold ByteArray.toList ByteArray.toList.loop;rfl
theorem aqX(h:b.size=0):b=⟨#[]⟩:=by
 cases b with
 | mk d=>have h:d.size=0:=h;rw[Array.eq_empty_of_size_eq_zero h]
theorem zbG.Kam(h:p:=by go_wp2_with fail;exact HE.ae er _ _ (by unfold wX;rw[<- HB.ae,oF.ae]) nO.ae ⟨rfl,rfl,rfl⟩ HW.ae):p:=h
theorem ze8.Kbe(h:p:=by go_upto_region 31 with fail;generalize w6.alloc (.cells (az Kx) 46)=WD at*;obtain⟨_,_,_,uO,_,_,b4,b5,_⟩:=HW.ae;open zbG in exact ZaB):p:=h
theorem zfb.Kbf(h:p:=by
 have Al:=aa HX;clear HX;have tB:aB WD g16 48 #[ag x.op,ag x.v.k,af x.v.n,.string x.v.s,.string x.name,af x.width,.slice x.A x.n x.c,.string nm]:=Cw.ae;have z0:=tB.cell 0;have x4:=tB.cell 4;have x7:=tB.cell 7;have fx:=tB.frozen;simp only[Uaa] at z0 x4 x7;clear tB;go_wp2_with fail
 ·rename_i jb hop;have arb:nm.size=0:=Nu jb;have xX:=aa (show X=zG (ti++ [t2]) (jL++ [⟨x.name,ty⟩]) (cC c.aI c.aF c.cols (q.items.drop (k+1)) s2) by
   rw[EM.ae]
   have h2:t.op=2:=by rw[<-(V6 xm.ae).1];exact of_decide_eq_true hop
   rw[show iD t nm=x.name by unfold iD;rw[if_pos ⟨arb,h2⟩,(V6 xm.ae).2]])
  clear EM jb hop arb;have hg:=aG (aO (Below.refl WD.heap.size WD):WD.grownBy WD (some g16)) 7 (.string x.name);have K1:=aa (sN.ae.aside hg akf.ae.1 MO.ae akf.ae.2 HT7.ae);have kj:∀b,b < WD.heap.size->b≠g16->(WD.setCell ⟨g16,7,none⟩ (.string x.name)).heap[b]?=WD.heap[b]?:=λ b h1 h2=>hg.block b h1 (λ e=>by injection e with e;exact h2 e)
  have xW:=aa (show Tr.aM (WD.setCell ⟨g16,7,none⟩ (.string x.name)) (sT (WD.setCell ⟨g16,7,none⟩ (.string x.name)) gp (PR u' v' { r with h:=rh,i:=ri })) [t2] [Kx] from Tr.aM.keep (λ b Lw=>⟨λ o=>bI (kj b Lw.1.1 Lw.2) o,Nat.lt_of_lt_of_le Lw.1.1 hg.size,Lw.1.2⟩) _ _ aeC.ae);have Yr:=aa (show aB (WD.setCell ⟨g16,7,none⟩ (.string x.name)) gY 46 (bD Kx).toArray from(kj gY Ua.ae.1 (Ne.symm Yh.ae)).trans Oo.ae);have tK:=aa (show sT (WD.setCell ⟨g16,7,none⟩ (.string x.name)) gp (PR u' v' { r with h:=rh,i:=ri }) g16 from⟨Nat.lt_of_lt_of_le MO.ae.1 hg.size,MO.ae.2⟩);have Xh:=aa (show sT (WD.setCell ⟨g16,7,none⟩ (.string x.name)) gp (PR u' v' { r with h:=rh,i:=ri }) gY from⟨Nat.lt_of_lt_of_le Ua.ae.1 hg.size,Ua.ae.2⟩);have oD:=aa (show(WD.setCell ⟨g16,7,none⟩ (.string x.name)).cell? ⟨g16,7,none⟩=some (.string x.name) by
   have tB:aB WD g16 48 #[ag x.op,ag x.v.k,af x.v.n,.string x.v.s,.string x.name,af x.width,.slice x.A x.n x.c,.string nm]:=Cw.ae
   rw[(tB.aT 7 (.string x.name)).cell]
   rfl)
  clear sN Hb Oo HT7 aeC fx z0 x4 x7 Cw MO Ua kj hg;generalize World.setCell WD _ _=WB at*;have HOi:=aa K1.ae.o3;have HOh:=aa K1.ae.o2;have HLi:=aa (show yi.length<=1000000 by have:=HFN.ae;have:=qA.ae;have:=WE.ae;have:=Al.ae;omega);have HLh:=aa (show(hd++jL).length<=1000000 by have:=HK.ae;have:=HFN.ae;have:=qA.ae;have:=WE.ae;rw[length_append];omega);have key:=λ(T:x_) (hT:T.size=252) e0 e1 e2 e3 (Q2:yD) hf=>DL (T:=T) (d:=d) (Q:=Q2) (gp:=gp) (B:=w0.heap.size) (gY:=gY) (g16:=g16) (W:=WB) (cs:=c.cells { r with h:=rh,i:=ri } u' v') (ri:=ri) (rh:=rh) (yi:=yi) (y:=Kx) (hd:=hd++jL) (nm:=x.name) (ty:=ty) hT e0 e1 e2 e3 rfl rfl K1.ae.f.base.size K1.ae.blk HOi.ae HOh.ae HLi.ae HLh.ae Yr.ae Xh.ae.2.1 (Xh.ae.2.2 3 TD) (Xh.ae.2.2 2 TD) oD.ae tK.ae.1 tK.ae.2.1 (tK.ae.2.2 3 TD) (tK.ae.2.2 2 TD) hf
  simp only[DJ,bK,eZ,Tryz.f28,Option.getD_some,rS,Nat.reduceEqDiff,if_true,if_false] at key;refine key _ ?_ ?_ ?_ ?_ ?_ _ ?_
  ·rfl
  ·rfl
  ·rfl
  ·rfl
  ·rfl
  clear key;intro aek ael z167 z168 aem aen z171 aeo z173 aep z175 aeq aer aes aet aeu aev z182 z183 aew aex aey aez w8 a b9 s7 EO zF;simp only[Uac];have V1:=aa (K1.ae.RG zF (mB xW.ae));clear zF K1 Yr oD xW HOi HOh;generalize World.setCell w8 _ _=Oj at*;have hk7:k < 1000000:=by have:=HFN.ae;have:=WE.ae;omega
  go_wp2_with fail;go_roundw;case rel=>exact⟨k+1,b9,a,u',v',M8,yi++ [Kx],s2,ti++ [t2],jL++ [⟨x.name,ty⟩],hlt,by go_num,by
   have h:=V1.ae
   rw[append_assoc] at h
   exact h,xX.ae,by have:=AW.ae;have:=HND.ae;have:=DG.ae;omega,by rw[length_append,qA.ae.1];rfl,by rw[length_append,qA.ae.2];rfl⟩
  case measure=>exact ZaU
 ·rename_i jb hop;have xX:=aa (show X=zG (ti++ [t2]) (jL++ [⟨nm,ty⟩]) (cC c.aI c.aF c.cols (q.items.drop (k+1)) s2) by
   rw[EM.ae]
   have h2:¬t.op=2:=by rw[<-(V6 xm.ae).1];exact of_decide_eq_false hop
   rw[show iD t nm=nm by unfold iD;rw[if_neg (λ h=>h2 h.2)]])
  clear EM jb hop;exact Zal
 ·rename_i jb;have xX:=aa (show X=zG (ti++ [t2]) (jL++ [⟨nm,ty⟩]) (cC c.aI c.aF c.cols (q.items.drop (k+1)) s2) by
   rw[EM.ae]
   rw[show iD t nm=nm by unfold iD;rw[if_neg (λ h=>jb (by rw[aqX h.1];exact V7))]])
  clear EM jb;exact Zal):p:=h
theorem zdY.KaO(h:p:=by
 go_wp2_with fail;clear z0 z1 x2 x3 x4 x5 x6;refine(Db c w0 gp { r with h:=rh,i:=ri } t x s1 u1 v1 Jt W2 je.ae kI.ae xm.ae tT.ae.ps TaM).mono ?_;intro e w6 hp;have tQ:=aa (lL c.aI c.aF c.cols t s1)
 cases hr:mb c.aI c.aF c.cols t s1 with
 | error er=>
   open ze8 in exact Zc4
 | ok p=>
   obtain⟨t2,ty,s2⟩:=p;have akg:=uU.ae;rw[hr] at hp tQ akg;obtain⟨Kx,u',v',M8,rfl,uG,pJ,hst⟩:=hp;have rR:=tT.ae.call hst pJ;have Xd:=tT.ae.tree hst pJ uG;have nr:=tT.ae.stp hst pJ;have ara:t2.at_ w6 (λ b=>sT w6 gp (PR u' v' { r with h:=rh,i:=ri }) b/\(b < w0.heap.size\/W2.heap.size<=b)/\Kp w6 gp [u',v'] b) Kx:=cW.aqV tT.ae hst pJ uG;have bg:=ah w6 (.cells (az Kx) 46);have Yq:=aB.new w6 46 (az Kx);have sN:=aa (rR.later bg);have hpl:=De.later (w0:=w0) (gp:=gp) (R:=PR u' v' { r with h:=rh,i:=ri }) bg;have Hb:=aa (hpl.trees (Tr.eG Xd));have HT7:=aa (hpl.RH (nr.RH aqY.ae));have aeC:=aa (show Tr.aM (w6.alloc (.cells (az Kx) 46)) (λ b=>sT (w6.alloc (.cells (az Kx) 46)) gp (PR u' v' { r with h:=rh,i:=ri }) b/\b≠g16) [t2] [Kx] from hpl.RH (Tr.eG (Tr.at_.keep (λ b Lw=>⟨λ _=>rfl,Lw.1,λ e=>by
    rcases Lw.2.1 with h | h
    ·have:=akf.ae.1;omega
    ·have:=Xg.ae.1;omega⟩) t2 Kx (ara))))
   have MO:=aa (hpl.kp (nr.kp Xg.ae));have Cw:=aa ((hpl.keep (nr.kp Xg.ae)).trans ((nr.keep Xg.ae).trans AO.ae));have Ua:=aa (show sT (w6.alloc (.cells (az Kx) 46)) gp (PR u' v' { r with h:=rh,i:=ri }) w6.heap.size from⟨Yq.lt,by have:=rR.f.lt;omega,λ i hi e=>by have:=(rR.f.rows i hi _ e).2.1;omega⟩);have Yh:=aa (show g16≠w6.heap.size from λ e=>by have:=(nr.kp Xg.ae).1;omega);have DG:=aa (tQ.ae.len _ _ _ rfl);have EM:=aa (show X=zG (ti++ [t2]) (jL++ [⟨iD t nm,ty⟩]) (cC c.aI c.aF c.cols (q.items.drop (k+1)) s2) by
    rw[uH.ae,akg]
    exact RJ ti jL t2 ⟨iD t nm,ty⟩ rfl)
   have HX:=rR.t3.length;clear hr akg hst pJ uG ara rR Xd bg tQ uU uH tT nr hpl Xg AO aqY;go_upto_region 31 with fail;open zfb in exact Zc5):p:=h
theorem zcB.Kax(h:p:=by
 have iz:=aa Gu;have HQN:=aa Rb;have ajn:=aa lX;have HB:=aa hqk;have WE:=aa fK;have HP:=aa hP;have b2:=hP.f.z2;unfold fN at b2;have z6:=b2.cell 0;simp only[Uaa] at z6;rw[hn,<- fK] at z6;clear hE AK SZ qK hfn hz hS hw AL Ai G3 Wy NT Gu Rb lX hqk hP b2 hn fK;simp only[bK,eZ,Tryz.f28,Option.getD_some];go_wp2_with fail;clear z6;go_loopw [137] (λ i wr=>∃(k:Nat) (rh ri u1 v1:Value) (Jt yi:u_) (s1:dp) (ti:uF) (jL:List aV),k<=zs.length/\i=af k/\cW c w0 gp g2 (fN q L) g4 g5 D { r with h:=rh,i:=ri } wr u1 v1 Jt s1 (hd++jL) yi [] [] ti [] []/\X=zG ti jL (cC c.aI c.aF c.cols (q.items.drop k) s1)/\s1.aF.length+s1.aD.length+2*Tr.aN ((q.items.map (·.1)).drop k)+(2*Tr.aN q.fK+2*Tr.aN (q.ord.map (·.1)))<=1000000/\ti.length=k/\jL.length=k) (λ i _=>zs.length - (intOf i).toNat);case atStart=>exact⟨0,r.h,r.i,u,v,ya,[],s,[],[],Nat.zero_le _,rfl,by rw[append_nil];exact HP.ae,by rw[drop_zero,Xe];exact HB.ae,by rw[drop_zero];exact ajn.ae,rfl,rfl⟩
 case round=>
  rename_i K hK;clear HP;obtain⟨k,rh,ri,u1,v1,Jt,yi,s1,ti,jL,hk,rfl,hP,TZ,lX,TH,hhl⟩:=hrel;have uH:=aa TZ;have AW:=aa lX;have HP:=aa hP;have qA:=aa (And.intro TH hhl);clear TZ lX hP TH hhl;by_cases hlt:k < zs.length
  ·have gu:k < q.items.length:=by rw[<- WE.ae];exact hlt
   obtain⟨b,off,hA,Cu,hcell⟩:∃b off,L.i.A=some ⟨b,off,none⟩/\b < w0.heap.size/\cg w0 b (off+k*8) zs[k].1/\w0.cell? ⟨b,off+k*8+7,none⟩=some zs[k].2:=by
    rcases HJ.ae with h |⟨b,off,h1,h2,h3⟩
    ·exact ZeQ
    ·exact Zd4
   have hb8:zs[k].2=.string (q.items[k]'gu).2:=by have h1:=congrArg (λ l=>l[k]?) GZ.ae;simp only[getElem?_map,getElem?_eq_getElem hlt,getElem?_eq_getElem gu,Option.map_some] at h1;injection h1
   have rI:(q.items[k]'gu).1.at_ w0 (Old w0) zs[k].1:=by
    have hl2:k <((q.items.map λ x=>(x.1,Value.string x.2)).map (·.1)).length:=by simpa using gu
    obtain⟨Kx,h1,h2⟩:=pI hl2 iz.ae;exact Ze2
   have gP:(q.items[k]'gu).1.ok:=dO.1 LW.ae _ (mem_map_of_mem (getElem_mem gu));have hnd:Tr.aN ((q.items.map (·.1)).drop k)=(q.items[k]'gu).1.nodes+Tr.aN ((q.items.map (·.1)).drop (k+1)):=by have h1:=uN (ts:=q.items.map (·.1)) (k:=k) (by simpa using gu);simpa using h1
   have hdr:cC c.aI c.aF c.cols (q.items.drop k) s1=(match mb c.aI c.aF c.cols (q.items[k]'gu).1 s1 with
     | .error e=> .error e
     | .ok (Kx,k2,s')=>match cC c.aI c.aF c.cols (q.items.drop (k+1)) s' with
       | .error e=> .error e
       | .ok (ys,hd,LC)=> .ok (Kx::ys,⟨iD (q.items[k]'gu).1 (q.items[k]'gu).2,k2⟩::hd,LC)):=by
    rw[drop_eq_getElem_cons gu];obtain⟨t,bb⟩:=q.items[k];rfl
   rw[hb8] at hcell;generalize zs[k].1=x at*;generalize (q.items[k]'gu).2=nm at*;generalize (q.items[k]'gu).1=t at*;obtain⟨hex,h7⟩:=hcell;have iQ:=hex.keep (λ o=>HP.ae.f.base.cell (p:=⟨b,o,none⟩) Cu);have h72:=(HP.ae.f.base.cell (p:=⟨b,off+k*8+7,none⟩) Cu).trans h7;unfold cg at iQ;have xm:=aa rI;have kI:=aa gP;have HND:=aa hnd;have uU:=aa hdr;have HAA:=aa hA;rw[hA];clear hex h7 rI gP hnd hdr hA Cu hb8 gu;go_upto_region 30 with fail;clear iQ h72;have hb:=aB.new wr 48 #[ag x.op,ag x.v.k,af x.v.n,.string x.v.s,.string x.name,af x.width,.slice x.A x.n x.c,.string nm];have aeB:=ah wr (.cells #[ag x.op,ag x.v.k,af x.v.n,.string x.v.s,.string x.name,af x.width,.slice x.A x.n x.c,.string nm] 48);generalize wr.alloc (.cells #[ag x.op,ag x.v.k,af x.v.n,.string x.v.s,.string x.name,af x.width,.slice x.A x.n x.c,.string nm] 48)=W2 at*;have tT:=aa (HP.ae.later aeB);have Xg:=aa (show sT W2 gp (PR u1 v1 { r with h:=rh,i:=ri }) wr.heap.size from⟨hb.lt,by have:=HP.ae.f.lt;omega,λ i hi e=>by have:=(HP.ae.f.rows i hi _ e).2.1;omega⟩);have akf:=aa (show w0.heap.size<=wr.heap.size/\wr.heap.size≠g2/\wr.heap.size≠g4/\wr.heap.size≠g5/\wr.heap.size≠D from⟨HP.ae.f.base.size,by have:=HP.ae.f.k2.1;omega,by have:=HP.ae.f.k4.1;omega,by have:=HP.ae.f.k5.1;omega,by have:=HP.ae.f.kD.1;omega⟩);have aqY:=aa (show Tr.aM W2 (λ b=>sT W2 gp (PR u1 v1 { r with h:=rh,i:=ri }) b/\b≠wr.heap.size) ti yi from Tr.aM.keep (λ b Lw=>⟨λ o=>aeB.cell (p:=⟨b,o,none⟩) Lw.1,⟨Nat.lt_of_lt_of_le Lw.1 aeB.size,Lw.2⟩,by have:=Lw.1;omega⟩) _ _ HP.ae.t3)
   generalize wr.heap.size=g16 at*;clear HP aeB;open zdY in exact ZbS
  ·have gw:k=zs.length:=by omega
   have V2:=aa (show X=.ok (ti,jL,s1) by
    rw[uH.ae,gw,WE.ae,drop_length]
    show Except.ok (ti++ [],jL++ [],s1)=_
    rw[append_nil,append_nil])
   have axp:(q.items.map (·.1)).drop k=[]:=drop_eq_nil_of_le (by have:=WE.ae;rw[length_map];omega);subst gw
   have key:∀T:x_,T.size=252->T.getD 2 undef=aw g2->T.getD 4 undef=aw g4->T.getD 5 undef=aw g5->T.getD 6 undef=aw gp->(eZ bK 8).wp Tryz.prog Q { tmps:=T,defers:=d } wr:=λ T hT h2 h4 h5 h6=>
    RD c w0 gp g2 g4 g5 D q L { r with h:=rh,i:=ri } u1 v1 Jt s1 (hd++jL) yi ti T hT h2 h4 h5 h6 d wr Q je.ae HS.ae HO.ae mr.ae A1.ae A2.ae HQN.ae (by have:=AW.ae;rw[axp] at this;omega) HP.ae
     (λ er a W he hne ha KK=>HE.ae er a W (by
       have h:Hc c.aI c.aF c.cols q s1=.error er:=by
        unfold Hc
        rcases he with he |⟨th,s',h1,h2⟩
        ·rw[he]
        ·rw[h1]
         dsimp only
         rw[h2]
       unfold wX
       rw[<- HB.ae,V2.ae]
       dsimp only
       rw[h]) hne ha KK)
     (λ a W r' u' v' pY s2 s' yh yo th eM h1 h2 ha hp=>nI.ae a W r' u' v' pY s' jL yi yh yo ti th eM (by
       have h:Hc c.aI c.aF c.cols q s1=.ok (th,eM,s'):=by
        unfold Hc
        rw[h1]
        dsimp only
        rw[h2]
       unfold wX
       rw[<- HB.ae,V2.ae]
       dsimp only
       rw[h]) ha hp)
   exact Zb4):p:=h
theorem zeG.Ka3(h:p:=by
 obtain⟨hn,zs,Wy,NT,Gu⟩:=Yv;rw[length_map] at hn;have fK:zs.length=q.items.length:=by have:=congrArg List.length NT;simpa using this
 obtain⟨X,hqk⟩:∃X,X=cC c.aI c.aF c.cols q.items s:=⟨_,rfl⟩;have HE:=aa hE;open zcB in exact Za7):p:=h
theorem Xf (c:PC)(w0:rQ)(gp g2 g4 g5 D:Nat)(q:Qy)(L:QL)(r:Rest)(u v:Value)(ya:u_)(s:dp)(hd:List aV)(T:x_)(hT:T.size=252)
  (h2:T.getD 2 undef=aw g2) (h4:T.getD 4 undef=aw g4) (h5:T.getD 5 undef=aw g5) (h6:T.getD 6 undef=aw gp) (d:List Deferred) (w:rQ) (Q:yD)
  (SZ:c.Ok w0) (qK:Tr.cH (q.items.map (·.1))) (Yv:fE w0 (q.items.map λ x=>(x.1,.string x.2)) L.i.A L.i.n) (hfn:q.items.length<=100000) (hz:hd.length<=100000)
  (hS:Tr.cH q.fK) (hw:fT w0 q.fK L.h.A L.h.n) (AL:q.fK.length<=1000000) (Ai:Tr.cH (q.ord.map (·.1))) (G3:fE w0 (q.ord.map λ x=>(x.1,.bool x.2)) L.o.A L.o.n) (Rb:q.ord.length<=1000000) (lX:s.aF.length+s.aD.length+2*Tr.aN (q.items.map (·.1))+(2*Tr.aN q.fK+2*Tr.aN (q.ord.map (·.1)))<=1000000)
  (hP:cW c w0 gp g2 (fN q L) g4 g5 D r w u v ya s hd [] [] [] [] [] [])
  (hE:∀er a W,wX c.aI c.aF c.cols q s=.error er->er≠0->qf a d g4 g5->wW w0 g4 g5 D W->Q .ret a (jt W g4 g5 er))
  (AK:∀a W r' u' v' pY s' vd yi yh yo ti th eM,wX c.aI c.aF c.cols q s=.ok (ti,vd,th,eM,s')->qf a d g4 g5->cW c w0 gp g2 (fN q L) g4 g5 D r' W u' v' pY s' (hd++vd) yi yh yo ti th eM->Q .ret a (jF W g4 g5 gp)):
  (eZ bK 7).wp Tryz.prog Q { tmps:=T,defers:=d } w:=by
 open zeG in exact Zct
variable{α:Type}{f:α->wL}{e:TypeId}
theorem oy{size base:Nat} :aH f e size w base (ay) []:=⟨by simp,.inl ⟨rfl,rfl⟩⟩
section
variable {c:PC} {w0 w:rQ} {gp g2 g4 g5 D:Nat} {qc:x_} {r:Rest} {u v:Value} {ya:u_} {s:dp} {hd:List aV} {yi yh yo:u_} {ti th eM:uF}
theorem cW.arh (h:cW c w0 gp g2 qc g4 g5 D r w u v ya s hd yi yh yo ti th eM):cW c w0 gp g2 qc g4 g5 D { r with h:=ay } (w.setCell ⟨gp,12,none⟩ (ay)) u v ya s [] yi yh yo ti th eM:=by
 have hf:=λ k (hk:k≠gp)=>Below.heap_setCell w ⟨gp,12,none⟩ (ay) k hk
 have p:De w0 gp (PR u v r) (PR u v { r with h:=ay }) (λ i=>i=2) w (w.setCell ⟨gp,12,none⟩ (ay)):=by
  refine⟨rfl,rfl,rfl,by rw[World.size_setCell];exact Nat.le_refl _,λ k h1 h2 h3=>hf k h2,?_,?_,Zfg,?_⟩
  ·intro i hi hT
   match i with
   | 0 | 1 | 3 | 4 | 5=>rfl
   | 2=>exact absurd rfl hT
   | n+6=>omega
  ·intro i hi hT;subst hT;exact .inr λ q hq=>by cases hq
  ·intro i hi hT q hq;subst hT;cases hq
 exact⟨h.f.step p,h.blk.aT 12 _,p.own h.f (i:=0) TD TD h.o0,p.own h.f (i:=1) TD TD h.o1,oy,p.own h.f (i:=3) TD TD h.o3,p.own h.f (i:=4) TD TD h.o4,p.own h.f (i:=5) TD TD h.o5,h.aD,p.trees h.t3,p.trees h.t4,p.trees h.t5⟩
end
def zH (g:Bool)(aF:uF)(cols:List aV)(q:Qy)(s:dp):tE (uF×List aV×uF×uF×dp):=if q.items=[]/\g=true then .error 42 else wX g aF cols q s
theorem zbH.Kam(h:p:=by go_wp2_with fail;exact HE.ae 42 _ _ HR.ae V0 ⟨rfl,rfl,rfl⟩ HW.ae):p:=h
theorem zeH.Ka3(h:p:=by
 have key:∀(r':Rest) (Qw:List aV) (w':rQ),(q.items=[]->c.aI=false)->Qw=(if q.items=[] then hd else [])->cW c w0 gp g2 (fN q L) g4 g5 D r' w' u v ya s Qw [] [] [] [] [] []->∀T:x_,T.size=252->T.getD 2 undef=aw g2->T.getD 4 undef=aw g4->T.getD 5 undef=aw g5->T.getD 6 undef=aw gp->(eZ bK 7).wp Tryz.prog Q { tmps:=T,defers:=d } w':=λ r' Qw w' hg e hp T hT h2 h4 h5 h6=>
  have hR:zH c.aI c.aF c.cols q s=wX c.aI c.aF c.cols q s:=if_neg λ h=>by have h1:=h.2;rw[hg h.1] at h1;cases h1
  Xf c w0 gp g2 g4 g5 D q L r' u v ya s Qw T hT h2 h4 h5 h6 d w' Q aZ hqi Yv EP (by
   rw[e]
   split
   ·exact V5
   ·exact Nat.zero_le _) V3 hih DI TX ur TY hlen hp (λ er a W he=>hE er a W (hR.trans he)) (λ a W r' u' v' pY s' vd yi yh yo ti th eM he ha hp=>hO a W r' u' v' pY s' vd yi yh yo ti th eM (hR.trans he) ha (e▸hp))
 simp only[bK,eZ,Tryz.f28,Option.getD_some] at key;have b2:=hP.f.z2;have bg:=hP.blk;unfold fN at b2;unfold PC.cells at bg;have c0:=b2.cell 0;have c11:=bg.cell 11;have c12:=bg.cell 12;have f12:=bg.frozen 12;simp only[Uaa] at c0 c11 c12;have hn:L.i.n=q.items.length:=by rw[Yv.n,length_map]
 have ari:=hP.f.U9;have HP:=aa hP;have HE:=aa hE;have HW:=aa ari;have KEY:=aa key;rw[hn] at c0;clear hE hO aZ hqi Yv V5 V3 hih DI TX ur TY hlen hP b2 bg hn ari key;simp only[bK,eZ,Tryz.f28,Option.getD_some];refine wp_seq_k λ K hK=>?_
 have HK:=aa (show∀(r':Rest) (Qw:List aV) (w':rQ),(q.items=[]->c.aI=false)->Qw=(if q.items=[] then hd else [])->cW c w0 gp g2 (fN q L) g4 g5 D r' w' u v ya s Qw [] [] [] [] [] []->∀T:x_,T.size=252->T.getD 2 undef=aw g2->T.getD 4 undef=aw g4->T.getD 5 undef=aw g5->T.getD 6 undef=aw gp->K { tmps:=T,defers:=d } w' from λ r' Qw w' h1 h2 h3 T a1 a2 a3 a4 a5=>hK _ _ (KEY.ae r' Qw w' h1 h2 h3 T a1 a2 a3 a4 a5));clear hK KEY
 cases hi:q.items with
 | nil=>
   rw[hi] at c0
   cases hg:c.aI with
   | true=>rw[hg] at c11;have HR:=aa (show zH c.aI c.aF c.cols q s=.error 42 from if_pos ⟨hi,hg⟩);clear hi hg EP;obtain⟨_,_,_,uO,_,_,b4,b5,_⟩:=HW.ae;open zbH in exact ZaB
   | false=>rw[hg] at c11;have HI:=aa hi;have HG:=aa hg;clear hi hg EP;go_wp2_with fail;refine HK.ae r hd w (λ _=>HG.ae) (by rw[if_pos HI.ae]) HP.ae _ ?_ ?_ ?_ ?_ ?_ <;> rfl
 | cons i0 il=>
   rw[hi,length_cons] at c0;have HI:=aa hi;rw[hi,length_cons] at EP;clear hi;have hlt:(0:Int)<((il.length+1:Nat):Int):=by omega
   go_wp2_with fail;refine HK.ae _ [] _ (λ h=>by rw[HI.ae] at h;cases h) (by rw[HI.ae];rfl) HP.ae.arh _ ?_ ?_ ?_ ?_ ?_ <;> rfl):p:=h
theorem V8 (c:PC)(w0:rQ)(gp g2 g4 g5 D:Nat)(q:Qy)(L:QL)(r:Rest)(u v:Value)(ya:u_)(s:dp)(hd:List aV)(T:x_)(hT:T.size=252)
  (h2:T.getD 2 undef=aw g2) (h4:T.getD 4 undef=aw g4) (h5:T.getD 5 undef=aw g5) (h6:T.getD 6 undef=aw gp) (d:List Deferred) (w:rQ) (Q:yD)
  (aZ:c.Ok w0) (hqi:Tr.cH (q.items.map (·.1))) (Yv:fE w0 (q.items.map λ x=>(x.1,.string x.2)) L.i.A L.i.n) (EP:q.items.length<=100000) (V5:hd.length<=100000)
  (V3:Tr.cH q.fK) (hih:fT w0 q.fK L.h.A L.h.n) (DI:q.fK.length<=1000000) (TX:Tr.cH (q.ord.map (·.1))) (ur:fE w0 (q.ord.map λ x=>(x.1,.bool x.2)) L.o.A L.o.n) (TY:q.ord.length<=1000000) (hlen:s.aF.length+s.aD.length+2*Tr.aN (q.items.map (·.1))+(2*Tr.aN q.fK+2*Tr.aN (q.ord.map (·.1)))<=1000000)
  (hP:cW c w0 gp g2 (fN q L) g4 g5 D r w u v ya s hd [] [] [] [] [] [])
  (hE:∀er a W,zH c.aI c.aF c.cols q s=.error er->er≠0->qf a d g4 g5->wW w0 g4 g5 D W->Q .ret a (jt W g4 g5 er))
  (hO:∀a W r' u' v' pY s' vd yi yh yo ti th eM,zH c.aI c.aF c.cols q s=.ok (ti,vd,th,eM,s')->qf a d g4 g5->cW c w0 gp g2 (fN q L) g4 g5 D r' W u' v' pY s' ((if q.items=[] then hd else [])++vd) yi yh yo ti th eM->Q .ret a (jF W g4 g5 gp)):
  (eZ bK 6).wp Tryz.prog Q { tmps:=T,defers:=d } w:=by
 open zeH in exact Zct
def akh (gp B:Nat)(w1:rQ)(vv:Value)(l:List aV)(nm:t_)(ty:Int)(k:Nat):Nat->rQ->Value->Prop
 | 0,_,v=>v=aw gp
 | 1,_,v=>v=aw gp
 | 2,_,v=>v=aw gp
 | 3,_,v=>v=bc gp 10
 | 4,_,v=>v=vv
 | 5,_,v=>v=af (k:Int)
 | 6,_,v=>v=.agg #[ag 2,ag 0,af 0,au,.string nm,af 0,ay]
 | 7,_,v=>v=.string nm
 | 8,_,v=>v=ag ty
 | 9,_,v=>v=.agg #[.string nm,ag ty]
 | 10,w,v=>∃q:Nat,v=aL q 1 1/\aB w q 113 (aR ⟨nm,ty⟩).toArray/\vv.ownBlock≠some q
 | 11,w,v=>∃q:Value,v=q/\aH aR 113 2 w B q (l++ [⟨nm,ty⟩])/\Mv w1 vv q
 | 12,_,v=>v=aw gp
 | 13,_,v=>v=bc gp 10
 | _,_,_=>False
theorem RM (gp B:Nat)(w1:rQ)(vv:Value)(l:List aV)(nm:t_)(ty:Int)(k:Nat):∀i w w' x,akh gp B w1 vv l nm ty k i w x->AR aR 113 2 B vv l ⟨nm,ty⟩ w w'->akh gp B w1 vv l nm ty k i w' x:=by
 intro i w w' x h hl
 match i with
 | 0 | 1 | 2 | 3 | 4 | 5 | 6 | 7 | 8 | 9 | 12 | 13=>exact h
 | 10=>exact Zer
 | 11=>exact ZfB
 | n+14=>exact h
def Uc (l:List aV):tE (List aV)->tE (List aV)
 | .error e=> .error e
 | .ok m=> .ok (l++m)
theorem Xi (x:tE (List aV)):Uc [] x=x:=by exact ZgQ
theorem RO(l:List aV)(y:aV) {x x':tE (List aV)}(h:x'=(match x with | .error e=> .error e | .ok m=> .ok (y::m))):Uc l x'=Uc (l++ [y]) x:=by
 rw[h]
 cases x with
 | error e=>rfl
 | ok p=>show Except.ok (l++y::p)=Except.ok ((l++ [y])++p);rw[append_assoc];rfl
def wY (g:Bool)(aF:uF)(cols:List aV)(q:Qy):tE (uF×List aV×uF×uF×dp):=
 match gM cols q.aF 0 with
 | .error e=> .error e
 | .ok gc=>zH g aF cols q ⟨[],gc⟩
theorem zbM.Kam(h:p:=by exact ZgK):p:=h
theorem zbf.Kag(h:p:=by
 clear k1;go_wp2_with fail;clear z0 z1 x2 x3 x4 x5 x6;have xj:=Tr.oT (cols:=c.cols) (CA:=c.cA) (cc:=c.cc) Tbb t y W2 kI.ae (xm.ae.later tT.ae.f.base) (je.ae.cols.later tT.ae.f.base);have JL:=uU.ae;generalize hR:t.type c.cols=R at*;obtain⟨ty,er⟩:=R;dsimp only at JL xj;refine(xj W2 (ai.refl _)).mono ?_;rintro e w6 ⟨rfl,hb6⟩;have sN:=aa (tT.ae.later hb6);clear xj tT hb6 hR uU;by_cases HW:er=0
 ·subst HW;rw[if_neg V0] at JL;have akj:=aa JL;clear JL;obtain⟨nm,jb⟩:∃nm,nm=di k:=⟨_,rfl⟩;have Th:=aa jb;clear jb;have HK9:=aa (show k < 1000000 by have:=HFN.ae;have:=mr.ae;omega);have HGL:=aa (show s1.aF.length<=1000000 by have:=HK9.ae;have:=qA.ae;omega);obtain⟨VA,vc,hv,_⟩:=sN.ae.o1.reads;subst hv;go_wp2_with fail;obtain⟨WB,hWB⟩:∃WB,WB=w6:=⟨_,rfl⟩;have qj:=sN;clear sN;rw[<- hWB] at qj ⊢;refine fL _ _ (take_append_drop 14 _).symm (AR aR 113 2 w0.heap.size (Value.slice VA s1.aF.length vc) s1.aF ⟨nm,ty⟩) AR.refl (λ _ _ _=>AR.trans) AR.drew (akh gp w0.heap.size WB (Value.slice VA s1.aF.length vc) s1.aF nm ty k) (λ i w w' y h hr=>RM _ _ _ _ _ _ _ _ _ _ _ _ h hr) WC WC WC ?_ ?_
  ·simp only[take_succ_cons,take_zero];refine⟨ZbW,ZbW,ZbW,ZeY,?_,?_,?_,?_,?_,?_,?_,?_,ZbW,ZeY,trivial⟩
   ·intro ρ w3 hc hL hr;have h0:_=_:=hr.1;have kj:=dC qj.ae.blk qj.ae.o1 V0 hL.grown;exact Zdi
   ·intro ρ w3 hc hL hr;have h0:_=_:=hr.1;exact aq (v:=af (k:Int)) (w':=w3) Tah ⟨AR.refl _,rfl⟩
   ·intro ρ w3 hc hL hr;have h0:_=_:=hr.1;have e1:=hc.func 60;refine bp (f:=60) (args:= #[af (k:Int)]) (w':=w3) Tay ?_;refine(oZ k TD (by have:=HK9.ae;omega) w3 (je.ae.env.later (qj.ae.ps.agh hL.grown))).mono ?_;rintro e4 w4 ⟨rfl,b4⟩;refine⟨_,rfl,AR.later b4,?_⟩;show mD (Lu k)=_;unfold mD Lu;rw[Th.ae]
   ·intro ρ w3 hc hL hr;have h0:_=_:=hr.1;have Ie:Sem.run Tryz.prog (Instr.field 46 (.agg #[ag 2,ag 0,af 0,au,.string nm,af 0,ay]) 2) w3=.ok (.string nm) w3:=by first | kernel_rfl | rfl
    exact aq (v:=.string nm) (w':=w3) (by simp[go_sem,h0,Ie];done) ⟨AR.refl _,rfl⟩
   ·intro ρ w3 hc hL hr;have h0:_=_:=hr.1;exact aq (v:=ag ty) (w':=w3) Tah ⟨AR.refl _,rfl⟩
   ·intro ρ w3 hc hL hr;have h0:_=_:=hr.1;have h1:_=_:=hr.2.1;exact aq (v:=.agg #[.string nm,ag ty]) (w':=w3) TaJ ⟨AR.refl _,rfl⟩
   ·intro ρ w3 hc hL hr;have h0:_=_:=hr.1;refine aq (v:=aL w3.heap.size 1 1) (w':=w3.alloc (.cells #[.string nm,ag ty] 113)) Tam ⟨AR.later (ah w3 _),⟨_,rfl,aB.new w3 _ _,λ e=>?_⟩⟩;have:=((hL.old qj.ae.o1).lt e).1;omega
   ·intro ρ w3 hc hL hr;have h0:_=_:=hr.1;obtain⟨q1,h1,uE,Jr⟩:∃q:Nat,ρ (.tmp 118)=aL q 1 1/\aB w3 q 113 (aR ⟨nm,ty⟩).toArray/\(Value.slice VA s1.aF.length vc).ownBlock≠some q:=hr.2.1;obtain⟨v',w',hrun,ho,yL,Ey⟩:=eY (P:=Tryz.prog) (w:=w3) 28 28 _ 24 Tryz.underlying28 rD rfl TD (λ _=>rfl) Ta0 (hL.old qj.ae.o1) q1 uE (by have:=HGL.ae;show(s1.aF.length+1)*24<=_;omega) (by have:=HGL.ae;show s1.aF.length+1<=_;omega) (Nat.le_trans qj.ae.f.base.size hL.grown.size);exact ZbJ
  intro W3 hL;simp only[Uab];rintro a0 - a1 - a2 - a3 - a4 - a5 - a6 - a7 - a8 - a9 - FI - L9 ⟨aEA,rfl,V9,agS⟩ a12 - _ rfl;simp only[bA,Act.put,Uac];obtain⟨A4,QN,hv4,_⟩:=V9.reads;rw[length_append,length_singleton] at hv4;subst hv4;have O4:=aa V9;have HM4:=aa agS;have M0:=aa hL.grown;have kj:=dC qj.ae.blk qj.ae.o1 V0 hL.grown;have f10:=kj.frozen 10;unfold PC.cells at kj;have c10:=kj.cell 10;simp only[Uaa] at c10;clear V9 agS kj hL;have V1:=aa (qj.ae.call (ik.L3 (gp:=gp) M0.ae HM4.ae (Value.slice A4 (s1.aF.length+1) QN) 10) (qj.ae.ps.QI O4.ae M0.ae));clear qj O4 HM4 M0;have hk7:k < 1000000:=HK9.ae;go_wp2_with fail;clear f10 c10;generalize World.setCell W3 _ _=WD at*;go_roundw;case rel=>exact⟨k+1,_,⟨s1.aD,s1.aF++ [⟨nm,ty⟩]⟩,hlt,by go_num,uH.ae,V1.ae,by
   rw[AW.ae]
   exact RO s1.aF ⟨nm,ty⟩ (by rw[Th.ae];exact akj.ae),by
   show(s1.aF++ [_]).length=k+1
   rw[length_append,qA.ae]
   rfl⟩
  case measure=>exact ZaU
 ·rw[if_pos HW] at JL;have oF:=aa (show X=.error er by
   rw[AW.ae,JL]
   rfl)
  have t1:(er != 0)=true:=by simp[HW]
  have nO:=aa HW;have HW2:=aa sN.ae.f.U9;clear HW JL;obtain⟨_,_,_,uO,_,_,b4,b5,_⟩:=HW2.ae;open zbM in exact ZaB):p:=h
theorem zgh.KbG(h:p:=by clear iz MK;open zbf in exact Zau):p:=h
theorem zhK.Kcg(h:p:=by go_upto_region 18 with fail;open zgh in exact Zej):p:=h
theorem zhv.Kca(h:p:=by
 have mr:=aa AL;have iz:=aa hP;simp only[bK,eZ,Tryz.f28,Option.getD_some] at key;have KEY:=aa key;have b2:=hP.f.z2;unfold fN at b2;have c4:=b2.cell 4;simp only[Uaa] at c4;rw[hn,<- AL] at c4;clear hE AK hO SZ qK hfn hqi Yv EP V5 V3 hih DI TX ur hz hS TY hlen hw hP b2 hn AL key;simp only[bK,eZ,Tryz.f28,Option.getD_some];refine wp_seq_k λ K hK=>?_
 have Kx:=aa (show∀(gc:List aV) (v':Value) (w':rQ),X=.ok gc->gc.length<=q.aF.length->cW c w0 gp g2 (fN q L) g4 g5 D r w' u v' [] ⟨[],gc⟩ hd [] [] [] [] [] []->∀T:x_,T.size=252->T.getD 2 undef=aw g2->T.getD 4 undef=aw g4->T.getD 5 undef=aw g5->T.getD 6 undef=aw gp->K { tmps:=T,defers:=d } w' from λ gc v' w' h1 h2 h3 T a1 a2 a3 a4 a5=>hK _ _ (KEY.ae gc v' w' h1 h2 h3 T a1 a2 a3 a4 a5));clear hK KEY;go_wp2_with fail;clear c4;go_loopw [94] (λ i wr=>∃(k:Nat) (v1:Value) (s1:dp),k<=zs.length/\i=af k/\s1.aD=[]/\cW c w0 gp g2 (fN q L) g4 g5 D r wr u v1 [] s1 hd [] [] [] [] [] []/\X=Uc s1.aF (gM c.cols (q.aF.drop k) k)/\s1.aF.length=k) (λ i _=>zs.length - (intOf i).toNat);case atStart=>exact⟨0,v,⟨[],[]⟩,Nat.zero_le _,rfl,rfl,iz.ae,by rw[drop_zero,Xi];exact HO.ae,rfl⟩
 case round=>
  clear iz;obtain⟨k,v1,s1,hk,rfl,TZ,hP,Rb,TH⟩:=hrel;have uH:=aa TZ;have AW:=aa Rb;have iz:=aa hP;have qA:=aa TH;clear TZ Rb hP TH;by_cases hlt:k < zs.length
  ·have gu:k < q.aF.length:=by rw[<- mr.ae];exact hlt
   obtain⟨b,off,hA,Cu,hex⟩:∃b off,L.g.A=some ⟨b,off,none⟩/\b < w0.heap.size/\cg w0 b (off+k*7) zs[k]:=by exact Zg6
   have rI:(q.aF[k]'gu).at_ w0 (Old w0) zs[k]:=by obtain⟨KK,h1,h2⟩:=pI gu HS.ae;rw[getElem?_eq_getElem hlt] at h1;injection h1 with h1;rw[h1];exact h2
   have gP:(q.aF[k]'gu).ok:=dO.1 LW.ae _ (getElem_mem gu);have JL:gM c.cols (q.aF.drop k) k=(if ((q.aF[k]'gu).type c.cols).2≠0 then .error ((q.aF[k]'gu).type c.cols).2 else match gM c.cols (q.aF.drop (k+1)) (k+1)with
     | .error e=> .error e
     | .ok l=> .ok (⟨di k,((q.aF[k]'gu).type c.cols).1⟩::l)):=by
    rw[drop_eq_getElem_cons gu];rfl
   generalize zs[k]=y at*;generalize (q.aF[k]'gu)=t at*;open zhK in exact Zgi
  ·have GR:k=zs.length:=by omega
   have V2:=aa (show X=.ok s1.aF by
    rw[AW.ae,GR,mr.ae,drop_length]
    show Except.ok (s1.aF++ [])=_
    rw[append_nil])
   have HPZ:=aa (show cW c w0 gp g2 (fN q L) g4 g5 D r wr u v1 [] ⟨[],s1.aF⟩ hd [] [] [] [] [] [] by
    have h:=iz.ae
    obtain⟨sa,sg⟩:=s1
    have h2:sa=[]:=uH.ae
    rw[h2] at h
    exact h)
   subst GR;go_wp2_with fail;refine Kx.ae s1.aF v1 wr V2.ae (by have:=qA.ae;have:=mr.ae;omega) HPZ.ae _ ?_ ?_ ?_ ?_ ?_ <;> rfl):p:=h
theorem zeY.Kba(h:p:=by
 obtain⟨hn,zs,hz,hS⟩:=hig;have AL:zs.length=q.aF.length:=hS.length;obtain⟨X,hw⟩:∃X,X=gM c.cols q.aF 0:=⟨_,rfl⟩
 have key:∀(gc:List aV) (v':Value) (w':rQ),X=.ok gc->gc.length<=q.aF.length->cW c w0 gp g2 (fN q L) g4 g5 D r w' u v' [] ⟨[],gc⟩ hd [] [] [] [] [] []->∀T:x_,T.size=252->T.getD 2 undef=aw g2->T.getD 4 undef=aw g4->T.getD 5 undef=aw g5->T.getD 6 undef=aw gp->(eZ bK 6).wp Tryz.prog Q { tmps:=T,defers:=d } w':=λ gc v' w' hx Ai hp T hT h2 h4 h5 h6=>
  have hR:wY c.aI c.aF c.cols q=zH c.aI c.aF c.cols q ⟨[],gc⟩:=by unfold wY;rw[<- hw,hx]
  V8 c w0 gp g2 g4 g5 D q L r u v' [] ⟨[],gc⟩ hd T hT h2 h4 h5 h6 d w' Q SZ hqi Yv EP V5 V3 hih DI TX ur TY (by show gc.length+0+_+_<=_;omega) hp (λ er a W he=>hE er a W (hR.trans he)) (λ a W r' u' v' pY s' vd yi yh yo ti th eM he ha hp=>hO a W r' u' v' pY s' vd yi yh yo ti th eM (hR.trans he) ha hp)
 have AK:∀er a W,X=.error er->er≠0->qf a d g4 g5->wW w0 g4 g5 D W->Q .ret a (jt W g4 g5 er):=λ er a W hx=>hE er a W (by
  unfold wY
  rw[<- hw,hx])
 open zhv in exact Zga):p:=h
theorem Xj (c:PC)(w0:rQ)(gp g2 g4 g5 D:Nat)(q:Qy)(L:QL)(r:Rest)(u v:Value)(hd:List aV)(T:x_)(hT:T.size=252)
  (h1:T.getD 1 undef=.slice c.cA c.cols.length c.cc) (h2:T.getD 2 undef=aw g2) (h4:T.getD 4 undef=aw g4) (h5:T.getD 5 undef=aw g5) (h6:T.getD 6 undef=aw gp) (d:List Deferred) (w:rQ) (Q:yD)
  (SZ:c.Ok w0) (qK:Tr.cH q.aF) (hig:fT w0 q.aF L.g.A L.g.n) (hfn:q.aF.length<=100000) (hqi:Tr.cH (q.items.map (·.1))) (Yv:fE w0 (q.items.map λ y=>(y.1,.string y.2)) L.i.A L.i.n) (EP:q.items.length<=100000) (V5:hd.length<=100000)
  (V3:Tr.cH q.fK) (hih:fT w0 q.fK L.h.A L.h.n) (DI:q.fK.length<=1000000) (TX:Tr.cH (q.ord.map (·.1))) (ur:fE w0 (q.ord.map λ y=>(y.1,.bool y.2)) L.o.A L.o.n) (TY:q.ord.length<=1000000) (hlen:q.aF.length+2*Tr.aN (q.items.map (·.1))+(2*Tr.aN q.fK+2*Tr.aN (q.ord.map (·.1)))<=1000000)
  (hP:cW c w0 gp g2 (fN q L) g4 g5 D r w u v [] ⟨[],[]⟩ hd [] [] [] [] [] [])
  (hE:∀er a W,wY c.aI c.aF c.cols q=.error er->er≠0->qf a d g4 g5->wW w0 g4 g5 D W->Q .ret a (jt W g4 g5 er))
  (hO:∀a W r' u' v' pY s' vd yi yh yo ti th eM,wY c.aI c.aF c.cols q=.ok (ti,vd,th,eM,s')->qf a d g4 g5->cW c w0 gp g2 (fN q L) g4 g5 D r' W u' v' pY s' ((if q.items=[] then hd else [])++vd) yi yh yo ti th eM->Q .ret a (jF W g4 g5 gp)):
  (eZ bK 5).wp Tryz.prog Q { tmps:=T,defers:=d } w:=by
 open zeY in exact ZcQ
def wZ (g:Bool)(aF:uF)(cols:List aV)(q:Qy):tE (uF×List aV×uF×uF×dp):=
 match pd cols q.bF with
 | .error e=> .error e
 | .ok _=>wY g aF cols q
structure PlQ (c:PC) (w0:rQ) (q:Qy) (L:QL) (hd:List aV):Prop where
 ok:c.Ok w0
 qw:Tr.cH q.bF
 iw:fT w0 q.bF L.w.A L.w.n
 nw:q.bF.length<=100000
 qg:Tr.cH q.aF
 ig:fT w0 q.aF L.g.A L.g.n
 ng:q.aF.length<=100000
 qi:Tr.cH (q.items.map (·.1))
 ii:fE w0 (q.items.map λ x=>(x.1,.string x.2)) L.i.A L.i.n
 ni:q.items.length<=100000
 nh:hd.length<=100000
 qh:Tr.cH q.fK
 ih:fT w0 q.fK L.h.A L.h.n
 nhv:q.fK.length<=100000
 qo:Tr.cH (q.ord.map (·.1))
 io:fE w0 (q.ord.map λ x=>(x.1,.bool x.2)) L.o.A L.o.n
 no:q.ord.length<=1000000
 len:q.aF.length+2*Tr.aN (q.items.map (·.1))+(2*Tr.aN q.fK+2*Tr.aN (q.ord.map (·.1)))<=1000000
theorem zbN.Kam(h:p:=by exact ZgK):p:=h
theorem zbg.Kag(h:p:=by
 clear k1;go_wp2_with fail;clear z0 z1 x2 x3 x4 x5 x6;have xj:=Tr.oT (cols:=c.cols) (CA:=c.cA) (cc:=c.cc) (by have:=HFN.ae.ok.cl;omega) t y W2 kI.ae (xm.ae.later tT.ae.f.base) (HFN.ae.ok.cols.later tT.ae.f.base);have JL:=uU.ae;generalize hR:t.type c.cols=R at*;obtain⟨ty,KK⟩:=R;dsimp only at JL xj;refine(xj W2 (ai.refl _)).mono ?_;rintro e w6 ⟨rfl,hb6⟩;have HP6:=aa (tT.ae.later hb6);have Kj:=aa JL;clear xj tT hb6 hR uU JL;go_wp2_with fail;refine(uh ty KK w6).mono ?_;rintro e w7 ⟨rfl,Oh⟩;have sN:=aa (HP6.ae.later Oh);have JL:=Kj.ae;clear HP6 Oh Kj;generalize nH (ty,KK)=er at*;by_cases HW:er=0
 ·subst HW;rw[if_neg V0] at JL;have akj:=aa JL;clear JL;have hk7:k < 1000000:=by have:=HFN.ae.nw;have:=mr.ae;omega
  go_wp2_with fail;go_roundw;case rel=>exact⟨k+1,hlt,by go_num,sN.ae,Eh.ae.trans akj.ae⟩
  case measure=>exact ZaU
 ·rw[if_pos HW] at JL;have oF:=aa (show X=.error er from Eh.ae.trans JL);have t1:(er != 0)=true:=by simp[HW]
  have nO:=aa HW;have HW2:=aa sN.ae.f.U9;clear HW JL;obtain⟨_,_,_,uO,_,_,b4,b5,_⟩:=HW2.ae;open zbN in exact ZaB):p:=h
theorem zgi.KbG(h:p:=by clear iz MK;open zbg in exact Zau):p:=h
theorem zhJ.Kcg(h:p:=by go_upto_region 11 with fail;open zgi in exact Zej):p:=h
theorem zeZ.Kba(h:p:=by
 obtain⟨hn,zs,hz,hS⟩:=hfn.iw;have AL:zs.length=q.bF.length:=hS.length;obtain⟨X,hw⟩:∃X,X=pd c.cols q.bF:=⟨_,rfl⟩
 have key:∀(w':rQ),X=.ok ()->cW c w0 gp g2 (fN q L) g4 g5 D r w' u v [] ⟨[],[]⟩ hd [] [] [] [] [] []->∀T:x_,T.size=252->T.getD 1 undef=.slice c.cA c.cols.length c.cc->T.getD 2 undef=aw g2->T.getD 4 undef=aw g4->T.getD 5 undef=aw g5->T.getD 6 undef=aw gp->(eZ bK 5).wp Tryz.prog Q { tmps:=T,defers:=d } w':=λ w' hx hp T hT h1 h2 h4 h5 h6=>
  have hR:wZ c.aI c.aF c.cols q=wY c.aI c.aF c.cols q:=by unfold wZ;rw[<- hw,hx]
  Xj c w0 gp g2 g4 g5 D q L r u v hd T hT h1 h2 h4 h5 h6 d w' Q hfn.ok hfn.qg hfn.ig hfn.ng hfn.qi hfn.ii hfn.ni hfn.nh hfn.qh hfn.ih (by have:=hfn.nhv;omega) hfn.qo hfn.io hfn.no hfn.len hp (λ KK a W he=>hE KK a W (hR.trans he)) (λ a W r' u' v' pY s' vd yi yh yo ti th eM he ha hp=>hO a W r' u' v' pY s' vd yi yh yo ti th eM (hR.trans he) ha hp)
 have hE2:∀KK a W,X=.error KK->KK≠0->qf a d g4 g5->wW w0 g4 g5 D W->Q .ret a (jt W g4 g5 KK):=λ KK a W hx=>hE KK a W (by
  unfold wZ
  rw[<- hw,hx])
 have nI:=aa hE2;have HFN:=aa hfn;have HK:=aa hz;have HS:=aa hS;have HO:=aa hw;have mr:=aa AL;have iz:=aa hP;simp only[bK,eZ,Tryz.f28,Option.getD_some] at key;have KEY:=aa key;have b2:=hP.f.z2;unfold fN at b2;have c3:=b2.cell 3;simp only[Uaa] at c3;rw[hn,<- AL] at c3;clear hE hE2 hO hfn hz hS hw hP b2 hn AL key;simp only[bK,eZ,Tryz.f28,Option.getD_some];refine wp_seq_k λ K hK=>?_
 have Kx:=aa (show∀(w':rQ),X=.ok ()->cW c w0 gp g2 (fN q L) g4 g5 D r w' u v [] ⟨[],[]⟩ hd [] [] [] [] [] []->∀T:x_,T.size=252->T.getD 1 undef=.slice c.cA c.cols.length c.cc->T.getD 2 undef=aw g2->T.getD 4 undef=aw g4->T.getD 5 undef=aw g5->T.getD 6 undef=aw gp->K { tmps:=T,defers:=d } w' from λ w' h1 h3 T a0 a1 a2 a3 a4 a5=>hK _ _ (KEY.ae w' h1 h3 T a0 a1 a2 a3 a4 a5));clear hK KEY;go_wp2_with fail;clear c3;go_loopw [77] (λ i wr=>∃(k:Nat),k<=zs.length/\i=af k/\cW c w0 gp g2 (fN q L) g4 g5 D r wr u v [] ⟨[],[]⟩ hd [] [] [] [] [] []/\X=pd c.cols (q.bF.drop k)) (λ i _=>zs.length - (intOf i).toNat);case atStart=>exact⟨0,Nat.zero_le _,rfl,iz.ae,by rw[drop_zero];exact HO.ae⟩
 case round=>
  clear iz;obtain⟨k,hi,rfl,hP,hlk⟩:=hrel;have Eh:=aa hlk;have iz:=aa hP;clear hlk hP;by_cases hlt:k < zs.length
  ·have gu:k < q.bF.length:=by rw[<- mr.ae];exact hlt
   obtain⟨b,off,hA,Cu,hex⟩:∃b off,L.w.A=some ⟨b,off,none⟩/\b < w0.heap.size/\cg w0 b (off+k*7) zs[k]:=by exact Zg6
   have rI:(q.bF[k]'gu).at_ w0 (Old w0) zs[k]:=by obtain⟨Lw,h1,h2⟩:=pI gu HS.ae;rw[getElem?_eq_getElem hlt] at h1;injection h1 with h1;rw[h1];exact h2
   have gP:(q.bF[k]'gu).ok:=dO.1 HFN.ae.qw _ (getElem_mem gu);have JL:pd c.cols (q.bF.drop k)=(if nH ((q.bF[k]'gu).type c.cols)≠0 then .error (nH ((q.bF[k]'gu).type c.cols))else pd c.cols (q.bF.drop (k+1))):=by rw[drop_eq_getElem_cons gu];rfl
   generalize zs[k]=y at*;generalize (q.bF[k]'gu)=t at*;open zhJ in exact Zgi
  ·have GR:k=zs.length:=by omega
   have V2:=aa (show X=.ok () by
    rw[Eh.ae,GR,mr.ae,drop_length]
    rfl)
   subst GR;go_wp2_with fail;refine Kx.ae wr V2.ae iz.ae _ ?_ ?_ ?_ ?_ ?_ ?_ <;> rfl):p:=h
theorem Xk (c:PC)(w0:rQ)(gp g2 g4 g5 D:Nat)(q:Qy)(L:QL)(r:Rest)(u v:Value)(hd:List aV)(T:x_)(hT:T.size=252)
  (h1:T.getD 1 undef=.slice c.cA c.cols.length c.cc) (h2:T.getD 2 undef=aw g2) (h4:T.getD 4 undef=aw g4) (h5:T.getD 5 undef=aw g5) (h6:T.getD 6 undef=aw gp) (d:List Deferred) (w:rQ) (Q:yD)
  (hfn:PlQ c w0 q L hd)
  (hP:cW c w0 gp g2 (fN q L) g4 g5 D r w u v [] ⟨[],[]⟩ hd [] [] [] [] [] [])
  (hE:∀KK a W,wZ c.aI c.aF c.cols q=.error KK->KK≠0->qf a d g4 g5->wW w0 g4 g5 D W->Q .ret a (jt W g4 g5 KK))
  (hO:∀a W r' u' v' pY s' vd yi yh yo ti th eM,wZ c.aI c.aF c.cols q=.ok (ti,vd,th,eM,s')->qf a d g4 g5->cW c w0 gp g2 (fN q L) g4 g5 D r' W u' v' pY s' ((if q.items=[] then hd else [])++vd) yi yh yo ti th eM->Q .ret a (jF W g4 g5 gp)):
  (eZ bK 4).wp Tryz.prog Q { tmps:=T,defers:=d } w:=by
 open zeZ in exact ZcQ
open Go.Shelf
theorem aeD (q:Qy)(L:QL)(w:rQ):ar 56 #[oC q L] w λ e w'=>∃g,e=.returned (.func (.func 96) #[] #[aw g])/\aB w' g 27 (fN q L)/\w.heap.size<=g/\aj w w':=by have bb:=ah w (.cells (fN q L) 27);have HX:=aB.new w 27 (fN q L);unfold oC;unfold fN at*;go_enter Tryz.func56,Tryz.ntmps56;go_wp2_with fail;go_ret;exact⟨w.heap.size,rfl,HX,Nat.le_refl _,bb⟩
attribute [local go_sem] Oper.semAt_some
def dD (D:Nat):List Deferred:=[{ target:=.collected D,args:= #[] }]
def rT (g:Bool)(aF:uF)(cols:List aV)(q:Qy):tE (uF×List aV×uF×uF×dp):=
 if q.all.any (λ t=>decide (32 < t.depth))=true then .error 1 else wZ g aF cols q
structure DM (c:PC) (w0:rQ) (q:Qy) (L:QL) (hd:List aV):Prop where
 ok:c.Ok w0
 qw:Tr.cH q.bF
 iw:fT w0 q.bF L.w.A L.w.n
 nw:q.bF.length<=100000
 qg:Tr.cH q.aF
 ig:fT w0 q.aF L.g.A L.g.n
 ng:q.aF.length<=100000
 qi:Tr.cH (q.items.map (·.1))
 ii:fE w0 (q.items.map λ x=>(x.1,.string x.2)) L.i.A L.i.n
 ni:q.items.length<=100000
 nh:hd.length<=100000
 qh:Tr.cH q.fK
 ih:fT w0 q.fK L.h.A L.h.n
 nhv:q.fK.length<=100000
 qo:Tr.cH (q.ord.map (·.1))
 io:fE w0 (q.ord.map λ x=>(x.1,.bool x.2)) L.o.A L.o.n
 no:q.ord.length<=1000000
 len:q.all.any (λ t=>decide (32 < t.depth))=false->q.aF.length+2*Tr.aN (q.items.map (·.1))+(2*Tr.aN q.fK+2*Tr.aN (q.ord.map (·.1)))<=1000000
variable{c:PC}{w0:rQ}{q:Qy}{L:QL}
theorem DM.full(h:DM c w0 q L hd)(hx:q.all.any (λ t=>decide (32 < t.depth))=false):PlQ c w0 q L hd:=
 ⟨h.ok,h.qw,h.iw,h.nw,h.qg,h.ig,h.ng,h.qi,h.ii,h.ni,h.nh,h.qh,h.ih,h.nhv,h.qo,h.io,h.no,h.len hx⟩
theorem X0(hq:DM c w0 q L hd)(n:Nat)(hn:1<=n)(w:rQ)(gq:Nat)(hb:aB w gq 27 (fN q L))(hw:aj w0 w):
  ∃LL:List (QE w0),LL.map (λ x=>x.1.2)=q.all/\SeqStopsK Fence.wide n Tryz.prog 96 #[aw gq] QT Fr (λ ys=>ys=LL) (λ pre=>pre <+: LL) LL.length w:=by
 obtain⟨ni,zs,hzi,NT,arp⟩:=hq.ii;obtain⟨no,zo,hzo,arq,ars⟩:=hq.io;obtain⟨nw,yw,hyw,akk⟩:=hq.iw;obtain⟨ng,yg,hyg,akl⟩:=hq.ig;obtain⟨nh,yh,hyh,akm⟩:=hq.ih;rw[length_map] at ni no;have e1:(q.items.map λ x=>(x.1,Value.string x.2)).map (·.1)=q.items.map (·.1):=by simp
 have e2:(q.ord.map λ x=>(x.1,Value.bool x.2)).map (·.1)=q.ord.map (·.1):=by simp
 rw[e1] at arp;rw[e2] at ars;obtain⟨Li,l1,l2⟩:=AV _ _ hq.qi arp;obtain⟨Lc,l3,l4⟩:=AV (q.bF++q.aF++q.fK) (yw++yg++yh) (dO.2 λ t ht=>by
  rcases List.mem_append.1 ht with ht | ht
  ·rcases List.mem_append.1 ht with ht | ht
   ·exact dO.1 hq.qw t ht
   ·exact dO.1 hq.qg t ht
  ·exact dO.1 hq.qh t ht) (Tr.all_append (Tr.all_append akk akl) akm)
 obtain⟨Lo,l5,l6⟩:=AV _ _ hq.qo ars;refine⟨Li++Lc++Lo,by unfold Qy.all;rw[map_append,map_append,l2,l4,l6],?_⟩;have fK:zs.length=q.items.length:=by have:=congrArg List.length NT;simpa using this
 have gu:zo.length=q.ord.length:=by have:=congrArg List.length arq;simpa using this
 intro l J Jx W hW hJ hJx hY h0
 have:=adr w0 n hn l gq q L zs zo yw yg yh Li Lc Lo hzi hzo hyw.old hyg.old hyh.old TD TD (by rw[nw,akk.length]) (by rw[ng,akl.length]) (by rw[nh,akm.length]) l1 l5 l3
  (λ z hz=>by
    have h1:z.2∈zs.map (·.2):=mem_map_of_mem hz
    rw[NT] at h1
    obtain⟨a,ha,hb⟩:=List.mem_map.1 h1
    obtain⟨a2,_,rfl⟩:=List.mem_map.1 ha
    exact⟨_,hb.symm⟩)
  (λ z hz=>by
    have h1:z.2∈zo.map (·.2):=mem_map_of_mem hz
    rw[arq] at h1
    obtain⟨a,ha,hb⟩:=List.mem_map.1 h1
    obtain⟨a2,_,rfl⟩:=List.mem_map.1 ha
    exact⟨_,hb.symm⟩)
  ⟨by have:=hq.ni;omega,by have:=hq.no;omega,by
    have a1:=hq.nw
    have a2:=hq.ng
    have a3:=hq.nhv
    have b1:=akk.length
    have b2:=akl.length
    have b3:=akm.length
    rw[length_append,length_append]
    omega⟩ J Jx W hJ hY (hb.later hW) ((Fr.below hw).trans (Fr.below hW)) h0
 exact this
attribute [local go_sem] Oper.semAt_some
def zI(x:QE w0):Bool:=decide (32 < x.1.2.depth)
def akn (w0:rQ)(g4 g5:Nat)(W:rQ):Prop:=aj w0 W/\aB W g4 72 #[.pointer none]/\aB W g5 34 #[af 1]
def JO:Code->Code
 | .seq (.seq _ (.block _ c)) _=>c
 | _=> .skip
noncomputable def RP:Code:=JO (eZ bK 3)
variable{W':rQ}{g:Nat}{t:TypeId}{row:Option Nat}
theorem DN(h:aB W g t cs)(hg:W.grownBy W' row)(hr:∀r,row=some r->∃o:Obj,W.heap[r]?=some o/\o.isCells=false):aB W' g t cs:=h.grown hg λ e=>by obtain⟨o,h1,h2⟩:=hr g e.symm;rw[h] at h1;injection h1 with h1;rw[<- h1] at h2;cases h2
theorem zdi.KaF(h:p:=by
 clear hb;gi_wp2_with (refine⟨trivial,?_⟩;gi_at_call 57;refine(CallsIn.inRound l (callsIn_wide.2 akp)).mono ?_;rintro e W2 ⟨rfl,hb2⟩;clear akp;have c4:=(H4.ae.later hb2).cell 0;have c5:=((H5.ae.later hb2).far (p:=⟨g4,0,none⟩) (Ne.symm AJ) (.pointer none)).cell 0;have f4:=(H4.ae.later hb2).frozen 0;have f5:=((H5.ae.later hb2).far (p:=⟨g4,0,none⟩) (Ne.symm AJ) (.pointer none)).frozen 0;simp only[getElem?_toArray,getElem?_cons_zero] at c4 c5)
 ·rename_i hdp;have hx:zI x=true:=by unfold zI;first | exact decide_eq_true TD| simpa using hdp
  refine⟨?_,rfl,by rw[any_append,any_cons,hx];simp,?_⟩
  ·exact(((KeepsOthers.of_grownBy (nK hb2) (λ _ _ e _=>by cases e)).trans (KeepsOthers.setCell _ _ _)).trans (KeepsOthers.setCell _ _ _)).from _
  ·refine⟨((Below.trans Kx ((HI1.ae.mono Kx.size).trans (hb2.mono (Nat.le_trans Kx.size HI1.ae.size)))).setCell hl4 _).setCell hl5 _,?_,?_⟩
   ·exact(((H4.ae.later hb2).aT 0 _).far (p:=⟨g5,0,none⟩) AJ _)
   ·exact(((H5.ae.later hb2).far (p:=⟨g4,0,none⟩) (Ne.symm AJ) _).aT 0 _)
 ·rename_i hdp;have hx:zI x=false:=by unfold zI;first | exact decide_eq_false TD| simpa using hdp
  exact⟨(KeepsOthers.of_grownBy (nK hb2) (λ _ _ e _=>by cases e)).from _,Fr.below hb2,HI1.ae.trans (hb2.mono HI1.ae.size),by rw[any_append,any_cons,hx,HI2.ae];rfl⟩):p:=h
theorem Xl (w0 w1:rQ)(LL:List (QE w0))(gq g4 g5:Nat)(T:x_)(hT:T.size=252)(h4:T.getD 4 undef=aw g4)(h5:T.getD 5 undef=aw g5)(h69:T.getD 69 undef=.func (.func 96) #[] #[aw gq])
  (hseq:SeqStopsK Fence.wide 3 Tryz.prog 96 #[aw gq] QT Fr (λ ys=>ys=LL) (λ pre=>pre <+: LL) LL.length w1)
  (Kx:aj w0 w1) (hb4:aB w1 g4 72 #[.pointer none]) (IC:aB w1 g5 34 #[af 0]) (AJ:g4≠g5) (hl4:w0.heap.size<=g4) (hl5:w0.heap.size<=g5) (Q:yD)
  (hdone:∀D W,aj w1 W->w1.heap.size<=D->W.heap[D]?=some (.deferred (some []))->LL.any zI=false->Q .normal { tmps:=T,defers:=[{ target:=.collected D,args:= #[] }] } W)
  (Ud:∀D W,w1.heap.size<=D->LL.any zI=true->akn w0 g4 g5 W->W.heap[D]?=some (.deferred (some []))->Q .ret { tmps:=T,defers:=[{ target:=.collected D,args:= #[] }] } W):
  RP.wp Tryz.prog Q { tmps:=T,defers:=[] } w1:=by
 obtain⟨f,rfl⟩:=ld T hT;have h4:f 4=_:=h4;have h5:f 5=_:=h5;have h69:f 69=_:=h69;have od:bT f= #[f 0,f 1,f 2,f 3,aw g4,aw g5,f 6,f 7,f 8,f 9,f 10,f 11,f 12,f 13,f 14,f 15,f 16,f 17,f 18,f 19,f 20,f 21,f 22,f 23,f 24,f 25,f 26,f 27,f 28,f 29,f 30,f 31,f 32,f 33,f 34,f 35,f 36,f 37,f 38,f 39,f 40,f 41,f 42,f 43,f 44,f 45,f 46,f 47,f 48,f 49,f 50,f 51,f 52,f 53,f 54,f 55,f 56,f 57,f 58,f 59,f 60,f 61,f 62,f 63,f 64,f 65,f 66,f 67,f 68,.func (.func 96) #[] #[aw gq],f 70,f 71,f 72,f 73,f 74,f 75,f 76,f 77,f 78,f 79,f 80,f 81,f 82,f 83,f 84,f 85,f 86,f 87,f 88,f 89,f 90,f 91,f 92,f 93,f 94,f 95,f 96,f 97,f 98,f 99,f 100,f 101,f 102,f 103,f 104,f 105,f 106,f 107,f 108,f 109,f 110,f 111,f 112,f 113,f 114,f 115,f 116,f 117,f 118,f 119,f 120,f 121,f 122,f 123,f 124,f 125,f 126,f 127,f 128,f 129,f 130,f 131,f 132,f 133,f 134,f 135,f 136,f 137,f 138,f 139,f 140,f 141,f 142,f 143,f 144,f 145,f 146,f 147,f 148,f 149,f 150,f 151,f 152,f 153,f 154,f 155,f 156,f 157,f 158,f 159,f 160,f 161,f 162,f 163,f 164,f 165,f 166,f 167,f 168,f 169,f 170,f 171,f 172,f 173,f 174,f 175,f 176,f 177,f 178,f 179,f 180,f 181,f 182,f 183,f 184,f 185,f 186,f 187,f 188,f 189,f 190,f 191,f 192,f 193,f 194,f 195,f 196,f 197,f 198,f 199,f 200,f 201,f 202,f 203,f 204,f 205,f 206,f 207,f 208,f 209,f 210,f 211,f 212,f 213,f 214,f 215,f 216,f 217,f 218,f 219,f 220,f 221,f 222,f 223,f 224,f 225,f 226,f 227,f 228,f 229,f 230,f 231,f 232,f 233,f 234,f 235,f 236,f 237,f 238,f 239,f 240,f 241,f 242,f 243,f 244,f 245,f 246,f 247,f 248,f 249,f 250,f 251]:=by simp only[bT,h4,h5,h69]
 rw[od] at hdone Ud ⊢;clear od h4 h5 h69;clear h4 h5 h69 hT;have HD:=aa hdone;have HS:=aa Ud;have X5:=hseq;simp only[RP,JO,bK,eZ,Tryz.f28,Option.getD_some];refine(wpIn_wide (n:=4)).1 ?_
 refine wpIn_rangeFunc_ownH rfl TD (gf:=96) (lb:= #[aw gq]) rfl trivial (enters_of Tryz.func96 WC rfl) X5 (λ h k=>Fr.trans h k) (λ W l ob ob' _ h1 h2 _=>Fr.putObj W l ob ob' h1 h2) (Below.refl _ _) (λ _=>rfl)
  (λ pre W=>aj w1 W/\pre.any zI=false)
  (λ cd pre W=>cd=.ret/\pre.any zI=true/\akn w0 g4 g5 W)
  ?hI ?hIx ?h0
  (λ x a' W=>∃g7,aB W g7 46 (bD x.1.1).toArray/\a'= { tmps:= #[f 0,f 1,f 2,f 3,aw g4,aw g5,f 6,aw g7,f 8,f 9,f 10,f 11,f 12,f 13,f 14,f 15,f 16,f 17,f 18,f 19,f 20,f 21,f 22,f 23,f 24,f 25,f 26,f 27,f 28,f 29,f 30,f 31,f 32,f 33,f 34,f 35,f 36,f 37,f 38,f 39,f 40,f 41,f 42,f 43,f 44,f 45,f 46,f 47,f 48,f 49,f 50,f 51,f 52,f 53,f 54,f 55,f 56,f 57,f 58,f 59,f 60,f 61,f 62,f 63,f 64,f 65,f 66,f 67,f 68,.func (.func 96) #[] #[aw gq],(.agg (bD x.1.1).toArray),f 71,f 72,f 73,f 74,f 75,f 76,f 77,f 78,f 79,f 80,f 81,f 82,f 83,f 84,f 85,f 86,f 87,f 88,f 89,f 90,f 91,f 92,f 93,f 94,f 95,f 96,f 97,f 98,f 99,f 100,f 101,f 102,f 103,f 104,f 105,f 106,f 107,f 108,f 109,f 110,f 111,f 112,f 113,f 114,f 115,f 116,f 117,f 118,f 119,f 120,f 121,f 122,f 123,f 124,f 125,f 126,f 127,f 128,f 129,f 130,f 131,f 132,f 133,f 134,f 135,f 136,f 137,f 138,f 139,f 140,f 141,f 142,f 143,f 144,f 145,f 146,f 147,f 148,f 149,f 150,f 151,f 152,f 153,f 154,f 155,f 156,f 157,f 158,f 159,f 160,f 161,f 162,f 163,f 164,f 165,f 166,f 167,f 168,f 169,f 170,f 171,f 172,f 173,f 174,f 175,f 176,f 177,f 178,f 179,f 180,f 181,f 182,f 183,f 184,f 185,f 186,f 187,f 188,f 189,f 190,f 191,f 192,f 193,f 194,f 195,f 196,f 197,f 198,f 199,f 200,f 201,f 202,f 203,f 204,f 205,f 206,f 207,f 208,f 209,f 210,f 211,f 212,f 213,f 214,f 215,f 216,f 217,f 218,f 219,f 220,f 221,f 222,f 223,f 224,f 225,f 226,f 227,f 228,f 229,f 230,f 231,f 232,f 233,f 234,f 235,f 236,f 237,f 238,f 239,f 240,f 241,f 242,f 243,f 244,f 245,f 246,f 247,f 248,f 249,f 250,f 251],defers:=[] })
  ?hAx ?assign ?body ?done ?stop
 case hI=>exact λ s W W' row hs hg hr=>⟨hs.1.grown hg hs.1.size (λ k e=>(hr k e).1),hs.2⟩
 case hIx=>exact λ cd s W W' row hs hg hr=>⟨hs.1,hs.2.1,hs.2.2.1.grown hg hs.2.2.1.size (λ k e=>Nat.le_trans Kx.size (hr k e).1),DN hs.2.2.2.1 hg (λ r e=>(hr r e).2),DN hs.2.2.2.2 hg (λ r e=>(hr r e).2)⟩
 case h0=>exact⟨Below.refl _ _,rfl⟩
 case hAx=>rintro x a' s W W' row ⟨g7,h1,h2⟩ hg hr;exact⟨g7,DN h1 hg (λ r e=>(hr r e).2),h2⟩
 case assign=>
  rintro l pre x W K ⟨hi1,Kk⟩ hK;have hbn:=aB.new W 46 (bD x.1.1).toArray;have bbn:=ah W (.cells (bD x.1.1).toArray 46);have hK2:=hK { tmps:= #[f 0,f 1,f 2,f 3,aw g4,aw g5,f 6,aw W.heap.size,f 8,f 9,f 10,f 11,f 12,f 13,f 14,f 15,f 16,f 17,f 18,f 19,f 20,f 21,f 22,f 23,f 24,f 25,f 26,f 27,f 28,f 29,f 30,f 31,f 32,f 33,f 34,f 35,f 36,f 37,f 38,f 39,f 40,f 41,f 42,f 43,f 44,f 45,f 46,f 47,f 48,f 49,f 50,f 51,f 52,f 53,f 54,f 55,f 56,f 57,f 58,f 59,f 60,f 61,f 62,f 63,f 64,f 65,f 66,f 67,f 68,.func (.func 96) #[] #[aw gq],(.agg (bD x.1.1).toArray),f 71,f 72,f 73,f 74,f 75,f 76,f 77,f 78,f 79,f 80,f 81,f 82,f 83,f 84,f 85,f 86,f 87,f 88,f 89,f 90,f 91,f 92,f 93,f 94,f 95,f 96,f 97,f 98,f 99,f 100,f 101,f 102,f 103,f 104,f 105,f 106,f 107,f 108,f 109,f 110,f 111,f 112,f 113,f 114,f 115,f 116,f 117,f 118,f 119,f 120,f 121,f 122,f 123,f 124,f 125,f 126,f 127,f 128,f 129,f 130,f 131,f 132,f 133,f 134,f 135,f 136,f 137,f 138,f 139,f 140,f 141,f 142,f 143,f 144,f 145,f 146,f 147,f 148,f 149,f 150,f 151,f 152,f 153,f 154,f 155,f 156,f 157,f 158,f 159,f 160,f 161,f 162,f 163,f 164,f 165,f 166,f 167,f 168,f 169,f 170,f 171,f 172,f 173,f 174,f 175,f 176,f 177,f 178,f 179,f 180,f 181,f 182,f 183,f 184,f 185,f 186,f 187,f 188,f 189,f 190,f 191,f 192,f 193,f 194,f 195,f 196,f 197,f 198,f 199,f 200,f 201,f 202,f 203,f 204,f 205,f 206,f 207,f 208,f 209,f 210,f 211,f 212,f 213,f 214,f 215,f 216,f 217,f 218,f 219,f 220,f 221,f 222,f 223,f 224,f 225,f 226,f 227,f 228,f 229,f 230,f 231,f 232,f 233,f 234,f 235,f 236,f 237,f 238,f 239,f 240,f 241,f 242,f 243,f 244,f 245,f 246,f 247,f 248,f 249,f 250,f 251],defers:=[] } (W.alloc (.cells (bD x.1.1).toArray 46)) ((KeepsOthers.alloc _ _).from _) (Fr.below bbn) ⟨Below.trans hi1 (bbn.mono hi1.size),Kk⟩ ⟨_,hbn,rfl⟩
  clear hK hdone Ud HD HS X5 hseq;unfold bD at*;simp only[QT];gi_wp2;exact hK2
 case body=>rintro l pre x a' W hl ⟨r,hr⟩ ⟨hi1,Kk⟩ ⟨g7,hb,rfl⟩ hlt;have akp:=Tr.ZH x.1.2 x.1.1 w0 x.2.1 x.2.2 W (Below.trans Kx (hi1.mono Kx.size));have H4:=aa (hb4.later hi1);have H5:=aa (IC.later hi1);have HI1:=aa hi1;have HI2:=aa Kk;clear hdone Ud HD HS X5 hseq hr hi1 Kk;unfold mD at akp;open zdi in exact Zbq
 case done=>rintro D xs W hD rfl ⟨h1,h2⟩ h3;exact HD.ae D W h1 hD h3 h2
 case stop=>
  rintro D cd pre W hD Es ⟨rfl,h1,h2⟩ h3;have hx:=HS.ae D W hD (by
   obtain⟨x,hx1,hx2⟩:=List.any_eq_true.1 h1
   exact List.any_eq_true.2 ⟨x,Es.subset hx1,hx2⟩) h2 h3
  gi_wp2;exact hx
attribute [local go_sem] Oper.semAt_some
theorem zdy.KaJ(h:p:=by
 simp only[Uaa] at y0 y1 c2 y3 y4 y5 y6 x7;clear hE hw hO AL hP hb cN hb4 IC AJ hl4 hl5 key;simp only[bK,eZ,Tryz.f28,Option.getD_some];refine wp_seq_k λ K hK=>?_
 have HK:=aa (show∀(D:Nat) (w':rQ),w0.heap.size<=D->q.all.any (λ t=>decide (32 < t.depth))=false->cW c w0 gp g2 (fN q L) g4 g5 D r w' u v [] ⟨[],[]⟩ hd [] [] [] [] [] []->∀T:x_,T.size=252->T.getD 1 undef=.slice c.cA c.cols.length c.cc->T.getD 2 undef=aw g2->T.getD 4 undef=aw g4->T.getD 5 undef=aw g5->T.getD 6 undef=aw gp->K { tmps:=T,defers:=dD D } w' from λ D w' h0 h1 h3 T a0 a1 a2 a3 a4 a5=>hK _ _ (KEY.ae D w' h0 h1 h3 T a0 a1 a2 a3 a4 a5));clear hK KEY;go_wp2_with fail;clear y0 y1 c2 y3 y4 y5 y6 x7;refine(aeD q L w).mono ?_;rintro e w1 ⟨gq,rfl,Oc,Ai,hb1⟩;obtain⟨LL,hLL,hseq⟩:=X0 mr.ae 3 TD w1 gq Oc (Below.trans HB.ae (hb1.mono HB.ae.size));have zZ:=aa hLL;have X5:=aa hseq;have eX:=aa hb1;clear Oc Ai hb1 hLL hseq;go_wp2_with fail;have aru:=λ(T:x_) hT e4 e5 e69 (Q2:yD) hd hs=>Xl w0 w1 LL gq g4 g5 T hT e4 e5 e69 X5.ae (Below.trans HB.ae (eX.ae.mono HB.ae.size)) (QV.ae.later eX.ae) (uY.ae.later eX.ae) HL.ae.1 HL.ae.2.1 HL.ae.2.2 Q2 hd hs
 simp only[RP,JO,bK,eZ,Tryz.f28,Option.getD_some] at aru;refine aru _ ?_ ?_ ?_ ?_ _ ?_ ?_
 ·rfl
 ·rfl
 ·rfl
 ·rfl
 ·intro D W a1 a2 a3 a4;have nP:=Below.trans eX.ae (a1.mono eX.ae.size);exact HK.ae D W (Nat.le_trans HB.ae.size (Nat.le_trans eX.ae.size a2)) (by rw[<- zZ.ae,any_map];exact a4) (iz.ae W D nP (Nat.le_trans eX.ae.size a2) a3) _ rfl rfl rfl rfl rfl rfl
 ·intro D W a0 a1 a2 a3;exact HO.ae D _ W (Nat.le_trans HB.ae.size (Nat.le_trans eX.ae.size a0)) (by rw[<- zZ.ae,any_map];exact a1) ⟨rfl,rfl,rfl⟩ a2 a3):p:=h
theorem ze0.Kba(h:p:=by
 have key:∀(D:Nat) (w':rQ),w0.heap.size<=D->q.all.any (λ t=>decide (32 < t.depth))=false->cW c w0 gp g2 (fN q L) g4 g5 D r w' u v [] ⟨[],[]⟩ hd [] [] [] [] [] []->∀T:x_,T.size=252->T.getD 1 undef=.slice c.cA c.cols.length c.cc->T.getD 2 undef=aw g2->T.getD 4 undef=aw g4->T.getD 5 undef=aw g5->T.getD 6 undef=aw gp->(eZ bK 4).wp Tryz.prog Q { tmps:=T,defers:=dD D } w':=λ D w' hDD hx hp T hT h1 h2 h4 h5 h6=>
  have hR:rT c.aI c.aF c.cols q=wZ c.aI c.aF c.cols q:=if_neg (by rw[hx];decide)
  Xk c w0 gp g2 g4 g5 D q L r u v hd T hT h1 h2 h4 h5 h6 (dD D) w' Q (AL.full hx) hp (λ er a W he=>hE D er a W hDD (hR.trans he)) (λ a W r' u' v' pY s' vd yi yh yo ti th eM he ha hp=>hO D a W r' u' v' pY s' vd yi yh yo ti th eM hDD (hR.trans he) ha hp)
 have HO:=aa hw;have mr:=aa AL;have iz:=aa hP;simp only[bK,eZ,Tryz.f28,Option.getD_some] at key;have KEY:=aa key;have HB:=aa hb;have fY:=aa cN;have QV:=aa hb4;have uY:=aa IC;have HL:=aa (And.intro AJ (And.intro hl4 hl5));unfold fN at cN;open zdy in exact ZbE):p:=h
theorem aeE (c:PC)(w0:rQ)(gp g2 g4 g5:Nat)(q:Qy)(L:QL)(r:Rest)(u v:Value)(hd:List aV)(T:x_)(hT:T.size=252)
  (h1:T.getD 1 undef=.slice c.cA c.cols.length c.cc) (h2:T.getD 2 undef=aw g2) (h4:T.getD 4 undef=aw g4) (h5:T.getD 5 undef=aw g5) (h6:T.getD 6 undef=aw gp) (w:rQ) (Q:yD)
  (AL:DM c w0 q L hd)
  (hP:∀W D,aj w W->w.heap.size<=D->W.heap[D]?=some (.deferred (some []))->cW c w0 gp g2 (fN q L) g4 g5 D r W u v [] ⟨[],[]⟩ hd [] [] [] [] [] [])
  (hb:aj w0 w) (cN:aB w g2 27 (fN q L)) (hb4:aB w g4 72 #[.pointer none]) (IC:aB w g5 34 #[af 0]) (AJ:g4≠g5) (hl4:w0.heap.size<=g4) (hl5:w0.heap.size<=g5)
  (hw:∀D a W,w0.heap.size<=D->q.all.any (λ t=>decide (32 < t.depth))=true->qf a (dD D) g4 g5->akn w0 g4 g5 W->W.heap[D]?=some (.deferred (some []))->Q .ret a W)
  (hE:∀D er a W,w0.heap.size<=D->rT c.aI c.aF c.cols q=.error er->er≠0->qf a (dD D) g4 g5->wW w0 g4 g5 D W->Q .ret a (jt W g4 g5 er))
  (hO:∀D a W r' u' v' pY s' vd yi yh yo ti th eM,w0.heap.size<=D->rT c.aI c.aF c.cols q=.ok (ti,vd,th,eM,s')->qf a (dD D) g4 g5->cW c w0 gp g2 (fN q L) g4 g5 D r' W u' v' pY s' ((if q.items=[] then hd else [])++vd) yi yh yo ti th eM->Q .ret a (jF W g4 g5 gp)):
  (eZ bK 3).wp Tryz.prog Q { tmps:=T,defers:=[] } w:=by
 open ze0 in exact ZcQ
def jV (q:Qy):Prop:=1 < q.bF.length\/1 < q.fK.length\/1 < q.lim.length\/(q.lim.length=1/\q.lim.getD 0 0 < 0)
theorem zbI.Kam(h:p:=by
 simp only[bK,eZ,Tryz.f28,Option.getD_some] at hO ⊢;have HBE:=aa hO;clear hO;refine wp_seq_k λ K hK=>?_
 have Ed:=aa hK;clear hK;by_cases t1:1 < q.bF.length
 ·have t1':(1:Int)<((q.bF.length:Nat):Int):=by omega
  go_wp2_with fail;exact HE.ae _ (.inl t1) ⟨rfl,rfl,rfl⟩
 ·have t1':¬(1:Int)<((q.bF.length:Nat):Int):=by omega
  by_cases t2:1 < q.fK.length
  ·have t2':(1:Int)<((q.fK.length:Nat):Int):=by omega
   go_wp2_with fail;exact HE.ae _ (.inr (.inl t2)) ⟨rfl,rfl,rfl⟩
  ·have t2':¬(1:Int)<((q.fK.length:Nat):Int):=by omega
   cases pN:q.lim with
   | nil=>
     rw[pN] at c7;have HN:=aa (show¬jV q from λ h=>by
      unfold jV at h
      rw[pN] at h
      rcases h with h | h | h | h
      ·exact t1 h
      ·exact t2 h
      ·simp at h
      ·simp at h)
     clear pN P6 t1 t2;exact Zfw
   | cons l0 ls=>
     rw[pN] at c7
     cases hls:ls with
     | nil=>
       subst hls
       have hcell:∃b off,L.l.A=some ⟨b,off,none⟩/\w.cell? ⟨b,off,none⟩=some (af l0):=by
        rcases P6 with h |⟨b,off,h1,_,h3⟩
        ·rw[pN] at h;cases h
        ·exact⟨b,off,h1,h3 0 l0 (by rw[pN];rfl)⟩
       obtain⟨b,off,hA,hc⟩:=hcell;rw[hA] at c7;by_cases t4:l0 < 0
       ·have HB:=aa (show jV q from .inr (.inr (.inr ⟨by rw[pN];rfl,by rw[pN];exact t4⟩)));clear pN P6 hA t1 t2;go_wp2_with fail;exact HE.ae _ HB.ae ⟨rfl,rfl,rfl⟩
       ·have HN:=aa (show¬jV q from λ h=>by
         unfold jV at h
         rw[pN] at h
         rcases h with h | h | h | h
         ·exact t1 h
         ·exact t2 h
         ·simp at h
         ·exact t4 h.2)
        clear pN P6 hA t1 t2;exact Zfw
     | cons l1 ls2=>
       subst hls;have t3:(1:Int)<(((l0::l1::ls2).length:Nat):Int):=by simp only[length_cons];omega
       have HB:=aa (show jV q from .inr (.inr (.inl (by rw[pN];simp))));generalize (l0::l1::ls2).length=n3 at*;clear pN P6 t1 t2;go_wp2_with fail;exact HE.ae _ HB.ae ⟨rfl,rfl,rfl⟩):p:=h
theorem aeF (g1 g2 g4 g5 gp:Nat)(q:Qy)(L:QL)(T:x_)(hT:T.size=252)(h2:T.getD 2 undef=aw g2)(h4:T.getD 4 undef=aw g4)(h5:T.getD 5 undef=aw g5)(w:rQ)(Q:yD)
  (hw:L.w.n=q.bF.length) (hh:L.h.n=q.fK.length) (hl:L.l.n=q.lim.length) (P6:Vk w w.heap.size L.l.A q.lim) (hb2:aB w g2 27 (fN q L)) (b4:aB w g4 72 #[.pointer none]) (b5:aB w g5 34 #[af 0]) (uO:g4≠g5)
  (hE:∀a,jV q->qf a [] g4 g5->Q .ret a (jt w g4 g5 1))
  (hO:¬jV q->∀z39 z40 z41 z42 z43 z44 z45 z46 z47 z48 z49 z50 z51 z52 z53 z54 z55 z56 z57 z58 z59 z60 z61 z62 z63 z64 z65 z66 z67:Value,(eZ bK 3).wp Tryz.prog Q { tmps:=(((((((((((((((((((((((((((((T.setIfInBounds 39 z39).setIfInBounds 40 z40).setIfInBounds 41 z41).setIfInBounds 42 z42).setIfInBounds 43 z43).setIfInBounds 44 z44).setIfInBounds 45 z45).setIfInBounds 46 z46).setIfInBounds 47 z47).setIfInBounds 48 z48).setIfInBounds 49 z49).setIfInBounds 50 z50).setIfInBounds 51 z51).setIfInBounds 52 z52).setIfInBounds 53 z53).setIfInBounds 54 z54).setIfInBounds 55 z55).setIfInBounds 56 z56).setIfInBounds 57 z57).setIfInBounds 58 z58).setIfInBounds 59 z59).setIfInBounds 60 z60).setIfInBounds 61 z61).setIfInBounds 62 z62).setIfInBounds 63 z63).setIfInBounds 64 z64).setIfInBounds 65 z65).setIfInBounds 66 z66).setIfInBounds 67 z67),defers:=[] } w):
  (eZ bK 2).wp Tryz.prog Q { tmps:=T,defers:=[] } w:=by obtain⟨f,rfl⟩:=ld T hT;have h2:f 2=_:=h2;have h4:f 4=_:=h4;have h5:f 5=_:=h5;simp only[bT,Uac] at hO;simp only[bT,h2,h4,h5] at hO ⊢;clear h2 h4 h5;clear h2 h4 h5 hT;have HE:=aa hE;unfold fN at hb2;have c3:=hb2.cell 3;have Kx:=hb2.cell 5;have c7:=hb2.cell 7;simp only[Uaa] at c3 Kx c7;rw[hw] at c3;rw[hh] at Kx;rw[hl] at c7;clear hw hh hl hE hb2;open zbI in exact ZaB
variable{v:Value}{l:List α}
theorem Nv{size base:Nat}   (h:aH f e size w base v l)(hB:B<=base):aH f e size w B v l:=by
 refine⟨h.1,?_⟩;rcases h.2 with h |⟨g,cap,cur,h1,h2,h3⟩
 ·exact .inl h
 ·exact .inr ⟨g,cap,cur,h1,Nat.le_trans hB h2,h3⟩
def PlB (B:Nat)(q:Qy)(L:QL)(CA:z_)(cc:Nat)(cols:List aV)(w:rQ)(g:Nat):Prop:=∃hv:Value,aB w g 81 #[.slice L.i.A L.i.n L.i.c,.string q.bT,.bool q.only,.slice L.w.A L.w.n L.w.c,.slice L.g.A L.g.n L.g.c,.slice L.h.A L.h.n L.h.c,.slice L.o.A L.o.n L.o.c,.slice L.l.A L.l.n L.l.c,.slice CA cols.length cc,ay,ay,.bool q.aI,hv,ay,ay,ay]/\aH aR 113 2 w B hv cols/\hv.ownBlock≠some g/\B<=g
variable{CA:z_}{cc:Nat}{cols:List aV}
theorem PlB.later(h:PlB B q L CA cc cols w g)(hb:aj w w'):PlB B q L CA cc cols w' g:=by obtain⟨hv,h1,h2,h3⟩:=h;exact⟨hv,h1.later hb,h2.later hb,h3⟩
def akq (q:Qy)(L:QL)(CA:z_)(cc:Nat)(cols:List aV)(B:Nat):Nat->rQ->Value->Prop
 | 0,_,v=>v=.agg #[.slice L.i.A L.i.n L.i.c,.string q.bT,.bool q.only,.slice L.w.A L.w.n L.w.c,.slice L.g.A L.g.n L.g.c,.slice L.h.A L.h.n L.h.c,.slice L.o.A L.o.n L.o.c,.slice L.l.A L.l.n L.l.c]
 | 1,_,v=>v=.slice CA cols.length cc
 | 2,_,v=>v=.agg #[.slice L.i.A L.i.n L.i.c,.string q.bT,.bool q.only,.slice L.w.A L.w.n L.w.c,.slice L.g.A L.g.n L.g.c,.slice L.h.A L.h.n L.h.c,.slice L.o.A L.o.n L.o.c,.slice L.l.A L.l.n L.l.c]
 | 3,_,v=>v=.bool q.aI
 | 4,_,v=>v=.slice CA cols.length cc
 | 5,w,v=>∃hv:Value,v=hv/\aH aR 113 2 w B hv cols
 | 6,w,v=>∃hv:Value,v=.agg #[.slice L.i.A L.i.n L.i.c,.string q.bT,.bool q.only,.slice L.w.A L.w.n L.w.c,.slice L.g.A L.g.n L.g.c,.slice L.h.A L.h.n L.h.c,.slice L.o.A L.o.n L.o.c,.slice L.l.A L.l.n L.l.c,.slice CA cols.length cc,ay,ay,.bool q.aI,hv,ay,ay,ay]/\aH aR 113 2 w B hv cols
 | 7,w,v=>∃g:Nat,v=aw g/\PlB B q L CA cc cols w g
 | _,_,_=>False
theorem RQ (q:Qy)(L:QL)(CA:z_)(cc:Nat)(cols:List aV)(B:Nat):∀i w w' v,akq q L CA cc cols B i w v->ai w w'->akq q L CA cc cols B i w' v:=by
 intro i w w' v h hl
 match i with
 | 0 | 1 | 2 | 3 | 4=>exact h
 | 5=>exact ZfV
 | 6=>exact ZfV
 | 7=>exact ZfV
 | n+8=>exact h
theorem zdz.KaJ(h:p:=by exact Zdk):p:=h
theorem zdA.KaJ(h:p:=by exact Zdk):p:=h
theorem aeH (q:Qy)(L:QL)(CA:z_)(cc:Nat)(cols:List aV)(g2:Nat)(T:x_)(hT:T.size=252)(h1:T.getD 1 undef=.slice CA cols.length cc)(h2:T.getD 2 undef=aw g2)(w:rQ)(Q:yD)
  (Ko:oX w q L) (aZ:q.Ok) (hrc:RC w w.heap.size CA cols) (cL:cols.length<=1000) (hb2:aB w g2 27 (fN q L))
  (Kx:∀gp W z31 z32 z33 z34 z35 z36 z37 z38,PlB w.heap.size q L CA cc cols W gp->aj w W->(eZ bK 2).wp Tryz.prog Q { tmps:=(((((((((T.setIfInBounds 31 z31).setIfInBounds 32 z32).setIfInBounds 33 z33).setIfInBounds 34 z34).setIfInBounds 35 z35).setIfInBounds 36 z36).setIfInBounds 37 z37).setIfInBounds 38 z38).setIfInBounds 6 (aw gp)),defers:=[] } W):
  (eZ bK 1).wp Tryz.prog Q { tmps:=T,defers:=[] } w:=by
 obtain⟨f,rfl⟩:=ld T hT;have h1:f 1=_:=h1;have h2:f 2=_:=h2;simp only[bT,Uac] at Kx;simp only[bT,h1,h2] at Kx ⊢;clear h1 h2;clear h1 h2 hT;have HQY:=aa Ko;have je:=aa aZ;have HRC:=aa hrc;have Wx:=aa cL;have Ej:=aa hb2;unfold fN at Ej;simp only[bK,eZ,Tryz.f28,Option.getD_some] at Kx ⊢;have HO:=aa Kx;clear Kx Ko aZ hrc cL hb2;obtain⟨B,hO⟩:∃B,B=w.heap.size:=⟨_,rfl⟩;have HBE:=aa hO;clear hO;refine wp_seq_k λ K hK=>?_
 have Ed:=aa hK;clear hK;refine bz 8 (akq q L CA cc cols B) (RQ _ _ _ _ _ _) WC WC WC ?_ ?_
 ·simp only[take_succ_cons,take_zero];refine⟨?_,Zaa,?_,?_,Zaa,?_,?_,?_,trivial⟩
  ·intro ρ w3 hc hL hr;have h0:_=_:=hr.1;have cN:=Ej.ae.later hL;open zdz in exact ZbE
  ·intro ρ w3 hc hL hr;have h0:_=_:=hr.1;have cN:=Ej.ae.later hL;open zdA in exact ZbE
  ·intro ρ w3 hc hL hr;have h0:_=_:=hr.1;have e1:=hc.func 54;refine bp (f:=54) (args:= #[oC q L]) (w':=w3) (by unfold oC;simp[go_sem,e1,h0];done) ?_;refine(Lp q L w3 (HQY.ae.later hL) je.ae).mono ?_;exact Zbd
  ·intro ρ w3 hc hL hr;have h0:_=_:=hr.1;have e1:=hc.func 55;refine bp (f:=55) (args:= #[.slice CA cols.length cc]) (w':=w3) Tay ?_;refine(Jg CA cc cols w3 (HRC.ae.later hL) Wx.ae).mono ?_;rintro e4 w4 ⟨v4,rfl,ho4,b4⟩;exact⟨_,rfl,b4,_,rfl,Nv ho4 (HBE.ae▸hL.size)⟩
  ·intro ρ w3 hc hL hr;have h0:_=_:=hr.1;have h1:_=_:=hr.2.1;have h2:_=_:=hr.2.2.1;obtain⟨hv3,h3,arw⟩:∃hv:Value,ρ (.tmp 36)=hv/\aH aR 113 2 w3 B hv cols:=hr.2.2.2.1;obtain⟨HA,hc9,hh,_⟩:=arw.reads;subst hh;exact aq (v:=.agg #[.slice L.i.A L.i.n L.i.c,.string q.bT,.bool q.only,.slice L.w.A L.w.n L.w.c,.slice L.g.A L.g.n L.g.c,.slice L.h.A L.h.n L.h.c,.slice L.o.A L.o.n L.o.c,.slice L.l.A L.l.n L.l.c,.slice CA cols.length cc,ay,ay,.bool q.aI,(Value.slice HA cols.length hc9),ay,ay,ay]) (w':=w3) (by simp[go_sem,h0,h1,h2,h3];done) ⟨ai.refl _,_,rfl,arw⟩
  ·intro ρ w3 hc hL hr;obtain⟨hv0,h0,gG⟩:∃hv:Value,ρ (.tmp 37)=.agg #[.slice L.i.A L.i.n L.i.c,.string q.bT,.bool q.only,.slice L.w.A L.w.n L.w.c,.slice L.g.A L.g.n L.g.c,.slice L.h.A L.h.n L.h.c,.slice L.o.A L.o.n L.o.c,.slice L.l.A L.l.n L.l.c,.slice CA cols.length cc,ay,ay,.bool q.aI,hv,ay,ay,ay]/\aH aR 113 2 w3 B hv cols:=hr.1;refine aq (v:=aw w3.heap.size) (w':=w3.alloc (.cells #[.slice L.i.A L.i.n L.i.c,.string q.bT,.bool q.only,.slice L.w.A L.w.n L.w.c,.slice L.g.A L.g.n L.g.c,.slice L.h.A L.h.n L.h.c,.slice L.o.A L.o.n L.o.c,.slice L.l.A L.l.n L.l.c,.slice CA cols.length cc,ay,ay,.bool q.aI,hv0,ay,ay,ay] 81)) Tam ⟨ah w3 _,_,rfl,?_⟩;exact⟨hv0,aB.new w3 _ _,gG.later (ah w3 _),λ e=>(by have:=(gG.lt e).1;omega),HBE.ae▸hL.size⟩
 intro W3 hL;simp only[Uab];rintro a0 - a1 - a2 - a3 - a4 - a5 - a6 - a7 ⟨g_7,rfl,Wo⟩;simp only[bA,Act.put,Uac];have axu:=aa hL;have qj:=aa Wo;clear Wo hL;go_wp2_with fail;have hp:=qj.ae;rw[HBE.ae] at hp;exact Ed.ae _ _ (HO.ae _ _ _ _ _ _ _ _ _ _ hp axu.ae)
theorem X6 (q:Qy)(L:QL)(T:x_)(hT:T.size=252)(h0:T.getD 0 undef=oC q L)(w:rQ)(Q:yD)
  (hO:∀W g2 g4 g5 z2 z4 z5,z2=aw g2->z4=aw g4->z5=aw g5->aB W g2 27 (fN q L)->aB W g4 72 #[.pointer none]->aB W g5 34 #[af 0]->aj w W->w.heap.size<=g2/\g2 < g4/\g4 < g5->(eZ bK 1).wp Tryz.prog Q { tmps:=((T.setIfInBounds 2 z2).setIfInBounds 4 z4).setIfInBounds 5 z5,defers:=[] } W):
  bK.wp Tryz.prog Q { tmps:=T,defers:=[] } w:=by
 obtain⟨f,rfl⟩:=ld T hT;have h0:f 0=_:=h0;have bb:=ah w (.cells (fN q L) 27);have HX:=aB.new w 27 (fN q L);obtain⟨W1,hW1⟩:∃W1,W1=w.alloc (.cells (fN q L) 27):=⟨_,rfl⟩;have s1:W1.heap.size=w.heap.size+1:=by rw[hW1,World.size_alloc]
 rw[<- hW1] at bb HX;have hL:=ah W1 (.cells #[.pointer none] 72);have k4:=aB.new W1 72 #[.pointer none];obtain⟨W2,hW2⟩:∃W2,W2=W1.alloc (.cells #[.pointer none] 72):=⟨_,rfl⟩;have s2:W2.heap.size=W1.heap.size+1:=by rw[hW2,World.size_alloc]
 rw[<- hW2] at hL k4;have b3:=ah W2 (.cells #[af 0] 34);have k5:=aB.new W2 34 #[af 0];have dU:=hO _ w.heap.size W1.heap.size W2.heap.size _ _ _ rfl rfl rfl ((HX.later hL).later b3) (k4.later b3) k5 (Below.trans (Below.trans bb (hL.mono TD)) (b3.mono TD)) ⟨Nat.le_refl _,by omega,by omega⟩;simp only[bT,Uac] at dU;simp only[bT,h0] at dU ⊢;subst hW2;subst hW1;clear h0 hO s1 s2 bb hL b3 HX k4 k5;clear h0 hT;simp only[World.size_alloc] at dU;unfold fN oC at*;simp only[bK,eZ,Tryz.f28,Option.getD_some] at dU ⊢;refine wp_seq_k λ K hK=>?_
 have HK:=aa hK;have LY:=aa dU;clear hK dU;go_wp2_with fail;exact HK.ae _ _ LY.ae
def Av (q:Qy)(L:QL)(CA:z_)(cc:Nat)(cols:List aV):PC:=⟨.slice L.i.A L.i.n L.i.c,.string q.bT,.bool q.only,.slice L.w.A L.w.n L.w.c,.slice L.h.A L.h.n L.h.c,.slice L.o.A L.o.n L.o.c,.slice L.l.A L.l.n L.l.c,L.g.A,L.g.n,L.g.c,CA,cc,q.aI,q.aF,cols⟩
def lf:Value:=ay
variable{g2 g4 g5 D:Nat}{hv:Value}
theorem X7(hb:aj w0 w)(hB0:w0.heap.size<=B)(hblk:aB w gp 81 ((Av q L CA cc cols).cells ⟨hv,lf,lf,lf⟩ lf lf))(ho:aH aR 113 2 w B hv cols)(hg:hv.ownBlock≠some gp)(hBg:B<=gp)
  (k2:aB w g2 27 (fN q L)) (k4:aB w g4 72 #[.pointer none]) (k5:aB w g5 34 #[af 0]) (l2:g2 < B) (l4:g4 < B) (l5:g5 < B) (m4:w0.heap.size<=g4) (m5:w0.heap.size<=g5) (AJ:g4≠g5)
  (hW:aj w W) (hD:w.heap.size<=D) (hd:W.heap[D]?=some (.deferred (some []))):
  cW (Av q L CA cc cols) w0 gp g2 (fN q L) g4 g5 D ⟨hv,lf,lf,lf⟩ W lf lf [] ⟨[],[]⟩ cols [] [] [] [] [] []:=by
 have Ai:=hblk.lt;have hs:=hW.size
 have hDl:D < W.heap.size:=by
  rcases Nat.lt_or_ge D W.heap.size with h | h
  ·exact h
  ·rw[Array.getElem?_eq_none h] at hd;cases hd
 have hown:∀i < 6,∀b,(PR lf lf ⟨hv,lf,lf,lf⟩ i).ownBlock=some b->i=2/\B<=b/\b < w.heap.size/\b≠gp:=λ i hi b hb=>by
  match i with
  | 0 | 1 | 3 | 4=>cases hb
  | 2=>have hb:hv.ownBlock=some b:=hb;exact⟨rfl,(ho.lt hb).2.1,(ho.lt hb).1,λ e=>hg (by rw[hb,e])⟩
  | n+5=>cases hb
 have kp:∀b,b < W.heap.size->b≠gp->(b < B\/w.heap.size<=b)->sT W gp (PR lf lf ⟨hv,lf,lf,lf⟩) b:=λ b h1 h2 h3=>⟨h1,h2,λ i hi e=>by
  obtain⟨_,h4,h5,_⟩:=hown i hi b e
  omega⟩
 have n2:=k2.lt;have n4:=k4.lt;have n5:=k5.lt;refine⟨⟨by omega,by omega,Below.trans hb (hW.mono hb.size),λ i hi b e=>?_,λ i hi j hj nA b e1 e2=>nA ((hown i hi b e1).1.trans (hown j hj b e2).1.symm),kp g2 TD TD (.inl l2),kp g4 TD TD (.inl l4),kp g5 TD TD (.inl l5),kp D hDl TD (.inr hD),⟨m4,m5,AJ,by omega,by omega⟩,hd,k2.later hW,k4.later hW,k5.later hW⟩,hblk.later hW,oy,oy,Nv (ho.later hW) hB0,oy,oy,oy,?_,?_,?_,?_⟩
 ·obtain⟨_,h4,h5,h6⟩:=hown i hi b e;exact⟨by omega,by omega,h6⟩
 all_goals (unfold Tr.aM;rfl)
def X8 (c:PC)(w0:rQ)(q:Qy)(L:QL)(e:Ending)(W:rQ):Prop:=
 (∃er,(jV q/\er=1\/¬jV q/\rT c.aI c.aF c.cols q=.error er)/\er≠0/\e=.returned (.tuple #[.pointer none,af er])/\aj w0 W)\/
 (∃gp g2 g4 g5 D r W1 u v ya s hd yi yh yo ti th eM,¬jV q/\rT c.aI c.aF c.cols q=.ok (ti,hd,th,eM,s)/\e=.returned (.tuple #[aw gp,af 0])/\w0.heap.size<=D/\cW c w0 gp g2 (fN q L) g4 g5 D r W1 u v ya s ((if q.items=[] then c.cols else [])++hd) yi yh yo ti th eM/\W=(jF W1 g4 g5 gp).putObj D (.deferred none))
variable{T:x_}{a:Value}
theorem AY{b:Value} (h4:T.getD 4 undef=aw g4)(h5:T.getD 5 undef=aw g5)(c4:W.cell? ⟨g4,0,none⟩=some a)(c5:W.cell? ⟨g5,0,none⟩=some b):(results Tryz.f28 T).run Tryz.prog W=.ok (.tuple #[a,b]) W:=by
 have e4:T[4]?.getD undef=aw g4:=by rw[<- h4];simp[Array.getD_eq_getD_getElem?]
 have e5:T[5]?.getD undef=aw g5:=by rw[<- h5];simp[Array.getD_eq_getD_getElem?]
 simp[results,Tryz.f28,go_sem,e4,e5,c4,c5]
theorem aeI:Tryz.f28.body=some bK:=by unfold bK;simp only[Tryz.f28,Option.getD_some]
theorem aeJ (a b:Value):(#[a,b]++Array.replicate (Tryz.f28.ntmps - (#[a,b]:x_).size) undef).size=252:=by simp[Tryz.f28]
variable{er:Int}
theorem Hd(b4:aB W g4 72 #[.pointer none])(b5:aB W g5 34 #[af 0])(h:g4≠g5):(jt W g4 g5 er).cell? ⟨g4,0,none⟩=some (.pointer none)/\(jt W g4 g5 er).cell? ⟨g5,0,none⟩=some (af er):=
 ⟨(((b4.aT 0 (.pointer none)).far (p:=⟨g5,0,none⟩) h (af er)).cell 0),((b5.far (p:=⟨g4,0,none⟩) (Ne.symm h) (.pointer none)).aT 0 (af er)).cell 0⟩
theorem X9(b4:aB W g4 72 #[.pointer none])(b5:aB W g5 34 #[af 0])(h:g4≠g5):(jF W g4 g5 gp).cell? ⟨g4,0,none⟩=some (aw gp)/\(jF W g4 g5 gp).cell? ⟨g5,0,none⟩=some (af 0):=
 ⟨(((b4.aT 0 (aw gp)).far (p:=⟨g5,0,none⟩) h (af 0)).cell 0),((b5.far (p:=⟨g4,0,none⟩) (Ne.symm h) (aw gp)).aT 0 (af 0)).cell 0⟩
variable{ob ob':Obj}
theorem lM(h:W.heap[D]?=some ob)(hc:ob.isCells=false) {p:Addr} (hv:W.cell? p=some v):(W.putObj D ob').cell? p=some v:=(Fr.putObj W D ob ob' h hc).cell p v hv
theorem uP(h:Below B w W)(hD:B<=D):Below B w (W.putObj D ob'):=
 ⟨h.os,h.tape,h.output,by simpa using h.size,λ k hk=>(World.putObj_heap_other TD).trans (h.block k hk)⟩
theorem zgP.KbT(h:p:=by refine⟨by simp,.inl ⟨_,_,rfl,run_takeDeferred hK,?_⟩⟩;exact⟨_,AY r4 r5 (lM hK rfl c4) (lM hK rfl c5),.inr ⟨gp,g2,g4,g5,D,r',W,u',v',pY,s',vd,yi,yh,yo,ti,th,eM,Oa,he,rfl,hDl,hp,rfl⟩⟩):p:=h
theorem zh2.Kco(h:p:=by
 clear Kq;have HRC:=hq.ok.cols;refine X6 q L T hT t0 w0 _ ?_;intro Wa g2 g4 g5 x2 x4 x5 e2 e4 e5 k2 k4 k5 hba hg;have HBa:aj w0 Wa:=hba;have t0':T[0]?.getD undef=oC q L:=by rw[<- t0];simp[Array.getD_eq_getD_getElem?]
 have t1':T[1]?.getD undef=.slice CA cols.length cc:=by rw[<- t1];simp[Array.getD_eq_getD_getElem?]
 have ary:T[1]'(by rw[hT];decide)=.slice CA cols.length cc:=by have h:=t1';rw[Array.getElem?_eq_getElem (by rw[hT];decide)] at h;exact h
 refine aeH q L CA cc cols g2 _ TaD ?_ ?_ Wa _ (Ko.later hba) aZ (HRC.later hba) cL k2 ?_
 ·exact Zgz
 ·exact ZeS
 intro gp Wb z31 z32 z33 z34 z35 z36 z37 z38 hpl kM;obtain⟨hv,p1,p2,p3,p4⟩:=hpl;have q2:=k2.later kM;have q4:=k4.later kM;have q5:=k5.later kM;have hB:=Below.trans hba (kM.mono hba.size);refine aeF g2 g2 g4 g5 gp q L _ TaD ZeS ZgU ZgV Wb _ Ko.w.n Ko.h.n Ko.l.1 ((Ko.later hB).l.2) q2 q4 q5 TD ?_ ?_
 ·rintro⟨ta,da⟩ kq ⟨rfl,r4,r5⟩;obtain⟨c4,c5⟩:=Hd (er:=1) q4 q5 TD;refine⟨_,AY r4 r5 c4 c5,.inl ⟨1,.inl ⟨kq,rfl⟩,by decide,rfl,(hB.setCell (p:=⟨g4,0,none⟩) (show w0.heap.size<=g4 by omega) _).setCell (p:=⟨g5,0,none⟩) (show w0.heap.size<=g5 by omega) _⟩⟩
 ·intro Oa y39 y40 y41 y42 y43 y44 y45 y46 y47 y48 y49 y50 y51 y52 y53 y54 y55 y56 y57 y58 y59 y60 y61 y62 y63 y64 y65 y66 y67;refine aeE (Av q L CA cc cols) w0 gp g2 g4 g5 q L ⟨hv,lf,lf,lf⟩ lf lf cols _ TaD ?_ ?_ ?_ ?_ ?_ Wb _ hq ?_ hB q2 q4 q5 TD TD TD ?_ ?_ ?_
  ·exact Zgz
  ·exact ZeS
  ·exact ZgU
  ·exact ZgV
  ·simp[Array.getD_eq_getD_getElem?,Array.getElem?_setIfInBounds,hT]
  ·intro W D hW hD hd;exact X7 hB hba.size p1 p2 p3 p4 q2 q4 q5 k2.lt k4.lt k5.lt TD TD TD hW hD hd
  ·rintro D ⟨ta,da⟩ W hDl arz ⟨rfl,r4,r5⟩ ⟨d1,d2,d3⟩ hK;refine⟨by simp,.inl ⟨_,_,rfl,run_takeDeferred hK,?_⟩⟩;refine⟨_,AY r4 r5 (lM hK rfl (d2.cell 0)) (lM hK rfl (d3.cell 0)),.inl ⟨1,.inr ⟨Oa,if_pos arz⟩,by decide,rfl,uP d1 hDl⟩⟩
  ·rintro D er ⟨ta,da⟩ W hDl he hne ⟨rfl,r4,r5⟩ ⟨w1,w2,w3,w4,w5,w6,w7,w8,w9⟩;obtain⟨c4,c5⟩:=Hd (er:=er) w7 w8 w4;have hK:(jt W g4 g5 er).heap[D]?=some (.deferred (some [])):=by unfold jt;rw[Below.heap_setCell _ ⟨g5,0,none⟩ _ D (Ne.symm w6),Below.heap_setCell _ ⟨g4,0,none⟩ _ D (Ne.symm w5)];exact w9
   refine⟨by simp,.inl ⟨_,_,rfl,run_takeDeferred hK,?_⟩⟩;refine⟨_,AY r4 r5 (lM hK rfl c4) (lM hK rfl c5),.inl ⟨er,.inr ⟨Oa,he⟩,hne,rfl,uP ((w1.setCell (p:=⟨g4,0,none⟩) w2 _).setCell (p:=⟨g5,0,none⟩) w3 _) hDl⟩⟩
  ·rintro D ⟨ta,da⟩ W r' u' v' pY s' vd yi yh yo ti th eM hDl he ⟨rfl,r4,r5⟩ hp;have hf:=hp.f;obtain⟨c4,c5⟩:=X9 (gp:=gp) hf.z4 hf.z5 hf.new.2.2.1;open zgP in exact ZeX):p:=h
theorem Nw (q:Qy)(L:QL)(CA:z_)(cc:Nat)(cols:List aV)(w0:rQ)(Ko:oX w0 q L)(aZ:q.Ok)(cL:cols.length<=1000)(hq:DM (Av q L CA cc cols) w0 q L cols):
  ar 28 #[oC q L,.slice CA cols.length cc] w0 (X8 (Av q L CA cc cols) w0 q L):=by
 refine(callsIn_wide (n:=4)).1 ?_;refine callsIn_of_wp_marks (c:=bK) Tryz.func28 aeI trivial ?_ rfl;refine wpIn_wide.2 ?_;obtain⟨T,Kq⟩:∃T:x_,T= #[oC q L,.slice CA cols.length cc]++Array.replicate (Tryz.f28.ntmps - (#[oC q L,.slice CA cols.length cc]:x_).size) undef:=⟨_,rfl⟩;rw[<- Kq];have hT:T.size=252:=by rw[Kq];exact aeJ _ _
 open zh2 in exact Zho
theorem Y0(cols:List aV)(h:jV q):dV q cols=.error 1:=by unfold dV;exact if_pos h
theorem He(cols:List aV)(h:¬jV q):dV q cols=match rT q.aI q.aF cols q with
  | .error e=> .error e
  | .ok (is,hd,hs,os,s)=> .ok ⟨q.aI,if q.items=[] then cols else hd,s,is,hs,os⟩:=by
 unfold dV rT;rw[if_neg (show¬(1 < q.bF.length\/1 < q.fK.length\/1 < q.lim.length\/(q.lim.length=1/\q.lim.getD 0 0 < 0))from h)];by_cases hd:(q.all.any λ t=>decide (32 < t.depth))=true
 ·rw[if_pos hd,if_pos hd]
 ·rw[if_neg hd,if_neg hd];unfold wZ
  cases pd cols q.bF with
  | error e=>rfl
  | ok u=>
    dsimp only;unfold wY
    cases gM cols q.aF 0 with
    | error e=>rfl
    | ok gc=>
      dsimp only;unfold zH;by_cases hi:q.items=[]/\q.aI=true
      ·rw[if_pos hi,if_pos hi]
      ·rw[if_neg hi,if_neg hi];unfold wX
       cases cC q.aI q.aF cols q.items ⟨[],gc⟩with
       | error e=>rfl
       | ok p=>
         obtain⟨is,hd,s1⟩:=p;dsimp only;unfold Hc
         cases dm q.aI q.aF cols q.fK s1 with
         | error e=>rfl
         | ok p=>
           obtain⟨hs,s2⟩:=p;dsimp only
           cases dX q.aI q.aF cols q.ord s2 with
           | error e=>rfl
           | ok p=>rfl
variable{aF is hs:uF}{s:dp}
theorem Xm{g:Bool}     {os:uF} (hi:q.items=[])(h:rT g aF cols q=.ok (is,hd,hs,os,s)):hd=[]:=by
 unfold rT at h;split at h
 ·cases h
 ·unfold wZ at h;split at h
  ·cases h
  ·unfold wY at h;split at h
   ·cases h
   ·unfold zH at h;split at h
    ·cases h
    ·unfold wX at h;rw[hi] at h;unfold cC at h;dsimp only at h;split at h
     ·cases h
     ·injection h with h;injection h with _ h;injection h with h _;exact h.symm
mutual
theorem Tr.at_.ex {w w':rQ} {S S':Nat->Prop}(hE:∀b off x,cg w b off x->cg w' b off x)(hS:∀b,S b->S' b):∀(t:Tr) (y:Ex),t.at_ w S y->t.at_ w' S' y
 | .mk op v name width args,y,h=>by
   unfold Tr.at_ at h ⊢;obtain⟨h1,h2,h3,h4,h5,ys,h6,h7⟩:=h;refine⟨h1,h2,h3,h4,h5,ys,?_,Tr.aM.ex hE hS args ys h7⟩;rcases h6 with h6 |⟨b,off,k1,k2,k3⟩
   ·exact .inl h6
   ·exact .inr ⟨b,off,k1,hS b k2,λ i x hx=>hE _ _ _ (k3 i x hx)⟩
theorem Tr.aM.ex {w w':rQ} {S S':Nat->Prop}(hE:∀b off x,cg w b off x->cg w' b off x)(hS:∀b,S b->S' b):∀(ts:uF) (ys:u_),Tr.aM w S ts ys->Tr.aM w' S' ts ys
 | [],ys,h=>by unfold Tr.aM at h ⊢;exact h
 | t::ts,ys,h=>by unfold Tr.aM at h ⊢;obtain⟨y,ys',h1,h2,h3⟩:=h;exact⟨y,ys',h1,Tr.at_.ex hE hS t y h2,Tr.aM.ex hE hS ts ys' h3⟩
end
variable{off:Nat}
theorem Y2(hb:aB w g t #[a])(h:cg w g off x):False:=by unfold cg at h;have h1:=h.2.1;rw[hb.cell] at h1;simp at h1
theorem Y3(hb:aB w g t #[a])(b off:Nat)(x:Ex)(h:cg w b off x):cg (w.setCell ⟨g,0,none⟩ v) b off x:=by
 have hne:b≠g:=λ e=>by subst e;exact Y2 hb h
 exact h.keep λ o=>bI (Below.heap_setCell w ⟨g,0,none⟩ v b hne) o
theorem Xn(b4:aB W g4 72 #[.pointer none])(b5:aB W g5 34 #[af 0])(h:g4≠g5)(hD:(jF W g4 g5 gp).heap[D]?=some (.deferred (some [])))(b off:Nat)(x:Ex)(hx:cg W b off x):cg ((jF W g4 g5 gp).putObj D (.deferred none)) b off x:=
 (Y3 (b5.far (p:=⟨g4,0,none⟩) (Ne.symm h) (aw gp)) b off x (Y3 b4 b off x hx)).fr (Fr.putObj _ D _ _ hD rfl)
structure agU (c:PC) (w0 W:rQ) (gp:Nat) (r:Rest) (u v:Value) (ya yi yh yo:u_) (p:ix):Prop where
 base:aj w0 W
 low:w0.heap.size<=gp
 blk:aB W gp 81 (c.cells r u v)
 o0:aH bD 46 7 W w0.heap.size u ya
 o1:aH aR 113 2 W w0.heap.size v p.st.aF
 o2:aH aR 113 2 W w0.heap.size r.h p.head
 o3:aH bD 46 7 W w0.heap.size r.i yi
 o4:aH bD 46 7 W w0.heap.size r.j yh
 o5:aH bD 46 7 W w0.heap.size r.o yo
 aD:Tr.aM w0 (Old w0) p.st.aD ya
 t3:Tr.aM W (Old W) p.items yi
 t4:Tr.aM W (Old W) p.having yh
 t5:Tr.aM W (Old W) p.order yo
def JP (q:Qy)(L:QL)(CA:z_)(cc:Nat)(cols:List aV)(w0:rQ)(e:Ending)(W:rQ):Prop:=
 match dV q cols with
 | .error er=>er≠0/\e=.returned (.tuple #[.pointer none,af er])/\aj w0 W
 | .ok p=>∃gp r u v ya yi yh yo,e=.returned (.tuple #[aw gp,af 0])/\agU (Av q L CA cc cols) w0 W gp r u v ya yi yh yo p
theorem zgQ.KbT(h:p:=by
 have hs:Kx.heap.size=W.heap.size:=by rw[hW];simp[jF]
 have agV:∀b,b≠g4->b≠g5->b≠D->Kx.heap[b]?=W.heap[b]?:=λ b a1 a2 a3=>by rw[hW,World.putObj_heap_other a3];unfold jF;rw[Below.heap_setCell _ ⟨g5,0,none⟩ _ b a2,Below.heap_setCell _ ⟨g4,0,none⟩ _ b a1]
 have hex:=λ b off x=>hW▸Xn (gp:=gp) hf.z4 hf.z5 hf.new.2.2.1 hK b off x
 have hS:∀b,sT W gp (PR u v r) b->Old Kx b:=λ b hb=>by show b < Kx.heap.size;rw[hs];exact hb.1
 have hrow:∀ {α:Type} {f:α->wL} {t:TypeId} {size:Nat} {l:List α} (i:Nat),i < 6->aH f t size W w0.heap.size (PR u v r i) l->aH f t size Kx w0.heap.size (PR u v r i) l:=λ i hi ho=>ho.keep λ g hg=>agV g (λ e=>hf.k4.2.2 i hi (e▸hg)) (λ e=>hf.k5.2.2 i hi (e▸hg)) (λ e=>hf.kD.2.2 i hi (e▸hg))
 refine⟨gp,r,u,v,ya,yi,yh,yo,he,⟨?_,hf.low,(agV gp (Ne.symm hf.k4.2.1) (Ne.symm hf.k5.2.1) (Ne.symm hf.kD.2.1)).trans hp.blk,hrow 0 TD hp.o0,hrow 1 TD hp.o1,hrow 2 TD (SV▸hp.o2),hrow 3 TD hp.o3,hrow 4 TD hp.o4,hrow 5 TD hp.o5,hp.aD,Tr.aM.ex hex hS _ _ hp.t3,Tr.aM.ex hex hS _ _ hp.t4,Tr.aM.ex hex hS _ _ hp.t5⟩⟩;rw[hW];exact uP ((hf.base.setCell (p:=⟨g4,0,none⟩) hf.new.1 _).setCell (p:=⟨g5,0,none⟩) hf.new.2.1 _) hDl):p:=h
theorem RS (q:Qy)(L:QL)(CA:z_)(cc:Nat)(cols:List aV)(w0:rQ)(Ko:oX w0 q L)(aZ:q.Ok)(cL:cols.length<=1000)(hq:DM (Av q L CA cc cols) w0 q L cols):
  ar 28 #[oC q L,.slice CA cols.length cc] w0 (JP q L CA cc cols w0):=by
 refine(Nw q L CA cc cols w0 Ko aZ cL hq).mono ?_;rintro e Kx (⟨er,h1,h2,h3,h4⟩|⟨gp,g2,g4,g5,D,r,W,u,v,ya,s,hd,yi,yh,yo,ti,th,eM,hn,hr,he,hDl,hp,hW⟩)
 ·have hx:dV q cols=.error er:=by
   rcases h1 with ⟨hb,rfl⟩|⟨hb,hr⟩
   ·exact Y0 cols hb
   ·have hr:rT q.aI q.aF cols q=.error er:=hr;rw[He cols hb,hr]
  unfold JP;rw[hx];exact⟨h2,h3,h4⟩
 ·have hr:rT q.aI q.aF cols q=.ok (ti,hd,th,eM,s):=hr;have hx:dV q cols=.ok ⟨q.aI,if q.items=[] then cols else hd,s,ti,th,eM⟩:=by rw[He cols hn,hr]
  have SV:((if q.items=[] then cols else [])++hd)=(if q.items=[] then cols else hd):=by
   by_cases hi:q.items=[]
   ·rw[if_pos hi,if_pos hi,Xm hi hr,append_nil]
   ·rw[if_neg hi,if_neg hi,nil_append]
  unfold JP;rw[hx];have hf:=hp.f;open zgQ in exact ZeX
theorem DM.later(h:DM (Av q L CA cc cols) w q L hd)(hb:aj w w'):DM (Av q L CA cc cols) w' q L hd:=
 ⟨⟨h.ok.env.later hb,h.ok.aF.later hb,h.ok.gok,h.ok.gl,h.ok.cols.later hb,h.ok.cl⟩,h.qw,h.iw.later hb,h.nw,h.qg,h.ig.later hb,h.ng,h.qi,h.ii.later hb,h.ni,h.nh,h.qh,h.ih.later hb,h.nhv,h.qo,h.io.later hb,h.no,h.len⟩
def akr (gb:Nat)(le:Int):Nat->rQ->Value->Prop
 | 0,_,v=>v=aw gb
 | 1,_,v=>v=af le
 | 2,_,v=>v=ay
 | 3,_,v=>v=af le
 | _,_,_=>False
theorem RT (gb:Nat)(le:Int):∀i w w' v,akr gb le i w v->ai w w'->akr gb le i w' v:=by
 intro i w w' v h hl
 match i with
 | 0 | 1 | 2 | 3=>exact h
 | n+4=>exact h
theorem aeL (gb:Nat)(e0:Int)(lv:Value)(T:x_)(hT:T.size=164)(h9:T.getD 9 undef=aw gb)(h10:T.getD 10 undef=lv)(d:List Deferred)(w:rQ)(Q:yD)(cN:aB w gb 84 #[af e0])
  (hE:e0≠0->∀a W,a.defers=d->a.tmps.getD 4 undef=ay->a.tmps.getD 5 undef=af e0->aj w W->Q .ret a W)
  (hO:e0=0->∀T':x_,T'.size=164->T'.getD 9 undef=aw gb->T'.getD 10 undef=lv->(eZ iA 8).wp Tryz.prog Q { tmps:=T',defers:=d } w):
  (eZ iA 7).wp Tryz.prog Q { tmps:=T,defers:=d } w:=by
 obtain⟨f,rfl⟩:=Jy T hT;have h9:f 9=_:=h9;have h10:f 10=_:=h10;simp only[frg,h9,h10];clear h9 h10;clear h9 h10 hT;have hh:=λ h0 (T':x_) a0 a1 a2=>hO h0 T' a0 a1 a2
 simp only[iA,eZ,Tryz.f33,Option.getD_some] at hh;have HH:=aa hh;have HE:=aa hE;have HK:=aa cN;have cb:=cN.cell 0;simp only[getElem?_toArray,getElem?_cons_zero] at cb;clear hh hO hE cN;simp only[iA,eZ,Tryz.f33,Option.getD_some];refine wp_seq_k λ K hK=>?_
 have Ed:=aa hK;clear hK;by_cases h:e0=0
 ·have t1:(e0 != 0)=false:=by simp[h]
  have H:=aa h;clear h;go_wp2_with fail;exact Ed.ae _ _ (HH.ae H.ae _ rfl rfl rfl)
 ·have t1:(e0 != 0)=true:=by simp[h]
  have H:=aa h;clear h;go_upto_region 23 with fail;clear cb;refine bz 4 (akr gb e0) (RT _ _) WC WC WC ?_ ?_
  ·simp only[take_succ_cons,take_zero];refine⟨Zaa,Zbj,ZfZ,Zaa,trivial⟩
  intro W3 hL;simp only[Uab];rintro _ rfl _ rfl _ rfl _ rfl;simp only[bA,Act.put,Uac];go_wp2_with fail;exact HE.ae H.ae _ _ rfl rfl rfl hL
theorem zfY.Kby(h:p:=by
 go_wp2_with fail;clear c9;go_loopw [6,31] (λ av i wr=>∃k:Nat,k<=aF.length/\i=af k/\aH bD 46 7 wr w.heap.size av ((ls.take k).flatMap tO.ys)/\aj w wr) (λ _ i _=>aF.length - (intOf i).toNat);case atStart=>exact Zcz
 case round=>
  obtain⟨k,hk,rfl,hp,hb⟩:=hrel;have HP:=aa hp;clear hp;by_cases hlt:k < aF.length
  ·obtain⟨b,off,rfl,kM,hex⟩:=(je.ae.ra.below hb).at_ hlt;have hlk:k < ls.length:=by rw[HFN.ae];exact hlt
   have hk9:k<=100000:=by have:=HO.ae;omega
   obtain⟨e1,e2,e3,Gx⟩:=HK.ae k aF[k] ls[k] (getElem?_eq_getElem hlt) (getElem?_eq_getElem hlk);have mW:=aa (show(ls.take (k+1)).flatMap tO.ys=(ls.take k).flatMap tO.ys++ls[k].ys by rw[take_add_one,getElem?_eq_getElem hlk,flatMap_append];simp)
   have arA:((ls.take k).flatMap tO.ys).length+ls[k].ys.length<=100000:=by
    have h1:((ls.take (k+1)).flatMap tO.ys).length<=(ls.flatMap tO.ys).length:=by
     have h2:ls.flatMap tO.ys=(ls.take (k+1)).flatMap tO.ys++(ls.drop (k+1)).flatMap tO.ys:=by rw[<- flatMap_append,take_append_drop]
     rw[h2,length_append];omega
    rw[mW.ae,length_append] at h1;have:=HS.ae;omega
   have HRE:=aa ((Gx.below hb).more hb.size);generalize aF[k]=y at*;generalize ls[k]=x at*;generalize (ls.take k).flatMap tO.ys=zs at*;unfold cg at hex;rw[e1,e2,e3] at hex;clear e1 e2 e3 Gx hlk;go_upto_region 5 with fail;have bY:=ah wr (.cells #[ag y.op,ag y.v.k,af y.v.n,.string y.v.s,.string y.name,af y.width,.slice x.A x.ys.length x.c] 46);have HX:=aB.new wr 46 #[ag y.op,ag y.v.k,af y.v.n,.string y.v.s,.string y.name,af y.width,.slice x.A x.ys.length x.c];have x6:=HX.cell 6;simp only[Uaa] at x6;have LY:=aa (HP.ae.later bY);have HRD:=aa (HRE.ae.later bY).reads;have hb2:=ai.then hb bY
   have hbase:=hb2.size;obtain⟨i0,kL,hg4,nj,HZ⟩:=info_parts gC;have HI:=aa kL;have Gk:=aa hg4;have Ej:=aa nj;have tx:=aa HZ;have aEV:=arA;clear bY HX hex kM hb HP HRE kL hg4 nj HZ;go_wp2_with (first
    |(at_builtin
      refine cP _ rfl (.tmp 35) (.tmp 37) 23 rfl w.heap.size 46 i0 _ 7 88 Tryz.underlying23 HI.ae Gk.ae Ej.ae tx.ae rfl TD _ zs.length (zs.flatMap bD) rfl LY.ae _ x.A x.ys.length x.c (x.ys.flatMap bD) rfl HRD.ae (Jd x.ys) Tak TD hbase ?_
      intro v4 w4 o4 g4 _
      have O4:=aa (show aH bD 46 7 w4 w.heap.size v4 (zs++x.ys) by
       unfold aH
       rw[length_append,flatMap_append]
       exact o4)
      have B4:=aa (bj LY.ae g4 hbase)
      clear o4 g4))
   go_roundw;case rel=>exact⟨k+1,hlt,by go_num,by rw[mW.ae];exact O4.ae,hb2.trans B4.ae⟩
   case measure=>exact ZaU
  ·have gw:k=aF.length:=by omega
   subst gw;have HAV:=aa (show aH bD 46 7 wr w.heap.size u6 (ls.flatMap tO.ys) by have h1:=HP.ae;rwa [<- HFN.ae,take_length] at h1);clear HP;go_wp2_with fail;refine IY.ae _ _ ?_;clear IY hlt hk;have b1:=ah wr (.cells #[af 0] 84);have k1:=aB.new wr 84 #[af 0];have yU:=aa k1;have aks:=aa (HAV.ae.later b1);have eX:=aa (Below.trans hb (b1.mono hb.size));have HLT:=aa hb.size;clear b1 k1 HAV hb;refine wp_seq_k λ K0 hK=>?_
   have Ed:=aa hK;clear hK;go_wp2_with fail;refine Ed.ae _ _ ?_;clear Ed;generalize wr.alloc (.cells #[af 0] 84)=W1 at*;generalize wr.heap.size=gb at*;refine wp_seq_k λ K4 hK4=>?_
   have CW:=aa hK4;clear hK4;go_wp2_with fail;refine CW.ae _ _ ?_;clear CW;refine wp_seq_k λ K5 hK5=>?_
   have HK5:=aa hK5;clear hK5;have Qb:=aa (je.ae.later eX.ae);have c4:=Qb.ae.c4;rw[LW.ae] at c4;by_cases hg0:gn=0
   ·have t1:((gn:Int)==0)=true:=by simp[hg0]
    have VQ:=aa hg0;clear hg0;go_wp2_with fail;clear c4 t1;refine(Gi gp aF AA ac none 0 0 W1 (by have:=HO.ae;omega) Qb.ae.lt Qb.ae.c9 Qb.ae.ra mr.ae).mono ?_;rintro e w2 ⟨gg,sv,qs,rfl,ej,Oc,hgk,O0,TJ,b2⟩;have bN:=ah w2 (.cells #[aw gg] 135);have hNB:=aB.new w2 135 #[aw gg];have Q6:=eX.ae.size;have b3:=ai.then b2 bN
    have xm:=aa (show kG (w2.alloc (.cells #[aw gg] 135)) w.heap.size [⟨gg,none,0,[],sv,qs,aF.map λ y=>fA y.op⟩] from kG.later ⟨λ x hx=>by
     rw[mem_singleton] at hx
     subst hx
     exact⟨hgk,Nat.le_trans Q6 ej,O0.down Q6,TJ.down Q6,.inl rfl,λ a ha=>by cases ha⟩,pairwise_singleton _ _⟩ bN)
    have axv:=aa (aks.ae.later b3);have axw:=aa (yU.ae.later b3);have fY:=aa (Below.trans eX.ae (b3.mono Q6));have oD:=aa hNB;have hbase:=fY.ae.size;have JQ:=aa (show ow gn aD [⟨gg,none,0,[],sv,qs,aF.map λ y=>fA y.op⟩] [] [] from⟨by unfold bZ;rw[if_pos VQ.ae];rfl,λ x hx=>by
     rw[mem_singleton] at hx
     subst hx
     show aF.map (λ y=>fA y.op)=_
     rw[CM (λ p Ly=>by cases Ly),<- A1.ae,map_map]
     rfl⟩)
    clear bN hNB b2 b3 Q6 hgk O0 TJ Oc ej aks yU eX Qb;go_wp2_with (first
     |(at_builtin
       refine aS (f:=dn) (l:=[]) rfl (.tmp 47) (.tmp 50) 134 rfl _ 8 Tryz.underlying134 CC rfl TD gg rfl TaX rfl aH.nil w2.heap.size rfl oD.ae Taa Taa hbase ?_
       intro v4 w4 o4 g4
       have O4:=aa o4
       have B4:=aa (show Below (w2.alloc (.cells #[aw gg] 135)).heap.size _ w4 from pA g4)
       clear o4 g4))
    exact HK5.ae _ _ (nI.ae _ u6 _ gb [⟨gg,none,0,[],sv,qs,aF.map λ y=>fA y.op⟩] _ rfl rfl rfl rfl rfl rfl (Below.trans fY.ae (B4.ae.mono hbase)) (axv.ae.later B4.ae) (axw.ae.later B4.ae) HLT.ae O4.ae (xm.ae.later B4.ae) JQ.ae)
   ·have t1:((gn:Int)==0)=false:=by simp[hg0]
    have VQ:=aa hg0;clear hg0;go_wp2_with fail;exact HK5.ae _ _ (nI.ae _ u6 _ gb [] _ rfl rfl rfl rfl rfl rfl eX.ae aks.ae yU.ae HLT.ae aH.nil .nil ⟨by unfold bZ;rw[if_neg VQ.ae];rfl,λ x hx=>by cases hx⟩)):p:=h
theorem zht.Kca(h:p:=by
 have mr:=aa AL;have A1:=aa Ai;have c9:=SZ.c9;clear h AK SZ qK hfn hz hS hw AL Ai;simp only[iA,eZ,Tryz.f33,Option.getD_some];refine wp_seq_k λ KK oL=>?_
 have Ia:=aa oL;clear oL;go_wp2_with fail;refine Ia.ae _ _ ?_;open zfY in exact Zd7):p:=h
theorem Xo (gp gn:Nat)(Lw aD:uF)(cols:List aV)(yg aF:u_)(ls:List tO)(GA:z_)(gc:Nat)(CA:z_)(cc:Nat)(AA:z_)(ac:Nat)(rv:Value)(T:x_)(hT:T.size=164)
  (h0:T.getD 0 undef=aw gp) (h1:T.getD 1 undef=rv) (d:List Deferred) (w:rQ) (Q:yD)
  (SZ:Dl w gp Lw aD cols yg aF GA gc CA cc AA ac) (qK:yg.length=gn) (hfn:ls.length=aF.length) (hz:∀(i:Nat) y x,aF[i]?=some y->ls[i]?=some x->y.A=x.A/\y.n=x.ys.length/\y.c=x.c/\RE w w.heap.size x.A x.ys) (hS:(ls.flatMap tO.ys).length<=100000) (hw:aF.length<=100000) (AL:∀y∈aF,isAgg y.op=true) (Ai:aF.map Ex.op=aD.map Tr.op)
  (h:∀(T':x_) av lv gb xs W,T'.size=164->T'.getD 0 undef=aw gp->T'.getD 1 undef=rv->T'.getD 6 undef=av->T'.getD 9 undef=aw gb->T'.getD 10 undef=lv->aj w W->aH bD 46 7 W w.heap.size av (ls.flatMap tO.ys)->aB W gb 84 #[af 0]->w.heap.size<=gb->aH dn 135 1 W w.heap.size lv (xs.map ia.g)->kG W w.heap.size xs->ow gn aD xs [] []->(eZ iA 6).wp Tryz.prog Q { tmps:=T',defers:=d } W):
  (eZ iA 0).wp Tryz.prog Q { tmps:=T,defers:=d } w:=by
 obtain⟨f,rfl⟩:=Jy T hT;have h0:f 0=_:=h0;have h1:f 1=_:=h1;simp only[frg,h0,h1];clear h0 h1;clear h0 h1 hT;have AK:=λ(T':x_) av lv gb xs W a0 a1 a2 a3 a4 a5 a6 a7 a8 a9 b0 b1 b2=>h T' av lv gb xs W a0 a1 a2 a3 a4 a5 a6 a7 a8 a9 b0 b1 b2
 simp only[iA,eZ,Tryz.f33,Option.getD_some] at AK;open zht in exact Zga
noncomputable def xd (aF aD:uF) (cols:List aV) (rows:y_):tE (y_):=match zW (rows.map λ r=>br cols r (aF++aD.flatMap Tr.args))with
 | .error e=> .error e
 | .ok l=>jk aF.length aD l
def Y4 (aF aD:uF)(cols:List aV)(rows:y_)(w0:rQ)(e:Ending)(W:rQ):Prop:=aj w0 W/\match xd aF aD cols rows with
 | .error er=>er≠0/\∃v,e=.returned (.tuple #[v,af er])
 | .ok gs=>∃v cl,e=.returned (.tuple #[v,af 0])/\aH cq 38 1 W w0.heap.size v cl/\Mine W w0.heap.size cl/\cl.map (·.l)=gs
variable{rows:List aX}
theorem DO{aD:uF}  :xd aF aD cols (rows.map (·.l))=if ee cols (aF++aD.flatMap Tr.args) rows≠0 then .error (ee cols (aF++aD.flatMap Tr.args) rows)else jk aF.length aD (fH cols (aF++aD.flatMap Tr.args) rows):=by
 have e1:((rows.map (·.l)).map λ r=>br cols r (aF++aD.flatMap Tr.args)).map exE=rows.map λ r=>ny (br cols r.l (aF++aD.flatMap Tr.args)):=by
  rw[map_map,map_map];refine map_congr_left λ r _=>?_
  show exE (br cols r.l (aF++aD.flatMap Tr.args))=_;cases br cols r.l (aF++aD.flatMap Tr.args)<;> rfl
 have e2:((rows.map (·.l)).map λ r=>br cols r (aF++aD.flatMap Tr.args)).filterMap uq=fH cols (aF++aD.flatMap Tr.args) rows:=by unfold fH;rw[map_map,filterMap_map];congr 1;funext r;show uq (br cols r.l (aF++aD.flatMap Tr.args))=_;cases br cols r.l (aF++aD.flatMap Tr.args)<;> rfl
 unfold xd;rw[Dg,e1,e2];unfold ee;by_cases h:bU (rows.map λ r=>ny (br cols r.l (aF++aD.flatMap Tr.args)))=0
 ·rw[if_neg TaN,if_neg TaN]
 ·rw[if_pos h,if_pos h]
theorem Y5{aD:uF}  (h:ee cols (aF++aD.flatMap Tr.args) rows≠0):xd aF aD cols (rows.map (·.l))=.error (ee cols (aF++aD.flatMap Tr.args) rows):=by rw[DO,if_pos h]
variable{xs:List ia}
theorem aeN{aD:uF}   (h:ee cols (aF++aD.flatMap Tr.args) rows=0)(hI:ow aF.length aD xs (fH cols (aF++aD.flatMap Tr.args) rows) (fH cols (aF++aD.flatMap Tr.args) rows)):xd aF aD cols (rows.map (·.l))=if pZ xs≠0 then .error (pZ xs)else .ok (EK xs):=by
 rw[DO,if_neg TaN];generalize fH cols (aF++aD.flatMap Tr.args) rows=ls at*;have hk:(if aF.length=0 then [[]] else iF ((gQ aF.length aD ls).map (·.1)))=xs.map ia.key:=by rw[hI.keys];unfold bZ gQ;rw[map_map];rfl
 have e1:bU ((xs.map ia.key).map λ k=>bQ (cD (aD.map Tr.op) (gQ aF.length aD ls) k))=pZ xs:=by
  unfold pZ;rw[map_map];congr 1;exact map_congr_left λ x hx=>by show bQ (cD (aD.map Tr.op) (gQ aF.length aD ls) x.key)=_;rw[jq,hI.qz x hx]
 have e2:(xs.map ia.key).map (λ k=>k++(cD (aD.map Tr.op) (gQ aF.length aD ls) k).map (·.1))=EK xs:=by
  unfold EK;rw[map_map];exact map_congr_left λ x hx=>by show x.key++(cD (aD.map Tr.op) (gQ aF.length aD ls) x.key).map (·.1)=_;rw[jq,hI.qz x hx]
 unfold jk;show(if bU ((if aF.length=0 then [[]] else iF ((gQ aF.length aD ls).map (·.1))).map λ k=>bQ (cD (aD.map Tr.op) (gQ aF.length aD ls) k))≠0 then Except.error (bU ((if aF.length=0 then [[]] else iF ((gQ aF.length aD ls).map (·.1))).map λ k=>bQ (cD (aD.map Tr.op) (gQ aF.length aD ls) k)))else .ok ((if aF.length=0 then [[]] else iF ((gQ aF.length aD ls).map (·.1))).map λ k=>k++(cD (aD.map Tr.op) (gQ aF.length aD ls) k).map (·.1)))=_;rw[hk,e1,e2]
theorem aeO:Tryz.f33.body=some iA:=by unfold iA;simp only[Tryz.f33,Option.getD_some]
theorem aeP (a b:Value):(#[a,b]++Array.replicate (Tryz.f33.ntmps - (#[a,b]:x_).size) undef).size=164:=by simp[Tryz.f33]
theorem Y6{b:Value} (h4:T.getD 4 undef=a)(h5:T.getD 5 undef=b):(results Tryz.f33 T).run Tryz.prog W=.ok (.tuple #[a,b]) W:=by
 have e4:T[4]?.getD undef=a:=by rw[<- h4];simp[Array.getD_eq_getD_getElem?]
 have e5:T[5]?.getD undef=b:=by rw[<- h5];simp[Array.getD_eq_getD_getElem?]
 simp[results,Tryz.f33,go_sem,e4,e5]
theorem RU (gp:Nat)(aF aD:uF)(cols:List aV)(yg ya:u_)(GA:z_)(gc:Nat)(CA:z_)(cc:Nat)(AA:z_)(ac:Nat)(rows:List aX)(RA:z_)(rrc:Nat)(w:rQ)
  (hEV:Dl w gp aF aD cols yg ya GA gc CA cc AA ac) (kP:ya.map Ex.op=aD.map Tr.op) (hagg:∀t∈aD,isAgg t.op=true) (O9:∀t∈aD,t.args.length<=2) (JB:Tr.cH (aF++aD.flatMap Tr.args)) (Ai:aF.length<=1000) (xy:aD.length<=50000) (cL:cols.length<=140737488355328)
  (hR:RR w w.heap.size RA rows) (Rb:rows.length<=300) (lX:∀r∈rows,r.l.length<=140737488355328/\∀v∈r.l,v.Ok):
  ar 33 #[aw gp,.slice RA rows.length rrc] w (Y4 aF aD cols (rows.map (·.l)) w):=by
 obtain⟨ls,fJ,hl2,ud,hl4⟩:=wG aD ya hEV.ta;have XW:=dZ hEV.tg;have zF:=dZ hEV.ta
 have hle:(ls.flatMap tO.ys).length<=100000:=by
  rw[<- dZ ud,length_flatMap]
  have:∀l:uF,(∀t∈l,t.args.length<=2)->(l.map λ t=>t.args.length).sum<=2*l.length:=by
   intro l
   induction l with
   | nil=>intro _;simp
   | cons t l ih=>
     intro h;have h1:=h t (mem_cons_self ..);have h2:=ih λ u hu=>h u (mem_cons_of_mem _ hu)
     rw[map_cons,sum_cons,length_cons];omega
  have:=this aD O9;omega
 have arC:∀y∈ya,isAgg y.op=true:=λ y hy=>by
  have h1:y.op∈aD.map Tr.op:=by rw[<- kP];exact mem_map_of_mem hy
  obtain⟨t,ht,he⟩:=List.mem_map.1 h1;rw[<- he];exact hagg t ht
 refine calls_of_wp Tryz.func33 aeO ?_;obtain⟨T,Kq⟩:∃T:x_,T= #[aw gp,.slice RA rows.length rrc]++Array.replicate (Tryz.f33.ntmps - (#[aw gp,.slice RA rows.length rrc]:x_).size) undef:=⟨_,rfl⟩;rw[<- Kq];have hT:T.size=164:=by rw[Kq];exact aeP _ _
 have t0:T.getD 0 undef=aw gp:=by rw[Kq];simp[Array.getD_eq_getD_getElem?]
 have t1:T.getD 1 undef=.slice RA rows.length rrc:=by rw[Kq];simp[Array.getD_eq_getD_getElem?]
 clear Kq;refine Xo gp aF.length aF aD cols yg ya ls GA gc CA cc AA ac (.slice RA rows.length rrc) T hT t0 t1 [] w _ hEV XW.symm fJ hl2 hle TD arC kP ?_;intro T1 av lv gb xs0 W1 s1 s2 s3 s4 s5 s6 b1 o1 k1 g1 l1 x1 i1;refine O8 w gp gb aF.length aF aD cols yg ya (ls.flatMap tO.ys) GA gc CA cc AA ac rows RA rrc av lv xs0 T1 s1 s2 s3 s4 s5 s6 [] W1 _ hEV XW.symm ud hl4 kP hagg O9 JB TD TD hle cL hR Rb lX b1 o1 k1 g1 l1 x1 i1 ?_;intro T2 lv2 xs W2 s1 s2 s3 b2 k2 l2 x2 i2;have hlen:(fH cols (aF++aD.flatMap Tr.args) rows).length<=rows.length:=uJ _ _ _;refine aeL gb _ lv2 T2 s1 s2 s3 [] W2 _ k2 ?_ ?_
 ·intro hne a W e1 e2 e3 bW;refine⟨e1,_,Y6 e2 e3,Below.trans b2 (bW.mono b2.size),?_⟩;rw[Y5 hne];exact⟨hne,_,rfl⟩
 ·intro hz T3 s1 s2 s3;rw[hz] at k2;have hxl:xs.length<=301:=by have h1:=congrArg List.length i2.keys;rw[length_map] at h1;have h2:=yu aF.length ((fH cols (aF++aD.flatMap Tr.args) rows).map λ l=>l.take aF.length);rw[length_map] at h2;omega
  obtain⟨LA,lc,hlv,_,P6⟩:=wF l2;rw[length_map] at hlv;have pC:∀x∈xs,∀s∈x.ss,(s.Ok/\s.all < 4611686018427387904)/\∃v e,fM s v e:=λ x hx s hs=>by rw[i2.qz x hx] at hs;exact uI (λ op ho=>by obtain⟨t,ht,rfl⟩:=List.mem_map.1 ho;exact hagg t ht) (by unfold gQ;rw[length_map];omega) s hs
  refine adt xs w.heap.size LA lc gb T3 s1 s2 (s3.trans hlv) [] W2 _ k2 P6 ?_ x2 TD ?_ (λ x hx s hs=>⟨(pC x hx s hs).1.1,(pC x hx s hs).2⟩) ?_
  ·intro a ha e;have:lv2.ownBlock=some gb:=by rw[hlv,fU,ha,<- e];rfl
   exact l2.other k2 V0 this
  ·intro x hx;refine⟨?_,?_⟩
   ·have:=rK (by rw[<- i2.keys];exact mem_map_of_mem hx);omega
   ·rw[i2.qz x hx,nt,length_map];omega
  ·intro a W ov cl e1 e2 e3 o3 m3 r3 g3;have hb3:aj w W:=dS b2 g3 g1;refine⟨e1,_,Y6 e2 e3,hb3,?_⟩;rw[aeN hz i2];by_cases he:pZ xs=0
   ·rw[if_neg (by simp[he]),he];exact⟨_,cl,rfl,o3.down b2.size,λ r hr=>(m3 r hr).down b2.size,r3 he⟩
   ·rw[if_pos he];exact⟨he,_,rfl⟩
end Go.Proofs.YtndgjggokjickaaGreatDoor
