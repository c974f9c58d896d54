/- Parts of the proof. -/
import Derived.Test.YtehhdlgjfdnafaaGreatDoorXF19
namespace Go.Proofs.YtehhdlgjfdnafaaGreatDoor
variable{p:Prop}
set_option maxHeartbeats 90000000
set_option maxRecDepth 100000
open Go.Lib (hid)
open Go.ChangeShapes Go.WideShapes Go.ChangeAt Go.RowKit List
set_option linter.unusedVariables false
set_option linter.unusedSimpArgs false
variable{α β:Type}{R:α->β->Prop}{m:List β}
theorem jl{l:List α} (h:iK R l m):∀ {i:Nat} {x:α} {y:β},l[i]?=some x->m[i]?=some y->R x y:=by
 induction h with
 | nil=>intro i x y h;simp at h
 | cons a _ ih=>
   intro i x y h k
   cases i with
   | zero=>simp at h k;subst h k;exact a
   | succ i=>exact ih Tam (by simpa using k)
def QuT (w:World)(y z:mv):Prop:=∀W,Below w.heap.size w W->Calls Tryz.prog 32 #[IU y,IU z] W λ e w'=>e=.returned (.bool true)/\Below W.heap.size W w'
structure Qu.N8 (q:Qu):Prop where
 items:q.items.length<=1000000000
 order:q.order.length<=1000000000
 aN:q.aN.length<=1000000000
 aS:q.aS.length<=1000000000
 group:q.group.length<=1000000000
 having:q.having.length<=1000000000
 ahM:∀t∈q.items,t.1.thin
 ahN:∀t∈q.order,t.1.thin
 ahO:Tr.iP q.aS
 ahP:Tr.iP q.group
 aco:Tr.iP q.having
variable{w:World}{S S2:Nat->Prop}{q:Qu}{y z:mv}
theorem zfS.KbJ(h:p:=by
 have f0:(ua.toList != ua.toList)=false:=by simp
 unfold eb aU at BO;clear hcell cr hc hc2 hx hu ht hwr r1 r2;subst mg Aq;go_upto_region 6 with fail;clear x0 z0;exact ZaH):p:=h
theorem zdn.KaP(h:p:=by
 have m7:=λ q:Ext wr.heap.size wr=>(q.h.cell (p:=⟨b2,fL+i*8+7,none⟩) iI).trans (cr 7 (.string u.2) rfl)
 have p2:=λ q:Ext wr.heap.size wr=>(q.h.cell (p:=⟨QX,0,none⟩) (HX.out.later iV).lt).trans x0
 have p3:=λ q:Ext wr.heap.size wr=>(q.h.cell (p:=⟨QZ,0,none⟩) (HZ.out.later iV).lt).trans z0
 have HTH:=hid (acx.out t (mem_of_getElem? ht));open zfS in exact Zdu):p:=h
theorem zc9.KaJ(h:p:=by
 have k7:=λ q:Ext wr.heap.size wr=>(q.h.cell (p:=⟨b,off+i*8+7,none⟩) rI).trans (hcell 7 (.string x.2) rfl)
 open zdn in exact Zbg):p:=h
theorem zfT.KbJ(h:p:=by
 have f0:(ua != ua)=false:=by simp
 unfold eb aU at BO;clear hcell cr hc hc2 hx hu ht hwr r1 r2;subst mg Aq;go_upto_region 11 with fail;clear x6 z6;exact ZaH):p:=h
theorem zdo.KaP(h:p:=by
 have m7:=λ q:Ext wr.heap.size wr=>(q.h.cell (p:=⟨b2,fL+i*8+7,none⟩) iI).trans (cr 7 (.bool u.2) rfl)
 have p2:=λ q:Ext wr.heap.size wr=>(q.h.cell (p:=⟨QX,6,none⟩) (HX.out.later iV).lt).trans x6
 have p3:=λ q:Ext wr.heap.size wr=>(q.h.cell (p:=⟨QZ,6,none⟩) (HZ.out.later iV).lt).trans z6
 have HTH:=hid (acy.out t (mem_of_getElem? ht));open zfT in exact Zdu):p:=h
theorem zda.KaJ(h:p:=by
 have k7:=λ q:Ext wr.heap.size wr=>(q.h.cell (p:=⟨b,off+i*8+7,none⟩) rI).trans (hcell 7 (.bool x.2) rfl)
 open zdo in exact Zbg):p:=h
theorem zdl.KaO(h:p:=by
 go_wp2_with fail;refine(HGR.out _ (FN.out.trans (hb1.mono FN.out.size))).mono ?_;rintro e V2 ⟨rfl,b2⟩;have hb2:=af.then hb1 b2;replace x0:=(b2.cell (ax x0)).trans x0;replace z0:=(b2.cell (ax z0)).trans z0;replace x1:=(b2.cell (ax x1)).trans x1;replace z1:=(b2.cell (ax z1)).trans z1;replace x2:=(b2.cell (ax x2)).trans x2;replace z2:=(b2.cell (ax z2)).trans z2;replace x3:=(b2.cell (ax x3)).trans x3;replace z3:=(b2.cell (ax z3)).trans z3;replace x4:=(b2.cell (ax x4)).trans x4;replace z4:=(b2.cell (ax z4)).trans z4;replace x5:=(b2.cell (ax x5)).trans x5;replace z5:=(b2.cell (ax z5)).trans z5;replace x6:=(b2.cell (ax x6)).trans x6;replace z6:=(b2.cell (ax z6)).trans z6;replace x7:=(b2.cell (ax x7)).trans x7;replace z7:=(b2.cell (ax z7)).trans z7;go_wp2_with fail;refine(HHA.out _ (FN.out.trans (hb2.mono FN.out.size))).mono ?_;rintro e V3 ⟨rfl,b3⟩;have hb3:=af.then hb2 b3;clear x0 z0 x1 z1 x2 z2 x3 z3 x4 z4 x5 z5 x6 z6 x7 z7;go_wp2_with fail;clear e0 e1 e2 e3 e4 e5 e6 e7;go_loopw [5] (λ iv wr=>∃i:Nat,i<=fW/\iv=.int .i64 i/\Below W1.heap.size W1 wr) (λ iv _=>fW - (intOf iv).toNat);case atStart=>exact⟨0,Nat.zero_le _,rfl,hb3⟩
 case round=>
  obtain⟨i,hi,rfl,iV⟩:=hrel;have x0:=(HX.out.later iV).cell 0;have z0:=(HZ.out.later iV).cell 0;simp only[Uaa] at x0 z0;have nI:=hid iV;by_cases hlt:i < fW
  ·obtain⟨x,hx⟩:∃x:Ex×ByteArray,N9[i]?=some x:=⟨_,getElem?_eq_getElem (by have h1:=Cp.out;have h2:=Na.out.len;omega)⟩;obtain⟨u,hu⟩:∃u:Ex×ByteArray,O0[i]?=some u:=⟨_,getElem?_eq_getElem (by have h1:=Cp.out;have h2:=Nb.out.len;omega)⟩;obtain⟨t,ht⟩:∃t,SC[i]?=some t:=⟨_,getElem?_eq_getElem (by have h1:=Cp.out;omega)⟩;have r1:=jl Na.out ht hx;have r2:=jl Nb.out ht hu;have hwr:Below w.heap.size w wr:=FN.out.trans (iV.mono FN.out.size);rcases acp.out with h0 |⟨b,off,mg,kM,hc⟩
   ·exact ZgN
   rcases acr.out with h0 |⟨b2,fL,Aq,rH,hc2⟩
   ·exact ZgO
   open zc9 in exact Zba
  ·obtain rfl:i=fW:=by omega
   go_wp2_with fail;clear x0 z0 iV;go_loopw [6] (λ iv wr=>∃i:Nat,i<=fX/\iv=.int .i64 i/\Below W1.heap.size W1 wr) (λ iv _=>fX - (intOf iv).toNat);case atStart=>exact ZfM
   case round=>
    obtain⟨i,hi,rfl,iV⟩:=hrel;have x6:=(HX.out.later iV).cell 6;have z6:=(HZ.out.later iV).cell 6;simp only[Uaa] at x6 z6;have nI:=hid iV;by_cases hlt:i < fX
    ·obtain⟨x,hx⟩:∃x:Ex×Bool,O1[i]?=some x:=⟨_,getElem?_eq_getElem (by have h1:=Cq.out;have h2:=Nc.out.len;omega)⟩;obtain⟨u,hu⟩:∃u:Ex×Bool,O3[i]?=some u:=⟨_,getElem?_eq_getElem (by have h1:=Cq.out;have h2:=Nd.out.len;omega)⟩;obtain⟨t,ht⟩:∃t,SD[i]?=some t:=⟨_,getElem?_eq_getElem (by have h1:=Cq.out;omega)⟩;have r1:=jl Nc.out ht hx;have r2:=jl Nd.out ht hu;have hwr:Below w.heap.size w wr:=FN.out.trans (iV.mono FN.out.size);rcases acs.out with h0 |⟨b,off,mg,kM,hc⟩
     ·exact ZgN
     rcases acu.out with h0 |⟨b2,fL,Aq,rH,hc2⟩
     ·exact ZgO
     open zda in exact Zba
    ·obtain rfl:i=fX:=by omega
     go_wp2_with fail;clear x6 z6 iV;go_loopw [7] (λ iv wr=>∃i:Nat,i<=fY/\iv=.int .i64 i/\Below W1.heap.size W1 wr) (λ iv _=>fY - (intOf iv).toNat);case atStart=>exact ZfM
     case round=>
      obtain⟨i,hi,rfl,iV⟩:=hrel;have x7:=(HX.out.later iV).cell 7;have z7:=(HZ.out.later iV).cell 7;simp only[Uaa] at x7 z7;have nI:=hid iV;by_cases hlt:i < fY
      ·obtain⟨x,hx⟩:∃x:Int,O4[i]?=some x:=⟨_,getElem?_eq_getElem (by have h1:=Cr.out;have h2:=Nf.out.len;omega)⟩;obtain⟨u,hu⟩:∃u:Int,O5[i]?=some u:=⟨_,getElem?_eq_getElem (by have h1:=Cr.out;have h2:=Ng.out.len;omega)⟩;obtain⟨t,ht⟩:∃t,SE[i]?=some t:=⟨_,getElem?_eq_getElem (by have h1:=Cr.out;omega)⟩;have r1:=jl Nf.out ht hx;have r2:=jl Ng.out ht hu;have hwr:Below w.heap.size w wr:=FN.out.trans (iV.mono FN.out.size);rcases acv.out with h0 |⟨b,off,mg,kM,hc⟩
       ·exact ZgN
       rcases acw.out with h0 |⟨b2,fL,Aq,rH,hc2⟩
       ·exact ZgO
       have rI:b < wr.heap.size:=Nat.lt_of_lt_of_le (hS b kM) hwr.size;have iI:b2 < wr.heap.size:=Nat.lt_of_lt_of_le (vM b2 rH) hwr.size;have hcell:=λ j v hv=>(hwr.cell (p:=⟨b,off+i*1+j,none⟩) (hS b kM)).trans (hc i x j v hx hv)
       have cr:=λ j v hv=>(hwr.cell (p:=⟨b2,fL+i*1+j,none⟩) (vM b2 rH)).trans (hc2 i u j v hu hv)
       have k0':=hcell 0 (.int .i64 x) rfl;simp only[Nat.mul_one,Nat.add_zero] at k0';have k0:=λ q:Ext wr.heap.size wr=>(q.h.cell (p:=⟨b,off+i,none⟩) rI).trans k0'
       clear k0';have m0':=cr 0 (.int .i64 u) rfl;simp only[Nat.mul_one,Nat.add_zero] at m0';have m0:=λ q:Ext wr.heap.size wr=>(q.h.cell (p:=⟨b2,fL+i,none⟩) iI).trans m0'
       clear m0';have p2:=λ q:Ext wr.heap.size wr=>(q.h.cell (p:=⟨QX,7,none⟩) (HX.out.later iV).lt).trans x7
       have p3:=λ q:Ext wr.heap.size wr=>(q.h.cell (p:=⟨QZ,7,none⟩) (HZ.out.later iV).lt).trans z7
       have heq:u=x:=by rw[show x=t from r1,show u=t from r2]
       subst heq;have f0:(u != u)=false:=by simp
       clear hcell cr hc hc2 hx hu ht hwr r1 r2;subst mg Aq;go_upto_region 16 with fail;clear x7 z7;refine fo 11 wr.heap.size wr (Below.refl _ _) Tac Tac Tac Tac ?_;simp only[Uab];repeat (go_big_quiet_step (fail))
       refine wpQuiet_nil ?_;rintro V4 ⟨x9,Dt⟩;have wk:=x9.h;rw[<- Dt] at wk;have hb1:=af.then nI.out wk;clear Dt x9 k0 m0 p2 p3 wk f0;exact ZbP
      ·obtain rfl:i=fY:=by omega
       exact ZfN):p:=h
theorem zfo.Kbw(h:p:=by
 simp only[Uaa] at x0 z0 x1 z1 x2 z2 x3 z3 x4 z4 x5 z5 x6 z6 x7 z7;have e0:(aP.toList != aP.toList)=false:=by simp
 have e1:(only != only)=false:=by simp
 have e2:((fW:Int) !=(fW:Int))=false:=by simp
 have e3:((fX:Int) !=(fX:Int))=false:=by simp
 have e4:((fY:Int) !=(fY:Int))=false:=by simp
 have e5:(fW != fW)=false:=by simp
 have e6:(fX != fX)=false:=by simp
 have e7:(fY != fY)=false:=by simp
 go_upto_region 1 with fail;change Code.wp _ _ _ _ ((W.alloc (.cells #[.slice yR fW yS,.string aP,.bool only,.slice uH kH uI,.slice yT nj yU,.slice uJ kI uK,.slice yV fX yX,.slice yY fY yZ] 28)).alloc (.cells #[.slice uL fW uM,.string aP,.bool only,.slice pL kH pM,.slice uN nj uO,.slice rK kI rL,.slice uP fX uQ,.slice uR fY uS] 28));open zdl in exact Zbf):p:=h
theorem MZ(hS:∀b,S b->b < w.heap.size)(vM:∀b,S2 b->b < w.heap.size)  (h:q.at_ w S y)(h2:q.at_ w S2 z)(hs:q.N8):QuT w y z:=by
 intro W hW;have HWH:=hid (Ew hS vM h.aS h2.aS hs.ahO hs.aS);have HGR:=hid (Ew hS vM h.group h2.group hs.ahP hs.group);have HHA:=hid (Ew hS vM h.having h2.having hs.aco hs.having);obtain⟨yN,N9,Sp,Sq⟩:=h.items;obtain⟨uB,O0,Sr,Ss⟩:=h2.items;have acp:=hid Sp;have acr:=hid Sr;have Na:=hid Sq;have Nb:=hid Ss;obtain⟨yO,O1,Su,Sv⟩:=h.order;obtain⟨uC,O3,Sw,Sx⟩:=h2.order;have acs:=hid Su;have acu:=hid Sw;have Nc:=hid Sv;have Nd:=hid Sx;obtain⟨yP,O4,Sy,Sz⟩:=h.aN;obtain⟨uD,O5,SA,SB⟩:=h2.aN;have acv:=hid Sy;have acw:=hid SA;have Nf:=hid Sz;have Ng:=hid SB;obtain⟨uE,_⟩:=h.aS;obtain⟨pK,_⟩:=h2.aS;obtain⟨yQ,_⟩:=h.group;obtain⟨uF,_⟩:=h2.group;obtain⟨uG,_⟩:=h.having;obtain⟨rJ,_⟩:=h2.having;have Zw:=h.aP.symm;have aeM:=h2.aP.symm;have aeN:=h.only.symm;have O6:=h2.only.symm;have acx:=hid hs.ahM;have acy:=hid hs.ahN;have bI:=hs.items;have bO:=hs.order;have bL:=hs.aN;clear h h2 hs;obtain⟨SC,aP,only,O7,acz,O8,SD,SE⟩:=q;obtain⟨⟨yR,aoN,yS⟩,azb,auz,⟨uH,auA,uI⟩,⟨yT,aoO,yU⟩,⟨uJ,ano,uK⟩,⟨yV,aoP,yX⟩,⟨yY,aoQ,yZ⟩⟩:=y;obtain⟨⟨uL,anp,uM⟩,azc,auB,⟨pL,ahQ,pM⟩,⟨uN,anq,uO⟩,⟨rK,ajl,rL⟩,⟨uP,anr,uQ⟩,⟨uR,ans,uS⟩⟩:=z;simp only at Zw aeM aeN O6 bI bO bL yN uB uE pK yQ uF uG rJ yO uC yP uD;subst Zw aeM aeN O6;obtain⟨fW,Ki⟩:∃n:Nat,n=SC.length:=⟨_,rfl⟩;rw[<- Ki] at yN uB;replace yN:=yN.symm;replace uB:=uB.symm;subst yN uB;have Cp:=hid Ki;clear Ki;obtain⟨kH,Ey⟩:∃n:Nat,n=O7.length:=⟨_,rfl⟩;rw[<- Ey] at uE pK;replace uE:=uE.symm;replace pK:=pK.symm;subst uE pK;have ant:=hid Ey;clear Ey;obtain⟨nj,Kj⟩:∃n:Nat,n=acz.length:=⟨_,rfl⟩;rw[<- Kj] at yQ uF
 replace yQ:=yQ.symm;replace uF:=uF.symm;subst yQ uF;have aoR:=hid Kj;clear Kj;obtain⟨kI,Ez⟩:∃n:Nat,n=O8.length:=⟨_,rfl⟩;rw[<- Ez] at uG rJ;replace uG:=uG.symm;replace rJ:=rJ.symm;subst uG rJ;have anu:=hid Ez;clear Ez;obtain⟨fX,Kk⟩:∃n:Nat,n=SD.length:=⟨_,rfl⟩;rw[<- Kk] at yO uC;replace yO:=yO.symm;replace uC:=uC.symm;subst yO uC;have Cq:=hid Kk;clear Kk;obtain⟨fY,Kl⟩:∃n:Nat,n=SE.length:=⟨_,rfl⟩;rw[<- Kl] at yP uD;replace yP:=yP.symm;replace uD:=uD.symm;subst yP uD;have Cr:=hid Kl;clear Kl Sp Sr Sq Ss Su Sw Sv Sx Sy SA Sz SB;rw[<- Cp.out] at bI;rw[<- Cq.out] at bO;rw[<- Cr.out] at bL;show Calls Tryz.prog 32 #[.agg #[.slice yR fW yS,.string aP,.bool only,.slice uH kH uI,.slice yT nj yU,.slice uJ kI uK,.slice yV fX yX,.slice yY fY yZ],.agg #[.slice uL fW uM,.string aP,.bool only,.slice pL kH pM,.slice uN nj uO,.slice rK kI rL,.slice uP fX uQ,.slice uR fY uS]] W _;go_enter Tryz.func32,Tryz.ntmps32;have hX:=(av.new W 28 #[.slice yR fW yS,.string aP,.bool only,.slice uH kH uI,.slice yT nj yU,.slice uJ kI uK,.slice yV fX yX,.slice yY fY yZ]).alloc (.cells #[.slice uL fW uM,.string aP,.bool only,.slice pL kH pM,.slice uN nj uO,.slice rK kI rL,.slice uP fX uQ,.slice uR fY uS] 28);have hZ:=av.new (W.alloc (.cells #[.slice yR fW yS,.string aP,.bool only,.slice uH kH uI,.slice yT nj yU,.slice uJ kI uK,.slice yV fX yX,.slice yY fY yZ] 28)) 28 #[.slice uL fW uM,.string aP,.bool only,.slice pL kH pM,.slice uN nj uO,.slice rK kI rL,.slice uP fX uQ,.slice uR fY uS];rw[World.size_alloc] at hZ;have hB:=af.then (aa W (.cells #[.slice yR fW yS,.string aP,.bool only,.slice uH kH uI,.slice yT nj yU,.slice uJ kI uK,.slice yV fX yX,.slice yY fY yZ] 28)) (aa _ (.cells #[.slice uL fW uM,.string aP,.bool only,.slice pL kH pM,.slice uN nj uO,.slice rK kI rL,.slice uP fX uQ,.slice uR fY uS] 28))
 open zfo in exact ZcZ
def StT (w:World)(y z:gT):Prop:=∀W,Below w.heap.size w W->Calls Tryz.prog 15 #[mK y,mK z] W λ e w'=>e=.returned (.bool true)/\Below W.heap.size W w'
structure St.N8 (s:St):Prop where
 bg:s.bg.length<=1000000000
 rows:s.rows.length<=1000000000
 bF:s.bF.length<=1000000000
 aS:s.aS.length<=1000000000
 ahO:Tr.iP s.aS
 anw:∀r∈s.rows,Tr.iP r/\r.length<=1000000000
 anx:∀t∈s.bF,t.2.thin
 query:s.query.N8
theorem zf7.KbP(h:p:=by refine wpQuiet_nil ?_;rintro V4 ⟨x9,Dt⟩;have wk:=x9.h;rw[<- Dt] at wk;have hb1:=af.then nI.out wk;clear Dt x9 k0 m0 k1 m1 p2 p3 wk f0 f1;exact ZbP):p:=h
theorem zeN.Kbg(h:p:=by
 have hcell:=λ j v hv=>(hwr.cell (p:=⟨b,off+i*2+j,none⟩) (hS b kM)).trans (hc i x j v hx hv)
 have cr:=λ j v hv=>(hwr.cell (p:=⟨b2,fL+i*2+j,none⟩) (vM b2 rH)).trans (hc2 i u j v hu hv)
 have k0:=λ q:Ext wr.heap.size wr=>(q.h.cell (p:=⟨b,off+i*2,none⟩) rI).trans (hcell 0 (.string x.1) rfl)
 have k1:=λ q:Ext wr.heap.size wr=>(q.h.cell (p:=⟨b,off+i*2+1,none⟩) rI).trans (hcell 1 (.int .u8 x.2) rfl)
 have m0:=λ q:Ext wr.heap.size wr=>(q.h.cell (p:=⟨b2,fL+i*2,none⟩) iI).trans (cr 0 (.string u.1) rfl)
 have m1:=λ q:Ext wr.heap.size wr=>(q.h.cell (p:=⟨b2,fL+i*2+1,none⟩) iI).trans (cr 1 (.int .u8 u.2) rfl)
 have p2:=λ q:Ext wr.heap.size wr=>(q.h.cell (p:=⟨QX,2,none⟩) (HX.out.later iV).lt).trans x2
 have p3:=λ q:Ext wr.heap.size wr=>(q.h.cell (p:=⟨QZ,2,none⟩) (HZ.out.later iV).lt).trans z2
 have heq:u=x:=by rw[show x=t from r1,show u=t from r2]
 subst heq;obtain⟨ua,ub⟩:=u;have f0:(ua.toList==ua.toList)=true:=by simp
 have f1:(ub==ub)=true:=by simp
 clear hcell cr hc hc2 hx hu ht hwr r1 r2;subst mg Aq;go_upto_region 6 with fail;clear x2 z2;refine fo 11 wr.heap.size wr (Below.refl _ _) Tac Tac Tac Tac ?_;open zf7 in exact ZdZ):p:=h
theorem zf8.KbP(h:p:=by
 go_big_quiet_step ((go_at_call 31;exact gI (Nat.le_refl _) (BO _)));repeat (go_big_quiet_step (fail))
 refine wpQuiet_nil ?_;rintro V4 ⟨x9,Dt⟩;have wk:=x9.h;rw[<- Dt] at wk;have hb1:=af.then nI.out wk;clear Dt x9 k0 m0 p2 p3 wk BO;exact ZbP):p:=h
theorem zeO.Kbg(h:p:=by
 have hcell:=λ j v hv=>(hwr.cell (p:=⟨b,off+i*1+j,none⟩) (hS b kM)).trans (hc i x j v hx hv)
 have cr:=λ j v hv=>(hwr.cell (p:=⟨b2,fL+i*1+j,none⟩) (vM b2 rH)).trans (hc2 i u j v hu hv)
 have k0':=hcell 0 (.slice x.A x.n x.c) rfl;simp only[Nat.mul_one,Nat.add_zero] at k0';have k0:=λ q:Ext wr.heap.size wr=>(q.h.cell (p:=⟨b,off+i,none⟩) rI).trans k0'
 clear k0';have m0':=cr 0 (.slice u.A u.n u.c) rfl;simp only[Nat.mul_one,Nat.add_zero] at m0';have m0:=λ q:Ext wr.heap.size wr=>(q.h.cell (p:=⟨b2,fL+i,none⟩) iI).trans m0'
 clear m0';have p2:=λ q:Ext wr.heap.size wr=>(q.h.cell (p:=⟨QX,19,none⟩) (HX.out.later iV).lt).trans NH
 have p3:=λ q:Ext wr.heap.size wr=>(q.h.cell (p:=⟨QZ,19,none⟩) (HZ.out.later iV).lt).trans Y6
 have HTH:=ahZ.out t (mem_of_getElem? ht);have BO:=λ q:Ext wr.heap.size wr=>Ew hS vM r1 r2 HTH.1 HTH.2 q.w (hwr.trans (q.h.mono hwr.size))
 clear HTH hcell cr hc hc2 hx hu ht hwr r1 r2;subst mg Aq;go_upto_region 11 with fail;clear NH Y6;refine fo 12 wr.heap.size wr (Below.refl _ _) Tac Tac Tac Tac ?_;open zf8 in exact ZdZ):p:=h
theorem zhh.Kck(h:p:=by
 have k0:=λ q:Ext wr.heap.size wr=>(q.h.cell (p:=⟨b,off+i*8,none⟩) rI).trans (hcell 0 (.string x.1) rfl)
 have k1:=λ q:Ext wr.heap.size wr=>(q.h.cell (p:=⟨b,off+i*8+1,none⟩) rI).trans (hcell 1 (.int .u8 x.2.op) rfl)
 have k2:=λ q:Ext wr.heap.size wr=>(q.h.cell (p:=⟨b,off+i*8+2,none⟩) rI).trans (hcell 2 (.int .u8 x.2.v.k) rfl)
 have k3:=λ q:Ext wr.heap.size wr=>(q.h.cell (p:=⟨b,off+i*8+3,none⟩) rI).trans (hcell 3 (.int .i64 x.2.v.n) rfl)
 have k4:=λ q:Ext wr.heap.size wr=>(q.h.cell (p:=⟨b,off+i*8+4,none⟩) rI).trans (hcell 4 (.string x.2.v.s) rfl)
 have k5:=λ q:Ext wr.heap.size wr=>(q.h.cell (p:=⟨b,off+i*8+5,none⟩) rI).trans (hcell 5 (.string x.2.name) rfl)
 have k6:=λ q:Ext wr.heap.size wr=>(q.h.cell (p:=⟨b,off+i*8+6,none⟩) rI).trans (hcell 6 (.int .i64 x.2.width) rfl)
 have k7:=λ q:Ext wr.heap.size wr=>(q.h.cell (p:=⟨b,off+i*8+7,none⟩) rI).trans (hcell 7 (.slice x.2.A x.2.n x.2.c) rfl)
 have m0:=λ q:Ext wr.heap.size wr=>(q.h.cell (p:=⟨b2,fL+i*8,none⟩) iI).trans (cr 0 (.string u.1) rfl)
 have m1:=λ q:Ext wr.heap.size wr=>(q.h.cell (p:=⟨b2,fL+i*8+1,none⟩) iI).trans (cr 1 (.int .u8 u.2.op) rfl)
 have m2:=λ q:Ext wr.heap.size wr=>(q.h.cell (p:=⟨b2,fL+i*8+2,none⟩) iI).trans (cr 2 (.int .u8 u.2.v.k) rfl)
 have m3:=λ q:Ext wr.heap.size wr=>(q.h.cell (p:=⟨b2,fL+i*8+3,none⟩) iI).trans (cr 3 (.int .i64 u.2.v.n) rfl)
 have m4:=λ q:Ext wr.heap.size wr=>(q.h.cell (p:=⟨b2,fL+i*8+4,none⟩) iI).trans (cr 4 (.string u.2.v.s) rfl)
 have m5:=λ q:Ext wr.heap.size wr=>(q.h.cell (p:=⟨b2,fL+i*8+5,none⟩) iI).trans (cr 5 (.string u.2.name) rfl)
 have m6:=λ q:Ext wr.heap.size wr=>(q.h.cell (p:=⟨b2,fL+i*8+6,none⟩) iI).trans (cr 6 (.int .i64 u.2.width) rfl)
 have m7:=λ q:Ext wr.heap.size wr=>(q.h.cell (p:=⟨b2,fL+i*8+7,none⟩) iI).trans (cr 7 (.slice u.2.A u.2.n u.2.c) rfl)
 have p2:=λ q:Ext wr.heap.size wr=>(q.h.cell (p:=⟨QX,20,none⟩) (HX.out.later iV).lt).trans Zf
 have p3:=λ q:Ext wr.heap.size wr=>(q.h.cell (p:=⟨QZ,20,none⟩) (HZ.out.later iV).lt).trans z20
 have HTH:=hid (aia.out t (mem_of_getElem? ht));have BO:=λ q:Ext wr.heap.size wr=>Tr.Co hS vM t.2 x.2 u.2 r1.2 r2.2 HTH.out q.w (hwr.trans (q.h.mono hwr.size))
 have heq:u.1=x.1:=by rw[r1.1,r2.1]
 obtain⟨xa,x⟩:=x;obtain⟨ua,u⟩:=u;simp only at heq BO k0 m0 k1 m1 k2 m2 k3 m3 k4 m4 k5 m5 k6 m6 k7 m7;subst heq;have f0:(ua.toList != ua.toList)=false:=by simp
 unfold eb aU at BO;clear hcell cr hc hc2 hx hu ht hwr r1 r2;subst mg Aq;go_upto_region 16 with fail;clear Zf z20;exact ZaH):p:=h
theorem zeP.Kbg(h:p:=by open zhh in exact Zfg):p:=h
theorem zdm.KaO(h:p:=by
 replace x8:=(b1.cell (ax x8)).trans x8;replace z8:=(b1.cell (ax z8)).trans z8;replace x9:=(b1.cell (ax x9)).trans x9;replace z9:=(b1.cell (ax z9)).trans z9;replace NB:=(b1.cell (ax NB)).trans NB;replace z10:=(b1.cell (ax z10)).trans z10;replace NC:=(b1.cell (ax NC)).trans NC;replace z11:=(b1.cell (ax z11)).trans z11;replace ND:=(b1.cell (ax ND)).trans ND;replace z12:=(b1.cell (ax z12)).trans z12;replace NF:=(b1.cell (ax NF)).trans NF;replace z13:=(b1.cell (ax z13)).trans z13;replace NG:=(b1.cell (ax NG)).trans NG;replace z14:=(b1.cell (ax z14)).trans z14;replace Fw:=(b1.cell (ax Fw)).trans Fw;replace z15:=(b1.cell (ax z15)).trans z15;replace x16:=(b1.cell (ax x16)).trans x16;replace z16:=(b1.cell (ax z16)).trans z16;replace Zb:=(b1.cell (ax Zb)).trans Zb;replace z17:=(b1.cell (ax z17)).trans z17;replace Zc:=(b1.cell (ax Zc)).trans Zc;replace z18:=(b1.cell (ax z18)).trans z18;replace NH:=(b1.cell (ax NH)).trans NH;replace Y6:=(b1.cell (ax Y6)).trans Y6;replace Zf:=(b1.cell (ax Zf)).trans Zf;replace z20:=(b1.cell (ax z20)).trans z20;replace Zg:=(b1.cell (ax Zg)).trans Zg;replace z21:=(b1.cell (ax z21)).trans z21;replace x22:=(b1.cell (ax x22)).trans x22;replace z22:=(b1.cell (ax z22)).trans z22;replace x23:=(b1.cell (ax x23)).trans x23;replace z23:=(b1.cell (ax z23)).trans z23;replace x24:=(b1.cell (ax x24)).trans x24;replace z24:=(b1.cell (ax z24)).trans z24;replace UH:=(b1.cell (ax UH)).trans UH;replace z25:=(b1.cell (ax z25)).trans z25;replace UI:=(b1.cell (ax UI)).trans UI;replace z26:=(b1.cell (ax z26)).trans z26
 replace UJ:=(b1.cell (ax UJ)).trans UJ;replace z27:=(b1.cell (ax z27)).trans z27;go_wp2_with fail;refine(HQU.out _ (FN.out.trans (hb1.mono FN.out.size))).mono ?_;rintro e V2 ⟨rfl,b2⟩;have hb2:=af.then hb1 b2;clear x0 z0 x1 z1 x2 z2 x3 z3 x4 z4 x5 z5 x6 z6 x7 z7 x8 z8 x9 z9 NB z10 NC z11 ND z12 NF z13 NG z14 Fw z15 x16 z16 Zb z17 Zc z18 NH Y6 Zf z20 Zg z21 x22 z22 x23 z23 x24 z24 UH z25 UI z26 UJ z27;go_wp2_with fail;clear e0 e1 e2 e3 e4 e5 e6 e7 e8 e9 e10 e11 e12 e13 e14 e15 e16 e17 e18;go_loopw [5] (λ iv wr=>∃i:Nat,i<=kv/\iv=.int .i64 i/\Below W1.heap.size W1 wr) (λ iv _=>kv - (intOf iv).toNat);case atStart=>exact⟨0,Nat.zero_le _,rfl,hb2⟩
 case round=>
  obtain⟨i,hi,rfl,iV⟩:=hrel;have x2:=(HX.out.later iV).cell 2;have z2:=(HZ.out.later iV).cell 2;simp only[Uaa] at x2 z2;have nI:=hid iV;by_cases hlt:i < kv
  ·obtain⟨x,hx⟩:∃x:ByteArray×Int,acB[i]?=some x:=⟨_,getElem?_eq_getElem (by have h1:=Km.out;have h2:=SF.out.len;omega)⟩;obtain⟨u,hu⟩:∃u:ByteArray×Int,acC[i]?=some u:=⟨_,getElem?_eq_getElem (by have h1:=Km.out;have h2:=SG.out.len;omega)⟩;obtain⟨t,ht⟩:∃t,Q8[i]?=some t:=⟨_,getElem?_eq_getElem (by have h1:=Km.out;omega)⟩;have r1:=jl SF.out ht hx;have r2:=jl SG.out ht hu;have hwr:Below w.heap.size w wr:=FN.out.trans (iV.mono FN.out.size);rcases ahT.out with h0 |⟨b,off,mg,kM,hc⟩
   ·exact ZgN
   rcases ahU.out with h0 |⟨b2,fL,Aq,rH,hc2⟩
   ·exact ZgO
   open zeN in exact Zch
  ·obtain rfl:i=kv:=by omega
   go_wp2_with fail;clear x2 z2 iV;go_loopw [6] (λ iv wr=>∃i:Nat,i<=ky/\iv=.int .i64 i/\Below W1.heap.size W1 wr) (λ iv _=>ky - (intOf iv).toNat);case atStart=>exact ZfM
   case round=>
    obtain⟨i,hi,rfl,iV⟩:=hrel;have NH:=(HX.out.later iV).cell 19;have Y6:=(HZ.out.later iV).cell 19;simp only[Uaa] at NH Y6;have nI:=hid iV;by_cases hlt:i < ky
    ·obtain⟨x,hx⟩:∃x:Sl,acD[i]?=some x:=⟨_,getElem?_eq_getElem (by have h1:=Kn.out;have h2:=SH.out.len;omega)⟩;obtain⟨u,hu⟩:∃u:Sl,acE[i]?=some u:=⟨_,getElem?_eq_getElem (by have h1:=Kn.out;have h2:=SI.out.len;omega)⟩;obtain⟨t,ht⟩:∃t,Q9[i]?=some t:=⟨_,getElem?_eq_getElem (by have h1:=Kn.out;omega)⟩;have r1:=jl SH.out ht hx;have r2:=jl SI.out ht hu;have hwr:Below w.heap.size w wr:=FN.out.trans (iV.mono FN.out.size);rcases ahV.out with h0 |⟨b,off,mg,kM,hc⟩
     ·exact ZgN
     rcases ahW.out with h0 |⟨b2,fL,Aq,rH,hc2⟩
     ·exact ZgO
     open zeO in exact Zch
    ·obtain rfl:i=ky:=by omega
     go_wp2_with fail;clear NH Y6 iV;go_loopw [7] (λ iv wr=>∃i:Nat,i<=kz/\iv=.int .i64 i/\Below W1.heap.size W1 wr) (λ iv _=>kz - (intOf iv).toNat);case atStart=>exact ZfM
     case round=>
      obtain⟨i,hi,rfl,iV⟩:=hrel;have Zf:=(HX.out.later iV).cell 20;have z20:=(HZ.out.later iV).cell 20;simp only[Uaa] at Zf z20;have nI:=hid iV;by_cases hlt:i < kz
      ·obtain⟨x,hx⟩:∃x:ByteArray×Ex,acF[i]?=some x:=⟨_,getElem?_eq_getElem (by have h1:=Ko.out;have h2:=SJ.out.len;omega)⟩;obtain⟨u,hu⟩:∃u:ByteArray×Ex,acG[i]?=some u:=⟨_,getElem?_eq_getElem (by have h1:=Ko.out;have h2:=SK.out.len;omega)⟩;obtain⟨t,ht⟩:∃t,R2[i]?=some t:=⟨_,getElem?_eq_getElem (by have h1:=Ko.out;omega)⟩;have r1:=jl SJ.out ht hx;have r2:=jl SK.out ht hu;have hwr:Below w.heap.size w wr:=FN.out.trans (iV.mono FN.out.size);rcases ahX.out with h0 |⟨b,off,mg,kM,hc⟩
       ·exact ZgN
       rcases ahY.out with h0 |⟨b2,fL,Aq,rH,hc2⟩
       ·exact ZgO
       open zeP in exact Zch
      ·obtain rfl:i=kz:=by omega
       exact ZfN):p:=h
theorem zfp.Kbw(h:p:=by
 have x8:=hX.cell 8;have z8:=hZ.cell 8;have x9:=hX.cell 9;have z9:=hZ.cell 9;have NB:=hX.cell 10;have z10:=hZ.cell 10;have NC:=hX.cell 11;have z11:=hZ.cell 11;have ND:=hX.cell 12;have z12:=hZ.cell 12;have NF:=hX.cell 13;have z13:=hZ.cell 13;have NG:=hX.cell 14;have z14:=hZ.cell 14;have Fw:=hX.cell 15;have z15:=hZ.cell 15;have x16:=hX.cell 16;have z16:=hZ.cell 16;have Zb:=hX.cell 17;have z17:=hZ.cell 17;have Zc:=hX.cell 18;have z18:=hZ.cell 18;have NH:=hX.cell 19;have Y6:=hZ.cell 19;have Zf:=hX.cell 20;have z20:=hZ.cell 20;have Zg:=hX.cell 21;have z21:=hZ.cell 21;have x22:=hX.cell 22;have z22:=hZ.cell 22;have x23:=hX.cell 23;have z23:=hZ.cell 23;have x24:=hX.cell 24;have z24:=hZ.cell 24;have UH:=hX.cell 25;have z25:=hZ.cell 25;have UI:=hX.cell 26;have z26:=hZ.cell 26;have UJ:=hX.cell 27;have z27:=hZ.cell 27;simp only[Uaa] at x0 z0 x1 z1 x2 z2 x3 z3 x4 z4 x5 z5 x6 z6 x7 z7 x8 z8 x9 z9 NB z10 NC z11 ND z12 NF z13 NG z14 Fw z15 x16 z16 Zb z17 Zc z18 NH Y6 Zf z20 Zg z21 x22 z22 x23 z23 x24 z24 UH z25 UI z26 UJ z27;have e0:(name.toList != name.toList)=false:=by simp
 have e1:(time.toList != time.toList)=false:=by simp
 have e2:(space.toList != space.toList)=false:=by simp
 have e3:(cM.toList != cM.toList)=false:=by simp
 have e4:(kind != kind)=false:=by simp
 have e5:(every != every)=false:=by simp
 have e6:(parts != parts)=false:=by simp
 have e7:(what != what)=false:=by simp
 have e8:(a != a)=false:=by simp
 have e9:(b != b)=false:=by simp
 have e10:(fk==fk)=true:=by simp
 have e11:(fn==fn)=true:=by simp
 have e12:(tk==tk)=true:=by simp
 have e13:(tn==tn)=true:=by simp
 have e14:(fs.toList==fs.toList)=true:=by simp
 have e15:(ts.toList==ts.toList)=true:=by simp
 have e16:((kv:Int) !=(kv:Int))=false:=by simp
 have e17:((ky:Int) !=(ky:Int))=false:=by simp
 have e18:((kz:Int) !=(kz:Int))=false:=by simp
 go_upto_region 1 with fail;change Code.wp _ _ _ _ ((W.alloc (.cells #[.int .u8 kind,.string name,.slice ED kv EF,.string time,.int .i64 every,.string space,.int .i64 parts,.slice VV VW VX,.string qf,.bool qy,.slice VY VZ Wa,.slice Wb Wc We,.slice Wf Wh Wi,.slice Wj Wk Wl,.slice Wm Wo Wp,.int .u8 what,.string cM,.int .i64 a,.int .i64 b,.slice EG ky EH,.slice EI kz EJ,.slice uH kH uI,.int .u8 fk,.int .i64 fn,.string fs,.int .u8 tk,.int .i64 tn,.string ts] 34)).alloc (.cells #[.int .u8 kind,.string name,.slice zf kv zg,.string time,.int .i64 every,.string space,.int .i64 parts,.slice Hp Hq Hr,.string qf2,.bool qy2,.slice Hs Ht Hu,.slice Hv Hw Hx,.slice Hy Hz Ia,.slice Ib Ic Ie,.slice Ig Ih Ii,.int .u8 what,.string cM,.int .i64 a,.int .i64 b,.slice zh ky zi,.slice zj kz zk,.slice pL kH pM,.int .u8 fk,.int .i64 fn,.string fs,.int .u8 tk,.int .i64 tn,.string ts] 34));open zdm in exact Zbf):p:=h
theorem VU(hS:∀b,S b->b < w.heap.size)(vM:∀b,S2 b->b < w.heap.size) {q:St} {y z:gT}(h:q.at_ w S y)(h2:q.at_ w S2 z)(hs:q.N8):StT w y z:=by
 intro W hW;have HWH:=hid (Ew hS vM h.aS h2.aS hs.ahO hs.aS);have HQU:=hid (MZ hS vM h.query h2.query hs.query);obtain⟨EA,acB,O9,P0⟩:=h.bg;obtain⟨za,acC,P1,P2⟩:=h2.bg;have ahT:=hid O9;have ahU:=hid P1;have SF:=hid P0;have SG:=hid P2;obtain⟨EB,acD,P3,P4⟩:=h.rows;obtain⟨zb,acE,P5,P6⟩:=h2.rows;have ahV:=hid P3;have ahW:=hid P5;have SH:=hid P4;have SI:=hid P6;obtain⟨EC,acF,P7,P8⟩:=h.bF;obtain⟨ze,acG,P9,Q0⟩:=h2.bF;have ahX:=hid P7;have ahY:=hid P9;have SJ:=hid P8;have SK:=hid Q0;obtain⟨uE,_⟩:=h.aS;obtain⟨pK,_⟩:=h2.aS;have Q1:=h.kind.symm;have SL:=h2.kind.symm;have Q2:=h.name.symm;have SM:=h2.name.symm;have Q3:=h.time.symm;have SN:=h2.time.symm;have SP:=h.every.symm;have Nh:=h2.every.symm;have SQ:=h.space.symm;have Ni:=h2.space.symm;have SR:=h.parts.symm;have Nj:=h2.parts.symm;have Q4:=h.what.symm;have SS:=h2.what.symm;have aeO:=h.cM.symm;have Q5:=h2.cM.symm;have h_a:=h.a.symm;have anz:=h2.a.symm;have h_b:=h.b.symm;have anA:=h2.b.symm;have aeP:=h.aP.symm;have Q6:=h2.aP.symm;have aeQ:=h.dx.symm;have Q7:=h2.dx.symm;have ahZ:=hid hs.anw;have aia:=hid hs.anx;have bC:=hs.bg;have bR:=hs.rows;have bS:=hs.bF;clear h h2 hs;obtain⟨kind,name,Q8,time,every,space,parts,query,what,cM,a,b,Q9,R2,O7,aP,dx⟩:=q;obtain⟨auE,auF,⟨ED,aoT,EF⟩,auG,asB,asC,asD,⟨⟨VV,VW,VX⟩,qf,qy,⟨VY,VZ,Wa⟩,⟨Wb,Wc,We⟩,⟨Wf,Wh,Wi⟩,⟨Wj,Wk,Wl⟩,⟨Wm,Wo,Wp⟩⟩,auH,aze,a1,b1,⟨EG,aoU,EH⟩,⟨EI,aoV,EJ⟩,⟨uH,asE,uI⟩,fv1,tv1⟩:=y;obtain⟨auI,ann,⟨zf,aoW,zg⟩,auJ,asF,asG,asH,⟨⟨Hp,Hq,Hr⟩,qf2,qy2,⟨Hs,Ht,Hu⟩,⟨Hv,Hw,Hx⟩,⟨Hy,Hz,Ia⟩,⟨Ib,Ic,Ie⟩,⟨Ig,Ih,Ii⟩⟩,auK,azf,a2,b2,⟨zh,aoX,zi⟩,⟨zj,aoY,zk⟩,⟨pL,ahQ,pM⟩,fv2,tv2⟩:=z
 simp only at Q1 SL Q2 SM Q3 SN SP Nh SQ Ni SR Nj Q4 SS aeO Q5 h_a anz h_b anA aeP Q6 aeQ Q7 bC bR bS EA za EB zb EC ze uE pK;subst Q1 SL Q2 SM Q3 SN SP Nh SQ Ni SR Nj Q4 SS aeO Q5 h_a anz h_b anA aeP Q6 aeQ Q7;obtain⟨kv,QE⟩:∃n:Nat,n=Q8.length:=⟨_,rfl⟩;rw[<- QE] at EA za;replace EA:=EA.symm;replace za:=za.symm;subst EA za;have Km:=hid QE;clear QE;obtain⟨ky,QF⟩:∃n:Nat,n=Q9.length:=⟨_,rfl⟩;rw[<- QF] at EB zb;replace EB:=EB.symm;replace zb:=zb.symm;subst EB zb;have Kn:=hid QF;clear QF;obtain⟨kz,QG⟩:∃n:Nat,n=R2.length:=⟨_,rfl⟩;rw[<- QG] at EC ze;replace EC:=EC.symm;replace ze:=ze.symm;subst EC ze;have Ko:=hid QG;clear QG;obtain⟨kH,Ey⟩:∃n:Nat,n=O7.length:=⟨_,rfl⟩;rw[<- Ey] at uE pK;replace uE:=uE.symm;replace pK:=pK.symm;subst uE pK;have ant:=hid Ey;clear Ey O9 P1 P0 P2 P3 P5 P4 P6 P7 P9 P8 Q0;rw[<- Km.out] at bC;rw[<- Kn.out] at bR;rw[<- Ko.out] at bS;obtain⟨fk,fn,fs⟩:=aP;obtain⟨tk,tn,ts⟩:=dx;show Calls Tryz.prog 15 #[.agg #[.int .u8 kind,.string name,.slice ED kv EF,.string time,.int .i64 every,.string space,.int .i64 parts,.slice VV VW VX,.string qf,.bool qy,.slice VY VZ Wa,.slice Wb Wc We,.slice Wf Wh Wi,.slice Wj Wk Wl,.slice Wm Wo Wp,.int .u8 what,.string cM,.int .i64 a,.int .i64 b,.slice EG ky EH,.slice EI kz EJ,.slice uH kH uI,.int .u8 fk,.int .i64 fn,.string fs,.int .u8 tk,.int .i64 tn,.string ts],.agg #[.int .u8 kind,.string name,.slice zf kv zg,.string time,.int .i64 every,.string space,.int .i64 parts,.slice Hp Hq Hr,.string qf2,.bool qy2,.slice Hs Ht Hu,.slice Hv Hw Hx,.slice Hy Hz Ia,.slice Ib Ic Ie,.slice Ig Ih Ii,.int .u8 what,.string cM,.int .i64 a,.int .i64 b,.slice zh ky zi,.slice zj kz zk,.slice pL kH pM,.int .u8 fk,.int .i64 fn,.string fs,.int .u8 tk,.int .i64 tn,.string ts]] W _
 have HQV:∀W,Below w.heap.size w W->Calls Tryz.prog 32 #[.agg #[.slice VV VW VX,.string qf,.bool qy,.slice VY VZ Wa,.slice Wb Wc We,.slice Wf Wh Wi,.slice Wj Wk Wl,.slice Wm Wo Wp],.agg #[.slice Hp Hq Hr,.string qf2,.bool qy2,.slice Hs Ht Hu,.slice Hv Hw Hx,.slice Hy Hz Ia,.slice Ib Ic Ie,.slice Ig Ih Ii]] W λ e w'=>e=.returned (.bool true)/\Below W.heap.size W w':=HQU.out
 clear HQU;have HQU:=hid HQV;clear HQV;go_enter Tryz.func15,Tryz.ntmps15;have hX:=(av.new W 34 #[.int .u8 kind,.string name,.slice ED kv EF,.string time,.int .i64 every,.string space,.int .i64 parts,.slice VV VW VX,.string qf,.bool qy,.slice VY VZ Wa,.slice Wb Wc We,.slice Wf Wh Wi,.slice Wj Wk Wl,.slice Wm Wo Wp,.int .u8 what,.string cM,.int .i64 a,.int .i64 b,.slice EG ky EH,.slice EI kz EJ,.slice uH kH uI,.int .u8 fk,.int .i64 fn,.string fs,.int .u8 tk,.int .i64 tn,.string ts]).alloc (.cells #[.int .u8 kind,.string name,.slice zf kv zg,.string time,.int .i64 every,.string space,.int .i64 parts,.slice Hp Hq Hr,.string qf2,.bool qy2,.slice Hs Ht Hu,.slice Hv Hw Hx,.slice Hy Hz Ia,.slice Ib Ic Ie,.slice Ig Ih Ii,.int .u8 what,.string cM,.int .i64 a,.int .i64 b,.slice zh ky zi,.slice zj kz zk,.slice pL kH pM,.int .u8 fk,.int .i64 fn,.string fs,.int .u8 tk,.int .i64 tn,.string ts] 34);have hZ:=av.new (W.alloc (.cells #[.int .u8 kind,.string name,.slice ED kv EF,.string time,.int .i64 every,.string space,.int .i64 parts,.slice VV VW VX,.string qf,.bool qy,.slice VY VZ Wa,.slice Wb Wc We,.slice Wf Wh Wi,.slice Wj Wk Wl,.slice Wm Wo Wp,.int .u8 what,.string cM,.int .i64 a,.int .i64 b,.slice EG ky EH,.slice EI kz EJ,.slice uH kH uI,.int .u8 fk,.int .i64 fn,.string fs,.int .u8 tk,.int .i64 tn,.string ts] 34)) 34 #[.int .u8 kind,.string name,.slice zf kv zg,.string time,.int .i64 every,.string space,.int .i64 parts,.slice Hp Hq Hr,.string qf2,.bool qy2,.slice Hs Ht Hu,.slice Hv Hw Hx,.slice Hy Hz Ia,.slice Ib Ic Ie,.slice Ig Ih Ii,.int .u8 what,.string cM,.int .i64 a,.int .i64 b,.slice zh ky zi,.slice zj kz zk,.slice pL kH pM,.int .u8 fk,.int .i64 fn,.string fs,.int .u8 tk,.int .i64 tn,.string ts]
 rw[World.size_alloc] at hZ;have hB:=af.then (aa W (.cells #[.int .u8 kind,.string name,.slice ED kv EF,.string time,.int .i64 every,.string space,.int .i64 parts,.slice VV VW VX,.string qf,.bool qy,.slice VY VZ Wa,.slice Wb Wc We,.slice Wf Wh Wi,.slice Wj Wk Wl,.slice Wm Wo Wp,.int .u8 what,.string cM,.int .i64 a,.int .i64 b,.slice EG ky EH,.slice EI kz EJ,.slice uH kH uI,.int .u8 fk,.int .i64 fn,.string fs,.int .u8 tk,.int .i64 tn,.string ts] 34)) (aa _ (.cells #[.int .u8 kind,.string name,.slice zf kv zg,.string time,.int .i64 every,.string space,.int .i64 parts,.slice Hp Hq Hr,.string qf2,.bool qy2,.slice Hs Ht Hu,.slice Hv Hw Hx,.slice Hy Hz Ia,.slice Ib Ic Ie,.slice Ig Ih Ii,.int .u8 what,.string cM,.int .i64 a,.int .i64 b,.slice zh ky zi,.slice zj kz zk,.slice pL kH pM,.int .u8 fk,.int .i64 fn,.string fs,.int .u8 tk,.int .i64 tn,.string ts] 34));open zfp in exact ZcZ
variable{s:List UInt8}{r:aK}
theorem Px{t:Wd} (ht:gV s t=true)(ρ:bw)(w:World)(h:ρ.at w (.good (t::r)) false)(b:Nat)(hb:av w b 9 (aR [s]))(hbg:ρ.g≠b):
  Calls Tryz.prog 131 #[ρ.ptr,.slice (some ⟨b,0,none⟩) 1 1] w (Di ρ w (.good r) false):=by have:=Um ρ w (.good (t::r)) false h [s] b 1 rfl hb hbg Taa;rw[Dh,tY (show(eu.good (t::r)).head s=true from ht)] at this;exact this
structure Xi (ρ:bw) (w:World) (q qx:Nat) (wr:World) (l:aK) (t:Tr) (y:Ex):Prop where
 did:iJ ρ w wr (.good l) false
 blk:av wr qx 36 (aU y).toArray
 res:av wr q 36 #[.int .u8 0,.int .u8 0,.int .i64 0,.string ⟨#[]⟩,.string ⟨#[]⟩,.int .i64 0,.slice none 0 0]
 tr:t.at_ wr (Bx (q+1) qx wr) y
variable{ρ:bw}{wr W2:World}{qx:Nat}{l:aK}{t:Tr}
theorem Xi.more{q:Nat}   {y:Ex}(A:Xi ρ w q qx wr l t y)(d:iJ ρ wr W2 (.good l) false)(h1:ρ.g < q)(h2:q+1<=qx):Xi ρ w q qx W2 l t y:=
 ⟨A.did.trans d,d.blk A.blk Taa,d.blk A.res Taa,Tr.at_.keep (je d.grown Taa) _ _ A.tr⟩
variable{u:Wd}
theorem zgC.Kb1(h:p:=by
 have HP:=iz eH.out y;have HR:=eE HP;unfold gX at HR;obtain⟨r0,r1,r2,r3,r4,r5,r6⟩:=HR;refine bodyPost_ret (v:=eb y) Zca rfl ?_
 ·exact Zf9):p:=h
theorem zaZ.Kaf(h:p:=by open zgC in exact Zel):p:=h
theorem zio.KcQ(h:p:=by
 have Zo:=Dl 3 3 rfl Tad tk;rw[aqz.out] at Zo;have e1:(ρ.n:Int) - (eu.good (tk.w::r)).left+1=(ρ.n:Int) - r.length:=by simp only[eu.left,length_cons];omega
 have wX:=hid e1;have alA:=HA.out.did.at_.left;clear hpl hg fG BH hp hr2 e1;open zaZ in exact Zai):p:=h
theorem zdT.KaZ(h:p:=by
 have hm1:=iW ρ W _ false A.did.at_ ⟨#[105,115]⟩ his;have aqz:=hid hop;clear hop his;refine hm1.mono ?_;rintro e w1 ⟨rfl,d1⟩;replace A:=A.more d1 Taa Taa;clear d1 hm1;go_wp2_with fail;have HA:=hid A;clear A;go_loopg [] 0 (λ k wr=>wr=w1);case atStart=>rfl
 case round=>subst hrel;obtain⟨tk,pl,bd,hpl,hlt,agl,BH,fG,hg,Bd,Cf,hp⟩:=HA.out.did.at_.mN;open zio in exact Zhf):p:=h
theorem zcp.Kav(h:p:=by open zdT in exact ZbC):p:=h
theorem alx(his:ar mz (u::r)=false)(hop:yr 3 u=0)(H:fO 4 l t (u::r)):fO 3 l t (u::r):=by intro ρ w h;have H1:=H;clear H;have br:=h.od;have hb:=aa w xB;have h0:=h.later hb;open zcp in exact ZaO
variable{v:Wd}
theorem zdU.KaZ(h:p:=by
 have hm1:=yt ρ W (.good (u::v::r)) false A.did.at_ ⟨#[105,115]⟩ his;have X6:=λ W' h'=>iW ρ W' (.good (v::r)) false h' ⟨#[110,111,116]⟩ hn
 have HV:=hid hv;clear hn his hv;have HA:=hid A;clear A;refine hm1.mono ?_;rintro e w1 ⟨rfl,d1⟩;go_wp2_with (first
  |(go_at_call 77;refine(X6 _ d1.at_).mono ?_;rintro e w3 ⟨rfl,d3⟩)
  |(go_at_call 131;refine(Px HV.out ρ _ (d3.at_.later (aa w3 (.cells (aR [bT]) 9))) w3.heap.size (av.new _ _ _) (by have:=d3.lt;omega)).mono ?_;rintro e w4 ⟨rfl,d4⟩;have dd:=(d1.trans (d3.later (aa w3 (.cells (aR [bT]) 9)))).trans d4;have h1:=d1.size;have hx:=HA.out.blk.lt;have B0:=dd.blk HA.out.blk Taa;have R0:=dd.blk HA.out.res Taa;have R1:=R0.alloc (Gw y);unfold Gw at R1;obtain⟨x0,x1,x2,x3,x4,x5,x6⟩:=eE B0;obtain⟨z0,z1,z2,z3,z4,z5,z6⟩:=iy R1;obtain⟨y0,y1,y2,y3,y4,y5,y6⟩:=eV R1;have HR1:=hid R1;have rN:=hid R0.lt;clear B0 R0 R1;unfold aU at z0 z1 z2 z3 z4 z5 z6 y0 y1 y2 y3 y4 y5 y6))
 have hx2:=rN.out;have HP:=iz HR1.out (tR 18 w4.heap.size 1);have HR:=eE HP;unfold gX tR tQ aU at HR;obtain⟨r0,r1,r2,r3,r4,r5,r6⟩:=HR;refine bodyPost_ret (v:=eb (tR 18 w4.heap.size 1)) Zca rfl ?_
 ·exact Rx.put br (Nat.le_refl _) ((HA.out.did.trans dd).later (aa w4 _)) (zD 18 (av.new w4 36 (aU y).toArray) ⟨by omega,by simp⟩ (Tr.at_.keep (kT (Nat.le_refl _)) _ _ (Tr.at_.keep (iu (aa w4 _)) _ _ (Tr.at_.keep (je dd.grown Taa) _ _ HA.out.tr))))):p:=h
theorem zcq.Kav(h:p:=by open zdU in exact ZbC):p:=h
theorem alB(his:gV mz u=true)(hn:gV eC v=false)(hv:gV bT v=true)(H:fO 4 l t (u::v::r)):fO 3 l (lO 18 [t]) r:=by intro ρ w h;have H1:=H;clear H;have br:=h.od;have hb:=aa w xB;have h0:=h.later hb;open zcq in exact ZaO
end Go.Proofs.YtehhdlgjfdnafaaGreatDoor
