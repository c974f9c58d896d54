/- Scripts that several proofs use. -/
import Derived.BigQuiet
import Derived.Handy
import Derived.WalkLawsBesides
import Derived.Lib.Hide
import Derived.Deep.AppendLies
import Derived.Deep.RegionWith
import Derived.Laws.EntriesVeiled
import Derived.Shelf.Small.Bits
import Derived.Shelf.Strconv.Itoa3
import Derived.Shelf.SlicesE.Clone
import Derived.Shelf.Spec.BitsCarry
import Derived.Deep.DeepCutAuto
import Derived.Laws.CopyOwn
import Derived.Lib.ItoaLen
import Derived.Lib.AppendZeros
import Derived.Lib.ParseIntB
import Derived.Lib.Case
import Derived.Lib.AppendZerosOnto
import Derived.Lib.Overlaps
import Derived.RangeFuncNested
import Derived.RangeFuncBound
import Derived.Shelf.RegionOpen
import Derived.OwnWalkIn
import Derived.LoopNIn
import Derived.LoopIn
import Derived.Deep.WholeRow
import Derived.Deep.Strs
import Derived.Lay
import Derived.LaidMore
import Derived.Stop.LaidErr
import Derived.HandedShaped
import Derived.Deep.DeepHandedRow
import Derived.Test.YtndgjggokjickaaGreatDoorProg
namespace Go.Proofs.YtndgjggokjickaaGreatDoor
set_option linter.unusedVariables false
open Go.ChangeShapes Go.WideShapes Go.ChangeAt Go.RowKit List
abbrev aj (a b:World):Prop:=Below a.heap.size a b
abbrev ar (f:FuncId)(a:Array Value)(w:World)(q:Ending->World->Prop):Prop:=Calls Tryz.prog f a w q
def fc (p:Prop):Prop:=p
theorem fc.ae {p:Prop}(h:fc p):p:=h
theorem aa {p:Prop}(h:p):fc p:=h
abbrev aw (g:Nat):Value:=.pointer (some ⟨g,0,none⟩)
abbrev bj (g k:Nat):Value:=.pointer (some ⟨g,k,none⟩)
abbrev aF (g n c:Nat):Value:=.slice (some ⟨g,0,none⟩) n c
abbrev az:Value:=.slice none 0 0
abbrev au:Value:=.string ⟨#[]⟩
abbrev af (n:Int):Value:=.int .i64 n
abbrev ag (n:Int):Value:=.int .u8 n
theorem Uaa:(∀{α:Type}(l:List α)(i:Nat),l.toArray[i]?=l[i]?)/\(∀{α:Type}(a:α)(l:List α),(a::l)[0]?=some a)/\∀{α:Type}(a:α)(l:List α)(i:Nat),(a::l)[i+1]?=l[i]?:=by refine⟨?_,?_,?_⟩<;>simp
theorem Uab:(∀{α:Type}(a:α)(l:List α)(i:Nat),(a::l).take (i+1)=a::l.take i)/\(∀{α:Type}(l:List α),l.take 0=[])/\(∀{α:Type}(a:α)(l:List α)(i:Nat),(a::l).drop (i+1)=l.drop i)/\∀{α:Type}(l:List α),l.drop 0=l:=by refine⟨?_,?_,?_,?_⟩<;>simp
theorem Uac:(∀{α:Type}(l:List α)(i:Nat)(a:α),l.toArray.setIfInBounds i a=(l.set i a).toArray)/\(∀{α:Type}(x:α)(l:List α)(i:Nat)(a:α),(x::l).set (i+1) a=x::l.set i a)/\∀{α:Type}(x:α)(l:List α)(a:α),(x::l).set 0 a=a::l:=by refine⟨?_,?_,?_⟩<;>simp
variable{p:Prop}
theorem WC(h:p:=by omega):p:=h
theorem Vx(h:p:=by kernel_rfl):p:=h
theorem Taa(h:p:=by decide):p:=h
theorem Tab(h:p:=by simp;omega):p:=h
theorem Tac(h:p:=by simp):p:=h
theorem Tad(h:p:=by unfold M;simp;omega):p:=h
theorem Tae(h:p:=by simp[results,Tryz.results17,go_sem,dw];try rfl):p:=h
theorem Taf(h:p:=by simp[results,Tryz.results99,go_sem,x0,x1,z2,z3,z4,z5,z6];done):p:=h
theorem Tah(h:p:=by cases h):p:=h
theorem Tai(h:p:=by simp[go_sem,hc.const,h0];done):p:=h
theorem Taj(h:p:=by rw[hg2];exact congrArg some e):p:=h
theorem Tak(h:p:=by simp_all):p:=h
theorem Tal(h:p:=by simpa using h):p:=h
theorem Tam(h:p:=by unfold maxLen;omega):p:=h
theorem Tan(h:p:=by simpa using hlt):p:=h
theorem Tao(h:p:=by simp[results,Tryz.results153,go_sem]):p:=h
theorem Tap(h:p:=by simp[results,Tryz.results59,go_sem]):p:=h
theorem Taq(h:p:=by simp[go_sem,h0];done):p:=h
theorem Tar(h:p:=by simp[go_sem,e1,h0,h1];done):p:=h
theorem Tas(h:p:=by rw[HLEN.ae];omega):p:=h
theorem Tat(h:p:=by simpa [Function.comp_def] using hA):p:=h
theorem Tau(h:p:=by simp[results,Tryz.results61,go_sem,x0,x1,z2,z3,z4,z5,z6];done):p:=h
theorem Tav(h:p:=by simp[go_sem,h0,h1];done):p:=h
theorem Taw(h:p:=by simp[bX,Value.oneCell']):p:=h
theorem Tax(h:p:=by simp[results,Tryz.results16,go_sem]):p:=h
theorem Tay(h:p:=by rw[getElem?_eq_getElem hi,he]):p:=h
theorem Taz(h:p:=by rw[NL.ae];rfl):p:=h
theorem TaA(h:p:=by simp[go_sem,e1,h0];done):p:=h
theorem TaB(h:p:=by simp[go_sem,e1,e2];done):p:=h
theorem TaC(h:p:=by simp[bI,Value.oneCell']):p:=h
theorem TaD(h:p:=by simpa using hi):p:=h
theorem TaE(h:p:=by have:=Am.ae;omega):p:=h
theorem TaF(h:p:=by simp only[Array.size_setIfInBounds];exact hT):p:=h
theorem TaG(h:p:=by simp[go_sem,h1]):p:=h
theorem TaH(h:p:=by rw[td];exact pL):p:=h
theorem TaI(h:p:=by simp[results,Tryz.results130,go_sem]):p:=h
theorem TaJ(h:p:=by simp[results,Tryz.results106,go_sem]):p:=h
theorem TaK(h:p:=by simp[results,Tryz.results64,go_sem]):p:=h
theorem TaL(h:p:=by rw[<- h.len];exact hi):p:=h
theorem TaM(h:p:=by rw[take_append_drop];exact hz):p:=h
theorem TaN(h:p:=by simp[go_sem,hc.const,h0,h1];done):p:=h
theorem TaO(h:p:=by simp[key,o]):p:=h
theorem TaP(h:p:=by simp[h a (by simp)]):p:=h
theorem TaQ(h:p:=by simp only[length_singleton,Nat.min_def];split <;> omega):p:=h
theorem TaR(h:p:=by rw[wI.ae];exact Nat.le_refl _):p:=h
theorem TaS(h:p:=by have:=mO.ae;have:=Ao.ae;omega):p:=h
theorem TaT(h:p:=by have:=AY.ae;have:=U6.ae;omega):p:=h
theorem TaU(h:p:=by rw[Lw];exact congrArg some e):p:=h
theorem TaV(h:p:=by rw[Q1.ae,<- NQ.ae];decide):p:=h
theorem TaW(h:p:=by rw[length_take];omega):p:=h
theorem TaX(h:p:=by rw[SG];exact Ev):p:=h
theorem TaY(h:p:=by simp[df,Value.oneCell']):p:=h
theorem TaZ(h:p:=by simp[dQ,Value.oneCell']):p:=h
theorem Ta0(h:p:=by simp[aX,Value.oneCell']):p:=h
theorem Ta1(h:p:=by simp[aU,Value.oneCell']):p:=h
theorem Ta2(h:p:=by simp[results,Tryz.results161,go_sem,dw];try rfl):p:=h
theorem Ta3(h:p:=by have hl2:=HLT.ae;simp[go_sem,h0,h1,hl2,dR];done):p:=h
theorem Ta4(h:p:=by simpa using hz):p:=h
theorem Ta5(h:p:=by simpa using hk):p:=h
theorem Ta6(h:p:=by rw[mV.ae];simp):p:=h
theorem Ta7(h:p:=by simp[results,Tryz.results111,go_sem];try rfl):p:=h
theorem Ta8(h:p:=by simp[results,Tryz.results109,go_sem];try rfl):p:=h
theorem Ta9(h:p:=by simp[execOp,h1,h2,hl]):p:=h
theorem Tba(h:p:=by rw[fq];exact h6.old):p:=h
theorem Tbb(h:p:=by rw[e]):p:=h
theorem Tbc(h:p:=by have:=pR.ae.base.size;have:=mO.ae;omega):p:=h
theorem Tbd(h:p:=by simp[hx]):p:=h
theorem Tbe(h:p:=by simp[go_sem,h1,c0]):p:=h
theorem Tbf(h:p:=by rw[I.len];exact zK):p:=h
theorem Tbg(h:p:=by show w.heap.size≠w1.heap.size;omega):p:=h
theorem Tbh(h:p:=by injection e):p:=h
theorem Tbi(h:p:=by simp[results,Tryz.results129,go_sem]):p:=h
theorem Tbj(h:p:=by simp[results,Tryz.results105,go_sem]):p:=h
theorem Tbk(h:p:=by rw[tI.ae,hs,if_neg (by simp),HGI.ae]):p:=h
theorem Tbl(h:p:=by have:=HN.ae;omega):p:=h
theorem Tbm(h:p:=by simpa using(by omega:s[0].toNat=48)):p:=h
theorem Tbn(h:p:=by simp[results,Tryz.results84,go_sem]):p:=h
theorem Tbo(h:p:=by simp[results,Tryz.results70,go_sem]):p:=h
theorem Tbp(h:p:=by simp[results,Tryz.results51,go_sem]):p:=h
theorem Tbq(h:p:=by simp[results,Tryz.results38,go_sem]):p:=h
theorem Tbr(h:p:=by simp[results,Tryz.results34,go_sem]):p:=h
theorem zbG.Kak(h:p:=by exact Zfs):p:=h
theorem zbH.Kak(h:p:=by exact ZfL):p:=h
theorem zd0.KaK(h:p:=by
 have EI:(p:Int) - (jp:Int)=((p - jp:Nat):Int):=by omega
 have c1:=λ q:Ext wr.heap.size wr=>(H2.ae.at_.later q.h).cell (p - jp) WC
 have lG:=λ q:Ext wr.heap.size wr=>(H2.ae.at_.later q.h).dH (p - jp) WC
 have c2:=λ q:Ext wr.heap.size wr=>(H2.ae.at_.later q.h).cell jp WC
 have lH:=λ q:Ext wr.heap.size wr=>(H2.ae.at_.later q.h).dH jp WC
 have hc:=λ q:Ext wr.heap.size wr=>H2.ae.cmp (p - jp) jp WC WC q.h
 by_cases hcs:jp < s
 ·have t2:=decide_eq_false (show¬gC (D (p - jp)) (D jp)< 0 from HF.ae.low jp WC hcs);refine aD 14 wr.heap.size wr (Below.refl _ _) Vx Vx Vx Vx ?_;open zbG in exact ZaC
 ·have t2:=decide_eq_true (show gC (D (p - jp)) (D jp)< 0 from HF.ae.high jp WC WC);refine aD 14 wr.heap.size wr (Below.refl _ _) Vx Vx Vx Vx ?_;open zbH in exact ZaC):p:=h
theorem ZU(h:p:=by go_upto_region 35 with fail;open zd0 in exact Zbp):p:=h
theorem zb4.Kan(h:p:=by exact Zfs):p:=h
theorem zb5.Kan(h:p:=by exact ZfL):p:=h
theorem zd1.KaK(h:p:=by
 have EI:(p:Int) - (jp:Int)=((p - jp:Nat):Int):=by omega
 have c1:=λ q:Ext wr.heap.size wr=>(H2.ae.at_.later q.h).cell (p - jp) WC
 have c2:=λ q:Ext wr.heap.size wr=>(H2.ae.at_.later q.h).cell jp WC
 have hc:=λ q:Ext wr.heap.size wr=>H2.ae.cmp (p - jp) jp WC WC q.h
 by_cases hcs:jp < s
 ·have t2:=decide_eq_false (show¬bu (D (p - jp)).l (D jp).l < 0 from HF.ae.low jp WC hcs);refine aD 14 wr.heap.size wr (Below.refl _ _) Vx Vx Vx Vx ?_;open zb4 in exact ZaF
 ·have t2:=decide_eq_true (show bu (D (p - jp)).l (D jp).l < 0 from HF.ae.high jp WC WC);refine aD 14 wr.heap.size wr (Below.refl _ _) Vx Vx Vx Vx ?_;open zb5 in exact ZaF):p:=h
theorem Zaa(h:p:=by go_upto_region 35 with fail;open zd1 in exact Zbp):p:=h
theorem Zab(h:p:=by intro ρ W4 hc hL hr;exact Zca):p:=h
theorem zhx.KbV(h:p:=by
 have cL:=PW.ae;have Gt:=cL.frozen;have y0:=cL.cell 0;have y1:=cL.cell 1;have y2:=cL.cell 2;have y3:=cL.cell 3;have o4:=cL.cell 4;have o5:=cL.cell 5;have y6:=cL.cell 6;simp only[Uaa] at y0 y1 y2 y3 o4 o5 y6;have hne:g9≠g4:=Ne.symm Xc.ae.1;clear Jn cL;go_wp2_with fail;clear z0 z1 x2 x3 x4 x5 x6 y0 y1 y2 y3 o4 o5 y6 Gt hne;generalize uR:World.setCell _ _ _=W9;have hR:aC W9 g4 46 #[.int .u8 2,.int .u8 0,.int .i64 0,.string ⟨#[]⟩,.string nm,.int .i64 0,.slice none 0 0]:=by rw[<- uR];simpa using(((((((PW.ae.aW 0 _).aW 1 _).aW 2 _).aW 3 _).aW 4 _).aW 5 _).aW 6 _)
 have kI:WD.grownBy W9 (some g4):=by rw[<- uR];exact aG (aG (aG (aG (aG (aG (aG (aT (Below.refl _ _)) _ _) _ _) _ _) _ _) _ _) _ _) _ _
 clear uR;have x0:=hR.cell 0;have x1:=hR.cell 1;have z2:=hR.cell 2;have z3:=hR.cell 3;have z4:=hR.cell 4;have z5:=hR.cell 5;have z6:=hR.cell 6
 simp only[Uaa] at x0 x1 z2 z3 z4 z5 z6;refine bodyPost_ret (v:=.tuple #[.agg #[.int .u8 2,.int .u8 0,.int .i64 0,.string ⟨#[]⟩,.string nm,.int .i64 0,.slice none 0 0],.int .i64 0]) Taf rfl ?_;have hkD:=C3.ae.kp (ey.2 CY.ae);exact⟨⟨2,⟨0,0,⟨#[]⟩⟩,nm,0,none,0,0⟩,_,_,_,rfl,by rw[Sv.ae];exact Ca s.aL.length _ _,(by
  have h9:=agH.ae.aside kI hkD (Nat.le_trans pR.ae.base.size mO.ae)
  rw[Sv.ae] at h9
  exact h9),(((gM.refl gp w (Value.slice UA ya.length uc) (Value.slice VA s.aL.length vc)).later Gv.ae).trans C3.ae).own kI mO.ae⟩):p:=h
theorem Zac(h:p:=by
 have gX:=K2.ae.blk;unfold PC.cells at gX;have c10:=gX.cell 10;simp only[Uaa] at c10;clear gX;go_wp2_with fail;refine(pz s.aL.length WC WC WA (je.ae.env.later K2.ae.base)).mono ?_;rintro e w7 ⟨rfl,q4⟩;have tR:=aa (K2.ae.later q4);have wP:=aa (K3.ae.later q4);have HK:=aa (K6.ae.later q4);clear q4 K2 K3 K6 c10;unfold mK Lp;obtain⟨nm,iO⟩:∃nm,nm=iV s.aL.length:=⟨_,rfl⟩;rw[<- iO];have Sv:=aa iO;clear iO;go_upto_region 13 with fail;have kI:=aC.new w7 46 #[.int .u8 2,.int .u8 0,.int .i64 0,.string ⟨#[]⟩,.string nm,.int .i64 0,.slice none 0 0];have Gw:=ah w7 (.cells #[.int .u8 2,.int .u8 0,.int .i64 0,.string ⟨#[]⟩,.string nm,.int .i64 0,.slice none 0 0] 46);generalize w7.alloc (.cells #[.int .u8 2,.int .u8 0,.int .i64 0,.string ⟨#[]⟩,.string nm,.int .i64 0,.slice none 0 0] 46)=WB at*;obtain⟨g9,B7⟩:∃g9,g9=w7.heap.size:=⟨_,rfl⟩;rw[<- B7] at kI ⊢;have Vo:=aa kI;have kR:=aa (tR.ae.later Gw);have B8:=aa (wP.ae.later Gw);have B9:=aa (HK.ae.later Gw);have Xc:=aa (show g4≠g9/\gp≠g9 from⟨by have:=HK.ae.lt;omega,by have:=tR.ae.blk.lt;omega⟩);clear kI Gw B7 tR wP HK;refine fu _ _ (take_append_drop 13 _).symm (AR aU 113 2 w0.heap.size (Value.slice VA s.aL.length vc) s.aL ⟨nm,ty⟩) AR.refl (λ _ _ _=>AR.trans) AR.drew (abm gp g9 w0.heap.size WB (Value.slice VA s.aL.length vc) s.aL nm ty) (λ i w w' x h hr=>CX _ _ _ _ _ _ _ _ _ _ _ _ h hr) Vx Vx Vx ?_ ?_
 ·simp only[take_succ_cons,take_zero];refine⟨Za2,Za2,Za2,ZeC,?_,?_,?_,?_,?_,?_,?_,Za2,ZeC,trivial⟩
  ·intro ρ W4 hc hL hr;have h0:_=_:=hr.1;have kQ:=dC kR.ae.blk kR.ae.dK Taa hL.grown;exact ZdU
  ·intro ρ W4 hc hL hr;have h0:_=_:=hr.1;exact aq (v:=.pointer (some ⟨g9,4,none⟩)) (w':=W4) Tai ⟨AR.refl _,rfl⟩
  ·intro ρ W4 hc hL hr;have h0:_=_:=hr.1;have hb9:=dC Vo.ae kR.ae.dK Taa hL.grown;have x4:=hb9.cell 4;simp only[Uaa] at x4;exact aq (w':=W4) (by simp[go_sem,h0,x4];done) ⟨AR.refl _,rfl⟩
  ·intro ρ W4 hc hL hr;have h0:_=_:=hr.1;exact aq (v:=.int .u8 ty) (w':=W4) Tai ⟨AR.refl _,rfl⟩
  ·intro ρ W4 hc hL hr;have h0:_=_:=hr.1;have h1:_=_:=hr.2.1;exact aq (v:=.agg #[.string nm,.int .u8 ty]) (w':=W4) TaN ⟨AR.refl _,rfl⟩
  ·intro ρ W4 hc hL hr;have h0:_=_:=hr.1;refine aq (v:=.slice (some ⟨W4.heap.size,0,none⟩) 1 1) (w':=W4.alloc (.cells #[.string nm,.int .u8 ty] 113)) Taq ⟨AR.later (ah W4 _),⟨_,rfl,aC.new W4 _ _,λ e=>?_⟩⟩;have:=((hL.old kR.ae.dK).lt e).1;omega
  ·intro ρ W4 hc hL hr;have h0:_=_:=hr.1;obtain⟨q1,h1,uS,Jl⟩:∃q:Nat,ρ (.tmp 79)=.slice (some ⟨q,0,none⟩) 1 1/\aC W4 q 113 (aU ⟨nm,ty⟩).toArray/\(Value.slice VA s.aL.length vc).ownBlock≠some q:=hr.2.1;obtain⟨v',w',hrun,ho,yS,Eu⟩:=eO (P:=Tryz.prog) (w:=W4) 28 28 _ 24 Tryz.underlying28 rT rfl WC (λ _=>rfl) Ta1 (hL.old kR.ae.dK) q1 uS (by show(s.aL.length+1)*24<=_;omega) (by show s.aL.length+1<=_;omega) (Nat.le_trans kR.ae.base.size hL.grown.size);exact Zcb
 intro W3 hL;simp only[Uab];rintro a0 - a1 - a2 - a3 - a4 - a5 - a6 - a7 - a8 - a9 - FN ⟨asO,rfl,Da,ME⟩ C1 - _ rfl;simp only[bF,Act.put,Uac];obtain⟨VB,vcb,hVB,_⟩:=Da.reads;rw[length_append,length_singleton] at hVB;subst hVB;have HOC:=aa Da;have HMC:=aa ME;have MY:=aa hL.grown;have kQ:=dC kR.ae.blk kR.ae.dK Taa hL.grown;have f10:=kQ.frozen 10;unfold PC.cells at kQ;have c10:=kQ.cell 10;simp only[Uaa] at c10;have Qg:=aa (dC Vo.ae kR.ae.dK Taa hL.grown);have HZC:=aa (dC B9.ae kR.ae.dK Taa hL.grown);clear Da ME kQ hL Vo B9;go_upto_region 14 with fail;clear f10 c10;have agH:=aa (kR.ae.Qk HOC.ae MY.ae);have C3:=aa (B8.ae.trans (gM.B6 (gp:=gp) MY.ae HMC.ae (Value.slice VB (s.aL.length+1) vcb) 10));have SP:=aa (Qg.ae.far (p:=⟨gp,10,none⟩) (Ne.symm Xc.ae.2) (Value.slice VB (s.aL.length+1) vcb));have PW:=aa (HZC.ae.far (p:=⟨gp,10,none⟩) CY.ae.2.1 (Value.slice VB (s.aL.length+1) vcb));clear kR B8 Qg HZC HOC HMC MY;generalize World.setCell W3 _ _=WD at*;open zhx in exact Ze0):p:=h
theorem zhX.Kb3(h:p:=by
 have c2:=λ y:Ext W.heap.size W=>hu.keep (w':=y.w) λ o=>y.cell (p:=⟨b,o,none⟩) hb2
 unfold eh at c1 c2;exact KG):p:=h
theorem zc6.KaA(h:p:=by
 replace hv:=hv.keep (w':=W) λ o=>hB.cell (p:=⟨b,o,none⟩) hb
 replace hu:=hu.keep (w':=W) λ o=>hB.cell (p:=⟨b,o,none⟩) hb
 open zhX in exact Zfe):p:=h
theorem Zad(h:p:=by open zc6 in exact ZaV):p:=h
theorem Zae(h:p:=by
 obtain⟨i0,kB,Q0⟩:=lp h0;obtain⟨Kx,⟨hi,hu⟩,Be⟩:=least (p:=λ Kx=>Kx < l.length/\listed.getD Kx false=false) i0 ⟨kB,Q0⟩
 have mL:∀i,i < Kx->listed.getD i false=true:=λ i hj=>by
  cases hc:listed.getD i false with
  | true=>rfl
  | false=>exact absurd ⟨by omega,hc⟩ (Be i hj)
 have Ny:l[Kx]?=some l[Kx]:=getElem?_eq_getElem hi;have vz:=cH bh Kx _ Ny;simp only[lN,Bool.and_eq_true,Nat.zero_add] at vz
 have iP:Kx∈Region.ready .any (l++zs).toArray listed:=by
  refine qR (nZ Ny) ?_ λ i hj=>mL i (of_decide_eq_true (List.all_eq_true.1 vz.1.1.1 i hj))
  rw[et (by rw[I.len];simp;omega)];exact hu
 refine⟨(λ hnil=>by rw[hnil] at iP;cases iP),λ i hj=>?_⟩;obtain⟨Bf,oj,oV,hall⟩:=mem_ready.1 hj
 have zK:i <(l++zs).length:=by
  rcases Nat.lt_or_ge i (l++zs).length with h' | h'
  ·exact h'
  ·rw[Array.getElem?_eq_none (by simpa using h')] at oV;cases oV
 rw[et Tbf] at Bf;have eZ:∀k∈eY oj,listed.getD k false=true:=λ k hk=>by obtain⟨e,he,hb,rfl⟩:=js.1 hk;exact hall e he hb
 have ui:i < l.length:=by
  rcases Nat.lt_or_ge i l.length with h' | h'
  ·exact h'
  ·exfalso
   have X0:zs[i - l.length]?=some oj:=by
    have:(l++zs)[i]?=some oj:=by simpa using oV
    rw[getElem?_append_right WC] at this;exact this
   have Rp:=iG hz (i - l.length) oj X0;rw[show l.length+(i - l.length)=i by omega] at Rp;have hc:=iH (L:=l++zs) (λ k=>listed.getD k false=true) (by
    intro k ok hk hd e he
    rcases Nat.lt_or_ge k l.length with NT | NT
    ·rw[getElem?_append_left NT] at hk
     exact I.closed k ok hk hd e he
    ·rw[I.tail k NT] at hd;cases hd) i (eY oj) Rp.2 eZ Kx WC
   rw[hu] at hc;cases hc
 have vy:l[i]?=some oj:=by
  have:(l++zs)[i]?=some oj:=by simpa using oV
  rw[getElem?_append_left ui] at this;exact this
 exact KW):p:=h
theorem zjI.KcN(h:p:=by
 unfold bT;go_wp2_with fail;have HV:=aC.new W3 44 (aH v);have bG:=ah W3 (.cells (aH v) 44);have b1:=ai.then hb1 bG;have xB:=HO;replace HO:=aa (HO.ae.later b1);replace HK:=aa (HK.ae.later b1);replace hb:=ai.then hb b1;have hsz:wr.heap.size<=W3.heap.size:=hb1.size;have hne:∀u,aI aX 44 3 wr W.heap.size u ((args.take i).map (·.2))->some W3.heap.size≠u.ownBlock:=λ u hu e=>by have:=(hu.lt e.symm).1;omega
 have Oh:=hne _ xB.ae;clear hne b1 hb1 Kx bY bG gD hex xB;generalize W3.alloc (.cells (aH v) 44)=w2 at*;generalize W3.heap.size=Ly at*;have Bn:((args.take i).map (·.2)).length<=1599289640356:=by simp;omega
 have LE:((args.take i).map (·.2.k)).length<=1599289640356:=by simp;omega
 generalize Z9:(args.take i).map (·.2)=vs at*;generalize qj:(args.take i).map (·.2.k)=ks at*;have HVS:=aa Z9;have Oj:=aa qj;clear Z9 qj;have hbase:W.heap.size<=w2.heap.size:=hb.size;have akd:vs.length<=1599289640356:=Bn;refine fu _ _ (take_append_drop 8 _).symm (AR aX 44 3 W.heap.size u8 vs v) AR.refl (λ _ _ _=>AR.trans) AR.drew (evV W.heap.size u8 u9 vs v Ly) (λ MY w w' u h hr=>Fh _ _ _ _ _ _ _ _ _ _ h hr) Vx Vx Vx ?_ ?_
 ·simp only[take_succ_cons,take_zero];refine⟨Zhn,Zfr,?_,?_,Zhn,?_,Zfr,?_,trivial⟩
  ·intro ρ W4 hc hL hr;have h1:_=_:=hr.1;refine aq (v:=aF W4.heap.size 1 1) (w':=W4.alloc (.cells (aH v) 44)) TaG ⟨AR.later (ah W4 _),⟨_,rfl,aC.new W4 _ _,λ e=>?_⟩⟩;have:=((hL.old HO.ae).lt e.symm).1;omega
  ·intro ρ W4 hc hL hr;have h1:_=_:=hr.1;obtain⟨q,h2,h3,h4⟩:∃q,ρ (.tmp 37)=aF q 1 1/\aC W4 q 44 (aX v).toArray/\some q≠u8.ownBlock:=hr.2.1;obtain⟨v',w',hrun,ho,yS⟩:=fg (P:=Tryz.prog) (w:=W4) 38 38 _ 32 Tryz.underlying38 lT rfl WC (λ _=>rfl) Ta0 (hL.old HO.ae) q h3 WC WC (Nat.le_trans hbase hL.grown.size);exact aq (v:=v') (w':=w') (by simp only[execOp,resolve,invoke,builtin,Sem.run_bind,Sem.run_pure,Result.andThen_ok,map_toArray,map_cons,map_nil,h1,h2,hrun]) ⟨yS,ho⟩
  ·intro ρ W4 hc hL hr;have h1:_=_:=hr.1;exact aq (w':=W4) TaG ⟨AR.refl _,rfl⟩
  ·intro ρ W4 hc hL hr;have h1:_=_:=hr.1;refine aq (v:=aF W4.heap.size 1 1) (w':=W4.alloc (.cells #[ag v.k] 5)) TaG ⟨AR.later (ah W4 _),⟨_,rfl,aC.new W4 _ _,λ e=>?_⟩⟩;have:=((hL.old HO.ae).lt e.symm).1;omega
 ·intro W4 hL;simp only[Uab];intro a0 h0 a1 h1 a2 h2 v3 hO3 a4 h4 a5 h5 a6 h6 a7 h7;obtain⟨q2,h2,_⟩:=h2;obtain⟨q7,h7,hq7,_⟩:=h7;have h0:u8=a0:=Eq.symm h0;have h4:u9=a4:=Eq.symm h4;have h1:_=a1:=Eq.symm h1;have h2:_=a2:=Eq.symm h2;have h5:_=a5:=Eq.symm h5;have h6:_=a6:=Eq.symm h6;have h7:_=a7:=Eq.symm h7;subst h0 h1 h2 h4 h5 h6 h7;have hO3:aI aX 44 3 W4 W.heap.size v3 (vs++ [v]):=hO3;have hK3:=HK.ae.past HO.ae Taa hL.grown;have hb3:=hb.trans (bw HO.ae hL.grown hbase);have TJ:=aa hO3;have DY:=aa hK3;have HQ7:=aa hq7;have Bo:=hb3.size;clear hO3 hK3 hq7 HO HK hL HV Oh hb;simp only[bF,Act.put,Uac];go_wp2_with (first
   |(at_builtin
     refine aV rfl (.tmp 39) (.tmp 42) 97 rfl _ 1 Tryz.underlying97 oY rfl WC v.k rfl TaZ rfl DY.ae q7 rfl HQ7.ae WC WC Bo ?_
     intro v4 w4 z4 g4
     have b4:=bw DY.ae g4 Bo
     have z3:=TJ.ae.past DY.ae Taa g4
     have O4:=aa z4
     have O3:=aa z3
     clear z4 g4 DY TJ HQ7 z3))
  go_roundw
  case rel=>
   refine⟨i+1,hlt,by go_num,?_,?_,hb3.trans b4⟩
   ·rw[HT.ae,map_append,HVS.ae];exact O3.ae
   ·rw[HT.ae,map_append,Oj.ae];exact O4.ae
  case measure=>exact Za6):p:=h
theorem zdP.KaI(h:p:=by open zjI in exact ZiA):p:=h
theorem Zaf(h:p:=by open zdP in exact Zbn):p:=h
theorem zfI.Kbc(h:p:=by
 unfold qI at*;unfold dv.ptr;obtain⟨tk,pl,bd,hpl,hlt,hsm,uH,ck,KK,JZ,vn,hp⟩:=h0.wG;obtain⟨r',ny⟩:=KK _ rfl;have Zq:t=tk.w:=by injection ny
 have Et:bd < 0:=by simpa [cq.gT] using ck
 subst Zq;have T4:=h0.left;have Ea:=hp.later (ah _ qC);have LO:=hp.later ((ah _ (.cells (dF tk) 172)).drew);have hb3:=(ah (w.alloc (.cells #[ag 0,ag 0,af 0,au,au,af 0,az] 46)) (.cells (dF tk) 172)).drew;have HT:=(aC.new (w.alloc (.cells #[ag 0,ag 0,af 0,au,au,af 0,az] 46)) 172 (dF tk)).drew;rw[hsz] at HT;have Kx:=aa (h0.later hb3);have HD:=aa ((eF.cZ h hb).later hb3);have nx:=aa (HQ.ae.later hb3);have oC:=(h0.later hb3).facts.2.2.2.2.1;have Cs:((w.alloc (.cells #[ag 0,ag 0,af 0,au,au,af 0,az] 46)).alloc (.cells (dF tk) 172)).drew.heap.size=w.heap.size+2:=by simp
 exact Kaa):p:=h
theorem Zag(h:p:=by open zfI in exact ZcY):p:=h
theorem zch.Kar(h:p:=by exact Kab):p:=h
theorem zhd.KbM(h:p:=by have jI:=aa (eH D s m f WC WC);open zch in exact ZaK):p:=h
theorem zfQ.Kbf(h:p:=by have EK:decide (m < f)=true:=decide_eq_true k1;have EL:decide (a < s)=false:=decide_eq_false k2;open zhd in exact ZeO):p:=h
theorem Zah(h:p:=by open zfQ in exact Zdc):p:=h
theorem zcB.Kau(h:p:=by exact Kac):p:=h
theorem zfR.Kbf(h:p:=by have EK:decide (m < f)=true:=decide_eq_true k1;have EL:decide (a < s)=false:=decide_eq_false k2;have EM:decide (s < mid)=true:=decide_eq_true k3;have Nd:decide (mid < f)=true:=decide_eq_true k4;have Nf:decide (f < b)=false:=decide_eq_false k5;go_wp2_with fail;refine(cC w0 g n cap s m f D _ H2.ae hn WC WC WC).mono ?_;rintro e_ w5 ⟨rfl,h5⟩;have H3:=aa h5;clear h5 H2;have jI:=aa (eH D s m f WC WC);open zcB in exact ZaN):p:=h
theorem Zai(h:p:=by open zfR in exact Zdc):p:=h
theorem ze1.KaY(h:p:=by exact Kad):p:=h
theorem zhe.KbM(h:p:=by have jI:=aa (eH D s m f WC WC);generalize aO D s m f=R at*;go_wp2_with fail;refine(IH.ae a s mid R _ WC WC WC WC H3.ae Q1.ae HH.ae).mono ?_;rintro e_ w6 ⟨rfl,E,hs,hw,ho⟩;have H4:=aa hs;have HW:=aa hw;have HO:=aa ho;clear hs hw ho H3;open ze1 in exact Zco):p:=h
theorem zfS.Kbf(h:p:=by have EK:decide (m < f)=true:=decide_eq_true k1;have EL:decide (a < s)=true:=decide_eq_true k2;open zhe in exact ZeO):p:=h
theorem Zaj(h:p:=by open zfS in exact Zdc):p:=h
theorem zh8.Kb8(h:p:=by exact Kae):p:=h
theorem Zak(h:p:=by
 have nR:s=i:=by omega
 have nS:s=j:=by omega
 subst nR nS;clear hlt hi hj iM nQ HF;have EJ:decide (s < m)=true:=decide_eq_true k0;have EK:decide (m < f)=true:=decide_eq_true k1;have EL:decide (a < s)=true:=decide_eq_true k2;have EM:decide (s < mid)=true:=decide_eq_true k3;have Nd:decide (mid < f)=true:=decide_eq_true k4;have Nf:decide (f < b)=false:=decide_eq_false k5;go_wp2_with fail;refine(cC w0 g n cap s m f D _ H2.ae hn WC WC WC).mono ?_;rintro e_ w5 ⟨rfl,h5⟩;have H3:=aa h5;clear h5 H2;have jI:=aa (eH D s m f WC WC);generalize aO D s m f=R at*;go_wp2_with fail;refine(IH.ae a s mid R _ WC WC WC WC H3.ae Q1.ae HH.ae).mono ?_;rintro e_ w6 ⟨rfl,E,hs,hw,ho⟩;have H4:=aa hs;have HW:=aa hw;have HO:=aa ho;clear hs hw ho H3;go_wp2_with fail;have nT:=aa (Q3.ae.congr (E:=E) λ x h1 h2=>HW.ae.ae x (.inr h1));have nU:=aa (Q4.ae.congr (E:=E) λ x h1 h2=>HW.ae.ae x (.inr WC));have H6:=aa (show bc E mid b from by
  rcases(show f=mid\/f=b by omega)with e | e
  ·have:=nU.ae;rwa [e] at this
  ·have:=nT.ae;rwa [e] at this)
 open zh8 in exact Zfq):p:=h
theorem Zal(h:p:=by have YES:=aa (show∀w2,aj w w2->ru w (.returned (.bool true)) w2 from λ w2 h=>⟨true,rfl,h⟩);obtain⟨vn,WI,hn3⟩:=hn;clear b1 k1;go_enter Tryz.func21,Tryz.ntmps21;go_upto_region 1 with fail;change Code.wp _ _ _ _ (w.alloc (.cells #[ag 0,au,az,au,af 0,au,af 0,.slice L.i.A L.i.n L.i.c,.string q.bZ,.bool q.only,.slice L.w.A L.w.n L.w.c,.slice L.g.A L.g.n L.g.c,.slice L.h.A L.h.n L.h.c,.slice L.o.A L.o.n L.o.c,.slice L.l.A L.l.n L.l.c,ag 0,au,af 0,af 0,az,az,az,ag 0,af 0,au,ag 0,af 0,au] 64));generalize w.alloc _=W1 at*;obtain⟨sv,Dh⟩:∃sv,sv=Value.agg #[ag 0,au,az,au,af 0,au,af 0,.slice L.i.A L.i.n L.i.c,.string q.bZ,.bool q.only,.slice L.w.A L.w.n L.w.c,.slice L.g.A L.g.n L.g.c,.slice L.h.A L.h.n L.h.c,.slice L.o.A L.o.n L.o.c,.slice L.l.A L.l.n L.l.c,ag 0,au,af 0,af 0,az,az,az,ag 0,af 0,au,ag 0,af 0,au]:=⟨_,rfl⟩;rw[<- Dh];clear Dh;obtain⟨gs,qL⟩:∃gs,gs=w.heap.size:=⟨_,rfl⟩;exact Kaf):p:=h
theorem Zam(h:p:=by have HR9:=aa hr;clear hr;unfold bT;clear z0 z1 x2 x3 x4 x5 x6 x0 x1 z2 z3 z4 z5 dw gV;replace cL:=cL.later b5;replace hB:=ai.then hB b5;have dw:=aJ cL;have gV:=aC.frozen cL;go_wp2_with fail;exact bodyPost_ret (v:=.tuple #[.agg (aH r.1),af r.2]) Tae rfl ⟨congrArg (λ r:Val×Int=>Ending.returned (bT r.1 r.2)) NX.ae.symm,((hB.setCell bK _).setCell bK _).setCell bK _⟩):p:=h
theorem zjw.KcI(h:p:=by
 by_cases c3:m < f
 ·by_cases c4:a < s <;> by_cases c5:f < b
  ·exact yF w0 g n cap a m b mid p s f s0 r0 D w h hn WC WC hb cE hp hf hs0 kz hm hs1 hs2 hF e1 e2 e3 e4 e5 WC c3 c4 WC WC c5 ih'
  ·exact yG w0 g n cap a m b mid p s f s0 r0 D w h hn WC WC hb cE hp hf hs0 kz hm hs1 hs2 hF e1 e2 e3 e4 e5 WC c3 c4 WC WC c5 ih'
  ·exact yH w0 g n cap a m b mid p s f s0 r0 D w h hn WC WC hb cE hp hf hs0 kz hm hs1 hs2 hF e1 e2 e3 e4 e5 WC c3 c4 WC WC c5 ih'
  ·exact yI w0 g n cap a m b mid p s f s0 r0 D w h hn WC WC hb cE hp hf hs0 kz hm hs1 hs2 hF e1 e2 e3 e4 e5 WC c3 c4 WC WC c5 ih'
 ·exact JD w0 g n cap a m b mid p s f s0 r0 D w h hn WC WC hb cE hp hf hs0 kz hm hs1 hs2 hF e1 e2 e3 e4 e5 WC c3 WC WC WC WC ih'):p:=h
theorem zjx.KcI(h:p:=by
 by_cases c3:s < m
 ·by_cases c4:a < s <;> by_cases c5:f < b
  ·exact yJ w0 g n cap a m b mid p s f s0 r0 D w h hn WC WC hb cE hp hf hs0 kz hm hs1 hs2 hF e1 e2 e3 e4 e5 c3 WC c4 WC WC c5 ih'
  ·exact yK w0 g n cap a m b mid p s f s0 r0 D w h hn WC WC hb cE hp hf hs0 kz hm hs1 hs2 hF e1 e2 e3 e4 e5 c3 WC c4 WC WC c5 ih'
  ·exact yL w0 g n cap a m b mid p s f s0 r0 D w h hn WC WC hb cE hp hf hs0 kz hm hs1 hs2 hF e1 e2 e3 e4 e5 c3 WC c4 WC WC c5 ih'
  ·exact yM w0 g n cap a m b mid p s f s0 r0 D w h hn WC WC hb cE hp hf hs0 kz hm hs1 hs2 hF e1 e2 e3 e4 e5 c3 WC c4 WC WC c5 ih'
 ·by_cases c4:s < mid
  ·exact Dv w0 g n cap a m b mid p s f s0 r0 D w h hn WC WC hb cE hp hf hs0 kz hm hs1 hs2 hF e1 e2 e3 e4 e5 c3 WC c4 WC ih'
  ·exact Dw w0 g n cap a m b mid p s f s0 r0 D w h hn WC WC hb cE hp hf hs0 kz hm hs1 hs2 hF e1 e2 e3 e4 e5 c3 WC c4 WC ih'):p:=h
theorem Zan(h:p:=by
 obtain⟨mid,cE⟩:∃q:Nat,q=(a+b)/ 2:=⟨_,rfl⟩;obtain⟨p,hp⟩:∃q:Nat,q=mid+m - 1:=⟨_,rfl⟩;by_cases hm:mid < m
 ·obtain⟨s0,hs0⟩:∃q:Nat,q=mid+m - b:=⟨_,rfl⟩;obtain⟨r0,kz⟩:∃q:Nat,q=mid:=⟨_,rfl⟩;have he:mg a m b mid s0 r0:=⟨⟨h1,h2⟩,cE,.inl ⟨by omega,hs0,kz⟩⟩;open zjw in exact Zil
 ·obtain⟨s0,hs0⟩:∃q:Nat,q=a:=⟨_,rfl⟩;obtain⟨r0,kz⟩:∃q:Nat,q=m:=⟨_,rfl⟩;have he:mg a m b mid s0 r0:=⟨⟨h1,h2⟩,cE,.inr ⟨by omega,hs0,kz⟩⟩;open zjx in exact Zil):p:=h
theorem Zao(h:p:=by refine⟨λ _=>?_,λ hn=>absurd hg hn⟩;exact Zca):p:=h
theorem zjn.KcE(h:p:=by
 have EN:=aa (Q1.ae.step Q3.ae ih ho);have HH3:=aa (HH.ae.step WC ih);have IV:=aa (Nat.dvd_add Q3.ae (Nat.dvd_refl (2*j)));clear hF ih ho Q3 GN Q1 HH IH HF HC;go_wp2_with fail;go_roundw;case rel=>exact⟨a+2*j,G,IV.ae,by omega,by go_num,by go_num,H2.ae,HW.ae,EN.ae,HH3.ae⟩
 case measure=>exact Za6):p:=h
theorem zjo.KcE(h:p:=by
 have EN:=aa (iF Q1.ae Q3.ae I7 WC ih ho);clear hF ih ho Q3 GN Q1 HH IH HF HC;go_wp2_with fail;go_roundw;case rel=>exact⟨2*j,G,by omega,by omega,by go_num,H2.ae,HW.ae,EN.ae⟩
 case measure=>exact Za6):p:=h
theorem Zap(h:p:=by
 clear HF IH Q1;obtain⟨a,E,q3,I7,rfl,rfl,hF,ih,q1,q2⟩:=hrel;have HF:=aa hF;have IH:=aa ih;have Q1:=aa q1;have HH:=aa q2;have Q3:=aa q3;have GN:=aa (show j ∣ a from Nat.dvd_trans ⟨2,by omega⟩ q3);clear hF ih q1 q2 q3;by_cases qA:a+2*j<=n
 ·have hC:=wW w0 g n cap hn (2*j) a (a+j) (a+2*j) E wr WC WC WC qA HF.ae ((HH.ae a GN.ae (Nat.le_refl _)).mono (Nat.le_refl _) WC) ((HH.ae (a+j) (Nat.dvd_add GN.ae (Nat.dvd_refl j)) WC).mono (Nat.le_refl _) WC);rw[show((a+j:Nat):Int)=(a:Int)+(j:Int) by omega,show((a+2*j:Nat):Int)=(a:Int)+2*(j:Int) by omega] at hC;open zjn in exact ZhP
 ·by_cases KP:a+j < n
  ·have hC:=wW w0 g n cap hn (2*j) a (a+j) n E wr WC WC KP (Nat.le_refl _) HF.ae ((HH.ae a GN.ae (Nat.le_refl _)).mono (Nat.le_refl _) WC) ((HH.ae (a+j) (Nat.dvd_add GN.ae (Nat.dvd_refl j)) WC).mono (Nat.le_refl _) WC);rw[show((a+j:Nat):Int)=(a:Int)+(j:Int) by omega] at hC;open zjo in exact ZhP
  ·have EN:=aa (iF Q1.ae Q3.ae I7 WC .refl ((HH.ae a GN.ae (Nat.le_refl _)).mono (Nat.le_refl _) WC));clear Q1 HH Q3 GN;go_wp2_with fail;go_roundw;case rel=>exact⟨2*j,E,by omega,by omega,by go_num,HF.ae,IH.ae,EN.ae⟩
   case measure=>exact Za6):p:=h
theorem Zaq(h:p:=by have h0:_=_:=hr.1;have h1:_=_:=hr.2.1;exact aq (w':=W4) TaN ⟨ai.refl _,rfl⟩):p:=h
theorem Zar(h:p:=by
 have K1:=tq;have xX:=GU;have V0:=NR;have U3:=MM;have VU:=Tk;have qp:=aa x7;clear tq GU NR HT7 acC fx z0 x4 x7 Cz;obtain⟨WB,hWB⟩:∃WB,WB=WD:=⟨_,rfl⟩;rw[<- hWB] at K1 xX V0 U3 VU qp ⊢;have HOi:=aa K1.ae.o3;have HOh:=aa K1.ae.o2;have HLi:=aa (show yi.length<=1000000 by have:=HH.ae;have:=qM.ae;have:=Ee.ae;have:=Am.ae;omega);have HLh:=aa (show(hd++jR).length<=1000000 by have:=Q3.ae;have:=HH.ae;have:=qM.ae;have:=Ee.ae;rw[length_append];omega);have key:=λ(T:Array Value) (hT:T.size=252) e0 e1 e2 e3 (Q2:Exit->Act->World->Prop) hf=>DI (T:=T) (d:=d) (Q:=Q2) (gp:=gp) (B:=w0.heap.size) (gY:=gY) (g16:=g16) (W:=WB) (cs:=c.cells { r with h:=rh,i:=ri } u' v') (ri:=ri) (rh:=rh) (yi:=yi) (y:=Kx) (hd:=hd++jR) (nm:=nm) (ty:=ty) hT e0 e1 e2 e3 rfl rfl K1.ae.f.base.size K1.ae.blk HOi.ae HOh.ae HLi.ae HLh.ae V0.ae VU.ae.2.1 (VU.ae.2.2 3 WC) (VU.ae.2.2 2 WC) qp.ae U3.ae.1 U3.ae.2.1 (U3.ae.2.2 3 WC) (U3.ae.2.2 2 WC) hf
 simp only[DG,bL,fA,Tryz.f28,Option.getD_some,sB,Nat.reduceEqDiff,if_true,if_false] at key;refine key _ ?_ ?_ ?_ ?_ ?_ _ ?_
 ·rfl
 ·rfl
 ·rfl
 ·rfl
 ·rfl
 clear key;intro ach aci z167 z168 acj ack z171 acm z173 acn z175 aco acp acr acs acu acv z182 z183 acw acx acy acz w8 a b9 s7 ER zE;simp only[Uac];have J5:=aa (K1.ae.QZ zE (mJ xX.ae));clear zE K1 V0 qp xX HOi HOh;generalize World.setCell w8 _ _=MH at*;have hk7:k < 1000000:=by have:=HH.ae;have:=Ee.ae;omega
 go_wp2_with fail;go_roundw;case rel=>exact⟨k+1,b9,a,u',v',C8,yi++ [Kx],s2,ti++ [t2],jR++ [⟨nm,ty⟩],hlt,by go_num,by
  have h:=J5.ae
  rw[append_assoc] at h
  exact h,xY.ae,by have:=AY.ae;have:=U6.ae;have:=DD.ae;omega,by rw[length_append,qM.ae.1];rfl,by rw[length_append,qM.ae.2];rfl⟩
 case measure=>exact Za6):p:=h
theorem Zas(h:p:=by exact⟨λ hn=>(by rw[hg] at hn;cases hn),λ _=>rfl⟩):p:=h
theorem Zat(h:p:=by
 cases sb
 ·go_wp2_with fail;go_roundw
  case rel=>
   refine⟨i+1,hlt,by go_num,λ j hj=>?_,hb1⟩;rcases Nat.lt_succ_iff_lt_or_eq.1 hj with hj | rfl
   ·exact HP.ae j hj
   ·exact HS.ae
  case measure=>exact Za6
 ·go_wp2_with fail;go_ret;refine⟨?_,hb1⟩;rw[vV HP.ae (by rw[getElem?_eq_getElem Tan];congr 1;have:=HS.ae;rw[getD_eq_getElem?_getD,getElem?_eq_getElem Tan] at this;exact this)];rfl):p:=h
theorem Zau(h:p:=by
 obtain⟨⟨e1,e2⟩,e0,e3⟩:=he;have b1:a<=s/\s<=m/\s<=mid:=by omega
 have b2:m<=mid+m - s/\mid+m - s<=b:=by omega
 obtain⟨f,hf⟩:∃f,f=mid+m - s:=⟨_,rfl⟩;rw[<- hf] at b2 ⊢;have r1:∀x,x < s->aO D s m f x=D x:=λ x hx=>by unfold aO;rw[if_neg WC]
 have r2:∀x,s<=x->x < mid->aO D s m f x=D (x+(m - s)):=λ x hx hx2=>by unfold aO;rw[if_pos WC,if_pos WC]
 have r3:∀x,mid<=x->x < f->aO D s m f x=D (x - (f - m)):=λ x hx hx2=>by unfold aO;rw[if_pos WC,if_neg WC]
 have r4:∀x,f<=x->aO D s m f x=D x:=λ x hx=>by unfold aO;rw[if_neg WC]
 refine⟨λ i j hi hj hb=>?_,λ i j hi hj hb=>?_,λ i j hi hj hb=>?_,λ i j hi hj hb=>?_,λ x y hx hx2 hy fF=>?_⟩
 ·rw[r1 i WC,r1 j hb];exact h1 i j hi hj WC
 ·rw[r2 i hi WC,r2 j WC hb];exact h2 _ _ WC WC WC
 ·rw[r3 i hi WC,r3 j WC hb];exact h1 _ _ WC WC WC
 ·rw[r4 i hi,r4 j WC];exact h2 _ _ WC hj hb
 ·by_cases c1:x < s
  ·rw[r1 x c1];by_cases c2:y < f
   ·rw[r3 y hy c2];exact h1.le hx WC WC
   ·rw[r4 y WC];have h3:=h.low (s - 1) WC WC;have h4:=not_lt.1 h3;rw[show mid+m - 1 - (s - 1)=f by omega] at h4;exact le_trans (h1.le hx (show x<=s - 1 by omega) WC) (le_trans h4 (h2.le WC WC fF))
  ·rw[r2 x WC hx2];by_cases c2:y < f
   ·rw[r3 y hy c2];have h3:=h.high s (Nat.le_refl _) WC;rw[show mid+m - 1 - s=f - 1 by omega] at h3;exact le_trans (h2.le WC (show x+(m - s)<=f - 1 by omega) WC) (le_trans (le_of_lt h3) (h1.le WC WC WC))
   ·rw[r4 y WC];exact h2.le WC WC fF):p:=h
theorem Zav(h:p:=by simp only[eU,cJ,Value.agg.injEq,Array.mk.injEq,List.cons.injEq,Value.int.injEq,Value.bool.injEq,true_and,and_true] at h;obtain⟨h1,h2,h3,h4,h5,rfl⟩:=h;exact Kag):p:=h
theorem zhJ.KbZ(h:p:=by
 generalize qj:(args.take i).map (·.2)=ks at*;have Oj:=aa qj;have HG:=aa hG;have hbase:=hb.size;clear qj hG hb1 hb2 bN;go_wp2_with (first
  |(at_builtin
    refine aV rfl (.tmp 29) (.tmp 31) 38 rfl _ 32 Tryz.underlying38 lT rfl WC v rfl Ta0 rfl HP.ae w2.heap.size rfl HG.ae WC WC hbase ?_
    intro v4 w4 o4 g4
    have b4:=bw HP.ae g4 hbase
    have O4:=aa o4
    clear o4 g4 HP HG))
 go_roundw;case rel=>exact Zeo
 case measure=>exact Za6):p:=h
theorem zhB.KbW(h:p:=by go_upto_region 8 with fail;have bN:=ah w2 (.cells (aH v) 44);have hG:=aC.new w2 44 (aH v);open zhJ in exact Ze5):p:=h
theorem zdQ.KaI(h:p:=by unfold jy at gD;have pd:=aa gD;clear gD;go_wp2_with fail;have bY:=ah wr (.cells (ay y) 46);refine(pd.ae _ (ai.then hb bY)).mono ?_;rintro e W3 ⟨rfl,b1⟩;unfold bT;have Kx:=ai.then bY b1;clear bY b1 pd hex;go_upto_region 6 with fail;have HV:=aC.new W3 44 (aH v);have bG:=ah W3 (.cells (aH v) 44);have hb1:=ai.then Kx bG;generalize W3.alloc _=w2 at*;obtain⟨gv,WT⟩:∃gv,gv=W3.heap.size:=⟨_,rfl⟩;rw[<- WT] at HV ⊢;clear WT Kx bG;open zhB in exact Ze2):p:=h
theorem Zaw(h:p:=by open zdQ in exact Zbn):p:=h
theorem zhQ.Kb1(h:p:=by
 have mixed:Tryz.prog.follows .mixedOrders=true:=by kernel_rfl
 have t0:((m:Int) - (a:Int)==1)=false:=by simp;omega
 have t1:((b:Int) - (m:Int)==1)=false:=by simp;omega
 have zm:((a:Int)+(b:Int))/ 2=(mid:Int):=by omega
 have zp:(mid:Int)+(m:Int) - 1=(p:Int):=by omega
 have bm:a < mid/\mid < b:=by omega
 have bs:a<=s0/\s0<=r0/\r0<=m/\r0<=mid/\mid+m<=s0+b:=by omega
 have bp:p+1=mid+m:=by omega
 have bf:m<=f/\f<=b/\mid<=f:=by omega
 have zf:(mid:Int)+(m:Int) - (s:Int)=(f:Int):=by omega
 exact Kah):p:=h
theorem Zax(h:p:=by have HS:=aa h;open zhQ in exact Ze7):p:=h
theorem zfx.Ka8(h:p:=by go_wp2_with fail;refine(lF c.aL c.gA c.gn c.gc g3 t z W (by have:=je.ae.gl;omega) (je.ae.aL.later (tz.ae.base)) je.ae.gok kx.ae (CU.ae.later tz.ae.base) Gs.ae).mono ?_;rintro e w1 ⟨rfl,hb1⟩;rw[oG,hf];dsimp only;exact Kai):p:=h
theorem ziY.Kct(h:p:=by go_enter Tryz.func99,Tryz.ntmps99;open zfx in exact ZcS):p:=h
theorem zgb.Kbl(h:p:=by have c4:=gX.cell 4;have c8:=gX.cell 8;have c10:=gX.cell 10;open ziY in exact Zg1):p:=h
theorem Zay(h:p:=by open zgb in exact Zdu):p:=h
theorem Zaz(h:p:=by
 have HD:=pI.ae;refine zt (P:=Tryz.prog) (f:=bI) (val:=mK) (e:=46) (size:=7) (base:=qx) (l:=[]) (lv:=az) (Post:=ale ρ x (cb::r)) (w0:=UO) (q:=9) (d0:=121) (d1:=122) (d2:=123) (d3:=124) (d4:=125) (d5:=126) (d6:=127) (qb:=qx) (k:=6) (g:=ρ.g) (pq:=aw qx) (ptr:=aw ρ.g) (F:=184) (args:= #[aw ρ.g,af 0]) 23 23 _ 88 Vx Vx Vx Vx Vx rfl rfl ?_ ?_ ?_ ?_ ?_ ?_ ?_ Tryz.underlying23 fM rfl WC (λ _=>rfl) (by intro y u hu;simp[bI] at hu;rcases hu with rfl | rfl | rfl | rfl | rfl | rfl | rfl <;> rfl) aI.nil ?_ WC ?_ ?_ Tac Tac WC ?_ ?_ ?_
 ·exact Zcw
 ·exact Zcw
 ·exact Zd0
 ·exact Zcw
 ·exact Ze9
 ·intro ρ' w' y' h';simp[go_sem,h',mK,bI]
 ·exact ZgB
 ·exact HX.ae.cell 6
 ·simp[Value.ownBlock]
 ·simp[Value.ownBlock]
 ·intro w' hw';refine(Q3.ae ρ w' (pI.ae.at_.later hw')).mono ?_;rintro e w'' ⟨y,rfl,ht,d⟩;exact⟨y,rfl,ht,d⟩
 ·rintro y w' w'' ⟨ht,d⟩;exact d.grown
 intro y s v' w1 gI w2 W fq ⟨ht1,Zt⟩ hl2 Q7 bK LG Zu cg;obtain⟨A,c,NV,lX⟩:=Py uD (Zu rfl rfl) (S:=jf (qx+1) W) (λ g h1 h2=>⟨by have:=fq.size;have:=Zt.size;have:=hl2.size;omega,h2⟩);have NV:v'=.slice A 1 c:=NV;subst NV;have bK:w2.grownBy W none:=bK;have Zv:=zl bK;have DW:=(((HD.later fq).trans Zt).later hl2).later Zv;have Pz:=(((HX.ae.later fq).grown Zt.grown Tab).later hl2).later Zv;have Ss:=(((uK.ae.later fq).grown Zt.grown Tab).later hl2).later Zv;have htW:Tr.at_ W (jf (qx+1) W) x y:=((ht1.later hl2).later Zv).more (by have:=fq.size;omega);have hxf:=Pz.frozen 6;have Zw:=Pz.aW 6 (.slice A 1 c);have HQS:=Ss.far (p:=⟨qx,6,none⟩) Tab (.slice A 1 c);have DS:=DW.far ee (show w.heap.size<=qx by omega) 6 (.slice A 1 c);have Kt:Tr.at_ _ _ x y:=htW.set (Nat.lt_succ_self qx) 6 (.slice A 1 c);have Zx:=lX.keep (sT (Nat.lt_succ_self qx) 6 (.slice A 1 c));simp only[Uac] at Zw;obtain⟨x0,x1,x2,x3,x4,x5,x6⟩:=bU Zw;simp only[Act.put,Uac];have HP:=aa DS;have HM:=aa Zw;have Vs:=aa HQS;have HK:=aa Kt;have Ee:=aa Zx;skip;have hqW:=Pz.lt;have arN:=aa hqW;have hgW:ρ.g+1 < W.heap.size:=by omega
 clear DS Zw HQS Kt Zx Pz Ss DW htW lX LG Zu Q7 ht1 Zt fq hl2 bK Zv hqW;go_wp2_with fail;have JX:aC ((W.setCell ⟨qx,6,none⟩ (.slice A 1 c)).alloc (.cells (bO [eA]) 9)) W.heap.size 9 (bO [eA]):=by have:=aC.new (W.setCell ⟨qx,6,none⟩ (.slice A 1 c)) 9 (bO [eA]);rwa [show(W.setCell ⟨qx,6,none⟩ (.slice A 1 c)).heap.size=W.heap.size by simp[World.setCell]] at this
 have Xt:=HP.ae.at_.later (ah _ (.cells (bO [eA]) 9));refine(mq Q4.ae ρ _ Xt W.heap.size JX WC).mono ?_;rintro e w12 ⟨rfl,d12⟩;have PD:=ah (W.setCell ⟨qx,6,none⟩ (.slice A 1 c)) (.cells (bO [eA]) 9);have HXC:=(HM.ae.later PD).grown d12.grown Tab;have Sz:=(Vs.ae.later PD).grown d12.grown Tab;have Zy:=aa Sz;obtain⟨x0,x1,x2,x3,x4,x5,x6⟩:=bU HXC;obtain⟨z0,z1,z2,z3,z4,z5,z6⟩:=eo Sz;obtain⟨y0,y1,x9,y3,y4,y5,y6⟩:=bU Sz;have DC:=aa ((HP.ae.later PD).trans d12);have B12:=aa PD;have D12:=aa d12;clear HXC Sz d12 PD;go_wp2_with fail;exact Kaj):p:=h
theorem zhI.KbZ(h:p:=by
 generalize qj:(args.take i).map (·.2)=ks at*;have Oj:=aa qj;have HG:=aa hG;have hbase:=hb.size;clear qj hG hb2 hb1 MI bN hL;go_wp2_with (first
  |(at_builtin
    refine aV rfl (.tmp 31) (.tmp 33) 97 rfl _ 1 Tryz.underlying97 oY rfl WC v rfl TaZ rfl HP.ae W3.heap.size rfl HG.ae WC WC hbase ?_
    intro v4 w4 o4 g4
    have b4:=bw HP.ae g4 hbase
    have O4:=aa o4
    clear o4 g4 HP HG))
 go_roundw;case rel=>exact Zeo
 case measure=>exact Za6):p:=h
theorem zi3.Kcv(h:p:=by subst hte;have hb1:=ai.then MI hL;clear xo k1 Jm Qq;go_upto_region 8 with fail;have bN:=ah W3 (.cells #[ag v] 5);have hG:=aC.new W3 5 #[ag v];open zhI in exact Ze5):p:=h
theorem ziK.Kcn(h:p:=by replace q5: .tuple #[ag v,af FP]=a5:=Eq.symm q5;subst q5;replace q6: .tuple #[ag v,af FP]=a6:=Eq.symm q6;subst q6;replace q7: ag v=a7:=Eq.symm q7;subst q7;replace q8: af FP=a8:=Eq.symm q8;subst q8;replace q3: ag v=a9:=Eq.symm q3;open zi3 in exact Zha):p:=h
theorem zg4.KbJ(h:p:=by
 obtain⟨FP,hte⟩:∃FP:Int,FP=0:=⟨_,rfl⟩;rw[<- hte] at xo;refine bC 11 (t5V y gp cV v FP) (xN _ _ _ _ _) Vx Vx Vx ?_ ?_
 ·exact Za4
 open ziK in exact Zgo):p:=h
theorem zdR.KaI(h:p:=by open zg4 in exact ZeH):p:=h
theorem ZaA(h:p:=by open zdR in exact Zbn):p:=h
theorem ZaB(h:p:=by
 intro W3 hL;simp only[Uab];rintro _ rfl a1 - a2 - a3 - _ rfl a5 - a6 - a7 - _ rfl;simp only[bF,Act.put,Uac];have eN:=aa (Below.trans HB.ae (hL.mono HB.ae.size));have K2:=aa (F2.ae.later hL);have Dq:=aa (Ju.ae.later hL);have MU:=aa (mP.ae.later hL);have EE:=aa (Vo.ae.later hL);have QK:=aa (HK9.ae.keep hL.size λ b cur Kt=>hL.block b Kt.lt);clear hL HB F2 Ju mP Vo HK9 F3 U3 VU;have hx:=EE.ae.at_ x (mem_of_getElem? QI.ae);have xq:=aa hx;have Ta:=NE.ae.qK x (mem_of_getElem? QI.ae);have hsf:=uW (ops:=aM.map Tr.op) (ps:=gu gn aM ls) (k:=x.key) (λ op ho=>by obtain⟨t,ht,rfl⟩:=List.mem_map.1 ho;exact Q4.ae t ht) (by unfold gu;rw[length_map];have h3:=HLS.ae;have h4:=Ec.ae;omega);have hye:(aM.map λ t=>t.args.length).sum=ye.length:=by rw[<- dY Q1.ae,length_flatMap]
 have F4:ya.length=aM.length:=(dY HF.ae.ta).symm
 have TE:=zz gp x.g w0.heap.size w0.heap.size ya AA ac (.slice x.KA x.key.length x.kc) x.sv x.qs x.ss (l.drop gn) (eT XA xc gn) (xc - gn) W3 (by have:=Ay.ae;omega) HF.ae.lt eN.ae.size ((eN.ae.cell (p:=⟨gp,9,none⟩) HF.ae.lt).trans HF.ae.c9) (HF.ae.ra.below eN.ae) hx.blk hx.own hx.qK
  (by rw[hx.qK.len,Ta,nD,length_map,F4]) ⟨QK.ae.rv.SQ gn xc (by have:=QH.ae;omega),yu (QK.ae.off hx.qK)⟩ (by rw[length_drop];have:=QH.ae;omega)
  (by rw[HH.ae,CQ,hye,vo.ae];exact Nat.le_refl _)
  (λ y hy=>by
    have h1:y.n∈aM.map λ t=>t.args.length:=by rw[<- HH.ae];exact mem_map_of_mem hy
    obtain⟨t,ht,he⟩:=List.mem_map.1 h1
    rw[<- he]
    exact Q5.ae t ht)
  (λ s Nm=>(hsf s (by rw[<- Ta];exact Nm)).1) (λ v hv=>LT.ae v (mem_of_mem_drop hv)) (by rw[vo.ae];have:=jH.ae;omega)
 rw[HH.ae,Jg aM (l.drop gn) Q5.ae (by rw[hye,vo.ae];exact Nat.le_refl _)] at TE;have Ed:(l.drop gn).length=xn - gn:=by rw[length_drop,oO.ae]
 rw[Ed,<- HQ.ae] at TE;have HFD:=aa TE;clear hx Ta hsf hye F4 TE Ed;go_wp2_with fail;refine HFD.ae.mono ?_;rintro e w11 ⟨rfl,hst,NP⟩;have ahp:=aa (EE.ae.feed QI.ae NP hst);have ahq:=aa (Below.trans eN.ae (NP.low eN.ae.size λ q hq=>(xq.ae.qK.low q hq).1));have F5:=aa (K2.ae.turn NP xq.ae.qK Taa);have F6:=aa (MU.ae.turn NP xq.ae.qK Taa);have F7:=aa (NP.blk Dq.ae (xq.ae.qK.uf Dq.ae Taa));clear hst NP EE eN K2 MU Dq xq HFD QK;go_wp2_with fail;go_roundw
 case rel=>
  refine⟨k+1,_,hlt,by go_num,ahq.ae,F5.ae,?_,?_,ahp.ae,?_⟩
  ·rw[No.ae];exact F7.ae
  ·rw[aer QI.ae];exact F6.ae
  ·rw[lg.ae];exact NE.ae.feed QI.ae HKEY.ae
 case measure=>exact Za6):p:=h
theorem zeq.KaO(h:p:=by clear bM x9 c1 c2 lG lH hc;have H3:=aa (H2.ae.later hL);clear H2 hL;exact Kak):p:=h
theorem zfr.Ka6(h:p:=by go_big_quiet_step ((go_at_call 39;exact aB (Nat.le_refl _) (hc _)));open zeq in exact ZbB):p:=h
theorem ZaC(h:p:=by open zfr in exact ZcP):p:=h
theorem ZaD(h:p:=by have z0:=k1.cell 0;have z1:=k1.cell 1;have x2:=k1.cell 2;have x3:=k1.cell 3;have x4:=k1.cell 4;have x5:=k1.cell 5;have x6:=k1.cell 6;simp only[Uaa] at z0 z1 x2 x3 x4 x5 x6;exact Kal):p:=h
theorem ZaE(h:p:=by have b1:=ah w (.cells #[ag 0,au,az,au,af 0,au,af 0,.slice L.i.A L.i.n L.i.c,.string q.bZ,.bool q.only,.slice L.w.A L.w.n L.w.c,.slice L.g.A L.g.n L.g.c,.slice L.h.A L.h.n L.h.c,.slice L.o.A L.o.n L.o.c,.slice L.l.A L.l.n L.l.c,ag 0,au,af 0,af 0,az,az,az,ag 0,af 0,au,ag 0,af 0,au] 64);have k1:=aC.new w 64 #[ag 0,au,az,au,af 0,au,af 0,.slice L.i.A L.i.n L.i.c,.string q.bZ,.bool q.only,.slice L.w.A L.w.n L.w.c,.slice L.g.A L.g.n L.g.c,.slice L.h.A L.h.n L.h.c,.slice L.o.A L.o.n L.o.c,.slice L.l.A L.l.n L.l.c,ag 0,au,af 0,af 0,az,az,az,ag 0,af 0,au,ag 0,af 0,au];have eN:=aa b1;have nM:=aa k1;unfold NK;exact Kam):p:=h
theorem zer.KaO(h:p:=by clear bM x9 c1 c2 hc;have H3:=aa (H2.ae.later hL);clear H2 hL;exact Kan):p:=h
theorem zfs.Ka6(h:p:=by go_big_quiet_step ((go_at_call 14;exact aB (Nat.le_refl _) (hc _)));open zer in exact ZbB):p:=h
theorem ZaF(h:p:=by open zfs in exact ZcP):p:=h
theorem ZaG(h:p:=by clear hr;have dw:=aJ hR;have gV:=aC.frozen hR;clear hR;go_wp2_with fail;exact bodyPost_ret (v:=.tuple #[.agg #[ag (r,(0:Int)).1.k,af (r,(0:Int)).1.n,.string (r,(0:Int)).1.s],af (r,(0:Int)).2]) (by simp[results,Tryz.results169,go_sem,dw]) rfl ⟨by have:=HE.ae;injection this with h1 h2;rw[<- h1];rfl,((hB.setCell (bK) _).setCell (bK) _).setCell (bK) _⟩):p:=h
theorem ze4.KaZ(h:p:=by
 have n2:((tk.w.k:Int)==2)=false:=by rw[beq_eq_false_iff_ne];have:=wI.ae.i;omega
 have n3:((tk.w.k:Int)==3)=false:=by rw[beq_eq_false_iff_ne];have:=wI.ae.s;omega
 go_wp2_with fail;exact Kao):p:=h
theorem ZaH(h:p:=by open ze4 in exact Zcp):p:=h
theorem zfg.Ka3(h:p:=by
 have hfo:mj n=some OP:=by rw[HN.ae];exact HH.ae
 have HFO:=aa hfo;have Ed:n.toList=n.data.toList:=ByteArray.toList_eq n;have xY:=aa Ed;clear hfo Ed;go_wp2_with fail;have Sx:=ai.then (ah w6 (.cells (bO tM) 9)) (ah _ (.cells (xW mN) 5));have NB:=(aC.new w6 9 (bO tM)).alloc (.cells (xW mN) 5);have OB:=aC.new (w6.alloc (.cells (bO tM) 9)) 5 (xW mN);rw[World.size_alloc] at OB;have Sy:=aa (WS.ae.later Sx);have IK:=aa (PB.ae.later Sx);have hs8:=Sx.size;have qp:=aa NB;have Zs:=aa OB;clear NB OB Sx WS PB;show Code.wp _ _ _ _ ((w6.alloc (.cells (bO tM) 9)).alloc (.cells (xW mN) 5));generalize (w6.alloc (.cells (bO tM) 9)).alloc (.cells (xW mN) 5)=W8 at*;generalize w6.heap.size=nb at*;exact Kap):p:=h
theorem ZaI(h:p:=by open zfg in exact ZcL):p:=h
theorem ZaJ(h:p:=by
 have HE:=aa he;have t1:(!y==n.toList)=false:=by rw[xY.ae];rw[beq_iff_eq] at he;simp[he]
 have uJ:mj n=some o:=by rw[Ec.ae,HST.ae,he];rfl
 clear he;obtain rfl:o=OP:=by rw[HFO.ae] at uJ;injection uJ with uJ;exact uJ.symm
 have c3:=(Zs.ae.later jH.ae).cell i;rw[show(xW mN)[i]?=some (ag o) by simp[xW,LV.ae]] at c3;have d8:=Sy.ae.later jH.ae;have hsw:=jH.ae.size;go_wp2_with fail;refine(mq Q1.ae ρ _ (d8.at_.later (ah wr (.cells (bO [eC]) 9))) wr.heap.size (aC.new _ _ _) WC).mono ?_;rintro e zv ⟨rfl,d10⟩;have c4:=(((Zs.ae.later jH.ae).alloc (.cells (bO [eC]) 9)).grown d10.grown (by simp;have:=Zs.ae.lt;omega)).cell i;rw[show(xW mN)[i]?=some (ag o) by simp[xW,LV.ae]] at c4;have IL:=d10.size;have LW:=aa ((d8.later (ah wr (.cells (bO [eC]) 9))).trans d10);have xZ:=aa (d10.blk ((IK.ae.later jH.ae).later (ah wr (.cells (bO [eC]) 9))) WC);have adJ:w.heap.size+2<=zv.heap.size:=by simp at IL;omega
 clear d10 d8 c3 IL Sy IK qp;exact Kaq):p:=h
theorem ze2.KaY(h:p:=by exact Kar):p:=h
theorem ZaK(h:p:=by
 generalize aO D s m f=R at*;have H6:bc R a mid:=by exact ZgA
 obtain⟨E,hE⟩:∃E,E=R:=⟨_,rfl⟩;have H4:=aa (show SS w0 g n _ E by rw[hE];exact H3.ae);have HW:=aa (show Sw a mid R E by rw[hE];exact .refl);have HO:=aa (show bc E a mid by rw[hE];exact H6);clear hE H6 H3;open ze2 in exact Zco):p:=h
theorem ZaL(h:p:=by clear uR;have x0:=hR.cell 0;have x1:=hR.cell 1;have z2:=hR.cell 2;have z3:=hR.cell 3;have z4:=hR.cell 4;have z5:=hR.cell 5;have z6:=hR.cell 6;simp only[Uaa] at x0 x1 z2 z3 z4 z5 z6;exact Kas):p:=h
theorem ZaM(h:p:=by have c4:=b4.cell 0;have c5:=(b5.far (p:=⟨g4,0,none⟩) (Ne.symm vg) (.pointer none)).cell 0;have f4:=b4.frozen 0;have f5:=(b5.far (p:=⟨g4,0,none⟩) (Ne.symm vg) (.pointer none)).frozen 0;simp only[getElem?_toArray,getElem?_cons_zero] at c4 c5;clear b4 b5 vg;exact Kat):p:=h
theorem zh9.Kb8(h:p:=by exact Kau):p:=h
theorem ZaN(h:p:=by
 generalize aO D s m f=R at*;have H6:bc R a mid:=by exact ZgA
 obtain⟨E,hE⟩:∃E,E=R:=⟨_,rfl⟩;have H4:=aa (show SS w0 g n _ E by rw[hE];exact H3.ae);have HW:=aa (show Sw a mid R E by rw[hE];exact .refl);have HO:=aa (show bc E a mid by rw[hE];exact H6);clear hE H6 H3;go_wp2_with fail;have nT:=aa (Q3.ae.congr (E:=E) λ x h1 h2=>HW.ae.ae x (.inr h1));have nU:=aa (Q4.ae.congr (E:=E) λ x h1 h2=>HW.ae.ae x (.inr WC));have H6:=aa (show bc E mid b from by
  rcases(show f=mid\/f=b by omega)with e | e
  ·have:=nU.ae;rwa [e] at this
  ·have:=nT.ae;rwa [e] at this)
 open zh9 in exact Zfq):p:=h
theorem ZaO(h:p:=by
 have hall:=eb h0
 have ha:a=fill (λ d=>a.eval (.tmp d)) l a0:=by
  have h1:a.tmps=(fill (λ d=>a.eval (.tmp d)) l a0).tmps:=by
   apply Array.ext_getElem?;intro t;by_cases ht:t < a0.tmps.size
   ·rw[qQ _ _ _ _ ht];split
    ·simp[Act.eval,I.size,ht]
    ·rename_i hno;refine I.old t ?_;intro i o hi hd _;exact hno ⟨o,mem_of_getElem? hi,hd⟩
   ·rw[Array.getElem?_eq_none (by rw[I.size];omega),Array.getElem?_eq_none (by rw[oa];omega)]
  have h2:a.defers=(fill (λ d=>a.eval (.tmp d)) l a0).defers:=by rw[jQ,I.defers]
  exact Aw h1 h2
 exact Kav):p:=h
theorem ZaP(h:p:=by
 have k0:=λ y:Ext wr.heap.size wr=>(HP.ae.later y.h).c0
 have k1:=λ y:Ext wr.heap.size wr=>(HP.ae.later y.h).c1
 have m0:=λ y:Ext wr.heap.size wr=>(HP.ae.later y.h).d0
 have m1:=λ y:Ext wr.heap.size wr=>(HP.ae.later y.h).d1
 have m2:=λ y:Ext wr.heap.size wr=>(HP.ae.later y.h).d2
 have m3:=λ y:Ext wr.heap.size wr=>(HP.ae.later y.h).d3
 go_wp2_with fail;refine aD 13 wr.heap.size wr (Below.refl _ _) Vx Vx Vx Vx ?_;simp only[Uab];repeat (go_big_quiet_step (first
  |(go_at_call 200;exact aB (Nat.le_refl _) (R9 _))))
 refine wpQuiet_nil ?_;rintro W4 ⟨x9,bM⟩;have hL:=x9.h;rw[<- bM] at hL;clear bM x9 k0 k1 m0 m1 m2 m3 c2;exact Kaw):p:=h
theorem ZaQ(h:p:=by have k:=dP (B:=w.heap.size) cL rfl bK HO.ae;exact⟨_,by rw[qz.ae];rfl,k.2,hB.trans k.1.below⟩):p:=h
theorem ZaR(h:p:=by obtain⟨f0,KH,rfl,Br,hen,lU⟩:=R7.ae;have DZ:=aa (lU _ A8 c8 HDB.ae Bp.ae);clear lU;have z0:=k1.cell 0;have z1:=k1.cell 1;have x2:=k1.cell 2;have x3:=k1.cell 3;have x4:=k1.cell 4;have x5:=k1.cell 5;have x6:=k1.cell 6;have x0:=hR.cell 0;have x1:=hR.cell 1;have z2:=hR.cell 2;have z3:=hR.cell 3;have z4:=hR.cell 4;have z5:=hR.cell 5;simp only[Uaa] at z0 z1 x2 x3 x4 x5 x6 x0 x1 z2 z3 z4 z5;have dw:=aJ cL;have gV:=aC.frozen cL;exact Kax):p:=h
theorem zhH.KbZ(h:p:=by
 generalize qj:(args.take i).map (·.2)=ks at*;have Oj:=aa qj;have HG:=aa hG;have hbase:=hb.size;clear qj hG hb2 hb1 Kx bY bN gD hex;go_wp2_with (first
  |(at_builtin
    refine aV rfl (.tmp 30) (.tmp 32) 97 rfl _ 1 Tryz.underlying97 oY rfl WC v rfl TaZ rfl HP.ae W3.heap.size rfl HG.ae WC WC hbase ?_
    intro v4 w4 o4 g4
    have b4:=bw HP.ae g4 hbase
    have O4:=aa o4
    clear o4 g4 HP HG))
 go_roundw;case rel=>exact Zeo
 case measure=>simp[intOf];omega):p:=h
theorem zjJ.KcN(h:p:=by have bN:=ah W3 (.cells #[ag v] 5);have hG:=aC.new W3 5 #[ag v];open zhH in exact Ze5):p:=h
theorem zdS.KaI(h:p:=by open zjJ in exact ZiA):p:=h
theorem ZaS(h:p:=by open zdS in exact Zbn):p:=h
theorem ZaT(h:p:=by
 have hc:=λ y:Ext W.heap.size W=>(lr.later y.h).cell 0
 simp only[getElem?_toArray,getElem?_cons_zero] at hc;have bK:w.heap.size<=w.heap.size+1:=by omega
 exact Kay):p:=h
theorem zia.Kb8(h:p:=by exact Kaz):p:=h
theorem zgp.Kbs(h:p:=by
 have EM:decide (s < mid)=true:=decide_eq_true k3;have KK:decide (mid < f)=false:=decide_eq_false Kx;have e1:aO D s m f=D:=by exact Zg6
 have H3:=aa (show SS w0 g n _ (aO D s m f) by rw[e1];exact H2.ae);have jI:=aa (show Sw s f D (aO D s m f) by rw[e1];exact .refl);clear e1 H2;generalize aO D s m f=R at*;go_wp2_with fail;refine(IH.ae a s mid R _ WC WC WC WC H3.ae Q1.ae HH.ae).mono ?_;rintro e_ w6 ⟨rfl,E,hs,hw,ho⟩;have H4:=aa hs;have HW:=aa hw;have HO:=aa ho;clear hs hw ho H3;go_wp2_with fail;have nT:=aa (Q3.ae.congr (E:=E) λ x h1 h2=>HW.ae.ae x (.inr h1));have nU:=aa (Q4.ae.congr (E:=E) λ x h1 h2=>HW.ae.ae x (.inr WC));have H6:=aa (show bc E mid b from by
  rcases(show f=mid\/f=b by omega)with e | e
  ·have:=nU.ae;rwa [e] at this
  ·have:=nT.ae;rwa [e] at this)
 open zia in exact Zfq):p:=h
theorem ZaU(h:p:=by open zgp in exact ZdO):p:=h
theorem zfZ.Kbh(h:p:=by exact KaA):p:=h
theorem ZaV(h:p:=by open zfZ in exact Zdk):p:=h
theorem ZaW(h:p:=by
 have HA:=aa hA;have HE:=aa hE;clear hA hE;go_enter Tryz.func150,Tryz.ntmps150;go_wp2_with fail;go_loopw [5,8] (λ _ Kx wr=>∃i:Nat,i<=args.length/\Kx=af i/\(∀j,j < i->(args.map (·.2)).getD j false=false)/\aj w wr) (λ _ Kx _=>args.length - (intOf Kx).toNat);case atStart=>exact ZfV
 case round=>
  obtain⟨i,hk,rfl,hp,hb⟩:=hrel;have HP:=aa hp;clear hp;by_cases hlt:i < args.length
  ·obtain⟨b,off,rfl,kE,hex⟩:=(HA.ae.below hb).at_ (show i <(args.map (·.1)).length by simpa using hlt);have jn:(args.map (·.1))[i]' Tan=args[i].1:=by simp
   rw[jn] at hex;clear jn;have gD:=HE.ae args[i] (getElem_mem hlt);have hS:=BM hlt;generalize args[i]=yb at*;obtain⟨y,sb⟩:=yb;dsimp only at*;have HS:=aa hS;have pd:=aa gD;clear hS gD;unfold cy at hex;go_wp2_with fail;refine(pd.ae _ hb).mono ?_;rintro e w1 ⟨rfl,b1⟩;have hb1:=ai.then hb b1;clear hex b1 hb;exact Zat
  ·exact ZdN):p:=h
theorem ZaX(h:p:=by
 have HQ:=aa (aC.new w 46 #[ag 0,ag 0,af 0,au,au,af 0,az]);have hsz:(w.alloc qI).heap.size=w.heap.size+1:=by simp
 unfold qI at*;go_enter Tryz.func184,Tryz.ntmps184;go_wp2_with (first
  |(go_at_call 87;refine hm.mono ?_;rintro e w1 ⟨rfl,d1⟩)
  |(go_at_call 184;refine(H ρ w1 d1.at_).mono ?_;rintro e w2 ⟨y,rfl,ht,d2⟩;unfold mK bI;have D:=(eF.cZ h hb).trans (d1.trans d2);have zu:=d2.blk (d1.blk HQ.ae WC) WC;have hqs:=d2.size;have arH:=d1.size;have nx:=zu.alloc (.cells #[ag y.op,ag y.v.k,af y.v.n,.string y.v.s,.string y.name,af y.width,.slice y.A y.n y.c] 46);obtain⟨z0,z1,z2,z3,z4,z5,z6⟩:=eo nx;obtain⟨y0,y1,y2,y3,y4,y5,y6⟩:=bU nx;obtain⟨x0,x1,x2,x3,x4,x5,x6⟩:=dt (aC.new w2 46 (bI y).toArray);unfold bI at x0 x1 x2 x3 x4 x5 x6))
 have HP:=ep nx y;have HR:=dt HP;unfold dX at HR;obtain⟨r0,r1,r2,r3,r4,r5,r6⟩:=HR;refine bodyPost_ret (v:=mK y) ZeL rfl ?_
 ·exact NI.put ee (Nat.le_refl _) (D.later (ah w2 _)) ((ht.later (ah w2 _)).more WC)):p:=h
theorem ZaY(h:p:=by
 have t1:((i:Int) !=(j:Int))=true:=by simp;omega
 have z1:(m:Int) - (i:Int)=((m - i:Nat):Int):=by omega
 by_cases hlt:j < i
 ·have t2:decide ((j:Int)<(i:Int))=true:=by simp;omega
  go_wp2_with fail;refine(eL w0 g n cap (m - i) m j E wr H2.ae hn WC WC).mono ?_;rintro e_ w1 ⟨rfl,hs⟩;have H3:=aa hs;have S1:=aa ((rz E m i j WC hlt).trans HR.ae);clear hs H2 HR z1 t1;go_wp2_with fail;go_roundw;case rel=>exact⟨i - j,j,_,by omega,by omega,by omega,by omega,by go_num,rfl,H3.ae,S1.ae⟩
  case measure=>simp[intOf];omega
 ·have t2:decide ((j:Int)<(i:Int))=false:=by simp;omega
  have z2:(m:Int)+(j:Int) - (i:Int)=((m+j - i:Nat):Int):=by omega
  go_wp2_with fail;refine(eL w0 g n cap (m - i) (m+j - i) i E wr H2.ae hn WC WC).mono ?_;rintro e_ w1 ⟨rfl,hs⟩;have H3:=aa hs;have S1:=aa ((rB E m i j WC WC).trans HR.ae);clear hs H2 HR z1 t1 z2;go_wp2_with fail;go_roundw;case rel=>exact⟨i,j - i,_,by omega,by omega,by omega,by omega,rfl,by go_num,H3.ae,S1.ae⟩
  case measure=>simp[intOf];omega):p:=h
theorem ZaZ(h:p:=by
 simp only[take_succ_cons,take_zero];refine⟨?_,Zab,Zab,Zab,?_,?_,Zab,Zab,Zab,Zab,?_,trivial⟩
 ·intro ρ W4 hc hL hr;have h0:_=_:=hr.1;have cL:=Ee.ae.later hL;exact Zbv
 ·intro ρ W4 hc hL hr;have h0:_=_:=hr.1;have jk:=(hL.cell (p:=⟨gp,10,none⟩) Qq.ae).trans Jm.ae;exact Zea
 ·intro ρ W4 hc hL hr;have h0:_=_:=hr.1;have h1:_=_:=hr.2.1;have e1:=hc.func 59;refine bD (f:=59) (args:= #[.agg (ay Kx),.slice VA s1.aL.length vc]) (w':=W4) Tar ?_;exact ZgS
 ·exact Zab):p:=h
theorem Za0(h:p:=by simp only[Uaa] at c0;exact Zeb):p:=h
theorem zgv.Kbu(h:p:=by obtain⟨⟨y,z⟩,sb⟩:=yb;dsimp only at*;have HS:=aa hS;have pd:=aa gD;clear hS gD;unfold cy at hex;exact ZfT):p:=h
theorem Za1(h:p:=by
 go_wp2_with fail;go_loopw [5,8] (λ _ Kx wr=>∃i:Nat,i<=args.length/\Kx=af i/\(∀j,j < i->(args.map (·.2)).getD j false=false)/\aj w wr) (λ _ Kx _=>args.length - (intOf Kx).toNat);case atStart=>exact ZfV
 case round=>
  obtain⟨i,hk,rfl,hp,hb⟩:=hrel;have HP:=aa hp;clear hp;by_cases hlt:i < args.length
  ·open zgv in exact ZdX
  ·exact ZdN):p:=h
theorem Za2(h:p:=by intro ρ W4 hc hL hr;have h0:_=_:=hr.1;exact aq (v:=.pointer (some ⟨gp,0,none⟩)) (w':=W4) Tai ⟨AR.refl _,rfl⟩):p:=h
theorem Za3(h:p:=by
 simp only[Cm,Bool.and_eq_true,beq_iff_eq,Option.isNone_iff_eq_none] at Cn;obtain⟨⟨⟨⟨⟨⟨⟨⟨⟨⟨⟨⟨⟨⟨⟨⟨⟨⟨⟨⟨⟨⟨⟨⟨⟨⟨⟨⟨t0,s0⟩,t1⟩,m2⟩,t2⟩,m0⟩,t3⟩,m3⟩,t4⟩,s4⟩,t5⟩,s5⟩,s5'⟩,t6⟩,s6⟩,e0⟩,e1⟩,e2⟩,e3⟩,e4⟩,e5⟩,e6⟩,g0⟩,g1⟩,g2⟩,g3⟩,g4⟩,g5⟩,g6⟩:=Cn;have WR:qb < w0.heap.size:=(by rcases Nat.lt_or_ge qb w0.heap.size with h | h;exact h;exact absurd hcell (by unfold World.cell?;rw[Array.getElem?_eq_none h];simp))
 have wH:∀ {y w1 gI w},ai w0 w1->Post y w1 gI->ai gI w->w.cell? ⟨qb,k,none⟩=some lv/\aI f e size w base lv l/\w0.heap.size<=w.heap.size:=by
  intro y w1 gI w ha hb hc;have hg:=Sr _ _ _ hb;have z1:qb < w1.heap.size:=Nat.lt_of_lt_of_le WR ha.size;have z2:qb < gI.heap.size:=Nat.lt_of_lt_of_le z1 hg.size;refine⟨?_,?_,Nat.le_trans ha.size (Nat.le_trans hg.size hc.size)⟩
  ·rw[hc.cell (p:=⟨qb,k,none⟩) z2,pH hg (p:=⟨qb,k,none⟩) z1 (λ e=>TC Tbh),ha.cell (p:=⟨qb,k,none⟩) WR];exact hcell
  ·exact((hown.later ha).grown hg WQ).later hc
 exact KaB):p:=h
theorem Za4(h:p:=by
 simp only[take_succ_cons,take_zero];refine⟨?_,Zab,Zab,Zab,ZcE,?_,Zab,Zab,Zab,Zab,?_,trivial⟩
 ·intro ρ W4 hc hL hr;have h0:_=_:=hr.1;have jk:=(k1.later hL).cell;have y0:=jk 0;have y1:=jk 1;have y2:=jk 2;have y3:=jk 3;have y4:=jk 4;have y5:=jk 5;have y6:=jk 6;exact Zd1
 ·intro ρ W4 hc hL hr;have h0:_=_:=hr.1;have h1:_=_:=hr.2.1;have e1:=hc.func 59;refine bD (f:=59) (args:= #[.agg (ay y),cV]) (w':=W4) Tar ?_;exact ZgS
 ·exact Zab):p:=h
theorem Za5(h:p:=by
 intro ρ W4 hc hL hr;cases gd
 ·exact ZgT
 ·skip;cases nz
  ·exact Zda
  ·skip;intro hg;have hg:ρ (.tmp 26)=.bool true:=hg;exact Zao):p:=h
theorem Za6(h:p:=by simp[intOf];omega):p:=h
theorem Za7(h:p:=by exact⟨s0,r0,by omega,by omega,by omega,by omega,by rw[tV.ae],by rw[ko.ae],HS.ae⟩):p:=h
theorem zfE.Kbb(h:p:=by exact bodyPost_ret (v:=.tuple #[.agg #[ag 0,af 0,.string ByteArray.empty],af 40]) Tae rfl ⟨congrArg (λ r:Val×Int=>Ending.returned (bT r.1 r.2)) NX.ae.symm,((hB.setCell bK _).setCell bK _).setCell bK _⟩):p:=h
theorem Za8(h:p:=by have NX:=aa (Nz.ae (aP,40) (by unfold iJ;simp only[map_cons,map_nil];rw[tI.ae,hs,if_pos rfl]));open zfE in exact ZcV):p:=h
theorem Za9(h:p:=by simp only[execOp,resolve,invoke,builtin,Sem.run_bind,Sem.run_pure,Result.andThen_ok,map_toArray,map_cons,map_nil,xA,Ej,ny]):p:=h
theorem Zba(h:p:=by
 go_wp2_with fail;refine hi.mono ?_;rintro e w1 ⟨rfl,b1⟩;clear hi;by_cases h:0<=fV (args.map (·.2))
 ·have t1:=decide_eq_true h;go_wp2_with fail;go_ret;exact⟨by rw[t1];rfl,b1⟩
 ·have t1:=decide_eq_false h;go_wp2_with fail;go_ret;exact⟨by rw[t1];rfl,b1⟩):p:=h
theorem Zbb(h:p:=by refine⟨rfl,?_⟩;unfold qN at hG;rw[if_neg Taa];show(execOp ρ _).run Tryz.prog w=.ok (.value (aw gp)) w;simp[go_sem,r0]):p:=h
theorem Zbc(h:p:=by
 intro N
 induction N generalizing D with
 | zero=>intro i j h h0 h1;omega
 | succ N ih=>
   intro i j h h0 h1 EU;rcases Nat.lt_trichotomy i j with h2 | h2 | h2
   ·have h3:=ih (dS D (m - i) (m+j - i) i) i (j - i) WC h0 WC EU;rw[rB D m i j EU h2] at h3;exact((iT D (m - i) (m+j - i) i WC).mono (Nat.le_refl _) WC).trans (h3.mono (Nat.le_refl _) WC)
   ·subst h2;rw[<- rC D m i EU];exact iT D (m - i) m i WC
   ·have h3:=ih (dS D (m - i) m j) (i - j) j WC WC h1 WC;rw[rz D m i j EU h2] at h3;exact((iT D (m - i) m j WC).mono (Nat.le_refl _) WC).trans (h3.mono WC (Nat.le_refl _))):p:=h
theorem Zbd(h:p:=by simp[results,Tryz.results42,go_sem,y0,y1,y2,y3,o4,o5]):p:=h
theorem Zbe(h:p:=by
 refine(FV (s.extract at_ k) _ (by rw[ByteArray.size_extract];omega)).mono ?_;rintro e w1 ⟨rfl,b1⟩;have HE:=aa (show(s.extract at_ k).data.toList=(s.data.toList.drop at_).takeWhile eR by rw[<- mV.ae];exact nr eR s at_);obtain⟨z0,z1,z2,z3,y0,y1,y2,y3⟩:=bR (HZ.ae.later b1);rw[HE.ae];go_wp2_with fail;refine bodyPost_ret (v:=.tuple #[.agg #[ag 1,.string ⟨(((s.data.toList.drop at_).takeWhile eR).map wk).toArray⟩,af 0,af at_],af k,af 0]) Zb0 rfl ?_
 ·rw[R7.ae,mV.ae,if_pos h32];unfold Ab;simp only;rw[wC eR s WC,mV.ae];exact⟨rfl,wD (bb.trans (b1.mono bb.size)) (Nat.le_refl _) _ _ _ _⟩):p:=h
theorem Zbf(h:p:=by
 simp only[take_succ_cons,take_zero];refine⟨Zab,Zab,Zab,?_,Zgr,Zab,Zab,Zab,?_,trivial⟩
 ·intro ρ W4 hc hL hr;have h0:_=_:=hr.1;have h1:_=_:=hr.2.1;exact aq (v:=bj lb j) (w':=W4) (by have vw:=HJL.ae;simp[go_sem,h0,h1,vw,dR];done) ⟨ai.refl _,rfl⟩
 ·exact ZgE):p:=h
theorem zeZ.KaX(h:p:=by go_wp2_with fail;have gX:=uQ.ae.blk;unfold PC.cells at gX;have c8:=gX.cell 8;simp only[Uaa] at c8;refine(Tr.Lu (by have:=je.ae.cl;omega) gp t z w2 kx.ae (CU.ae.later uQ.ae.base) ((je.ae.cols.later uQ.ae.base)) gX.lt c8).mono ?_;rintro e W4 ⟨rfl,hb3⟩;have MA:=aa (uQ.ae.later hb3);have MR:=aa (AQ.ae.later hb3);have MB:=Xa.ae.later hb3;have tP:=aa (ai.then fH.ae hb3);clear z0 z1 x2 x3 x4 x5 x6 c8 gX hb3 AQ Xa fH uQ;rw[ht];dsimp only;exact KaC):p:=h
theorem zgZ.KbG(h:p:=by rw[CW,ha] at iM;have HIS:=aa iM;have UL:=aa CW;clear c4 c8 c10 hb1 hf iM CW Gs tN;go_wp2_with fail;have UZ:=aa kF;have KK:=aa Lw;have hop:=UL.ae;rw[hop];refine(HIS.ae w1).mono ?_;rintro e w2 ⟨rfl,hb2⟩;rw[<- hop];have uQ:=aa (CV.ae.later hb2);have hb:=UZ.ae.later hb2;have Xa:=aa (KK.ae.later hb2);have fH:=aa (ai.then zY.ae (ai.then eN.ae hb2));clear hxo kF Lw hb2 hop UZ KK eN CV;open zeZ in exact Zcn):p:=h
theorem Zbg(h:p:=by open zgZ in exact Zew):p:=h
theorem zh0.Kb4(h:p:=by exact KaD):p:=h
theorem Zbh(h:p:=by open zh0 in exact Zfg):p:=h
theorem Zbi(h:p:=by have HE:=aa hr;clear hr;have dw:=aJ hR;have gV:=aC.frozen hR;clear hR;go_wp2_with fail;exact bodyPost_ret (v:=.tuple #[.agg (aH r.1),af r.2]) (by simp[results,Tryz.results167,go_sem,dw]) rfl ⟨by rw[HE.ae];rfl,((hB.setCell (bK) _).setCell (bK) _).setCell (bK) _⟩):p:=h
theorem zfJ.Kbc(h:p:=by
 have hsm:=h.small;unfold qI at*;unfold dv.ptr;go_enter Tryz.func184,Tryz.ntmps184;go_wp2_with (first
  |(go_at_call 184;refine(H1 ρ _ h0).mono ?_;rintro e w2 ⟨y,rfl,ht,d2⟩;unfold mK bI))
 have hA:AtC ρ w w.heap.size w2.heap.size (w2.alloc (uI y)) _ t y:=
  ⟨((eF.cZ h hb).trans d2).later (ah _ _),aC.new w2 _ _,(d2.blk HQ.ae WC).alloc _,Tr.at_.keep (Pg _ (by rw[hsz];exact Nat.le_refl _)) _ _ ht⟩
 have hqx:w.heap.size+1<=w2.heap.size:=by have:=d2.size;omega
 unfold uI bI at hA;generalize w2.alloc _=W at*;generalize w2.heap.size=qx at*;have A:=hA;clear hA ht d2 h0 hb HQ;have Hy:=cw ρ W _ false A.did.at_ ⟨#[105,115]⟩ iM;have agl:=aa hop;clear hop iM;refine Hy.mono ?_;rintro e w1 ⟨rfl,d1⟩;replace A:=A.more d1 WC WC;clear d1 Hy;go_wp2_with fail;have HA:=aa A;clear A;exact KaE):p:=h
theorem Zbj(h:p:=by intro ρ w h;have H1:=iO;clear iO;open zfJ in exact ZcY):p:=h
theorem Zbk(h:p:=by have tV:=aa iq;have ko:=aa fy;clear h hF ih q1 q2 q3 q4 q5 cE hp hf iq fy;go_enter Tryz.func106,Tryz.ntmps106;go_wp2_with fail;clear t0 t1 zm zp zs;exact KaF):p:=h
theorem Zbl(h:p:=by have tV:=aa iq;have ko:=aa fy;clear h hF ih q1 q2 q3 q4 q5 cE hp hf iq fy;go_enter Tryz.func130,Tryz.ntmps130;go_wp2_with fail;clear t0 t1 zm zp zs;exact KaG):p:=h
theorem zhR.Kb1(h:p:=by have oQ:=aa AP;have ZV:=aa Aj;have Ay:=aa fq;have jH:=aa hz;have B9:=aa Ny;exact KaH):p:=h
theorem Zbm(h:p:=by open zhR in exact Ze7):p:=h
theorem Zbn(h:p:=by rw[jn] at hex;clear jn;have gD:=HE.ae args[i] (getElem_mem hlt);have HT:=aa (show args.take (i+1)=args.take i++ [args[i]] by rw[take_add_one,getElem?_eq_getElem hlt];rfl);generalize args[i]=yv at*;obtain⟨y,v⟩:=yv;dsimp only at*;unfold cy at hex;exact KaI):p:=h
theorem Zbo(h:p:=by rw[bg] at Up;have Io:=aa Up;clear Up;go_wp2_with fail;refine(Io.ae _).mono ?_;rintro e w2 ⟨rfl,b3⟩;clear z0 z1 x2 x3 x5 x6 x0 x1 z2 z3 z4 z5 y0 y1 y2 y3 o4 o5 rf;replace k1:=k1.later b3;replace hR:=hR.later b3;replace cL:=cL.later b3;replace hB:=ai.then hB b3;replace HO:=aa (HO.ae.later b3);clear b3;have z0:=k1.cell 0;have z1:=k1.cell 1;have x2:=k1.cell 2;have x3:=k1.cell 3;have x5:=k1.cell 5;have x6:=k1.cell 6;have x0:=hR.cell 0;have x1:=hR.cell 1;have z2:=hR.cell 2;have z3:=hR.cell 3;have z4:=hR.cell 4;have z5:=hR.cell 5;have y0:=cL.cell 0;have y1:=cL.cell 1;have y2:=cL.cell 2;have y3:=cL.cell 3;have o4:=cL.cell 4;have o5:=cL.cell 5;have rf:=cL.frozen;unfold cJ at x0 x1 z2 z3 z4 z5;simp only[Uaa] at z0 z1 x2 x3 x5 x6 x0 x1 z2 z3 z4 z5 y0 y1 y2 y3 o4 o5;exact KaJ):p:=h
theorem Zbp(h:p:=by
 obtain⟨jp,kU⟩:∃jp:Nat,jp=(i+j)/ 2:=⟨_,rfl⟩;have zc:((i:Int)+(j:Int))/ 2=(jp:Int):=by omega
 simp only[zc];have cg:i<=jp:=by omega
 have xw:jp < j:=by omega
 clear zc kU;exact KaK):p:=h
theorem Zbq(h:p:=by have x0:=hR.cell 0;have x1:=hR.cell 1;have z6:=hR.cell 6;have y0:=cL.cell 0;have y1:=cL.cell 1;have y2:=cL.cell 2;have y3:=cL.cell 3;have o4:=cL.cell 4;have o5:=cL.cell 5;simp only[Uaa] at x0 x1 z6 y0 y1 y2 y3 o4 o5;go_wp2_with fail;exact KaL):p:=h
theorem Zbr(h:p:=by
 go_wp2_with fail;refine(fE x.op _).mono ?_;rintro e w9 ⟨rfl,rfl⟩;by_cases hn:(x.n:Int)=nH x.op
 ·have t1:((x.n:Int)==nH x.op)=true:=by simpa using hn
  have qz:=aa (show bS x=42 by simp only[bS];rw[if_neg Tak,if_neg Tak,if_pos hn]);exact ZbR
 ·have t1:((x.n:Int)==nH x.op)=false:=by simpa using hn
  have qz:=aa (show bS x=21 by simp only[bS];rw[if_neg Tak,if_neg Tak,if_neg hn]);exact ZbS):p:=h
theorem Zbs(h:p:=by rintro e4 w4 ⟨rfl,b4⟩;exact⟨_,rfl,b4,rfl⟩):p:=h
theorem Zbt(h:p:=by refine wpQuiet_nil ?_;rintro W4 ⟨x9,bM⟩;have hL:=x9.h;rw[<- bM] at hL;clear bM x9 c1 c2 hc;replace hR:=hR.later hL;replace hB:=ai.then hB hL;exact KaM):p:=h
theorem zft.Ka6(h:p:=by refine wpQuiet_nil ?_;rintro W4 ⟨x9,bM⟩;have hL:=x9.h;rw[<- bM] at hL;clear bM x9;have H3:=aa (H2.ae.later hL);clear H2 hL;exact Zdi):p:=h
theorem Zbu(h:p:=by have t1:decide ((a:Int)<(j:Int))=false:=decide_eq_false WC;have SO:=aa (EN.ae.stop hj0 (.inl WC));go_upto_region 4 with fail;refine aD 17 wr.heap.size wr (Below.refl _ _) Vx Vx Vx Vx ?_;open zft in exact ZcP):p:=h
theorem zjE.KcL(h:p:=by have y6:=cL.cell 6;exact Zd1):p:=h
theorem Zbv(h:p:=by open zjE in exact Ziy):p:=h
theorem Zbw(h:p:=by exact⟨s0,r0,by omega,by omega,by omega,by omega,by rfl,by rw[ko.ae],HS.ae⟩):p:=h
theorem zhc.KbL(h:p:=by clear x6;exact KaN):p:=h
theorem zf6.Kbj(h:p:=by clear hg;have HA:=aa Uh;have Yz:=aa Yy;have BR:=aa Im;have HE:=aa hE;clear Uh Yy Im hE;open zhc in exact ZeK):p:=h
theorem Zbx(h:p:=by have HX:=aC.new w 46 #[ag op,ag xv.k,af xv.n,.string xv.s,.string name,af width,.slice A n c];have hB:=ah w (.cells #[ag op,ag xv.k,af xv.n,.string xv.s,.string name,af width,.slice A n c] 46);have Yy:=(hB.cell (p:=⟨gp,8,none⟩) sQ).trans Yx;have Im:=Nat.lt_of_lt_of_le sQ hB.size;have Uh:=hA.later hB;clear hA Yx sQ;go_enter Tryz.func153,Tryz.ntmps153;open zf6 in exact Zdm):p:=h
theorem Zby(h:p:=by
 refine qT bh hz 0 zs rfl listed a w I.len ?_ hK;intro i hi;constructor
 ·intro hl;rcases Nat.lt_or_ge i l.length with h' | h'
  ·omega
  ·rw[I.tail i h'] at hl;cases hl
 ·intro hl;exact hall i WC):p:=h
theorem Zbz(h:p:=by
 simp only[take_succ_cons,take_zero];refine⟨Zab,Zab,Zab,?_,?_,Zab,Zab,?_,trivial⟩
 ·intro ρ W4 hc hL hr;have h0:_=_:=hr.1;have h1:_=_:=hr.2.1;exact aq (w':=W4) (by simp[go_sem,h0,h1,IntKind.wrap_i64];omega) ⟨ai.refl _,rfl⟩
 ·intro ρ W4 hc hL hr;have h0:_=_:=hr.1;have h1:_=_:=hr.2.1;have hs:=EC W4;exact Zdj
 ·intro ρ W4 hc hL hr;have h0:_=_:=hr.1;have h1:_=_:=hr.2.1;have hs:=PZ W4;exact Zdj):p:=h
theorem ZbA(h:p:=by intro ρ W4 hc hL hr;have h0:_=_:=hr.1;have jk:=(HK.ae.later hL).cell 0;simp only[getElem?_toArray,getElem?_cons_zero] at jk;exact Zea):p:=h
theorem ZbB(h:p:=by
 repeat (go_big_quiet_step (fail))
 refine wpQuiet_nil ?_;rintro W4 ⟨x9,bM⟩;have hL:=x9.h;rw[<- bM] at hL;exact KaO):p:=h
theorem ZbC(h:p:=by
 intro p q hp Ro hq;unfold mf;by_cases c1:a<=p/\p < i - 1
 ·rw[if_pos c1];by_cases c2:a<=q/\q < i - 1
  ·rw[if_pos c2];exact hs (p+1) (q+1) WC WC WC
  ·rw[if_neg c2];by_cases c3:q=i - 1
   ·rw[if_pos c3];exact le_of_lt (h1 (p+1) WC WC)
   ·rw[if_neg c3];exact hs.le WC WC hq
 ·rw[if_neg c1];have c2:¬(a<=q/\q < i - 1):=by omega
  rw[if_neg c2];have c3:q≠i - 1:=by omega
  rw[if_neg c3];by_cases c4:p=i - 1
  ·rw[if_pos c4];exact not_lt.1 (h2 q WC hq)
  ·rw[if_neg c4];exact hs p q WC Ro hq):p:=h
theorem ZbD(h:p:=by
 have hp:=Array.swap_perm (xs:=((List.range n).map D).toArray) (i:=i) (j:=j) TaD (by simpa using hj)
 have e:((List.range n).map (swp D i j)).toArray=((List.range n).map D).toArray.swap i j TaD (by simpa using hj):=by
  apply Array.ext
  ·simp
  ·intro k h1 h2;have hk:k < n:=by simpa using h1
   rw[Array.getElem_swap];simp only[getElem_toArray,getElem_map,getElem_range];unfold swp;exact Zc9
 have:=e▸hp;exact Array.perm_iff_toList_perm.1 this):p:=h
theorem zh2.Kb5(h:p:=by have HWR:=aa hwr;have Pu:=aa hpl;have HG:=aa hg;have LP:=aa ck;clear hwr hpl hg ck uH;rw[Pt];exact KaP):p:=h
theorem ZbE(h:p:=by obtain⟨t,pl,bd,hpl,hlt,hsm,uH,ck,hg,JZ,vn,hp⟩:=h.wG;have Ea:=hp.later (ah w qC);have LO:=hp.later ((ah w (.cells (dF t) 172)).drew);have hb:=(ah w (.cells (dF t) 172)).drew;have HT:=(aC.new w 172 (dF t)).drew;have HB:=aa HT;have HF:=aa (h.later hb);have HD:=aa (eF.cZ h hb);have oC:=(h.later hb).facts.2.2.2.2.1;have Pt:ρ.ptr=aw ρ.g:=rfl;have hwr:=pG ρ _ σ big (h.later hb);have T4:=h.left;have ee:=h.FY;clear h;open zh2 in exact Zfh):p:=h
theorem ZbF(h:p:=by skip;intro hg;have hg:ρ (.tmp 22)=.bool true:=hg;exact Zas):p:=h
theorem ZbG(h:p:=by go_enter Tryz.func144,Tryz.ntmps144;go_wp2_with fail;go_ret;exact⟨by rw[HQ.ae];rfl,by go_grown⟩):p:=h
theorem ZbH(h:p:=by
 rcases Br with rfl |⟨pp,rfl⟩
 ·have Az:fc (ar f0 #[.agg #[ag op,ag xv.k,af xv.n,.string xv.s,.string name,af width,.slice A 2 c],.slice A8 2 c8] _ _):=DZ.ae;exact ZfH
 ·have Az:fc (ar f0 #[.agg #[ag op,ag xv.k,af xv.n,.string xv.s,.string name,af width,.slice A 2 c],.slice A8 2 c8,pp] _ _):=DZ.ae;exact ZfH):p:=h
theorem ZbI(h:p:=by
 obtain⟨⟨e1,e2⟩,rfl,e3⟩:=he;constructor
 ·intro hn;refine⟨λ d hd NF=>?_,h.high⟩;have a1:le (D d) (D c):=h1.le WC WC WC;have a2:le (D ((a+b)/ 2+m - 1 - c)) (D ((a+b)/ 2+m - 1 - d)):=h2.le WC WC WC;exact not_lt.2 (le_trans (le_trans a1 (not_lt.1 hn)) a2)
 ·intro hl;refine⟨h.low,λ d hd NF=>?_⟩;have a1:le (D c) (D d):=h1.le WC WC WC;have a2:le (D ((a+b)/ 2+m - 1 - d)) (D ((a+b)/ 2+m - 1 - c)):=h2.le WC WC WC;exact jV (jU a2 hl) a1):p:=h
theorem ZbJ(h:p:=by
 rcases Br with rfl |⟨pp,rfl⟩
 ·have Az:fc (ar f0 #[.agg #[ag op,ag xv.k,af xv.n,.string xv.s,.string name,af width,.slice A 1 c],.slice A8 1 c8] _ _):=DZ.ae;exact ZfP
 ·have Az:fc (ar f0 #[.agg #[ag op,ag xv.k,af xv.n,.string xv.s,.string name,af width,.slice A 1 c],.slice A8 1 c8,pp] _ _):=DZ.ae;exact ZfP):p:=h
theorem ZbK(h:p:=by
 constructor
 ·intro p q h1 h2 h3 h4 h5;unfold swp;rw[if_neg h4,if_neg h5];by_cases e1:p=j
  ·subst e1;rw[if_pos rfl,if_neg WC];exact h.1 (p - 1) q WC WC h3 WC WC
  ·rw[if_neg e1];by_cases e2:q=j
   ·subst e2;rw[if_pos rfl];exact h.1 p (q - 1) h1 WC WC e1 WC
   ·rw[if_neg e2];exact h.1 p q h1 h2 h3 e1 e2
 ·intro q h1 h2;unfold swp;rw[if_pos rfl,if_neg WC];by_cases e2:q=j
  ·subst e2;rw[if_pos rfl];exact le_of_lt hl
  ·rw[if_neg e2];exact h.2 q WC h2):p:=h
theorem ZbL(h:p:=by
 have e1:aO D s m f=D:=by exact Zg6
 have H3:=aa (show SS w0 g n _ (aO D s m f) by rw[e1];exact H2.ae);have jI:=aa (show Sw s f D (aO D s m f) by rw[e1];exact .refl);exact KaQ):p:=h
theorem ZbM(h:p:=by
 intro p q hp Ro hq;unfold nJ;by_cases c1:p=i
 ·rw[if_pos c1,if_neg WC,if_pos WC];exact le_of_lt (h2 (q - 1) WC WC)
 ·rw[if_neg c1];by_cases c2:i < p/\p<=m
  ·rw[if_pos c2,if_neg WC,if_pos WC];exact hs.le WC WC WC
  ·rw[if_neg c2];by_cases c3:q=i
   ·rw[if_pos c3];exact not_lt.1 (h1 p hp WC)
   ·rw[if_neg c3];by_cases c4:i < q/\q<=m
    ·rw[if_pos c4];exact hs.le hp WC WC
    ·rw[if_neg c4];exact hs p q hp Ro WC):p:=h
theorem ZbN(h:p:=by go_ret;exact ZfI):p:=h
theorem ZbO(h:p:=by have z0:=hb.cell 0;have z1:=hb.cell 1;have x2:=hb.cell 2;have x3:=hb.cell 3;have x4:=hb.cell 4;have x5:=hb.cell 5;have x6:=hb.cell 6;simp only[bI,Uaa] at z0 z1 x2 x3 x4 x5 x6;exact KaR):p:=h
theorem ZbP(h:p:=by
 go_enter Tryz.func44,Tryz.ntmps44;go_wp2
 all_goals
  go_ret;refine⟨?_,by go_grown⟩;simp_all):p:=h
theorem ZbQ(h:p:=by
 intro vs w hl hG;have Cp:=Co _ _ hG
 match vs,hl with
 | [a,s,v],_=>obtain⟨y,w1,gI,w2,ha,h2,h3,h4,h5,h6,h7,h8⟩:=hG;simp only[bF,e0,e1,e2,e3,e4,e5,e6];intro a0' p0 a1 p1 a2 p2 a3 p3 a4 p4 a5 p5 a6 p6;have z0:a0'=bj qb k:=p0;have z1:a1=lv:=p1;have z2:a2=ptr:=p2;have z3:some a=some a3:=p3;have z4:some s=some a4:=p4;have z5:some v=some a5:=p5;have z6:a6=bj qb k:=p6;injection z3 with z3;injection z4 with z4;injection z5 with z5;rw[z0,z1,z2,<- z3,<- z4,<- z5,z6,ha];exact mn y s v w1 gI w2 w h2 h3 h4 h5 h6 h7 h8 Cp):p:=h
theorem ZbR(h:p:=by
 go_wp2_with fail;refine bodyPost_ret (v:=.tuple #[.agg #[af a,ag wa,ag gi,.bool al,.bool nu,d],af 42]) Zbd rfl ?_
 ·exact ZaQ):p:=h
theorem ZbS(h:p:=by
 go_wp2_with fail;refine bodyPost_ret (v:=.tuple #[.agg #[af a,ag wa,ag gi,.bool al,.bool nu,d],af 21]) Zbd rfl ?_
 ·exact ZaQ):p:=h
theorem ZbT(h:p:=by exact bodyPost_ret (v:=.tuple #[]) TaJ rfl ⟨rfl,E,H4.ae,jg.ae,lg.ae⟩):p:=h
theorem ZbU(h:p:=by exact bodyPost_ret (v:=.tuple #[]) TaI rfl ⟨rfl,E,H4.ae,jg.ae,lg.ae⟩):p:=h
theorem ZbV(h:p:=by skip;intro hg;have hg:ρ (.tmp 26)=undef:=hg;exact Zas):p:=h
theorem ZbW(h:p:=by obtain⟨q,h1,h2⟩:=h;exact⟨q,h1,hk _ _ _ h2⟩):p:=h
theorem ZbX(h:p:=by
 have HE:=aa he;have t1:(!y==n.toList)=true:=by rw[xY.ae];rw[beq_eq_false_iff_ne] at he;simp;exact λ e=>he e.symm
 clear he;go_wp2_with fail;go_roundw;case rel=>refine⟨i+1,by omega,by go_num,jH.ae,?_⟩;rw[Ec.ae,HST.ae,HE.ae];rfl
 case measure=>exact Za6):p:=h
theorem ZbY(h:p:=by go_wp2_with fail;go_ret;exact YES.ae _ eN.ae):p:=h
theorem ZbZ(h:p:=by
 obtain⟨v',w',hr,ho,ha⟩:=fg t ty z bytes ht jm hzs hsz hf h1 hown g0 hg0 hlen mS hbase;obtain⟨i0,kB,hz0,hz1,hz2⟩:=info_parts jm;obtain⟨v2,w2,hr2,_,_,h4⟩:=iR (P:=P) w base t ty e i0 z size bytes ht kB hz0 hz1 hz2 hzs hsz lv l.length (l.flatMap f) hown (g0+1) (some ⟨g0,0,none⟩) 1 1 (f y) ⟨by rw[hf];omega,λ _=>⟨_,rfl,Nat.lt_succ_self _,by
  intro j u hu
  have:(Addr.add ⟨g0,0,none⟩ j)=⟨g0,j,none⟩:=by unfold Addr.add;split <;> simp_all
  rw[this,hg0.cell]
  simpa using hu⟩⟩ h1 Tam hlen hbase
 rw[hr] at hr2;injection hr2 with e1 e2;subst e1 e2;exact KaS):p:=h
theorem Zb0(h:p:=by simp[results,Tryz.results132,go_sem,z0,z1,z2,z3]):p:=h
theorem Zb1(h:p:=by
 rw[length_set,MC hf y l i ui];simp only[toList_toArray,size_toArray,hf];rw[<- ht,take_take,Nat.min_eq_left WC,drop_take];have hA:(cur.toList.take (i*size)).length=i*size:=by rw[length_take,Array.length_toList];omega
 have hF:(f y).length=size:=hf y;rw[append_assoc,take_append,hA,take_of_length_le (by rw[hA];omega),take_append,hF,take_of_length_le (l:=f y) (by rw[hF];omega),append_assoc,Nat.sub_sub]):p:=h
theorem Zb2(h:p:=by
 have t1:(op==1)=false:=by simpa using h1
 have Bq:op≠2:=by
  intro e2;rcases Hs.ae with h | h
  ·exact h e2
  ·exact h (sI mV.ae e2)
 have t2:(op==2)=false:=by simpa using Bq
 obtain⟨Hu,nI,hwd⟩:=Bl mV.ae Bq h1;clear Bq;dsimp only at Hu nI hwd;have afi:3<=op/\op<=20:=by simpa [kH] using Hu
 have Rx:((op.toNat:Nat):Int)=op:=by omega
 have hOp:gG (W3.alloc (.cells #[af a,ag wa,ag gi,.bool al,.bool nu,d] 100)) op.toNat (.agg (cJ a wa gi al nu d)):=by
  rcases HOI.ae with ⟨_,h⟩|⟨h,_⟩
  ·exact h
  ·dsimp only at h;rw[Hu] at h;cases h
 have Hv:=hOp.fields;exact KaT):p:=h
theorem Zb3(h:p:=by
 repeat' split
 all_goals first
  |(exfalso;omega)
  | rfl
  |(congr 1;omega)):p:=h
theorem Zb4(h:p:=by
 go_wp2_with fail;refine(ik w0 g n cap a (a+20) E _ HF.ae hn WC WC).mono ?_;rintro e_ w1 ⟨rfl,F,hF,ih,ho⟩;have H2:=aa hF;have HW:=aa (IH.ae.trans (ih.mono WC WC));have EN:=aa (Q1.ae.step Q3.ae ih ho);have IV:=aa (Nat.dvd_add Q3.ae (Nat.dvd_refl 20));clear hF ih ho Q3 Q1 IH HF;go_wp2_with fail;go_roundw;case rel=>exact⟨a+20,F,IV.ae,by omega,by go_num,by go_num,H2.ae,HW.ae,EN.ae⟩
 case measure=>exact Za6):p:=h
theorem Zb5(h:p:=by have z0:=HX.cell 0;have z1:=HX.cell 1;have x2:=HX.cell 2;have f0:=HX.frozen 0;have f1:=HX.frozen 1;have f2:=HX.frozen 2;simp only[Uaa] at z0 z1 x2;exact KaU):p:=h
theorem Zb6(h:p:=by
 clear HL HX;go_wp2_with fail;go_roundw;case rel=>exact⟨jp+1,j,by omega,by omega,by omega,by go_num,rfl,H3.ae,xu.ae,HH.ae⟩
 case measure=>exact Za6):p:=h
theorem Zb7(h:p:=by
 refine⟨λ i j hi hj hb=>?_,(k1.mono (Nat.le_refl _) hm.2).trans (k2.mono hm.1 (Nat.le_refl _))⟩;by_cases c1:j < mid
 ·rw[k2.ae i (.inl WC),k2.ae j (.inl c1)];exact s1 i j hi hj c1
 ·by_cases c2:mid<=i
  ·exact s2 i j c2 hj hb
  ·rw[k2.ae i (.inl WC)];obtain⟨i',h1,h2,h3⟩:=k1.mem i hi WC;obtain⟨j',h4,h5,h6⟩:=k2.mem j WC hb;rw[h3,h6,k1.ae j' (.inr h4)];exact h i' j' h1 h2 h4 h5):p:=h
theorem Zb8(h:p:=by
 rw[if_neg WC,if_neg WC,if_neg WC,if_pos WC];unfold St.alone;split
 ·exact Zgm
 ·rename_i hk;obtain⟨r1,r2,r3,r4⟩:=sM { s with all:=s.all+1 } x.1 aP;exact Zfl):p:=h
theorem Zb9(h:p:=by
 rw[if_neg WC,if_neg WC,if_neg WC,if_neg WC];unfold St.BD;split
 ·rename_i hk;obtain⟨r1,r2,r3,r4⟩:=sM { s with all:=s.all+1 } x.1 x.2;exact Zfl
 ·exact Zgm):p:=h
theorem Zca(h:p:=by have h0:_=_:=hr.1;exact aq (w':=W4) Tai ⟨ai.refl _,rfl⟩):p:=h
theorem Zcb(h:p:=by exact aq (v:=v') (w':=w') (by simp only[execOp,resolve,invoke,builtin,Sem.run_bind,Sem.run_pure,Result.andThen_ok,map_toArray,map_cons,map_nil,h0,h1,hrun]) ⟨yS,_,rfl,ho,Eu.later hL.grown.size⟩):p:=h
theorem Zcc(h:p:=by exact bodyPost_ret (v:=.tuple #[]) TaJ rfl ⟨rfl,T,HT.ae,jg.ae,lg.ae⟩):p:=h
theorem Zcd(h:p:=by exact bodyPost_ret (v:=.tuple #[]) TaI rfl ⟨rfl,T,HT.ae,jg.ae,lg.ae⟩):p:=h
theorem Zce(h:p:=by exact aq (w':=W4) (by simp[go_sem,h0,c0,<- IH.ae];done) ⟨ai.refl _,rfl⟩):p:=h
theorem zhp.KbR(h:p:=by exact aq (w':=W4) (by simp[go_sem,h0,y0,y1,y2,y3,y4,y5,y6,c7];done) ⟨ai.refl _,rfl⟩):p:=h
theorem Zcf(h:p:=by intro ρ W4 hc hL hr;have h0:_=_:=hr.1;have cL:=Gs.ae.later hL;open zhp in exact ZeW):p:=h
theorem Zcg(h:p:=by
 clear HH HX;go_wp2_with fail;go_roundw;case rel=>exact⟨i,jp,by omega,by omega,by omega,rfl,rfl,H3.ae,HL.ae,HH2.ae⟩
 case measure=>exact Za6):p:=h
theorem Zch(h:p:=by intro ρ W4 hc hL hr;intro hg;have hg:ρ (.tmp 45)=.bool true:=hg;refine⟨λ _=>?_,λ hn=>absurd hg hn⟩;exact KaV):p:=h
theorem Zci(h:p:=by
 intro vs w h
 match vs,h with
 | [],h=>rw[ai.cell h (p:=⟨qb,k,none⟩) WR];exact hcell
 | [a],⟨y,w1,gI,_,h2,h3,h4⟩=>exact(wH h2 h3 h4).1
 | [a,s],⟨y,w1,gI,_,_,_,h2,h3,h4,_⟩=>exact(wH h2 h3 h4).1
 | [a,s,v],⟨y,w1,gI,w2,_,h2,h3,h4,_,h6,_,_⟩=>obtain⟨k1,_,k3⟩:=wH h2 h3 h4;rw[pH h6 (p:=⟨qb,k,none⟩) (Nat.lt_of_lt_of_le WR k3) (λ e=>hlq e.symm)];exact k1
 | _::_::_::_::_,h=>exact h.elim):p:=h
theorem Zcj(h:p:=by rintro e w4 ⟨rfl,d4⟩;go_wp2_with fail;refine(Cr HF.ae IH.ae ρ _ d4.at_).mono ?_;rintro e w5 ⟨n,hn,rfl,d5⟩;have HN:=aa hn;clear hn;go_wp2_with fail;have hwd:=lK ρ _ _ false d5.at_ ⟨#[40]⟩;exact KaW):p:=h
theorem Zck(h:p:=by
 intro ρ w vs hc hG hr;rw[t4] at hr;have r0:=hr.1;simp only[s4] at r0;refine⟨g4,?_⟩;show vs.length=1->_;intro hl
 match vs,hl with
 | [a],_=>have r0:some a=some (ρ (.tmp d3)):=r0;injection r0 with r0;obtain⟨y,w1,gI,ha,h2,h3,h4⟩:=hG;refine aq (JX ρ w y (r0.symm.trans ha)) ?_;exact⟨y,w1,gI,w.heap.size,ha,rfl,h2,h3,h4.trans ((Below.refl _ _).alloc (Nat.le_refl _) _),aC.new w e _⟩):p:=h
theorem Zcl(h:p:=by
 go_wp2_with fail;refine bodyPost_ret (v:=.tuple #[.agg #[af a,ag wa,ag gi,.bool al,.bool nu,d],af 0]) Zbd rfl ?_
 ·exact ZaQ):p:=h
theorem Zcm(h:p:=by
 go_roundw
 case rel=>
  refine⟨k+1,dL++ [nl],hlt,by go_num,O4.ae,?_,?_,by simp;exact Aa.ae,?_,Kx.ae⟩
  ·intro x hx;rcases List.mem_append.1 hx with hx | hx
   ·exact RW4.ae x hx
   ·rw[mem_singleton] at hx;subst hx;exact⟨N41.ae,N42.ae,HN8.ae.2.2⟩
  ·rw[AY.ae,xu.ae,map_append,J0.ae];show _++ [Nh nl]=_++ [_];rw[PV.ae]
  ·rw[jg.ae];exact B4.ae
 case measure=>exact Za6):p:=h
theorem Zcn(h:p:=by have z0:=hb.cell 0;have z1:=hb.cell 1;have x2:=hb.cell 2;have x3:=hb.cell 3;have x4:=hb.cell 4;have x5:=hb.cell 5;have x6:=hb.cell 6;simp only[Uaa] at z0 z1 x2 x3 x4 x5 x6;have AQ:=aa hb;clear hb;exact KaX):p:=h
theorem Zco(h:p:=by go_wp2_with fail;have nT:=aa (Q3.ae.congr (E:=E) λ x h1 h2=>HW.ae.ae x (.inr h1));have nU:=aa (Q4.ae.congr (E:=E) λ x h1 h2=>HW.ae.ae x (.inr WC));refine(IH.ae mid f b E _ WC WC hb WC H4.ae nT.ae nU.ae).mono ?_;rintro e_ w7 ⟨rfl,T,h5,h6,h7⟩;have HF:=dn ⟨by omega,by omega⟩ Q5.ae HW.ae h6 HO.ae h7;have HT:=aa h5;have lg:=aa HF.1;have jg:=aa ((jI.ae.mono WC WC).trans HF.2);clear h5 h6 h7 HF;go_wp2_with fail;exact KaY):p:=h
theorem zh3.Kb5(h:p:=by go_enter Tryz.func199,Tryz.ntmps199;go_wp2_with fail;go_region;clear c0 c1 c2 d0 d1 d2 d3 y0 y1 x9 z0 z1 z2 z3 x0 v0 v1 v2 v3;obtain⟨u0,u1,u2,u3,_⟩:=bR HT;have xX:=aa HT;clear HT;unfold dF at u0 u1 u2 u3 hb3 x1 x2 oC Kx xX HD nx Cs;generalize World.drew _=W at*;exact KaZ):p:=h
theorem Zcp(h:p:=by have Pu:=aa hpl;clear h hpl KK ck uH ny h0 hb HQ;open zh3 in exact Zfh):p:=h
theorem Zcq(h:p:=by exact⟨rfl,wD bb (Nat.le_refl _) _ _ _ _⟩):p:=h
theorem Zcr(h:p:=by obtain⟨x0,x1,h1,f0⟩:=h;exact⟨x0,x1,h1,f0.later hl⟩):p:=h
theorem Zcs(h:p:=by intro ρ W4 hc hL hr;have h0:_=_:=hr.1;exact aq (v:=aw gp) (w':=W4) Tai ⟨AR.refl _,rfl⟩):p:=h
theorem Zct(h:p:=by
 rcases h with h |⟨b,off,h1,h2,h3⟩
 ·subst h;simp at hk
 ·exact⟨b,off,h1,h2,h3 k _ (getElem?_eq_getElem hk)⟩):p:=h
theorem Zcu(h:p:=by
 rw[if_neg (by rw[hf];simp),afn];dsimp only;by_cases Ht:bS ⟨op,xv,name,width,none,args.length,0⟩=0
 ·simp only[Ht,ne_eq,not_true_eq_false,↓reduceIte];by_cases h1:op=1
  ·simp only[h1,↓reduceIte]
  ·simp only[h1,↓reduceIte];rw[if_neg];intro ho;exact h2 ⟨ho,sI (l:=args) Ht ho⟩
 ·simp only[Ht,ne_eq,not_false_eq_true,↓reduceIte]):p:=h
theorem Zcv(h:p:=by
 go_wp2_with fail
 all_goals
  go_ret;refine⟨?_,rfl⟩;try simp_all
  try rfl):p:=h
theorem Zcw(h:p:=by intro ρ' w' h';simp[go_sem,h']):p:=h
theorem Zcx(h:p:=by go_wp2_with (go_at_call 104;refine(jz _).mono ?_;rintro e w1 ⟨rfl,rfl⟩);go_ret;rw[HT.ae];exact⟨rfl,by go_grown⟩):p:=h
theorem Zcy(h:p:=by
 rcases hb.1 with h1 | h1
 ·have:=(p.rows i hi b e).1;omega
 ·match i with
  | 0=>exact(ey.1 hb.2).2.2.1 e
  | 1=>exact(ey.1 hb.2).2.2.2 e
  | 2=>have:=(h.f.rows 2 WC b e).2.1;omega
  | 3=>have:=(h.f.rows 3 WC b e).2.1;omega
  | 4=>have:=(h.f.rows 4 WC b e).2.1;omega
  | n+5=>have:=(h.f.rows 5 WC b e).2.1;omega):p:=h
theorem Zcz(h:p:=by
 generalize hW3:World.drew _=W3 at S3 ⊢;clear hW3;have SI:=aa (EN.ae.step hja hj (by simpa using HL.ae));have SW:=aa (Sw.step (i:=jp+1) (j:=jp) HW.ae WC WC WC WC);clear EN HW HL;go_wp2_with fail;go_roundw;case rel=>exact⟨jp,_,by omega,by omega,by go_num,S3.ae,SW.ae,SI.ae⟩
 case measure=>simp[intOf]):p:=h
theorem ZcA(h:p:=by
 go_wp2_with fail;have bx:=ah wr (.cells (ay y) 46);refine(gD _ (ai.then (ai.then HB.ae hW) bx)).mono ?_;rintro e w1 ⟨rfl,b1⟩;have KK:=ai.then hW (ai.then bx b1);clear bx hex gD b1;go_wp2_with fail;go_roundw;case rel=>refine⟨i+1,hlt,by go_num,?_,KK⟩;rw[HT.ae,map_append,map_singleton,xM,HM.ae]
 case measure=>exact Za6):p:=h
theorem ZcB(h:p:=by
 simp only[bL,fA,Tryz.f28,Option.getD_some] at key;have hK2:∀T:Array Value,T.size=252->T.getD 2 undef=aw g2->T.getD 4 undef=aw g4->T.getD 5 undef=aw g5->T.getD 6 undef=aw gp->K { tmps:=T,defers:=d } wr:=λ T hT h2 h4 h5 h6=>hK _ _ (key T hT h2 h4 h5 h6)
 clear hK key;go_wp2_with fail;refine hK2 _ ?_ ?_ ?_ ?_ ?_ <;> rfl):p:=h
theorem ZcC(h:p:=by
 have hmf:∀(fn:Fn) (first cap:Array Value) (w:World),(Instr.makeFunc fn first cap).run Tryz.prog w=.ok (.func fn first cap) w:=λ _ _ _ _=>rfl
 exact Ka0):p:=h
theorem ZcD(h:p:=by
 intro p q h1 h2 h3;by_cases e1:p=j
 ·subst e1;exact h.2 q h2 WC
 ·by_cases e2:q=j
  ·subst e2;rcases hs with hs | hs
   ·omega
   ·have h4:=not_lt.1 hs;by_cases e3:p=q - 1
    ·rw[e3];exact h4
    ·exact le_trans (h.1 p (q - 1) h1 WC WC e1 WC) h4
  ·exact h.1 p q h1 h2 WC e1 e2):p:=h
theorem ZcE(h:p:=by intro ρ W4 hc hL hr;have h0:_=_:=hr.1;have jk:=(hL.cell (p:=⟨gp,8,none⟩) Qq.ae).trans Jm.ae;exact Zea):p:=h
theorem ZcF(h:p:=by
 have zQ:i < n:=by have:=HN.ae;omega
 obtain⟨b,off,rfl,kE,hex⟩:=(HA.ae.below (KK.trans (hb.mono KK.size))).at_ (show i <(args.map (·.1)++bad::post).length by simp;omega);exact Ka1):p:=h
theorem ZcG(h:p:=by intro ρ w σ hc hG hr he hno;have r0:ρ (.tmp 6)=aw gp:=(show ρ (.tmp 6)=f 6 from hr.1).trans es0;exact Zbb):p:=h
theorem ZcH(h:p:=by
 have hr:=IG _ _ s[i] (aC.new wr 5 #[ag (s[i].toNat:Int)]);have uF:=aa (Sh hc);clear hc;go_wp2_with fail;go_roundw;case rel=>refine⟨i+1,l++ [s[i]],by omega,by go_num,by rw[mm],by rw[length_append,HL.ae];rfl,?_,hb.trans ((ah wr _).mono hb.size)⟩;rw[HM.ae,HD.ae];simp[uF.ae]
 case measure=>exact Za6):p:=h
theorem ZcI(h:p:=by
 have HE:=aa (show(s.extract at_ k).data.toList=(s.data.toList.drop at_).takeWhile bE by rw[<- mV.ae];exact nr bE s at_);have hx1:0 <(s.extract at_ k).size:=by have h1:=akP.ae;rw[<- HE.ae] at h1;simpa only[ByteArray.size_data,Array.length_toList] using h1
 have hx2:(s.extract at_ k).size<=4294967280:=by rw[ByteArray.size_extract];omega
 have HN:=aa (zn (s.extract at_ k) W (by rw[HE.ae];exact Sd _) hx1 hx2);have Sj:=aa (show(s.data.toList.drop at_).dropWhile bE=s.data.toList.drop k by rw[<- Cc,mV.ae]);clear hx1 hx2;obtain⟨z0,z1,z2,z3,y0,y1,y2,y3⟩:=bR HZ.ae;exact Ka2):p:=h
theorem ZcJ(h:p:=by
 by_cases h0:bQ v v'=0
 ·have t0:(bQ v v' != 0)=false:=by simpa using h0
  have HD':=aa ((HS.ae.trans (if_pos h0)).symm.trans HD.ae);clear h0;go_wp2_with fail;go_roundw;case rel=>exact⟨k+1,hlt,BH,by go_num,HD'.ae,hB⟩
  case measure=>exact Za6
 ·have t0:(bQ v v' != 0)=true:=by simpa using h0
  have HD':=aa ((HS.ae.trans (if_neg h0)).symm.trans HD.ae);clear h0;go_wp2_with fail;go_ret;exact⟨by rw[HD'.ae];rfl,hB⟩):p:=h
theorem ZcK(h:p:=by have NX:=aa (Nz.ae (aP,0) (by unfold iJ;simp only[map_cons,map_nil];rw[tI.ae,hs,if_neg Tac,if_pos (by have:=HGI.ae;simp_all)]));go_wp2_with fail;exact bodyPost_ret (v:=.tuple #[.agg #[ag 0,af 0,.string ByteArray.empty],af 0]) Tae rfl ⟨congrArg (λ r:Val×Int=>Ending.returned (bT r.1 r.2)) NX.ae.symm,((hB.setCell bK _).setCell bK _).setCell bK _⟩):p:=h
theorem ZcL(h:p:=by
 refine hwd.mono ?_;rintro e w6 ⟨rfl,b6⟩;have dd:=(((((HD.ae.trans d1).trans d2).trans d3).trans d4).trans d5).later b6;have Ae:=(d5.blk (d4.blk (d3.blk (d2.blk (d1.blk nx.ae WC) WC) WC) WC) WC).later b6;have hs6:w.heap.size+2<=w6.heap.size:=by have:=d1.size;have:=d2.size;have:=d3.size;have:=d4.size;have:=d5.size;have:=b6.size;omega
 have WS:=aa dd;have PB:=aa Ae;clear dd Ae d1 d2 d3 d4 d5 b6 hwd Kx HD nx xX u0 u1 u2 u3 x1 x2 oC hb3;exact Ka3):p:=h
theorem ZcM(h:p:=by
 refine bC 11 (Gx gp 10 VA s1.aL.length vc ty er Kx) (nE _ _ _ _ _ _ _ _) Vx Vx Vx ?_ ?_
 ·exact ZaZ
 intro W3 hL;simp only[Uab];rintro a0 - a1 - a2 - a3 - a4 - a5 - a6 - a7 - a8 - _ rfl _ rfl;simp only[bF,Act.put,Uac];have SP:=aa (Ee.ae.later hL);have Aq:=aa (J0.ae.later hL);exact Ka4):p:=h
theorem ZcN(h:p:=by
 clear zE tq GU NR Ak Tk;have hk7:k < 1000000:=by have:=HH.ae;have:=B9.ae;omega
 go_wp2_with fail;go_roundw;case rel=>exact⟨k+1,a,u',v',C8,yh++ [Kx],s2,eE++ [t2],hlt,by go_num,by
  have h:=J5.ae
  rw[Vt.ae] at h
  exact h,EO.ae,by have:=AY.ae;have:=U6.ae;have:=DD.ae;omega,by rw[length_append,qM.ae];rfl⟩
 case measure=>exact Za6):p:=h
theorem ZcO(h:p:=by go_wp2_with fail;refine wp_loop_rounds 3 ?_;rw[rounds_succ];go_wp2_with fail;refine(K1.ae _).mono ?_;rintro e w1 ⟨rfl,rfl⟩;go_wp2_with fail;rw[rounds_succ];go_wp2_with fail;exact Ka5):p:=h
theorem ZcP(h:p:=by
 simp only[List.append,Uab];repeat (go_big_quiet_step (fail))
 exact Ka6):p:=h
theorem ZcQ(h:p:=by
 go_wp2_with fail;refine bodyPost_ret (v:=.tuple #[.agg #[ag 3,.string ⟨acc.toArray⟩,af 0,af at_],af ((k:Int)+1),af 0]) Zb0 rfl ?_
 ·rw[rN.ae,HF.ae,cI HB.ae,HQ.ae,LD afX.ae];unfold Ab;simp only;have e:s.size - (s.data.toList.drop (k+1)).length=k+1:=by rw[length_drop,HLEN.ae];omega
  rw[e];exact Zcq):p:=h
theorem ZcR(h:p:=by
 injection hv with e1 e2 e3;injection e1 with e1;injection e1 with e1 _ _;subst e1 e3;have fq:(i+1)*size<=l.length*size:=Nat.mul_le_mul_right _ ui;have hl2:l.length*size<=c*size:=Nat.mul_le_mul_right _ hn;rw[Nat.add_mul,Nat.one_mul] at fq;have pO:i*size+size<=cur.size:=by rw[hs];omega
 have hrun:=wM (P:=P) w q (i*size) e ty cur (f y).toArray hg (by rw[hi];simp[hf]) (by simpa [hf] using pO) h1;exact Ka7):p:=h
theorem ZcS(h:p:=by go_upto_region 1 with fail;generalize World.alloc (World.alloc w _) _=W at*;obtain⟨g3,kB⟩:∃g3,g3=w.heap.size:=⟨_,rfl⟩;obtain⟨g4,hg4⟩:∃g4,g4=w.heap.size+1:=⟨_,rfl⟩;rw[<- hg4] at HZ ⊢;rw[<- kB] at oP ⊢;have mO:=aa (show w.heap.size<=g4 by omega);have Jj:=aa (show w.heap.size<=g3 by omega);have HI:=aa kB;have Kf:=aa hg4;have Gs:=aa oP;have tN:=aa HZ;clear kB hg4 oP HZ;exact Ka8):p:=h
theorem ZcT(h:p:=by
 clear hlen;simp only[map_cons,map_nil,length_cons,length_nil,Nat.zero_add,Nat.reduceAdd] at*;have ua:=HKC.ae;clear HKC;rcases ua with ua |⟨g9,rfl,kI,ua⟩
 ·simp at ua
 exact Ka9):p:=h
theorem zfF.Kbb(h:p:=by exact Kba):p:=h
theorem ZcU(h:p:=by subst R6;open zfF in exact ZcV):p:=h
theorem ZcV(h:p:=by have z0:=k1.cell 0;have z1:=k1.cell 1;have x2:=k1.cell 2;have x3:=k1.cell 3;have x4:=k1.cell 4;have x5:=k1.cell 5;have x6:=k1.cell 6;have x0:=hR.cell 0;have x1:=hR.cell 1;have z2:=hR.cell 2;have z3:=hR.cell 3;have z4:=hR.cell 4;have z5:=hR.cell 5;simp only[Uaa] at z0 z1 x2 x3 x4 x5 x6 x0 x1 z2 z3 z4 z5;have dw:=aJ cL;have gV:=aC.frozen cL;go_wp2_with fail;exact Kbb):p:=h
theorem ZcW(h:p:=by
 rcases h with h |⟨b,off,h1,h2,h3⟩
 ·exact .inl h
 ·exact .inr ⟨b,off,h1,h2,λ i x hx=>(h3 i x hx).keep λ o=>hb.cell (p:=⟨b,o,none⟩) h2⟩):p:=h
theorem ZcX(h:p:=by skip;intro hg;have hg:ρ (.tmp 22)=.bool false:=hg;refine⟨λ _=>?_,λ hn=>absurd hg hn⟩;exact Zaq):p:=h
theorem ZcY(h:p:=by
 have ee:=h.FY;have hb:=ah w qI;have h0:=h.later hb;have HQ:=aa (aC.new w 46 #[ag 0,ag 0,af 0,au,au,af 0,az]);have hsz:(w.alloc qI).heap.size=w.heap.size+1:=by simp
 exact Kbc):p:=h
theorem ZcZ(h:p:=by obtain⟨f,rfl⟩:=kS T hT;have h2:f 2=_:=h2;have h4:f 4=_:=h4;have h5:f 5=_:=h5;have h6:f 6=_:=h6;simp only[bZ,h2,h4,h5,h6];clear h2 h4 h5 h6;clear h2 h4 h5 h6 hT;exact Kbd):p:=h
theorem Zc0(h:p:=by
 have e9:=ow D (kp+1) m WC hk;rw[show kp+1 - 1=kp by omega] at e9;rw[e9] at S3;generalize hW3:World.drew _=W3 at S3 ⊢;clear hW3;go_wp2_with fail;go_roundw;case rel=>exact⟨kp,by omega,by omega,by go_num,S3.ae⟩
 case measure=>first |(simp[intOf];done)|(simp[intOf];omega)):p:=h
theorem Zc1(h:p:=by intro ρ w vs hc hG hr;rw[t3] at hr;have r0:=hr.1;simp only[m3] at r0;refine⟨g3,?_⟩;show vs.length=0->_;intro hl;obtain rfl:=eq_nil_of_length_eq_zero hl;refine bD (cg ρ w hc r0) ((lU w hG).mono ?_);rintro e' w' ⟨y,rfl,hp⟩;exact⟨_,rfl,y,w,w',rfl,hG,hp,ai.refl _⟩):p:=h
theorem Zc2(h:p:=by
 go_wp2_with fail;go_roundw;case rel=>exact⟨i+1,hlt,by go_num,HR.ae,hW⟩
 case measure=>exact Za6):p:=h
theorem Zc3(h:p:=by
 replace HK:=aa (HK.ae.later b3);clear b1 b3;have hst:=λ(u:Addr) (m:Mode) (w:World)=>run_store Tryz.prog w u .nilFunc m rfl
 unfold oX;have x0:=hR.cell 0;have x1:=hR.cell 1;have z2:=hR.cell 2;have z3:=hR.cell 3;have z4:=hR.cell 4;have z5:=hR.cell 5;have z6:=hR.cell 6;simp only[Uaa] at x0 x1 z2 z3 z4 z5 z6;exact Kbe):p:=h
theorem Zc4(h:p:=by
 have HV1:=aa NY;clear NY;go_wp2_with fail;go_roundw;case rel=>exact⟨i+1,hlt,by go_num,HN2.ae HV1.ae,ai.then hb hL⟩
 case measure=>exact Za6):p:=h
theorem Zc5(h:p:=by
 intro x hx;rcases Nat.lt_trichotomy x a with h1 | h1 | h1
 ·have h2:=mF hx hd h1;exact((h x hx h2).congr λ i h3 h4=>hw.ae i (.inl WC)).mono (Nat.le_refl _) WC
 ·subst h1;exact ho.mono (Nat.le_refl _) WC
 ·have h2:=mF hd hx h1;exact .none WC):p:=h
theorem Zc6(h:p:=by simp[results,Tryz.results199,go_sem,r0,r1,r2,r3,r4,r5,r6];rfl):p:=h
theorem Zc7(h:p:=by exact⟨0,Nat.zero_le _,rfl,aI.nil,Below.refl _ _⟩):p:=h
theorem Zc8(h:p:=by
 go_wp2_with fail;refine bodyPost_ret (v:=.tuple #[.agg #[ag 0,au,af 0,af 0],af 0,af 30]) Zb0 rfl ?_
 ·rw[rN.ae,qp.ae];exact Zcq):p:=h
theorem Zc9(h:p:=by
 repeat' split
 all_goals first
  | rfl
  |(exfalso;omega)
  |(subst_vars;rfl)):p:=h
theorem Zda(h:p:=by skip;intro hg;have hg:ρ (.tmp 26)=.bool false:=hg;exact Zas):p:=h
theorem Zdb(h:p:=by
 intro e4 w4 h4;unfold rX at h4;rw[jG.ae] at h4
 cases res with
 | error er=>obtain⟨_,rfl,b4⟩:=h4;exact⟨_,rfl,b4,_,_,rfl,rfl,rfl⟩
 | ok l=>obtain⟨v4,rfl,o4,b4⟩:=h4;refine⟨_,rfl,b4,_,_,rfl,rfl,?_⟩;have o5:=o4.down hL.size;rw[<- BN.ae] at o5;exact o5):p:=h
theorem Zdc(h:p:=by
 have nR:s=i:=by omega
 have nS:s=j:=by omega
 subst nR nS;clear hlt hi hj iM nQ HF;have EJ:decide (s < m)=true:=decide_eq_true k0;exact Kbf):p:=h
theorem Zdd(h:p:=by
 repeat' split
 all_goals first
  | rfl
  |(exfalso;omega)
  |(subst_vars;rfl)
  |(congr 1;omega)):p:=h
theorem Zde(h:p:=by
 funext k;unfold aO;repeat' split
 all_goals first
  | rfl
  |(exfalso;omega)
  |(congr 1;omega)):p:=h
theorem Zdf(h:p:=by exact aq (w':=W4) TaG ⟨ai.refl _,rfl⟩):p:=h
theorem Zdg(h:p:=by
 go_wp2_with fail;clear y0 y1 y2 y3 y4 y5 y6 Gt;generalize uR:World.setCell _ _ _=W9;have hR:aC W9 g4 46 di:=by rw[<- uR];simpa using(((((((PW.ae.aW 0 _).aW 1 _).aW 2 _).aW 3 _).aW 4 _).aW 5 _).aW 6 _)
 exact Kbg):p:=h
theorem Zdh(h:p:=by
 clear hk hb
 rcases hlv with rfl | rfl | rfl | rfl;all_goals
  generalize kM _ t.w=R at*;go_enter Tryz.func200,Tryz.ntmps200;go_wp2_with fail;all_goals
   go_ret;rw[HR.ae];refine⟨?_,ah w _⟩;refine nk ?_;simp[opsL,List.lookup,afK,YH,Pb,sR,xQ,Iz,xR, *]):p:=h
theorem Zdi(h:p:=by
 go_wp2_with fail;go_roundw;case rel=>exact⟨i+1,E,by omega,.inl WC,by go_num,H3.ae,HW.ae,SO.ae⟩
 case measure=>exact Za6):p:=h
theorem Zdj(h:p:=by exact aq (w':=W4) (by simp[go_sem,h0,h1,hs];done) ⟨ai.refl _,rfl⟩):p:=h
theorem Zdk(h:p:=by go_wp2_with fail;have hB:=ai.then (ah w (.cells (ay x) 46)) (ah _ (.cells #[ag 0,af 0,au] 44));have hR:=aC.new (w.alloc (.cells (ay x) 46)) 44 #[ag 0,af 0,au];have hX:=(aC.new w 46 (ay x)).alloc (.cells #[ag 0,af 0,au] 44);rw[World.size_alloc] at hR;generalize vE:(w.alloc (.cells (ay x) 46)).alloc (.cells #[ag 0,af 0,au] 44)=W at*;clear vE;exact Kbh):p:=h
theorem ziv.Kcg(h:p:=by clear jn fL HP;have gD:=Hw.ae;exact Kbi):p:=h
theorem Zdl(h:p:=by
 have fL:i=args.length:=by omega
 have zQ:i < n:=by have:=HN.ae;omega
 obtain⟨b,off,rfl,kE,hex⟩:=(HA.ae.below hb).at_ (show i <(args.map (·.1)++bad::post).length by simp;omega);open ziv in exact Zf1):p:=h
theorem Zdm(h:p:=by go_upto_region 1 with fail;generalize w.alloc _=W1 at*;obtain⟨g,hg⟩:∃g,g=w.heap.size:=⟨_,rfl⟩;rw[<- hg] at HX ⊢;exact Kbj):p:=h
theorem Zdn(h:p:=by
 rcases h1 with h |⟨b,off,e1,e2,e3⟩
 ·exact .inl h
 ·exact .inr ⟨b,off,e1,e2,e3⟩):p:=h
theorem Zdo(h:p:=by have h0:_=_:=hr.1;have jk:=aJ (HG.later hL);exact aq (w':=W4) (by simp[go_sem,h0,jk.1,jk.2.1,jk.2.2];done) ⟨ai.refl _,rfl⟩):p:=h
theorem Zdp(h:p:=by
 rcases h with h |⟨b,off,h1,h2,h3,h4⟩
 ·exact .inl h
 ·refine .inr ⟨b,off,h1,Nat.lt_of_lt_of_le h2 hg.size,λ i x hx=>(h4 i x hx).keep λ o=>?_⟩;have hb:=hg.block b h2 (λ e=>h3 Tbh);unfold World.cell?;simp only[hb]):p:=h
theorem Zdq(h:p:=by intro ρ W4 hc hL hr;have e1:=hc.func 104;refine bD (f:=104) (args:= #[]) (w':=W4) (by simp[go_sem,e1]) ?_;refine(jz W4).mono ?_;rintro e w2 ⟨rfl,rfl⟩;exact⟨_,rfl,(Below.refl _ _).alloc (Nat.le_refl _) _,_,rfl,heap_alloc_new W4 _⟩):p:=h
theorem Zdr(h:p:=by obtain⟨f,rfl⟩:=kS T hT;have h1:f 1=_:=h1;have h2:f 2=_:=h2;have h4:f 4=_:=h4;have h5:f 5=_:=h5;have h6:f 6=_:=h6;simp only[bZ,h1,h2,h4,h5,h6];clear h1 h2 h4 h5 h6;clear h1 h2 h4 h5 h6 hT;exact Kbk):p:=h
theorem Zds(h:p:=by exact⟨rfl,((Below.refl _ _).alloc (Nat.le_refl _) _).trans (hL.mono Tac)⟩):p:=h
theorem Zdt(h:p:=by go_wp2_with fail;go_ret;exact⟨by rw[<- HD.ae,HS.ae];rfl,hB⟩):p:=h
theorem Zdu(h:p:=by have oP:=aC.new w 46 (ay z);have b1:=ah w (.cells (ay z) 46);have HZ:=aC.new (w.alloc (.cells (ay z) 46)) 46 di;have b2:=ah (w.alloc (.cells (ay z) 46)) (.cells di 46);replace oP:=oP.later b2;have bb:=ai.then b1 b2;rw[World.size_alloc] at HZ;have tz:=aa (oF.later bb);have zY:=aa bb;have gX:=tz.ae.blk;unfold PC.cells at gX;exact Kbl):p:=h
theorem Zdv(h:p:=by clear gX;go_wp2_with fail;refine(WN.ae _).mono ?_;rintro e KK ⟨rfl,b2⟩;go_wp2_with fail;exact bodyPost_ret (v:=.tuple #[ag 0,af 40]) Tao rfl ⟨rfl,ai.then (ai.then fH.ae b3) b2⟩):p:=h
theorem Zdw(h:p:=by
 subst heq;have t1:((i:Int) !=(i:Int))=false:=by simp
 have z1:(m:Int) - (i:Int)=((m - i:Nat):Int):=by omega
 go_wp2_with fail;refine(eL w0 g n cap (m - i) m i E wr H2.ae hn WC WC).mono ?_;rintro e_ w1 ⟨rfl,hs⟩;rw[rC E m i WC,HR.ae] at hs;have H3:=aa hs;clear hs H2 HR z1 t1;go_wp2_with fail;exact Kbm):p:=h
theorem Zdx(h:p:=by exact aq (v:=Vy) (w':=W4) Taq ⟨ai.refl _,_,Vz,rfl,cL⟩):p:=h
theorem Zdy(h:p:=by
 rw[ot D a k WK] at S3;generalize hW3:World.drew _=W3 at S3 ⊢;clear hW3;go_wp2_with fail;go_roundw;case rel=>exact⟨k+1,by omega,by omega,by go_num,S3.ae⟩
 case measure=>first |(simp[intOf];done)|(simp[intOf];omega)):p:=h
theorem Zdz(h:p:=by rintro e W4 ⟨rfl,Lw⟩;clear z0 z1 x2 x3 x4 x5 x6 x0 x1 z2 z3 z4 z5 dw gV;replace k1:=k1.later Lw;replace hR:=hR.later Lw;replace cL:=cL.later Lw;replace hB:=ai.then hB Lw;replace Bp:=aa ((Bp.ae.below Lw).more (Lw).size);replace HDB:=aa (ai.then HDB.ae Lw);replace TM:=(Lw.cell (p:=⟨g9,0,none⟩) vK).trans TM;exact Kbn):p:=h
theorem ZdA(h:p:=by go_wp2_with fail;exact ZbN):p:=h
theorem ZdB(h:p:=by
 rcases Nat.lt_or_ge vs.length ch.length with h' | h'
 ·have hi:=getElem?_eq_getElem h';have hb:=of_decide_eq_true (List.all_eq_true.1 Kl _ (getElem_mem h'));have:=(cg _ _ hi).1 (hall _ hb);omega
 ·omega):p:=h
theorem ZdC(h:p:=by
 refine⟨rfl,rfl,rfl,rfl,rfl,[y],?_,Tr.fP ?_⟩
 ·exact((Ee.ae.keep (iL B12.ae)).keep (lJ D12.ae.grown WC)).keep (iX WC)
 ·exact((HK.ae.later B12.ae).grown D12.ae.grown WC).more WC):p:=h
theorem ZdD(h:p:=by
 have Yt:i < listed.size:=by rw[I.len];exact zK
 have Yu:fuel=bA l.length (listed.setIfInBounds i true)+zs.length:=by have:=ll l.length listed i Yt ui Bf;omega
 unfold wpOp;rw[oV];show if Region.wanted oj (yielded (l++zs).toArray a.tmps)=true then _ else _;rw[if_pos (by simp[Region.wanted,hgd])];refine .inl ?_;exact Kbo):p:=h
theorem ZdE(h:p:=by
 have jR:=vo.ae;rw[hr] at hp vt jR;obtain⟨Kx,ty,u',v',rfl,hst⟩:=hp;have her:=vt.ae.err _ rfl;have oO:=aa (show X=.error er by
  rw[uV.ae,jR]
  rfl)
 have nV:=aa her;have t1:(er != 0)=true:=by simp[her]
 have bg:=ah w6 (.cells (ay Kx) 46);have HW:=aa ((uh.ae.err hst).later bg);clear hr her hst jR vt vo uh bg;exact Kbp):p:=h
theorem ZdF(h:p:=by have NR:=aa (show aC (w6.alloc (.cells (ay Kx) 46)) w6.heap.size 46 (bI Kx).toArray from HX);clear HX;generalize w6.alloc (.cells (ay Kx) 46)=WD at*;generalize w6.heap.size=gY at*;exact Kbq):p:=h
theorem ZdG(h:p:=by
 refine bodyPost_ret (v:=.tuple #[.agg #[ag 2,au,af (ly ((s.data.toList.drop at_).takeWhile bE)),af at_],af k,af 0]) Zb0 rfl ?_
 ·rw[HR.ae];unfold Ab;simp only;rw[wC bE s WC,mV.ae];exact Zcq):p:=h
theorem ZdH(h:p:=by skip;intro hg;have hg:ρ (.tmp 22)=.bool false:=hg;refine⟨λ _=>?_,λ hn=>absurd hg hn⟩;have h0:_=_:=hr.1;have e1:=Xf.ae.2 rfl;exact ZhC):p:=h
theorem ZdI(h:p:=by skip;intro hg;have hg:ρ (.tmp 22)=.bool false:=hg;refine⟨λ _=>?_,λ hn=>absurd hg hn⟩;have h0:_=_:=hr.1;have e1:=Xf.ae.1 rfl;exact ZhC):p:=h
theorem ZdJ(h:p:=by
 go_wp2_with fail;go_quiet (fail);go_wp2_with fail;go_roundw
 case rel=>
  refine⟨i+1,n+nq,by omega,by go_num,?_,?_⟩
  ·rw[<- HWN.ae];exact Ce W n nq
  ·rw[qp.ae,S9.ae,kL,HP.ae];rfl
 case measure=>exact Za6):p:=h
theorem ZdK(h:p:=by
 split at h <;> try exact h
 obtain⟨g,h1,h2⟩:=h;refine⟨g,h1,?_⟩;rw[hl.block g ?_]
 ·exact h2
 ·exact Zgw):p:=h
theorem ZdL(h:p:=by
 obtain⟨jp,rfl⟩:∃q,j=q+1:=⟨j - 1,by omega⟩;have t1:decide ((a:Int)<(jp:Int)+1)=true:=decide_eq_true WC;have t1':decide ((a:Int)<((jp+1:Nat):Int))=true:=decide_eq_true WC;go_upto_region 4 with fail;have c1:=λ q:Ext wr.heap.size wr=>(H2.ae.at_.later q.h).cell (jp+1) WC
 exact Kbr):p:=h
theorem ZdM(h:p:=by intro ρ W4 hc hL hr;have h0:_=_:=hr.1;have h1:_=_:=hr.2.1;have h2:_=_:=hr.2.2.1;have hs:=Gn XA xn xc gn gn (Nat.le_refl _) HXC.ae W4;exact aq (w':=W4) (by simp[go_sem,h0,h1,h2,hs];done) ⟨ai.refl _,rfl⟩):p:=h
theorem ZdN(h:p:=by go_wp2_with fail;go_ret;refine⟨?_,hb⟩;rw[oy λ j hj=>HP.ae j (by rw[length_map] at hj;omega)];rfl):p:=h
theorem ZdO(h:p:=by
 have nR:s=i:=by omega
 have nS:s=j:=by omega
 subst nR nS;clear hlt hi hj iM nQ HF;have EJ:decide (s < m)=false:=decide_eq_false k0;have EL:decide (a < s)=true:=decide_eq_true k2;exact Kbs):p:=h
theorem ZdP(h:p:=by rw[Bool.not_eq_true] at hs;obtain⟨nl,c,d0,d1,c0,c1,_,_,s1⟩:=Ia (lo a) 0 l0 l1 WC WC;obtain⟨nh,c2,e0,e1,_,_,_,_,s2⟩:=Ia (hi a) c h0 h1 c0 c1;have NC:=Int.emod_nonneg nh (show n≠0 by omega);have Hy:=Int.emod_lt_of_pos nh hn;obtain⟨q,r,hd⟩:=Hz (nh % n) nl n NC Hy vn d0 d1;exact Kbt):p:=h
theorem ZdQ(h:p:=by intro ρ w vs hc hG hr;rw[t2] at hr;have r0:=hr.1;simp only[m0] at r0;exact⟨g2,Eu ρ w (r0.trans h0)⟩):p:=h
theorem ZdR(h:p:=by intro ρ w vs hc hG hr;rw[t0] at hr;have r0:=hr.1;simp only[s0] at r0;exact⟨g0,T8 ρ w (r0.trans hq)⟩):p:=h
theorem ZdS(h:p:=by intro ρ w vs hc hG hr;rw[t6] at hr;have r0:=hr.1;simp only[s6] at r0;exact⟨g6,Zn ρ w (r0.trans hq)⟩):p:=h
theorem ZdT(h:p:=by exact aq (w':=W4) (by simp[go_sem,h0,y0,y1,y2];done) ⟨ai.refl _,rfl⟩):p:=h
theorem ZdU(h:p:=by unfold PC.cells at kQ;have c10:=kQ.cell 10;simp only[Uaa] at c10;exact aq (w':=W4) (by simp[go_sem,h0,c10];done) ⟨AR.refl _,rfl⟩):p:=h
theorem ZdV(h:p:=by
 induction h with
 | refl=>exact λ k h1 h2=>⟨k,h1,h2,rfl⟩
 | step _ k1 k2 k3 k4 ih=>
   intro k h1 h2;unfold swp;split
   ·exact ih _ k1 k2
   ·split
    ·exact ih _ k3 k4
    ·exact ih k h1 h2):p:=h
theorem ZdW(h:p:=by
 intro i w w' v h hl
 match i with
 | 0 | 1 | 2 | 3 | 4 | 5 | 6 | 7 | 8 | 9 | 10=>exact h
 | n+11=>exact h):p:=h
theorem ZdX(h:p:=by
 obtain⟨b,off,rfl,kE,hex,hz⟩:=(HA.ae.below hb).at_ (show i <(args.map (·.1)).length by simpa using hlt);have jn:(args.map (·.1))[i]' Tan=args[i].1:=by simp
 rw[jn] at hex hz;clear jn;have gD:=HE.ae args[i] (getElem_mem hlt);have hS:=BM hlt;generalize args[i]=yb at*;exact Kbu):p:=h
theorem ZdY(h:p:=by skip;have h0:_=_:=hr.1;have e1:=hc.func 44;refine bD (f:=44) (args:= #[.agg (aH v)]) (w':=W4) TaA ?_;have hgo:=vD v W4;rw[<- NQ.ae] at hgo;refine hgo.mono ?_;exact Zbs):p:=h
theorem ZdZ(h:p:=by
 subst hrel;obtain⟨tk,pl,bd,hpl,hlt,ald,uH,ck,hg,JZ,vn,hp⟩:=HA.ae.did.at_.wG;obtain⟨r',ny⟩:=hg _ rfl;injection ny with hu hr2;subst hu;have Et:bd < 0:=by simpa [cq.gT] using ck
 have HP:=aa hp;have c2:=hp.c2;have arU:=HA.ae.blk.lt;have R9:=Cl 3 3 rfl Tac tk;rw[agl.ae] at R9;exact Kbv):p:=h
theorem Zd0(h:p:=by intro ρ' w' h' hc';simp[go_sem,h',hc']):p:=h
theorem Zd1(h:p:=by simp only[Uaa] at y0 y1 y2 y3 y4 y5 y6;exact aq (w':=W4) (by simp[go_sem,h0,y0,y1,y2,y3,y4,y5,y6];done) ⟨ai.refl _,rfl⟩):p:=h
theorem Zd2(h:p:=by go_wp2_with fail;refine(ik w0 g n cap a n E _ HF.ae hn WC WC).mono ?_;rintro e_ w1 ⟨rfl,F,hF,ih,ho⟩;have H2:=aa hF;have HW:=aa (IH.ae.trans (ih.mono WC WC));have EN:=aa (iF Q1.ae Q3.ae I7 WC ih ho);clear hF ih ho Q3 Q1 IH HF;go_wp2_with fail;exact Kbw):p:=h
theorem Zd3(h:p:=by go_wp2_with fail;refine(nc _ _).mono ?_;rintro e w1 ⟨rfl,b1⟩;have hR:=(aC.new w 44 #[ag 0,af 0,.string { data:= #[] }]).later b1;have dw:=aJ hR;have cL:=aC.frozen hR;have hB:aj w w1:=((Below.refl _ _).alloc (Nat.le_refl _) _).trans (b1.mono Tac);clear b1 hR;go_wp2_with fail;exact Kbx):p:=h
theorem Zd4(h:p:=by
 obtain rfl:i=8:=by omega
 have hno:mj n=none:=by rw[Ec.ae];rfl
 clear Ec;rw[HFO.ae] at hno;cases hno):p:=h
theorem Zd5(h:p:=by rw[rounds_succ];go_wp2_with fail;have gN:=aC.new W 5 #[ag k,ag wa];have bN:=ah W (.cells #[ag k,ag wa] 5);refine(qY W.heap.size 0 2 k wa _ Tac (gN.cell 0) (gN.cell 1)).mono ?_;rintro e W2 ⟨rfl,b2⟩;have hW2:=ai.then bN b2;replace hB:=ai.then hB hW2;replace hO:=hO.later hW2;exact Kby):p:=h
theorem Zd6(h:p:=by go_wp2_with fail;exact bodyPost_ret (v:=.tuple #[.agg (aH r),af 0]) (by simp[results,Tryz.results170,go_sem,dw]) rfl ⟨by rw[HL.ae];rfl,((hB.setCell bK _).setCell bK _).setCell bK _⟩):p:=h
theorem Zd7(h:p:=by
 obtain⟨a,wa,gi,al,nu,d,rfl,_,hd⟩:=TK.shape;have jR:d.oneCell'=true:=by rcases hd with rfl |⟨F,C,rfl⟩<;> rfl
 have hst:=λ(u:Addr) (m:Mode) (w:World)=>run_store Tryz.prog w u d m jR
 unfold cJ;have b2:=ai.then Kx (ah W3 (.cells #[af a,ag wa,ag gi,.bool al,.bool nu,d] 100));exact Kbz):p:=h
theorem Zd8(h:p:=by obtain⟨u,rfl⟩:=h1;obtain⟨v,rfl⟩:=h2;have:u < v:=Nat.lt_of_mul_lt_mul_left h;have h3:=Nat.mul_le_mul_left d (show u+1<=v by omega);rw[Nat.mul_add,Nat.mul_one] at h3;exact h3):p:=h
theorem Zd9(h:p:=by subst hr2;have HG:=aa hg;clear hg hv hr;go_enter Tryz.func58,Tryz.ntmps58;go_wp2_with fail;refine(HG.ae _).mono ?_;exact ZfQ):p:=h
theorem Zea(h:p:=by exact aq (w':=W4) (by simp[go_sem,h0,jk];done) ⟨ai.refl _,rfl⟩):p:=h
theorem Zeb(h:p:=by exact aq (w':=W4) (by simp[go_sem,h0,c0];done) ⟨ai.refl _,rfl⟩):p:=h
theorem Zec(h:p:=by intro ρ W4 hc hL hr;intro hg;have hg:ρ (.tmp 66)=.bool true:=hg;refine⟨λ _=>?_,λ hn=>absurd hg hn⟩;exact KbA):p:=h
theorem Zed(h:p:=by intro ρ W4 hc hL hr;intro hg;have hg:ρ (.tmp 82)=.bool true:=hg;refine⟨λ _=>?_,λ hn=>absurd hg hn⟩;exact KbB):p:=h
theorem Zee(h:p:=by have z1:=k1.cell 1;have x2:=k1.cell 2;have x3:=k1.cell 3;have x5:=k1.cell 5;have x7:=k1.cell 7;have x8:=k1.cell 8;have x9:=k1.cell 9;have Xn:=k1.cell 13;have x14:=k1.cell 14;have x16:=k1.cell 16;have Rm:=k1.cell 19;have Rn:=k1.cell 20;have x24:=k1.cell 24;have x27:=k1.cell 27;exact KbC):p:=h
theorem Zef(h:p:=by simp only[setIfInBounds_toArray,set_cons_zero,set_cons_succ] at this;exact this):p:=h
theorem Zeg(h:p:=by exact bodyPost_ret (v:=.tuple #[ag 0,af 40]) Tap rfl ⟨congrArg (λ r:Int×Int=>Ending.returned (.tuple #[ag r.1,af r.2])) HQ.ae.symm,hB⟩):p:=h
theorem Zeh(h:p:=by exact bodyPost_ret (v:=.tuple #[ag gi,af 0]) Tap rfl ⟨congrArg (λ r:Int×Int=>Ending.returned (.tuple #[ag r.1,af r.2])) HQ.ae.symm,hB⟩):p:=h
theorem Zei(h:p:=by
 rw[mb D a b i WC] at S3;generalize hW3:World.drew _=W3 at S3 ⊢;clear hW3;go_wp2_with fail;go_roundw;case rel=>exact⟨i+1,hlt,by go_num,S3.ae⟩
 case measure=>exact Za6):p:=h
theorem Zej(h:p:=by
 gi_wp2;go_roundw;case rel=>exact⟨k+1,hlt,by go_num,HJ3.ae,HF3.ae⟩
 case measure=>exact Za6):p:=h
theorem Zek(h:p:=by
 have hK:=xx (V:=V) (λ d=>a.eval (.tmp d)) l 0 a0 (λ i o d hi hd=>by
  rw[Nat.zero_add]
  have ui:i < l.length:=by
   rcases Nat.lt_or_ge i l.length with h' | h'
   ·exact h'
   ·rw[getElem?_eq_none h'] at hi;cases hi
  exact I.new i o d hi (hall i ui) hd) (hf w I.r)
 exact KbD):p:=h
theorem Zel(h:p:=by
 rcases h with h |⟨b,off,h1,h2,h3⟩
 ·exact .inl h
 ·exact .inr ⟨b,off,h1,by omega,h3⟩):p:=h
theorem Zem(h:p:=by have xu:=aa (show∀h,a<=h->h < jp+1->¬lt (D m) (D h)from λ h h1 h2=>not_lt.2 (le_trans (Q5.ae.le h1 (show h<=jp by omega) WC) (not_lt.1 HX.ae)));exact Zb6):p:=h
theorem Zen(h:p:=by
 intro x hx hle;rcases Nat.lt_or_ge x a with h1 | h1
 ·have:=mF hx hd h1;exact(h x hx this).congr λ i h2 h3=>hw.ae i (.inl WC)
 ·rw[show x=a by omega];exact ho):p:=h
theorem Zeo(h:p:=by refine⟨i+1,hlt,by go_num,?_,hb.trans b4⟩;rw[HT.ae,map_append,Oj.ae];exact O4.ae):p:=h
theorem Zep(h:p:=by exact aq (w':=W4) Tbe ⟨ai.refl _,rfl⟩):p:=h
theorem Zeq(h:p:=by intro i hi hT q hq;subst hT;have hq:a.ownBlock=some q:=hq;refine⟨(ho.lt hq).2.1,(ho.lt hq).1,λ e=>?_⟩;rw[e0] at hq;injection hq with hq;exact hq0 (hq.trans e)):p:=h
theorem Zer(h:p:=by
 obtain⟨l,rfl⟩:∃l,σ=.good l:=by
  match σ,LP.ae with
  | .good l,_=>exact⟨l,rfl⟩
  | .bad m,ck=>simp[cq.gT] at ck;omega
 obtain⟨r,rfl⟩:=HG.ae l rfl;have e1:(pl:Int)+1=(ρ.n:Int) - r.length:=by rw[Pu.ae];simp only[cq.left,length_cons] at*;omega
 exact KbE):p:=h
theorem Zes(h:p:=by rintro e4 w4 ⟨v4,rfl,ho4,b4⟩;refine⟨_,rfl,b4,_,rfl,?_⟩;have ho5:=ho4.down hL.size;rw[<- BN.ae] at ho5;show aI bI _ 7 w4 B0 v4 E;rw[qz.ae];simpa using ho5):p:=h
theorem Zet(h:p:=by have:=OI D m (m - s+(e - m)) (m - s) (e - m) (Nat.le_refl _) WC WC WC;rwa [show m - (m - s)=s by omega,show m+(e - m)=e by omega] at this):p:=h
theorem Zeu(h:p:=by
 go_round;case rel=>exact⟨k+1,by omega,Ax,by go_num,mV.ae⟩
 case measure=>exact Za6):p:=h
theorem Zev(h:p:=by obtain⟨b,off,rfl,hb,hcell,tO⟩:=(HR.ae.below hB).at_ hlt;have HT:=aa (show(aL.take (i+1)).map (·.l)=(aL.take i).map (·.l)++ [aL[i].l] by rw[take_add_one,getElem?_eq_getElem hlt,map_append];rfl);have lX:=Aa.ae aL[i] (getElem_mem hlt);exact KbF):p:=h
theorem Zew(h:p:=by have eN:=aa hb1;have CV:=aa (tz.ae.later hb1);have kF:=Gs.ae.later hb1;have Lw:=tN.ae.later hb1;have hxo:=kF.cell 0;simp only[Uaa] at hxo;have CW:z.op=t.op:=(at_root CU.ae).1;have iM:=xI z.op;exact KbG):p:=h
theorem Zex(h:p:=by intro ρ W4 hc hL hr;exact Zaq):p:=h
theorem Zey(h:p:=by rintro e w1 ⟨rfl,b9⟩;go_wp2_with fail;go_ret;exact⟨rfl,ai.then HB.ae b9⟩):p:=h
theorem Zez(h:p:=by clear hWX;have x0:=hR.cell 0;have x1:=hR.cell 1;have z2:=hR.cell 2;have z3:=hR.cell 3;have z4:=hR.cell 4;have z5:=hR.cell 5;have z6:=hR.cell 6;simp only[Uaa] at x0 x1 z2 z3 z4 z5 z6;exact KbH):p:=h
theorem ZeA(h:p:=by
 unfold ew at h;split at h
 ·cases h
 split at h
 ·cases h
 split at h
 ·cases h
 split at h
 ·cases h
 split at h
 ·cases h
 split at h
 ·cases h
 rename_i h1;split at h
 ·cases h
 rename_i h2;split at h
 ·cases h
 rename_i h3;injection h with h;rw[<- h];exact KbI):p:=h
theorem ZeB(h:p:=by have HH2:=aa (show∀h,jp<=h->h < b->¬lt (D h) (D a)from λ h h1 h2=>not_lt.2 (le_trans (not_lt.1 HX.ae) (Q5.ae.le WC h1 h2)));exact Zcg):p:=h
theorem ZeC(h:p:=by intro ρ W4 hc hL hr;have h0:_=_:=hr.1;exact aq (v:=.pointer (some ⟨gp,10,none⟩)) (w':=W4) Tai ⟨AR.refl _,rfl⟩):p:=h
theorem ZeD(h:p:=by intro ρ W4 hc hL hr;have h0:_=_:=hr.1;have c0:=(HEW.ae.later hL).c13;exact Zce):p:=h
theorem ZeE(h:p:=by refine⟨m - a,b - m,D,by omega,by omega,by omega,by omega,by go_num,by go_num,HS.ae,?_⟩;rw[show m - (m - a)=a by omega,show m+(b - m)=b by omega]):p:=h
theorem ZeF(h:p:=by intro ρ W4 hc hL hr;have h0:_=_:=hr.1;exact aq (v:=.pointer (some ⟨gp,9,none⟩)) (w':=W4) Tai ⟨AR.refl _,rfl⟩):p:=h
theorem ZeG(h:p:=by
 go_wp2
 all_goals
  go_ret;refine⟨?_,rfl⟩;first | rfl |(refine ml ?_;rw[Bool.eq_iff_iff];simp;omega)|(refine ml ?_;rw[Bool.eq_iff_iff];simp;done)):p:=h
theorem ZeH(h:p:=by go_upto_region 5 with fail;have k1:=aC.new wr 46 (ay y);have MI:=ah wr (.cells (ay y) 46);have Jm:=aa ((MI.cell (p:=⟨gp,8,none⟩) (Nat.lt_of_lt_of_le BR.ae hb.size)).trans ((hb.cell (p:=⟨gp,8,none⟩) BR.ae).trans Yz.ae));have Qq:=aa (Nat.lt_of_lt_of_le (Nat.lt_of_lt_of_le BR.ae hb.size) MI.size);have xo:=aa (λ W2 (h:ai (wr.alloc (.cells (ay y) 46)) W2)=>gD W2 (ai.then hB (ai.then hb (ai.then MI h))));obtain⟨gy,YA⟩:∃gy,gy=wr.heap.size:=⟨_,rfl⟩;rw[<- YA] at k1 ⊢;clear gD hex YA;exact KbJ):p:=h
theorem ZeI(h:p:=by have dw:=aJ cL;have gV:=aC.frozen cL;go_wp2_with fail;exact bodyPost_ret (v:=.tuple #[.agg #[ag 0,af 0,.string ByteArray.empty],af 41]) Tae rfl ⟨by rw[HQ.ae];rfl,((hB.setCell bK _).setCell bK _).setCell bK _⟩):p:=h
theorem ZeJ(h:p:=by
 have rN:=aa mL;have HL0:=aa hc;have R7:=aa hdg;have HLEN:=aa (show s.data.toList.length=s.size by simp);clear mL hd hc hdg hq;go_enter Tryz.func132,Tryz.ntmps132;go_wp2_with (first
  |(go_at_call 174;refine(ei s[at_] _).mono ?_;rintro e w' ⟨rfl,rfl⟩;rw[HL0.ae])
  |(go_at_call 175;refine(eM s[at_] _).mono ?_;rintro e w' ⟨rfl,rfl⟩;rw[R7.ae]))
 exact KbK):p:=h
theorem ZeK(h:p:=by have x6:=HX.cell 6;simp only[Uaa] at x6;go_wp2_with fail;exact KbL):p:=h
theorem ZeL(h:p:=by simp[results,Tryz.results184,go_sem,r0,r1,r2,r3,r4,r5,r6];rfl):p:=h
theorem ZeM(h:p:=by exact⟨b,off,h1,h2,h3 k _ (getElem?_eq_getElem hlt)⟩):p:=h
theorem ZeN(h:p:=by intro ρ w h;simp[go_sem,h]):p:=h
theorem ZeO(h:p:=by have EM:decide (s < mid)=true:=decide_eq_true k3;have Nd:decide (mid < f)=true:=decide_eq_true k4;have Nf:decide (f < b)=true:=decide_eq_true k5;go_wp2_with fail;refine(cC w0 g n cap s m f D _ H2.ae hn WC WC WC).mono ?_;rintro e_ w5 ⟨rfl,h5⟩;have H3:=aa h5;clear h5 H2;exact KbM):p:=h
theorem ZeP(h:p:=by
 have Jc:j=i:=by omega
 subst Jc;have HF:=aa (BK Q5.ae hi hj HL.ae HH.ae);have HW:=aa ((vR D a (j - 1 - a)).mono (Nat.le_refl _) (show a+(j - 1 - a)+1<=b by omega));rw[show a+(j - 1 - a)=j - 1 by omega] at HW;clear HL HH Q5 hlt kY;have zj:(j:Int) - 1=((j - 1:Nat):Int):=by omega
 go_wp2_with fail;exact KbN):p:=h
theorem ZeQ(h:p:=by go_wp2_with fail;exact bodyPost_ret (v:=.tuple #[.agg (aH xv),af 0]) Tae rfl ⟨by rw[HQ.ae];rfl,((hB.setCell bK _).setCell bK _).setCell bK _⟩):p:=h
theorem ZeR(h:p:=by
 clear Hs;refine wp_seq_k λ K1 hK1=>?_
 have nM:=aa hK1;clear hK1;go_wp2_with fail;refine nM.ae _ _ ?_;clear nM;refine wp_seq_k λ K2 hK2=>?_
 have IM:=aa hK2;clear hK2;exact KbO):p:=h
theorem ZeS(h:p:=by
 go_wp2_with fail;refine(vJ ⟨2,Kx,name,width,A,0,c⟩ _).mono ?_;rintro e w1 ⟨oo,rfl,TK,b1⟩
 obtain rfl:oo=oX:=by
  rcases TK with ⟨h,_⟩|⟨_,h⟩
  ·exact absurd h (by simp[kH])
  ·exact h
 have Ht:bS ⟨2,Kx,name,width,A,0,c⟩=0:=by unfold bS;rw[if_pos Tac]
 rw[Ht];exact KbP):p:=h
theorem ZeT(h:p:=by go_wp2_with (go_at_call 175;refine(eM s[k] _).mono ?_;rintro e w' ⟨rfl,rfl⟩;rw[HD.ae]);refine HN.ae.mono ?_;unfold jN;rw[HE.ae,qp.ae];rintro e w1 ⟨he,rfl⟩;exact KbQ):p:=h
theorem ZeU(h:p:=by exact aq (v:=aF W4.heap.size 1 1) (w':=W4.alloc (.cells #[aF g0 1 1] 38)) Taq ⟨ah W4 _,⟨W4.heap.size,g0,rfl,aC.new W4 _ _,fQ.later (ah _ _)⟩⟩):p:=h
theorem ZeV(h:p:=by intro ρ w y v' w' h1 h2 hr;simp only[execOp,resolve,invoke,builtin,Sem.run_bind,Sem.run_pure,Result.andThen_ok,map_toArray,map_cons,map_nil,h1,h2,hr]):p:=h
theorem zjF.KcL(h:p:=by have y6:=cL.cell 6;have c7:=cL.cell 7;simp only[Uaa] at y0 y1 y2 y3 y4 y5 y6 c7;exact KbR):p:=h
theorem ZeW(h:p:=by open zjF in exact Ziy):p:=h
theorem ZeX(h:p:=by go_wp2_with fail;go_region;clear c0 c1 c2 d0 d1 d2 d3 y0 y1 x9 z0 z1 z2 z3 x0 v0 v1 v2 v3;obtain⟨u0,u1,u2,u3,_⟩:=bR HT;clear HT;unfold dF at u0 u1 u2 u3 hb x1 x2 oC HF HWR HB HD;generalize (w.alloc _).drew=W at*;have hwr:=HWR.ae;clear HWR;rw[Pt] at hwr;exact KbS):p:=h
theorem ZeY(h:p:=by go_wp2_with fail;have hS:=aC.alloc h (.cells #[ag 0,af 0,.string { data:= #[] }] 44);have Kx:=aC.new w 44 #[ag 0,af 0,.string { data:= #[] }];have hB:aj w (w.alloc (.cells #[ag 0,af 0,.string { data:= #[] }] 44)):=(Below.refl _ _).alloc (Nat.le_refl _) _;exact KbT):p:=h
theorem ZeZ(h:p:=by
 cases hg1:cj k wa
 ·go_wp2_with fail;go_ret;exact⟨by rw[hg1];rfl,hB⟩
 have x1:=hO.cell 1;have x3:=hO.cell 3;simp only[Uaa] at x1 x3;have c0:=(hB.cell (p:=⟨p,off,none⟩) hp).trans h0;exact KbU):p:=h
theorem Ze0(h:p:=by have Jn:=SP.ae;have z0:=Jn.cell 0;have z1:=Jn.cell 1;have x2:=Jn.cell 2;have x3:=Jn.cell 3;have x4:=Jn.cell 4;have x5:=Jn.cell 5;have x6:=Jn.cell 6;simp only[Uaa] at z0 z1 x2 x3 x4 x5 x6;exact KbV):p:=h
theorem Ze1(h:p:=by have e1:=hc.func 27;have e2:=hc.const (af 0);refine bD (f:=27) (args:= #[af 0]) (w':=W4) TaB ?_;refine(fD 0 W4).mono ?_;exact Zbs):p:=h
theorem Ze2(h:p:=by have v0:=HV.cell 0;have v1:=HV.cell 1;have v2:=HV.cell 2;simp only[Uaa] at v0 v1 v2;exact KbW):p:=h
theorem Ze3(h:p:=by
 have Jc:j=i:=by omega
 subst Jc;have HF:=aa (BL Q5.ae hi hj HL.ae HH.ae);have HW:=aa ((vS D m (m - j) WC).mono (show a<=m - (m - j) by omega) (Nat.le_refl _));rw[show m - (m - j)=j by omega] at HW;clear HL HH Q5 hlt kY;go_wp2_with fail;exact KbX):p:=h
theorem Ze4(h:p:=by clear iC;have k1:=aC.new wr 46 (ay y);have MI:=ah wr (.cells (ay y) 46);generalize wr.alloc (.cells (ay y) 46)=W2 at*;have uh:=aa (HP.ae.later MI);generalize wr.heap.size=g12 at*;exact KbY):p:=h
theorem Ze5(h:p:=by
 have hb2:=ai.then hb1 bN;replace HP:=aa (HP.ae.later hb2);replace hb:=ai.then hb hb2;have Bn:((args.take i).map (·.2)).length<=1599289640356:=by simp;omega
 exact KbZ):p:=h
theorem Ze6(h:p:=by clear HS;obtain⟨i,j,hi,kY,hj,rfl,rfl,hs,hl,hh⟩:=hrel;have H2:=aa hs;have HL:=aa hl;have HH:=aa hh;clear hs hl hh;exact Kb0):p:=h
theorem Ze7(h:p:=by have HF:=aa hF;have IH:=aa ih;have Q1:=aa q1;have HH:=aa q2;have Q3:=aa q3;have Q4:=aa q4;have Q5:=aa q5;exact Kb1):p:=h
theorem Ze8(h:p:=by
 induction h with
 | refl=>exact λ _ _=>rfl
 | step _ k1 k2 k3 k4 ih=>intro k hk;unfold swp;rw[if_neg WC,if_neg WC];exact ih k hk):p:=h
theorem Ze9(h:p:=by intro ρ' w' hc' h';simp[go_sem,h',hc'.const,hc'.func]):p:=h
theorem Zfa(h:p:=by simpa using this):p:=h
theorem Zfb(h:p:=by have t1:decide ((200:Int)<(L.i.n:Int))=false:=decide_eq_false WC;have t2:decide ((200:Int)<(L.o.n:Int))=false:=decide_eq_false WC;exact Kb2):p:=h
theorem Zfc(h:p:=by obtain⟨u,v,rfl⟩:=two WC;exact⟨_,#[_],rfl,.inr ⟨_,rfl⟩,KJ,λ W A c hb hr=>Ku x A c q _ [u,v] W hr Tac (hq.later hb)⟩):p:=h
theorem Zfd(h:p:=by have xu:=aa (show∀h,a+1<=h->h < jp+1->lt (D h) (D a)from λ h h1 h2=>jU (Q5.ae.le h1 (show h<=jp by omega) WC) HX.ae);exact Zb6):p:=h
theorem Zfe(h:p:=by
 have hb2:b < W.heap.size:=Nat.lt_of_lt_of_le hb hB.size;have c1:=λ y:Ext W.heap.size W=>hv.keep (w':=y.w) λ o=>y.cell (p:=⟨b,o,none⟩) hb2
 exact Kb3):p:=h
theorem Zff(h:p:=by obtain⟨q,h1,f0,f1⟩:=h;exact⟨q,h1,f0.grown hl.grown (Ne.symm f1),f1⟩):p:=h
theorem Zfg(h:p:=by have y0:=MB.cell 0;have y1:=MB.cell 1;have y2:=MB.cell 2;have y3:=MB.cell 3;have y4:=MB.cell 4;have y5:=MB.cell 5;have y6:=MB.cell 6;simp only[Uaa] at y0 y1 y2 y3 y4 y5 y6;exact Kb4):p:=h
theorem Zfh(h:p:=by obtain⟨c0,c1,c2,d0,d1,d2,d3⟩:=hp;obtain⟨y0,y1,x9,z0,z1,z2,z3⟩:=Ea;obtain⟨x0,x1,x2,v0,v1,v2,v3⟩:=LO;unfold qC at y0 y1 x9 z0 z1 z2 z3;exact Kb5):p:=h
theorem Zfi(h:p:=by obtain⟨kp,rfl⟩:∃q,k=q+1:=⟨k - 1,by omega⟩;have t2:decide ((j:Int)<(kp:Int)+1)=true:=decide_eq_true WC;have t2':decide ((j:Int)<((kp+1:Nat):Int))=true:=decide_eq_true WC;have c1:=H2.ae.at_.cell (kp+1) WC;exact Kb6):p:=h
theorem Zfj(h:p:=by
 simp only[take_succ_cons,take_zero];refine⟨Zab,Zab,ZbA,Zab,?_,trivial⟩
 ·exact Zab):p:=h
theorem Zfk(h:p:=by have z0:=K62.ae.cell 0;have z1:=K62.ae.cell 1;have x2:=K62.ae.cell 2;have f0:=K62.ae.frozen 0;have f1:=K62.ae.frozen 1;have f2:=K62.ae.frozen 2;simp only[Uaa] at z0 z1 x2;exact Kb7):p:=h
theorem Zfl(h:p:=by exact⟨r1,r2.trans hall,by rw[r3,hc];simp[cnt,one,o],by rw[r4,hs];simp[BG,ND,o],sN (s:= { s with all:=s.all+1 }) hb (by simp[key,o,hk])⟩):p:=h
theorem Zfm(h:p:=by exact⟨λ e h=>by injection h with h;rw[<- h];exact h2,λ _ _ _ h=> Tah,λ _ _ _ h=> Tah,λ _ _ _ h=> Tah⟩):p:=h
theorem Zfn(h:p:=by go_wp2_with fail;go_ret;exact⟨rfl,hb⟩):p:=h
theorem Zfo(h:p:=by subst xm;go_wp2_with fail;exact bodyPost_ret (v:=.tuple #[]) TaJ rfl ⟨rfl,_,H2.ae,HW.ae,HF.ae⟩):p:=h
theorem Zfp(h:p:=by subst xm;go_wp2_with fail;exact bodyPost_ret (v:=.tuple #[]) TaI rfl ⟨rfl,_,H2.ae,HW.ae,HF.ae⟩):p:=h
theorem Zfq(h:p:=by have HF:=dn ⟨by omega,by omega⟩ Q5.ae HW.ae .refl HO.ae H6.ae;have lg:=aa HF.1;have jg:=aa ((jI.ae.mono WC WC).trans HF.2);exact Kb8):p:=h
theorem Zfr(h:p:=by intro ρ W4 hc hL hr;have h1:_=_:=hr.1;have c0:=aJ (HV.grown hL.grown Oh);exact aq (w':=W4) Tbe ⟨AR.refl _,rfl⟩):p:=h
theorem Zfs(h:p:=by
 go_wp2_with fail;go_roundw;case rel=>exact⟨jp+1,j,by omega,by omega,by omega,by omega,by go_num,rfl,H3.ae⟩
 case measure=>exact Za6):p:=h
theorem Zft(h:p:=by obtain⟨y,o,hy,Bh,hstep⟩:=Cq (x:=n.data.toList) hlt;have HST:=aa hstep;have LV:=aa Bh;have c2:=sW (qp.ae.later jH.ae) hy;clear hy hstep Bh;exact Kb9):p:=h
theorem Zfu(h:p:=by clear Og;go_enter Tryz.func74,Tryz.ntmps74;go_wp2_with fail;refine wp_loop_rounds 3 ?_;rw[rounds_succ];go_wp2_with fail;refine aD 10 w.heap.size w (Below.refl _ _) Vx Vx Vx Vx ?_;exact Kca):p:=h
theorem Zfv(h:p:=by go_wp2_with fail;exact bodyPost_ret (v:=.tuple #[ag 2,af 0]) Tao rfl ⟨rfl,ai.then fH.ae b3⟩):p:=h
theorem Zfw(h:p:=by refine⟨rfl,?_⟩;unfold qN at hG;rw[if_neg Taa];show(execOp ρ _).run Tryz.prog w=.ok (.value (bj gp 13)) w;simp[go_sem,r0]):p:=h
theorem Zfx(h:p:=by obtain⟨f,rfl⟩:=yN T hT;have h3:f 3=_:=h3;have h6:f 6=_:=h6;have h8:f 8=_:=h8;have h9:f 9=_:=h9;have h10:f 10=_:=h10;have h11:f 11=_:=h11;simp only[Xk,h3,h6,h8,h9,h10,h11];clear h3 h6 h8 h9 h10 h11;clear h3 h6 h8 h9 h10 h11 hT;exact Kcb):p:=h
theorem Zfy(h:p:=by obtain⟨g,h1,f0⟩:=h;exact⟨g,h1,f0.later hl⟩):p:=h
theorem Zfz(h:p:=by intro W3 hL;simp only[Uab];rintro a0 - a1 - a2 - a3 - _ rfl a5 - a6 - _ rfl;simp only[bF,Act.put,Uac];exact Kcc):p:=h
theorem ZfA(h:p:=by
 intro r hr;rcases List.mem_append.1 hr with hr | hr
 ·exact M4.ae r hr
 ·rw[mem_singleton] at hr;rw[hr];exact V4.ae.down HWO.ae):p:=h
theorem ZfB(h:p:=by
 refine bodyPost_ret (v:=.tuple #[.agg #[ag 0,au,af 0,af 0],af 0,af 2]) Zb0 rfl ?_
 ·rw[R7.ae,mV.ae,if_neg h32];exact Zcq):p:=h
theorem ZfC(h:p:=by
 intro j u hu;have:(Addr.add ⟨g,0,none⟩ j)=⟨g,j,none⟩:=by unfold Addr.add;split <;> simp_all
 rw[this,hg.cell];simpa using hu):p:=h
theorem ZfD(h:p:=by go_enter Tryz.func193,Tryz.ntmps193;go_wp2_with (go_at_call 206;refine(HD.ae _).mono ?_;rintro e w1 ⟨rfl,hL⟩);go_ret;exact Zds):p:=h
theorem ZfE(h:p:=by skip;intro hg;have hg:ρ (.tmp 26)=.bool true:=hg;refine⟨λ _=>?_,λ hn=>absurd hg hn⟩;have h0:_=_:=hr.1;exact Kcd):p:=h
theorem ZfF(h:p:=by rw[h] at hlt;exact absurd hlt Tac):p:=h
theorem ZfG(h:p:=by simp[Array.getD_eq_getD_getElem?,Array.getElem?_setIfInBounds,hT,e2]):p:=h
theorem ZfH(h:p:=by clear DZ;go_wp2_with fail;refine Az.ae.mono ?_;rintro e w5 ⟨rfl,b5⟩;generalize hr:Hp op.toNat width [v1,v2]=r at*;exact Zam):p:=h
theorem ZfI(h:p:=by exact⟨rfl,rfl⟩):p:=h
theorem ZfJ(h:p:=by obtain⟨u,rfl⟩:=one WC;exact⟨_,#[_],rfl,.inr ⟨_,rfl⟩,KL,λ W A c hb hr=>Ks x A c q _ u W hr (hq.later hb)⟩):p:=h
theorem ZfK(h:p:=by
 split at h
 ·injection h with h;injection h with h1 h2;subst h1;exact⟨⟨by simp,by simp⟩,λ e=>by simp at e⟩
 ·cases h):p:=h
theorem ZfL(h:p:=by
 go_wp2_with fail;go_roundw;case rel=>exact⟨i,jp,by omega,by omega,by omega,by omega,rfl,rfl,H3.ae⟩
 case measure=>exact Za6):p:=h
theorem ZfM(h:p:=by go_enter Tryz.func36,Tryz.ntmps36;go_wp2_with fail;go_ret;exact⟨by rw[T1.ae];rfl,by rw[HP.ae];exact H.ae.aW 0 _,aG hg 0 _⟩):p:=h
theorem ZfN(h:p:=by
 have hK:(jr W g4 g5 gp).heap[D]?=some (.deferred (some [])):=by unfold jr;rw[Below.heap_setCell _ ⟨g5,0,none⟩ _ D (Ne.symm hf.new.2.2.2.2),Below.heap_setCell _ ⟨g4,0,none⟩ _ D (Ne.symm hf.new.2.2.2.1)];exact hf.dd
 exact Kce):p:=h
theorem ZfO(h:p:=by intro ρ W4 hc hL hr;have h0:_=_:=hr.1;exact aq (v:=bj gp 10) (w':=W4) Tai ⟨AR.refl _,rfl⟩):p:=h
theorem ZfP(h:p:=by clear DZ;go_wp2_with fail;refine Az.ae.mono ?_;rintro e w5 ⟨rfl,b5⟩;generalize hr:Hp op.toNat width [v1]=r at*;exact Zam):p:=h
theorem ZfQ(h:p:=by rintro e w1 ⟨rfl,b1⟩;go_wp2_with fail;go_ret;exact⟨rfl,b1⟩):p:=h
theorem ZfR(h:p:=by
 skip;cases ne
 ·skip;exact Zaq
 ·skip;exact Zaq):p:=h
theorem ZfS(h:p:=by simp only[getElem?_map,getElem?_eq_getElem hlt,Option.map_some] at h1;injection h1 with h1;rw[h1];simpa using h2):p:=h
theorem ZfT(h:p:=by go_wp2_with fail;refine(pd.ae _ hb).mono ?_;rintro e w1 ⟨rfl,b1⟩;have hb1:=ai.then hb b1;clear hex hz b1 hb;exact Zat):p:=h
theorem ZfU(h:p:=by
 induction h with
 | refl=>exact .refl
 | step _ k1 k2 k3 k4 ih=>exact .step ih WC WC WC WC):p:=h
theorem ZfV(h:p:=by exact⟨0,Nat.zero_le _,rfl,λ j hj=>by omega,Below.refl _ _⟩):p:=h
theorem ZfW(h:p:=by have HH2:=aa (show∀h,jp<=h->h < m->lt (D m) (D h)from λ h h1 h2=>jV HX.ae (Q5.ae.le WC h1 h2));exact Zcg):p:=h
theorem ZfX(h:p:=by funext k;unfold aO dS;exact Zb3):p:=h
theorem ZfY(h:p:=by
 by_cases hl:lt (D (p - s)) (D s)
 ·exact⟨s,h4,h5,k.2 hl⟩
 ·exact ih (s+1) WC WC WC (k.1 hl)):p:=h
theorem ZfZ(h:p:=by
 have HWA:=aa hwa;have Ay:=aa xC;have HGI:=aa R6
 have afk:args.length=1/\al=false\/args.length=2:=by
  rw[xC];unfold qW at nI;split at nI
  ·left;refine⟨by omega,?_⟩;simp[uq];omega
  ·right;omega
 have H1:=aa h1;exact Kcf):p:=h
theorem Zf0(h:p:=by exact⟨0,Nat.zero_le _,rfl,Below.refl _ _⟩):p:=h
theorem Zf1(h:p:=by
 have jn:(args.map (·.1)++bad::post)[i]' Tab=bad:=by rw[getElem_append_right Tab];simp[fL]
 rw[jn] at hex;exact Kcg):p:=h
theorem Zf2(h:p:=by
 rw[d1];go_enter Tryz.func76,Tryz.ntmps76;go_wp2
 all_goals
  go_ret;refine⟨?_,by first | rfl | go_grown⟩;simp_all):p:=h
theorem Zf3(h:p:=by
 clear bM x9;go_wp2_with fail;go_roundw;case rel=>exact⟨i+1,hlt,by go_num,ai.then hB hL⟩
 case measure=>exact Za6):p:=h
theorem Zf4(h:p:=by rwa [show zs.length=fuel+1 by omega] at this):p:=h
theorem Zf5(h:p:=by go_end0;rw[HT.ae];exact⟨rfl,HS.ae,HG.ae⟩):p:=h
theorem Zf6(h:p:=by
 have hv':=hv.keep (w':=(w.alloc (.cells (ay x) 46)).alloc (.cells #[ag 0,af 0,au] 44)) λ o=>(ai.then (ah w (.cells (ay x) 46)) (ah _ (.cells #[ag 0,af 0,au] 44))).cell (p:=⟨b,o,none⟩) hb
 unfold eh at hv';exact Kch):p:=h
theorem Zf7(h:p:=by
 induction h with
 | refl=>exact .refl _
 | step _ k1 k2 k3 k4 ih=>exact(Du _ n _ _ WC WC).trans ih):p:=h
theorem Zf8(h:p:=by skip;intro hg;have hg:ρ (.tmp 22)=.bool false:=hg;exact Zao):p:=h
theorem Zf9(h:p:=by rename_i hk;exact⟨rfl,hall,by rw[hc];simp[cnt,one,o,hk],by rw[hs];simp[BG,ND,o,hk],fj hb TaO⟩):p:=h
theorem Zga(h:p:=by
 have HS:=aa h;have Q5:=aa q5;have mixed:Tryz.prog.follows .mixedOrders=true:=by kernel_rfl
 clear h q5;have t0:((m:Int) - (a:Int)==1)=false:=by simp;omega
 have t1:((m:Int)+1 - (m:Int)==1)=true:=by simp;omega
 exact Kci):p:=h
theorem Zgb(h:p:=by intro i hi j hj hT hU kY;exact absurd (hT.trans hU.symm) kY):p:=h
theorem Zgc(h:p:=by
 split at h
 ·cases h
 ·injection h with h;exact .inr h.symm):p:=h
theorem Zgd(h:p:=by
 obtain⟨m,rfl⟩:∃m,σ=.bad m:=by
  match σ,LP.ae with
  | .good l,ck=>simp[cq.gT] at ck;omega
  | .bad m,_=>exact⟨m,rfl⟩
 go_wp2_with (go_at_call 88;refine hwr.mono ?_;rintro e w1 ⟨rfl,d1⟩);go_ret;exact Kcj):p:=h
theorem Zge(h:p:=by have Sv:=aa iO;have wI:=aa iO.p;have H1:=aa iO.wt;have H2:=aa iO.wf;have H3:=aa iO.wn;have H4:=aa iO.wo;exact Kck):p:=h
theorem Zgf(h:p:=by have HXn:=aa (d13.blk HX.ae WC);have HQn:=aa (d13.blk uK.ae WC);have HDn:=aa (pI.ae.trans d13);have arQ:=d13.size;clear HX uK pI d13;have HX:=HXn;have uK:=HQn;have pI:=HDn;clear HXn HQn HDn;exact Kcl):p:=h
theorem Zgg(h:p:=by exact iQ (.inl rfl) h1 ⟨ai.refl _,rfl⟩):p:=h
theorem Zgh(h:p:=by
 have Hi:l[k]?=some o:=by have:=congrArg (λ x=>x[0]?) hk;simpa using this
 have ajv:k < l.length:=by
  rcases Nat.lt_or_ge k l.length with h' | h'
  ·exact h'
  ·rw[getElem?_eq_none h'] at Hi;cases Hi
 exact Kcm):p:=h
theorem Zgi(h:p:=by go_wp2_with fail;rw[rounds_succ];exact ZdA):p:=h
theorem Zgj(h:p:=by exact⟨a+1,b,by omega,by omega,by omega,by go_num,rfl,HS.ae,λ h h1 h2=>by omega,λ h h1 h2=>by omega⟩):p:=h
theorem Zgk(h:p:=by exact⟨0,E,⟨0,rfl⟩,by omega,rfl,by go_num,HF.ae,IH.ae,λ x h1 h2=>by omega,λ x h1 h2=>Q1.ae x h1⟩):p:=h
theorem Zgl(h:p:=by go_wp2;exact ZbN):p:=h
theorem Zgm(h:p:=by rename_i hk;exact⟨rfl,hall,by rw[hc];simp[cnt,one,o],by rw[hs];simp[BG,ND,o],fj hb (by simp[key,o,hk])⟩):p:=h
theorem Zgn(h:p:=by have cQ:=cL.cell 0;simp only[getElem?_toArray,getElem?_cons_zero] at cQ;rw[Nat.zero_add,cQ,IH.ae]):p:=h
theorem Zgo(h:p:=by intro W3 hL;simp only[Uab];rintro _ rfl _ rfl _ rfl _ rfl a4 q4 a5 q5 a6 q6 a7 q7 a8 q8 a9 q3 FN Ul;replace q4:cV=a4:=Eq.symm q4;subst q4;exact Kcn):p:=h
theorem Zgp(h:p:=by have hl:=AD _ _ _ _ hgm s.op false i _ hi;exact aq (w':=W4) Ta9 ⟨ai.refl _,rfl⟩):p:=h
theorem Zgq(h:p:=by
 split at h
 ·cases h
 ·injection h with h;injection h with h1 h;injection h with h2 h3;rw[<- h3];exact hs):p:=h
theorem Zgr(h:p:=by intro ρ W4 hc hL hr;have h0:_=_:=hr.1;have c0:=(hL.cell (p:=⟨lb,j,none⟩) VU.ae).trans U3.ae;exact Zeb):p:=h
theorem Zgs(h:p:=by intro ρ w vs hc hG hr;rw[t1] at hr;have r0:=hr.1;simp only[m2] at r0;exact⟨g1,T5 ρ w r0 (Co _ _ hG)⟩):p:=h
theorem Zgt(h:p:=by go_wp2_with fail;exact DY.ae _ _ (HBE.ae HN.ae _ _ _ _ _ _ _ _ _ _ _ _ _ _ _ _ _ _ _ _ _ _ _ _ _ _ _ _ _)):p:=h
theorem Zgu(h:p:=by simp only[CD,Uaa] at y0 y1 y2;exact ZdT):p:=h
theorem Zgv(h:p:=by refine(cw ρ _ _ false Kx.ae ⟨#[116,114,117,101]⟩ (show(cq.good (tk.w::r)).head (⟨#[116,114,117,101]⟩:ByteArray).data.toList=false from H1.ae)).mono ?_;rintro e w1 ⟨rfl,d1⟩;go_wp2_with fail;exact Kco):p:=h
theorem Zgw(h:p:=by
 rcases Nat.lt_or_ge g w.heap.size with h' | h'
 ·exact h'
 ·rw[Array.getElem?_eq_none h'] at h2;cases h2):p:=h
theorem Zgx(h:p:=by
 rcases h4 with h4 | h4
 ·exact .inl h4
 ·exact .inr λ q hq=>by rw[h4] at hq;injection hq with hq;omega):p:=h
theorem Zgy(h:p:=by obtain⟨q,h1,f0,f1⟩:=h;exact⟨q,h1,hl.new _ f0,f1⟩):p:=h
theorem Zgz(h:p:=by rw[h4];simp only[h3,getElem_map,getElem_range]):p:=h
theorem ZgA(h:p:=by
 rcases(show s=a\/s=mid by omega)with e | e
 ·have:=HH.ae;rwa [e] at this
 ·have:=Q1.ae;rwa [e] at this):p:=h
theorem ZgB(h:p:=by intro ρ' w' s' v' Zo xA Ej ny;exact Za9):p:=h
theorem ZgC(h:p:=by intro ρ' w' y' h';show _=Result.ok _ (w'.alloc (.cells (SC y').toArray _));simp[go_sem,h',itV,SC,bI]):p:=h
theorem ZgD(h:p:=by simp only[bF,Act.put,Uac];have Mq:=aa (Below.trans vr.ae (hL.mono vr.ae.size));have MA:=aa (MQ.ae.later hL);have MR:=aa (E9.ae.later hL);exact Kcp):p:=h
theorem ZgE(h:p:=by intro ρ W4 hc hL hr;have h0:_=_:=hr.1;have h1:_=_:=hr.2.1;have hs:=tx XA xn xc gn xY.ae W4;exact Zdj):p:=h
theorem ZgF(h:p:=by obtain⟨x0,x1,x2,x3,x4,x5,x6,x7⟩:=dA HS.ae.blk;obtain⟨z0,z1,z2,z3,z4,z5,z6,z7⟩:=lB HS.ae.res;obtain⟨y0,y1,y2,y3,y4,y5,y6,y7⟩:=dA HS.ae.res;unfold nY at x0 x3 x4 x5 x6 x7;go_wp2_with fail;exact Kcq):p:=h
theorem ZgG(h:p:=by
 rcases Nat.lt_or_ge k l.length with h' | h'
 ·exact h'
 ·rw[getElem?_eq_none h'] at ho;cases ho):p:=h
theorem ZgH(h:p:=by rw[drop_eq_getElem_cons hlt];rw[getElem?_eq_getElem hlt] at h1;injection h1 with h1;rw[h1]):p:=h
theorem ZgI(h:p:=by
 rcases Nat.lt_or_ge i j with h1 | h1
 ·exact h i j hi h1 hj
 ·rw[show i=j by omega];exact le_refl _):p:=h
theorem ZgJ(h:p:=by have EK:decide (m < f)=false:=decide_eq_false k1;have EL:decide (a < s)=true:=decide_eq_true k2;have EM:decide (s < mid)=false:=decide_eq_false k3;have Nd:decide (mid < f)=true:=decide_eq_true k4;exact Kcr):p:=h
theorem ZgK(h:p:=by exact⟨rfl,rfl,rfl,rfl,rfl,[],.inl rfl,Tr.all_nil⟩):p:=h
theorem ZgL(h:p:=by
 skip;cases nz
 ·skip;cases ne
  ·exact ZbF
  ·exact ZbF
 ·skip;cases ne
  ·exact ZbF
  ·exact ZbF):p:=h
theorem ZgM(h:p:=by rw[vo.ae];exact⟨⟨0,⟨0,0,⟨#[]⟩⟩,⟨#[]⟩,0,none,0,0⟩,_,_,rfl,wP.ae.own kI mO.ae⟩):p:=h
theorem ZgN(h:p:=by
 go_roundw;case rel=>exact⟨k+1,P9,by go_num,by rw[pA.ae];exact O4.ae⟩
 case measure=>exact Za6):p:=h
theorem ZgO(h:p:=by rintro e w1 ⟨rfl,hs1,hg1⟩;go_wp2_with fail;go_end0;rw[HT.ae];exact⟨rfl,hs1,ba HG.ae hg1⟩):p:=h
theorem ZgP(h:p:=by
 refine Classical.byContradiction λ e=>?_
 have:=le_trans (not_lt.1 e) h;exact(not_lt.2 this) k):p:=h
theorem ZgQ(h:p:=by
 refine Classical.byContradiction λ e=>?_
 have:=le_trans k (not_lt.1 e);exact(not_lt.2 this) h):p:=h
theorem ZgR(h:p:=by obtain⟨a,ha⟩:=Option.isSome_iff_exists.1 ha;rw[ha] at hG;obtain⟨k1,k2,k3,zC,k5⟩:=hG;obtain⟨q,c,e1,e2⟩:=zC.row;exact Kcs):p:=h
theorem ZgS(h:p:=by refine(xo.ae W4 hL).mono ?_;exact Zbs):p:=h
theorem ZgT(h:p:=by
 skip;cases nz
 ·exact ZbV
 ·exact ZbV):p:=h
theorem ZgU(h:p:=by
 intro i w w' v h hl
 match i with
 | 0 | 1 | 2 | 3 | 4 | 5 | 6 | 7 | 8=>exact h
 | n+9=>exact h):p:=h
theorem ZgV(h:p:=by exact aq (v:=.tuple #[Vy,Vz]) (w':=W4) Taq ⟨ai.refl _,_,_,rfl,cL⟩):p:=h
theorem ZgW(h:p:=by obtain⟨x,h1,f0⟩:=h;exact⟨x,h1,f0.later hl⟩):p:=h
theorem ZgX(h:p:=by rw[hr] at hrun;injection hrun with _ hw;rw[<- hw];exact(ai.drew w).alloc (Nat.le_refl _) _):p:=h
theorem ZgY(h:p:=by intro ρ W4 hc hL hr;exact aq (w':=W4) (by simp[go_sem,hc.const];done) ⟨ai.refl _,rfl⟩):p:=h
theorem ZgZ(h:p:=by exact⟨0,Nat.zero_le _,rfl,rfl,Below.refl _ _⟩):p:=h
theorem Zg0(h:p:=by exact⟨0,Nat.zero_le _,rfl,Below.refl _ _,rfl⟩):p:=h
theorem Zg1(h:p:=by simp only[Uaa] at c4 c8 c10;have CU:=aa hat;have je:=aa bh;have kx:=aa gj;have pR:=aa oF;clear b1 b2 bb oF hat bh gj gX;exact Kct):p:=h
theorem Zg2(h:p:=by
 intro i w w' v h hl
 match i with
 | 0 | 1 | 2 | 3 | 4 | 5 | 6 | 7=>exact h
 | n+8=>exact h):p:=h
theorem Zg3(h:p:=by have e1:=cL.err;subst e1;exact aq (w':=W4) Taq ⟨ai.refl _,rfl⟩):p:=h
theorem Zg4(h:p:=by clear hz;go_enter Tryz.func177,Tryz.ntmps177;go_wp2_with fail;go_ret2;exact Pp HB.ae rfl):p:=h
theorem Zg5(h:p:=by exact(h.at_ x Qf).qK.uf hc (by rw[ho];decide) hm):p:=h
theorem Zg6(h:p:=by
 rcases(show s=m\/f=m by omega)with e | e
 ·rw[e];exact jC D m f
 ·rw[e];exact iz D s m):p:=h
theorem Zg7(h:p:=by intro ρ W4 hc hL hr;have h1:ρ (.tmp 15)=.tuple #[.agg (aH v),af err]:=hr.1;exact Zdf):p:=h
theorem Zg8(h:p:=by
 unfold swp;split
 ·exact h.rows i hi
 ·split
  ·exact h.rows j hj
  ·exact h.rows k hk):p:=h
theorem Zg9(h:p:=by intro a w8 zE;simp only[bF,Act.put,Uac];intro a0 _ a1 _ a2 _ a3 _ a4 _ a5 _ a6 _ a7 _ a8 _ a9 _ FN _;refine wpList_nil ?_;exact Kcu):p:=h
theorem Zha(h:p:=by subst q3;replace Ul: af FP=FN:=Eq.symm Ul;subst Ul;simp only[bF,Act.put,Uac];exact Kcv):p:=h
theorem Zhb(h:p:=by have z6:=hR.cell 6;simp only[Uaa] at z6;exact Kcw):p:=h
theorem Zhc(h:p:=by
 intro a m b D w h0 h1 h2 hb h q1 q2;by_cases c1:m=a+1
 ·subst c1;have:=JB w0 g n cap a b D w h hn h2 hb q2;exact Zfa
 by_cases c2:b=m+1
 ·subst c2;have:=JC w0 g n cap a m D w h hn WC hb q1;exact Zfa
 exact Kcx):p:=h
theorem Zhd(h:p:=by exact key (r0 - s0) s0 (Nat.le_refl _) (Nat.le_refl _) WY ⟨λ c h1 h2=>by omega,λ c h1 h2=>by omega⟩):p:=h
theorem Zhe(h:p:=by have KK:=aa (AQ.ae l rfl);have E9:=aa (show aC w5 gb 84 #[af (rE FP 0)] from QG.ae);have t1:(nG (.ok l)==0)=true:=rfl;clear AQ E8 QG;obtain⟨XA,xc,hx0,hxl,A6⟩:=Jh KK.ae;subst hx0;have uV:=aa A6;exact Kcy):p:=h
theorem Zhf(h:p:=by exact⟨a,m,by omega,by omega,by omega,rfl,rfl,HS.ae,λ h h1 h2=>by omega,λ h h1 h2=>by omega⟩):p:=h
theorem Zhg(h:p:=by clear Up;go_wp2_with fail;refine(Io.ae _).mono ?_;rintro e w2 ⟨rfl,b3⟩;have c10:=(bB.later b3).cell 0;simp only[Uaa] at c10;exact Kcz):p:=h
theorem Zhh(h:p:=by obtain⟨o,h1,h2⟩:=h;exact⟨o,h1,h2.fr hr⟩):p:=h
theorem Zhi(h:p:=by
 induction k with
 | refl=>exact h
 | step _ h1 h2 h3 h4 ih=>exact .step ih h1 h2 h3 h4):p:=h
theorem Zhj(h:p:=by clear Sz Pz;go_wp2_with fail;have HP:=ep jG.ae y;have HR:=dt HP;unfold dX at HR;obtain⟨r0,r1,r2,r3,r4,r5,r6⟩:=HR;exact KcA):p:=h
theorem Zhk(h:p:=by intro s h3 h4 h5 h6;exact⟨s,h4,h5,by rw[show r0=s by omega] at h6 ⊢;exact h6⟩):p:=h
theorem Zhl(h:p:=by go_wp2_with fail;refine(Hg q w3 v3 ys _ O3.ae TT.ae je.ae Cg.ae).mono ?_;rintro e w4 ⟨rfl,b4⟩;have hb4:=Below.trans tP.ae (b4.mono tP.ae.size);clear b4;go_wp2_with fail;go_ret;exact KcB):p:=h
theorem Zhm(h:p:=by have iC:=hex.keep (λ o=>HP.ae.f.base.cell (p:=⟨b,o,none⟩) Cw);unfold cy at iC;have xq:=aa se;have kx:=aa gj;have vo:=aa JG;have HAA:=aa hA;rw[hA];clear hex se gj JG hA Cw fK;exact KcC):p:=h
theorem Zhn(h:p:=by intro ρ W4 hc hL hr;have h1:_=_:=hr.1;exact iQ (.inl rfl) h1 ⟨AR.refl _,rfl⟩):p:=h
theorem Zho(h:p:=by exact aq (w':=W4) TaG ⟨FR.refl _ _ _,rfl,λ h=>by cases h⟩):p:=h
theorem Zhp(h:p:=by exact⟨true,λ _=>h,λ h=> Tah⟩):p:=h
theorem Zhq(h:p:=by rw[e3,take_append_of_le_length Tac,take_of_length_le Tac]):p:=h
theorem Zhr(h:p:=by exact aq (w':=W4) (by simp[go_sem,hc.const,h0,h1,e1];done) ⟨ai.refl _,rfl⟩):p:=h
theorem Zhs(h:p:=by intro ρ W4 hc hL hr;have h0:_=_:=hr.1;have c0:=(HEW.ae.later hL).c4;exact Zce):p:=h
theorem Zht(h:p:=by exact⟨0,D,⟨0,rfl⟩,by omega,rfl,rfl,HS.ae,.refl,λ x h1 h2=>by omega⟩):p:=h
theorem Zhu(h:p:=by go_enter Tryz.func48,Tryz.ntmps48;exact Zgl):p:=h
theorem Zhv(h:p:=by go_enter Tryz.func49,Tryz.ntmps49;exact Zgl):p:=h
theorem Zhw(h:p:=by go_enter Tryz.func50,Tryz.ntmps50;exact Zgl):p:=h
theorem Zhx(h:p:=by intro ρ' w' v' x' u' Zo xA Ej ny;exact Za9):p:=h
theorem Zhy(h:p:=by intro ρ w G cap h1 h2;simp[go_sem,h1,h2];intro hh;exact absurd hh WC):p:=h
theorem Zhz(h:p:=by
 intro i w w' v h hl
 match i with
 | 0 | 1 | 2 | 3 | 4=>exact h
 | n+5=>exact h):p:=h
theorem ZhA(h:p:=by refine⟨A,l,c,?_,h⟩;simp[Value.cells] at q;obtain⟨rfl,rfl,rfl⟩:=q;rfl):p:=h
theorem ZhB(h:p:=by have gD:=Hw.ae;unfold cy at hex;go_wp2_with fail;have bY:=ah wr (.cells (ay bad) 46);refine(gD _ (KK.trans ((ai.then hb bY).mono KK.size))).mono ?_;rintro e W3 ⟨rfl,Kx⟩;exact KcD):p:=h
theorem ZhC(h:p:=by exact aq (w':=W4) (by simp[go_sem,hc.const,h0,e1];done) ⟨ai.refl _,rfl⟩):p:=h
theorem ZhD(h:p:=by simp[Array.getD_eq_getD_getElem?,Array.getElem?_setIfInBounds,hT];exact aoZ):p:=h
theorem ZhE(h:p:=by intro ρ W4 hc hL hr;intro hg;have hg:ρ (.tmp 57)=.bool true:=hg;exact Zao):p:=h
theorem ZhF(h:p:=by intro ρ W4 hc hL hr;intro hg;have hg:ρ (.tmp 61)=.bool true:=hg;exact Zao):p:=h
theorem ZhG(h:p:=by intro ρ W4 hc hL hr;intro hg;have hg:ρ (.tmp 74)=.bool true:=hg;exact Zao):p:=h
theorem ZhH(h:p:=by intro ρ W4 hc hL hr;intro hg;have hg:ρ (.tmp 78)=.bool true:=hg;exact Zao):p:=h
theorem ZhI(h:p:=by simpa [Lit.wf,IntKind.min,IntKind.max,IntKind.signed,IntKind.bits] using h):p:=h
theorem ZhJ(h:p:=by subst hr;clear HP II Ke NQ Xf nV;go_wp2_with fail;go_ret;exact⟨rfl,hW⟩):p:=h
theorem ZhK(h:p:=by exact⟨a+1,D,by omega,.inr rfl,by go_num,HS.ae,.refl,.none WC⟩):p:=h
theorem ZhL(h:p:=by rw[set_append_right _ _ (Nat.le_refl _),Nat.sub_self] at h1;exact h1):p:=h
theorem ZhM(h:p:=by go_wp2_with fail;go_ret;exact⟨rfl,hB⟩):p:=h
theorem ZhN(h:p:=by go_wp2_with fail;exact HF.ae er _ _ oO.ae nV.ae ⟨rfl,rfl,rfl⟩ HW2.ae):p:=h
theorem ZhO(h:p:=by intro ρ W4 hc hL hr;have h0:_=_:=hr.1;have cL:=Gs.ae.later hL;exact Zbv):p:=h
theorem ZhP(h:p:=by have HC:=aa hC;clear hC;go_wp2_with fail;refine HC.ae.mono ?_;rintro e_ w5 ⟨rfl,G,hF,ih,ho⟩;have H2:=aa hF;have HW:=aa (IH.ae.trans (ih.mono WC WC));exact KcE):p:=h
theorem ZhQ(h:p:=by exact⟨w.heap.size,rfl,(aC.new w 4 #[.bool fv]).alloc _,by go_grown⟩):p:=h
theorem ZhR(h:p:=by obtain⟨q,q2,h1,h2,h3⟩:=h;exact⟨q,q2,h1,hk _ _ _ h2,hk _ _ _ h3⟩):p:=h
theorem ZhS(h:p:=by have HE:=aa hE;have HF:=aa QC;have je:=aa Jt;have HIL:=aa Th;have Q5:=aa hz;have Vs:=aa Ny;have Xd:=aa DS;have HH:=aa Ti;have HLEN:=aa QD;have kF:=aa hX;have B9:=aa Zx;exact KcF):p:=h
theorem ZhT(h:p:=by rw[h1] at h2;injection h2 with h2;injection h2 with _ h2 _;exact ht h2):p:=h
theorem ZhU(h:p:=by kernel_rfl):p:=h
theorem ZhV(h:p:=by
 cases x with
 | error e=>rfl
 | ok p=>rfl):p:=h
theorem ZhW(h:p:=by exact aq (w':=W4) (by simp[go_sem,h0,c0,c1];done) ⟨ai.refl _,rfl⟩):p:=h
theorem ZhX(h:p:=by obtain⟨g,a,h1,f0,f1⟩:=h;exact⟨g,a,h1,f0.later hl,f1.later hl⟩):p:=h
theorem ZhY(h:p:=by
 by_cases h0:b.n=0
 ·rw[if_pos h0]
 ·rw[if_neg h0] at h ⊢;exact ur h):p:=h
theorem ZhZ(h:p:=by simp[Array.getD_eq_getD_getElem?,Array.getElem?_setIfInBounds,hT,e4]):p:=h
theorem Zh0(h:p:=by simp[Array.getD_eq_getD_getElem?,Array.getElem?_setIfInBounds,hT,e5]):p:=h
theorem Zh1(h:p:=by have SO:=aa (EN.ae.stop hj0 (.inr (by simpa using HL.ae)));exact Zdi):p:=h
theorem Zh2(h:p:=by go_wp2_with fail;go_ret;exact⟨by rw[Pn.ae];rfl,ai.then HB.ae hW⟩):p:=h
theorem Zh3(h:p:=by exact⟨i,Kx,by omega,Nat.le_refl _,rfl,H2.ae,HW.ae,.start EN.ae⟩):p:=h
theorem Zh4(h:p:=by go_wp2_with fail;go_ret;exact⟨by simp[vO,e1,e2,e3,e4,e5,e6],hb⟩):p:=h
theorem Zh5(h:p:=by unfold aI;rw[length_append,flatMap_append];simpa using h2):p:=h
theorem Zh6(h:p:=by injection hx with hx;subst hx;exact⟨h.cell 0,h.cell 1,h.cell 2⟩):p:=h
theorem Zh7(h:p:=by exact⟨_,_,⟨rfl,rfl⟩,by unfold Val.Ok num;dsimp only;omega⟩):p:=h
theorem Zh8(h:p:=by cases A1 <;> simp[sliced,tu]):p:=h
theorem Zh9(h:p:=by go_wp2_with fail;go_ret;refine⟨nk ?_,rfl⟩;rw[HS.ae,sU hle];rw[HD.ae,cD,HB.ae,if_neg Taa,if_neg];exact KcG):p:=h
theorem Zia(h:p:=by obtain⟨q,h1,h2,h3⟩:=h;exact⟨q,h1,h2.grown hr.grown h3,h3⟩):p:=h
theorem Zib(h:p:=by
 rcases Q5.ae with h |⟨b,off,h1,h2,h3⟩
 ·exact ZfF
 ·exact ZeM):p:=h
theorem Zic(h:p:=by
 cases hs:sb
 ·rfl
 ·have h1:=Ls (tI.ae.1 hs);have h2:=S8.ae;omega):p:=h
theorem Zid(h:p:=by
 rcases Q3.ae with h |⟨b,off,h1,h2,h3⟩
 ·exact ZfF
 ·exact ZeM):p:=h
theorem Zie(h:p:=by rw[hxe] at hcj;clear hxe ahn;subst hA;obtain⟨q,hq⟩:∃q,q=x.g:=⟨_,rfl⟩;have HQ:=aa hq;rw[<- hq] at hcj;have VU:=aa Eb;have U3:=aa hcj;clear vw Eb hcj hq;exact KcH):p:=h
theorem Zif(h:p:=by exact aq (w':=W4) (by simp[execOp,h1,cf,hf]) ⟨ai.refl _,rfl⟩):p:=h
theorem Zig(h:p:=by simp[results,Tryz.results134,go_sem,r0,r1,r2,r3,r4,r5,r6,r7];rfl):p:=h
theorem Zih(h:p:=by
 by_cases e:dJ s l=true
 ·simp only[e,if_true]
 ·simp only[e];rfl):p:=h
theorem Zii(h:p:=by exact⟨0,Nat.zero_le _,Nat.zero_le _,rfl,rfl,Below.refl _ _⟩):p:=h
theorem Zij(h:p:=by exact⟨b,off,h1,h2,(h3 k _ (getElem?_eq_getElem P9)).1⟩):p:=h
theorem Zik(h:p:=by refine⟨rfl,rfl,rfl,rfl,rfl,[],.inl rfl,?_⟩;unfold Tr.aQ;rfl):p:=h
theorem Zil(h:p:=by obtain⟨s,hs1,hs2,hF⟩:=mE hp he q1 q2 WC;obtain⟨f,hf⟩:∃q:Nat,q=mid+m - s:=⟨_,rfl⟩;obtain⟨e1,e2,e3,e4,e5⟩:=mD hp hf he q1 q2 hF hs1 hs2;exact KcI):p:=h
theorem Zim(h:p:=by
 intro ρ W4 hc hL hr;cases gd
 ·skip;exact Zca
 ·skip;exact Zca):p:=h
theorem Zin(h:p:=by have y0:=k2.cell 0;have hz:=k2.cell 1;have y2:=k2.cell 2;simp only[Uaa] at x0 hex x2 y0 hz y2;exact KcJ):p:=h
theorem Zio(h:p:=by exact⟨y,w1,gI,g0,h1,h2,h3,h4,h5.trans (ai.drew _),h6.drew⟩):p:=h
theorem Ziq(h:p:=by rw[drop_eq_getElem_cons h2,drop_eq_nil_of_le h1];rfl):p:=h
theorem Zir(h:p:=by
 repeat' split
 all_goals first | rfl |(exfalso;omega)| simp_all):p:=h
theorem Zis(h:p:=by go_wp2_with fail;go_ret;exact⟨_,rfl,aI.nil,Below.refl _ _⟩):p:=h
theorem Zit(h:p:=by obtain⟨fn,tmps,assign,body,hy,hR⟩:=B9.ae _ x _ hJ1 Aa.ae;unfold Qv at hy;rw[hLk] at hy;have HR:=aa hR;exact KcK):p:=h
theorem Ziu(h:p:=by exact⟨rfl,rfl,rfl⟩):p:=h
theorem Ziv(h:p:=by exact⟨a,Nat.le_refl _,by omega,rfl,by rw[oq];exact H2.ae⟩):p:=h
theorem Ziw(h:p:=by rintro e w1 ⟨rfl,rfl⟩;exact ZdA):p:=h
theorem Zix(h:p:=by intro ρ W4 hc hL hr;have h1:ρ (.tmp 0)=aw p:=hr.1;exact Zgg):p:=h
theorem Ziy(h:p:=by have y0:=cL.cell 0;have y1:=cL.cell 1;have y2:=cL.cell 2;have y3:=cL.cell 3;have y4:=cL.cell 4;have y5:=cL.cell 5;exact KcL):p:=h
theorem Ziz(h:p:=by
 have t0:T.getD 0 undef=tJ q L:=by rw[Kj];simp[Array.getD_eq_getD_getElem?]
 have t1:T.getD 1 undef=.slice CA cols.length cc:=by rw[Kj];simp[Array.getD_eq_getD_getElem?]
 exact KcM):p:=h
theorem ZiA(h:p:=by go_wp2_with fail;have bY:=ah wr (.cells (ay y) 46);refine(gD _ (KK.trans ((ai.then hb bY).mono KK.size))).mono ?_;rintro e W3 ⟨rfl,Kx⟩;have hb1:=ai.then bY Kx;exact KcN):p:=h
theorem ZiB(h:p:=by replace HK:=aa (HK.ae.later b1);replace K1:=aa (K1.ae.later b1);replace K2:=aa (K2.ae.later b1);replace K3:=aa (K3.ae.later b1);replace HB:=aa (ai.then HB.ae b1);exact KcO):p:=h
end Go.Proofs.YtndgjggokjickaaGreatDoor
