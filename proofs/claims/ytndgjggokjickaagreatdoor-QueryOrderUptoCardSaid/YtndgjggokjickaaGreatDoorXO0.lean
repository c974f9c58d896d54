/- Scripts that several proofs use. -/
import Derived.BigQuiet
import Derived.Handy
import Derived.WalkLawsBesides
import Derived.Lib.Hide
import Derived.Deep.AppendLies
import Derived.Deep.RegionWith
import Derived.Laws.EntriesVeiled
import Derived.Shelf.Small.Bits
import Derived.Shelf.Strconv.Itoa3
import Derived.Shelf.SlicesE.Clone
import Derived.Shelf.Spec.BitsCarry
import Derived.Deep.DeepCutAuto
import Derived.Laws.CopyOwn
import Derived.Lib.ItoaLen
import Derived.Lib.AppendZeros
import Derived.Lib.ParseIntB
import Derived.Lib.Case
import Derived.Lib.AppendZerosOnto
import Derived.Lib.Overlaps
import Derived.RangeFuncNested
import Derived.RangeFuncBound
import Derived.Shelf.RegionOpen
import Derived.OwnWalkIn
import Derived.LoopNIn
import Derived.LoopIn
import Derived.Deep.WholeRow
import Derived.Deep.Strs
import Derived.Lay
import Derived.LaidMore
import Derived.Stop.LaidErr
import Derived.HandedShaped
import Derived.Deep.DeepHandedRow
import Derived.Test.YtndgjggokjickaaGreatDoorProg
namespace Go.Proofs.YtndgjggokjickaaGreatDoor
set_option linter.unusedVariables false
open Go.ChangeShapes Go.WideShapes Go.ChangeAt Go.RowKit List
abbrev aj (a b:World):Prop:=Below a.heap.size a b
abbrev ar (f:FuncId)(a:Array Value)(w:World)(q:Ending->World->Prop):Prop:=Calls Tryz.prog f a w q
def eY (p:Prop):Prop:=p
theorem eY.ae {p:Prop}(h:eY p):p:=h
theorem aa {p:Prop}(h:p):eY p:=h
abbrev aw (g:Nat):Value:=.pointer (some ⟨g,0,none⟩)
abbrev ba (g k:Nat):Value:=.pointer (some ⟨g,k,none⟩)
abbrev aI (g n c:Nat):Value:=.slice (some ⟨g,0,none⟩) n c
abbrev az:Value:=.slice none 0 0
abbrev au:Value:=.string ⟨#[]⟩
abbrev af (n:Int):Value:=.int .i64 n
abbrev ag (n:Int):Value:=.int .u8 n
theorem Uaa:(∀{α:Type}(l:List α)(i:Nat),l.toArray[i]?=l[i]?)/\(∀{α:Type}(a:α)(l:List α),(a::l)[0]?=some a)/\∀{α:Type}(a:α)(l:List α)(i:Nat),(a::l)[i+1]?=l[i]?:=by refine⟨?_,?_,?_⟩<;>simp
theorem Uab:(∀{α:Type}(a:α)(l:List α)(i:Nat),(a::l).take (i+1)=a::l.take i)/\(∀{α:Type}(l:List α),l.take 0=[])/\(∀{α:Type}(a:α)(l:List α)(i:Nat),(a::l).drop (i+1)=l.drop i)/\∀{α:Type}(l:List α),l.drop 0=l:=by refine⟨?_,?_,?_,?_⟩<;>simp
theorem Uac:(∀{α:Type}(l:List α)(i:Nat)(a:α),l.toArray.setIfInBounds i a=(l.set i a).toArray)/\(∀{α:Type}(x:α)(l:List α)(i:Nat)(a:α),(x::l).set (i+1) a=x::l.set i a)/\∀{α:Type}(x:α)(l:List α)(a:α),(x::l).set 0 a=a::l:=by refine⟨?_,?_,?_⟩<;>simp
variable{p:Prop}
theorem Tq(h:p:=by omega):p:=h
theorem T8(h:p:=by kernel_rfl):p:=h
theorem WC(h:p:=by decide):p:=h
theorem Va(h:p:=by simp;omega):p:=h
theorem Vb(h:p:=by simp):p:=h
theorem Taa(h:p:=by cases h):p:=h
theorem Tab(h:p:=by unfold M;simp;omega):p:=h
theorem Tac(h:p:=by simp[results,Tryz.results17,go_sem,dw];try rfl):p:=h
theorem Tad(h:p:=by simp[results,Tryz.results99,go_sem,x0,x1,z2,z3,z4,z5,z6];done):p:=h
theorem Tae(h:p:=by simp[go_sem,hc.const,h0];done):p:=h
theorem Taf(h:p:=by rw[hg2];exact congrArg some e):p:=h
theorem Tah(h:p:=by simpa using h):p:=h
theorem Tai(h:p:=by simp_all):p:=h
theorem Taj(h:p:=by unfold maxLen;omega):p:=h
theorem Tak(h:p:=by simpa using hlt):p:=h
theorem Tal(h:p:=by simp[results,Tryz.results153,go_sem]):p:=h
theorem Tam(h:p:=by simp[results,Tryz.results59,go_sem]):p:=h
theorem Tan(h:p:=by simp[go_sem,h0];done):p:=h
theorem Tao(h:p:=by simp[go_sem,e1,h0,h1];done):p:=h
theorem Tap(h:p:=by rw[HLEN.ae];omega):p:=h
theorem Taq(h:p:=by simpa [Function.comp_def] using hA):p:=h
theorem Tar(h:p:=by have:=Aa.ae;omega):p:=h
theorem Tas(h:p:=by simp[results,Tryz.results61,go_sem,x0,x1,z2,z3,z4,z5,z6];done):p:=h
theorem Tat(h:p:=by simp[go_sem,h0,h1];done):p:=h
theorem Tau(h:p:=by simpa using hi):p:=h
theorem Tav(h:p:=by simp[results,Tryz.results16,go_sem]):p:=h
theorem Taw(h:p:=by rw[getElem?_eq_getElem hi,he]):p:=h
theorem Tax(h:p:=by rw[NP.ae];rfl):p:=h
theorem Tay(h:p:=by simp[go_sem,e1,h0];done):p:=h
theorem Taz(h:p:=by simp[go_sem,e1,e2];done):p:=h
theorem TaA(h:p:=by simp[bX,Value.oneCell']):p:=h
theorem TaB(h:p:=by simp[bF,Value.oneCell']):p:=h
theorem TaC(h:p:=by simp only[Array.size_setIfInBounds];exact hT):p:=h
theorem TaD(h:p:=by simp[go_sem,h1]):p:=h
theorem TaE(h:p:=by rw[sN];exact pA):p:=h
theorem TaF(h:p:=by simp[results,Tryz.results106,go_sem]):p:=h
theorem TaG(h:p:=by simp[results,Tryz.results64,go_sem]):p:=h
theorem TaH(h:p:=by rw[<- h.len];exact hi):p:=h
theorem TaI(h:p:=by rw[take_append_drop];exact hz):p:=h
theorem TaJ(h:p:=by simp[go_sem,hc.const,h0,h1];done):p:=h
theorem TaK(h:p:=by simp[key,o]):p:=h
theorem TaL(h:p:=by have:=AJ.ae;have:=HND.ae;omega):p:=h
theorem TaM(h:p:=by simp[h a (by simp)]):p:=h
theorem TaN(h:p:=by simp only[length_singleton,Nat.min_def];split <;> omega):p:=h
theorem TaO(h:p:=by rw[wj.ae];exact Nat.le_refl _):p:=h
theorem TaP(h:p:=by have:=mE.ae;have:=Ab.ae;omega):p:=h
theorem TaQ(h:p:=by rw[Kx];exact congrArg some e):p:=h
theorem TaR(h:p:=by rw[Q1.ae,<- NY.ae];decide):p:=h
theorem TaS(h:p:=by rw[length_take];omega):p:=h
theorem TaT(h:p:=by rw[Tf];exact Ez):p:=h
theorem TaU(h:p:=by simp[df,Value.oneCell']):p:=h
theorem TaV(h:p:=by simp[dQ,Value.oneCell']):p:=h
theorem TaW(h:p:=by simp[aV,Value.oneCell']):p:=h
theorem TaX(h:p:=by simp[aS,Value.oneCell']):p:=h
theorem TaY(h:p:=by simp[results,Tryz.results161,go_sem,dw];try rfl):p:=h
theorem TaZ(h:p:=by have hl2:=HLT.ae;simp[go_sem,h0,h1,hl2,dC];done):p:=h
theorem Ta0(h:p:=by simpa using hz):p:=h
theorem Ta1(h:p:=by simpa using hk):p:=h
theorem Ta2(h:p:=by simpa using h1):p:=h
theorem Ta3(h:p:=by rw[mK.ae];simp):p:=h
theorem Ta4(h:p:=by simp[results,Tryz.results111,go_sem];try rfl):p:=h
theorem Ta5(h:p:=by simp[results,Tryz.results109,go_sem];try rfl):p:=h
theorem Ta6(h:p:=by simp[execOp,h1,h2,hl]):p:=h
theorem Ta7(h:p:=by cases e):p:=h
theorem Ta8(h:p:=by rw[fq];exact h6.old):p:=h
theorem Ta9(h:p:=by rw[e]):p:=h
theorem Tba(h:p:=by have:=pF.ae.base.size;have:=mE.ae;omega):p:=h
theorem Tbb(h:p:=by simp[hx]):p:=h
theorem Tbc(h:p:=by simp[go_sem,h1,c0]):p:=h
theorem Tbd(h:p:=by rw[I.len];exact zy):p:=h
theorem Tbe(h:p:=by show w.heap.size≠w1.heap.size;omega):p:=h
theorem Tbf(h:p:=by injection e):p:=h
theorem Tbg(h:p:=by simp[results,Tryz.results105,go_sem]):p:=h
theorem Tbh(h:p:=by rw[sZ.ae,hs,if_neg (by simp),HGI.ae]):p:=h
theorem Tbi(h:p:=by have:=HN.ae;omega):p:=h
theorem Tbj(h:p:=by simpa using(by omega:s[0].toNat=48)):p:=h
theorem Tbk(h:p:=by simp[results,Tryz.results70,go_sem]):p:=h
theorem Tbl(h:p:=by simp[results,Tryz.results38,go_sem]):p:=h
theorem Tbm(h:p:=by simp[results,Tryz.results34,go_sem]):p:=h
theorem zbf.Kae(h:p:=by
 go_wp2_with fail;go_roundw;case rel=>exact⟨m+1,j,by omega,by omega,by omega,by omega,by go_num,rfl,H3.ae⟩
 case measure=>exact Za2):p:=h
theorem zbg.Kae(h:p:=by
 go_wp2_with fail;go_roundw;case rel=>exact⟨i,m,by omega,by omega,by omega,by omega,rfl,rfl,H3.ae⟩
 case measure=>exact Za2):p:=h
theorem zed.KaP(h:p:=by
 have zpc:(p:Int) - (m:Int)=((p - m:Nat):Int):=by omega
 have c1:=λ q:Ext wr.heap.size wr=>(H2.ae.at_.later q.h).cell (p - m) Tq
 have lG:=λ q:Ext wr.heap.size wr=>(H2.ae.at_.later q.h).dH (p - m) Tq
 have c2:=λ q:Ext wr.heap.size wr=>(H2.ae.at_.later q.h).cell m Tq
 have lH:=λ q:Ext wr.heap.size wr=>(H2.ae.at_.later q.h).dH m Tq
 have hc:=λ q:Ext wr.heap.size wr=>H2.ae.cmp (p - m) m Tq Tq q.h
 by_cases hcs:m < s
 ·have t2:=decide_eq_false (show¬fY (D (p - m)) (D m)< 0 from HF.ae.low m Tq hcs);refine aM 14 wr.heap.size wr (Below.refl _ _) T8 T8 T8 T8 ?_;open zbf in exact Zax
 ·have t2:=decide_eq_true (show fY (D (p - m)) (D m)< 0 from HF.ae.high m Tq Tq);refine aM 14 wr.heap.size wr (Below.refl _ _) T8 T8 T8 T8 ?_;open zbg in exact Zax):p:=h
theorem Zaa(h:p:=by go_upto_region 35 with fail;open zed in exact Zcj):p:=h
theorem Zab(h:p:=by intro ρ w3 hc hL hr;exact ZbO):p:=h
theorem zgn.KbF(h:p:=by
 have cK:=Qh.ae;have Gu:=cK.frozen;have y0:=cK.cell 0;have y1:=cK.cell 1;have y2:=cK.cell 2;have y3:=cK.cell 3;have o4:=cK.cell 4;have o5:=cK.cell 5;have y6:=cK.cell 6;simp only[Uaa] at y0 y1 y2 y3 o4 o5 y6;have hne:g9≠g4:=Ne.symm XR.ae.1;clear Jw cK;go_wp2_with fail;clear z0 z1 x2 x3 x4 x5 x6 y0 y1 y2 y3 o4 o5 y6 Gu hne;generalize uD:World.setCell _ _ _=W9;have hR:aB W9 g4 46 #[.int .u8 2,.int .u8 0,.int .i64 0,.string ⟨#[]⟩,.string nm,.int .i64 0,.slice none 0 0]:=by rw[<- uD];simpa using(((((((Qh.ae.aT 0 _).aT 1 _).aT 2 _).aT 3 _).aT 4 _).aT 5 _).aT 6 _)
 have kK:WD.grownBy W9 (some g4):=by rw[<- uD];exact aC (aC (aC (aC (aC (aC (aC (aR (Below.refl _ _)) _ _) _ _) _ _) _ _) _ _) _ _) _ _
 clear uD;have x0:=hR.cell 0;have x1:=hR.cell 1;have z2:=hR.cell 2;have z3:=hR.cell 3;have z4:=hR.cell 4;have z5:=hR.cell 5;have z6:=hR.cell 6
 simp only[Uaa] at x0 x1 z2 z3 z4 z5 z6;refine bodyPost_ret (v:=.tuple #[.agg #[.int .u8 2,.int .u8 0,.int .i64 0,.string ⟨#[]⟩,.string nm,.int .i64 0,.slice none 0 0],.int .i64 0]) Tad rfl ?_;have hkD:=J5.ae.kp (eu.2 CV.ae);exact⟨⟨2,⟨0,0,⟨#[]⟩⟩,nm,0,none,0,0⟩,_,_,_,rfl,by rw[SV.ae];exact BV s.aL.length _ _,(by
  have h9:=aih.ae.aside kK hkD (Nat.le_trans pF.ae.base.size mE.ae)
  rw[SV.ae] at h9
  exact h9),(((gM.refl gp w (Value.slice UA ya.length uc) (Value.slice VA s.aL.length vc)).later Gw.ae).trans J5.ae).own kK mE.ae⟩):p:=h
theorem Zac(h:p:=by
 have gX:=CW.ae.blk;unfold PC.cells at gX;have c10:=gX.cell 10;simp only[Uaa] at c10;clear gX;go_wp2_with fail;refine(oX s.aL.length Tq Tq WA (iV.ae.env.later CW.ae.base)).mono ?_;rintro e w7 ⟨rfl,NR⟩;have tF:=aa (CW.ae.later NR);have wG:=aa (Qz.ae.later NR);have QA:=aa (HZA.ae.later NR);clear NR CW Qz HZA c10;unfold mz Lm;obtain⟨nm,iZ⟩:∃nm,nm=je s.aL.length:=⟨_,rfl⟩;rw[<- iZ];have SV:=aa iZ;clear iZ;go_upto_region 13 with fail;have kK:=aB.new w7 46 #[.int .u8 2,.int .u8 0,.int .i64 0,.string ⟨#[]⟩,.string nm,.int .i64 0,.slice none 0 0];have Gx:=ah w7 (.cells #[.int .u8 2,.int .u8 0,.int .i64 0,.string ⟨#[]⟩,.string nm,.int .i64 0,.slice none 0 0] 46);generalize w7.alloc (.cells #[.int .u8 2,.int .u8 0,.int .i64 0,.string ⟨#[]⟩,.string nm,.int .i64 0,.slice none 0 0] 46)=WB at*;obtain⟨g9,J0⟩:∃g9,g9=w7.heap.size:=⟨_,rfl⟩;rw[<- J0] at kK ⊢;have VS:=aa kK;have kS:=aa (tF.ae.later Gx);have J1:=aa (wG.ae.later Gx);have J2:=aa (QA.ae.later Gx);have XR:=aa (show g4≠g9/\gp≠g9 from⟨by have:=QA.ae.lt;omega,by have:=tF.ae.blk.lt;omega⟩);clear kK Gx J0 tF wG QA;refine fu _ _ (take_append_drop 13 _).symm (AR aS 113 2 w0.heap.size (Value.slice VA s.aL.length vc) s.aL ⟨nm,ty⟩) AR.refl (λ _ _ _=>AR.trans) AR.drew (acV gp g9 w0.heap.size WB (Value.slice VA s.aL.length vc) s.aL nm ty) (λ i w w' x h hr=>CU _ _ _ _ _ _ _ _ _ _ _ _ h hr) T8 T8 T8 ?_ ?_
 ·simp only[take_succ_cons,take_zero];refine⟨ZaU,ZaU,ZaU,Zd0,?_,?_,?_,?_,?_,?_,?_,ZaU,Zd0,trivial⟩
  ·intro ρ w3 hc hL hr;have h0:_=_:=hr.1;have jV:=dB kS.ae.blk kS.ae.dK WC hL.grown;exact Zdr
  ·intro ρ w3 hc hL hr;have h0:_=_:=hr.1;exact aq (v:=.pointer (some ⟨g9,4,none⟩)) (w':=w3) Tae ⟨AR.refl _,rfl⟩
  ·intro ρ w3 hc hL hr;have h0:_=_:=hr.1;have hb9:=dB VS.ae kS.ae.dK WC hL.grown;have x4:=hb9.cell 4;simp only[Uaa] at x4;exact aq (w':=w3) (by simp[go_sem,h0,x4];done) ⟨AR.refl _,rfl⟩
  ·intro ρ w3 hc hL hr;have h0:_=_:=hr.1;exact aq (v:=.int .u8 ty) (w':=w3) Tae ⟨AR.refl _,rfl⟩
  ·intro ρ w3 hc hL hr;have h0:_=_:=hr.1;have h1:_=_:=hr.2.1;exact aq (v:=.agg #[.string nm,.int .u8 ty]) (w':=w3) TaJ ⟨AR.refl _,rfl⟩
  ·intro ρ w3 hc hL hr;have h0:_=_:=hr.1;refine aq (v:=.slice (some ⟨w3.heap.size,0,none⟩) 1 1) (w':=w3.alloc (.cells #[.string nm,.int .u8 ty] 113)) Tan ⟨AR.later (ah w3 _),⟨_,rfl,aB.new w3 _ _,λ e=>?_⟩⟩;have:=((hL.old kS.ae.dK).lt e).1;omega
  ·intro ρ w3 hc hL hr;have h0:_=_:=hr.1;obtain⟨q1,h1,uE,Jv⟩:∃q:Nat,ρ (.tmp 79)=.slice (some ⟨q,0,none⟩) 1 1/\aB w3 q 113 (aS ⟨nm,ty⟩).toArray/\(Value.slice VA s.aL.length vc).ownBlock≠some q:=hr.2.1;obtain⟨v',w',hrun,ho,yF,Ew⟩:=eM (P:=Tryz.prog) (w:=w3) 28 28 _ 24 Tryz.underlying28 rD rfl Tq (λ _=>rfl) TaX (hL.old kS.ae.dK) q1 uE (by show(s.aL.length+1)*24<=_;omega) (by show s.aL.length+1<=_;omega) (Nat.le_trans kS.ae.base.size hL.grown.size);exact ZbP
 intro W3 hL;simp only[Uab];rintro a0 - a1 - a2 - a3 - a4 - a5 - a6 - a7 - a8 - a9 - FM ⟨auo,rfl,CX,MB⟩ J3 - _ rfl;simp only[bD,Act.put,Uac];obtain⟨VB,vcb,hVB,_⟩:=CX.reads;rw[length_append,length_singleton] at hVB;subst hVB;have HOC:=aa CX;have HMC:=aa MB;have Lw:=aa hL.grown;have jV:=dB kS.ae.blk kS.ae.dK WC hL.grown;have f10:=jV.frozen 10;unfold PC.cells at jV;have c10:=jV.cell 10;simp only[Uaa] at c10;have Qr:=aa (dB VS.ae kS.ae.dK WC hL.grown);have HZC:=aa (dB J2.ae kS.ae.dK WC hL.grown);clear CX MB jV hL VS J2;go_upto_region 14 with fail;clear f10 c10;have aih:=aa (kS.ae.Qw HOC.ae Lw.ae);have J5:=aa (J1.ae.trans (gM.I9 (gp:=gp) Lw.ae HMC.ae (Value.slice VB (s.aL.length+1) vcb) 10));have Tm:=aa (Qr.ae.far (p:=⟨gp,10,none⟩) (Ne.symm XR.ae.2) (Value.slice VB (s.aL.length+1) vcb));have Qh:=aa (HZC.ae.far (p:=⟨gp,10,none⟩) CV.ae.2.1 (Value.slice VB (s.aL.length+1) vcb));clear kS J1 Qr HZC HOC HMC Lw;generalize World.setCell W3 _ _=WD at*;open zgn in exact Zer):p:=h
theorem zgO.KbM(h:p:=by
 have cU:=λ y:Ext W.heap.size W=>hu.keep (w':=y.w) λ o=>y.cell (p:=⟨b,o,none⟩) hb2
 unfold ed at cV cU;exact Ka):p:=h
theorem zcp.Kaq(h:p:=by
 replace hv:=hv.keep (w':=W) λ o=>hB.cell (p:=⟨b,o,none⟩) hb
 replace hu:=hu.keep (w':=W) λ o=>hB.cell (p:=⟨b,o,none⟩) hb
 open zgO in exact ZeB):p:=h
theorem Zad(h:p:=by open zcp in exact ZaN):p:=h
theorem Zae(h:p:=by
 obtain⟨i0,kX,XB⟩:=lj h0;obtain⟨Kx,⟨hi,hu⟩,AW⟩:=least (p:=λ Kx=>Kx < l.length/\listed.getD Kx false=false) i0 ⟨kX,XB⟩
 have mA:∀i,i < Kx->listed.getD i false=true:=λ i hj=>by
  cases hc:listed.getD i false with
  | true=>rfl
  | false=>exact absurd ⟨by omega,hc⟩ (AW i hj)
 have ND:l[Kx]?=some l[Kx]:=getElem?_eq_getElem hi;have vo:=cF aZ Kx _ ND;simp only[lO,Bool.and_eq_true,Nat.zero_add] at vo
 have ja:Kx∈Region.ready .any (l++zs).toArray listed:=by
  refine qF (nM ND) ?_ λ i hj=>mA i (of_decide_eq_true (List.all_eq_true.1 vo.1.1.1 i hj))
  rw[eo (by rw[I.len];simp;omega)];exact hu
 refine⟨(λ hnil=>by rw[hnil] at ja;cases ja),λ i hj=>?_⟩;obtain⟨AX,oj,oG,hall⟩:=mem_ready.1 hj
 have zy:i <(l++zs).length:=by
  rcases Nat.lt_or_ge i (l++zs).length with h' | h'
  ·exact h'
  ·rw[Array.getElem?_eq_none (by simpa using h')] at oG;cases oG
 rw[eo Tbd] at AX;have eX:∀k∈eV oj,listed.getD k false=true:=λ k hk=>by obtain⟨e,he,hb,rfl⟩:=jy.1 hk;exact hall e he hb
 have rW:i < l.length:=by
  rcases Nat.lt_or_ge i l.length with h' | h'
  ·exact h'
  ·exfalso
   have hzj:zs[i - l.length]?=some oj:=by
    have:(l++zs)[i]?=some oj:=by simpa using oG
    rw[getElem?_append_right Tq] at this;exact this
   have RT:=iK hz (i - l.length) oj hzj;rw[show l.length+(i - l.length)=i by omega] at RT;have hc:=iL (L:=l++zs) (λ k=>listed.getD k false=true) (by
    intro k ok hk hd e he
    rcases Nat.lt_or_ge k l.length with Oc | Oc
    ·rw[getElem?_append_left Oc] at hk
     exact I.closed k ok hk hd e he
    ·rw[I.tail k Oc] at hd;cases hd) i (eV oj) RT.2 eX Kx Tq
   rw[hu] at hc;cases hc
 have vn:l[i]?=some oj:=by
  have:(l++zs)[i]?=some oj:=by simpa using oG
  rw[getElem?_append_left rW] at this;exact this
 exact Kb):p:=h
theorem ziw.Kcv(h:p:=by
 unfold bQ;go_wp2_with fail;have HV:=aB.new W3 44 (aD v);have bG:=ah W3 (.cells (aD v) 44);have b1:=ai.then hb1 bG;have xo:=HK;replace HK:=aa (HK.ae.later b1);replace Q3:=aa (Q3.ae.later b1);replace hb:=ai.then hb b1;have hsz:wr.heap.size<=W3.heap.size:=hb1.size;have hne:∀u,aH aV 44 3 wr W.heap.size u ((args.take k).map (·.2))->some W3.heap.size≠u.ownBlock:=λ u hu e=>by have:=(hu.lt e.symm).1;omega
 have Ou:=hne _ xo.ae;clear hne b1 hb1 KK bY bG gj hex xo;generalize W3.alloc (.cells (aD v) 44)=w2 at*;generalize W3.heap.size=LE at*;have Bg:((args.take k).map (·.2)).length<=1599289640356:=by simp;omega
 have LT:((args.take k).map (·.2.k)).length<=1599289640356:=by simp;omega
 generalize hvs:(args.take k).map (·.2)=vs at*;generalize pP:(args.take k).map (·.2.k)=ks at*;have HVS:=aa hvs;have Ow:=aa pP;clear hvs pP;have hbase:W.heap.size<=w2.heap.size:=hb.size;have alz:vs.length<=1599289640356:=Bg;refine fu _ _ (take_append_drop 8 _).symm (AR aV 44 3 W.heap.size u8 vs v) AR.refl (λ _ _ _=>AR.trans) AR.drew (evV W.heap.size u8 u9 vs v LE) (λ i w w' u h hr=>Fi _ _ _ _ _ _ _ _ _ _ h hr) T8 T8 T8 ?_ ?_
 ·simp only[take_succ_cons,take_zero];refine⟨Zgw,ZeM,?_,?_,Zgw,?_,ZeM,?_,trivial⟩
  ·intro ρ w3 hc hL hr;have h1:_=_:=hr.1;refine aq (v:=aI w3.heap.size 1 1) (w':=w3.alloc (.cells (aD v) 44)) TaD ⟨AR.later (ah w3 _),⟨_,rfl,aB.new w3 _ _,λ e=>?_⟩⟩;have:=((hL.old HK.ae).lt e.symm).1;omega
  ·intro ρ w3 hc hL hr;have h1:_=_:=hr.1;obtain⟨q,h2,h3,h4⟩:∃q,ρ (.tmp 37)=aI q 1 1/\aB w3 q 44 (aV v).toArray/\some q≠u8.ownBlock:=hr.2.1;obtain⟨v',w',hrun,ho,yF⟩:=eZ (P:=Tryz.prog) (w:=w3) 38 38 _ 32 Tryz.underlying38 lU rfl Tq (λ _=>rfl) TaW (hL.old HK.ae) q h3 Tq Tq (Nat.le_trans hbase hL.grown.size);exact aq (v:=v') (w':=w') (by simp only[execOp,resolve,invoke,builtin,Sem.run_bind,Sem.run_pure,Result.andThen_ok,map_toArray,map_cons,map_nil,h1,h2,hrun]) ⟨yF,ho⟩
  ·intro ρ w3 hc hL hr;have h1:_=_:=hr.1;exact aq (w':=w3) TaD ⟨AR.refl _,rfl⟩
  ·intro ρ w3 hc hL hr;have h1:_=_:=hr.1;refine aq (v:=aI w3.heap.size 1 1) (w':=w3.alloc (.cells #[ag v.k] 5)) TaD ⟨AR.later (ah w3 _),⟨_,rfl,aB.new w3 _ _,λ e=>?_⟩⟩;have:=((hL.old HK.ae).lt e.symm).1;omega
 ·intro w3 hL;simp only[Uab];intro a0 h0 a1 h1 a2 h2 v3 hO3 a4 h4 a5 h5 a6 h6 a7 h7;obtain⟨q2,h2,_⟩:=h2;obtain⟨q7,h7,hq7,_⟩:=h7;have h0:u8=a0:=Eq.symm h0;have h4:u9=a4:=Eq.symm h4;have h1:_=a1:=Eq.symm h1;have h2:_=a2:=Eq.symm h2;have h5:_=a5:=Eq.symm h5;have h6:_=a6:=Eq.symm h6;have h7:_=a7:=Eq.symm h7;subst h0 h1 h2 h4 h5 h6 h7;have hO3:aH aV 44 3 w3 W.heap.size v3 (vs++ [v]):=hO3;have hK3:=Q3.ae.past HK.ae WC hL.grown;have hb3:=hb.trans (bj HK.ae hL.grown hbase);have Ui:=aa hO3;have Ea:=aa hK3;have HQ7:=aa hq7;have Bh:=hb3.size;clear hO3 hK3 hq7 HK Q3 hL HV Ou hb;simp only[bD,Act.put,Uac];go_wp2_with (first
   |(at_builtin
     refine aU rfl (.tmp 39) (.tmp 42) 97 rfl _ 1 Tryz.underlying97 oI rfl Tq v.k rfl TaV rfl Ea.ae q7 rfl HQ7.ae Tq Tq Bh ?_
     intro v4 w4 z4 g4
     have b4:=bj Ea.ae g4 Bh
     have z3:=Ui.ae.past Ea.ae WC g4
     have O4:=aa z4
     have O3:=aa z3
     clear z4 g4 Ea Ui HQ7 z3))
  go_roundw
  case rel=>
   refine⟨k+1,hlt,by go_num,?_,?_,hb3.trans b4⟩
   ·rw[HT.ae,map_append,HVS.ae];exact O3.ae
   ·rw[HT.ae,map_append,Ow.ae];exact O4.ae
  case measure=>exact Za2):p:=h
theorem zcX.Kax(h:p:=by open ziw in exact ZhF):p:=h
theorem Zaf(h:p:=by open zcX in exact Zbe):p:=h
theorem zeH.Ka0(h:p:=by
 unfold qm at*;unfold dv.ptr;obtain⟨tk,pl,bd,hpl,hlt,hsm,uq,cf,Kx,Ij,uV,hp⟩:=h0.vZ;obtain⟨r',mY⟩:=Kx _ rfl;have C6:t=tk.w:=by injection mY
 have tz:bd < 0:=by simpa [cg.gT] using cf
 subst C6;have hlf:=h0.left;have yJ:=hp.later (ah _ pX);have LJ:=hp.later ((ah _ (.cells (dF tk) 172)).drew);have hb3:=(ah (w.alloc (.cells #[ag 0,ag 0,af 0,au,au,af 0,az] 46)) (.cells (dF tk) 172)).drew;have HT:=(aB.new (w.alloc (.cells #[ag 0,ag 0,af 0,au,au,af 0,az] 46)) 172 (dF tk)).drew;rw[hsz] at HT;have KK:=aa (h0.later hb3);have HD:=aa ((eE.cZ h hb).later hb3);have mX:=aa (HQ.ae.later hb3);have nY:=(h0.later hb3).facts.2.2.2.2.1;have Cn:((w.alloc (.cells #[ag 0,ag 0,af 0,au,au,af 0,az] 46)).alloc (.cells (dF tk) 172)).drew.heap.size=w.heap.size+2:=by simp
 exact KG):p:=h
theorem Zag(h:p:=by open zeH in exact ZcA):p:=h
theorem Zah(h:p:=by have YES:=aa (show∀w2,aj w w2->qQ w (.returned (.bool true)) w2 from λ w2 h=>⟨true,rfl,h⟩);obtain⟨uV,Um,hn3⟩:=hn;clear b1 k1;go_enter Tryz.func21,Tryz.ntmps21;go_upto_region 1 with fail;change Code.wp _ _ _ _ (w.alloc (.cells #[ag 0,au,az,au,af 0,au,af 0,.slice L.i.A L.i.n L.i.c,.string q.bS,.bool q.only,.slice L.w.A L.w.n L.w.c,.slice L.g.A L.g.n L.g.c,.slice L.h.A L.h.n L.h.c,.slice L.o.A L.o.n L.o.c,.slice L.l.A L.l.n L.l.c,ag 0,au,af 0,af 0,az,az,az,ag 0,af 0,au,ag 0,af 0,au] 64));generalize w.alloc _=W1 at*;obtain⟨sv,De⟩:∃sv,sv=Value.agg #[ag 0,au,az,au,af 0,au,af 0,.slice L.i.A L.i.n L.i.c,.string q.bS,.bool q.only,.slice L.w.A L.w.n L.w.c,.slice L.g.A L.g.n L.g.c,.slice L.h.A L.h.n L.h.c,.slice L.o.A L.o.n L.o.c,.slice L.l.A L.l.n L.l.c,ag 0,au,af 0,af 0,az,az,az,ag 0,af 0,au,ag 0,af 0,au]:=⟨_,rfl⟩;rw[<- De];clear De;obtain⟨gs,pT⟩:∃gs,gs=w.heap.size:=⟨_,rfl⟩;exact KW):p:=h
theorem Zai(h:p:=by have HR9:=aa hr;clear hr;unfold bQ;clear z0 z1 x2 x3 x4 x5 x6 x0 x1 z2 z3 z4 z5 dw gV;replace cK:=cK.later b5;replace hB:=ai.then hB b5;have dw:=aG cK;have gV:=aB.frozen cK;go_wp2_with fail;exact bodyPost_ret (v:=.tuple #[.agg (aD r.1),af r.2]) Tac rfl ⟨congrArg (λ r:Val×Int=>Ending.returned (bQ r.1 r.2)) NX.ae.symm,((hB.setCell bJ _).setCell bJ _).setCell bJ _⟩):p:=h
theorem Zaj(h:p:=by go_wp2_with fail;have EO:=aa (Q3.ae.congr (E:=E) λ x h1 h2=>HW.ae.ae x (.inr h1));have EP:=aa (Q4.ae.congr (E:=E) λ x h1 h2=>HW.ae.ae x (.inr Tq));refine(IH.ae mid f b E _ Tq Tq hb Tq H4.ae EO.ae EP.ae).mono ?_;rintro e_ w7 ⟨rfl,T,h5,h6,h7⟩;have HF:=jk ⟨by omega,by omega⟩ Q5.ae HW.ae h6 HO.ae h7;have HT:=aa h5;have xi:=aa HF.1;have qu:=aa ((wk.ae.mono Tq Tq).trans HF.2);clear h5 h6 h7 HF;go_wp2_with fail;exact bodyPost_ret (v:=.tuple #[]) TaF rfl ⟨rfl,T,HT.ae,qu.ae,xi.ae⟩):p:=h
theorem Zak(h:p:=by refine⟨λ _=>?_,λ hn=>absurd hg hn⟩;exact ZbO):p:=h
theorem Zal(h:p:=by have h0:_=_:=hr.1;have h1:_=_:=hr.2.1;exact aq (w':=w3) TaJ ⟨ai.refl _,rfl⟩):p:=h
theorem Zam(h:p:=by
 generalize bc D s Kx f=R at*;have H6:cD R a mid:=by exact ZfL
 obtain⟨E,hE⟩:∃E,E=R:=⟨_,rfl⟩;have H4:=aa (show SS w0 g n _ E by rw[hE];exact H3.ae);have HW:=aa (show Sw a mid R E by rw[hE];exact .refl);have HO:=aa (show cD E a mid by rw[hE];exact H6);clear hE H6 H3;go_wp2_with fail;have EO:=aa (Q3.ae.congr (E:=E) λ x h1 h2=>HW.ae.ae x (.inr h1));have EP:=aa (Q4.ae.congr (E:=E) λ x h1 h2=>HW.ae.ae x (.inr Tq));have H6:=aa (show cD E mid b from by
  rcases(show f=mid\/f=b by omega)with e | e
  ·have:=EP.ae;rwa [e] at this
  ·have:=EO.ae;rwa [e] at this)
 exact ZbG):p:=h
theorem Zan(h:p:=by
 have HK:=sO;have xN:=GZ;have HYB:=Oa;have tL:=MI;have WT:=TJ;have pS:=aa x7;clear sO GZ Oa HT7 ael fx z0 x4 x7 Cu;obtain⟨WB,hWB⟩:∃WB,WB=WD:=⟨_,rfl⟩;rw[<- hWB] at HK xN HYB tL WT pS ⊢;have HOi:=aa HK.ae.o3;have HOh:=aa HK.ae.o2;have HLi:=aa (show yi.length<=1000000 by have:=HFN.ae;have:=qA.ae;have:=Wc.ae;have:=HO.ae;omega);have HLh:=aa (show(hd++jY).length<=1000000 by have:=Q3.ae;have:=HFN.ae;have:=qA.ae;have:=Wc.ae;rw[length_append];omega);have key:=λ(T:Array Value) (hT:T.size=252) e0 e1 e2 e3 (Q2:Exit->Act->World->Prop) hf=>DG (T:=T) (d:=d) (Q:=Q2) (gp:=gp) (B:=w0.heap.size) (gY:=gY) (g16:=g16) (W:=WB) (cs:=c.cells { r with h:=rh,i:=ri } u' v') (ri:=ri) (rh:=rh) (yi:=yi) (y:=Kx) (hd:=hd++jY) (nm:=nm) (ty:=ty) hT e0 e1 e2 e3 rfl rfl HK.ae.f.base.size HK.ae.blk HOi.ae HOh.ae HLi.ae HLh.ae HYB.ae WT.ae.2.1 (WT.ae.2.2 3 Tq) (WT.ae.2.2 2 Tq) pS.ae tL.ae.1 tL.ae.2.1 (tL.ae.2.2 3 Tq) (tL.ae.2.2 2 Tq) hf
 simp only[DF,bK,fA,Tryz.f28,Option.getD_some,rR,Nat.reduceEqDiff,if_true,if_false] at key;refine key _ ?_ ?_ ?_ ?_ ?_ _ ?_
 ·rfl
 ·rfl
 ·rfl
 ·rfl
 ·rfl
 clear key;intro adT adU z167 z168 adV adW z171 adX z173 adY z175 adZ aea aeb aec aed aee z182 z183 aef aeg aeh aei w8 a b9 s7 ET Ei;simp only[Uac];have T9:=aa (HK.ae.Rm Ei (my xN.ae));clear Ei HK HYB pS xN HOi HOh;generalize World.setCell w8 _ _=NT at*;have hk7:k < 1000000:=by have:=HFN.ae;have:=Wc.ae;omega
 go_wp2_with fail;go_roundw;case rel=>exact⟨k+1,b9,a,u',v',K7,yi++ [Kx],s2,ti++ [t2],jY++ [⟨nm,ty⟩],hlt,by go_num,by
  have h:=T9.ae
  rw[append_assoc] at h
  exact h,xO.ae,by have:=AJ.ae;have:=HND.ae;have:=DB.ae;omega,by rw[length_append,qA.ae.1];rfl,by rw[length_append,qA.ae.2];rfl⟩
 case measure=>exact Za2):p:=h
theorem Zao(h:p:=by exact⟨λ hn=>(by rw[hg] at hn;cases hn),λ _=>rfl⟩):p:=h
theorem Zap(h:p:=by
 cases sb
 ·go_wp2_with fail;go_roundw
  case rel=>
   refine⟨k+1,hlt,by go_num,λ j hj=>?_,hb1⟩;rcases Nat.lt_succ_iff_lt_or_eq.1 hj with hj | rfl
   ·exact HP.ae j hj
   ·exact HS.ae
  case measure=>exact Za2
 ·go_wp2_with fail;go_ret;refine⟨?_,hb1⟩;rw[vL HP.ae (by rw[getElem?_eq_getElem Tak];congr 1;have:=HS.ae;rw[getD_eq_getElem?_getD,getElem?_eq_getElem Tak] at this;exact this)];rfl):p:=h
theorem Zaq(h:p:=by simp only[eR,cJ,Value.agg.injEq,Array.mk.injEq,List.cons.injEq,Value.int.injEq,Value.bool.injEq,true_and,and_true] at h;obtain⟨h1,h2,h3,h4,h5,rfl⟩:=h;exact Kaa):p:=h
theorem zgJ.KbK(h:p:=by
 generalize pP:(args.take k).map (·.2)=ks at*;have Ow:=aa pP;have HG:=aa hG;have hbase:=hb.size;clear pP hG hb1 hb2 bN;go_wp2_with (first
  |(at_builtin
    refine aU rfl (.tmp 29) (.tmp 31) 38 rfl _ 32 Tryz.underlying38 lU rfl Tq v rfl TaW rfl HP.ae w2.heap.size rfl HG.ae Tq Tq hbase ?_
    intro v4 w4 o4 g4
    have b4:=bj HP.ae g4 hbase
    have O4:=aa o4
    clear o4 g4 HP HG))
 go_roundw;case rel=>exact ZdP
 case measure=>exact Za2):p:=h
theorem zgr.KbG(h:p:=by go_upto_region 8 with fail;have bN:=ah w2 (.cells (aD v) 44);have hG:=aB.new w2 44 (aD v);open zgJ in exact Zex):p:=h
theorem zcY.Kax(h:p:=by unfold jF at gj;have oK:=aa gj;clear gj;go_wp2_with fail;have bY:=ah wr (.cells (ay y) 46);refine(oK.ae _ (ai.then hb bY)).mono ?_;rintro e W3 ⟨rfl,b1⟩;unfold bQ;have Kx:=ai.then bY b1;clear bY b1 oK hex;go_upto_region 6 with fail;have HV:=aB.new W3 44 (aD v);have bG:=ah W3 (.cells (aD v) 44);have hb1:=ai.then Kx bG;generalize W3.alloc _=w2 at*;obtain⟨gv,XK⟩:∃gv,gv=W3.heap.size:=⟨_,rfl⟩;rw[<- XK] at HV ⊢;clear XK Kx bG;open zgr in exact Zet):p:=h
theorem Zar(h:p:=by open zcY in exact Zbe):p:=h
theorem zgE.KbJ(h:p:=by
 have mixed:Tryz.prog.follows .mixedOrders=true:=by kernel_rfl
 have t0:((Kx:Int) - (a:Int)==1)=false:=by simp;omega
 have t1:((b:Int) - (Kx:Int)==1)=false:=by simp;omega
 have zm:((a:Int)+(b:Int))/ 2=(mid:Int):=by omega
 have zp:(mid:Int)+(Kx:Int) - 1=(p:Int):=by omega
 have bm:a < mid/\mid < b:=by omega
 have bs:a<=s0/\s0<=r0/\r0<=Kx/\r0<=mid/\mid+Kx<=s0+b:=by omega
 have bp:p+1=mid+Kx:=by omega
 have bf:Kx<=f/\f<=b/\mid<=f:=by omega
 have zf:(mid:Int)+(Kx:Int) - (s:Int)=(f:Int):=by omega
 exact Kab):p:=h
theorem Zas(h:p:=by have HS:=aa h;open zgE in exact Zew):p:=h
theorem zer.KaV(h:p:=by go_wp2_with fail;refine(lF c.aL c.gA c.gn c.gc g3 t z W (by have:=iV.ae.gl;omega) (iV.ae.aL.later (sR.ae.base)) iV.ae.gok kE.ae (CQ.ae.later sR.ae.base) HX.ae).mono ?_;rintro e w1 ⟨rfl,hb1⟩;rw[od,hf];dsimp only;exact Kac):p:=h
theorem zhO.Kcb(h:p:=by go_enter Tryz.func99,Tryz.ntmps99;open zer in exact Zct):p:=h
theorem ze6.Ka9(h:p:=by have c4:=gX.cell 4;have c8:=gX.cell 8;have c10:=gX.cell 10;open zhO in exact Zge):p:=h
theorem Zat(h:p:=by open ze6 in exact Zc1):p:=h
theorem Zau(h:p:=by
 have HD:=pw.ae;refine yY (P:=Tryz.prog) (f:=bF) (val:=mz) (e:=46) (size:=7) (base:=qx) (l:=[]) (lv:=az) (Post:=amB ρ x (cb::r)) (w0:=Ta) (q:=9) (d0:=121) (d1:=122) (d2:=123) (d3:=124) (d4:=125) (d5:=126) (d6:=127) (qb:=qx) (k:=6) (g:=ρ.g) (pq:=aw qx) (ptr:=aw ρ.g) (F:=184) (args:= #[aw ρ.g,af 0]) 23 23 _ 88 T8 T8 T8 T8 T8 rfl rfl ?_ ?_ ?_ ?_ ?_ ?_ ?_ Tryz.underlying23 fL rfl Tq (λ _=>rfl) (by intro y u hu;simp[bF] at hu;rcases hu with rfl | rfl | rfl | rfl | rfl | rfl | rfl <;> rfl) aH.nil ?_ Tq ?_ ?_ Vb Vb Tq ?_ ?_ ?_
 ·exact Zb9
 ·exact Zb9
 ·exact Zdw
 ·exact Zb9
 ·exact Zey
 ·intro ρ' w' y' h';simp[go_sem,h',mz,bF]
 ·exact ZfO
 ·exact HX.ae.cell 6
 ·simp[Value.ownBlock]
 ·simp[Value.ownBlock]
 ·intro w' hw';refine(HH.ae ρ w' (pw.ae.at_.later hw')).mono ?_;rintro e w'' ⟨y,rfl,ht,d⟩;exact⟨y,rfl,ht,d⟩
 ·rintro y w' w'' ⟨ht,d⟩;exact d.grown
 intro y s v' w1 gG w2 W fq ⟨ht1,D4⟩ hl2 ho2 bJ LD D5 bU;obtain⟨A,c,Oe,kH⟩:=PI uj (D5 rfl rfl) (S:=jo (qx+1) W) (λ g h1 h2=>⟨by have:=fq.size;have:=D4.size;have:=hl2.size;omega,h2⟩);have Oe:v'=.slice A 1 c:=Oe;subst Oe;have bJ:w2.grownBy W none:=bJ;have D7:=yT bJ;have DW:=(((HD.later fq).trans D4).later hl2).later D7;have PJ:=(((HX.ae.later fq).grown D4.grown Va).later hl2).later D7;have SR:=(((uw.ae.later fq).grown D4.grown Va).later hl2).later D7;have htW:Tr.at_ W (jo (qx+1) W) x y:=((ht1.later hl2).later D7).more (by have:=fq.size;omega);have hxf:=PJ.frozen 6;have q5:=PJ.aT 6 (.slice A 1 c);have Az:=SR.far (p:=⟨qx,6,none⟩) Va (.slice A 1 c);have q4:=DW.far dZ (show w.heap.size<=qx by omega) 6 (.slice A 1 c);have TG:Tr.at_ _ _ x y:=htW.set (Nat.lt_succ_self qx) 6 (.slice A 1 c);have D9:=kH.keep (sG (Nat.lt_succ_self qx) 6 (.slice A 1 c));simp only[Uac] at q5;obtain⟨x0,x1,x2,x3,x4,x5,x6⟩:=bR q5;simp only[Act.put,Uac];have Q4:=aa q4;have Q5:=aa q5;have oC:=aa Az;have G6:=aa TG;have Aa:=aa D9;skip;have hqW:=PJ.lt;have atm:=aa hqW;have hgW:ρ.g+1 < W.heap.size:=by omega
 clear q4 q5 Az TG D9 PJ SR DW htW kH LD D5 ho2 ht1 D4 fq hl2 bJ D7 hqW;go_wp2_with fail;have JY:aB ((W.setCell ⟨qx,6,none⟩ (.slice A 1 c)).alloc (.cells (bL [ez]) 9)) W.heap.size 9 (bL [ez]):=by have:=aB.new (W.setCell ⟨qx,6,none⟩ (.slice A 1 c)) 9 (bL [ez]);rwa [show(W.setCell ⟨qx,6,none⟩ (.slice A 1 c)).heap.size=W.heap.size by simp[World.setCell]] at this
 have Yh:=Q4.ae.at_.later (ah _ (.cells (bL [ez]) 9));refine(mj HCB.ae ρ _ Yh W.heap.size JY Tq).mono ?_;rintro e w12 ⟨rfl,d12⟩;have PM:=ah (W.setCell ⟨qx,6,none⟩ (.slice A 1 c)) (.cells (bL [ez]) 9);have HXC:=(Q5.ae.later PM).grown d12.grown Va;have SZ:=(oC.ae.later PM).grown d12.grown Va;have E0:=aa SZ;obtain⟨x0,x1,x2,x3,x4,x5,x6⟩:=bR HXC;obtain⟨z0,z1,z2,z3,z4,z5,z6⟩:=ei SZ;obtain⟨y0,y1,y2,y3,y4,y5,y6⟩:=bR SZ;have DC:=aa ((Q4.ae.later PM).trans d12);have B12:=aa PM;have D12:=aa d12;clear HXC SZ d12 PM;go_wp2_with fail;exact Kad):p:=h
theorem zgI.KbK(h:p:=by
 generalize pP:(args.take k).map (·.2)=ks at*;have Ow:=aa pP;have HG:=aa hG;have hbase:=hb.size;clear pP hG hb2 hb1 ME bN hL;go_wp2_with (first
  |(at_builtin
    refine aU rfl (.tmp 31) (.tmp 33) 97 rfl _ 1 Tryz.underlying97 oI rfl Tq v rfl TaV rfl HP.ae W3.heap.size rfl HG.ae Tq Tq hbase ?_
    intro v4 w4 o4 g4
    have b4:=bj HP.ae g4 hbase
    have O4:=aa o4
    clear o4 g4 HP HG))
 go_roundw;case rel=>exact ZdP
 case measure=>exact Za2):p:=h
theorem zhT.Kcd(h:p:=by subst hte;have hb1:=ai.then ME hL;clear xd k1 NS QD;go_upto_region 8 with fail;have bN:=ah W3 (.cells #[ag v] 5);have hG:=aB.new W3 5 #[ag v];open zgI in exact Zex):p:=h
theorem zhx.Kb4(h:p:=by replace q5: .tuple #[ag v,af FO]=a5:=Eq.symm q5;subst q5;replace q6: .tuple #[ag v,af FO]=a6:=Eq.symm q6;subst q6;replace q7: ag v=a7:=Eq.symm q7;subst q7;replace q8: af FO=a8:=Eq.symm q8;subst q8;replace q9: ag v=a9:=Eq.symm q9;open zhT in exact Zgm):p:=h
theorem zfR.Kbt(h:p:=by
 obtain⟨FO,hte⟩:∃FO:Int,FO=0:=⟨_,rfl⟩;rw[<- hte] at xd;refine bB 11 (t5V y gp cV v FO) (xD _ _ _ _ _) T8 T8 T8 ?_ ?_
 ·exact ZaW
 open zhx in exact ZfA):p:=h
theorem zcZ.Kax(h:p:=by open zfR in exact Zd6):p:=h
theorem Zav(h:p:=by open zcZ in exact Zbe):p:=h
theorem Zaw(h:p:=by
 intro W3 hL;simp only[Uab];rintro _ rfl a1 - a2 - a3 - _ rfl a5 - a6 - a7 - _ rfl;simp only[bD,Act.put,Uac];have eL:=aa (Below.trans QU.ae (hL.mono QU.ae.size));have HX:=aa (N3.ae.later hL);have Dl:=aa (JF.ae.later hL);have MR:=aa (mF.ae.later hL);have EH:=aa (VS.ae.later hL);have QV:=aa (HK9.ae.keep hL.size λ b cur hX=>hL.block b hX.lt);clear hL QU N3 JF mF VS HK9 N6 tL WT;have hx:=EH.ae.at_ x (mem_of_getElem? QT.ae);have xf:=aa hx;have Eh:=HM.ae.qz x (mem_of_getElem? QT.ae);have hsf:=uJ (ops:=aF.map Tr.op) (ps:=fX gn aF ls) (k:=x.key) (λ op ho=>by obtain⟨t,ht,rfl⟩:=List.mem_map.1 ho;exact Q4.ae t ht) (by unfold fX;rw[length_map];have h3:=HLS.ae;have h4:=Ee.ae;omega);have hye:(aF.map λ t=>t.args.length).sum=ye.length:=by rw[<- dU Q1.ae,length_flatMap]
 have N7:ya.length=aF.length:=(dU HF.ae.ta).symm
 have Ud:=zg gp x.g w0.heap.size w0.heap.size ya AA ac (.slice x.KA x.key.length x.kc) x.sv x.qs x.ss (l.drop gn) (eQ XA xc gn) (xc - gn) W3 Tar HF.ae.lt eL.ae.size ((eL.ae.cell (p:=⟨gp,9,none⟩) HF.ae.lt).trans HF.ae.c9) (HF.ae.ra.below eL.ae) hx.blk hx.own hx.qz
  (by rw[hx.qz.len,Eh,nc,length_map,N7]) ⟨QV.ae.rv.Tn gn xc (by have:=QS.ae;omega),xW (QV.ae.off hx.qz)⟩ (by rw[length_drop];have:=QS.ae;omega)
  (by rw[HFN.ae,CN,hye,uW.ae];exact Nat.le_refl _)
  (λ y hy=>by
    have h1:y.n∈aF.map λ t=>t.args.length:=by rw[<- HFN.ae];exact mem_map_of_mem hy
    obtain⟨t,ht,he⟩:=List.mem_map.1 h1
    rw[<- he]
    exact Q5.ae t ht)
  (λ s Ly=>(hsf s (by rw[<- Eh];exact Ly)).1) (λ v hv=>LT.ae v (mem_of_mem_drop hv)) (by rw[uW.ae];have:=HJ.ae;omega)
 rw[HFN.ae,Jq aF (l.drop gn) Q5.ae (by rw[hye,uW.ae];exact Nat.le_refl _)] at Ud;have Ef:(l.drop gn).length=xn - gn:=by rw[length_drop,oz.ae]
 rw[Ef,<- HQ.ae] at Ud;have HFD:=aa Ud;clear hx Eh hsf hye N7 Ud Ef;go_wp2_with fail;refine HFD.ae.mono ?_;rintro e w11 ⟨rfl,hst,NU⟩;have aiP:=aa (EH.ae.feed QT.ae NU hst);have aiQ:=aa (Below.trans eL.ae (NU.low eL.ae.size λ q hq=>(xf.ae.qz.low q hq).1));have N8:=aa (HX.ae.turn NU xf.ae.qz WC);have N9:=aa (MR.ae.turn NU xf.ae.qz WC);have O0:=aa (NU.blk Dl.ae (xf.ae.qz.tQ Dl.ae WC));clear hst NU EH eL HX MR Dl xf HFD QV;go_wp2_with fail;go_roundw
 case rel=>
  refine⟨k+1,_,hlt,by go_num,aiQ.ae,N8.ae,?_,?_,aiP.ae,?_⟩
  ·rw[qu.ae];exact O0.ae
  ·rw[afZ QT.ae];exact N9.ae
  ·rw[xi.ae];exact HM.ae.feed QT.ae HKEY.ae
 case measure=>exact Za2):p:=h
theorem zhD.Kb6(h:p:=by
 go_big_quiet_step ((go_at_call 39;exact aJ (Nat.le_refl _) (hc _)));repeat (go_big_quiet_step (fail))
 refine wpQuiet_nil ?_;rintro w3 ⟨y2,fF⟩;have hL:=y2.h;rw[<- fF] at hL;clear fF y2 c1 c2 lG lH hc;have H3:=aa (H2.ae.later hL);clear H2 hL;exact Kae):p:=h
theorem Zax(h:p:=by open zhD in exact ZfI):p:=h
theorem Zay(h:p:=by have z0:=k1.cell 0;have z1:=k1.cell 1;have x2:=k1.cell 2;have x3:=k1.cell 3;have x4:=k1.cell 4;have x5:=k1.cell 5;have x6:=k1.cell 6;simp only[Uaa] at z0 z1 x2 x3 x4 x5 x6;exact Kaf):p:=h
theorem Zaz(h:p:=by have b1:=ah w (.cells #[ag 0,au,az,au,af 0,au,af 0,.slice L.i.A L.i.n L.i.c,.string q.bS,.bool q.only,.slice L.w.A L.w.n L.w.c,.slice L.g.A L.g.n L.g.c,.slice L.h.A L.h.n L.h.c,.slice L.o.A L.o.n L.o.c,.slice L.l.A L.l.n L.l.c,ag 0,au,af 0,af 0,az,az,az,ag 0,af 0,au,ag 0,af 0,au] 64);have k1:=aB.new w 64 #[ag 0,au,az,au,af 0,au,af 0,.slice L.i.A L.i.n L.i.c,.string q.bS,.bool q.only,.slice L.w.A L.w.n L.w.c,.slice L.g.A L.g.n L.g.c,.slice L.h.A L.h.n L.h.c,.slice L.o.A L.o.n L.o.c,.slice L.l.A L.l.n L.l.c,ag 0,au,af 0,af 0,az,az,az,ag 0,af 0,au,ag 0,af 0,au];have eL:=aa b1;have nD:=aa k1;unfold NN;exact Kag):p:=h
theorem ZaA(h:p:=by clear hr;have dw:=aG hR;have gV:=aB.frozen hR;clear hR;go_wp2_with fail;exact bodyPost_ret (v:=.tuple #[.agg #[ag (r,(0:Int)).1.k,af (r,(0:Int)).1.n,.string (r,(0:Int)).1.s],af (r,(0:Int)).2]) (by simp[results,Tryz.results169,go_sem,dw]) rfl ⟨by have:=HE.ae;injection this with h1 h2;rw[<- h1];rfl,((hB.setCell (bJ) _).setCell (bJ) _).setCell (bJ) _⟩):p:=h
theorem zdT.KaL(h:p:=by
 have n2:((tk.w.k:Int)==2)=false:=by rw[beq_eq_false_iff_ne];have:=wj.ae.i;omega
 have n3:((tk.w.k:Int)==3)=false:=by rw[beq_eq_false_iff_ne];have:=wj.ae.s;omega
 go_wp2_with fail;exact Kah):p:=h
theorem ZaB(h:p:=by open zdT in exact Zb2):p:=h
theorem zeg.KaR(h:p:=by
 have hfo:ma n=some OP:=by rw[HN.ae];exact HFN.ae
 have HFO:=aa hfo;have Ef:n.toList=n.data.toList:=ByteArray.toList_eq n;have xO:=aa Ef;clear hfo Ef;go_wp2_with fail;have SX:=ai.then (ah w6 (.cells (bL tB) 9)) (ah _ (.cells (xM mD) 5));have NB:=(aB.new w6 9 (bL tB)).alloc (.cells (xM mD) 5);have OB:=aB.new (w6.alloc (.cells (bL tB) 9)) 5 (xM mD);rw[World.size_alloc] at OB;have SY:=aa (XJ.ae.later SX);have IY:=aa (PL.ae.later SX);have hs8:=SX.size;have pS:=aa NB;have C8:=aa OB;clear NB OB SX XJ PL;show Code.wp _ _ _ _ ((w6.alloc (.cells (bL tB) 9)).alloc (.cells (xM mD) 5));generalize (w6.alloc (.cells (bL tB) 9)).alloc (.cells (xM mD) 5)=W8 at*;generalize w6.heap.size=nb at*;exact Kai):p:=h
theorem ZaC(h:p:=by open zeg in exact Zcn):p:=h
theorem ZaD(h:p:=by
 have HE:=aa he;have t1:(!y==n.toList)=false:=by rw[xO.ae];rw[beq_iff_eq] at he;simp[he]
 have uu:ma n=some o:=by rw[Ee.ae,HST.ae,he];rfl
 clear he;obtain rfl:o=OP:=by rw[HFO.ae] at uu;injection uu with uu;exact uu.symm
 have c3:=(C8.ae.later jN.ae).cell k;rw[show(xM mD)[k]?=some (ag o) by simp[xM,LQ.ae]] at c3;have d8:=SY.ae.later jN.ae;have hsw:=jN.ae.size;go_wp2_with fail;refine(mj Q1.ae ρ _ (d8.at_.later (ah wr (.cells (bL [eC]) 9))) wr.heap.size (aB.new _ _ _) Tq).mono ?_;rintro e uv ⟨rfl,d10⟩;have c4:=(((C8.ae.later jN.ae).alloc (.cells (bL [eC]) 9)).grown d10.grown (by simp;have:=C8.ae.lt;omega)).cell k;rw[show(xM mD)[k]?=some (ag o) by simp[xM,LQ.ae]] at c4;have IZ:=d10.size;have LR:=aa ((d8.later (ah wr (.cells (bL [eC]) 9))).trans d10);have xP:=aa (d10.blk ((IY.ae.later jN.ae).later (ah wr (.cells (bL [eC]) 9))) Tq);have afs:w.heap.size+2<=uv.heap.size:=by simp at IZ;omega
 clear d10 d8 c3 IZ SY IY pS;exact Kaj):p:=h
theorem ZaE(h:p:=by clear uD;have x0:=hR.cell 0;have x1:=hR.cell 1;have z2:=hR.cell 2;have z3:=hR.cell 3;have z4:=hR.cell 4;have z5:=hR.cell 5;have z6:=hR.cell 6;simp only[Uaa] at x0 x1 z2 z3 z4 z5 z6;exact Kak):p:=h
theorem ZaF(h:p:=by have c4:=b4.cell 0;have c5:=(b5.far (p:=⟨g4,0,none⟩) (Ne.symm uQ) (.pointer none)).cell 0;have f4:=b4.frozen 0;have f5:=(b5.far (p:=⟨g4,0,none⟩) (Ne.symm uQ) (.pointer none)).frozen 0;simp only[getElem?_toArray,getElem?_cons_zero] at c4 c5;clear b4 b5 uQ;exact Kal):p:=h
theorem ZaG(h:p:=by
 clear HS;obtain⟨i,j,px,hi,hj,EL,rfl,rfl,hs⟩:=hrel;have H2:=aa hs;clear hs;by_cases hlt:i < j
 ·exact Zaa
 ·have EM:s=i:=by omega
  have EN:s=j:=by omega
  subst EM EN;clear hlt hi hj px EL HF;have u0_:decide (s < Kx)=true:=decide_eq_true k0;have u1_:decide (Kx < f)=true:=decide_eq_true k1;have u2_:decide (a < s)=true:=decide_eq_true k2;have u3_:decide (s < mid)=true:=decide_eq_true k3;have u4_:decide (mid < f)=true:=decide_eq_true k4;have u5_:decide (f < b)=false:=decide_eq_false k5;go_wp2_with fail;refine(fZ w0 g n cap s Kx f D _ H2.ae hn Tq Tq Tq).mono ?_;rintro e_ w5 ⟨rfl,h5⟩;have H3:=aa h5;clear h5 H2;have wk:=aa (nk D s Kx f Tq Tq);generalize bc D s Kx f=R at*;go_wp2_with fail;refine(IH.ae a s mid R _ Tq Tq Tq Tq H3.ae Q1.ae HFN.ae).mono ?_;rintro e_ w6 ⟨rfl,E,hs,hw,ho⟩;have H4:=aa hs;have HW:=aa hw;have HO:=aa ho;clear hs hw ho H3;go_wp2_with fail;have EO:=aa (Q3.ae.congr (E:=E) λ x h1 h2=>HW.ae.ae x (.inr h1));have EP:=aa (Q4.ae.congr (E:=E) λ x h1 h2=>HW.ae.ae x (.inr Tq));have H6:=aa (show cD E mid b from by
   rcases(show f=mid\/f=b by omega)with e | e
   ·have:=EP.ae;rwa [e] at this
   ·have:=EO.ae;rwa [e] at this)
  exact ZbG):p:=h
theorem ZaH(h:p:=by
 have hall:=dX h0
 have ha:a=fill (λ d=>a.eval (.tmp d)) l a0:=by
  have h1:a.tmps=(fill (λ d=>a.eval (.tmp d)) l a0).tmps:=by
   apply Array.ext_getElem?;intro t;by_cases ht:t < a0.tmps.size
   ·rw[qE _ _ _ _ ht];split
    ·simp[Act.eval,I.size,ht]
    ·rename_i hno;refine I.old t ?_;intro i o hi hd _;exact hno ⟨o,mem_of_getElem? hi,hd⟩
   ·rw[Array.getElem?_eq_none (by rw[I.size];omega),Array.getElem?_eq_none (by rw[nN];omega)]
  have h2:a.defers=(fill (λ d=>a.eval (.tmp d)) l a0).defers:=by rw[jX,I.defers]
  exact Aj h1 h2
 exact Kam):p:=h
theorem ZaI(h:p:=by
 have k0:=λ y:Ext wr.heap.size wr=>(HP.ae.later y.h).c0
 have k1:=λ y:Ext wr.heap.size wr=>(HP.ae.later y.h).c1
 have m0:=λ y:Ext wr.heap.size wr=>(HP.ae.later y.h).d0
 have m1:=λ y:Ext wr.heap.size wr=>(HP.ae.later y.h).d1
 have m2:=λ y:Ext wr.heap.size wr=>(HP.ae.later y.h).d2
 have m3:=λ y:Ext wr.heap.size wr=>(HP.ae.later y.h).d3
 go_wp2_with fail;refine aM 13 wr.heap.size wr (Below.refl _ _) T8 T8 T8 T8 ?_;simp only[Uab];repeat (go_big_quiet_step (first
  |(go_at_call 200;exact aJ (Nat.le_refl _) (hbz _))))
 refine wpQuiet_nil ?_;rintro w3 ⟨y2,fF⟩;have hL:=y2.h;rw[<- fF] at hL;clear fF y2 k0 k1 m0 m1 m2 m3 c2;exact Kan):p:=h
theorem ZaJ(h:p:=by have k:=dP (B:=w.heap.size) cK rfl bJ HX.ae;exact⟨_,by rw[pV.ae];rfl,k.2,hB.trans k.1.below⟩):p:=h
theorem ZaK(h:p:=by obtain⟨f0,KJ,rfl,Bk,hen,lW⟩:=HD0.ae;have Eb:=aa (lW _ A8 c8 HDB.ae Bi.ae);clear lW;have z0:=k1.cell 0;have z1:=k1.cell 1;have x2:=k1.cell 2;have x3:=k1.cell 3;have x4:=k1.cell 4;have x5:=k1.cell 5;have x6:=k1.cell 6;have x0:=hR.cell 0;have x1:=hR.cell 1;have z2:=hR.cell 2;have z3:=hR.cell 3;have z4:=hR.cell 4;have z5:=hR.cell 5;simp only[Uaa] at z0 z1 x2 x3 x4 x5 x6 x0 x1 z2 z3 z4 z5;have dw:=aG cK;have gV:=aB.frozen cK;exact Kao):p:=h
theorem zgH.KbK(h:p:=by
 generalize pP:(args.take k).map (·.2)=ks at*;have Ow:=aa pP;have HG:=aa hG;have hbase:=hb.size;clear pP hG hb2 hb1 KK bY bN gj hex;go_wp2_with (first
  |(at_builtin
    refine aU rfl (.tmp 30) (.tmp 32) 97 rfl _ 1 Tryz.underlying97 oI rfl Tq v rfl TaV rfl HP.ae W3.heap.size rfl HG.ae Tq Tq hbase ?_
    intro v4 w4 o4 g4
    have b4:=bj HP.ae g4 hbase
    have O4:=aa o4
    clear o4 g4 HP HG))
 go_roundw;case rel=>exact ZdP
 case measure=>simp[intOf];omega):p:=h
theorem zix.Kcv(h:p:=by have bN:=ah W3 (.cells #[ag v] 5);have hG:=aB.new W3 5 #[ag v];open zgH in exact Zex):p:=h
theorem zc0.Kax(h:p:=by open zix in exact ZhF):p:=h
theorem ZaL(h:p:=by open zc0 in exact Zbe):p:=h
theorem ZaM(h:p:=by
 have cQ:=λ y:Ext W.heap.size W=>(lq.later y.h).cell 0
 simp only[getElem?_toArray,getElem?_cons_zero] at cQ;have bJ:w.heap.size<=w.heap.size+1:=by omega
 exact Kap):p:=h
theorem zeV.Ka5(h:p:=by exact Kaq):p:=h
theorem ZaN(h:p:=by open zeV in exact ZcR):p:=h
theorem zgl.KbE(h:p:=by have wk:=aa (nk D s Kx f Tq Tq);exact ZbZ):p:=h
theorem ze3.Ka8(h:p:=by have u5_:decide (f < b)=true:=decide_eq_true k5;open zgl in exact Zeq):p:=h
theorem ZaO(h:p:=by
 clear HS;obtain⟨i,j,px,hi,hj,EL,rfl,rfl,hs⟩:=hrel;have H2:=aa hs;clear hs;by_cases hlt:i < j
 ·exact Zaa
 ·open ze3 in exact ZcY):p:=h
theorem ZaP(h:p:=by
 have HA:=aa hA;have HE:=aa hE;clear hA hE;go_enter Tryz.func150,Tryz.ntmps150;go_wp2_with fail;go_loopw [5,8] (λ _ i wr=>∃k:Nat,k<=args.length/\i=af k/\(∀j,j < k->(args.map (·.2)).getD j false=false)/\aj w wr) (λ _ i _=>args.length - (intOf i).toNat);case atStart=>exact Zfd
 case round=>
  obtain⟨k,hk,rfl,hp,hb⟩:=hrel;have HP:=aa hp;clear hp;by_cases hlt:k < args.length
  ·obtain⟨b,off,rfl,kG,hex⟩:=(HA.ae.below hb).at_ (show k <(args.map (·.1)).length by simpa using hlt);have js:(args.map (·.1))[k]' Tak=args[k].1:=by simp
   rw[js] at hex;clear js;have gj:=HE.ae args[k] (getElem_mem hlt);have hS:=BH hlt;generalize args[k]=yb at*;obtain⟨y,sb⟩:=yb;dsimp only at*;have HS:=aa hS;have oK:=aa gj;clear hS gj;unfold ck at hex;go_wp2_with fail;refine(oK.ae _ hb).mono ?_;rintro e w1 ⟨rfl,b1⟩;have hb1:=ai.then hb b1;clear hex b1 hb;exact Zap
  ·exact Zdj):p:=h
theorem ZaQ(h:p:=by
 have HQ:=aa (aB.new w 46 #[ag 0,ag 0,af 0,au,au,af 0,az]);have hsz:(w.alloc qm).heap.size=w.heap.size+1:=by simp
 unfold qm at*;go_enter Tryz.func184,Tryz.ntmps184;go_wp2_with (first
  |(go_at_call 87;refine hm.mono ?_;rintro e w1 ⟨rfl,d1⟩)
  |(go_at_call 184;refine(H ρ w1 d1.at_).mono ?_;rintro e w2 ⟨y,rfl,ht,d2⟩;unfold mz bF;have D:=(eE.cZ h hb).trans (d1.trans d2);have yZ:=d2.blk (d1.blk HQ.ae Tq) Tq;have hqs:=d2.size;have ath:=d1.size;have mX:=yZ.alloc (.cells #[ag y.op,ag y.v.k,af y.v.n,.string y.v.s,.string y.name,af y.width,.slice y.A y.n y.c] 46);obtain⟨z0,z1,z2,z3,z4,z5,z6⟩:=ei mX;obtain⟨y0,y1,y2,y3,y4,y5,y6⟩:=bR mX;obtain⟨x0,x1,x2,x3,x4,x5,x6⟩:=dt (aB.new w2 46 (bF y).toArray);unfold bF at x0 x1 x2 x3 x4 x5 x6))
 have HP:=ej mX y;have HR:=dt HP;unfold dT at HR;obtain⟨r0,r1,r2,r3,r4,r5,r6⟩:=HR;refine bodyPost_ret (v:=mz y) Zeb rfl ?_
 ·exact NM.put dZ (Nat.le_refl _) (D.later (ah w2 _)) ((ht.later (ah w2 _)).more Tq)):p:=h
theorem ZaR(h:p:=by
 simp only[take_succ_cons,take_zero];refine⟨?_,Zab,Zab,Zab,?_,?_,Zab,Zab,Zab,Zab,?_,trivial⟩
 ·intro ρ w3 hc hL hr;have h0:_=_:=hr.1;have cK:=Wc.ae.later hL;exact Zbk
 ·intro ρ w3 hc hL hr;have h0:_=_:=hr.1;have jq:=(hL.cell (p:=⟨gp,10,none⟩) QD.ae).trans NS.ae;exact ZdD
 ·intro ρ w3 hc hL hr;have h0:_=_:=hr.1;have h1:_=_:=hr.2.1;have e1:=hc.func 59;refine bw (f:=59) (args:= #[.agg (ay Kx),.slice VA s1.aL.length vc]) (w':=w3) Tao ?_;exact Zf3
 ·exact Zab):p:=h
theorem ZaS(h:p:=by simp only[Uaa] at c0;exact ZdE):p:=h
theorem zfm.Kbg(h:p:=by obtain⟨⟨y,z⟩,sb⟩:=yb;dsimp only at*;have HS:=aa hS;have oK:=aa gj;clear hS gj;unfold ck at hex;exact Zfc):p:=h
theorem ZaT(h:p:=by
 go_wp2_with fail;go_loopw [5,8] (λ _ i wr=>∃k:Nat,k<=args.length/\i=af k/\(∀j,j < k->(args.map (·.2)).getD j false=false)/\aj w wr) (λ _ i _=>args.length - (intOf i).toNat);case atStart=>exact Zfd
 case round=>
  obtain⟨k,hk,rfl,hp,hb⟩:=hrel;have HP:=aa hp;clear hp;by_cases hlt:k < args.length
  ·open zfm in exact Zdt
  ·exact Zdj):p:=h
theorem ZaU(h:p:=by intro ρ w3 hc hL hr;have h0:_=_:=hr.1;exact aq (v:=.pointer (some ⟨gp,0,none⟩)) (w':=w3) Tae ⟨AR.refl _,rfl⟩):p:=h
theorem ZaV(h:p:=by
 simp only[Ci,Bool.and_eq_true,beq_iff_eq,Option.isNone_iff_eq_none] at Cj;obtain⟨⟨⟨⟨⟨⟨⟨⟨⟨⟨⟨⟨⟨⟨⟨⟨⟨⟨⟨⟨⟨⟨⟨⟨⟨⟨⟨⟨t0,s0⟩,t1⟩,m2⟩,t2⟩,m0⟩,t3⟩,m3⟩,t4⟩,s4⟩,t5⟩,s5⟩,s5'⟩,t6⟩,s6⟩,e0⟩,e1⟩,e2⟩,e3⟩,e4⟩,e5⟩,e6⟩,g0⟩,g1⟩,g2⟩,g3⟩,g4⟩,g5⟩,g6⟩:=Cj;have XI:qb < w0.heap.size:=(by rcases Nat.lt_or_ge qb w0.heap.size with h | h;exact h;exact absurd hcell (by unfold World.cell?;rw[Array.getElem?_eq_none h];simp))
 have wh:∀ {y w1 gG w},ai w0 w1->Post y w1 gG->ai gG w->w.cell? ⟨qb,k,none⟩=some lv/\aH f e size w base lv l/\w0.heap.size<=w.heap.size:=by
  intro y w1 gG w ha hb hc;have hg:=SQ _ _ _ hb;have z1:qb < w1.heap.size:=Nat.lt_of_lt_of_le XI ha.size;have z2:qb < gG.heap.size:=Nat.lt_of_lt_of_le z1 hg.size;refine⟨?_,?_,Nat.le_trans ha.size (Nat.le_trans hg.size hc.size)⟩
  ·rw[hc.cell (p:=⟨qb,k,none⟩) z2,po hg (p:=⟨qb,k,none⟩) z1 (λ e=>Ub Tbf),ha.cell (p:=⟨qb,k,none⟩) XI];exact hcell
  ·exact((hown.later ha).grown hg XH).later hc
 exact Kar):p:=h
theorem ZaW(h:p:=by
 simp only[take_succ_cons,take_zero];refine⟨?_,Zab,Zab,Zab,Zcf,?_,Zab,Zab,Zab,Zab,?_,trivial⟩
 ·intro ρ w3 hc hL hr;have h0:_=_:=hr.1;have jq:=(k1.later hL).cell;have y0:=jq 0;have y1:=jq 1;have y2:=jq 2;have y3:=jq 3;have y4:=jq 4;have y5:=jq 5;have y6:=jq 6;exact Zee
 ·intro ρ w3 hc hL hr;have h0:_=_:=hr.1;have h1:_=_:=hr.2.1;have e1:=hc.func 59;refine bw (f:=59) (args:= #[.agg (ay y),cV]) (w':=w3) Tao ?_;exact Zf3
 ·exact Zab):p:=h
theorem zgk.KbE(h:p:=by have wk:=aa (nk D s Kx f Tq Tq);generalize bc D s Kx f=R at*;go_wp2_with fail;refine(IH.ae a s mid R _ Tq Tq Tq Tq H3.ae Q1.ae HFN.ae).mono ?_;rintro e_ w6 ⟨rfl,E,hs,hw,ho⟩;have H4:=aa hs;have HW:=aa hw;have HO:=aa ho;clear hs hw ho H3;exact Zaj):p:=h
theorem zhk.KbZ(h:p:=by have u1_:decide (Kx < f)=true:=decide_eq_true k1;have u2_:decide (a < s)=true:=decide_eq_true k2;have u3_:decide (s < mid)=true:=decide_eq_true k3;have u4_:decide (mid < f)=true:=decide_eq_true k4;have u5_:decide (f < b)=true:=decide_eq_true k5;open zgk in exact Zeq):p:=h
theorem ZaX(h:p:=by
 clear HS;obtain⟨i,j,px,hi,hj,EL,rfl,rfl,hs⟩:=hrel;have H2:=aa hs;clear hs;by_cases hlt:i < j
 ·exact Zaa
 ·open zhk in exact Zfn):p:=h
theorem ZaY(h:p:=by
 intro ρ w3 hc hL hr;cases gd
 ·exact Zf4
 ·skip;cases nz
  ·exact ZcK
  ·skip;intro hg;have hg:ρ (.tmp 26)=.bool true:=hg;exact Zak):p:=h
theorem zey.KaY(h:p:=by exact bodyPost_ret (v:=.tuple #[.agg #[ag 0,af 0,.string ByteArray.empty],af 40]) Tac rfl ⟨congrArg (λ r:Val×Int=>Ending.returned (bQ r.1 r.2)) NX.ae.symm,((hB.setCell bJ _).setCell bJ _).setCell bJ _⟩):p:=h
theorem ZaZ(h:p:=by have NX:=aa (NI.ae (aN,40) (by unfold iN;simp only[map_cons,map_nil];rw[sZ.ae,hs,if_pos rfl]));open zey in exact Zcw):p:=h
theorem Za0(h:p:=by simp only[execOp,resolve,invoke,builtin,Sem.run_bind,Sem.run_pure,Result.andThen_ok,map_toArray,map_cons,map_nil,vC,Bd,mY]):p:=h
theorem Za1(h:p:=by
 go_wp2_with fail;refine hi.mono ?_;rintro e w1 ⟨rfl,b1⟩;clear hi;by_cases h:0<=fT (args.map (·.2))
 ·have t1:=decide_eq_true h;go_wp2_with fail;go_ret;exact⟨by rw[t1];rfl,b1⟩
 ·have t1:=decide_eq_false h;go_wp2_with fail;go_ret;exact⟨by rw[t1];rfl,b1⟩):p:=h
theorem Za2(h:p:=by simp[intOf];omega):p:=h
theorem Za3(h:p:=by refine⟨rfl,?_⟩;unfold qB at hG;rw[if_neg WC];show(execOp ρ _).run Tryz.prog w9a=.ok (.value (aw gp)) w9a;simp[go_sem,r0]):p:=h
theorem zgm.KbE(h:p:=by have wk:=aa (nk D s Kx f Tq Tq);exact Zam):p:=h
theorem ze4.Ka8(h:p:=by have u5_:decide (f < b)=false:=decide_eq_false k5;open zgm in exact Zeq):p:=h
theorem Za4(h:p:=by
 clear HS;obtain⟨i,j,px,hi,hj,EL,rfl,rfl,hs⟩:=hrel;have H2:=aa hs;clear hs;by_cases hlt:i < j
 ·exact Zaa
 ·open ze4 in exact ZcY):p:=h
theorem Za5(h:p:=by simp[results,Tryz.results42,go_sem,y0,y1,y2,y3,o4,o5]):p:=h
theorem Za6(h:p:=by
 refine(FU (s.extract at_ k) _ (by rw[ByteArray.size_extract];omega)).mono ?_;rintro e w1 ⟨rfl,b1⟩;have HE:=aa (show(s.extract at_ k).data.toList=(s.data.toList.drop at_).takeWhile eP by rw[<- mK.ae];exact mV eP s at_);obtain⟨z0,z1,z2,z3,y0,y1,y2,y3⟩:=bO (HZ.ae.later b1);rw[HE.ae];go_wp2_with fail;refine bodyPost_ret (v:=.tuple #[.agg #[ag 1,.string ⟨(((s.data.toList.drop at_).takeWhile eP).map vQ).toArray⟩,af 0,af at_],af k,af 0]) ZbH rfl ?_
 ·rw[HC.ae,mK.ae,if_pos h32];unfold zQ;simp only;rw[vU eP s Tq,mK.ae];exact⟨rfl,vV (bb.trans (b1.mono bb.size)) (Nat.le_refl _) _ _ _ _⟩):p:=h
theorem Za7(h:p:=by
 simp only[take_succ_cons,take_zero];refine⟨Zab,Zab,Zab,?_,ZfE,Zab,Zab,Zab,?_,trivial⟩
 ·intro ρ w3 hc hL hr;have h0:_=_:=hr.1;have h1:_=_:=hr.2.1;exact aq (v:=ba lb j) (w':=w3) (by have vk:=HJL.ae;simp[go_sem,h0,h1,vk,dC];done) ⟨ai.refl _,rfl⟩
 ·exact ZfS):p:=h
theorem zdM.KaJ(h:p:=by go_wp2_with fail;have gX:=uC.ae.blk;unfold PC.cells at gX;have c8:=gX.cell 8;simp only[Uaa] at c8;refine(Tr.Ls (by have:=iV.ae.cl;omega) gp t z w2 kE.ae (CQ.ae.later uC.ae.base) ((iV.ae.cols.later uC.ae.base)) gX.lt c8).mono ?_;rintro e w3 ⟨rfl,hb3⟩;have Mx:=aa (uC.ae.later hb3);have Eg:=aa (AB.ae.later hb3);have My:=XP.ae.later hb3;have tD:=aa (ai.then fG.ae hb3);clear z0 z1 x2 x3 x4 x5 x6 c8 gX hb3 AB XP fG uC;rw[ht];dsimp only;exact Kas):p:=h
theorem zfM.Kbq(h:p:=by rw[CT,ha] at px;have HIS:=aa px;have Vr:=aa CT;clear c4 c8 c10 hb1 hf px CT HX uX;go_wp2_with fail;have Vz:=aa kI;have KK:=aa tC;have hop:=Vr.ae;rw[hop];refine(HIS.ae w1).mono ?_;rintro e w2 ⟨rfl,hb2⟩;rw[<- hop];have uC:=aa (CS.ae.later hb2);have hb:=Vz.ae.later hb2;have XP:=aa (KK.ae.later hb2);have fG:=aa (ai.then zN.ae (ai.then eL.ae hb2));clear hxo kI tC hb2 hop Vz KK eL CS;open zdM in exact Zb0):p:=h
theorem Za8(h:p:=by open zfM in exact ZdW):p:=h
theorem zgR.KbN(h:p:=by exact Kat):p:=h
theorem Za9(h:p:=by open zgR in exact ZeE):p:=h
theorem Zba(h:p:=by have HE:=aa hr;clear hr;have dw:=aG hR;have gV:=aB.frozen hR;clear hR;go_wp2_with fail;exact bodyPost_ret (v:=.tuple #[.agg (aD r.1),af r.2]) (by simp[results,Tryz.results167,go_sem,dw]) rfl ⟨by rw[HE.ae];rfl,((hB.setCell (bJ) _).setCell (bJ) _).setCell (bJ) _⟩):p:=h
theorem zeI.Ka0(h:p:=by
 have hsm:=h.small;unfold qm at*;unfold dv.ptr;go_enter Tryz.func184,Tryz.ntmps184;go_wp2_with (first
  |(go_at_call 184;refine(H1 ρ _ h0).mono ?_;rintro e w2 ⟨y,rfl,ht,d2⟩;unfold mz bF))
 have hA:AtC ρ w w.heap.size w2.heap.size (w2.alloc (ur y)) _ t y:=
  ⟨((eE.cZ h hb).trans d2).later (ah _ _),aB.new w2 _ _,(d2.blk HQ.ae Tq).alloc _,Tr.at_.keep (Pq _ (by rw[hsz];exact Nat.le_refl _)) _ _ ht⟩
 have hqx:w.heap.size+1<=w2.heap.size:=by have:=d2.size;omega
 unfold ur bF at hA;generalize w2.alloc _=W at*;generalize w2.heap.size=qx at*;have A:=hA;clear hA ht d2 h0 hb HQ;have Ih:=cj ρ W _ false A.did.at_ ⟨#[105,115]⟩ px;have ahN:=aa hop;clear hop px;refine Ih.mono ?_;rintro e w1 ⟨rfl,d1⟩;replace A:=A.more d1 Tq Tq;clear d1 Ih;go_wp2_with fail;have HA:=aa A;clear A;exact Kau):p:=h
theorem Zbb(h:p:=by intro ρ w h;have H1:=H;clear H;open zeI in exact ZcA):p:=h
theorem Zbc(h:p:=by have NZ:=aa tS;have rC:=aa mB;clear h hF ih q1 q2 q3 q4 q5 gh hp hf tS mB;go_enter Tryz.func106,Tryz.ntmps106;go_wp2_with fail;clear t0 t1 zm zp zs;exact Kav):p:=h
theorem zgF.KbJ(h:p:=by have oC:=aa Az;have G6:=aa TG;have Aa:=aa D9;have HJ:=aa hz;have GX:=aa ND;exact Kaw):p:=h
theorem Zbd(h:p:=by open zgF in exact Zew):p:=h
theorem Zbe(h:p:=by rw[js] at hex;clear js;have gj:=HE.ae args[k] (getElem_mem hlt);have HT:=aa (show args.take (k+1)=args.take k++ [args[k]] by rw[take_add_one,getElem?_eq_getElem hlt];rfl);generalize args[k]=yv at*;obtain⟨y,v⟩:=yv;dsimp only at*;unfold ck at hex;exact Kax):p:=h
theorem Zbf(h:p:=by rw[bg] at UR;have IB:=aa UR;clear UR;go_wp2_with fail;refine(IB.ae _).mono ?_;rintro e w2 ⟨rfl,b3⟩;clear z0 z1 x2 x3 x5 x6 x0 x1 z2 z3 z4 z5 y0 y1 y2 y3 o4 o5 rf;replace k1:=k1.later b3;replace hR:=hR.later b3;replace cK:=cK.later b3;replace hB:=ai.then hB b3;replace HX:=aa (HX.ae.later b3);clear b3;have z0:=k1.cell 0;have z1:=k1.cell 1;have x2:=k1.cell 2;have x3:=k1.cell 3;have x5:=k1.cell 5;have x6:=k1.cell 6;have x0:=hR.cell 0;have x1:=hR.cell 1;have z2:=hR.cell 2;have z3:=hR.cell 3;have z4:=hR.cell 4;have z5:=hR.cell 5;have y0:=cK.cell 0;have y1:=cK.cell 1;have y2:=cK.cell 2;have y3:=cK.cell 3;have o4:=cK.cell 4;have o5:=cK.cell 5;have rf:=cK.frozen;unfold cJ at x0 x1 z2 z3 z4 z5;simp only[Uaa] at z0 z1 x2 x3 x5 x6 x0 x1 z2 z3 z4 z5 y0 y1 y2 y3 o4 o5;exact Kay):p:=h
theorem Zbg(h:p:=by have x0:=hR.cell 0;have x1:=hR.cell 1;have z6:=hR.cell 6;have y0:=cK.cell 0;have y1:=cK.cell 1;have y2:=cK.cell 2;have y3:=cK.cell 3;have o4:=cK.cell 4;have o5:=cK.cell 5;simp only[Uaa] at x0 x1 z6 y0 y1 y2 y3 o4 o5;go_wp2_with fail;exact Kaz):p:=h
theorem Zbh(h:p:=by
 go_wp2_with fail;refine(fE x.op _).mono ?_;rintro e w9 ⟨rfl,rfl⟩;by_cases hn:(x.n:Int)=nr x.op
 ·have t1:((x.n:Int)==nr x.op)=true:=by simpa using hn
  have pV:=aa (show bP x=42 by simp only[bP];rw[if_neg Tai,if_neg Tai,if_pos hn]);exact Zbz
 ·have t1:((x.n:Int)==nr x.op)=false:=by simpa using hn
  have pV:=aa (show bP x=21 by simp only[bP];rw[if_neg Tai,if_neg Tai,if_neg hn]);exact ZbA):p:=h
theorem Zbi(h:p:=by rintro e4 w4 ⟨rfl,b4⟩;exact⟨_,rfl,b4,rfl⟩):p:=h
theorem Zbj(h:p:=by refine wpQuiet_nil ?_;rintro w3 ⟨y2,fF⟩;have hL:=y2.h;rw[<- fF] at hL;clear fF y2 cV cU cQ;replace hR:=hR.later hL;replace hB:=ai.then hB hL;exact KaA):p:=h
theorem zeD.KaZ(h:p:=by exact Zee):p:=h
theorem Zbk(h:p:=by open zeD in exact Zcx):p:=h
theorem zgw.KbH(h:p:=by clear x6;exact KaB):p:=h
theorem zfY.Kbu(h:p:=by rw[<- hg] at HX ⊢;clear hg;have HA:=aa Zf;have Zq:=aa Zp;have BN:=aa Iz;have HE:=aa hE;clear Zf Zp Iz hE;open zgw in exact Zeu):p:=h
theorem Zbl(h:p:=by have HX:=aB.new w 46 #[ag op,ag xv.k,af xv.n,.string xv.s,.string name,af width,.slice A n c];have hB:=ah w (.cells #[ag op,ag xv.k,af xv.n,.string xv.s,.string name,af width,.slice A n c] 46);have Zp:=(hB.cell (p:=⟨gp,8,none⟩) sB).trans Zo;have Iz:=Nat.lt_of_lt_of_le sB hB.size;have Zf:=hA.later hB;clear hA Zo sB;go_enter Tryz.func153,Tryz.ntmps153;open zfY in exact Zd7):p:=h
theorem Zbm(h:p:=by
 refine qG aZ hz 0 zs rfl listed a w I.len ?_ hK;intro i hi;constructor
 ·intro hl;rcases Nat.lt_or_ge i l.length with h' | h'
  ·omega
  ·rw[I.tail i h'] at hl;cases hl
 ·intro hl;exact hall i Tq):p:=h
theorem Zbn(h:p:=by
 simp only[take_succ_cons,take_zero];refine⟨Zab,Zab,Zab,?_,?_,Zab,Zab,?_,trivial⟩
 ·intro ρ w3 hc hL hr;have h0:_=_:=hr.1;have h1:_=_:=hr.2.1;exact aq (w':=w3) (by simp[go_sem,h0,h1,IntKind.wrap_i64];omega) ⟨ai.refl _,rfl⟩
 ·intro ρ w3 hc hL hr;have h0:_=_:=hr.1;have h1:_=_:=hr.2.1;have hs:=EF w3;exact ZcQ
 ·intro ρ w3 hc hL hr;have h0:_=_:=hr.1;have h1:_=_:=hr.2.1;have hs:=Qk w3;exact ZcQ):p:=h
theorem Zbo(h:p:=by intro ρ w3 hc hL hr;have h0:_=_:=hr.1;have jq:=(Q3.ae.later hL).cell 0;simp only[getElem?_toArray,getElem?_cons_zero] at jq;exact ZdD):p:=h
theorem zgT.KbO(h:p:=by have HWR:=aa hwr;have PE:=aa hpl;have HG:=aa hg;have LK:=aa cf;clear hwr hpl hg cf uq;rw[PD];exact KaC):p:=h
theorem Zbp(h:p:=by obtain⟨t,pl,bd,hpl,hlt,hsm,uq,cf,hg,Ij,uV,hp⟩:=h.vZ;have yJ:=hp.later (ah w pX);have LJ:=hp.later ((ah w (.cells (dF t) 172)).drew);have hb:=(ah w (.cells (dF t) 172)).drew;have HT:=(aB.new w 172 (dF t)).drew;have HB:=aa HT;have HF:=aa (h.later hb);have HD:=aa (eE.cZ h hb);have nY:=(h.later hb).facts.2.2.2.2.1;have PD:ρ.ptr=aw ρ.g:=rfl;have hwr:=pn ρ _ σ big (h.later hb);have hlf:=h.left;have dZ:=h.FW;clear h;open zgT in exact ZeF):p:=h
theorem Zbq(h:p:=by
 have hp:=Array.swap_perm (xs:=((List.range n).map D).toArray) (i:=i) (j:=j) Tau (by simpa using hj)
 have e:((List.range n).map (swp D i j)).toArray=((List.range n).map D).toArray.swap i j Tau (by simpa using hj):=by
  apply Array.ext
  ·simp
  ·intro k h1 h2;have hk:k < n:=by simpa using h1
   rw[Array.getElem_swap];simp only[getElem_toArray,getElem_map,getElem_range];unfold swp;exact ZeJ
 have:=e▸hp;exact Array.perm_iff_toList_perm.1 this):p:=h
theorem Zbr(h:p:=by skip;intro hg;have hg:ρ (.tmp 22)=.bool true:=hg;exact Zao):p:=h
theorem Zbs(h:p:=by go_enter Tryz.func144,Tryz.ntmps144;go_wp2_with fail;go_ret;exact⟨by rw[HQ.ae];rfl,by go_grown⟩):p:=h
theorem Zbt(h:p:=by
 rcases Bk with rfl |⟨pp,rfl⟩
 ·have Am:eY (ar f0 #[.agg #[ag op,ag xv.k,af xv.n,.string xv.s,.string name,af width,.slice A 2 c],.slice A8 2 c8] _ _):=Eb.ae;exact Ze1
 ·have Am:eY (ar f0 #[.agg #[ag op,ag xv.k,af xv.n,.string xv.s,.string name,af width,.slice A 2 c],.slice A8 2 c8,pp] _ _):=Eb.ae;exact Ze1):p:=h
theorem Zbu(h:p:=by
 rcases Bk with rfl |⟨pp,rfl⟩
 ·have Am:eY (ar f0 #[.agg #[ag op,ag xv.k,af xv.n,.string xv.s,.string name,af width,.slice A 1 c],.slice A8 1 c8] _ _):=Eb.ae;exact Ze8
 ·have Am:eY (ar f0 #[.agg #[ag op,ag xv.k,af xv.n,.string xv.s,.string name,af width,.slice A 1 c],.slice A8 1 c8,pp] _ _):=Eb.ae;exact Ze8):p:=h
theorem Zbv(h:p:=by go_ret;exact Zft):p:=h
theorem Zbw(h:p:=by have z0:=hb.cell 0;have z1:=hb.cell 1;have x2:=hb.cell 2;have x3:=hb.cell 3;have x4:=hb.cell 4;have x5:=hb.cell 5;have x6:=hb.cell 6;simp only[bF,Uaa] at z0 z1 x2 x3 x4 x5 x6;exact KaD):p:=h
theorem Zbx(h:p:=by
 go_enter Tryz.func44,Tryz.ntmps44;go_wp2
 all_goals
  go_ret;refine⟨?_,by go_grown⟩;simp_all):p:=h
theorem Zby(h:p:=by
 intro vs w hl hG;have Ey:=Ck _ _ hG
 match vs,hl with
 | [a,s,v],_=>obtain⟨y,w1,gG,w2,ha,h2,h3,h4,h5,h6,h7,h8⟩:=hG;simp only[bD,e0,e1,e2,e3,e4,e5,e6];intro a0' p0 a1 p1 a2 p2 a3 p3 a4 p4 a5 p5 a6 p6;have z0:a0'=ba qb k:=p0;have z1:a1=lv:=p1;have z2:a2=ptr:=p2;have z3:some a=some a3:=p3;have z4:some s=some a4:=p4;have z5:some v=some a5:=p5;have z6:a6=ba qb k:=p6;injection z3 with z3;injection z4 with z4;injection z5 with z5;rw[z0,z1,z2,<- z3,<- z4,<- z5,z6,ha];exact mg y s v w1 gG w2 w h2 h3 h4 h5 h6 h7 h8 Ey):p:=h
theorem Zbz(h:p:=by
 go_wp2_with fail;refine bodyPost_ret (v:=.tuple #[.agg #[af a,ag wa,ag gi,.bool al,.bool nu,d],af 42]) Za5 rfl ?_
 ·exact ZaJ):p:=h
theorem ZbA(h:p:=by
 go_wp2_with fail;refine bodyPost_ret (v:=.tuple #[.agg #[af a,ag wa,ag gi,.bool al,.bool nu,d],af 21]) Za5 rfl ?_
 ·exact ZaJ):p:=h
theorem ZbB(h:p:=by skip;intro hg;have hg:ρ (.tmp 26)=undef:=hg;exact Zao):p:=h
theorem ZbC(h:p:=by obtain⟨q,h1,h2⟩:=h;exact⟨q,h1,hk _ _ _ h2⟩):p:=h
theorem ZbD(h:p:=by
 have HE:=aa he;have t1:(!y==n.toList)=true:=by rw[xO.ae];rw[beq_eq_false_iff_ne] at he;simp;exact λ e=>he e.symm
 clear he;go_wp2_with fail;go_roundw;case rel=>refine⟨k+1,by omega,by go_num,jN.ae,?_⟩;rw[Ee.ae,HST.ae,HE.ae];rfl
 case measure=>exact Za2):p:=h
theorem ZbE(h:p:=by go_wp2_with fail;go_ret;exact YES.ae _ eL.ae):p:=h
theorem ZbF(h:p:=by
 obtain⟨v',w',hr,ho,ha⟩:=eZ t ty z bytes ht jr hzs hsz hf h1 hown g0 hg0 hlen mI hbase;obtain⟨i0,kX,hz0,hz1,hz2⟩:=info_parts jr;obtain⟨v2,w2,hr2,_,_,h4⟩:=jd (P:=P) w base t ty e i0 z size bytes ht kX hz0 hz1 hz2 hzs hsz lv l.length (l.flatMap f) hown (g0+1) (some ⟨g0,0,none⟩) 1 1 (f y) ⟨by rw[hf];omega,λ _=>⟨_,rfl,Nat.lt_succ_self _,by
  intro j u hu
  have:(Addr.add ⟨g0,0,none⟩ j)=⟨g0,j,none⟩:=by unfold Addr.add;split <;> simp_all
  rw[this,hg0.cell]
  simpa using hu⟩⟩ h1 Taj hlen hbase
 rw[hr] at hr2;injection hr2 with e1 e2;subst e1 e2;exact KaE):p:=h
theorem ZbG(h:p:=by have HF:=jk ⟨by omega,by omega⟩ Q5.ae HW.ae .refl HO.ae H6.ae;have xi:=aa HF.1;have qu:=aa ((wk.ae.mono Tq Tq).trans HF.2);exact bodyPost_ret (v:=.tuple #[]) TaF rfl ⟨rfl,E,H4.ae,qu.ae,xi.ae⟩):p:=h
theorem ZbH(h:p:=by simp[results,Tryz.results132,go_sem,z0,z1,z2,z3]):p:=h
theorem ZbI(h:p:=by
 rw[length_set,Mz hf y l i rW];simp only[toList_toArray,size_toArray,hf];rw[<- ht,take_take,Nat.min_eq_left Tq,drop_take];have hA:(cur.toList.take (i*size)).length=i*size:=by rw[length_take,Array.length_toList];omega
 have hF:(f y).length=size:=hf y;rw[append_assoc,take_append,hA,take_of_length_le (by rw[hA];omega),take_append,hF,take_of_length_le (l:=f y) (by rw[hF];omega),append_assoc,Nat.sub_sub]):p:=h
theorem ZbJ(h:p:=by
 have t1:(op==1)=false:=by simpa using h1
 have Bj:op≠2:=by
  intro e2;rcases Hx.ae with h | h
  ·exact h e2
  ·exact h (se mK.ae e2)
 have t2:(op==2)=false:=by simpa using Bj
 obtain⟨Hz,nt,hwd⟩:=Bf mK.ae Bj h1;clear Bj;dsimp only at Hz nt hwd;have agS:3<=op/\op<=20:=by simpa [kJ] using Hz
 have Sc:((op.toNat:Nat):Int)=op:=by omega
 have hOp:gw (W3.alloc (.cells #[af a,ag wa,ag gi,.bool al,.bool nu,d] 100)) op.toNat (.agg (cJ a wa gi al nu d)):=by
  rcases HOI.ae with ⟨_,h⟩|⟨h,_⟩
  ·exact h
  ·dsimp only at h;rw[Hz] at h;cases h
 have Ia:=hOp.fields;exact KaF):p:=h
theorem ZbK(h:p:=by have z0:=VX.cell 0;have z1:=VX.cell 1;have x2:=VX.cell 2;have f0:=VX.frozen 0;have f1:=VX.frozen 1;have f2:=VX.frozen 2;simp only[Uaa] at z0 z1 x2;exact KaG):p:=h
theorem ZbL(h:p:=by
 rw[if_neg Tq,if_neg Tq,if_neg Tq,if_pos Tq];unfold St.alone;split
 ·exact Zfy
 ·rename_i hk;obtain⟨r1,r2,r3,r4⟩:=su { s with all:=s.all+1 } x.1 aN;exact ZeH):p:=h
theorem ZbM(h:p:=by
 rw[if_neg Tq,if_neg Tq,if_neg Tq,if_neg Tq];unfold St.Bw;split
 ·rename_i hk;obtain⟨r1,r2,r3,r4⟩:=su { s with all:=s.all+1 } x.1 x.2;exact ZeH
 ·exact Zfy):p:=h
theorem ZbN(h:p:=by
 by_cases h0:bI v v'=0
 ·have t0:(bI v v' != 0)=false:=by simpa using h0
  have HD':=aa ((HS.ae.trans (if_pos h0)).symm.trans HD.ae);clear h0;go_wp2_with fail;go_roundw;case rel=>exact⟨k+1,hlt,BC,by go_num,HD'.ae,hB⟩
  case measure=>exact Za2
 ·have t0:(bI v v' != 0)=true:=by simpa using h0
  have HD':=aa ((HS.ae.trans (if_neg h0)).symm.trans HD.ae);clear h0;go_wp2_with fail;go_ret;exact⟨by rw[HD'.ae];rfl,hB⟩):p:=h
theorem ZbO(h:p:=by have h0:_=_:=hr.1;exact aq (w':=w3) Tae ⟨ai.refl _,rfl⟩):p:=h
theorem ZbP(h:p:=by exact aq (v:=v') (w':=w') (by simp only[execOp,resolve,invoke,builtin,Sem.run_bind,Sem.run_pure,Result.andThen_ok,map_toArray,map_cons,map_nil,h0,h1,hrun]) ⟨yF,_,rfl,ho,Ew.later hL.grown.size⟩):p:=h
theorem ZbQ(h:p:=by exact aq (w':=w3) (by simp[go_sem,h0,c0,<- IH.ae];done) ⟨ai.refl _,rfl⟩):p:=h
theorem zeE.KaZ(h:p:=by have x7:=cK.cell 7;simp only[Uaa] at y0 y1 y2 y3 y4 y5 y6 x7;exact aq (w':=w3) (by simp[go_sem,h0,y0,y1,y2,y3,y4,y5,y6,x7];done) ⟨ai.refl _,rfl⟩):p:=h
theorem ZbR(h:p:=by intro ρ w3 hc hL hr;have h0:_=_:=hr.1;have cK:=HX.ae.later hL;open zeE in exact Zcx):p:=h
theorem ZbS(h:p:=by intro ρ w3 hc hL hr;intro hg;have hg:ρ (.tmp 45)=.bool true:=hg;refine⟨λ _=>?_,λ hn=>absurd hg hn⟩;exact KaH):p:=h
theorem ZbT(h:p:=by
 intro vs w h
 match vs,h with
 | [],h=>rw[ai.cell h (p:=⟨qb,k,none⟩) XI];exact hcell
 | [a],⟨y,w1,gG,_,h2,h3,h4⟩=>exact(wh h2 h3 h4).1
 | [a,s],⟨y,w1,gG,_,_,_,h2,h3,h4,_⟩=>exact(wh h2 h3 h4).1
 | [a,s,v],⟨y,w1,gG,w2,_,h2,h3,h4,_,h6,_,_⟩=>obtain⟨k1,_,k3⟩:=wh h2 h3 h4;rw[po h6 (p:=⟨qb,k,none⟩) (Nat.lt_of_lt_of_le XI k3) (λ e=>hlq e.symm)];exact k1
 | _::_::_::_::_,h=>exact h.elim):p:=h
theorem ZbU(h:p:=by rintro e w4 ⟨rfl,d4⟩;go_wp2_with fail;refine(Cm HF.ae IH.ae ρ _ d4.at_).mono ?_;rintro e w5 ⟨n,hn,rfl,d5⟩;have HN:=aa hn;clear hn;go_wp2_with fail;have hwd:=lL ρ _ _ false d5.at_ ⟨#[40]⟩;exact KaI):p:=h
theorem ZbV(h:p:=by
 intro ρ w vs hc hG hr;rw[t4] at hr;have r0:=hr.1;simp only[s4] at r0;refine⟨g4,?_⟩;show vs.length=1->_;intro hl
 match vs,hl with
 | [a],_=>have r0:some a=some (ρ (.tmp d3)):=r0;injection r0 with r0;obtain⟨y,w1,gG,ha,h2,h3,h4⟩:=hG;refine aq (JY ρ w y (r0.symm.trans ha)) ?_;exact⟨y,w1,gG,w.heap.size,ha,rfl,h2,h3,h4.trans ((Below.refl _ _).alloc (Nat.le_refl _) _),aB.new w e _⟩):p:=h
theorem ZbW(h:p:=by
 go_wp2_with fail;refine bodyPost_ret (v:=.tuple #[.agg #[af a,ag wa,ag gi,.bool al,.bool nu,d],af 0]) Za5 rfl ?_
 ·exact ZaJ):p:=h
theorem ZbX(h:p:=by exact⟨s0,r0,by omega,by omega,by omega,by omega,by rw[NZ.ae],by rw[rC.ae],HS.ae⟩):p:=h
theorem ZbY(h:p:=by
 go_roundw
 case rel=>
  refine⟨k+1,dL++ [nl],hlt,by go_num,O4.ae,?_,?_,by simp;exact zP.ae,?_,Ly.ae⟩
  ·intro x hx;rcases List.mem_append.1 hx with hx | hx
   ·exact RW4.ae x hx
   ·rw[mem_singleton] at hx;subst hx;exact⟨N41.ae,N42.ae,HN8.ae.2.2⟩
  ·rw[AJ.ae,AL.ae,map_append,HP.ae];show _++ [Ng nl]=_++ [_];rw[Qg.ae]
  ·rw[qu.ae];exact B4.ae
 case measure=>exact Za2):p:=h
theorem ZbZ(h:p:=by
 generalize bc D s Kx f=R at*;have H6:cD R a mid:=by exact ZfL
 obtain⟨E,hE⟩:∃E,E=R:=⟨_,rfl⟩;have H4:=aa (show SS w0 g n _ E by rw[hE];exact H3.ae);have HW:=aa (show Sw a mid R E by rw[hE];exact .refl);have HO:=aa (show cD E a mid by rw[hE];exact H6);clear hE H6 H3;exact Zaj):p:=h
theorem Zb0(h:p:=by have z0:=hb.cell 0;have z1:=hb.cell 1;have x2:=hb.cell 2;have x3:=hb.cell 3;have x4:=hb.cell 4;have x5:=hb.cell 5;have x6:=hb.cell 6;simp only[Uaa] at z0 z1 x2 x3 x4 x5 x6;have AB:=aa hb;clear hb;exact KaJ):p:=h
theorem ze2.Ka7(h:p:=by exact KaK):p:=h
theorem Zb1(h:p:=by simp only[Uab];open ze2 in exact ZcX):p:=h
theorem zgU.KbO(h:p:=by go_enter Tryz.func199,Tryz.ntmps199;go_wp2_with fail;go_region;clear c0 c1 c2 d0 d1 d2 d3 y0 y1 y2 z0 z1 z2 z3 x0 v0 v1 v2 v3;obtain⟨u0,u1,u2,u3,_⟩:=bO HT;have xN:=aa HT;clear HT;unfold dF at u0 u1 u2 u3 hb3 x1 x2 nY KK xN HD mX Cn;generalize World.drew _=W at*;exact KaL):p:=h
theorem Zb2(h:p:=by have PE:=aa hpl;clear h hpl Kx cf uq mY h0 hb HQ;open zgU in exact ZeF):p:=h
theorem Zb3(h:p:=by exact⟨rfl,vV bb (Nat.le_refl _) _ _ _ _⟩):p:=h
theorem Zb4(h:p:=by obtain⟨x0,x1,h1,f0⟩:=h;exact⟨x0,x1,h1,f0.later hl⟩):p:=h
theorem Zb5(h:p:=by intro ρ w3 hc hL hr;have h0:_=_:=hr.1;exact aq (v:=aw gp) (w':=w3) Tae ⟨AR.refl _,rfl⟩):p:=h
theorem Zb6(h:p:=by
 rcases h with h |⟨b,off,h1,h2,h3⟩
 ·subst h;simp at hk
 ·exact⟨b,off,h1,h2,h3 k _ (getElem?_eq_getElem hk)⟩):p:=h
theorem Zb7(h:p:=by
 rw[if_neg (by rw[hf];simp),agX];dsimp only;by_cases Hy:bP ⟨op,xv,name,width,none,args.length,0⟩=0
 ·simp only[Hy,ne_eq,not_true_eq_false,↓reduceIte];by_cases h1:op=1
  ·simp only[h1,↓reduceIte]
  ·simp only[h1,↓reduceIte];rw[if_neg];intro ho;exact h2 ⟨ho,se (l:=args) Hy ho⟩
 ·simp only[Hy,ne_eq,not_false_eq_true,↓reduceIte]):p:=h
theorem Zb8(h:p:=by
 go_wp2_with fail
 all_goals
  go_ret;refine⟨?_,rfl⟩;try simp_all
  try rfl):p:=h
theorem Zb9(h:p:=by intro ρ' w' h';simp[go_sem,h']):p:=h
theorem Zca(h:p:=by go_wp2_with (go_at_call 104;refine(jG _).mono ?_;rintro e w1 ⟨rfl,rfl⟩);go_ret;rw[HT.ae];exact⟨rfl,by go_grown⟩):p:=h
theorem Zcb(h:p:=by
 rcases hb.1 with h1 | h1
 ·have:=(p.rows i hi b e).1;omega
 ·match i with
  | 0=>exact(eu.1 hb.2).2.2.1 e
  | 1=>exact(eu.1 hb.2).2.2.2 e
  | 2=>have:=(h.f.rows 2 Tq b e).2.1;omega
  | 3=>have:=(h.f.rows 3 Tq b e).2.1;omega
  | 4=>have:=(h.f.rows 4 Tq b e).2.1;omega
  | n+5=>have:=(h.f.rows 5 Tq b e).2.1;omega):p:=h
theorem Zcc(h:p:=by
 go_wp2_with fail;have bx:=ah wr (.cells (ay y) 46);refine(gj _ (ai.then (ai.then HB.ae hW) bx)).mono ?_;rintro e w1 ⟨rfl,b1⟩;have KK:=ai.then hW (ai.then bx b1);clear bx hex gj b1;go_wp2_with fail;go_roundw;case rel=>refine⟨k+1,hlt,by go_num,?_,KK⟩;rw[HT.ae,map_append,map_singleton,xC,HM.ae]
 case measure=>exact Za2):p:=h
theorem Zcd(h:p:=by
 simp only[bK,fA,Tryz.f28,Option.getD_some] at key;have hK2:∀T:Array Value,T.size=252->T.getD 2 undef=aw g2->T.getD 4 undef=aw g4->T.getD 5 undef=aw g5->T.getD 6 undef=aw gp->K { tmps:=T,defers:=d } wr:=λ T hT h2 h4 h5 h6=>hK _ _ (key T hT h2 h4 h5 h6)
 clear hK key;go_wp2_with fail;refine hK2 _ ?_ ?_ ?_ ?_ ?_ <;> rfl):p:=h
theorem Zce(h:p:=by
 have hmf:∀(fn:Fn) (first cap:Array Value) (w:World),(Instr.makeFunc fn first cap).run Tryz.prog w=.ok (.func fn first cap) w:=λ _ _ _ _=>rfl
 exact KaM):p:=h
theorem Zcf(h:p:=by intro ρ w3 hc hL hr;have h0:_=_:=hr.1;have jq:=(hL.cell (p:=⟨gp,8,none⟩) QD.ae).trans NS.ae;exact ZdD):p:=h
theorem Zcg(h:p:=by
 have zE:k < n:=by have:=HN.ae;omega
 obtain⟨b,off,rfl,kG,hex⟩:=(HA.ae.below (Kx.trans (hb.mono Kx.size))).at_ (show k <(args.map (·.1)++bad::post).length by simp;omega);exact KaN):p:=h
theorem Zch(h:p:=by intro ρ w σ hc hG hr he hno;refine⟨rfl,?_⟩;unfold zv at hG;rw[if_pos WC];have pR:=hno WC;exact KaO):p:=h
theorem Zci(h:p:=by intro ρ w9a σ hc hG hr he hno;have r0:ρ (.tmp 6)=aw gp:=(show ρ (.tmp 6)=f 6 from hr.1).trans es0;exact Za3):p:=h
theorem Zcj(h:p:=by
 obtain⟨m,Ag⟩:∃m:Nat,m=(i+j)/ 2:=⟨_,rfl⟩;have zc:((i:Int)+(j:Int))/ 2=(m:Int):=by omega
 simp only[zc];have bU:i<=m:=by omega
 have TC:m < j:=by omega
 clear zc Ag;exact KaP):p:=h
theorem Zck(h:p:=by
 have hr:=IV _ _ s[i] (aB.new wr 5 #[ag (s[i].toNat:Int)]);have um:=aa (SF hc);clear hc;go_wp2_with fail;go_roundw;case rel=>refine⟨i+1,l++ [s[i]],by omega,by go_num,by rw[mf],by rw[length_append,HL.ae];rfl,?_,hb.trans ((ah wr _).mono hb.size)⟩;rw[HM.ae,HD.ae];simp[um.ae]
 case measure=>exact Za2):p:=h
theorem Zcl(h:p:=by
 have HE:=aa (show(s.extract at_ k).data.toList=(s.data.toList.drop at_).takeWhile bC by rw[<- mK.ae];exact mV bC s at_);have hx1:0 <(s.extract at_ k).size:=by have h1:=aml.ae;rw[<- HE.ae] at h1;simpa only[ByteArray.size_data,Array.length_toList] using h1
 have hx2:(s.extract at_ k).size<=4294967280:=by rw[ByteArray.size_extract];omega
 have HN:=aa (yU (s.extract at_ k) W (by rw[HE.ae];exact SD _) hx1 hx2);have SH:=aa (show(s.data.toList.drop at_).dropWhile bC=s.data.toList.drop k by rw[<- BX,mK.ae]);clear hx1 hx2;obtain⟨z0,z1,z2,z3,y0,y1,y2,y3⟩:=bO HZ.ae;exact KaQ):p:=h
theorem Zcm(h:p:=by have NX:=aa (NI.ae (aN,0) (by unfold iN;simp only[map_cons,map_nil];rw[sZ.ae,hs,if_neg Vb,if_pos (by have:=HGI.ae;simp_all)]));go_wp2_with fail;exact bodyPost_ret (v:=.tuple #[.agg #[ag 0,af 0,.string ByteArray.empty],af 0]) Tac rfl ⟨congrArg (λ r:Val×Int=>Ending.returned (bQ r.1 r.2)) NX.ae.symm,((hB.setCell bJ _).setCell bJ _).setCell bJ _⟩):p:=h
theorem Zcn(h:p:=by
 refine hwd.mono ?_;rintro e w6 ⟨rfl,b6⟩;have dd:=(((((HD.ae.trans d1).trans d2).trans d3).trans d4).trans d5).later b6;have zT:=(d5.blk (d4.blk (d3.blk (d2.blk (d1.blk mX.ae Tq) Tq) Tq) Tq) Tq).later b6;have hs6:w.heap.size+2<=w6.heap.size:=by have:=d1.size;have:=d2.size;have:=d3.size;have:=d4.size;have:=d5.size;have:=b6.size;omega
 have XJ:=aa dd;have PL:=aa zT;clear dd zT d1 d2 d3 d4 d5 b6 hwd KK HD mX xN u0 u1 u2 u3 x1 x2 nY hb3;exact KaR):p:=h
theorem Zco(h:p:=by
 refine bB 11 (Gy gp 10 VA s1.aL.length vc ty er Kx) (nd _ _ _ _ _ _ _ _) T8 T8 T8 ?_ ?_
 ·exact ZaR
 intro W3 hL;simp only[Uab];rintro a0 - a1 - a2 - a3 - a4 - a5 - a6 - a7 - a8 - _ rfl _ rfl;simp only[bD,Act.put,Uac];have Tm:=aa (Wc.ae.later hL);have Ad:=aa (HP.ae.later hL);exact KaS):p:=h
theorem Zcp(h:p:=by
 clear Ei sO GZ Oa zY TJ;have hk7:k < 1000000:=by have:=HFN.ae;have:=GX.ae;omega
 go_wp2_with fail;go_roundw;case rel=>exact⟨k+1,a,u',v',K7,yh++ [Kx],s2,eD++ [t2],hlt,by go_num,by
  have h:=T9.ae
  rw[NV.ae] at h
  exact h,ER.ae,by have:=AJ.ae;have:=HND.ae;have:=DB.ae;omega,by rw[length_append,qA.ae];rfl⟩
 case measure=>exact Za2):p:=h
theorem Zcq(h:p:=by go_wp2_with fail;refine wp_loop_rounds 3 ?_;rw[rounds_succ];go_wp2_with fail;refine(K1.ae _).mono ?_;rintro e w1 ⟨rfl,rfl⟩;go_wp2_with fail;rw[rounds_succ];go_wp2_with fail;exact KaT):p:=h
theorem Zcr(h:p:=by
 go_wp2_with fail;refine bodyPost_ret (v:=.tuple #[.agg #[ag 3,.string ⟨acc.toArray⟩,af 0,af at_],af ((k:Int)+1),af 0]) ZbH rfl ?_
 ·rw[rp.ae,HF.ae,cH HB.ae,HQ.ae,LB ahB.ae];unfold zQ;simp only;have e:s.size - (s.data.toList.drop (k+1)).length=k+1:=by rw[length_drop,HLEN.ae];omega
  rw[e];exact Zb3):p:=h
theorem Zcs(h:p:=by
 injection hv with e1 e2 e3;injection e1 with e1;injection e1 with e1 _ _;subst e1 e3;have fq:(i+1)*size<=l.length*size:=Nat.mul_le_mul_right _ rW;have hl2:l.length*size<=c*size:=Nat.mul_le_mul_right _ hn;rw[Nat.add_mul,Nat.one_mul] at fq;have pD:i*size+size<=cur.size:=by rw[hs];omega
 have hrun:=wD (P:=P) w q (i*size) e ty cur (f y).toArray hg (by rw[hi];simp[hf]) (by simpa [hf] using pD) h1;exact KaU):p:=h
theorem Zct(h:p:=by go_upto_region 1 with fail;generalize World.alloc (World.alloc w _) _=W at*;obtain⟨g3,kX⟩:∃g3,g3=w.heap.size:=⟨_,rfl⟩;obtain⟨g4,hg4⟩:∃g4,g4=w.heap.size+1:=⟨_,rfl⟩;rw[<- hg4] at HZ ⊢;rw[<- kX] at oB ⊢;have mE:=aa (show w.heap.size<=g4 by omega);have Jt:=aa (show w.heap.size<=g3 by omega);have HI:=aa kX;have Kg:=aa hg4;have HX:=aa oB;have uX:=aa HZ;clear kX hg4 oB HZ;exact KaV):p:=h
theorem Zcu(h:p:=by
 clear hlen;simp only[map_cons,map_nil,length_cons,length_nil,Nat.zero_add,Nat.reduceAdd] at*;have tM:=HKC.ae;clear HKC;rcases tM with tM |⟨g9,rfl,kK,tM⟩
 ·simp at tM
 exact KaW):p:=h
theorem zez.KaY(h:p:=by exact KaX):p:=h
theorem Zcv(h:p:=by subst hgi;open zez in exact Zcw):p:=h
theorem Zcw(h:p:=by have z0:=k1.cell 0;have z1:=k1.cell 1;have x2:=k1.cell 2;have x3:=k1.cell 3;have x4:=k1.cell 4;have x5:=k1.cell 5;have x6:=k1.cell 6;have x0:=hR.cell 0;have x1:=hR.cell 1;have z2:=hR.cell 2;have z3:=hR.cell 3;have z4:=hR.cell 4;have z5:=hR.cell 5;simp only[Uaa] at z0 z1 x2 x3 x4 x5 x6 x0 x1 z2 z3 z4 z5;have dw:=aG cK;have gV:=aB.frozen cK;go_wp2_with fail;exact KaY):p:=h
theorem Zcx(h:p:=by have y0:=cK.cell 0;have y1:=cK.cell 1;have y2:=cK.cell 2;have y3:=cK.cell 3;have y4:=cK.cell 4;have y5:=cK.cell 5;have y6:=cK.cell 6;exact KaZ):p:=h
theorem Zcy(h:p:=by
 rcases h with h |⟨b,off,h1,h2,h3⟩
 ·exact .inl h
 ·exact .inr ⟨b,off,h1,h2,λ i x hx=>(h3 i x hx).keep λ o=>hb.cell (p:=⟨b,o,none⟩) h2⟩):p:=h
theorem Zcz(h:p:=by skip;intro hg;have hg:ρ (.tmp 22)=.bool false:=hg;refine⟨λ _=>?_,λ hn=>absurd hg hn⟩;exact Zal):p:=h
theorem ZcA(h:p:=by
 have dZ:=h.FW;have hb:=ah w qm;have h0:=h.later hb;have HQ:=aa (aB.new w 46 #[ag 0,ag 0,af 0,au,au,af 0,az]);have hsz:(w.alloc qm).heap.size=w.heap.size+1:=by simp
 exact Ka0):p:=h
theorem ZcB(h:p:=by obtain⟨f,rfl⟩:=kU T hT;have h2:f 2=_:=h2;have h4:f 4=_:=h4;have h5:f 5=_:=h5;have h6:f 6=_:=h6;simp only[bS,h2,h4,h5,h6];clear h2 h4 h5 h6;clear h2 h4 h5 h6 hT;exact Ka1):p:=h
theorem ZcC(h:p:=by exact⟨s0,r0,by omega,by omega,by omega,by omega,by rfl,by rw[rC.ae],HS.ae⟩):p:=h
theorem ZcD(h:p:=by intro ρ w vs hc hG hr;rw[t3] at hr;have r0:=hr.1;simp only[m3] at r0;refine⟨g3,?_⟩;show vs.length=0->_;intro hl;obtain rfl:=eq_nil_of_length_eq_zero hl;refine bw (bU ρ w hc r0) ((lW w hG).mono ?_);rintro e' w' ⟨y,rfl,hp⟩;exact⟨_,rfl,y,w,w',rfl,hG,hp,ai.refl _⟩):p:=h
theorem ZcE(h:p:=by
 go_wp2_with fail;go_roundw;case rel=>exact⟨k+1,hlt,by go_num,HR.ae,hW⟩
 case measure=>exact Za2):p:=h
theorem ZcF(h:p:=by
 replace HC:=aa (HC.ae.later b3);clear b1 b3;have hst:=λ(u:Addr) (m:Mode) (w:World)=>run_store Tryz.prog w u .nilFunc m rfl
 unfold oH;have x0:=hR.cell 0;have x1:=hR.cell 1;have z2:=hR.cell 2;have z3:=hR.cell 3;have z4:=hR.cell 4;have z5:=hR.cell 5;have z6:=hR.cell 6;simp only[Uaa] at x0 x1 z2 z3 z4 z5 z6;exact Ka2):p:=h
theorem ZcG(h:p:=by
 have HV1:=aa Oh;clear Oh;go_wp2_with fail;go_roundw;case rel=>exact⟨k+1,hlt,by go_num,HN2.ae HV1.ae,ai.then hb hL⟩
 case measure=>exact Za2):p:=h
theorem ZcH(h:p:=by simp[results,Tryz.results199,go_sem,r0,r1,r2,r3,r4,r5,r6];rfl):p:=h
theorem ZcI(h:p:=by exact⟨0,Nat.zero_le _,rfl,aH.nil,Below.refl _ _⟩):p:=h
theorem ZcJ(h:p:=by
 go_wp2_with fail;refine bodyPost_ret (v:=.tuple #[.agg #[ag 0,au,af 0,af 0],af 0,af 30]) ZbH rfl ?_
 ·rw[rp.ae,pS.ae];exact Zb3):p:=h
theorem ZcK(h:p:=by skip;intro hg;have hg:ρ (.tmp 26)=.bool false:=hg;exact Zao):p:=h
theorem ZcL(h:p:=by
 intro e4 w4 h4;unfold rF at h4;rw[jM.ae] at h4
 cases res with
 | error er=>obtain⟨_,rfl,b4⟩:=h4;exact⟨_,rfl,b4,_,_,rfl,rfl,rfl⟩
 | ok l=>obtain⟨v4,rfl,o4,b4⟩:=h4;refine⟨_,rfl,b4,_,_,rfl,rfl,?_⟩;have o5:=o4.down hL.size;rw[<- BI.ae] at o5;exact o5):p:=h
theorem ZcM(h:p:=by
 obtain⟨a0,_,hc0⟩:=np 0 h0;have hsome:∃u,(f a0)[0]?=some u:=⟨(f a0)[0]'(by rw[hf];exact hK),getElem?_eq_getElem _⟩;obtain⟨u0,XB⟩:=hsome;have hlt:=jS ((hc0 0 hK).trans XB);obtain⟨b,off,spot⟩:=ad;have hs:spot=none:=by have:=hlt.2;simpa [Addr.add] using this
 subst hs;have hbl:b < w.heap.size:=by have:=hlt.1;simpa [Addr.add] using this
 exact Ka3):p:=h
theorem ZcN(h:p:=by exact aq (w':=w3) TaD ⟨ai.refl _,rfl⟩):p:=h
theorem ZcO(h:p:=by
 go_wp2_with fail;clear y0 y1 y2 y3 y4 y5 y6 Gu;generalize uD:World.setCell _ _ _=W9;have hR:aB W9 g4 46 dm:=by rw[<- uD];simpa using(((((((Qh.ae.aT 0 _).aT 1 _).aT 2 _).aT 3 _).aT 4 _).aT 5 _).aT 6 _)
 exact Ka4):p:=h
theorem ZcP(h:p:=by
 clear hk hb
 rcases hlv with rfl | rfl | rfl | rfl;all_goals
  generalize kO _ t.w=R at*;go_enter Tryz.func200,Tryz.ntmps200;go_wp2_with fail;all_goals
   go_ret;rw[HR.ae];refine⟨?_,ah w _⟩;refine mS ?_;simp[opsL,List.lookup,aho,Zy,Pn,sD,xG,IL,xH, *]):p:=h
theorem ZcQ(h:p:=by exact aq (w':=w3) (by simp[go_sem,h0,h1,hs];done) ⟨ai.refl _,rfl⟩):p:=h
theorem ZcR(h:p:=by go_wp2_with fail;have hB:=ai.then (ah w (.cells (ay x) 46)) (ah _ (.cells #[ag 0,af 0,au] 44));have hR:=aB.new (w.alloc (.cells (ay x) 46)) 44 #[ag 0,af 0,au];have hX:=(aB.new w 46 (ay x)).alloc (.cells #[ag 0,af 0,au] 44);rw[World.size_alloc] at hR;generalize vu:(w.alloc (.cells (ay x) 46)).alloc (.cells #[ag 0,af 0,au] 44)=W at*;clear vu;exact Ka5):p:=h
theorem zhe.KbW(h:p:=by clear js fJ HP;have gj:=Ib.ae;exact Ka6):p:=h
theorem ZcS(h:p:=by
 have fJ:k=args.length:=by omega
 have zE:k < n:=by have:=HN.ae;omega
 obtain⟨b,off,rfl,kG,hex⟩:=(HA.ae.below hb).at_ (show k <(args.map (·.1)++bad::post).length by simp;omega);open zhe in exact Zff):p:=h
theorem ZcT(h:p:=by
 rcases h1 with h |⟨b,off,e1,e2,e3⟩
 ·exact .inl h
 ·exact .inr ⟨b,off,e1,e2,e3⟩):p:=h
theorem ZcU(h:p:=by have h0:_=_:=hr.1;have jq:=aG (HG.later hL);exact aq (w':=w3) (by simp[go_sem,h0,jq.1,jq.2.1,jq.2.2];done) ⟨ai.refl _,rfl⟩):p:=h
theorem ZcV(h:p:=by
 rcases h with h |⟨b,off,h1,h2,h3,h4⟩
 ·exact .inl h
 ·refine .inr ⟨b,off,h1,Nat.lt_of_lt_of_le h2 hg.size,λ i x hx=>(h4 i x hx).keep λ o=>?_⟩;have hb:=hg.block b h2 (λ e=>h3 Tbf);unfold World.cell?;simp only[hb]):p:=h
theorem ZcW(h:p:=by intro ρ w3 hc hL hr;have e1:=hc.func 104;refine bw (f:=104) (args:= #[]) (w':=w3) (by simp[go_sem,e1]) ?_;refine(jG w3).mono ?_;rintro e w2 ⟨rfl,rfl⟩;exact⟨_,rfl,(Below.refl _ _).alloc (Nat.le_refl _) _,_,rfl,heap_alloc_new w3 _⟩):p:=h
theorem ZcX(h:p:=by
 repeat (go_big_quiet_step (fail))
 refine wpQuiet_nil ?_;rintro w3 ⟨y2,fF⟩;have hL:=y2.h;rw[<- fF] at hL;exact Ka7):p:=h
theorem zhm.KbZ(h:p:=by have u1_:decide (Kx < f)=true:=decide_eq_true k1;have u2_:decide (a < s)=false:=decide_eq_false k2;have u3_:decide (s < mid)=true:=decide_eq_true k3;have u4_:decide (mid < f)=true:=decide_eq_true k4;exact Ka8):p:=h
theorem ZcY(h:p:=by open zhm in exact Zfn):p:=h
theorem ZcZ(h:p:=by exact⟨rfl,((Below.refl _ _).alloc (Nat.le_refl _) _).trans (hL.mono Vb)⟩):p:=h
theorem Zc0(h:p:=by go_wp2_with fail;go_ret;exact⟨by rw[<- HD.ae,HS.ae];rfl,hB⟩):p:=h
theorem Zc1(h:p:=by have oB:=aB.new w 46 (ay z);have b1:=ah w (.cells (ay z) 46);have HZ:=aB.new (w.alloc (.cells (ay z) 46)) 46 dm;have b2:=ah (w.alloc (.cells (ay z) 46)) (.cells dm 46);replace oB:=oB.later b2;have bb:=ai.then b1 b2;rw[World.size_alloc] at HZ;have sR:=aa (oa.later bb);have zN:=aa bb;have gX:=sR.ae.blk;unfold PC.cells at gX;exact Ka9):p:=h
theorem Zc2(h:p:=by rintro e w1 ⟨rfl,b9⟩;go_wp2_with fail;go_ret;exact⟨rfl,ai.then HB.ae b9⟩):p:=h
theorem Zc3(h:p:=by clear gX;go_wp2_with fail;refine(XF.ae _).mono ?_;rintro e Kx ⟨rfl,b2⟩;go_wp2_with fail;exact bodyPost_ret (v:=.tuple #[ag 0,af 40]) Tal rfl ⟨rfl,ai.then (ai.then fG.ae b3) b2⟩):p:=h
theorem Zc4(h:p:=by exact aq (v:=We) (w':=w3) Tan ⟨ai.refl _,_,Wf,rfl,cK⟩):p:=h
theorem Zc5(h:p:=by rintro e w3 ⟨rfl,Lw⟩;clear z0 z1 x2 x3 x4 x5 x6 x0 x1 z2 z3 z4 z5 dw gV;replace k1:=k1.later Lw;replace hR:=hR.later Lw;replace cK:=cK.later Lw;replace hB:=ai.then hB Lw;replace Bi:=aa ((Bi.ae.below Lw).more (Lw).size);replace HDB:=aa (ai.then HDB.ae Lw);replace Ul:=(Lw.cell (p:=⟨g9,0,none⟩) vD).trans Ul;exact Kba):p:=h
theorem Zc6(h:p:=by go_wp2_with fail;exact Zbv):p:=h
theorem Zc7(h:p:=by
 rcases Nat.lt_or_ge vs.length ch.length with h' | h'
 ·have hi:=getElem?_eq_getElem h';have hb:=of_decide_eq_true (List.all_eq_true.1 Km _ (getElem_mem h'));have:=(bU _ _ hi).1 (hall _ hb);omega
 ·omega):p:=h
theorem Zc8(h:p:=by
 refine⟨rfl,rfl,rfl,rfl,rfl,[y],?_,Tr.fO ?_⟩
 ·exact((Aa.ae.keep (iU B12.ae)).keep (lK D12.ae.grown Tq)).keep (jf Tq)
 ·exact((G6.ae.later B12.ae).grown D12.ae.grown Tq).more Tq):p:=h
theorem Zc9(h:p:=by
 have Zk:i < listed.size:=by rw[I.len];exact zy
 have Zl:fuel=bz l.length (listed.setIfInBounds i true)+zs.length:=by have:=lg l.length listed i Zk rW AX;omega
 unfold wpOp;rw[oG];show if Region.wanted oj (yielded (l++zs).toArray a.tmps)=true then _ else _;rw[if_pos (by simp[Region.wanted,hgd])];refine .inl ?_;exact Kbb):p:=h
theorem Zda(h:p:=by
 have jY:=uW.ae;rw[hr] at hp ve jY;obtain⟨Kx,ty,u',v',rfl,hst⟩:=hp;have her:=ve.ae.err _ rfl;have oz:=aa (show X=.error er by
  rw[uH.ae,jY]
  rfl)
 have nJ:=aa her;have t1:(er != 0)=true:=by simp[her]
 have bg:=ah w6 (.cells (ay Kx) 46);have HW:=aa ((tU.ae.err hst).later bg);clear hr her hst jY ve uW tU bg;exact Kbc):p:=h
theorem Zdb(h:p:=by have Oa:=aa (show aB (w6.alloc (.cells (ay Kx) 46)) w6.heap.size 46 (bF Kx).toArray from XZ);clear XZ;generalize w6.alloc (.cells (ay Kx) 46)=WD at*;generalize w6.heap.size=gY at*;exact Kbd):p:=h
theorem Zdc(h:p:=by
 refine bodyPost_ret (v:=.tuple #[.agg #[ag 2,au,af (ly ((s.data.toList.drop at_).takeWhile bC)),af at_],af k,af 0]) ZbH rfl ?_
 ·rw[HR.ae];unfold zQ;simp only;rw[vU bC s Tq,mK.ae];exact Zb3):p:=h
theorem Zdd(h:p:=by
 go_wp2_with fail;go_quiet (fail);go_wp2_with fail;go_roundw
 case rel=>
  refine⟨i+1,n+nq,by omega,by go_num,?_,?_⟩
  ·rw[<- HWN.ae];exact BZ W n nq
  ·rw[pS.ae,HDX.ae,kN,HP.ae];rfl
 case measure=>exact Za2):p:=h
theorem Zde(h:p:=by clear iE;have k1:=aB.new wr 46 (ay y);have ME:=ah wr (.cells (ay y) 46);generalize wr.alloc (.cells (ay y) 46)=W2 at*;have tU:=aa (jN.ae.later ME);generalize wr.heap.size=g12 at*;exact Kbe):p:=h
theorem Zdf(h:p:=by skip;intro hg;have hg:ρ (.tmp 22)=.bool false:=hg;refine⟨λ _=>?_,λ hn=>absurd hg hn⟩;have h0:_=_:=hr.1;have e1:=Ki.ae.2 rfl;exact ZgM):p:=h
theorem Zdg(h:p:=by skip;intro hg;have hg:ρ (.tmp 22)=.bool false:=hg;refine⟨λ _=>?_,λ hn=>absurd hg hn⟩;have h0:_=_:=hr.1;have e1:=Ki.ae.1 rfl;exact ZgM):p:=h
theorem Zdh(h:p:=by
 split at h <;> try exact h
 obtain⟨g,h1,h2⟩:=h;refine⟨g,h1,?_⟩;rw[hl.block g ?_]
 ·exact h2
 ·exact ZfJ):p:=h
theorem Zdi(h:p:=by intro ρ w3 hc hL hr;have h0:_=_:=hr.1;have h1:_=_:=hr.2.1;have h2:_=_:=hr.2.2.1;have hs:=Gm XA xn xc gn gn (Nat.le_refl _) HXC.ae w3;exact aq (w':=w3) (by simp[go_sem,h0,h1,h2,hs];done) ⟨ai.refl _,rfl⟩):p:=h
theorem Zdj(h:p:=by go_wp2_with fail;go_ret;refine⟨?_,hb⟩;rw[nU λ j hj=>HP.ae j (by rw[length_map] at hj;omega)];rfl):p:=h
theorem Zdk(h:p:=by intro ρ w vs hc hG hr;rw[t0] at hr;have r0:=hr.1;simp only[s0] at r0;exact⟨g0,hfa ρ w (r0.trans hq)⟩):p:=h
theorem Zdl(h:p:=by rw[Bool.not_eq_true] at hs;obtain⟨nl,c,d0,d1,c0,c1,_,_,s1⟩:=Ik (lo a) 0 l0 l1 Tq Tq;obtain⟨nh,c2,e0,e1,_,_,_,_,s2⟩:=Ik (hi a) c h0 h1 c0 c1;have NK:=Int.emod_nonneg nh (show n≠0 by omega);have Ih:=Int.emod_lt_of_pos nh hn;obtain⟨q,r,hd⟩:=Ii (nh % n) nl n NK Ih uV d0 d1;exact Kbf):p:=h
theorem Zdm(h:p:=by go_wp2_with fail;go_ret;exact⟨rfl,hb⟩):p:=h
theorem Zdn(h:p:=by intro ρ w vs hc hG hr;rw[t2] at hr;have r0:=hr.1;simp only[m0] at r0;exact⟨g2,Ew ρ w (r0.trans h0)⟩):p:=h
theorem Zdo(h:p:=by intro ρ w vs hc hG hr;rw[t6] at hr;have r0:=hr.1;simp only[s6] at r0;exact⟨g6,C3 ρ w (r0.trans hq)⟩):p:=h
theorem Zdp(h:p:=by exact aq (w':=w3) (by simp[go_sem,h0,y0,y1,y2];done) ⟨ai.refl _,rfl⟩):p:=h
theorem Zdq(h:p:=by
 repeat' split
 all_goals first
  |(exfalso;omega)
  | rfl
  |(congr 1;omega)):p:=h
theorem Zdr(h:p:=by unfold PC.cells at jV;have c10:=jV.cell 10;simp only[Uaa] at c10;exact aq (w':=w3) (by simp[go_sem,h0,c10];done) ⟨AR.refl _,rfl⟩):p:=h
theorem Zds(h:p:=by
 intro i w w' v h hl
 match i with
 | 0 | 1 | 2 | 3 | 4 | 5 | 6 | 7 | 8 | 9 | 10=>exact h
 | n+11=>exact h):p:=h
theorem Zdt(h:p:=by
 obtain⟨b,off,rfl,kG,hex,hz⟩:=(HA.ae.below hb).at_ (show k <(args.map (·.1)).length by simpa using hlt);have js:(args.map (·.1))[k]' Tak=args[k].1:=by simp
 rw[js] at hex hz;clear js;have gj:=HE.ae args[k] (getElem_mem hlt);have hS:=BH hlt;generalize args[k]=yb at*;exact Kbg):p:=h
theorem Zdu(h:p:=by skip;have h0:_=_:=hr.1;have e1:=hc.func 44;refine bw (f:=44) (args:= #[.agg (aD v)]) (w':=w3) Tay ?_;have hgo:=vt v w3;rw[<- NY.ae] at hgo;refine hgo.mono ?_;exact Zbi):p:=h
theorem Zdv(h:p:=by
 subst hrel;obtain⟨tk,pl,bd,hpl,hlt,amA,uq,cf,hg,Ij,uV,hp⟩:=HA.ae.did.at_.vZ;obtain⟨r',mY⟩:=hg _ rfl;injection mY with hu hr2;subst hu;have tz:bd < 0:=by simpa [cg.gT] using cf
 have HP:=aa hp;have c2:=hp.c2;have atu:=HA.ae.blk.lt;have hbz:=Ch 3 3 rfl Vb tk;rw[ahN.ae] at hbz;exact Kbh):p:=h
theorem Zdw(h:p:=by intro ρ' w' h' hc';simp[go_sem,h',hc']):p:=h
theorem Zdx(h:p:=by go_wp2_with fail;refine(mQ _ _).mono ?_;rintro e w1 ⟨rfl,b1⟩;have hR:=(aB.new w 44 #[ag 0,af 0,.string { data:= #[] }]).later b1;have dw:=aG hR;have cK:=aB.frozen hR;have hB:aj w w1:=((Below.refl _ _).alloc (Nat.le_refl _) _).trans (b1.mono Vb);clear b1 hR;go_wp2_with fail;exact Kbi):p:=h
theorem Zdy(h:p:=by
 obtain rfl:k=8:=by omega
 have hno:ma n=none:=by rw[Ee.ae];rfl
 clear Ee;rw[HFO.ae] at hno;cases hno):p:=h
theorem Zdz(h:p:=by rw[rounds_succ];go_wp2_with fail;have gN:=aB.new W 5 #[ag k,ag wa];have bN:=ah W (.cells #[ag k,ag wa] 5);refine(qL W.heap.size 0 2 k wa _ Vb (gN.cell 0) (gN.cell 1)).mono ?_;rintro e W2 ⟨rfl,b2⟩;have hW2:=ai.then bN b2;replace hB:=ai.then hB hW2;replace hO:=hO.later hW2;exact Kbj):p:=h
theorem ZdA(h:p:=by go_wp2_with fail;exact bodyPost_ret (v:=.tuple #[.agg (aD r),af 0]) (by simp[results,Tryz.results170,go_sem,dw]) rfl ⟨by rw[HL.ae];rfl,((hB.setCell bJ _).setCell bJ _).setCell bJ _⟩):p:=h
theorem ZdB(h:p:=by
 obtain⟨a,wa,gi,al,nu,d,rfl,_,hd⟩:=Uj.shape;have jY:d.oneCell'=true:=by rcases hd with rfl |⟨F,C,rfl⟩<;> rfl
 have hst:=λ(u:Addr) (m:Mode) (w:World)=>run_store Tryz.prog w u d m jY
 unfold cJ;have b2:=ai.then KK (ah W3 (.cells #[af a,ag wa,ag gi,.bool al,.bool nu,d] 100));exact Kbk):p:=h
theorem ZdC(h:p:=by subst hr2;have HG:=aa hg;clear hg hv hr;go_enter Tryz.func58,Tryz.ntmps58;go_wp2_with fail;refine(HG.ae _).mono ?_;exact Ze9):p:=h
theorem ZdD(h:p:=by exact aq (w':=w3) (by simp[go_sem,h0,jq];done) ⟨ai.refl _,rfl⟩):p:=h
theorem ZdE(h:p:=by exact aq (w':=w3) (by simp[go_sem,h0,c0];done) ⟨ai.refl _,rfl⟩):p:=h
theorem ZdF(h:p:=by intro ρ w3 hc hL hr;intro hg;have hg:ρ (.tmp 66)=.bool true:=hg;refine⟨λ _=>?_,λ hn=>absurd hg hn⟩;exact Kbl):p:=h
theorem ZdG(h:p:=by intro ρ w3 hc hL hr;intro hg;have hg:ρ (.tmp 82)=.bool true:=hg;refine⟨λ _=>?_,λ hn=>absurd hg hn⟩;exact Kbm):p:=h
theorem ZdH(h:p:=by have z1:=k1.cell 1;have x2:=k1.cell 2;have x3:=k1.cell 3;have x5:=k1.cell 5;have x7:=k1.cell 7;have x8:=k1.cell 8;have x9:=k1.cell 9;have Yb:=k1.cell 13;have x14:=k1.cell 14;have x16:=k1.cell 16;have Rz:=k1.cell 19;have RD:=k1.cell 20;have x24:=k1.cell 24;have x27:=k1.cell 27;exact Kbn):p:=h
theorem ZdI(h:p:=by simp only[setIfInBounds_toArray,set_cons_zero,set_cons_succ] at this;exact this):p:=h
theorem ZdJ(h:p:=by exact bodyPost_ret (v:=.tuple #[ag 0,af 40]) Tam rfl ⟨congrArg (λ r:Int×Int=>Ending.returned (.tuple #[ag r.1,af r.2])) HQ.ae.symm,hB⟩):p:=h
theorem ZdK(h:p:=by exact bodyPost_ret (v:=.tuple #[ag gi,af 0]) Tam rfl ⟨congrArg (λ r:Int×Int=>Ending.returned (.tuple #[ag r.1,af r.2])) HQ.ae.symm,hB⟩):p:=h
theorem ZdL(h:p:=by
 gi_wp2;go_roundw;case rel=>exact⟨k+1,hlt,by go_num,HJ3.ae,HF3.ae⟩
 case measure=>exact Za2):p:=h
theorem ZdM(h:p:=by
 have hK:=xl (V:=V) (λ d=>a.eval (.tmp d)) l 0 a0 (λ i o d hi hd=>by
  rw[Nat.zero_add]
  have rW:i < l.length:=by
   rcases Nat.lt_or_ge i l.length with h' | h'
   ·exact h'
   ·rw[getElem?_eq_none h'] at hi;cases hi
  exact I.new i o d hi (hall i rW) hd) (hf w I.r)
 exact Kbo):p:=h
theorem ZdN(h:p:=by
 rcases h with h |⟨b,off,h1,h2,h3⟩
 ·exact .inl h
 ·exact .inr ⟨b,off,h1,by omega,h3⟩):p:=h
theorem ZdO(h:p:=by
 rcases(show s=Kx\/f=Kx by omega)with e | e
 ·rw[e];exact yu D Kx f
 ·rw[e];exact uN D s Kx):p:=h
theorem ZdP(h:p:=by refine⟨k+1,hlt,by go_num,?_,hb.trans b4⟩;rw[HT.ae,map_append,Ow.ae];exact O4.ae):p:=h
theorem ZdQ(h:p:=by exact aq (w':=w3) Tbc ⟨ai.refl _,rfl⟩):p:=h
theorem ZdR(h:p:=by intro i hi hT q hq;subst hT;have hq:a.ownBlock=some q:=hq;refine⟨(ho.lt hq).2.1,(ho.lt hq).1,λ e=>?_⟩;rw[e0] at hq;injection hq with hq;exact hq0 (hq.trans e)):p:=h
theorem ZdS(h:p:=by
 obtain⟨l,rfl⟩:∃l,σ=.good l:=by
  match σ,LK.ae with
  | .good l,_=>exact⟨l,rfl⟩
  | .bad m,cf=>simp[cg.gT] at cf;omega
 obtain⟨r,rfl⟩:=HG.ae l rfl;have e1:(pl:Int)+1=(ρ.n:Int) - r.length:=by rw[PE.ae];simp only[cg.left,length_cons] at*;omega
 exact Kbp):p:=h
theorem ZdT(h:p:=by unfold fc at q0;simp at q0 q1;obtain⟨rfl,rfl,rfl,rfl,rfl,rfl,rfl⟩:=q0;subst q1;refine⟨(p,s),rfl,hp.more ?_⟩;simp only[Rows.uptoBulk,Rows.uptoBulkAll];omega):p:=h
theorem ZdU(h:p:=by rintro e4 w4 ⟨v4,rfl,ho4,b4⟩;refine⟨_,rfl,b4,_,rfl,?_⟩;have ho5:=ho4.down hL.size;rw[<- BI.ae] at ho5;show aH bF _ 7 w4 B0 v4 E;rw[pV.ae];simpa using ho5):p:=h
theorem ZdV(h:p:=by
 go_round;case rel=>exact⟨k+1,by omega,Ak,by go_num,mK.ae⟩
 case measure=>exact Za2):p:=h
theorem ZdW(h:p:=by have eL:=aa hb1;have CS:=aa (sR.ae.later hb1);have kI:=HX.ae.later hb1;have tC:=uX.ae.later hb1;have hxo:=kI.cell 0;simp only[Uaa] at hxo;have CT:z.op=t.op:=(at_root CQ.ae).1;have px:=xy z.op;exact Kbq):p:=h
theorem ZdX(h:p:=by intro ρ w3 hc hL hr;exact Zal):p:=h
theorem ZdY(h:p:=by clear hWX;have x0:=hR.cell 0;have x1:=hR.cell 1;have z2:=hR.cell 2;have z3:=hR.cell 3;have z4:=hR.cell 4;have z5:=hR.cell 5;have z6:=hR.cell 6;simp only[Uaa] at x0 x1 z2 z3 z4 z5 z6;exact Kbr):p:=h
theorem ZdZ(h:p:=by
 unfold et at h;split at h
 ·cases h
 split at h
 ·cases h
 split at h
 ·cases h
 split at h
 ·cases h
 split at h
 ·cases h
 split at h
 ·cases h
 rename_i h1;split at h
 ·cases h
 rename_i h2;split at h
 ·cases h
 rename_i h3;injection h with h;rw[<- h];exact Kbs):p:=h
theorem Zd0(h:p:=by intro ρ w3 hc hL hr;have h0:_=_:=hr.1;exact aq (v:=.pointer (some ⟨gp,10,none⟩)) (w':=w3) Tae ⟨AR.refl _,rfl⟩):p:=h
theorem Zd1(h:p:=by intro ρ w3 hc hL hr;have h0:_=_:=hr.1;have c0:=(HEW.ae.later hL).c13;exact ZbQ):p:=h
theorem Zd2(h:p:=by intro ρ w3 hc hL hr;have h0:_=_:=hr.1;exact aq (v:=.pointer (some ⟨gp,9,none⟩)) (w':=w3) Tae ⟨AR.refl _,rfl⟩):p:=h
theorem Zd3(h:p:=by
 clear HL HX;go_wp2_with fail;go_roundw;case rel=>exact⟨m+1,j,by omega,by omega,by omega,by go_num,rfl,H3.ae,AL.ae,HH.ae⟩
 case measure=>exact Za2):p:=h
theorem Zd4(h:p:=by
 go_wp2
 all_goals
  go_ret;refine⟨?_,rfl⟩;first | rfl |(refine mb ?_;rw[Bool.eq_iff_iff];simp;omega)|(refine mb ?_;rw[Bool.eq_iff_iff];simp;done)):p:=h
theorem Zd5(h:p:=by
 rcases Q3.ae with h |⟨b,off,h1,h2,h3⟩
 ·exact ZfW
 ·exact Zem):p:=h
theorem Zd6(h:p:=by go_upto_region 5 with fail;have k1:=aB.new wr 46 (ay y);have ME:=ah wr (.cells (ay y) 46);have NS:=aa ((ME.cell (p:=⟨gp,8,none⟩) (Nat.lt_of_lt_of_le BN.ae hb.size)).trans ((hb.cell (p:=⟨gp,8,none⟩) BN.ae).trans Zq.ae));have QD:=aa (Nat.lt_of_lt_of_le (Nat.lt_of_lt_of_le BN.ae hb.size) ME.size);have xd:=aa (λ W2 (h:ai (wr.alloc (.cells (ay y) 46)) W2)=>gj W2 (ai.then hB (ai.then hb (ai.then ME h))));obtain⟨gy,Zr⟩:∃gy,gy=wr.heap.size:=⟨_,rfl⟩;rw[<- Zr] at k1 ⊢;clear gj hex Zr;exact Kbt):p:=h
theorem Zd7(h:p:=by go_upto_region 1 with fail;generalize w.alloc _=W1 at*;obtain⟨g,hg⟩:∃g,g=w.heap.size:=⟨_,rfl⟩;exact Kbu):p:=h
theorem Zd8(h:p:=by have dw:=aG cK;have gV:=aB.frozen cK;go_wp2_with fail;exact bodyPost_ret (v:=.tuple #[.agg #[ag 0,af 0,.string ByteArray.empty],af 41]) Tac rfl ⟨by rw[HQ.ae];rfl,((hB.setCell bJ _).setCell bJ _).setCell bJ _⟩):p:=h
theorem Zd9(h:p:=by
 have rp:=aa Kx;have HL0:=aa mA;have HC:=aa hc;have HLEN:=aa (show s.data.toList.length=s.size by simp);clear Kx hd mA hc hq;go_enter Tryz.func132,Tryz.ntmps132;go_wp2_with (first
  |(go_at_call 174;refine(ee s[at_] _).mono ?_;rintro e w' ⟨rfl,rfl⟩;rw[HL0.ae])
  |(go_at_call 175;refine(eK s[at_] _).mono ?_;rintro e w' ⟨rfl,rfl⟩;rw[HC.ae]))
 exact Kbv):p:=h
theorem Zea(h:p:=by obtain⟨f,rfl⟩:=kU T hT;have h1:f 1=_:=h1;have h2:f 2=_:=h2;have h4:f 4=_:=h4;have h5:f 5=_:=h5;have h6:f 6=_:=h6;simp only[bS,h1,h2,h4,h5,h6];clear h1 h2 h4 h5 h6;clear h1 h2 h4 h5 h6 hT;exact Kbw):p:=h
theorem Zeb(h:p:=by simp[results,Tryz.results184,go_sem,r0,r1,r2,r3,r4,r5,r6];rfl):p:=h
theorem Zec(h:p:=by intro ρ w h;simp[go_sem,h]):p:=h
theorem Zed(h:p:=by go_wp2_with fail;exact bodyPost_ret (v:=.tuple #[.agg (aD xv),af 0]) Tac rfl ⟨by rw[HQ.ae];rfl,((hB.setCell bJ _).setCell bJ _).setCell bJ _⟩):p:=h
theorem Zee(h:p:=by simp only[Uaa] at y0 y1 y2 y3 y4 y5 y6;exact aq (w':=w3) (by simp[go_sem,h0,y0,y1,y2,y3,y4,y5,y6];done) ⟨ai.refl _,rfl⟩):p:=h
theorem Zef(h:p:=by
 clear Hx;refine wp_seq_k λ K1 hK1=>?_
 have nD:=aa hK1;clear hK1;go_wp2_with fail;refine nD.ae _ _ ?_;clear nD;refine wp_seq_k λ HX hK2=>?_
 have Ja:=aa hK2;clear hK2;exact Kbx):p:=h
theorem Zeg(h:p:=by
 go_wp2_with fail;refine(vB ⟨2,Kx,name,width,A,0,c⟩ _).mono ?_;rintro e w1 ⟨oo,rfl,Uj,b1⟩
 obtain rfl:oo=oH:=by
  rcases Uj with ⟨h,_⟩|⟨_,h⟩
  ·exact absurd h (by simp[kJ])
  ·exact h
 have Hy:bP ⟨2,Kx,name,width,A,0,c⟩=0:=by unfold bP;rw[if_pos Vb]
 rw[Hy];exact Kby):p:=h
theorem Zeh(h:p:=by go_wp2_with (go_at_call 175;refine(eK s[k] _).mono ?_;rintro e w' ⟨rfl,rfl⟩;rw[HD.ae]);refine HN.ae.mono ?_;unfold jT;rw[HE.ae,pS.ae];rintro e w1 ⟨he,rfl⟩;exact Kbz):p:=h
theorem Zei(h:p:=by exact aq (v:=aI w3.heap.size 1 1) (w':=w3.alloc (.cells #[aI g0 1 1] 38)) Tan ⟨ah w3 _,⟨w3.heap.size,g0,rfl,aB.new w3 _ _,fP.later (ah _ _)⟩⟩):p:=h
theorem Zej(h:p:=by replace HB:=aa (ai.then HB.ae b3);replace HX:=aa (HX.ae.later b3);replace HC:=aa (HC.ae.later b3);replace HK:=aa (HK.ae.later b3);replace Q3:=aa (Q3.ae.later b3);replace K3:=aa (K3.ae.later b3);replace Mx:=aa (Mx.ae.later b3);replace Ui:=aa (Ui.ae.later b3);clear b3;exact KbA):p:=h
theorem Zek(h:p:=by intro ρ w y v' w' h1 h2 hr;simp only[execOp,resolve,invoke,builtin,Sem.run_bind,Sem.run_pure,Result.andThen_ok,map_toArray,map_cons,map_nil,h1,h2,hr]):p:=h
theorem Zel(h:p:=by
 have hj:j < K:=by
  rcases Nat.lt_or_ge j K with h' | h'
  ·exact h'
  ·rw[getElem?_eq_none (by rw[hf];exact h')] at hu;cases hu
 rw[(hp i x hx).2 j hj];exact hu):p:=h
theorem Zem(h:p:=by exact⟨b,off,h1,h2,h3 k _ (getElem?_eq_getElem hlt)⟩):p:=h
theorem Zen(h:p:=by go_wp2_with fail;go_region;clear c0 c1 c2 d0 d1 d2 d3 y0 y1 y2 z0 z1 z2 z3 x0 v0 v1 v2 v3;obtain⟨u0,u1,u2,u3,_⟩:=bO HT;clear HT;unfold dF at u0 u1 u2 u3 hb x1 x2 nY HF HWR HB HD;generalize (w.alloc _).drew=W at*;have hwr:=HWR.ae;clear HWR;rw[PD] at hwr;exact KbB):p:=h
theorem Zeo(h:p:=by go_wp2_with fail;have hS:=aB.alloc h (.cells #[ag 0,af 0,.string { data:= #[] }] 44);have Kx:=aB.new w 44 #[ag 0,af 0,.string { data:= #[] }];have hB:aj w (w.alloc (.cells #[ag 0,af 0,.string { data:= #[] }] 44)):=(Below.refl _ _).alloc (Nat.le_refl _) _;exact KbC):p:=h
theorem Zep(h:p:=by
 cases hg1:bZ k wa
 ·go_wp2_with fail;go_ret;exact⟨by rw[hg1];rfl,hB⟩
 have x1:=hO.cell 1;have x3:=hO.cell 3;simp only[Uaa] at x1 x3;have c0:=(hB.cell (p:=⟨p,off,none⟩) hp).trans h0;exact KbD):p:=h
theorem Zeq(h:p:=by go_wp2_with fail;refine(fZ w0 g n cap s Kx f D _ H2.ae hn Tq Tq Tq).mono ?_;rintro e_ w5 ⟨rfl,h5⟩;have H3:=aa h5;clear h5 H2;exact KbE):p:=h
theorem Zer(h:p:=by have Jw:=Tm.ae;have z0:=Jw.cell 0;have z1:=Jw.cell 1;have x2:=Jw.cell 2;have x3:=Jw.cell 3;have x4:=Jw.cell 4;have x5:=Jw.cell 5;have x6:=Jw.cell 6;simp only[Uaa] at z0 z1 x2 x3 x4 x5 x6;exact KbF):p:=h
theorem Zes(h:p:=by have e1:=hc.func 27;have e2:=hc.const (af 0);refine bw (f:=27) (args:= #[af 0]) (w':=w3) Taz ?_;refine(fD 0 w3).mono ?_;exact Zbi):p:=h
theorem Zet(h:p:=by have v0:=HV.cell 0;have v1:=HV.cell 1;have v2:=HV.cell 2;simp only[Uaa] at v0 v1 v2;exact KbG):p:=h
theorem Zeu(h:p:=by have x6:=HX.cell 6;simp only[Uaa] at x6;go_wp2_with fail;exact KbH):p:=h
theorem Zev(h:p:=by have z6:=hR.cell 6;simp only[Uaa] at z6;exact KbI):p:=h
theorem Zew(h:p:=by have HF:=aa hF;have IH:=aa ih;have Q1:=aa q1;have HFN:=aa q2;have Q3:=aa q3;have Q4:=aa q4;have Q5:=aa q5;exact KbJ):p:=h
theorem Zex(h:p:=by
 have hb2:=ai.then hb1 bN;replace HP:=aa (HP.ae.later hb2);replace hb:=ai.then hb hb2;have Bg:((args.take k).map (·.2)).length<=1599289640356:=by simp;omega
 exact KbK):p:=h
theorem Zey(h:p:=by intro ρ' w' hc' h';simp[go_sem,h',hc'.const,hc'.func]):p:=h
theorem Zez(h:p:=by have t1:decide ((200:Int)<(L.i.n:Int))=false:=decide_eq_false Tq;have t2:decide ((200:Int)<(L.o.n:Int))=false:=decide_eq_false Tq;exact KbL):p:=h
theorem ZeA(h:p:=by obtain⟨u,v,rfl⟩:=two Tq;exact⟨_,#[_],rfl,.inr ⟨_,rfl⟩,KL,λ W A c hb hr=>Kv x A c q _ [u,v] W hr Vb (hq.later hb)⟩):p:=h
theorem ZeB(h:p:=by
 have hb2:b < W.heap.size:=Nat.lt_of_lt_of_le hb hB.size;have cV:=λ y:Ext W.heap.size W=>hv.keep (w':=y.w) λ o=>y.cell (p:=⟨b,o,none⟩) hb2
 exact KbM):p:=h
theorem ZeC(h:p:=by obtain⟨q,h1,f0,f1⟩:=h;exact⟨q,h1,f0.grown hl.grown (Ne.symm f1),f1⟩):p:=h
theorem ZeD(h:p:=by
 clear HH HX;go_wp2_with fail;go_roundw;case rel=>exact⟨i,m,by omega,by omega,by omega,rfl,rfl,H3.ae,HL.ae,HH2.ae⟩
 case measure=>exact Za2):p:=h
theorem ZeE(h:p:=by have y0:=My.cell 0;have y1:=My.cell 1;have y2:=My.cell 2;have y3:=My.cell 3;have y4:=My.cell 4;have y5:=My.cell 5;have y6:=My.cell 6;simp only[Uaa] at y0 y1 y2 y3 y4 y5 y6;exact KbN):p:=h
theorem ZeF(h:p:=by obtain⟨c0,c1,c2,d0,d1,d2,d3⟩:=hp;obtain⟨y0,y1,y2,z0,z1,z2,z3⟩:=yJ;obtain⟨x0,x1,x2,v0,v1,v2,v3⟩:=LJ;unfold pX at y0 y1 y2 z0 z1 z2 z3;exact KbO):p:=h
theorem ZeG(h:p:=by
 simp only[take_succ_cons,take_zero];refine⟨Zab,Zab,Zbo,Zab,?_,trivial⟩
 ·exact Zab):p:=h
theorem ZeH(h:p:=by exact⟨r1,r2.trans hall,by rw[r3,hc];simp[cnt,one,o],by rw[r4,hs];simp[xu,NL,o],sw (s:= { s with all:=s.all+1 }) hb (by simp[key,o,hk])⟩):p:=h
theorem ZeI(h:p:=by exact⟨λ e h=>by injection h with h;rw[<- h];exact h2,λ _ _ _ h=> Taa,λ _ _ _ h=> Taa,λ _ _ _ h=> Taa⟩):p:=h
theorem ZeJ(h:p:=by
 repeat' split
 all_goals first
  | rfl
  |(exfalso;omega)
  |(subst_vars;rfl)):p:=h
theorem ZeK(h:p:=by refine⟨rfl,?_⟩;unfold qB at hG;rw[if_neg WC];show(execOp ρ _).run Tryz.prog w9a=.ok (.value (ba gp 13)) w9a;simp[go_sem,r0]):p:=h
theorem ZeL(h:p:=by subst GN;go_wp2_with fail;exact bodyPost_ret (v:=.tuple #[]) TaF rfl ⟨rfl,_,H2.ae,HW.ae,HF.ae⟩):p:=h
theorem ZeM(h:p:=by intro ρ w3 hc hL hr;have h1:_=_:=hr.1;have c0:=aG (HV.grown hL.grown Ou);exact aq (w':=w3) Tbc ⟨AR.refl _,rfl⟩):p:=h
theorem ZeN(h:p:=by obtain⟨y,o,hy,AZ,hstep⟩:=Cl (x:=n.data.toList) hlt;have HST:=aa hstep;have LQ:=aa AZ;have c2:=sJ (pS.ae.later jN.ae) hy;clear hy hstep AZ;exact KbP):p:=h
theorem ZeO(h:p:=by have z0:=Mx.ae.cell 0;have z1:=Mx.ae.cell 1;have x2:=Mx.ae.cell 2;have f0:=Mx.ae.frozen 0;have f1:=Mx.ae.frozen 1;have f2:=Mx.ae.frozen 2;simp only[Uaa] at z0 z1 x2;exact KbQ):p:=h
theorem ZeP(h:p:=by go_wp2_with fail;exact bodyPost_ret (v:=.tuple #[ag 2,af 0]) Tal rfl ⟨rfl,ai.then fG.ae b3⟩):p:=h
theorem ZeQ(h:p:=by obtain⟨f,rfl⟩:=yy T hT;have h3:f 3=_:=h3;have h6:f 6=_:=h6;have h8:f 8=_:=h8;have h9:f 9=_:=h9;have h10:f 10=_:=h10;have h11:f 11=_:=h11;simp only[XY,h3,h6,h8,h9,h10,h11];clear h3 h6 h8 h9 h10 h11;clear h3 h6 h8 h9 h10 h11 hT;exact KbR):p:=h
theorem ZeR(h:p:=by obtain⟨g,h1,f0⟩:=h;exact⟨g,h1,f0.later hl⟩):p:=h
theorem ZeS(h:p:=by intro W3 hL;simp only[Uab];rintro a0 - a1 - a2 - a3 - _ rfl a5 - a6 - _ rfl;simp only[bD,Act.put,Uac];exact KbS):p:=h
theorem ZeT(h:p:=by
 intro r hr;rcases List.mem_append.1 hr with hr | hr
 ·exact M4.ae r hr
 ·rw[mem_singleton] at hr;rw[hr];exact V4.ae.down HWO.ae):p:=h
theorem ZeU(h:p:=by
 refine bodyPost_ret (v:=.tuple #[.agg #[ag 0,au,af 0,af 0],af 0,af 2]) ZbH rfl ?_
 ·rw[HC.ae,mK.ae,if_neg h32];exact Zb3):p:=h
theorem ZeV(h:p:=by
 intro j u hu;have:(Addr.add ⟨g,0,none⟩ j)=⟨g,j,none⟩:=by unfold Addr.add;split <;> simp_all
 rw[this,hg.cell];simpa using hu):p:=h
theorem ZeW(h:p:=by
 go_wp2_with fail;go_roundw;case rel=>exact⟨i+1,E,by omega,.inl Tq,by go_num,H3.ae,HW.ae,SO.ae⟩
 case measure=>exact Za2):p:=h
theorem ZeX(h:p:=by go_enter Tryz.func193,Tryz.ntmps193;go_wp2_with (go_at_call 206;refine(HD.ae _).mono ?_;rintro e w1 ⟨rfl,hL⟩);go_ret;exact ZcZ):p:=h
theorem ZeY(h:p:=by skip;intro hg;have hg:ρ (.tmp 26)=.bool true:=hg;refine⟨λ _=>?_,λ hn=>absurd hg hn⟩;have h0:_=_:=hr.1;exact KbT):p:=h
theorem ZeZ(h:p:=by simpa using this):p:=h
theorem Ze0(h:p:=by simp[Array.getD_eq_getD_getElem?,Array.getElem?_setIfInBounds,hT,e2]):p:=h
theorem Ze1(h:p:=by clear Eb;go_wp2_with fail;refine Am.ae.mono ?_;rintro e w5 ⟨rfl,b5⟩;generalize hr:Hu op.toNat width [v1,v2]=r at*;exact Zai):p:=h
theorem Ze2(h:p:=by obtain⟨u,rfl⟩:=one Tq;exact⟨_,#[_],rfl,.inr ⟨_,rfl⟩,KM,λ W A c hb hr=>Kt x A c q _ u W hr (hq.later hb)⟩):p:=h
theorem Ze3(h:p:=by
 split at h
 ·injection h with h;injection h with h1 h2;subst h1;exact⟨⟨by simp,by simp⟩,λ e=>by simp at e⟩
 ·cases h):p:=h
theorem Ze4(h:p:=by go_enter Tryz.func36,Tryz.ntmps36;go_wp2_with fail;go_ret;exact⟨by rw[T1.ae];rfl,by rw[HP.ae];exact H.ae.aT 0 _,aC hg 0 _⟩):p:=h
theorem Ze5(h:p:=by
 unfold iH at h;split at h
 ·exact⟨_,_,_,_,_,_,_,_,h.2⟩
 ·obtain⟨HA,hc,OA,oc,out,h1,_⟩:=h;exact⟨_,_,_,_,_,_,_,_,h1⟩):p:=h
theorem Ze6(h:p:=by
 have hK:(jx W g4 g5 gp).heap[D]?=some (.deferred (some [])):=by unfold jx;rw[Below.heap_setCell _ ⟨g5,0,none⟩ _ D (Ne.symm hf.new.2.2.2.2),Below.heap_setCell _ ⟨g4,0,none⟩ _ D (Ne.symm hf.new.2.2.2.1)];exact hf.dd
 exact KbU):p:=h
theorem Ze7(h:p:=by intro ρ w3 hc hL hr;have h0:_=_:=hr.1;exact aq (v:=ba gp 10) (w':=w3) Tae ⟨AR.refl _,rfl⟩):p:=h
theorem Ze8(h:p:=by clear Eb;go_wp2_with fail;refine Am.ae.mono ?_;rintro e w5 ⟨rfl,b5⟩;generalize hr:Hu op.toNat width [v1]=r at*;exact Zai):p:=h
theorem Ze9(h:p:=by rintro e w1 ⟨rfl,b1⟩;go_wp2_with fail;go_ret;exact⟨rfl,b1⟩):p:=h
theorem Zfa(h:p:=by
 skip;cases ne
 ·skip;exact Zal
 ·skip;exact Zal):p:=h
theorem Zfb(h:p:=by simp only[getElem?_map,getElem?_eq_getElem hlt,Option.map_some] at h1;injection h1 with h1;rw[h1];simpa using h2):p:=h
theorem Zfc(h:p:=by go_wp2_with fail;refine(oK.ae _ hb).mono ?_;rintro e w1 ⟨rfl,b1⟩;have hb1:=ai.then hb b1;clear hex hz b1 hb;exact Zap):p:=h
theorem Zfd(h:p:=by exact⟨0,Nat.zero_le _,rfl,λ j hj=>by omega,Below.refl _ _⟩):p:=h
theorem Zfe(h:p:=by
 have HWA:=aa hwa;have Al:=aa xp;have HGI:=aa hgi
 have agU:args.length=1/\al=false\/args.length=2:=by
  rw[xp];unfold qJ at nt;split at nt
  ·left;refine⟨by omega,?_⟩;simp[tZ];omega
  ·right;omega
 have H1:=aa h1;exact KbV):p:=h
theorem Zff(h:p:=by
 have js:(args.map (·.1)++bad::post)[k]' Va=bad:=by rw[getElem_append_right Va];simp[fJ]
 rw[js] at hex;exact KbW):p:=h
theorem Zfg(h:p:=by
 rw[d1];go_enter Tryz.func76,Tryz.ntmps76;go_wp2
 all_goals
  go_ret;refine⟨?_,by first | rfl | go_grown⟩;simp_all):p:=h
theorem Zfh(h:p:=by rwa [show zs.length=fuel+1 by omega] at this):p:=h
theorem Zfi(h:p:=by go_end0;rw[HT.ae];exact⟨rfl,HS.ae,HG.ae⟩):p:=h
theorem Zfj(h:p:=by
 have hv':=hv.keep (w':=(w.alloc (.cells (ay x) 46)).alloc (.cells #[ag 0,af 0,au] 44)) λ o=>(ai.then (ah w (.cells (ay x) 46)) (ah _ (.cells #[ag 0,af 0,au] 44))).cell (p:=⟨b,o,none⟩) hb
 unfold ed at hv';exact KbX):p:=h
theorem Zfk(h:p:=by injection h1 with h1;have e1:=congrArg (λ a:Array Value=>a[0]?) h1;have e2:=congrArg (λ a:Array Value=>a[1]?) h1;simp at e1 e2;exact KbY):p:=h
theorem Zfl(h:p:=by skip;intro hg;have hg:ρ (.tmp 22)=.bool false:=hg;exact Zak):p:=h
theorem Zfm(h:p:=by rename_i hk;exact⟨rfl,hall,by rw[hc];simp[cnt,one,o,hk],by rw[hs];simp[xu,NL,o,hk],fh hb TaK⟩):p:=h
theorem Zfn(h:p:=by
 have EM:s=i:=by omega
 have EN:s=j:=by omega
 subst EM EN;clear hlt hi hj px EL HF;have u0_:decide (s < Kx)=true:=decide_eq_true k0;exact KbZ):p:=h
theorem Zfo(h:p:=by intro i hi j hj hT hU nP;exact absurd (hT.trans hU.symm) nP):p:=h
theorem Zfp(h:p:=by
 split at h
 ·cases h
 ·injection h with h;exact .inr h.symm):p:=h
theorem Zfq(h:p:=by
 obtain⟨m,rfl⟩:∃m,σ=.bad m:=by
  match σ,LK.ae with
  | .good l,cf=>simp[cg.gT] at cf;omega
  | .bad m,_=>exact⟨m,rfl⟩
 go_wp2_with (go_at_call 88;refine hwr.mono ?_;rintro e w1 ⟨rfl,d1⟩);go_ret;exact Kb0):p:=h
theorem Zfr(h:p:=by have SV:=aa iZ;have wj:=aa iZ.p;have H1:=aa iZ.wt;have H2:=aa iZ.wf;have H3:=aa iZ.wn;have H4:=aa iZ.wo;exact Kb1):p:=h
theorem Zfs(h:p:=by have HXn:=aa (d13.blk HX.ae Tq);have HQn:=aa (d13.blk uw.ae Tq);have HDn:=aa (pw.ae.trans d13);have atp:=d13.size;clear HX uw pw d13;have HX:=HXn;have uw:=HQn;have pw:=HDn;clear HXn HQn HDn;exact Kb2):p:=h
theorem Zft(h:p:=by exact⟨rfl,rfl⟩):p:=h
theorem Zfu(h:p:=by exact jb (.inl rfl) h1 ⟨ai.refl _,rfl⟩):p:=h
theorem Zfv(h:p:=by
 have Hn:l[k]?=some o:=by have:=congrArg (λ x=>x[0]?) hk;simpa using this
 have akP:k < l.length:=by
  rcases Nat.lt_or_ge k l.length with h' | h'
  ·exact h'
  ·rw[getElem?_eq_none h'] at Hn;cases Hn
 exact Kb3):p:=h
theorem Zfw(h:p:=by go_wp2_with fail;rw[rounds_succ];exact Zc6):p:=h
theorem Zfx(h:p:=by go_wp2;exact Zbv):p:=h
theorem Zfy(h:p:=by rename_i hk;exact⟨rfl,hall,by rw[hc];simp[cnt,one,o],by rw[hs];simp[xu,NL,o],fh hb (by simp[key,o,hk])⟩):p:=h
theorem Zfz(h:p:=by have cb:=cK.cell 0;simp only[getElem?_toArray,getElem?_cons_zero] at cb;rw[Nat.zero_add,cb,IH.ae]):p:=h
theorem ZfA(h:p:=by intro W3 hL;simp only[Uab];rintro _ rfl _ rfl _ rfl _ rfl a4 q4 a5 q5 a6 q6 a7 q7 a8 q8 a9 q9 FM UM;replace q4:cV=a4:=Eq.symm q4;subst q4;exact Kb4):p:=h
theorem ZfB(h:p:=by intro ρ w vs hc hG hr;rw[t1] at hr;have r0:=hr.1;simp only[m2] at r0;exact⟨g1,hld ρ w r0 (Ck _ _ hG)⟩):p:=h
theorem ZfC(h:p:=by have hl:=Ap _ _ _ _ hgm s.op false i _ hi;exact aq (w':=w3) Ta6 ⟨ai.refl _,rfl⟩):p:=h
theorem ZfD(h:p:=by
 split at h
 ·cases h
 ·injection h with h;injection h with h1 h;injection h with h2 h3;rw[<- h3];exact hs):p:=h
theorem ZfE(h:p:=by intro ρ w3 hc hL hr;have h0:_=_:=hr.1;have c0:=(hL.cell (p:=⟨lb,j,none⟩) WT.ae).trans tL.ae;exact ZdE):p:=h
theorem ZfF(h:p:=by simp only[Cy,Uaa] at y0 y1 y2;exact Zdp):p:=h
theorem ZfG(h:p:=by refine(cj ρ _ _ false KK.ae ⟨#[116,114,117,101]⟩ (show(cg.good (tk.w::r)).head (⟨#[116,114,117,101]⟩:ByteArray).data.toList=false from H1.ae)).mono ?_;rintro e w1 ⟨rfl,d1⟩;go_wp2_with fail;exact Kb5):p:=h
theorem ZfH(h:p:=by go_wp2_with fail;exact HK.ae _ _ (HO.ae HN.ae _ _ _ _ _ _ _ _ _ _ _ _ _ _ _ _ _ _ _ _ _ _ _ _ _ _ _ _ _)):p:=h
theorem ZfI(h:p:=by
 simp only[List.append,Uab];repeat (go_big_quiet_step (fail))
 exact Kb6):p:=h
theorem ZfJ(h:p:=by
 rcases Nat.lt_or_ge g w.heap.size with h' | h'
 ·exact h'
 ·rw[Array.getElem?_eq_none h'] at h2;cases h2):p:=h
theorem ZfK(h:p:=by
 rcases h4 with h4 | h4
 ·exact .inl h4
 ·exact .inr λ q hq=>by rw[h4] at hq;injection hq with hq;omega):p:=h
theorem ZfL(h:p:=by
 rcases(show s=a\/s=mid by omega)with e | e
 ·have:=HFN.ae;rwa [e] at this
 ·have:=Q1.ae;rwa [e] at this):p:=h
theorem ZfM(h:p:=by obtain⟨q,h1,f0,f1⟩:=h;exact⟨q,h1,hl.new _ f0,f1⟩):p:=h
theorem ZfN(h:p:=by rw[h4];simp only[h3,getElem_map,getElem_range]):p:=h
theorem ZfO(h:p:=by intro ρ' w' s' v' C4 vC Bd mY;exact Za0):p:=h
theorem ZfP(h:p:=by subst hx hcs;obtain⟨hbytes,OE⟩:=yI hT hw;rw[length_map,length_map,hlen] at hbytes;have hb2:len*Tryz.prog.bytesOf e<=reachBytes:=Nat.le_trans (Nat.mul_le_mul_right _ Tq) hbytes;exact Kb7):p:=h
theorem ZfQ(h:p:=by intro ρ' w' y' h';show _=Result.ok _ (w'.alloc (.cells (Tb y').toArray _));simp[go_sem,h',itV,Tb,bF]):p:=h
theorem ZfR(h:p:=by simp only[bD,Act.put,Uac];have Mm:=aa (Below.trans vd.ae (hL.mono vd.ae.size));have Mx:=aa (HO.ae.later hL);have Eg:=aa (M9.ae.later hL);exact Kb8):p:=h
theorem ZfS(h:p:=by intro ρ w3 hc hL hr;have h0:_=_:=hr.1;have h1:_=_:=hr.2.1;have hs:=sQ XA xn xc gn xO.ae w3;exact ZcQ):p:=h
theorem ZfT(h:p:=by obtain⟨x0,x1,x2,x3,x4,x5,x6,x7⟩:=dy HS.ae.blk;obtain⟨z0,z1,z2,z3,z4,z5,z6,z7⟩:=lB HS.ae.res;obtain⟨y0,y1,y2,y3,y4,y5,y6,y7⟩:=dy HS.ae.res;unfold nL at x0 x3 x4 x5 x6 x7;go_wp2_with fail;exact Kb9):p:=h
theorem ZfU(h:p:=by
 rcases Nat.lt_or_ge k l.length with h' | h'
 ·exact h'
 ·rw[getElem?_eq_none h'] at ho;cases ho):p:=h
theorem ZfV(h:p:=by rw[drop_eq_getElem_cons hlt];rw[getElem?_eq_getElem hlt] at h1;injection h1 with h1;rw[h1]):p:=h
theorem ZfW(h:p:=by rw[h] at hlt;exact absurd hlt Vb):p:=h
theorem ZfX(h:p:=by exact⟨rfl,rfl,rfl,rfl,rfl,[],.inl rfl,Tr.all_nil⟩):p:=h
theorem ZfY(h:p:=by
 go_roundw;case rel=>exact⟨k+1,hkz,by go_num,by rw[oY.ae];exact O4.ae⟩
 case measure=>exact Za2):p:=h
theorem ZfZ(h:p:=by
 skip;cases nz
 ·skip;cases ne
  ·exact Zbr
  ·exact Zbr
 ·skip;cases ne
  ·exact Zbr
  ·exact Zbr):p:=h
theorem Zf0(h:p:=by rw[uW.ae];exact⟨⟨0,⟨0,0,⟨#[]⟩⟩,⟨#[]⟩,0,none,0,0⟩,_,_,rfl,wG.ae.own kK mE.ae⟩):p:=h
theorem Zf1(h:p:=by rintro e w1 ⟨rfl,hs1,hg1⟩;go_wp2_with fail;go_end0;rw[HT.ae];exact⟨rfl,hs1,aY HG.ae hg1⟩):p:=h
theorem Zf2(h:p:=by obtain⟨a,ha⟩:=Option.isSome_iff_exists.1 ha;rw[ha] at hG;obtain⟨k1,k2,k3,zk,k5⟩:=hG;obtain⟨q,c,e1,e2⟩:=zk.row;exact Kca):p:=h
theorem Zf3(h:p:=by refine(xd.ae w3 hL).mono ?_;exact Zbi):p:=h
theorem Zf4(h:p:=by
 skip;cases nz
 ·exact ZbB
 ·exact ZbB):p:=h
theorem Zf5(h:p:=by
 intro i w w' v h hl
 match i with
 | 0 | 1 | 2 | 3 | 4 | 5 | 6 | 7 | 8=>exact h
 | n+9=>exact h):p:=h
theorem Zf6(h:p:=by exact aq (v:=.tuple #[We,Wf]) (w':=w3) Tan ⟨ai.refl _,_,_,rfl,cK⟩):p:=h
theorem Zf7(h:p:=by
 repeat' split
 all_goals first
  | rfl
  |(exfalso;omega)
  |(subst_vars;rfl)
  |(congr 1;omega)):p:=h
theorem Zf8(h:p:=by obtain⟨x,h1,f0⟩:=h;exact⟨x,h1,f0.later hl⟩):p:=h
theorem Zf9(h:p:=by rw[hr] at hrun;injection hrun with _ hw;rw[<- hw];exact(ai.drew w).alloc (Nat.le_refl _) _):p:=h
theorem Zga(h:p:=by
 funext k;unfold bc;repeat' split
 all_goals first
  | rfl
  |(exfalso;omega)
  |(congr 1;omega)):p:=h
theorem Zgb(h:p:=by intro ρ w3 hc hL hr;exact aq (w':=w3) (by simp[go_sem,hc.const];done) ⟨ai.refl _,rfl⟩):p:=h
theorem Zgc(h:p:=by exact⟨0,Nat.zero_le _,rfl,rfl,Below.refl _ _⟩):p:=h
theorem Zgd(h:p:=by exact⟨0,Nat.zero_le _,rfl,Below.refl _ _,rfl⟩):p:=h
theorem Zge(h:p:=by simp only[Uaa] at c4 c8 c10;have CQ:=aa hat;have iV:=aa aZ;have kE:=aa fW;have pF:=aa oa;clear b1 b2 bb oa hat aZ fW gX;exact Kcb):p:=h
theorem Zgf(h:p:=by
 intro i w w' v h hl
 match i with
 | 0 | 1 | 2 | 3 | 4 | 5 | 6 | 7=>exact h
 | n+8=>exact h):p:=h
theorem Zgg(h:p:=by have e1:=cK.err;subst e1;exact aq (w':=w3) Tan ⟨ai.refl _,rfl⟩):p:=h
theorem Zgh(h:p:=by clear hz;go_enter Tryz.func177,Tryz.ntmps177;go_wp2_with fail;go_ret2;exact Pz HB.ae rfl):p:=h
theorem Zgi(h:p:=by exact(h.at_ x Qq).qz.tQ hc (by rw[ho];decide) hm):p:=h
theorem Zgj(h:p:=by intro ρ w3 hc hL hr;have h1:ρ (.tmp 15)=.tuple #[.agg (aD v),af err]:=hr.1;exact ZcN):p:=h
theorem Zgk(h:p:=by
 unfold swp;split
 ·exact h.rows i hi
 ·split
  ·exact h.rows j hj
  ·exact h.rows k hk):p:=h
theorem Zgl(h:p:=by intro a w8 Ei;simp only[bD,Act.put,Uac];intro a0 _ a1 _ a2 _ a3 _ a4 _ a5 _ a6 _ a7 _ a8 _ a9 _ FM _;refine wpList_nil ?_;exact Kcc):p:=h
theorem Zgm(h:p:=by subst q9;replace UM: af FO=FM:=Eq.symm UM;subst UM;simp only[bD,Act.put,Uac];exact Kcd):p:=h
theorem Zgn(h:p:=by have KK:=aa (AB.ae l rfl);have M9:=aa (show aB w5 gb 84 #[af (nx FO 0)] from QR.ae);have t1:(nj (.ok l)==0)=true:=rfl;clear AB M8 QR;obtain⟨XA,xc,hx0,hxl,I5⟩:=Jr KK.ae;subst hx0;have uH:=aa I5;exact Kce):p:=h
theorem Zgo(h:p:=by clear UR;go_wp2_with fail;refine(IB.ae _).mono ?_;rintro e w2 ⟨rfl,b3⟩;have c10:=(bA.later b3).cell 0;simp only[Uaa] at c10;exact Kcf):p:=h
theorem Zgp(h:p:=by obtain⟨o,h1,h2⟩:=h;exact⟨o,h1,h2.fr hr⟩):p:=h
theorem Zgq(h:p:=by clear SZ PJ;go_wp2_with fail;have HP:=ej jM.ae y;have HR:=dt HP;unfold dT at HR;obtain⟨r0,r1,r2,r3,r4,r5,r6⟩:=HR;exact Kcg):p:=h
theorem Zgr(h:p:=by
 have EM:s=i:=by omega
 have EN:s=j:=by omega
 subst EM EN;clear hlt hi hj px EL HF;have u0_:decide (s < Kx)=false:=decide_eq_false k0;have u2_:decide (a < s)=true:=decide_eq_true k2;exact Kch):p:=h
theorem Zgs(h:p:=by go_wp2_with fail;refine(Hj q w3 v3 ys _ O3.ae TT.ae iV.ae Cb.ae).mono ?_;rintro e w4 ⟨rfl,b4⟩;have hb4:=Below.trans tD.ae (b4.mono tD.ae.size);clear b4;go_wp2_with fail;go_ret;exact Kci):p:=h
theorem Zgt(h:p:=by have iE:=hex.keep (λ o=>jN.ae.f.base.cell (p:=⟨b,o,none⟩) Cr);unfold ck at iE;have xf:=aa rI;have kE:=aa fW;have uW:=aa JJ;have HAA:=aa hA;rw[hA];clear hex rI fW JJ hA Cr fI;exact Kcj):p:=h
theorem Zgu(h:p:=by kernel_rfl):p:=h
theorem Zgv(h:p:=by exact⟨0,Nat.zero_le _,rfl,Below.refl _ _⟩):p:=h
theorem Zgw(h:p:=by intro ρ w3 hc hL hr;have h1:_=_:=hr.1;exact jb (.inl rfl) h1 ⟨AR.refl _,rfl⟩):p:=h
theorem Zgx(h:p:=by exact aq (w':=w3) TaD ⟨FR.refl _ _ _,rfl,λ h=>by cases h⟩):p:=h
theorem Zgy(h:p:=by exact⟨true,λ _=>h,λ h=> Taa⟩):p:=h
theorem Zgz(h:p:=by simp[Rows.uptoBulk]):p:=h
theorem ZgA(h:p:=by rw[e3,take_append_of_le_length Vb,take_of_length_le Vb]):p:=h
theorem ZgB(h:p:=by have y0:=HX.ae.cell 0;have y1:=HX.ae.cell 1;have y2:=HX.ae.cell 2;have y3:=HX.ae.cell 3;have y4:=HX.ae.cell 4;have y5:=HX.ae.cell 5;have y6:=HX.ae.cell 6;have x7:=HX.ae.cell 7;exact Kck):p:=h
theorem ZgC(h:p:=by exact aq (w':=w3) (by simp[go_sem,hc.const,h0,h1,e1];done) ⟨ai.refl _,rfl⟩):p:=h
theorem ZgD(h:p:=by intro ρ w3 hc hL hr;have h0:_=_:=hr.1;have c0:=(HEW.ae.later hL).c4;exact ZbQ):p:=h
theorem ZgE(h:p:=by go_enter Tryz.func48,Tryz.ntmps48;exact Zfx):p:=h
theorem ZgF(h:p:=by go_enter Tryz.func49,Tryz.ntmps49;exact Zfx):p:=h
theorem ZgG(h:p:=by go_enter Tryz.func50,Tryz.ntmps50;exact Zfx):p:=h
theorem ZgH(h:p:=by intro ρ' w' v' x' u' C4 vC Bd mY;exact Za0):p:=h
theorem ZgI(h:p:=by intro ρ w G cap h1 h2;simp[go_sem,h1,h2];intro hh;exact absurd hh Tq):p:=h
theorem ZgJ(h:p:=by
 intro i w w' v h hl
 match i with
 | 0 | 1 | 2 | 3 | 4=>exact h
 | n+5=>exact h):p:=h
theorem ZgK(h:p:=by refine⟨A,l,c,?_,h⟩;simp[Value.cells] at q;obtain⟨rfl,rfl,rfl⟩:=q;rfl):p:=h
theorem ZgL(h:p:=by have gj:=Ib.ae;unfold ck at hex;go_wp2_with fail;have bY:=ah wr (.cells (ay bad) 46);refine(gj _ (Kx.trans ((ai.then hb bY).mono Kx.size))).mono ?_;rintro e W3 ⟨rfl,KK⟩;exact Kcl):p:=h
theorem ZgM(h:p:=by exact aq (w':=w3) (by simp[go_sem,hc.const,h0,e1];done) ⟨ai.refl _,rfl⟩):p:=h
theorem ZgN(h:p:=by simp[Array.getD_eq_getD_getElem?,Array.getElem?_setIfInBounds,hT];exact aqs):p:=h
theorem ZgO(h:p:=by intro ρ w3 hc hL hr;intro hg;have hg:ρ (.tmp 57)=.bool true:=hg;exact Zak):p:=h
theorem ZgP(h:p:=by intro ρ w3 hc hL hr;intro hg;have hg:ρ (.tmp 61)=.bool true:=hg;exact Zak):p:=h
theorem ZgQ(h:p:=by intro ρ w3 hc hL hr;intro hg;have hg:ρ (.tmp 74)=.bool true:=hg;exact Zak):p:=h
theorem ZgR(h:p:=by intro ρ w3 hc hL hr;intro hg;have hg:ρ (.tmp 78)=.bool true:=hg;exact Zak):p:=h
theorem ZgS(h:p:=by simpa [Lit.wf,IntKind.min,IntKind.max,IntKind.signed,IntKind.bits] using h):p:=h
theorem ZgT(h:p:=by subst hr;clear HP IW Kf NY Ki nJ;go_wp2_with fail;go_ret;exact⟨rfl,hW⟩):p:=h
theorem ZgU(h:p:=by rw[length_map];omega):p:=h
theorem ZgV(h:p:=by rw[set_append_right _ _ (Nat.le_refl _),Nat.sub_self] at h1;exact h1):p:=h
theorem ZgW(h:p:=by have HE:=aa hE;have HF:=aa QO;have iV:=aa JE;have HIL:=aa TG;have Q5:=aa hz;have J2:=aa ND;have XS:=aa Gz;have HFN:=aa TH;have HLEN:=aa NW;have aiD:=aa hX;have GX:=aa ft;exact Kcm):p:=h
theorem ZgX(h:p:=by go_wp2_with fail;exact HF.ae er _ _ oz.ae nJ.ae ⟨rfl,rfl,rfl⟩ HW2.ae):p:=h
theorem ZgY(h:p:=by intro ρ w3 hc hL hr;have h0:_=_:=hr.1;have cK:=HX.ae.later hL;exact Zbk):p:=h
theorem ZgZ(h:p:=by have HC:=aa hC;clear hC;go_wp2_with fail;refine HC.ae.mono ?_;rintro e_ w5 ⟨rfl,G,q4,q5,ho⟩;have H2:=aa q4;have HW:=aa (Q5.ae.trans (q5.mono Tq Tq));exact Kcn):p:=h
theorem Zg0(h:p:=by exact⟨w.heap.size,rfl,(aB.new w 4 #[.bool fv]).alloc _,by go_grown⟩):p:=h
theorem Zg1(h:p:=by obtain⟨q,q2,h1,h2,h3⟩:=h;exact⟨q,q2,h1,hk _ _ _ h2,hk _ _ _ h3⟩):p:=h
theorem Zg2(h:p:=by rw[h1] at h2;injection h2 with h2;injection h2 with _ h2 _;exact ht h2):p:=h
theorem Zg3(h:p:=by
 cases x with
 | error e=>rfl
 | ok p=>rfl):p:=h
theorem Zg4(h:p:=by exact aq (w':=w3) (by simp[go_sem,h0,c0,c1];done) ⟨ai.refl _,rfl⟩):p:=h
theorem Zg5(h:p:=by obtain⟨g,a,h1,f0,f1⟩:=h;exact⟨g,a,h1,f0.later hl,f1.later hl⟩):p:=h
theorem Zg6(h:p:=by go_wp2_with fail;go_ret;exact⟨by rw[HMX.ae];rfl,ai.then HB.ae hW⟩):p:=h
theorem Zg7(h:p:=by
 by_cases h0:b.n=0
 ·rw[if_pos h0]
 ·rw[if_neg h0] at h ⊢;exact ua h):p:=h
theorem Zg8(h:p:=by obtain⟨r0,wQ,e0⟩:=List.mem_map.1 hx;rw[<- e0];exact h.each r0 wQ):p:=h
theorem Zg9(h:p:=by simp[Array.getD_eq_getD_getElem?,Array.getElem?_setIfInBounds,hT,e4]):p:=h
theorem Zha(h:p:=by simp[Array.getD_eq_getD_getElem?,Array.getElem?_setIfInBounds,hT,e5]):p:=h
theorem Zhb(h:p:=by go_wp2_with fail;go_ret;exact⟨by simp[vH,e1,e2,e3,e4,e5,e6],hb⟩):p:=h
theorem Zhc(h:p:=by unfold aH;rw[length_append,flatMap_append];simpa using h2):p:=h
theorem Zhd(h:p:=by injection hx with hx;subst hx;exact⟨h.cell 0,h.cell 1,h.cell 2⟩):p:=h
theorem Zhe(h:p:=by exact⟨_,_,⟨rfl,rfl⟩,by unfold Val.Ok num;dsimp only;omega⟩):p:=h
theorem Zhf(h:p:=by cases A1 <;> simp[sliced,sP]):p:=h
theorem Zhg(h:p:=by
 cases hs:sb
 ·rfl
 ·have h1:=Lp (sZ.ae.1 hs);have h2:=HNA.ae;omega):p:=h
theorem Zhh(h:p:=by obtain⟨q,h1,h2,h3⟩:=h;exact⟨q,h1,h2.grown hr.grown h3,h3⟩):p:=h
theorem Zhi(h:p:=by
 rcases Q5.ae with h |⟨b,off,h1,h2,h3⟩
 ·exact ZfW
 ·exact Zem):p:=h
theorem Zhj(h:p:=by replace HC:=aa (HC.ae.later b1);replace HK:=aa (HK.ae.later b1);replace Q3:=aa (Q3.ae.later b1);replace K3:=aa (K3.ae.later b1);replace HB:=aa (ai.then HB.ae b1);exact Kco):p:=h
theorem Zhk(h:p:=by rw[hxe] at hcj;clear hxe aiN;subst hA;obtain⟨q,hq⟩:∃q,q=x.g:=⟨_,rfl⟩;have HQ:=aa hq;rw[<- hq] at hcj;have WT:=aa Ed;have tL:=aa hcj;clear vk Ed hcj hq;exact Kcp):p:=h
theorem Zhl(h:p:=by exact aq (w':=w3) (by simp[execOp,h1,bT,hf]) ⟨ai.refl _,rfl⟩):p:=h
theorem Zhm(h:p:=by exact⟨b,off,h1,h2,(h3 k _ (getElem?_eq_getElem hkz)).1⟩):p:=h
theorem Zhn(h:p:=by simp[results,Tryz.results134,go_sem,r0,r1,r2,r3,r4,r5,r6,r7];rfl):p:=h
theorem Zho(h:p:=by
 by_cases e:dJ s l=true
 ·simp only[e,if_true]
 ·simp only[e];rfl):p:=h
theorem Zhp(h:p:=by go_wp2_with fail;go_ret;refine⟨mS ?_,rfl⟩;rw[H2.ae,sH hi];rw[HD.ae,cw,HB.ae,if_neg WC,if_neg];exact Kcq):p:=h
theorem Zhq(h:p:=by exact⟨0,Nat.zero_le _,Nat.zero_le _,rfl,rfl,Below.refl _ _⟩):p:=h
theorem Zhr(h:p:=by refine⟨rfl,rfl,rfl,rfl,rfl,[],.inl rfl,?_⟩;unfold Tr.aO;rfl):p:=h
theorem Zhs(h:p:=by obtain⟨s,hs1,hs2,hF⟩:=Dt hp he q1 q2 Tq;obtain⟨f,hf⟩:∃q:Nat,q=mid+m - s:=⟨_,rfl⟩;obtain⟨e1,e2,e3,e4,e5⟩:=Ds hp hf he q1 q2 hF hs1 hs2;exact Kcr):p:=h
theorem Zht(h:p:=by
 intro ρ w3 hc hL hr;cases gd
 ·skip;exact ZbO
 ·skip;exact ZbO):p:=h
theorem Zhu(h:p:=by exact⟨y,w1,gG,g0,h1,h2,h3,h4,h5.trans (ai.drew _),h6.drew⟩):p:=h
theorem Zhv(h:p:=by rw[drop_eq_getElem_cons h2,drop_eq_nil_of_le h1];rfl):p:=h
theorem Zhw(h:p:=by
 repeat' split
 all_goals first | rfl |(exfalso;omega)| simp_all):p:=h
theorem Zhx(h:p:=by go_wp2_with fail;go_ret;exact⟨_,rfl,aH.nil,Below.refl _ _⟩):p:=h
theorem Zhy(h:p:=by obtain⟨fn,tmps,assign,body,hy,hR⟩:=GX.ae _ x _ hJ1 zP.ae;unfold QI at hy;rw[hLk] at hy;have HR:=aa hR;exact Kcs):p:=h
theorem Zhz(h:p:=by exact⟨rfl,rfl,rfl⟩):p:=h
theorem ZhA(h:p:=by rintro e w1 ⟨rfl,rfl⟩;exact Zc6):p:=h
theorem ZhB(h:p:=by intro ρ w3 hc hL hr;have h1:ρ (.tmp 0)=aw p:=hr.1;exact Zfu):p:=h
theorem ZhC(h:p:=by go_wp2_with fail;refine(yz _ (HIN.ae.env.later HB.ae)).mono ?_;exact Zc2):p:=h
theorem ZhD(h:p:=by
 have t0:T.getD 0 undef=oy q L:=by rw[Kk];simp[Array.getD_eq_getD_getElem?]
 have t1:T.getD 1 undef=.slice CA cols.length cc:=by rw[Kk];simp[Array.getD_eq_getD_getElem?]
 exact Kct):p:=h
theorem ZhE(h:p:=by
 have e1:bc D s Kx f=D:=by exact ZdO
 have H3:=aa (show SS w0 g n _ (bc D s Kx f) by rw[e1];exact H2.ae);have wk:=aa (show Sw s f D (bc D s Kx f) by rw[e1];exact .refl);exact Kcu):p:=h
theorem ZhF(h:p:=by go_wp2_with fail;have bY:=ah wr (.cells (ay y) 46);refine(gj _ (Kx.trans ((ai.then hb bY).mono Kx.size))).mono ?_;rintro e W3 ⟨rfl,KK⟩;have hb1:=ai.then bY KK;exact Kcv):p:=h
theorem ZhG(h:p:=by replace HX:=aa (HX.ae.later b1);replace HC:=aa (HC.ae.later b1);replace HK:=aa (HK.ae.later b1);replace Q3:=aa (Q3.ae.later b1);replace K3:=aa (K3.ae.later b1);exact Kcw):p:=h
theorem ZhH(h:p:=by intro ρ w σ hc hG hr he hno;refine⟨rfl,?_⟩;unfold zv at hG;rw[if_neg WC];have r0:_=_:=hr.1;exact Kcx):p:=h
end Go.Proofs.YtndgjggokjickaaGreatDoor
