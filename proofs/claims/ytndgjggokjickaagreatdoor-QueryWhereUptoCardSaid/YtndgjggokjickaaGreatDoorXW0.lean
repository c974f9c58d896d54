/- Scripts that several proofs use. -/
import Derived.BigQuiet
import Derived.Handy
import Derived.WalkLawsBesides
import Derived.Lib.Hide
import Derived.Deep.AppendLies
import Derived.Deep.RegionWith
import Derived.Laws.EntriesVeiled
import Derived.Shelf.Small.Bits
import Derived.Shelf.Strconv.Itoa3
import Derived.Shelf.SlicesE.Clone
import Derived.Shelf.Spec.BitsCarry
import Derived.Deep.DeepCutAuto
import Derived.Laws.CopyOwn
import Derived.Lib.ItoaLen
import Derived.Lib.AppendZeros
import Derived.Lib.ParseIntB
import Derived.Lib.Case
import Derived.Lib.AppendZerosOnto
import Derived.Lib.Overlaps
import Derived.RangeFuncNested
import Derived.RangeFuncBound
import Derived.Shelf.RegionOpen
import Derived.OwnWalkIn
import Derived.LoopNIn
import Derived.LoopIn
import Derived.Deep.WholeRow
import Derived.Deep.Strs
import Derived.Lay
import Derived.LaidMore
import Derived.Stop.LaidErr
import Derived.HandedShaped
import Derived.Deep.DeepHandedRow
import Derived.Test.YtndgjggokjickaaGreatDoorProg
namespace Go.Proofs.YtndgjggokjickaaGreatDoor
set_option linter.unusedVariables false
open Go.ChangeShapes Go.WideShapes Go.ChangeAt Go.RowKit List
abbrev aj (a b:World):Prop:=Below a.heap.size a b
abbrev ar (f:FuncId)(a:Array Value)(w:World)(q:Ending->World->Prop):Prop:=Calls Tryz.prog f a w q
def eZ (p:Prop):Prop:=p
theorem eZ.ae {p:Prop}(h:eZ p):p:=h
theorem aa {p:Prop}(h:p):eZ p:=h
abbrev aw (g:Nat):Value:=.pointer (some ⟨g,0,none⟩)
abbrev ba (g k:Nat):Value:=.pointer (some ⟨g,k,none⟩)
abbrev aI (g n c:Nat):Value:=.slice (some ⟨g,0,none⟩) n c
abbrev az:Value:=.slice none 0 0
abbrev au:Value:=.string ⟨#[]⟩
abbrev af (n:Int):Value:=.int .i64 n
abbrev ag (n:Int):Value:=.int .u8 n
theorem Uaa:(∀{α:Type}(l:List α)(i:Nat),l.toArray[i]?=l[i]?)/\(∀{α:Type}(a:α)(l:List α),(a::l)[0]?=some a)/\∀{α:Type}(a:α)(l:List α)(i:Nat),(a::l)[i+1]?=l[i]?:=by refine⟨?_,?_,?_⟩<;>simp
theorem Uab:(∀{α:Type}(a:α)(l:List α)(i:Nat),(a::l).take (i+1)=a::l.take i)/\(∀{α:Type}(l:List α),l.take 0=[])/\(∀{α:Type}(a:α)(l:List α)(i:Nat),(a::l).drop (i+1)=l.drop i)/\∀{α:Type}(l:List α),l.drop 0=l:=by refine⟨?_,?_,?_,?_⟩<;>simp
theorem Uac:(∀{α:Type}(l:List α)(i:Nat)(a:α),l.toArray.setIfInBounds i a=(l.set i a).toArray)/\(∀{α:Type}(x:α)(l:List α)(i:Nat)(a:α),(x::l).set (i+1) a=x::l.set i a)/\∀{α:Type}(x:α)(l:List α)(a:α),(x::l).set 0 a=a::l:=by refine⟨?_,?_,?_⟩<;>simp
variable{p:Prop}
theorem WC(h:p:=by omega):p:=h
theorem Va(h:p:=by kernel_rfl):p:=h
theorem Taa(h:p:=by decide):p:=h
theorem Tab(h:p:=by simp;omega):p:=h
theorem Tac(h:p:=by simp):p:=h
theorem Tad(h:p:=by cases h):p:=h
theorem Tae(h:p:=by unfold M;simp;omega):p:=h
theorem Taf(h:p:=by simp[results,Tryz.results17,go_sem,dv];try rfl):p:=h
theorem Tah(h:p:=by simp[results,Tryz.results99,go_sem,x0,x1,z2,z3,z4,z5,z6];done):p:=h
theorem Tai(h:p:=by simp[go_sem,hc.const,h0];done):p:=h
theorem Taj(h:p:=by rw[hg2];exact congrArg some e):p:=h
theorem Tak(h:p:=by simpa using h):p:=h
theorem Tal(h:p:=by simp_all):p:=h
theorem Tam(h:p:=by unfold maxLen;omega):p:=h
theorem Tan(h:p:=by simpa using hlt):p:=h
theorem Tao(h:p:=by simp[results,Tryz.results153,go_sem]):p:=h
theorem Tap(h:p:=by simp[results,Tryz.results59,go_sem]):p:=h
theorem Taq(h:p:=by simp[go_sem,h0];done):p:=h
theorem Tar(h:p:=by simp[go_sem,e1,h0,h1];done):p:=h
theorem Tas(h:p:=by rw[HLEN.ae];omega):p:=h
theorem Tat(h:p:=by simpa [Function.comp_def] using hA):p:=h
theorem Tau(h:p:=by simp[results,Tryz.results61,go_sem,x0,x1,z2,z3,z4,z5,z6];done):p:=h
theorem Tav(h:p:=by simp[go_sem,h0,h1];done):p:=h
theorem Taw(h:p:=by simp[bX,Value.oneCell']):p:=h
theorem Tax(h:p:=by simp[results,Tryz.results16,go_sem]):p:=h
theorem Tay(h:p:=by rw[getElem?_eq_getElem hi,he]):p:=h
theorem Taz(h:p:=by rw[Nu.ae];rfl):p:=h
theorem TaA(h:p:=by simp[go_sem,e1,h0];done):p:=h
theorem TaB(h:p:=by simp[go_sem,e1,e2];done):p:=h
theorem TaC(h:p:=by simp[bF,Value.oneCell']):p:=h
theorem TaD(h:p:=by simpa using hi):p:=h
theorem TaE(h:p:=by simp only[Array.size_setIfInBounds];exact hT):p:=h
theorem TaF(h:p:=by simp[go_sem,h1]):p:=h
theorem TaG(h:p:=by rw[sL];exact px):p:=h
theorem TaH(h:p:=by rw[length_take];omega):p:=h
theorem TaI(h:p:=by simp[results,Tryz.results106,go_sem]):p:=h
theorem TaJ(h:p:=by simp[results,Tryz.results64,go_sem]):p:=h
theorem TaK(h:p:=by rw[<- h.len];exact hi):p:=h
theorem TaL(h:p:=by rw[take_append_drop];exact hz):p:=h
theorem TaM(h:p:=by simp[go_sem,hc.const,h0,h1];done):p:=h
theorem TaN(h:p:=by simp[key,o]):p:=h
theorem TaO(h:p:=by have:=xZ.ae;have:=HND.ae;omega):p:=h
theorem TaP(h:p:=by simp[h a (by simp)]):p:=h
theorem TaQ(h:p:=by simp only[length_singleton,Nat.min_def];split <;> omega):p:=h
theorem TaR(h:p:=by rw[vU.ae];exact Nat.le_refl _):p:=h
theorem TaS(h:p:=by have:=mz.ae;have:=zX.ae;omega):p:=h
theorem TaT(h:p:=by rw[Kx];exact congrArg some e):p:=h
theorem TaU(h:p:=by have:=KK.ae;omega):p:=h
theorem TaV(h:p:=by rw[Q1.ae,<- NA.ae];decide):p:=h
theorem TaW(h:p:=by rw[Ns];exact Er):p:=h
theorem TaX(h:p:=by simp[dP,Value.oneCell']):p:=h
theorem TaY(h:p:=by simp[cZ,Value.oneCell']):p:=h
theorem TaZ(h:p:=by simp[aV,Value.oneCell']):p:=h
theorem Ta0(h:p:=by simp[aS,Value.oneCell']):p:=h
theorem Ta1(h:p:=by simp[results,Tryz.results161,go_sem,dv];try rfl):p:=h
theorem Ta2(h:p:=by have hl2:=HLT.ae;simp[go_sem,h0,h1,hl2,dQ];done):p:=h
theorem Ta3(h:p:=by simpa using hz):p:=h
theorem Ta4(h:p:=by simpa using hk):p:=h
theorem Ta5(h:p:=by simpa using h1):p:=h
theorem Ta6(h:p:=by rw[mF.ae];simp):p:=h
theorem Ta7(h:p:=by simp[results,Tryz.results111,go_sem];try rfl):p:=h
theorem Ta8(h:p:=by simp[results,Tryz.results109,go_sem];try rfl):p:=h
theorem Ta9(h:p:=by simp[execOp,h1,h2,hl]):p:=h
theorem Tba(h:p:=by cases e):p:=h
theorem Tbb(h:p:=by simp[results,Tryz.results15,go_sem];done):p:=h
theorem Tbc(h:p:=by rw[ft];exact h6.old):p:=h
theorem Tbd(h:p:=by rw[e]):p:=h
theorem Tbe(h:p:=by have:=pD.ae.base.size;have:=mz.ae;omega):p:=h
theorem Tbf(h:p:=by simp[hx]):p:=h
theorem Tbg(h:p:=by rw[I.len];exact zt):p:=h
theorem Tbh(h:p:=by show w.heap.size≠w1.heap.size;omega):p:=h
theorem Tbi(h:p:=by injection e):p:=h
theorem Tbj(h:p:=by simp[results,Tryz.results105,go_sem]):p:=h
theorem Tbk(h:p:=by rw[sW.ae,hs,if_neg (by simp),HGI.ae]):p:=h
theorem Tbl(h:p:=by have:=HN.ae;omega):p:=h
theorem Tbm(h:p:=by simpa using(by omega:s[0].toNat=48)):p:=h
theorem Tbn(h:p:=by simp[results,Tryz.results70,go_sem]):p:=h
theorem Tbo(h:p:=by simp[results,Tryz.results38,go_sem]):p:=h
theorem Tbp(h:p:=by simp[results,Tryz.results34,go_sem]):p:=h
theorem zbf.Kae(h:p:=by
 go_wp2_with fail;go_roundw;case rel=>exact⟨m+1,j,by omega,by omega,by omega,by omega,by go_num,rfl,H3.ae⟩
 case measure=>exact Za0):p:=h
theorem zbg.Kae(h:p:=by
 go_wp2_with fail;go_roundw;case rel=>exact⟨i,m,by omega,by omega,by omega,by omega,rfl,rfl,H3.ae⟩
 case measure=>exact Za0):p:=h
theorem zei.KaQ(h:p:=by
 have zpc:(p:Int) - (m:Int)=((p - m:Nat):Int):=by omega
 have c1:=λ q:Ext wr.heap.size wr=>(H2.ae.at_.later q.h).cell (p - m) WC
 have ly:=λ q:Ext wr.heap.size wr=>(H2.ae.at_.later q.h).dG (p - m) WC
 have c2:=λ q:Ext wr.heap.size wr=>(H2.ae.at_.later q.h).cell m WC
 have lz:=λ q:Ext wr.heap.size wr=>(H2.ae.at_.later q.h).dG m WC
 have hc:=λ q:Ext wr.heap.size wr=>H2.ae.cmp (p - m) m WC WC q.h
 by_cases hcs:m < s
 ·have t2:=decide_eq_false (show¬fZ (D (p - m)) (D m)< 0 from HF.ae.low m WC hcs);refine aM 14 wr.heap.size wr (Below.refl _ _) Va Va Va Va ?_;open zbf in exact Zau
 ·have t2:=decide_eq_true (show fZ (D (p - m)) (D m)< 0 from HF.ae.high m WC WC);refine aM 14 wr.heap.size wr (Below.refl _ _) Va Va Va Va ?_;open zbg in exact Zau):p:=h
theorem Z0(h:p:=by go_upto_region 35 with fail;open zei in exact Zcg):p:=h
theorem Z1(h:p:=by intro ρ w3 hc hL hr;exact ZbM):p:=h
theorem zgs.KbF(h:p:=by
 have cJ:=PK.ae;have Gp:=cJ.frozen;have c0:=cJ.cell 0;have c1:=cJ.cell 1;have c2:=cJ.cell 2;have y3:=cJ.cell 3;have o4:=cJ.cell 4;have o5:=cJ.cell 5;have y6:=cJ.cell 6;simp only[Uaa] at c0 c1 c2 y3 o4 o5 y6;have hne:g9≠g4:=Ne.symm XD.ae.1;clear Jk cJ;go_wp2_with fail;clear z0 z1 x2 x3 x4 x5 x6 c0 c1 c2 y3 o4 o5 y6 Gp hne;generalize uw:World.setCell _ _ _=W9;have hR:aB W9 g4 46 #[.int .u8 2,.int .u8 0,.int .i64 0,.string ⟨#[]⟩,.string nm,.int .i64 0,.slice none 0 0]:=by rw[<- uw];simpa using(((((((PK.ae.aU 0 _).aU 1 _).aU 2 _).aU 3 _).aU 4 _).aU 5 _).aU 6 _)
 have kG:WD.grownBy W9 (some g4):=by rw[<- uw];exact aC (aC (aC (aC (aC (aC (aC (aR (Below.refl _ _)) _ _) _ _) _ _) _ _) _ _) _ _) _ _
 clear uw;have x0:=hR.cell 0;have x1:=hR.cell 1;have z2:=hR.cell 2;have z3:=hR.cell 3;have z4:=hR.cell 4;have z5:=hR.cell 5;have z6:=hR.cell 6
 simp only[Uaa] at x0 x1 z2 z3 z4 z5 z6;refine bodyPost_ret (v:=.tuple #[.agg #[.int .u8 2,.int .u8 0,.int .i64 0,.string ⟨#[]⟩,.string nm,.int .i64 0,.slice none 0 0],.int .i64 0]) Tah rfl ?_;have hkD:=I0.ae.kp (ew.2 CH.ae);exact⟨⟨2,⟨0,0,⟨#[]⟩⟩,nm,0,none,0,0⟩,_,_,_,rfl,by rw[SB.ae];exact BK s.aL.length _ _,(by
  have h9:=ahR.ae.aside kG hkD (Nat.le_trans pD.ae.base.size mz.ae)
  rw[SB.ae] at h9
  exact h9),(((gL.refl gp w (Value.slice UA ya.length uc) (Value.slice VA s.aL.length vc)).later Gr.ae).trans I0.ae).own kG mz.ae⟩):p:=h
theorem Z2(h:p:=by
 have gZ:=HX.ae.blk;unfold PC.cells at gZ;have c10:=gZ.cell 10;simp only[Uaa] at c10;clear gZ;go_wp2_with fail;refine(oU s.aL.length WC WC WA (ia.ae.env.later HX.ae.base)).mono ?_;rintro e w7 ⟨rfl,q4⟩;have tx:=aa (HX.ae.later q4);have wA:=aa (K3.ae.later q4);have zW:=aa (K6.ae.later q4);clear q4 HX K3 K6 c10;unfold mn KZ;obtain⟨nm,iX⟩:∃nm,nm=jb s.aL.length:=⟨_,rfl⟩;rw[<- iX];have SB:=aa iX;clear iX;go_upto_region 13 with fail;have kG:=aB.new w7 46 #[.int .u8 2,.int .u8 0,.int .i64 0,.string ⟨#[]⟩,.string nm,.int .i64 0,.slice none 0 0];have Gs:=ah w7 (.cells #[.int .u8 2,.int .u8 0,.int .i64 0,.string ⟨#[]⟩,.string nm,.int .i64 0,.slice none 0 0] 46);generalize w7.alloc (.cells #[.int .u8 2,.int .u8 0,.int .i64 0,.string ⟨#[]⟩,.string nm,.int .i64 0,.slice none 0 0] 46)=WB at*;obtain⟨g9,G7⟩:∃g9,g9=w7.heap.size:=⟨_,rfl⟩;rw[<- G7] at kG ⊢;have Qf:=aa kG;have kO:=aa (tx.ae.later Gs);have G8:=aa (wA.ae.later Gs);have G9:=aa (zW.ae.later Gs);have XD:=aa (show g4≠g9/\gp≠g9 from⟨by have:=zW.ae.lt;omega,by have:=tx.ae.blk.lt;omega⟩);clear kG Gs G7 tx wA zW;refine fu _ _ (take_append_drop 13 _).symm (AR aS 113 2 w0.heap.size (Value.slice VA s.aL.length vc) s.aL ⟨nm,ty⟩) AR.refl (λ _ _ _=>AR.trans) AR.drew (acE gp g9 w0.heap.size WB (Value.slice VA s.aL.length vc) s.aL nm ty) (λ i w w' x h hr=>CG _ _ _ _ _ _ _ _ _ _ _ _ h hr) Va Va Va ?_ ?_
 ·simp only[take_succ_cons,take_zero];refine⟨ZaR,ZaR,ZaR,ZdX,?_,?_,?_,?_,?_,?_,?_,ZaR,ZdX,trivial⟩
  ·intro ρ w3 hc hL hr;have h0:_=_:=hr.1;have jR:=dB kO.ae.blk kO.ae.dJ Taa hL.grown;exact Zdn
  ·intro ρ w3 hc hL hr;have h0:_=_:=hr.1;exact aq (v:=.pointer (some ⟨g9,4,none⟩)) (w':=w3) Tai ⟨AR.refl _,rfl⟩
  ·intro ρ w3 hc hL hr;have h0:_=_:=hr.1;have hb9:=dB Qf.ae kO.ae.dJ Taa hL.grown;have x4:=hb9.cell 4;simp only[Uaa] at x4;exact aq (w':=w3) (by simp[go_sem,h0,x4];done) ⟨AR.refl _,rfl⟩
  ·intro ρ w3 hc hL hr;have h0:_=_:=hr.1;exact aq (v:=.int .u8 ty) (w':=w3) Tai ⟨AR.refl _,rfl⟩
  ·intro ρ w3 hc hL hr;have h0:_=_:=hr.1;have h1:_=_:=hr.2.1;exact aq (v:=.agg #[.string nm,.int .u8 ty]) (w':=w3) TaM ⟨AR.refl _,rfl⟩
  ·intro ρ w3 hc hL hr;have h0:_=_:=hr.1;refine aq (v:=.slice (some ⟨w3.heap.size,0,none⟩) 1 1) (w':=w3.alloc (.cells #[.string nm,.int .u8 ty] 113)) Taq ⟨AR.later (ah w3 _),⟨_,rfl,aB.new w3 _ _,λ e=>?_⟩⟩;have:=((hL.old kO.ae.dJ).lt e).1;omega
  ·intro ρ w3 hc hL hr;have h0:_=_:=hr.1;obtain⟨q1,h1,ux,Jj⟩:∃q:Nat,ρ (.tmp 79)=.slice (some ⟨q,0,none⟩) 1 1/\aB w3 q 113 (aS ⟨nm,ty⟩).toArray/\(Value.slice VA s.aL.length vc).ownBlock≠some q:=hr.2.1;obtain⟨v',w',hrun,ho,yy,En⟩:=eN (P:=Tryz.prog) (w:=w3) 28 28 _ 24 Tryz.underlying28 rD rfl WC (λ _=>rfl) Ta0 (hL.old kO.ae.dJ) q1 ux (by show(s.aL.length+1)*24<=_;omega) (by show s.aL.length+1<=_;omega) (Nat.le_trans kO.ae.base.size hL.grown.size);exact ZbN
 intro W3 hL;simp only[Uab];rintro a0 - a1 - a2 - a3 - a4 - a5 - a6 - a7 - a8 - a9 - FH ⟨aud,rfl,CJ,Mm⟩ H7 - _ rfl;simp only[bD,Act.put,Uac];obtain⟨VB,vcb,hVB,_⟩:=CJ.reads;rw[length_append,length_singleton] at hVB;subst hVB;have HOC:=aa CJ;have HMC:=aa Mm;have No:=aa hL.grown;have jR:=dB kO.ae.blk kO.ae.dJ Taa hL.grown;have f10:=jR.frozen 10;unfold PC.cells at jR;have c10:=jR.cell 10;simp only[Uaa] at c10;have PX:=aa (dB Qf.ae kO.ae.dJ Taa hL.grown);have HZC:=aa (dB G9.ae kO.ae.dJ Taa hL.grown);clear CJ Mm jR hL Qf G9;go_upto_region 14 with fail;clear f10 c10;have ahR:=aa (kO.ae.Qb HOC.ae No.ae);have I0:=aa (G8.ae.trans (gL.G6 (gp:=gp) No.ae HMC.ae (Value.slice VB (s.aL.length+1) vcb) 10));have SU:=aa (PX.ae.far (p:=⟨gp,10,none⟩) (Ne.symm XD.ae.2) (Value.slice VB (s.aL.length+1) vcb));have PK:=aa (HZC.ae.far (p:=⟨gp,10,none⟩) CH.ae.2.1 (Value.slice VB (s.aL.length+1) vcb));clear kO G8 PX HZC HOC HMC No;generalize World.setCell W3 _ _=WD at*;open zgs in exact Zel):p:=h
theorem zgR.KbM(h:p:=by
 have cU:=λ y:Ext W.heap.size W=>hu.keep (w':=y.w) λ o=>y.cell (p:=⟨b,o,none⟩) hb2
 unfold ei at cV cU;exact Ka):p:=h
theorem zcp.Kaq(h:p:=by
 replace hv:=hv.keep (w':=W) λ o=>hB.cell (p:=⟨b,o,none⟩) hb
 replace hu:=hu.keep (w':=W) λ o=>hB.cell (p:=⟨b,o,none⟩) hb
 open zgR in exact Zev):p:=h
theorem Zaa(h:p:=by open zcp in exact ZaK):p:=h
theorem Zab(h:p:=by
 obtain⟨i0,kR,Xl⟩:=kZ h0;obtain⟨Kx,⟨hi,hu⟩,AK⟩:=least (p:=λ Kx=>Kx < l.length/\listed.getD Kx false=false) i0 ⟨kR,Xl⟩
 have mo:∀i,i < Kx->listed.getD i false=true:=λ i hj=>by
  cases hc:listed.getD i false with
  | true=>rfl
  | false=>exact absurd ⟨by omega,hc⟩ (AK i hj)
 have Nj:l[Kx]?=some l[Kx]:=getElem?_eq_getElem hi;have uY:=cE aZ Kx _ Nj;simp only[lI,Bool.and_eq_true,Nat.zero_add] at uY
 have iY:Kx∈Region.ready .any (l++zs).toArray listed:=by
  refine qH (nI Nj) ?_ λ i hj=>mo i (of_decide_eq_true (List.all_eq_true.1 uY.1.1.1 i hj))
  rw[et (by rw[I.len];simp;omega)];exact hu
 refine⟨(λ hnil=>by rw[hnil] at iY;cases iY),λ i hj=>?_⟩;obtain⟨AL,oj,oC,hall⟩:=mem_ready.1 hj
 have zt:i <(l++zs).length:=by
  rcases Nat.lt_or_ge i (l++zs).length with h' | h'
  ·exact h'
  ·rw[Array.getElem?_eq_none (by simpa using h')] at oC;cases oC
 rw[et Tbg] at AL;have eY:∀k∈eX oj,listed.getD k false=true:=λ k hk=>by obtain⟨e,he,hb,rfl⟩:=jw.1 hk;exact hall e he hb
 have rW:i < l.length:=by
  rcases Nat.lt_or_ge i l.length with h' | h'
  ·exact h'
  ·exfalso
   have hzj:zs[i - l.length]?=some oj:=by
    have:(l++zs)[i]?=some oj:=by simpa using oC
    rw[getElem?_append_right WC] at this;exact this
   have Rq:=iK hz (i - l.length) oj hzj;rw[show l.length+(i - l.length)=i by omega] at Rq;have hc:=iL (L:=l++zs) (λ k=>listed.getD k false=true) (by
    intro k ok hk hd e he
    rcases Nat.lt_or_ge k l.length with NI | NI
    ·rw[getElem?_append_left NI] at hk
     exact I.closed k ok hk hd e he
    ·rw[I.tail k NI] at hd;cases hd) i (eX oj) Rq.2 eY Kx WC
   rw[hu] at hc;cases hc
 have uX:l[i]?=some oj:=by
  have:(l++zs)[i]?=some oj:=by simpa using oC
  rw[getElem?_append_left rW] at this;exact this
 exact Kc):p:=h
theorem ziv.Kct(h:p:=by
 unfold bQ;go_wp2_with fail;have HV:=aB.new W3 44 (aD v);have bG:=ah W3 (.cells (aD v) 44);have hb2:=ai.then hb1 bG;have xg:=HO;replace HO:=aa (HO.ae.later hb2);replace HK:=aa (HK.ae.later hb2);replace hb:=ai.then hb hb2;have hsz:wr.heap.size<=W3.heap.size:=hb1.size;have hne:∀u,aF aV 44 3 wr W.heap.size u ((args.take k).map (·.2))->some W3.heap.size≠u.ownBlock:=λ u hu e=>by have:=(hu.lt e.symm).1;omega
 have NV:=hne _ xg.ae;clear hne hb2 hb1 b1 bY bG gu hex xg;generalize W3.alloc (.cells (aD v) 44)=w2 at*;generalize W3.heap.size=Ly at*;have AX:((args.take k).map (·.2)).length<=1599289640356:=by simp;omega
 have Lw:((args.take k).map (·.2.k)).length<=1599289640356:=by simp;omega
 generalize hvs:(args.take k).map (·.2)=vs at*;generalize pP:(args.take k).map (·.2.k)=ks at*;have HVS:=aa hvs;have NY:=aa pP;clear hvs pP;have hbase:W.heap.size<=w2.heap.size:=hb.size;have alj:vs.length<=1599289640356:=AX;refine fu _ _ (take_append_drop 8 _).symm (AR aV 44 3 W.heap.size u8 vs v) AR.refl (λ _ _ _=>AR.trans) AR.drew (evV W.heap.size u8 u9 vs v Ly) (λ i w w' u h hr=>Fb _ _ _ _ _ _ _ _ _ _ h hr) Va Va Va ?_ ?_
 ·simp only[take_succ_cons,take_zero];refine⟨Zgp,ZeG,?_,?_,Zgp,?_,ZeG,?_,trivial⟩
  ·intro ρ w3 hc hL hr;have h1:_=_:=hr.1;refine aq (v:=aI w3.heap.size 1 1) (w':=w3.alloc (.cells (aD v) 44)) TaF ⟨AR.later (ah w3 _),⟨_,rfl,aB.new w3 _ _,λ e=>?_⟩⟩;have:=((hL.old HO.ae).lt e.symm).1;omega
  ·intro ρ w3 hc hL hr;have h1:_=_:=hr.1;obtain⟨q,h2,h3,h4⟩:∃q,ρ (.tmp 37)=aI q 1 1/\aB w3 q 44 (aV v).toArray/\some q≠u8.ownBlock:=hr.2.1;obtain⟨v',w',hrun,ho,yy⟩:=fc (P:=Tryz.prog) (w:=w3) 38 38 _ 32 Tryz.underlying38 lO rfl WC (λ _=>rfl) TaZ (hL.old HO.ae) q h3 WC WC (Nat.le_trans hbase hL.grown.size);exact aq (v:=v') (w':=w') (by simp only[execOp,resolve,invoke,builtin,Sem.run_bind,Sem.run_pure,Result.andThen_ok,map_toArray,map_cons,map_nil,h1,h2,hrun]) ⟨yy,ho⟩
  ·intro ρ w3 hc hL hr;have h1:_=_:=hr.1;exact aq (w':=w3) TaF ⟨AR.refl _,rfl⟩
  ·intro ρ w3 hc hL hr;have h1:_=_:=hr.1;refine aq (v:=aI w3.heap.size 1 1) (w':=w3.alloc (.cells #[ag v.k] 5)) TaF ⟨AR.later (ah w3 _),⟨_,rfl,aB.new w3 _ _,λ e=>?_⟩⟩;have:=((hL.old HO.ae).lt e.symm).1;omega
 ·intro w3 hL;simp only[Uab];intro a0 h0 a1 h1 a2 h2 v3 hO3 a4 h4 a5 h5 a6 h6 a7 h7;obtain⟨q2,h2,_⟩:=h2;obtain⟨q7,h7,hq7,_⟩:=h7;have h0:u8=a0:=Eq.symm h0;have h4:u9=a4:=Eq.symm h4;have h1:_=a1:=Eq.symm h1;have h2:_=a2:=Eq.symm h2;have h5:_=a5:=Eq.symm h5;have h6:_=a6:=Eq.symm h6;have h7:_=a7:=Eq.symm h7;subst h0 h1 h2 h4 h5 h6 h7;have hO3:aF aV 44 3 w3 W.heap.size v3 (vs++ [v]):=hO3;have hK3:=HK.ae.past HO.ae Taa hL.grown;have hb3:=hb.trans (bj HO.ae hL.grown hbase);have NZ:=aa hO3;have DM:=aa hK3;have HQ7:=aa hq7;have AY:=hb3.size;clear hO3 hK3 hq7 HO HK hL HV NV hb;simp only[bD,Act.put,Uac];go_wp2_with (first
   |(at_builtin
     refine aT rfl (.tmp 39) (.tmp 42) 97 rfl _ 1 Tryz.underlying97 oF rfl WC v.k rfl TaX rfl DM.ae q7 rfl HQ7.ae WC WC AY ?_
     intro v4 w4 z4 g4
     have b4:=bj DM.ae g4 AY
     have z3:=NZ.ae.past DM.ae Taa g4
     have O4:=aa z4
     have O3:=aa z3
     clear z4 g4 DM NZ HQ7 z3))
  go_roundw
  case rel=>
   refine⟨k+1,hlt,by go_num,?_,?_,hb3.trans b4⟩
   ·rw[HT.ae,map_append,HVS.ae];exact O3.ae
   ·rw[HT.ae,map_append,NY.ae];exact O4.ae
  case measure=>exact Za0):p:=h
theorem zc2.Kay(h:p:=by open ziv in exact Zhv):p:=h
theorem Zac(h:p:=by open zc2 in exact Zbc):p:=h
theorem zeH.Ka0(h:p:=by
 unfold qp at*;unfold dt.ptr;obtain⟨tk,pl,bd,hpl,hlt,hsm,ug,cj,Kx,JO,vz,hp⟩:=h0.vS;obtain⟨r',mV⟩:=Kx _ rfl;have ZX:t=tk.w:=by injection mV
 have Em:bd < 0:=by simpa [ck.gT] using cj
 subst ZX;have hlf:=h0.left;have DO:=hp.later (ah _ pY);have Lu:=hp.later ((ah _ (.cells (dE tk) 172)).drew);have hb3:=(ah (w.alloc (.cells #[ag 0,ag 0,af 0,au,au,af 0,az] 46)) (.cells (dE tk) 172)).drew;have HT:=(aB.new (w.alloc (.cells #[ag 0,ag 0,af 0,au,au,af 0,az] 46)) 172 (dE tk)).drew;rw[hsz] at HT;have KK:=aa (h0.later hb3);have HD:=aa ((eG.cY h hb).later hb3);have mU:=aa (HQ.ae.later hb3);have nS:=(h0.later hb3).facts.2.2.2.2.1;have Cb:((w.alloc (.cells #[ag 0,ag 0,af 0,au,au,af 0,az] 46)).alloc (.cells (dE tk) 172)).drew.heap.size=w.heap.size+2:=by simp
 exact KG):p:=h
theorem Zad(h:p:=by open zeH in exact Zcw):p:=h
theorem Zae(h:p:=by have YES:=aa (show∀w2,aj w w2->qT w (.returned (.bool true)) w2 from λ w2 h=>⟨true,rfl,h⟩);obtain⟨vz,TW,hn3⟩:=hn;clear b1 k1;go_enter Tryz.func21,Tryz.ntmps21;go_upto_region 1 with fail;change Code.wp _ _ _ _ (w.alloc (.cells #[ag 0,au,az,au,af 0,au,af 0,.slice L.i.A L.i.n L.i.c,.string q.bS,.bool q.only,.slice L.w.A L.w.n L.w.c,.slice L.g.A L.g.n L.g.c,.slice L.h.A L.h.n L.h.c,.slice L.o.A L.o.n L.o.c,.slice L.l.A L.l.n L.l.c,ag 0,au,af 0,af 0,az,az,az,ag 0,af 0,au,ag 0,af 0,au] 64));generalize w.alloc _=W1 at*;obtain⟨sv,CS⟩:∃sv,sv=Value.agg #[ag 0,au,az,au,af 0,au,af 0,.slice L.i.A L.i.n L.i.c,.string q.bS,.bool q.only,.slice L.w.A L.w.n L.w.c,.slice L.g.A L.g.n L.g.c,.slice L.h.A L.h.n L.h.c,.slice L.o.A L.o.n L.o.c,.slice L.l.A L.l.n L.l.c,ag 0,au,af 0,af 0,az,az,az,ag 0,af 0,au,ag 0,af 0,au]:=⟨_,rfl⟩;rw[<- CS];clear CS;obtain⟨gs,pU⟩:∃gs,gs=w.heap.size:=⟨_,rfl⟩;exact KW):p:=h
theorem Zaf(h:p:=by have HR9:=aa hr;clear hr;unfold bQ;clear z0 z1 x2 x3 x4 x5 x6 x0 x1 z2 z3 z4 z5 dv gV;replace cJ:=cJ.later b5;replace hB:=ai.then hB b5;have dv:=aG cJ;have gV:=aB.frozen cJ;go_wp2_with fail;exact bodyPost_ret (v:=.tuple #[.agg (aD r.1),af r.2]) Taf rfl ⟨congrArg (λ r:Val×Int=>Ending.returned (bQ r.1 r.2)) MY.ae.symm,((hB.setCell bI _).setCell bI _).setCell bI _⟩):p:=h
theorem Zag(h:p:=by go_wp2_with fail;have EH:=aa (Q3.ae.congr (E:=E) λ x h1 h2=>HW.ae.ae x (.inr h1));have EI:=aa (Q4.ae.congr (E:=E) λ x h1 h2=>HW.ae.ae x (.inr WC));refine(IH.ae mid f b E _ WC WC hb WC H4.ae EH.ae EI.ae).mono ?_;rintro e_ w7 ⟨rfl,T,h5,h6,h7⟩;have HF:=jh ⟨by omega,by omega⟩ Q5.ae HW.ae h6 HO.ae h7;have HT:=aa h5;have wZ:=aa HF.1;have qA:=aa ((vV.ae.mono WC WC).trans HF.2);clear h5 h6 h7 HF;go_wp2_with fail;exact bodyPost_ret (v:=.tuple #[]) TaI rfl ⟨rfl,T,HT.ae,qA.ae,wZ.ae⟩):p:=h
theorem Zah(h:p:=by refine⟨λ _=>?_,λ hn=>absurd hg hn⟩;exact ZbM):p:=h
theorem Zai(h:p:=by have h0:_=_:=hr.1;have h1:_=_:=hr.2.1;exact aq (w':=w3) TaM ⟨ai.refl _,rfl⟩):p:=h
theorem Zaj(h:p:=by
 generalize bc D s Kx f=R at*;have H6:cD R a mid:=by exact ZfF
 obtain⟨E,hE⟩:∃E,E=R:=⟨_,rfl⟩;have H4:=aa (show SS w0 g n _ E by rw[hE];exact H3.ae);have HW:=aa (show Sw a mid R E by rw[hE];exact .refl);have HO:=aa (show cD E a mid by rw[hE];exact H6);clear hE H6 H3;go_wp2_with fail;have EH:=aa (Q3.ae.congr (E:=E) λ x h1 h2=>HW.ae.ae x (.inr h1));have EI:=aa (Q4.ae.congr (E:=E) λ x h1 h2=>HW.ae.ae x (.inr WC));have H6:=aa (show cD E mid b from by
  rcases(show f=mid\/f=b by omega)with e | e
  ·have:=EI.ae;rwa [e] at this
  ·have:=EH.ae;rwa [e] at this)
 exact ZbE):p:=h
theorem Zak(h:p:=by
 have JW:=sM;have xI:=GQ;have HYB:=ND;have tF:=Mt;have Wv:=Ts;have pT:=aa x7;clear sM GQ ND HT7 adT fx z0 x4 x7 Cj;obtain⟨WB,hWB⟩:∃WB,WB=WD:=⟨_,rfl⟩;rw[<- hWB] at JW xI HYB tF Wv pT ⊢;have HOi:=aa JW.ae.o3;have HOh:=aa JW.ae.o2;have HLi:=aa (show yi.length<=1000000 by have:=HFN.ae;have:=qC.ae;have:=VJ.ae;have:=zW.ae;omega);have HLh:=aa (show(hd++jU).length<=1000000 by have:=Q3.ae;have:=HFN.ae;have:=qC.ae;have:=VJ.ae;rw[length_append];omega);have key:=λ(T:Array Value) (hT:T.size=252) e0 e1 e2 e3 (Q2:Exit->Act->World->Prop) hf=>Ds (T:=T) (d:=d) (Q:=Q2) (gp:=gp) (B:=w0.heap.size) (gY:=gY) (g16:=g16) (W:=WB) (cs:=c.cells { r with h:=rh,i:=ri } u' v') (ri:=ri) (rh:=rh) (yi:=yi) (y:=KK) (hd:=hd++jU) (nm:=nm) (ty:=ty) hT e0 e1 e2 e3 rfl rfl JW.ae.f.base.size JW.ae.blk HOi.ae HOh.ae HLi.ae HLh.ae HYB.ae Wv.ae.2.1 (Wv.ae.2.2 3 WC) (Wv.ae.2.2 2 WC) pT.ae tF.ae.1 tF.ae.2.1 (tF.ae.2.2 3 WC) (tF.ae.2.2 2 WC) hf
 simp only[Dr,bJ,fA,Tryz.f28,Option.getD_some,rR,Nat.reduceEqDiff,if_true,if_false] at key;refine key _ ?_ ?_ ?_ ?_ ?_ _ ?_
 ·rfl
 ·rfl
 ·rfl
 ·rfl
 ·rfl
 clear key;intro adB adC z167 z168 adD adE z171 adF z173 adG z175 adH adI adJ adK adL adM z182 z183 adN adO adP adQ w8 a b9 s7 EL DY;simp only[Uac];have R7:=aa (JW.ae.QR DY (mm xI.ae));clear DY JW HYB pT xI HOi HOh;generalize World.setCell w8 _ _=Ny at*;have hk7:k < 1000000:=by have:=HFN.ae;have:=VJ.ae;omega
 go_wp2_with fail;go_roundw;case rel=>exact⟨k+1,b9,a,u',v',I6,yi++ [KK],s2,ti++ [t2],jU++ [⟨nm,ty⟩],hlt,by go_num,by
  have h:=R7.ae
  rw[append_assoc] at h
  exact h,xJ.ae,by have:=xZ.ae;have:=HND.ae;have:=Dp.ae;omega,by rw[length_append,qC.ae.1];rfl,by rw[length_append,qC.ae.2];rfl⟩
 case measure=>exact Za0):p:=h
theorem Zal(h:p:=by exact⟨λ hn=>(by rw[hg] at hn;cases hn),λ _=>rfl⟩):p:=h
theorem Zam(h:p:=by
 cases sb
 ·go_wp2_with fail;go_roundw
  case rel=>
   refine⟨k+1,hlt,by go_num,λ j hj=>?_,hb1⟩;rcases Nat.lt_succ_iff_lt_or_eq.1 hj with hj | rfl
   ·exact HK.ae j hj
   ·exact HS.ae
  case measure=>exact Za0
 ·go_wp2_with fail;go_ret;refine⟨?_,hb1⟩;rw[vD HK.ae (by rw[getElem?_eq_getElem Tan];congr 1;have:=HS.ae;rw[getD_eq_getElem?_getD,getElem?_eq_getElem Tan] at this;exact this)];rfl):p:=h
theorem Zan(h:p:=by simp only[eT,cI,Value.agg.injEq,Array.mk.injEq,List.cons.injEq,Value.int.injEq,Value.bool.injEq,true_and,and_true] at h;obtain⟨h1,h2,h3,h4,h5,rfl⟩:=h;exact Kaa):p:=h
theorem zgH.KbJ(h:p:=by
 generalize pP:(args.take k).map (·.2)=ks at*;have NY:=aa pP;have HG:=aa hG;have hbase:=hb.size;clear pP hG hb1 hb2 bN;go_wp2_with (first
  |(at_builtin
    refine aT rfl (.tmp 29) (.tmp 31) 38 rfl _ 32 Tryz.underlying38 lO rfl WC v rfl TaZ rfl HK.ae w2.heap.size rfl HG.ae WC WC hbase ?_
    intro v4 w4 o4 g4
    have b4:=bj HK.ae g4 hbase
    have O4:=aa o4
    clear o4 g4 HK HG))
 go_roundw;case rel=>exact ZdL
 case measure=>exact Za0):p:=h
theorem zgw.KbG(h:p:=by go_upto_region 8 with fail;have bN:=ah w2 (.cells (aD v) 44);have hG:=aB.new w2 44 (aD v);open zgH in exact Zeq):p:=h
theorem zc3.Kay(h:p:=by unfold jB at gu;have oH:=aa gu;clear gu;go_wp2_with fail;have bY:=ah wr (.cells (ay y) 46);refine(oH.ae _ (ai.then hb bY)).mono ?_;rintro e W3 ⟨rfl,b1⟩;unfold bQ;have Kx:=ai.then bY b1;clear bY b1 oH hex;go_upto_region 6 with fail;have HV:=aB.new W3 44 (aD v);have bG:=ah W3 (.cells (aD v) 44);have hb1:=ai.then Kx bG;generalize W3.alloc _=w2 at*;obtain⟨gv,Xv⟩:∃gv,gv=W3.heap.size:=⟨_,rfl⟩;rw[<- Xv] at HV ⊢;clear Xv Kx bG;open zgw in exact Zen):p:=h
theorem Zao(h:p:=by open zc3 in exact Zbc):p:=h
theorem zgK.KbK(h:p:=by
 have mixed:Tryz.prog.follows .mixedOrders=true:=by kernel_rfl
 have t0:((Kx:Int) - (a:Int)==1)=false:=by simp;omega
 have t1:((b:Int) - (Kx:Int)==1)=false:=by simp;omega
 have zm:((a:Int)+(b:Int))/ 2=(mid:Int):=by omega
 have zp:(mid:Int)+(Kx:Int) - 1=(p:Int):=by omega
 have bm:a < mid/\mid < b:=by omega
 have bs:a<=s0/\s0<=r0/\r0<=Kx/\r0<=mid/\mid+Kx<=s0+b:=by omega
 have bp:p+1=mid+Kx:=by omega
 have bf:Kx<=f/\f<=b/\mid<=f:=by omega
 have zf:(mid:Int)+(Kx:Int) - (s:Int)=(f:Int):=by omega
 exact Kab):p:=h
theorem Zap(h:p:=by have HS:=aa h;open zgK in exact Zer):p:=h
theorem zew.KaW(h:p:=by go_wp2_with fail;refine(lx c.aL c.gA c.gn c.gc g3 t z W (by have:=ia.ae.gl;omega) (ia.ae.aL.later (sP.ae.base)) ia.ae.gok kx.ae (CD.ae.later sP.ae.base) Gn.ae).mono ?_;rintro e w1 ⟨rfl,hb1⟩;rw[nV,hf];dsimp only;exact Kac):p:=h
theorem zhO.Kca(h:p:=by go_enter Tryz.func99,Tryz.ntmps99;open zew in exact Zcq):p:=h
theorem zfg.Kbb(h:p:=by have c8:=gZ.cell 4;have Kx:=gZ.cell 8;have c10:=gZ.cell 10;open zhO in exact Zf7):p:=h
theorem Zaq(h:p:=by open zfg in exact ZcZ):p:=h
theorem Zar(h:p:=by
 have HD:=pk.ae;refine yR (P:=Tryz.prog) (f:=bF) (val:=mn) (e:=46) (size:=7) (base:=qx) (l:=[]) (lv:=az) (Post:=amm ρ x (cb::r)) (w0:=Vb) (q:=9) (d0:=121) (d1:=122) (d2:=123) (d3:=124) (d4:=125) (d5:=126) (d6:=127) (qb:=qx) (k:=6) (g:=ρ.g) (pq:=aw qx) (ptr:=aw ρ.g) (F:=184) (args:= #[aw ρ.g,af 0]) 23 23 _ 88 Va Va Va Va Va rfl rfl ?_ ?_ ?_ ?_ ?_ ?_ ?_ Tryz.underlying23 fL rfl WC (λ _=>rfl) (by intro y u hu;simp[bF] at hu;rcases hu with rfl | rfl | rfl | rfl | rfl | rfl | rfl <;> rfl) aF.nil ?_ WC ?_ ?_ Tac Tac WC ?_ ?_ ?_
 ·exact Zb6
 ·exact Zb6
 ·exact Zds
 ·exact Zb6
 ·exact Zes
 ·intro ρ' w' y' h';simp[go_sem,h',mn,bF]
 ·exact ZfI
 ·exact HX.ae.cell 6
 ·simp[Value.ownBlock]
 ·simp[Value.ownBlock]
 ·intro w' hw';refine(HH.ae ρ w' (pk.ae.at_.later hw')).mono ?_;rintro e w'' ⟨y,rfl,ht,d⟩;exact⟨y,rfl,ht,d⟩
 ·rintro y w' w'' ⟨ht,d⟩;exact d.grown
 intro y s v' w1 gG w2 W ft ⟨ht1,B6⟩ hl2 Rx bI Ln B7 cf;obtain⟨A,c,NK,lS⟩:=Pm ub (B7 rfl rfl) (S:=jm (qx+1) W) (λ g h1 h2=>⟨by have:=ft.size;have:=B6.size;have:=hl2.size;omega,h2⟩);have NK:v'=.slice A 1 c:=NK;subst NK;have bI:w2.grownBy W none:=bI;have B8:=yN bI;have DW:=(((HD.later ft).trans B6).later hl2).later B8;have Pn:=(((HX.ae.later ft).grown B6.grown Tab).later hl2).later B8;have Sy:=(((uk.ae.later ft).grown B6.grown Tab).later hl2).later B8;have htW:Tr.at_ W (jm (qx+1) W) x y:=((ht1.later hl2).later B8).more (by have:=ft.size;omega);have hxf:=Pn.frozen 6;have q5:=Pn.aU 6 (.slice A 1 c);have Au:=Sy.far (p:=⟨qx,6,none⟩) Tab (.slice A 1 c);have q4:=DW.far eh (show w.heap.size<=qx by omega) 6 (.slice A 1 c);have Tn:Tr.at_ _ _ x y:=htW.set (Nat.lt_succ_self qx) 6 (.slice A 1 c);have C3:=lS.keep (sD (Nat.lt_succ_self qx) 6 (.slice A 1 c));simp only[Uac] at q5;obtain⟨x0,x1,x2,x3,x4,x5,x6⟩:=bR q5;simp only[Act.put,Uac];have Q4:=aa q4;have Q5:=aa q5;have oy:=aa Au;have F2:=aa Tn;have Ag:=aa C3;skip;have hqW:=Pn.lt;have atc:=aa hqW;have hgW:ρ.g+1 < W.heap.size:=by omega
 clear q4 q5 Au Tn C3 Pn Sy DW htW lS Ln B7 Rx ht1 B6 ft hl2 bI B8 hqW;go_wp2_with fail;have JM:aB ((W.setCell ⟨qx,6,none⟩ (.slice A 1 c)).alloc (.cells (bK [eA]) 9)) W.heap.size 9 (bK [eA]):=by have:=aB.new (W.setCell ⟨qx,6,none⟩ (.slice A 1 c)) 9 (bK [eA]);rwa [show(W.setCell ⟨qx,6,none⟩ (.slice A 1 c)).heap.size=W.heap.size by simp[World.setCell]] at this
 have XV:=Q4.ae.at_.later (ah _ (.cells (bK [eA]) 9));refine(mb HCB.ae ρ _ XV W.heap.size JM WC).mono ?_;rintro e w12 ⟨rfl,d12⟩;have Pq:=ah (W.setCell ⟨qx,6,none⟩ (.slice A 1 c)) (.cells (bK [eA]) 9);have HXC:=(Q5.ae.later Pq).grown d12.grown Tab;have SE:=(oy.ae.later Pq).grown d12.grown Tab;have C4:=aa SE;obtain⟨x0,x1,x2,x3,x4,x5,x6⟩:=bR HXC;obtain⟨z0,z1,z2,z3,z4,z5,z6⟩:=eo SE;obtain⟨y0,y1,y2,y3,y4,y5,y6⟩:=bR SE;have DC:=aa ((Q4.ae.later Pq).trans d12);have B12:=aa Pq;have D12:=aa d12;clear HXC SE d12 Pq;go_wp2_with fail;exact Kad):p:=h
theorem zgG.KbJ(h:p:=by
 generalize pP:(args.take k).map (·.2)=ks at*;have NY:=aa pP;have HG:=aa hG;have hbase:=hb.size;clear pP hG hb2 hb1 Mp bN hL;go_wp2_with (first
  |(at_builtin
    refine aT rfl (.tmp 31) (.tmp 33) 97 rfl _ 1 Tryz.underlying97 oF rfl WC v rfl TaX rfl HK.ae W3.heap.size rfl HG.ae WC WC hbase ?_
    intro v4 w4 o4 g4
    have b4:=bj HK.ae g4 hbase
    have O4:=aa o4
    clear o4 g4 HK HG))
 go_roundw;case rel=>exact ZdL
 case measure=>exact Za0):p:=h
theorem zhT.Kcc(h:p:=by subst hte;have hb1:=ai.then Mp hL;clear wU k1 Nx Qi;go_upto_region 8 with fail;have bN:=ah W3 (.cells #[ag v] 5);have hG:=aB.new W3 5 #[ag v];open zgG in exact Zeq):p:=h
theorem zhA.Kb4(h:p:=by replace q5: .tuple #[ag v,af FJ]=a5:=Eq.symm q5;subst q5;replace q6: .tuple #[ag v,af FJ]=a6:=Eq.symm q6;subst q6;replace q7: ag v=a7:=Eq.symm q7;subst q7;replace q8: af FJ=a8:=Eq.symm q8;subst q8;replace q9: ag v=a9:=Eq.symm q9;open zhT in exact Zgf):p:=h
theorem zfY.Kbu(h:p:=by
 obtain⟨FJ,hte⟩:∃FJ:Int,FJ=0:=⟨_,rfl⟩;rw[<- hte] at wU;refine bA 11 (t5V y gp cV v FJ) (xw _ _ _ _ _) Va Va Va ?_ ?_
 ·exact ZaT
 open zhA in exact Zfv):p:=h
theorem zc4.Kay(h:p:=by open zfY in exact Zd2):p:=h
theorem Zas(h:p:=by open zc4 in exact Zbc):p:=h
theorem Zat(h:p:=by
 intro W3 hL;simp only[Uab];rintro _ rfl a1 - a2 - a3 - _ rfl a5 - a6 - a7 - _ rfl;simp only[bD,Act.put,Uac];have eB:=aa (Below.trans Jr.ae (hL.mono Jr.ae.size));have HX:=aa (L1.ae.later hL);have Da:=aa (Js.ae.later hL);have MD:=aa (mA.ae.later hL);have Ez:=aa (Qf.ae.later hL);have Qz:=aa (HK9.ae.keep hL.size λ b cur hX=>hL.block b hX.lt);clear hL Jr L1 Js mA Qf HK9 L3 tF Wv;have hx:=Ez.ae.at_ x (mem_of_getElem? Qx.ae);have wW:=aa hx;have Td:=HM.ae.qB x (mem_of_getElem? Qx.ae);have hsf:=uD (ops:=aJ.map Tr.op) (ps:=fY gn aJ ls) (k:=x.key) (λ op ho=>by obtain⟨t,ht,rfl⟩:=List.mem_map.1 ho;exact Q4.ae t ht) (by unfold fY;rw[length_map];have h3:=HLS.ae;have h4:=DU.ae;omega);have hye:(aJ.map λ t=>t.args.length).sum=ye.length:=by rw[<- dW Q1.ae,length_flatMap]
 have L5:ya.length=aJ.length:=(dW HF.ae.ta).symm
 have TM:=yX gp x.g w0.heap.size w0.heap.size ya AA ac (.slice x.KA x.key.length x.kc) x.sv x.qs x.ss (l.drop gn) (eR XA xc gn) (xc - gn) W3 (by have:=Ag.ae;omega) HF.ae.lt eB.ae.size ((eB.ae.cell (p:=⟨gp,9,none⟩) HF.ae.lt).trans HF.ae.c9) (HF.ae.ra.below eB.ae) hx.blk hx.own hx.qB
  (by rw[hx.qB.len,Td,mY,length_map,L5]) ⟨Qz.ae.rv.SV gn xc (by have:=Qw.ae;omega),xR (Qz.ae.off hx.qB)⟩ (by rw[length_drop];have:=Qw.ae;omega)
  (by rw[HFN.ae,Cz,hye,uO.ae];exact Nat.le_refl _)
  (λ y hy=>by
    have h1:y.n∈aJ.map λ t=>t.args.length:=by rw[<- HFN.ae];exact mem_map_of_mem hy
    obtain⟨t,ht,he⟩:=List.mem_map.1 h1
    rw[<- he]
    exact Q5.ae t ht)
  (λ s MY=>(hsf s (by rw[<- Td];exact MY)).1) (λ v hv=>Ly.ae v (mem_of_mem_drop hv)) (by rw[uO.ae];have:=gX.ae;omega)
 rw[HFN.ae,Je aJ (l.drop gn) Q5.ae (by rw[hye,uO.ae];exact Nat.le_refl _)] at TM;have DV:(l.drop gn).length=xn - gn:=by rw[length_drop,ow.ae]
 rw[DV,<- HQ.ae] at TM;have HFD:=aa TM;clear hx Td hsf hye L5 TM DV;go_wp2_with fail;refine HFD.ae.mono ?_;rintro e w11 ⟨rfl,hst,Nz⟩;have aiz:=aa (Ez.ae.feed Qx.ae Nz hst);have aiA:=aa (Below.trans eB.ae (Nz.low eB.ae.size λ q hq=>(wW.ae.qB.low q hq).1));have L6:=aa (HX.ae.turn Nz wW.ae.qB Taa);have L8:=aa (MD.ae.turn Nz wW.ae.qB Taa);have L9:=aa (Nz.blk Da.ae (wW.ae.qB.tJ Da.ae Taa));clear hst Nz Ez eB HX MD Da wW HFD Qz;go_wp2_with fail;go_roundw
 case rel=>
  refine⟨k+1,_,hlt,by go_num,aiA.ae,L6.ae,?_,?_,aiz.ae,?_⟩
  ·rw[qA.ae];exact L9.ae
  ·rw[afG Qx.ae];exact L8.ae
  ·rw[wZ.ae];exact HM.ae.feed Qx.ae HKEY.ae
 case measure=>exact Za0):p:=h
theorem zge.Kbz(h:p:=by
 go_big_quiet_step ((go_at_call 39;exact aH (Nat.le_refl _) (hc _)));repeat (go_big_quiet_step (fail))
 refine wpQuiet_nil ?_;rintro w3 ⟨y2,fP⟩;have hL:=y2.h;rw[<- fP] at hL;clear fP y2 c1 c2 ly lz hc;have H3:=aa (H2.ae.later hL);clear H2 hL;exact Kae):p:=h
theorem Zau(h:p:=by open zge in exact Zec):p:=h
theorem Zav(h:p:=by have z0:=k1.cell 0;have z1:=k1.cell 1;have x2:=k1.cell 2;have x3:=k1.cell 3;have x4:=k1.cell 4;have x5:=k1.cell 5;have x6:=k1.cell 6;simp only[Uaa] at z0 z1 x2 x3 x4 x5 x6;exact Kaf):p:=h
theorem Zaw(h:p:=by have b1:=ah w (.cells #[ag 0,au,az,au,af 0,au,af 0,.slice L.i.A L.i.n L.i.c,.string q.bS,.bool q.only,.slice L.w.A L.w.n L.w.c,.slice L.g.A L.g.n L.g.c,.slice L.h.A L.h.n L.h.c,.slice L.o.A L.o.n L.o.c,.slice L.l.A L.l.n L.l.c,ag 0,au,af 0,af 0,az,az,az,ag 0,af 0,au,ag 0,af 0,au] 64);have k1:=aB.new w 64 #[ag 0,au,az,au,af 0,au,af 0,.slice L.i.A L.i.n L.i.c,.string q.bS,.bool q.only,.slice L.w.A L.w.n L.w.c,.slice L.g.A L.g.n L.g.c,.slice L.h.A L.h.n L.h.c,.slice L.o.A L.o.n L.o.c,.slice L.l.A L.l.n L.l.c,ag 0,au,af 0,af 0,az,az,az,ag 0,af 0,au,ag 0,af 0,au];have eB:=aa b1;have nx:=aa k1;unfold Nt;exact Kag):p:=h
theorem Zax(h:p:=by clear hr;have dv:=aG hR;have gV:=aB.frozen hR;clear hR;go_wp2_with fail;exact bodyPost_ret (v:=.tuple #[.agg #[ag (r,(0:Int)).1.k,af (r,(0:Int)).1.n,.string (r,(0:Int)).1.s],af (r,(0:Int)).2]) (by simp[results,Tryz.results169,go_sem,dv]) rfl ⟨by have:=HE.ae;injection this with h1 h2;rw[<- h1];rfl,((hB.setCell (bI) _).setCell (bI) _).setCell (bI) _⟩):p:=h
theorem zdY.KaM(h:p:=by
 have n2:((tk.w.k:Int)==2)=false:=by rw[beq_eq_false_iff_ne];have:=vU.ae.i;omega
 have n3:((tk.w.k:Int)==3)=false:=by rw[beq_eq_false_iff_ne];have:=vU.ae.s;omega
 go_wp2_with fail;exact Kah):p:=h
theorem Zay(h:p:=by open zdY in exact ZbZ):p:=h
theorem zel.KaS(h:p:=by
 have hfo:lW n=some OP:=by rw[HN.ae];exact HFN.ae
 have HFO:=aa hfo;have DV:n.toList=n.data.toList:=ByteArray.toList_eq n;have xJ:=aa DV;clear hfo DV;go_wp2_with fail;have SC:=ai.then (ah w6 (.cells (bK td) 9)) (ah _ (.cells (xH my) 5));have NB:=(aB.new w6 9 (bK td)).alloc (.cells (xH my) 5);have OB:=aB.new (w6.alloc (.cells (bK td) 9)) 5 (xH my);rw[World.size_alloc] at OB;have SD:=aa (Xu.ae.later SC);have IJ:=aa (Pp.ae.later SC);have hs8:=SC.size;have pT:=aa NB;have ZZ:=aa OB;clear NB OB SC Xu Pp;show Code.wp _ _ _ _ ((w6.alloc (.cells (bK td) 9)).alloc (.cells (xH my) 5));generalize (w6.alloc (.cells (bK td) 9)).alloc (.cells (xH my) 5)=W8 at*;generalize w6.heap.size=nb at*;exact Kai):p:=h
theorem Zaz(h:p:=by open zel in exact Zck):p:=h
theorem ZaA(h:p:=by
 have HE:=aa he;have t1:(!y==n.toList)=false:=by rw[xJ.ae];rw[beq_iff_eq] at he;simp[he]
 have ui:lW n=some o:=by rw[DU.ae,HST.ae,he];rfl
 clear he;obtain rfl:o=OP:=by rw[HFO.ae] at ui;injection ui with ui;exact ui.symm
 have c3:=(ZZ.ae.later HP.ae).cell k;rw[show(xH my)[k]?=some (ag o) by simp[xH,FU.ae]] at c3;have d8:=SD.ae.later HP.ae;have hsw:=HP.ae.size;go_wp2_with fail;refine(mb Q1.ae ρ _ (d8.at_.later (ah wr (.cells (bK [eE]) 9))) wr.heap.size (aB.new _ _ _) WC).mono ?_;rintro e uj ⟨rfl,d10⟩;have c4:=(((ZZ.ae.later HP.ae).alloc (.cells (bK [eE]) 9)).grown d10.grown (by simp;have:=ZZ.ae.lt;omega)).cell k;rw[show(xH my)[k]?=some (ag o) by simp[xH,FU.ae]] at c4;have IK:=d10.size;have LD:=aa ((d8.later (ah wr (.cells (bK [eE]) 9))).trans d10);have xK:=aa (d10.blk ((IJ.ae.later HP.ae).later (ah wr (.cells (bK [eE]) 9))) WC);have aeZ:w.heap.size+2<=uj.heap.size:=by simp at IK;omega
 clear d10 d8 c3 IK SD IJ pT;exact Kaj):p:=h
theorem ZaB(h:p:=by clear uw;have x0:=hR.cell 0;have x1:=hR.cell 1;have z2:=hR.cell 2;have z3:=hR.cell 3;have z4:=hR.cell 4;have z5:=hR.cell 5;have z6:=hR.cell 6;simp only[Uaa] at x0 x1 z2 z3 z4 z5 z6;exact Kak):p:=h
theorem ZaC(h:p:=by have c4:=b4.cell 0;have c5:=(b5.far (p:=⟨g4,0,none⟩) (Ne.symm uK) (.pointer none)).cell 0;have f4:=b4.frozen 0;have f5:=(b5.far (p:=⟨g4,0,none⟩) (Ne.symm uK) (.pointer none)).frozen 0;simp only[getElem?_toArray,getElem?_cons_zero] at c4 c5;clear b4 b5 uK;exact Kal):p:=h
theorem ZaD(h:p:=by
 clear HS;obtain⟨i,j,pn,hi,hj,EE,rfl,rfl,hs⟩:=hrel;have H2:=aa hs;clear hs;by_cases hlt:i < j
 ·exact Z0
 ·have EF:s=i:=by omega
  have EG:s=j:=by omega
  subst EF EG;clear hlt hi hj pn EE HF;have u0_:decide (s < Kx)=true:=decide_eq_true k0;have u1_:decide (Kx < f)=true:=decide_eq_true k1;have u2_:decide (a < s)=true:=decide_eq_true k2;have u3_:decide (s < mid)=true:=decide_eq_true k3;have u4_:decide (mid < f)=true:=decide_eq_true k4;have u5_:decide (f < b)=false:=decide_eq_false k5;go_wp2_with fail;refine(gh w0 g n cap s Kx f D _ H2.ae hn WC WC WC).mono ?_;rintro e_ w5 ⟨rfl,h5⟩;have H3:=aa h5;clear h5 H2;have vV:=aa (nc D s Kx f WC WC);generalize bc D s Kx f=R at*;go_wp2_with fail;refine(IH.ae a s mid R _ WC WC WC WC H3.ae Q1.ae HFN.ae).mono ?_;rintro e_ w6 ⟨rfl,E,hs,hw,ho⟩;have H4:=aa hs;have HW:=aa hw;have HO:=aa ho;clear hs hw ho H3;go_wp2_with fail;have EH:=aa (Q3.ae.congr (E:=E) λ x h1 h2=>HW.ae.ae x (.inr h1));have EI:=aa (Q4.ae.congr (E:=E) λ x h1 h2=>HW.ae.ae x (.inr WC));have H6:=aa (show cD E mid b from by
   rcases(show f=mid\/f=b by omega)with e | e
   ·have:=EI.ae;rwa [e] at this
   ·have:=EH.ae;rwa [e] at this)
  exact ZbE):p:=h
theorem ZaE(h:p:=by
 have hall:=ed h0
 have ha:a=fill (λ d=>a.eval (.tmp d)) l a0:=by
  have h1:a.tmps=(fill (λ d=>a.eval (.tmp d)) l a0).tmps:=by
   apply Array.ext_getElem?;intro t;by_cases ht:t < a0.tmps.size
   ·rw[qG _ _ _ _ ht];split
    ·simp[Act.eval,I.size,ht]
    ·rename_i hno;refine I.old t ?_;intro i o hi hd _;exact hno ⟨o,mem_of_getElem? hi,hd⟩
   ·rw[Array.getElem?_eq_none (by rw[I.size];omega),Array.getElem?_eq_none (by rw[nJ];omega)]
  have h2:a.defers=(fill (λ d=>a.eval (.tmp d)) l a0).defers:=by rw[jT,I.defers]
  exact Af h1 h2
 exact Kam):p:=h
theorem ZaF(h:p:=by
 have k0:=λ y:Ext wr.heap.size wr=>(HP.ae.later y.h).c0
 have k1:=λ y:Ext wr.heap.size wr=>(HP.ae.later y.h).c1
 have m0:=λ y:Ext wr.heap.size wr=>(HP.ae.later y.h).d0
 have m1:=λ y:Ext wr.heap.size wr=>(HP.ae.later y.h).d1
 have m2:=λ y:Ext wr.heap.size wr=>(HP.ae.later y.h).d2
 have m3:=λ y:Ext wr.heap.size wr=>(HP.ae.later y.h).d3
 go_wp2_with fail;refine aM 13 wr.heap.size wr (Below.refl _ _) Va Va Va Va ?_;simp only[Uab];repeat (go_big_quiet_step (first
  |(go_at_call 200;exact aH (Nat.le_refl _) (Z5 _))))
 refine wpQuiet_nil ?_;rintro w3 ⟨y2,fP⟩;have hL:=y2.h;rw[<- fP] at hL;clear fP y2 k0 k1 m0 m1 m2 m3 c2;exact Kan):p:=h
theorem ZaG(h:p:=by have k:=dO (B:=w.heap.size) cJ rfl bI HX.ae;exact⟨_,by rw[pW.ae];rfl,k.2,hB.trans k.1.below⟩):p:=h
theorem ZaH(h:p:=by obtain⟨f0,Ku,rfl,Bc,hen,lQ⟩:=Z4.ae;have DN:=aa (lQ _ A8 c8 HDB.ae AZ.ae);clear lQ;have z0:=k1.cell 0;have z1:=k1.cell 1;have x2:=k1.cell 2;have x3:=k1.cell 3;have x4:=k1.cell 4;have x5:=k1.cell 5;have x6:=k1.cell 6;have x0:=hR.cell 0;have x1:=hR.cell 1;have z2:=hR.cell 2;have z3:=hR.cell 3;have z4:=hR.cell 4;have z5:=hR.cell 5;simp only[Uaa] at z0 z1 x2 x3 x4 x5 x6 x0 x1 z2 z3 z4 z5;have dv:=aG cJ;have gV:=aB.frozen cJ;exact Kao):p:=h
theorem zgF.KbJ(h:p:=by
 generalize pP:(args.take k).map (·.2)=ks at*;have NY:=aa pP;have HG:=aa hG;have hbase:=hb.size;clear pP hG hb2 hb1 b1 bY bN gu hex;go_wp2_with (first
  |(at_builtin
    refine aT rfl (.tmp 30) (.tmp 32) 97 rfl _ 1 Tryz.underlying97 oF rfl WC v rfl TaX rfl HK.ae W3.heap.size rfl HG.ae WC WC hbase ?_
    intro v4 w4 o4 g4
    have b4:=bj HK.ae g4 hbase
    have O4:=aa o4
    clear o4 g4 HK HG))
 go_roundw;case rel=>exact ZdL
 case measure=>simp[intOf];omega):p:=h
theorem ziw.Kct(h:p:=by have bN:=ah W3 (.cells #[ag v] 5);have hG:=aB.new W3 5 #[ag v];open zgF in exact Zeq):p:=h
theorem zc5.Kay(h:p:=by open ziw in exact Zhv):p:=h
theorem ZaI(h:p:=by open zc5 in exact Zbc):p:=h
theorem ZaJ(h:p:=by
 have cQ:=λ y:Ext W.heap.size W=>(lf.later y.h).cell 0
 simp only[getElem?_toArray,getElem?_cons_zero] at cQ;have bI:w.heap.size<=w.heap.size+1:=by omega
 exact Kap):p:=h
theorem ze2.Ka6(h:p:=by exact Kaq):p:=h
theorem ZaK(h:p:=by open ze2 in exact ZcO):p:=h
theorem zgq.KbE(h:p:=by have vV:=aa (nc D s Kx f WC WC);exact ZbW):p:=h
theorem zfd.Kba(h:p:=by have u5_:decide (f < b)=true:=decide_eq_true k5;open zgq in exact Zek):p:=h
theorem ZaL(h:p:=by
 clear HS;obtain⟨i,j,pn,hi,hj,EE,rfl,rfl,hs⟩:=hrel;have H2:=aa hs;clear hs;by_cases hlt:i < j
 ·exact Z0
 ·open zfd in exact ZcW):p:=h
theorem ZaM(h:p:=by
 have HA:=aa hA;have HE:=aa hE;clear hA hE;go_enter Tryz.func150,Tryz.ntmps150;go_wp2_with fail;go_loopw [5,8] (λ _ i wr=>∃k:Nat,k<=args.length/\i=af k/\(∀j,j < k->(args.map (·.2)).getD j false=false)/\aj w wr) (λ _ i _=>args.length - (intOf i).toNat);case atStart=>exact Ze8
 case round=>
  obtain⟨k,hk,rfl,hp,hb⟩:=hrel;have HK:=aa hp;clear hp;by_cases hlt:k < args.length
  ·obtain⟨b,off,rfl,kz,hex⟩:=(HA.ae.below hb).at_ (show k <(args.map (·.1)).length by simpa using hlt);have js:(args.map (·.1))[k]' Tan=args[k].1:=by simp
   rw[js] at hex;clear js;have gu:=HE.ae args[k] (getElem_mem hlt);have hS:=Bv hlt;generalize args[k]=yb at*;obtain⟨y,sb⟩:=yb;dsimp only at*;have HS:=aa hS;have oH:=aa gu;clear hS gu;unfold cw at hex;go_wp2_with fail;refine(oH.ae _ hb).mono ?_;rintro e w1 ⟨rfl,hB⟩;have hb1:=ai.then hb hB;clear hex hB hb;exact Zam
  ·exact Zdf):p:=h
theorem ZaN(h:p:=by
 have HQ:=aa (aB.new w 46 #[ag 0,ag 0,af 0,au,au,af 0,az]);have hsz:(w.alloc qp).heap.size=w.heap.size+1:=by simp
 unfold qp at*;go_enter Tryz.func184,Tryz.ntmps184;go_wp2_with (first
  |(go_at_call 87;refine hm.mono ?_;rintro e w1 ⟨rfl,d1⟩)
  |(go_at_call 184;refine(H ρ w1 d1.at_).mono ?_;rintro e w2 ⟨y,rfl,ht,d2⟩;unfold mn bF;have D:=(eG.cY h hb).trans (d1.trans d2);have yS:=d2.blk (d1.blk HQ.ae WC) WC;have hqs:=d2.size;have asX:=d1.size;have mU:=yS.alloc (.cells #[ag y.op,ag y.v.k,af y.v.n,.string y.v.s,.string y.name,af y.width,.slice y.A y.n y.c] 46);obtain⟨z0,z1,z2,z3,z4,z5,z6⟩:=eo mU;obtain⟨y0,y1,y2,y3,y4,y5,y6⟩:=bR mU;obtain⟨x0,x1,x2,x3,x4,x5,x6⟩:=dr (aB.new w2 46 (bF y).toArray);unfold bF at x0 x1 x2 x3 x4 x5 x6))
 have HP:=ep mU y;have HR:=dr HP;unfold dV at HR;obtain⟨r0,r1,r2,r3,r4,r5,r6⟩:=HR;refine bodyPost_ret (v:=mn y) Zd6 rfl ?_
 ·exact Nr.put eh (Nat.le_refl _) (D.later (ah w2 _)) ((ht.later (ah w2 _)).more WC)):p:=h
theorem ZaO(h:p:=by simp only[Uaa] at Kx;exact ZdA):p:=h
theorem ZaP(h:p:=by
 simp only[take_succ_cons,take_zero];refine⟨?_,Z1,Z1,Z1,?_,?_,Z1,Z1,Z1,Z1,?_,trivial⟩
 ·intro ρ w3 hc hL hr;have h0:_=_:=hr.1;have cJ:=VJ.ae.later hL;exact Zbi
 ·intro ρ w3 hc hL hr;have h0:_=_:=hr.1;have jq:=(hL.cell (p:=⟨gp,10,none⟩) Qi.ae).trans Nx.ae;exact Zdz
 ·intro ρ w3 hc hL hr;have h0:_=_:=hr.1;have h1:_=_:=hr.2.1;have e1:=hc.func 59;refine bu (f:=59) (args:= #[.agg (ay KK),.slice VA s1.aL.length vc]) (w':=w3) Tar ?_;exact ZfW
 ·exact Z1):p:=h
theorem zft.Kbh(h:p:=by obtain⟨⟨y,z⟩,sb⟩:=yb;dsimp only at*;have HS:=aa hS;have oH:=aa gu;clear hS gu;unfold cw at hex;exact Ze7):p:=h
theorem ZaQ(h:p:=by
 go_wp2_with fail;go_loopw [5,8] (λ _ i wr=>∃k:Nat,k<=args.length/\i=af k/\(∀j,j < k->(args.map (·.2)).getD j false=false)/\aj w wr) (λ _ i _=>args.length - (intOf i).toNat);case atStart=>exact Ze8
 case round=>
  obtain⟨k,hk,rfl,hp,hb⟩:=hrel;have HK:=aa hp;clear hp;by_cases hlt:k < args.length
  ·open zft in exact Zdp
  ·exact Zdf):p:=h
theorem ZaR(h:p:=by intro ρ w3 hc hL hr;have h0:_=_:=hr.1;exact aq (v:=.pointer (some ⟨gp,0,none⟩)) (w':=w3) Tai ⟨AR.refl _,rfl⟩):p:=h
theorem ZaS(h:p:=by
 simp only[BV,Bool.and_eq_true,beq_iff_eq,Option.isNone_iff_eq_none] at BW;obtain⟨⟨⟨⟨⟨⟨⟨⟨⟨⟨⟨⟨⟨⟨⟨⟨⟨⟨⟨⟨⟨⟨⟨⟨⟨⟨⟨⟨t0,s0⟩,t1⟩,m2⟩,t2⟩,m0⟩,t3⟩,m3⟩,t4⟩,s4⟩,t5⟩,s5⟩,s5'⟩,t6⟩,s6⟩,e0⟩,e1⟩,e2⟩,e3⟩,e4⟩,e5⟩,e6⟩,g0⟩,g1⟩,g2⟩,g3⟩,g4⟩,g5⟩,g6⟩:=BW;have Xt:qb < w0.heap.size:=(by rcases Nat.lt_or_ge qb w0.heap.size with h | h;exact h;exact absurd hcell (by unfold World.cell?;rw[Array.getElem?_eq_none h];simp))
 have vT:∀ {y w1 gG w},ai w0 w1->Post y w1 gG->ai gG w->w.cell? ⟨qb,k,none⟩=some lv/\aF f e size w base lv l/\w0.heap.size<=w.heap.size:=by
  intro y w1 gG w ha hb hc;have hg:=Sx _ _ _ hb;have z1:qb < w1.heap.size:=Nat.lt_of_lt_of_le Xt ha.size;have z2:qb < gG.heap.size:=Nat.lt_of_lt_of_le z1 hg.size;refine⟨?_,?_,Nat.le_trans ha.size (Nat.le_trans hg.size hc.size)⟩
  ·rw[hc.cell (p:=⟨qb,k,none⟩) z2,pj hg (p:=⟨qb,k,none⟩) z1 (λ e=>TK Tbi),ha.cell (p:=⟨qb,k,none⟩) Xt];exact hcell
  ·exact((hown.later ha).grown hg Xs).later hc
 exact Kar):p:=h
theorem ZaT(h:p:=by
 simp only[take_succ_cons,take_zero];refine⟨?_,Z1,Z1,Z1,Zcc,?_,Z1,Z1,Z1,Z1,?_,trivial⟩
 ·intro ρ w3 hc hL hr;have h0:_=_:=hr.1;have jq:=(k1.later hL).cell;have c0:=jq 0;have c1:=jq 1;have c2:=jq 2;have y3:=jq 3;have c4:=jq 4;have c5:=jq 5;have c6:=jq 6;exact Zdt
 ·intro ρ w3 hc hL hr;have h0:_=_:=hr.1;have h1:_=_:=hr.2.1;have e1:=hc.func 59;refine bu (f:=59) (args:= #[.agg (ay y),cV]) (w':=w3) Tar ?_;exact ZfW
 ·exact Z1):p:=h
theorem zgp.KbE(h:p:=by have vV:=aa (nc D s Kx f WC WC);generalize bc D s Kx f=R at*;go_wp2_with fail;refine(IH.ae a s mid R _ WC WC WC WC H3.ae Q1.ae HFN.ae).mono ?_;rintro e_ w6 ⟨rfl,E,hs,hw,ho⟩;have H4:=aa hs;have HW:=aa hw;have HO:=aa ho;clear hs hw ho H3;exact Zag):p:=h
theorem zhn.KbZ(h:p:=by have u1_:decide (Kx < f)=true:=decide_eq_true k1;have u2_:decide (a < s)=true:=decide_eq_true k2;have u3_:decide (s < mid)=true:=decide_eq_true k3;have u4_:decide (mid < f)=true:=decide_eq_true k4;have u5_:decide (f < b)=true:=decide_eq_true k5;open zgp in exact Zek):p:=h
theorem ZaU(h:p:=by
 clear HS;obtain⟨i,j,pn,hi,hj,EE,rfl,rfl,hs⟩:=hrel;have H2:=aa hs;clear hs;by_cases hlt:i < j
 ·exact Z0
 ·open zhn in exact Zfi):p:=h
theorem ZaV(h:p:=by
 intro ρ w3 hc hL hr;cases gd
 ·exact ZfX
 ·skip;cases nz
  ·exact ZcG
  ·skip;intro hg;have hg:ρ (.tmp 26)=.bool true:=hg;exact Zah):p:=h
theorem zeD.KaZ(h:p:=by exact bodyPost_ret (v:=.tuple #[.agg #[ag 0,af 0,.string ByteArray.empty],af 40]) Taf rfl ⟨congrArg (λ r:Val×Int=>Ending.returned (bQ r.1 r.2)) MY.ae.symm,((hB.setCell bI _).setCell bI _).setCell bI _⟩):p:=h
theorem ZaW(h:p:=by have MY:=aa (Nl.ae (aN,40) (by unfold iN;simp only[map_cons,map_nil];rw[sW.ae,hs,if_pos rfl]));open zeD in exact Zct):p:=h
theorem ZaX(h:p:=by have c0:=cJ.cell 0;have c1:=cJ.cell 1;have c2:=cJ.cell 2;have y3:=cJ.cell 3;have c4:=cJ.cell 4;have c5:=cJ.cell 5;have c6:=cJ.cell 6;have c7:=cJ.cell 7;simp only[Uaa] at c0 c1 c2 y3 c4 c5 c6 c7;exact Kas):p:=h
theorem ZaY(h:p:=by simp only[execOp,resolve,invoke,builtin,Sem.run_bind,Sem.run_pure,Result.andThen_ok,map_toArray,map_cons,map_nil,xf,Ed,mV]):p:=h
theorem ZaZ(h:p:=by
 go_wp2_with fail;refine hi.mono ?_;rintro e w1 ⟨rfl,b1⟩;clear hi;by_cases h:0<=fU (args.map (·.2))
 ·have t1:=decide_eq_true h;go_wp2_with fail;go_ret;exact⟨by rw[t1];rfl,b1⟩
 ·have t1:=decide_eq_false h;go_wp2_with fail;go_ret;exact⟨by rw[t1];rfl,b1⟩):p:=h
theorem Za0(h:p:=by simp[intOf];omega):p:=h
theorem Za1(h:p:=by refine⟨rfl,?_⟩;unfold qD at hG;rw[if_neg Taa];show(execOp ρ _).run Tryz.prog w9a=.ok (.value (aw gp)) w9a;simp[go_sem,r0]):p:=h
theorem zgr.KbE(h:p:=by have vV:=aa (nc D s Kx f WC WC);exact Zaj):p:=h
theorem zfe.Kba(h:p:=by have u5_:decide (f < b)=false:=decide_eq_false k5;open zgr in exact Zek):p:=h
theorem Za2(h:p:=by
 clear HS;obtain⟨i,j,pn,hi,hj,EE,rfl,rfl,hs⟩:=hrel;have H2:=aa hs;clear hs;by_cases hlt:i < j
 ·exact Z0
 ·open zfe in exact ZcW):p:=h
theorem Za3(h:p:=by simp[results,Tryz.results42,go_sem,c0,c1,c2,y3,o4,o5]):p:=h
theorem Za4(h:p:=by
 refine(FN (s.extract at_ k) _ (by rw[ByteArray.size_extract];omega)).mono ?_;rintro e w1 ⟨rfl,b1⟩;have HE:=aa (show(s.extract at_ k).data.toList=(s.data.toList.drop at_).takeWhile eQ by rw[<- mF.ae];exact mR eQ s at_);obtain⟨z0,z1,z2,z3,y0,y1,y2,y3⟩:=bO (HZ.ae.later b1);rw[HE.ae];go_wp2_with fail;refine bodyPost_ret (v:=.tuple #[.agg #[ag 1,.string ⟨(((s.data.toList.drop at_).takeWhile eQ).map vK).toArray⟩,af 0,af at_],af k,af 0]) ZbF rfl ?_
 ·rw[Z4.ae,mF.ae,if_pos h32];unfold zM;simp only;rw[vO eQ s WC,mF.ae];exact⟨rfl,vP (bb.trans (b1.mono bb.size)) (Nat.le_refl _) _ _ _ _⟩):p:=h
theorem Za5(h:p:=by
 simp only[take_succ_cons,take_zero];refine⟨Z1,Z1,Z1,?_,Zfz,Z1,Z1,Z1,?_,trivial⟩
 ·intro ρ w3 hc hL hr;have h0:_=_:=hr.1;have h1:_=_:=hr.2.1;exact aq (v:=ba lb j) (w':=w3) (by have uW:=HJL.ae;simp[go_sem,h0,h1,uW,dQ];done) ⟨ai.refl _,rfl⟩
 ·exact ZfM):p:=h
theorem zdR.KaK(h:p:=by go_wp2_with fail;have gZ:=uv.ae.blk;unfold PC.cells at gZ;have Kx:=gZ.cell 8;simp only[Uaa] at Kx;refine(Tr.Le (by have:=ia.ae.cl;omega) gp t z w2 kx.ae (CD.ae.later uv.ae.base) ((ia.ae.cols.later uv.ae.base)) gZ.lt Kx).mono ?_;rintro e w3 ⟨rfl,hb3⟩;have Mi:=aa (uv.ae.later hb3);have DX:=aa (Av.ae.later hb3);have hb:=XB.ae.later hb3;have tq:=aa (ai.then fG.ae hb3);clear z0 z1 x2 x3 x4 x5 x6 Kx gZ hb3 Av XB fG uv;rw[ht];dsimp only;exact Kat):p:=h
theorem zfT.Kbr(h:p:=by rw[CF,ha] at pn;have HIS:=aa pn;have UY:=aa CF;clear c8 Kx c10 hb1 hf pn CF Gn qu;go_wp2_with fail;have Vj:=aa kB;have Ly:=aa Lw;have hop:=UY.ae;rw[hop];refine(HIS.ae w1).mono ?_;rintro e w2 ⟨rfl,hb2⟩;rw[<- hop];have uv:=aa (CE.ae.later hb2);have rC:=Vj.ae.later hb2;have XB:=aa (Ly.ae.later hb2);have fG:=aa (ai.then zJ.ae (ai.then eB.ae hb2));clear hxo kB Lw hb2 hop Vj Ly eB CE;open zdR in exact ZbX):p:=h
theorem Za6(h:p:=by open zfT in exact ZdS):p:=h
theorem zgU.KbN(h:p:=by exact Kau):p:=h
theorem Za7(h:p:=by open zgU in exact Zey):p:=h
theorem Za8(h:p:=by have HE:=aa hr;clear hr;have dv:=aG hR;have gV:=aB.frozen hR;clear hR;go_wp2_with fail;exact bodyPost_ret (v:=.tuple #[.agg (aD r.1),af r.2]) (by simp[results,Tryz.results167,go_sem,dv]) rfl ⟨by rw[HE.ae];rfl,((hB.setCell (bI) _).setCell (bI) _).setCell (bI) _⟩):p:=h
theorem zeI.Ka0(h:p:=by
 have hsm:=h.small;unfold qp at*;unfold dt.ptr;go_enter Tryz.func184,Tryz.ntmps184;go_wp2_with (first
  |(go_at_call 184;refine(H1 ρ _ h0).mono ?_;rintro e w2 ⟨y,rfl,ht,d2⟩;unfold mn bF))
 have hA:AtC ρ w w.heap.size w2.heap.size (w2.alloc (uh y)) _ t y:=
  ⟨((eG.cY h hb).trans d2).later (ah _ _),aB.new w2 _ _,(d2.blk HQ.ae WC).alloc _,Tr.at_.keep (OV _ (by rw[hsz];exact Nat.le_refl _)) _ _ ht⟩
 have hqx:w.heap.size+1<=w2.heap.size:=by have:=d2.size;omega
 unfold uh bF at hA;generalize w2.alloc _=W at*;generalize w2.heap.size=qx at*;have A:=hA;clear hA ht d2 h0 hb HQ;have Hy:=cq ρ W _ false A.did.at_ ⟨#[105,115]⟩ pn;have ahx:=aa hop;clear hop pn;refine Hy.mono ?_;rintro e w1 ⟨rfl,d1⟩;replace A:=A.more d1 WC WC;clear d1 Hy;go_wp2_with fail;have HA:=aa A;clear A;exact Kav):p:=h
theorem Za9(h:p:=by intro ρ w h;have H1:=H;clear H;open zeI in exact Zcw):p:=h
theorem Zba(h:p:=by have NC:=aa tL;have ur:=aa mq;clear h hF ih q1 q2 q3 q4 q5 gj hp hf tL mq;go_enter Tryz.func106,Tryz.ntmps106;go_wp2_with fail;clear t0 t1 zm zp zs;exact Kaw):p:=h
theorem zgL.KbK(h:p:=by have oy:=aa Au;have F2:=aa Tn;have Ag:=aa C3;have gX:=aa hz;have G9:=aa Nj;exact Kax):p:=h
theorem Zbb(h:p:=by open zgL in exact Zer):p:=h
theorem Zbc(h:p:=by rw[js] at hex;clear js;have gu:=HE.ae args[k] (getElem_mem hlt);have HT:=aa (show args.take (k+1)=args.take k++ [args[k]] by rw[take_add_one,getElem?_eq_getElem hlt];rfl);generalize args[k]=yv at*;obtain⟨y,v⟩:=yv;dsimp only at*;unfold cw at hex;exact Kay):p:=h
theorem Zbd(h:p:=by rw[bg] at Uy;have Io:=aa Uy;clear Uy;go_wp2_with fail;refine(Io.ae _).mono ?_;rintro e w2 ⟨rfl,b3⟩;clear z0 z1 x2 x3 x5 x6 x0 x1 z2 z3 z4 z5 c0 c1 c2 y3 o4 o5 rf;replace k1:=k1.later b3;replace hR:=hR.later b3;replace cJ:=cJ.later b3;replace hB:=ai.then hB b3;replace HX:=aa (HX.ae.later b3);clear b3;have z0:=k1.cell 0;have z1:=k1.cell 1;have x2:=k1.cell 2;have x3:=k1.cell 3;have x5:=k1.cell 5;have x6:=k1.cell 6;have x0:=hR.cell 0;have x1:=hR.cell 1;have z2:=hR.cell 2;have z3:=hR.cell 3;have z4:=hR.cell 4;have z5:=hR.cell 5;have c0:=cJ.cell 0;have c1:=cJ.cell 1;have c2:=cJ.cell 2;have y3:=cJ.cell 3;have o4:=cJ.cell 4;have o5:=cJ.cell 5;have rf:=cJ.frozen;unfold cI at x0 x1 z2 z3 z4 z5;simp only[Uaa] at z0 z1 x2 x3 x5 x6 x0 x1 z2 z3 z4 z5 c0 c1 c2 y3 o4 o5;exact Kaz):p:=h
theorem Zbe(h:p:=by have x0:=hR.cell 0;have x1:=hR.cell 1;have z6:=hR.cell 6;have c0:=cJ.cell 0;have c1:=cJ.cell 1;have c2:=cJ.cell 2;have y3:=cJ.cell 3;have o4:=cJ.cell 4;have o5:=cJ.cell 5;simp only[Uaa] at x0 x1 z6 c0 c1 c2 y3 o4 o5;go_wp2_with fail;exact KaA):p:=h
theorem Zbf(h:p:=by
 go_wp2_with fail;refine(fF x.op _).mono ?_;rintro e w9 ⟨rfl,rfl⟩;by_cases hn:(x.n:Int)=nj x.op
 ·have t1:((x.n:Int)==nj x.op)=true:=by simpa using hn
  have pW:=aa (show bP x=42 by simp only[bP];rw[if_neg Tal,if_neg Tal,if_pos hn]);exact Zbx
 ·have t1:((x.n:Int)==nj x.op)=false:=by simpa using hn
  have pW:=aa (show bP x=21 by simp only[bP];rw[if_neg Tal,if_neg Tal,if_neg hn]);exact Zby):p:=h
theorem Zbg(h:p:=by rintro e4 w4 ⟨rfl,b4⟩;exact⟨_,rfl,b4,rfl⟩):p:=h
theorem Zbh(h:p:=by refine wpQuiet_nil ?_;rintro w3 ⟨y2,fP⟩;have hL:=y2.h;rw[<- fP] at hL;clear fP y2 cV cU cQ;replace hR:=hR.later hL;replace hB:=ai.then hB hL;exact KaB):p:=h
theorem Zbi(h:p:=by have c0:=cJ.cell 0;have c1:=cJ.cell 1;have c2:=cJ.cell 2;have y3:=cJ.cell 3;have c4:=cJ.cell 4;have c5:=cJ.cell 5;have c6:=cJ.cell 6;exact Zdt):p:=h
theorem zf6.Kbw(h:p:=by clear x6;exact KaC):p:=h
theorem zeV.Ka3(h:p:=by rw[<- hg] at HX ⊢;clear hg;have HA:=aa Uq;have Ze:=aa Zd;have BC:=aa Im;have HE:=aa hE;clear Uq Zd Im hE;open zf6 in exact Zd5):p:=h
theorem Zbj(h:p:=by have HX:=aB.new w 46 #[ag op,ag xv.k,af xv.n,.string xv.s,.string name,af width,.slice A n c];have hB:=ah w (.cells #[ag op,ag xv.k,af xv.n,.string xv.s,.string name,af width,.slice A n c] 46);have Zd:=(hB.cell (p:=⟨gp,8,none⟩) sx).trans Zc;have Im:=Nat.lt_of_lt_of_le sx hB.size;have Uq:=hA.later hB;clear hA Zc sx;go_enter Tryz.func153,Tryz.ntmps153;open zeV in exact ZcH):p:=h
theorem Zbk(h:p:=by
 refine qI aZ hz 0 zs rfl listed a w I.len ?_ hK;intro i hi;constructor
 ·intro hl;rcases Nat.lt_or_ge i l.length with h' | h'
  ·omega
  ·rw[I.tail i h'] at hl;cases hl
 ·intro hl;exact hall i WC):p:=h
theorem Zbl(h:p:=by intro ρ w3 hc hL hr;have h0:_=_:=hr.1;have jq:=(Q3.ae.later hL).cell 0;simp only[getElem?_toArray,getElem?_cons_zero] at jq;exact Zdz):p:=h
theorem Zbm(h:p:=by
 simp only[take_succ_cons,take_zero];refine⟨Z1,Z1,Z1,?_,?_,Z1,Z1,?_,trivial⟩
 ·intro ρ w3 hc hL hr;have h0:_=_:=hr.1;have h1:_=_:=hr.2.1;exact aq (w':=w3) (by simp[go_sem,h0,h1,IntKind.wrap_i64];omega) ⟨ai.refl _,rfl⟩
 ·intro ρ w3 hc hL hr;have h0:_=_:=hr.1;have h1:_=_:=hr.2.1;have hs:=Ew w3;exact ZcN
 ·intro ρ w3 hc hL hr;have h0:_=_:=hr.1;have h1:_=_:=hr.2.1;have hs:=PN w3;exact ZcN):p:=h
theorem zgW.KbO(h:p:=by have HWR:=aa hwr;have JR:=aa hpl;have HG:=aa hg;have Lv:=aa cj;clear hwr hpl hg cj ug;rw[Ph];exact KaD):p:=h
theorem Zbn(h:p:=by obtain⟨t,pl,bd,hpl,hlt,hsm,ug,cj,hg,JO,vz,hp⟩:=h.vS;have DO:=hp.later (ah w pY);have Lu:=hp.later ((ah w (.cells (dE t) 172)).drew);have hb:=(ah w (.cells (dE t) 172)).drew;have HT:=(aB.new w 172 (dE t)).drew;have HB:=aa HT;have HF:=aa (h.later hb);have HD:=aa (eG.cY h hb);have nS:=(h.later hb).facts.2.2.2.2.1;have Ph:ρ.ptr=aw ρ.g:=rfl;have hwr:=pd ρ _ σ big (h.later hb);have hlf:=h.left;have eh:=h.FP;clear h;open zgW in exact Zez):p:=h
theorem Zbo(h:p:=by skip;intro hg;have hg:ρ (.tmp 22)=.bool true:=hg;exact Zal):p:=h
theorem Zbp(h:p:=by go_enter Tryz.func144,Tryz.ntmps144;go_wp2_with fail;go_ret;exact⟨by rw[HQ.ae];rfl,by go_grown⟩):p:=h
theorem Zbq(h:p:=by
 rcases Bc with rfl |⟨pp,rfl⟩
 ·have yz:eZ (ar f0 #[.agg #[ag op,ag xv.k,af xv.n,.string xv.s,.string name,af width,.slice A 2 c],.slice A8 2 c8] _ _):=DN.ae;exact ZeW
 ·have yz:eZ (ar f0 #[.agg #[ag op,ag xv.k,af xv.n,.string xv.s,.string name,af width,.slice A 2 c],.slice A8 2 c8,pp] _ _):=DN.ae;exact ZeW):p:=h
theorem Zbr(h:p:=by go_wp2_with fail;refine(oh _ (HIN.ae.env.later HB.ae)).mono ?_;exact ZdU):p:=h
theorem Zbs(h:p:=by
 rcases Bc with rfl |⟨pp,rfl⟩
 ·have yz:eZ (ar f0 #[.agg #[ag op,ag xv.k,af xv.n,.string xv.s,.string name,af width,.slice A 1 c],.slice A8 1 c8] _ _):=DN.ae;exact Ze3
 ·have yz:eZ (ar f0 #[.agg #[ag op,ag xv.k,af xv.n,.string xv.s,.string name,af width,.slice A 1 c],.slice A8 1 c8,pp] _ _):=DN.ae;exact Ze3):p:=h
theorem Zbt(h:p:=by go_ret;exact Zfo):p:=h
theorem Zbu(h:p:=by have z0:=rC.cell 0;have z1:=rC.cell 1;have x2:=rC.cell 2;have x3:=rC.cell 3;have x4:=rC.cell 4;have x5:=rC.cell 5;have x6:=rC.cell 6;simp only[bF,Uaa] at z0 z1 x2 x3 x4 x5 x6;exact KaE):p:=h
theorem Zbv(h:p:=by
 go_enter Tryz.func44,Tryz.ntmps44;go_wp2
 all_goals
  go_ret;refine⟨?_,by go_grown⟩;simp_all):p:=h
theorem Zbw(h:p:=by
 intro vs w hl hG;have Eo:=BX _ _ hG
 match vs,hl with
 | [a,s,v],_=>obtain⟨y,w1,gG,w2,ha,h2,h3,h4,h5,h6,h7,h8⟩:=hG;simp only[bD,e0,e1,e2,e3,e4,e5,e6];intro a0' p0 a1 p1 a2 p2 a3 p3 a4 p4 a5 p5 a6 p6;have z0:a0'=ba qb k:=p0;have z1:a1=lv:=p1;have z2:a2=ptr:=p2;have z3:some a=some a3:=p3;have z4:some s=some a4:=p4;have z5:some v=some a5:=p5;have z6:a6=ba qb k:=p6;injection z3 with z3;injection z4 with z4;injection z5 with z5;rw[z0,z1,z2,<- z3,<- z4,<- z5,z6,ha];exact lZ y s v w1 gG w2 w h2 h3 h4 h5 h6 h7 h8 Eo):p:=h
theorem Zbx(h:p:=by
 go_wp2_with fail;refine bodyPost_ret (v:=.tuple #[.agg #[af a,ag wa,ag gi,.bool al,.bool nu,d],af 42]) Za3 rfl ?_
 ·exact ZaG):p:=h
theorem Zby(h:p:=by
 go_wp2_with fail;refine bodyPost_ret (v:=.tuple #[.agg #[af a,ag wa,ag gi,.bool al,.bool nu,d],af 21]) Za3 rfl ?_
 ·exact ZaG):p:=h
theorem Zbz(h:p:=by skip;intro hg;have hg:ρ (.tmp 26)=undef:=hg;exact Zal):p:=h
theorem ZbA(h:p:=by obtain⟨q,h1,h2⟩:=h;exact⟨q,h1,hk _ _ _ h2⟩):p:=h
theorem ZbB(h:p:=by
 have HE:=aa he;have t1:(!y==n.toList)=true:=by rw[xJ.ae];rw[beq_eq_false_iff_ne] at he;simp;exact λ e=>he e.symm
 clear he;go_wp2_with fail;go_roundw;case rel=>refine⟨k+1,by omega,by go_num,HP.ae,?_⟩;rw[DU.ae,HST.ae,HE.ae];rfl
 case measure=>exact Za0):p:=h
theorem ZbC(h:p:=by go_wp2_with fail;go_ret;exact YES.ae _ eB.ae):p:=h
theorem ZbD(h:p:=by
 obtain⟨v',w',hr,ho,ha⟩:=fc t ty z bytes ht jr hzs hsz hf h1 hown g0 hg0 hlen mD hbase;obtain⟨i0,kR,hz0,hz1,hz2⟩:=info_parts jr;obtain⟨v2,w2,hr2,_,_,h4⟩:=ja (P:=P) w base t ty e i0 z size bytes ht kR hz0 hz1 hz2 hzs hsz lv l.length (l.flatMap f) hown (g0+1) (some ⟨g0,0,none⟩) 1 1 (f y) ⟨by rw[hf];omega,λ _=>⟨_,rfl,Nat.lt_succ_self _,by
  intro j u hu
  have:(Addr.add ⟨g0,0,none⟩ j)=⟨g0,j,none⟩:=by unfold Addr.add;split <;> simp_all
  rw[this,hg0.cell]
  simpa using hu⟩⟩ h1 Tam hlen hbase
 rw[hr] at hr2;injection hr2 with e1 e2;subst e1 e2;exact KaF):p:=h
theorem ZbE(h:p:=by have HF:=jh ⟨by omega,by omega⟩ Q5.ae HW.ae .refl HO.ae H6.ae;have wZ:=aa HF.1;have qA:=aa ((vV.ae.mono WC WC).trans HF.2);exact bodyPost_ret (v:=.tuple #[]) TaI rfl ⟨rfl,E,H4.ae,qA.ae,wZ.ae⟩):p:=h
theorem ZbF(h:p:=by simp[results,Tryz.results132,go_sem,z0,z1,z2,z3]):p:=h
theorem ZbG(h:p:=by
 rw[length_set,Mk hf y l i rW];simp only[toList_toArray,size_toArray,hf];rw[<- ht,take_take,Nat.min_eq_left WC,drop_take];have hA:(cur.toList.take (i*size)).length=i*size:=by rw[length_take,Array.length_toList];omega
 have hF:(f y).length=size:=hf y;rw[append_assoc,take_append,hA,take_of_length_le (by rw[hA];omega),take_append,hF,take_of_length_le (l:=f y) (by rw[hF];omega),append_assoc,Nat.sub_sub]):p:=h
theorem ZbH(h:p:=by
 have t1:(op==1)=false:=by simpa using h1
 have Bb:op≠2:=by
  intro e2;rcases Hq.ae with h | h
  ·exact h e2
  ·exact h (se mF.ae e2)
 have t2:(op==2)=false:=by simpa using Bb
 obtain⟨Hs,nk,hwd⟩:=AW mF.ae Bb h1;clear Bb;dsimp only at Hs nk hwd;have agC:3<=op/\op<=20:=by simpa [kF] using Hs
 have RD:((op.toNat:Nat):Int)=op:=by omega
 have hOp:gC (W3.alloc (.cells #[af a,ag wa,ag gi,.bool al,.bool nu,d] 100)) op.toNat (.agg (cI a wa gi al nu d)):=by
  rcases HOI.ae with ⟨_,h⟩|⟨h,_⟩
  ·exact h
  ·dsimp only at h;rw[Hs] at h;cases h
 have Ht:=hOp.fields;exact KaG):p:=h
theorem ZbI(h:p:=by have z0:=VG.cell 0;have z1:=VG.cell 1;have x2:=VG.cell 2;have f0:=VG.frozen 0;have f1:=VG.frozen 1;have f2:=VG.frozen 2;simp only[Uaa] at z0 z1 x2;exact KaH):p:=h
theorem ZbJ(h:p:=by
 rw[if_neg WC,if_neg WC,if_neg WC,if_pos WC];unfold St.alone;split
 ·exact Zft
 ·rename_i hk;obtain⟨r1,r2,r3,r4⟩:=sq { s with all:=s.all+1 } x.1 aN;exact ZeA):p:=h
theorem ZbK(h:p:=by
 rw[if_neg WC,if_neg WC,if_neg WC,if_neg WC];unfold St.Bn;split
 ·rename_i hk;obtain⟨r1,r2,r3,r4⟩:=sq { s with all:=s.all+1 } x.1 x.2;exact ZeA
 ·exact Zft):p:=h
theorem ZbL(h:p:=by
 by_cases h0:bM v v'=0
 ·have t0:(bM v v' != 0)=false:=by simpa using h0
  have HD':=aa ((HS.ae.trans (if_pos h0)).symm.trans HD.ae);clear h0;go_wp2_with fail;go_roundw;case rel=>exact⟨k+1,hlt,Bq,by go_num,HD'.ae,hB⟩
  case measure=>exact Za0
 ·have t0:(bM v v' != 0)=true:=by simpa using h0
  have HD':=aa ((HS.ae.trans (if_neg h0)).symm.trans HD.ae);clear h0;go_wp2_with fail;go_ret;exact⟨by rw[HD'.ae];rfl,hB⟩):p:=h
theorem ZbM(h:p:=by have h0:_=_:=hr.1;exact aq (w':=w3) Tai ⟨ai.refl _,rfl⟩):p:=h
theorem ZbN(h:p:=by exact aq (v:=v') (w':=w') (by simp only[execOp,resolve,invoke,builtin,Sem.run_bind,Sem.run_pure,Result.andThen_ok,map_toArray,map_cons,map_nil,h0,h1,hrun]) ⟨yy,_,rfl,ho,En.later hL.grown.size⟩):p:=h
theorem ZbO(h:p:=by exact aq (w':=w3) (by simp[go_sem,h0,Kx,<- IH.ae];done) ⟨ai.refl _,rfl⟩):p:=h
theorem ZbP(h:p:=by intro ρ w3 hc hL hr;intro hg;have hg:ρ (.tmp 45)=.bool true:=hg;refine⟨λ _=>?_,λ hn=>absurd hg hn⟩;exact KaI):p:=h
theorem ZbQ(h:p:=by
 intro vs w h
 match vs,h with
 | [],h=>rw[ai.cell h (p:=⟨qb,k,none⟩) Xt];exact hcell
 | [a],⟨y,w1,gG,_,h2,h3,h4⟩=>exact(vT h2 h3 h4).1
 | [a,s],⟨y,w1,gG,_,_,_,h2,h3,h4,_⟩=>exact(vT h2 h3 h4).1
 | [a,s,v],⟨y,w1,gG,w2,_,h2,h3,h4,_,h6,_,_⟩=>obtain⟨k1,_,k3⟩:=vT h2 h3 h4;rw[pj h6 (p:=⟨qb,k,none⟩) (Nat.lt_of_lt_of_le Xt k3) (λ e=>hlq e.symm)];exact k1
 | _::_::_::_::_,h=>exact h.elim):p:=h
theorem ZbR(h:p:=by rintro e w4 ⟨rfl,d4⟩;go_wp2_with fail;refine(Ca HF.ae IH.ae ρ _ d4.at_).mono ?_;rintro e w5 ⟨n,hn,rfl,d5⟩;have HN:=aa hn;clear hn;go_wp2_with fail;have hwd:=lF ρ _ _ false d5.at_ ⟨#[40]⟩;exact KaJ):p:=h
theorem ZbS(h:p:=by
 intro ρ w vs hc hG hr;rw[t4] at hr;have r0:=hr.1;simp only[s4] at r0;refine⟨g4,?_⟩;show vs.length=1->_;intro hl
 match vs,hl with
 | [a],_=>have r0:some a=some (ρ (.tmp d3)):=r0;injection r0 with r0;obtain⟨y,w1,gG,ha,h2,h3,h4⟩:=hG;refine aq (JM ρ w y (r0.symm.trans ha)) ?_;exact⟨y,w1,gG,w.heap.size,ha,rfl,h2,h3,h4.trans ((Below.refl _ _).alloc (Nat.le_refl _) _),aB.new w e _⟩):p:=h
theorem ZbT(h:p:=by
 go_wp2_with fail;refine bodyPost_ret (v:=.tuple #[.agg #[af a,ag wa,ag gi,.bool al,.bool nu,d],af 0]) Za3 rfl ?_
 ·exact ZaG):p:=h
theorem ZbU(h:p:=by exact⟨s0,r0,by omega,by omega,by omega,by omega,by rw[NC.ae],by rw[ur.ae],HS.ae⟩):p:=h
theorem ZbV(h:p:=by
 go_roundw
 case rel=>
  refine⟨k+1,dK++ [nl],hlt,by go_num,O4.ae,?_,?_,by simp;exact zL.ae,?_,Ly.ae⟩
  ·intro x hx;rcases List.mem_append.1 hx with hx | hx
   ·exact RW4.ae x hx
   ·rw[mem_singleton] at hx;subst hx;exact⟨N41.ae,N42.ae,HN8.ae.2.2⟩
  ·rw[xZ.ae,AD.ae,map_append,Q7.ae];show _++ [MQ nl]=_++ [_];rw[PJ.ae]
  ·rw[qA.ae];exact B4.ae
 case measure=>exact Za0):p:=h
theorem ZbW(h:p:=by
 generalize bc D s Kx f=R at*;have H6:cD R a mid:=by exact ZfF
 obtain⟨E,hE⟩:∃E,E=R:=⟨_,rfl⟩;have H4:=aa (show SS w0 g n _ E by rw[hE];exact H3.ae);have HW:=aa (show Sw a mid R E by rw[hE];exact .refl);have HO:=aa (show cD E a mid by rw[hE];exact H6);clear hE H6 H3;exact Zag):p:=h
theorem ZbX(h:p:=by have z0:=rC.cell 0;have z1:=rC.cell 1;have x2:=rC.cell 2;have x3:=rC.cell 3;have x4:=rC.cell 4;have x5:=rC.cell 5;have x6:=rC.cell 6;simp only[Uaa] at z0 z1 x2 x3 x4 x5 x6;have Av:=aa rC;clear rC;exact KaK):p:=h
theorem ze9.Ka8(h:p:=by exact KaL):p:=h
theorem ZbY(h:p:=by simp only[Uab];open ze9 in exact ZcU):p:=h
theorem zgX.KbO(h:p:=by go_enter Tryz.func199,Tryz.ntmps199;go_wp2_with fail;go_region;clear c0 c1 c2 d0 d1 d2 d3 y0 y1 y2 z0 z1 z2 z3 x0 v0 v1 v2 v3;obtain⟨u0,u1,u2,u3,_⟩:=bO HT;have xI:=aa HT;clear HT;unfold dE at u0 u1 u2 u3 hb3 x1 x2 nS KK xI HD mU Cb;generalize World.drew _=W at*;exact KaM):p:=h
theorem ZbZ(h:p:=by have JR:=aa hpl;clear h hpl Kx cj ug mV h0 hb HQ;open zgX in exact Zez):p:=h
theorem Zb0(h:p:=by exact⟨rfl,vP bb (Nat.le_refl _) _ _ _ _⟩):p:=h
theorem Zb1(h:p:=by obtain⟨x0,x1,h1,f0⟩:=h;exact⟨x0,x1,h1,f0.later hl⟩):p:=h
theorem Zb2(h:p:=by intro ρ w3 hc hL hr;have h0:_=_:=hr.1;exact aq (v:=aw gp) (w':=w3) Tai ⟨AR.refl _,rfl⟩):p:=h
theorem Zb3(h:p:=by
 rcases h with h |⟨b,off,h1,h2,h3⟩
 ·subst h;simp at hk
 ·exact⟨b,off,h1,h2,h3 k _ (getElem?_eq_getElem hk)⟩):p:=h
theorem Zb4(h:p:=by
 rw[if_neg (by rw[hf];simp),agH];dsimp only;by_cases Hr:bP ⟨op,xv,name,width,none,args.length,0⟩=0
 ·simp only[Hr,ne_eq,not_true_eq_false,↓reduceIte];by_cases h1:op=1
  ·simp only[h1,↓reduceIte]
  ·simp only[h1,↓reduceIte];rw[if_neg];intro ho;exact h2 ⟨ho,se (l:=args) Hr ho⟩
 ·simp only[Hr,ne_eq,not_false_eq_true,↓reduceIte]):p:=h
theorem Zb5(h:p:=by
 go_wp2_with fail
 all_goals
  go_ret;refine⟨?_,rfl⟩;try simp_all
  try rfl):p:=h
theorem Zb6(h:p:=by intro ρ' w' h';simp[go_sem,h']):p:=h
theorem Zb7(h:p:=by go_wp2_with (go_at_call 104;refine(jC _).mono ?_;rintro e w1 ⟨rfl,rfl⟩);go_ret;rw[HT.ae];exact⟨rfl,by go_grown⟩):p:=h
theorem Zb8(h:p:=by
 rcases hb.1 with h1 | h1
 ·have:=(p.rows i hi b e).1;omega
 ·match i with
  | 0=>exact(ew.1 hb.2).2.2.1 e
  | 1=>exact(ew.1 hb.2).2.2.2 e
  | 2=>have:=(h.f.rows 2 WC b e).2.1;omega
  | 3=>have:=(h.f.rows 3 WC b e).2.1;omega
  | 4=>have:=(h.f.rows 4 WC b e).2.1;omega
  | n+5=>have:=(h.f.rows 5 WC b e).2.1;omega):p:=h
theorem Zb9(h:p:=by
 go_wp2_with fail;have bx:=ah wr (.cells (ay y) 46);refine(gu _ (ai.then (ai.then HB.ae hW) bx)).mono ?_;rintro e w1 ⟨rfl,b1⟩;have Kx:=ai.then hW (ai.then bx b1);clear bx hex gu b1;go_wp2_with fail;go_roundw;case rel=>refine⟨k+1,hlt,by go_num,?_,Kx⟩;rw[HT.ae,map_append,map_singleton,xu,HM.ae]
 case measure=>exact Za0):p:=h
theorem Zca(h:p:=by
 simp only[bJ,fA,Tryz.f28,Option.getD_some] at key;have hK2:∀T:Array Value,T.size=252->T.getD 2 undef=aw g2->T.getD 4 undef=aw g4->T.getD 5 undef=aw g5->T.getD 6 undef=aw gp->K { tmps:=T,defers:=d } wr:=λ T hT h2 h4 h5 h6=>hK _ _ (key T hT h2 h4 h5 h6)
 clear hK key;go_wp2_with fail;refine hK2 _ ?_ ?_ ?_ ?_ ?_ <;> rfl):p:=h
theorem Zcb(h:p:=by
 have hmf:∀(fn:Fn) (first cap:Array Value) (w:World),(Instr.makeFunc fn first cap).run Tryz.prog w=.ok (.func fn first cap) w:=λ _ _ _ _=>rfl
 exact KaN):p:=h
theorem Zcc(h:p:=by intro ρ w3 hc hL hr;have h0:_=_:=hr.1;have jq:=(hL.cell (p:=⟨gp,8,none⟩) Qi.ae).trans Nx.ae;exact Zdz):p:=h
theorem Zcd(h:p:=by
 have zA:k < n:=by have:=HN.ae;omega
 obtain⟨b,off,rfl,kz,hex⟩:=(HA.ae.below (Kx.trans (hb.mono Kx.size))).at_ (show k <(args.map (·.1)++bad::post).length by simp;omega);exact KaO):p:=h
theorem Zce(h:p:=by intro ρ w σ hc hG hr he hno;refine⟨rfl,?_⟩;unfold zn at hG;rw[if_pos Taa];have pR:=hno Taa;exact KaP):p:=h
theorem Zcf(h:p:=by intro ρ w9a σ hc hG hr he hno;have r0:ρ (.tmp 6)=aw gp:=(show ρ (.tmp 6)=f 6 from hr.1).trans es0;exact Za1):p:=h
theorem Zcg(h:p:=by
 obtain⟨m,Ac⟩:∃m:Nat,m=(i+j)/ 2:=⟨_,rfl⟩;have zc:((i:Int)+(j:Int))/ 2=(m:Int):=by omega
 simp only[zc];have cf:i<=m:=by omega
 have XM:m < j:=by omega
 clear zc Ac;exact KaQ):p:=h
theorem Zch(h:p:=by
 have hr:=IG _ _ s[i] (aB.new wr 5 #[ag (s[i].toNat:Int)]);have ue:=aa (Sk hc);clear hc;go_wp2_with fail;go_roundw;case rel=>refine⟨i+1,l++ [s[i]],by omega,by go_num,by rw[lY],by rw[length_append,HL.ae];rfl,?_,hb.trans ((ah wr _).mono hb.size)⟩;rw[HM.ae,HD.ae];simp[ue.ae]
 case measure=>exact Za0):p:=h
theorem Zci(h:p:=by
 have HE:=aa (show(s.extract at_ k).data.toList=(s.data.toList.drop at_).takeWhile bC by rw[<- mF.ae];exact mR bC s at_);have hx1:0 <(s.extract at_ k).size:=by have h1:=alX.ae;rw[<- HE.ae] at h1;simpa only[ByteArray.size_data,Array.length_toList] using h1
 have hx2:(s.extract at_ k).size<=4294967280:=by rw[ByteArray.size_extract];omega
 have HN:=aa (yO (s.extract at_ k) W (by rw[HE.ae];exact Si _) hx1 hx2);have Sn:=aa (show(s.data.toList.drop at_).dropWhile bC=s.data.toList.drop k by rw[<- BM,mF.ae]);clear hx1 hx2;obtain⟨z0,z1,z2,z3,y0,y1,y2,y3⟩:=bO HZ.ae;exact KaR):p:=h
theorem Zcj(h:p:=by have MY:=aa (Nl.ae (aN,0) (by unfold iN;simp only[map_cons,map_nil];rw[sW.ae,hs,if_neg Tac,if_pos (by have:=HGI.ae;simp_all)]));go_wp2_with fail;exact bodyPost_ret (v:=.tuple #[.agg #[ag 0,af 0,.string ByteArray.empty],af 0]) Taf rfl ⟨congrArg (λ r:Val×Int=>Ending.returned (bQ r.1 r.2)) MY.ae.symm,((hB.setCell bI _).setCell bI _).setCell bI _⟩):p:=h
theorem Zck(h:p:=by
 refine hwd.mono ?_;rintro e w6 ⟨rfl,b6⟩;have dd:=(((((HD.ae.trans d1).trans d2).trans d3).trans d4).trans d5).later b6;have zP:=(d5.blk (d4.blk (d3.blk (d2.blk (d1.blk mU.ae WC) WC) WC) WC) WC).later b6;have hs6:w.heap.size+2<=w6.heap.size:=by have:=d1.size;have:=d2.size;have:=d3.size;have:=d4.size;have:=d5.size;have:=b6.size;omega
 have Xu:=aa dd;have Pp:=aa zP;clear dd zP d1 d2 d3 d4 d5 b6 hwd KK HD mU xI u0 u1 u2 u3 x1 x2 nS hb3;exact KaS):p:=h
theorem Zcl(h:p:=by
 refine bA 11 (Gt gp 10 VA s1.aL.length vc ty er KK) (mZ _ _ _ _ _ _ _ _) Va Va Va ?_ ?_
 ·exact ZaP
 intro W3 hL;simp only[Uab];rintro a0 - a1 - a2 - a3 - a4 - a5 - a6 - a7 - a8 - _ rfl _ rfl;simp only[bD,Act.put,Uac];have SU:=aa (VJ.ae.later hL);have zZ:=aa (Q7.ae.later hL);exact KaT):p:=h
theorem Zcm(h:p:=by
 clear DY sM GQ ND zU Ts;have hk7:k < 1000000:=by have:=HFN.ae;have:=G9.ae;omega
 go_wp2_with fail;go_roundw;case rel=>exact⟨k+1,a,u',v',I6,yh++ [KK],s2,eF++ [t2],hlt,by go_num,by
  have h:=R7.ae
  rw[VF.ae] at h
  exact h,EJ.ae,by have:=xZ.ae;have:=HND.ae;have:=Dp.ae;omega,by rw[length_append,qC.ae];rfl⟩
 case measure=>exact Za0):p:=h
theorem Zcn(h:p:=by go_wp2_with fail;refine wp_loop_rounds 3 ?_;rw[rounds_succ];go_wp2_with fail;refine(K1.ae _).mono ?_;rintro e w1 ⟨rfl,rfl⟩;go_wp2_with fail;rw[rounds_succ];go_wp2_with fail;exact KaU):p:=h
theorem Zco(h:p:=by
 go_wp2_with fail;refine bodyPost_ret (v:=.tuple #[.agg #[ag 3,.string ⟨acc.toArray⟩,af 0,af at_],af ((k:Int)+1),af 0]) ZbF rfl ?_
 ·rw[rq.ae,HF.ae,cF HB.ae,HQ.ae,Ll ahk.ae];unfold zM;simp only;have e:s.size - (s.data.toList.drop (k+1)).length=k+1:=by rw[length_drop,HLEN.ae];omega
  rw[e];exact Zb0):p:=h
theorem Zcp(h:p:=by
 injection hv with e1 e2 e3;injection e1 with e1;injection e1 with e1 _ _;subst e1 e3;have ft:(i+1)*size<=l.length*size:=Nat.mul_le_mul_right _ rW;have hl2:l.length*size<=c*size:=Nat.mul_le_mul_right _ hn;rw[Nat.add_mul,Nat.one_mul] at ft;have pA:i*size+size<=cur.size:=by rw[hs];omega
 have hrun:=wj (P:=P) w q (i*size) e ty cur (f y).toArray hg (by rw[hi];simp[hf]) (by simpa [hf] using pA) h1;exact KaV):p:=h
theorem Zcq(h:p:=by go_upto_region 1 with fail;generalize World.alloc (World.alloc w _) _=W at*;obtain⟨g3,kR⟩:∃g3,g3=w.heap.size:=⟨_,rfl⟩;obtain⟨g4,hg4⟩:∃g4,g4=w.heap.size+1:=⟨_,rfl⟩;rw[<- hg4] at HZ ⊢;rw[<- kR] at ox ⊢;have mz:=aa (show w.heap.size<=g4 by omega);have Jh:=aa (show w.heap.size<=g3 by omega);have HI:=aa kR;have JT:=aa hg4;have Gn:=aa ox;have qu:=aa HZ;clear kR hg4 ox HZ;exact KaW):p:=h
theorem Zcr(h:p:=by
 clear hlen;simp only[map_cons,map_nil,length_cons,length_nil,Nat.zero_add,Nat.reduceAdd] at*;have tG:=HKC.ae;clear HKC;rcases tG with tG |⟨g9,rfl,kG,tG⟩
 ·simp at tG
 exact KaX):p:=h
theorem zeE.KaZ(h:p:=by exact KaY):p:=h
theorem Zcs(h:p:=by subst Z3;open zeE in exact Zct):p:=h
theorem Zct(h:p:=by have z0:=k1.cell 0;have z1:=k1.cell 1;have x2:=k1.cell 2;have x3:=k1.cell 3;have x4:=k1.cell 4;have x5:=k1.cell 5;have x6:=k1.cell 6;have x0:=hR.cell 0;have x1:=hR.cell 1;have z2:=hR.cell 2;have z3:=hR.cell 3;have z4:=hR.cell 4;have z5:=hR.cell 5;simp only[Uaa] at z0 z1 x2 x3 x4 x5 x6 x0 x1 z2 z3 z4 z5;have dv:=aG cJ;have gV:=aB.frozen cJ;go_wp2_with fail;exact KaZ):p:=h
theorem Zcu(h:p:=by
 rcases h with h |⟨b,off,h1,h2,h3⟩
 ·exact .inl h
 ·exact .inr ⟨b,off,h1,h2,λ i x hx=>(h3 i x hx).keep λ o=>hb.cell (p:=⟨b,o,none⟩) h2⟩):p:=h
theorem Zcv(h:p:=by skip;intro hg;have hg:ρ (.tmp 22)=.bool false:=hg;refine⟨λ _=>?_,λ hn=>absurd hg hn⟩;exact Zai):p:=h
theorem Zcw(h:p:=by
 have eh:=h.FP;have hb:=ah w qp;have h0:=h.later hb;have HQ:=aa (aB.new w 46 #[ag 0,ag 0,af 0,au,au,af 0,az]);have hsz:(w.alloc qp).heap.size=w.heap.size+1:=by simp
 exact Ka0):p:=h
theorem Zcx(h:p:=by obtain⟨f,rfl⟩:=kP T hT;have h2:f 2=_:=h2;have h4:f 4=_:=h4;have h5:f 5=_:=h5;have h6:f 6=_:=h6;simp only[bS,h2,h4,h5,h6];clear h2 h4 h5 h6;clear h2 h4 h5 h6 hT;exact Ka1):p:=h
theorem Zcy(h:p:=by exact⟨s0,r0,by omega,by omega,by omega,by omega,by rfl,by rw[ur.ae],HS.ae⟩):p:=h
theorem Zcz(h:p:=by intro ρ w vs hc hG hr;rw[t3] at hr;have r0:=hr.1;simp only[m3] at r0;refine⟨g3,?_⟩;show vs.length=0->_;intro hl;obtain rfl:=eq_nil_of_length_eq_zero hl;refine bu (cf ρ w hc r0) ((lQ w hG).mono ?_);rintro e' w' ⟨y,rfl,hp⟩;exact⟨_,rfl,y,w,w',rfl,hG,hp,ai.refl _⟩):p:=h
theorem ZcA(h:p:=by
 go_wp2_with fail;go_roundw;case rel=>exact⟨k+1,hlt,by go_num,HR.ae,hW⟩
 case measure=>exact Za0):p:=h
theorem ZcB(h:p:=by
 replace HC:=aa (HC.ae.later b3);clear b1 b3;have hst:=λ(u:Addr) (m:Mode) (w:World)=>run_store Tryz.prog w u .nilFunc m rfl
 unfold oD;have x0:=hR.cell 0;have x1:=hR.cell 1;have z2:=hR.cell 2;have z3:=hR.cell 3;have z4:=hR.cell 4;have z5:=hR.cell 5;have z6:=hR.cell 6;simp only[Uaa] at x0 x1 z2 z3 z4 z5 z6;exact Ka2):p:=h
theorem ZcC(h:p:=by
 have HV1:=aa NM;clear NM;go_wp2_with fail;go_roundw;case rel=>exact⟨k+1,hlt,by go_num,HN2.ae HV1.ae,ai.then hb hL⟩
 case measure=>exact Za0):p:=h
theorem ZcD(h:p:=by simp[results,Tryz.results199,go_sem,r0,r1,r2,r3,r4,r5,r6];rfl):p:=h
theorem ZcE(h:p:=by exact⟨0,Nat.zero_le _,rfl,aF.nil,Below.refl _ _⟩):p:=h
theorem ZcF(h:p:=by
 go_wp2_with fail;refine bodyPost_ret (v:=.tuple #[.agg #[ag 0,au,af 0,af 0],af 0,af 30]) ZbF rfl ?_
 ·rw[rq.ae,pT.ae];exact Zb0):p:=h
theorem ZcG(h:p:=by skip;intro hg;have hg:ρ (.tmp 26)=.bool false:=hg;exact Zal):p:=h
theorem ZcH(h:p:=by go_upto_region 1 with fail;generalize w.alloc _=W1 at*;obtain⟨g,hg⟩:∃g,g=w.heap.size:=⟨_,rfl⟩;exact Ka3):p:=h
theorem ZcI(h:p:=by
 intro e4 w4 h4;unfold rF at h4;rw[jI.ae] at h4
 cases res with
 | error er=>obtain⟨_,rfl,b4⟩:=h4;exact⟨_,rfl,b4,_,_,rfl,rfl,rfl⟩
 | ok l=>obtain⟨v4,rfl,o4,b4⟩:=h4;refine⟨_,rfl,b4,_,_,rfl,rfl,?_⟩;have o5:=o4.down hL.size;rw[<- Bw.ae] at o5;exact o5):p:=h
theorem ZcJ(h:p:=by
 obtain⟨a0,_,hc0⟩:=nd 0 h0;have hsome:∃u,(f a0)[0]?=some u:=⟨(f a0)[0]'(by rw[hf];exact hK),getElem?_eq_getElem _⟩;obtain⟨u0,Xl⟩:=hsome;have hlt:=jN ((hc0 0 hK).trans Xl);obtain⟨b,off,spot⟩:=ad;have hs:spot=none:=by have:=hlt.2;simpa [Addr.add] using this
 subst hs;have hbl:b < w.heap.size:=by have:=hlt.1;simpa [Addr.add] using this
 exact Ka4):p:=h
theorem ZcK(h:p:=by exact aq (w':=w3) TaF ⟨ai.refl _,rfl⟩):p:=h
theorem ZcL(h:p:=by
 go_wp2_with fail;clear c0 c1 c2 y3 c4 c5 c6 Gp;generalize uw:World.setCell _ _ _=W9;have hR:aB W9 g4 46 dh:=by rw[<- uw];simpa using(((((((PK.ae.aU 0 _).aU 1 _).aU 2 _).aU 3 _).aU 4 _).aU 5 _).aU 6 _)
 exact Ka5):p:=h
theorem ZcM(h:p:=by
 clear hk hb
 rcases hlv with rfl | rfl | rfl | rfl;all_goals
  generalize kK _ t.w=R at*;go_enter Tryz.func200,Tryz.ntmps200;go_wp2_with fail;all_goals
   go_ret;rw[HR.ae];refine⟨?_,ah w _⟩;refine mP ?_;simp[opsL,List.lookup,agX,Zm,OS,sy,xA,Iz,xB, *]):p:=h
theorem ZcN(h:p:=by exact aq (w':=w3) (by simp[go_sem,h0,h1,hs];done) ⟨ai.refl _,rfl⟩):p:=h
theorem ZcO(h:p:=by go_wp2_with fail;have hB:=ai.then (ah w (.cells (ay x) 46)) (ah _ (.cells #[ag 0,af 0,au] 44));have hR:=aB.new (w.alloc (.cells (ay x) 46)) 44 #[ag 0,af 0,au];have hX:=(aB.new w 46 (ay x)).alloc (.cells #[ag 0,af 0,au] 44);rw[World.size_alloc] at hR;generalize vh:(w.alloc (.cells (ay x) 46)).alloc (.cells #[ag 0,af 0,au] 44)=W at*;clear vh;exact Ka6):p:=h
theorem zhh.KbW(h:p:=by clear js fw HK;have gu:=Hu.ae;exact Ka7):p:=h
theorem ZcP(h:p:=by
 have fw:k=args.length:=by omega
 have zA:k < n:=by have:=HN.ae;omega
 obtain⟨b,off,rfl,kz,hex⟩:=(HA.ae.below hb).at_ (show k <(args.map (·.1)++bad::post).length by simp;omega);open zhh in exact Zfa):p:=h
theorem ZcQ(h:p:=by
 rcases h1 with h |⟨b,off,e1,e2,e3⟩
 ·exact .inl h
 ·exact .inr ⟨b,off,e1,e2,e3⟩):p:=h
theorem ZcR(h:p:=by have h0:_=_:=hr.1;have jq:=aG (HG.later hL);exact aq (w':=w3) (by simp[go_sem,h0,jq.1,jq.2.1,jq.2.2];done) ⟨ai.refl _,rfl⟩):p:=h
theorem ZcS(h:p:=by intro ρ w3 hc hL hr;have e1:=hc.func 104;refine bu (f:=104) (args:= #[]) (w':=w3) (by simp[go_sem,e1]) ?_;refine(jC w3).mono ?_;rintro e w2 ⟨rfl,rfl⟩;exact⟨_,rfl,(Below.refl _ _).alloc (Nat.le_refl _) _,_,rfl,heap_alloc_new w3 _⟩):p:=h
theorem ZcT(h:p:=by rintro e w1 ⟨rfl,b1⟩;go_wp2_with fail;go_ret;exact⟨rfl,b1⟩):p:=h
theorem ZcU(h:p:=by
 repeat (go_big_quiet_step (fail))
 refine wpQuiet_nil ?_;rintro w3 ⟨y2,fP⟩;have hL:=y2.h;rw[<- fP] at hL;exact Ka8):p:=h
theorem ZcV(h:p:=by obtain⟨f,rfl⟩:=kP T hT;have h1:f 1=_:=h1;have h2:f 2=_:=h2;have h4:f 4=_:=h4;have h5:f 5=_:=h5;have h6:f 6=_:=h6;simp only[bS,h1,h2,h4,h5,h6];clear h1 h2 h4 h5 h6;clear h1 h2 h4 h5 h6 hT;exact Ka9):p:=h
theorem zhp.KbZ(h:p:=by have u1_:decide (Kx < f)=true:=decide_eq_true k1;have u2_:decide (a < s)=false:=decide_eq_false k2;have u3_:decide (s < mid)=true:=decide_eq_true k3;have u4_:decide (mid < f)=true:=decide_eq_true k4;exact Kba):p:=h
theorem ZcW(h:p:=by open zhp in exact Zfi):p:=h
theorem ZcX(h:p:=by exact⟨rfl,((Below.refl _ _).alloc (Nat.le_refl _) _).trans (hL.mono Tac)⟩):p:=h
theorem ZcY(h:p:=by go_wp2_with fail;go_ret;exact⟨by rw[<- HD.ae,HS.ae];rfl,hB⟩):p:=h
theorem ZcZ(h:p:=by have ox:=aB.new w 46 (ay z);have b0:=ah w (.cells (ay z) 46);have HZ:=aB.new (w.alloc (.cells (ay z) 46)) 46 dh;have b2:=ah (w.alloc (.cells (ay z) 46)) (.cells dh 46);replace ox:=ox.later b2;have bb:=ai.then b0 b2;rw[World.size_alloc] at HZ;have sP:=aa (nU.later bb);have zJ:=aa bb;have gZ:=sP.ae.blk;unfold PC.cells at gZ;exact Kbb):p:=h
theorem Zc0(h:p:=by clear gZ;go_wp2_with fail;refine(Xp.ae _).mono ?_;rintro e KK ⟨rfl,b2⟩;go_wp2_with fail;exact bodyPost_ret (v:=.tuple #[ag 0,af 40]) Tao rfl ⟨rfl,ai.then (ai.then fG.ae b3) b2⟩):p:=h
theorem Zc1(h:p:=by exact aq (v:=VK) (w':=w3) Taq ⟨ai.refl _,_,VL,rfl,cJ⟩):p:=h
theorem Zc2(h:p:=by rintro e w3 ⟨rfl,b2⟩;clear z0 z1 x2 x3 x4 x5 x6 x0 x1 z2 z3 z4 z5 dv gV;replace k1:=k1.later b2;replace hR:=hR.later b2;replace cJ:=cJ.later b2;replace hB:=ai.then hB b2;replace AZ:=aa ((AZ.ae.below b2).more (b2).size);replace HDB:=aa (ai.then HDB.ae b2);replace TV:=(b2.cell (p:=⟨g9,0,none⟩) vr).trans TV;exact Kbc):p:=h
theorem Zc3(h:p:=by go_wp2_with fail;exact Zbt):p:=h
theorem Zc4(h:p:=by
 rcases Nat.lt_or_ge vs.length ch.length with h' | h'
 ·have hi:=getElem?_eq_getElem h';have hb:=of_decide_eq_true (List.all_eq_true.1 JY _ (getElem_mem h'));have:=(cf _ _ hi).1 (hall _ hb);omega
 ·omega):p:=h
theorem Zc5(h:p:=by
 refine⟨rfl,rfl,rfl,rfl,rfl,[y],?_,Tr.fO ?_⟩
 ·exact((Ag.ae.keep (iU B12.ae)).keep (lD D12.ae.grown WC)).keep (jd WC)
 ·exact((F2.ae.later B12.ae).grown D12.ae.grown WC).more WC):p:=h
theorem Zc6(h:p:=by
 have YW:i < listed.size:=by rw[I.len];exact zt
 have YX:fuel=bw l.length (listed.setIfInBounds i true)+zs.length:=by have:=kY l.length listed i YW rW AL;omega
 unfold wpOp;rw[oC];show if Region.wanted oj (yielded (l++zs).toArray a.tmps)=true then _ else _;rw[if_pos (by simp[Region.wanted,hgd])];refine .inl ?_;exact Kbd):p:=h
theorem Zc7(h:p:=by
 have jU:=uO.ae;rw[hr] at hp uT jU;obtain⟨KK,ty,u',v',rfl,hst⟩:=hp;have her:=uT.ae.err _ rfl;have ow:=aa (show X=.error er by
  rw[uA.ae,jU]
  rfl)
 have nE:=aa her;have t1:(er != 0)=true:=by simp[her]
 have bg:=ah w6 (.cells (ay KK) 46);have HW:=aa ((tN.ae.err hst).later bg);clear hr her hst jU uT uO tN bg;exact Kbe):p:=h
theorem Zc8(h:p:=by have ND:=aa (show aB (w6.alloc (.cells (ay KK) 46)) w6.heap.size 46 (bF KK).toArray from XO);clear XO;generalize w6.alloc (.cells (ay KK) 46)=WD at*;generalize w6.heap.size=gY at*;exact Kbf):p:=h
theorem Zc9(h:p:=by
 refine bodyPost_ret (v:=.tuple #[.agg #[ag 2,au,af (lj ((s.data.toList.drop at_).takeWhile bC)),af at_],af k,af 0]) ZbF rfl ?_
 ·rw[HR.ae];unfold zM;simp only;rw[vO bC s WC,mF.ae];exact Zb0):p:=h
theorem Zda(h:p:=by
 go_wp2_with fail;go_quiet (fail);go_wp2_with fail;go_roundw
 case rel=>
  refine⟨i+1,n+nq,by omega,by go_num,?_,?_⟩
  ·rw[<- HWN.ae];exact BN W n nq
  ·rw[pT.ae,HDX.ae,kJ,HP.ae];rfl
 case measure=>exact Za0):p:=h
theorem Zdb(h:p:=by skip;intro hg;have hg:ρ (.tmp 22)=.bool false:=hg;refine⟨λ _=>?_,λ hn=>absurd hg hn⟩;have h0:_=_:=hr.1;have e1:=XH.ae.2 rfl;exact ZgE):p:=h
theorem Zdc(h:p:=by skip;intro hg;have hg:ρ (.tmp 22)=.bool false:=hg;refine⟨λ _=>?_,λ hn=>absurd hg hn⟩;have h0:_=_:=hr.1;have e1:=XH.ae.1 rfl;exact ZgE):p:=h
theorem Zdd(h:p:=by
 split at h <;> try exact h
 obtain⟨g,h1,h2⟩:=h;refine⟨g,h1,?_⟩;rw[hl.block g ?_]
 ·exact h2
 ·exact ZfD):p:=h
theorem Zde(h:p:=by intro ρ w3 hc hL hr;have h0:_=_:=hr.1;have h1:_=_:=hr.2.1;have h2:_=_:=hr.2.2.1;have hs:=Gi XA xn xc gn gn (Nat.le_refl _) HXC.ae w3;exact aq (w':=w3) (by simp[go_sem,h0,h1,h2,hs];done) ⟨ai.refl _,rfl⟩):p:=h
theorem Zdf(h:p:=by go_wp2_with fail;go_ret;refine⟨?_,hb⟩;rw[nP λ j hj=>HK.ae j (by rw[length_map] at hj;omega)];rfl):p:=h
theorem Zdg(h:p:=by intro ρ w vs hc hG hr;rw[t0] at hr;have r0:=hr.1;simp only[s0] at r0;exact⟨g0,hfa ρ w (r0.trans hq)⟩):p:=h
theorem Zdh(h:p:=by rw[Bool.not_eq_true] at hs;obtain⟨nl,c,d0,d1,c0,c1,_,_,s1⟩:=Ia (lo a) 0 l0 l1 WC WC;obtain⟨nh,c2,e0,e1,_,_,_,_,s2⟩:=Ia (hi a) c h0 h1 c0 c1;have Np:=Int.emod_nonneg nh (show n≠0 by omega);have Hy:=Int.emod_lt_of_pos nh hn;obtain⟨q,r,hd⟩:=Hz (nh % n) nl n Np Hy vz d0 d1;exact Kbg):p:=h
theorem Zdi(h:p:=by go_wp2_with fail;go_ret;exact⟨rfl,hb⟩):p:=h
theorem Zdj(h:p:=by intro ρ w vs hc hG hr;rw[t2] at hr;have r0:=hr.1;simp only[m0] at r0;exact⟨g2,En ρ w (r0.trans h0)⟩):p:=h
theorem Zdk(h:p:=by intro ρ w vs hc hG hr;rw[t6] at hr;have r0:=hr.1;simp only[s6] at r0;exact⟨g6,ZU ρ w (r0.trans hq)⟩):p:=h
theorem Zdl(h:p:=by exact aq (w':=w3) (by simp[go_sem,h0,c0,c1,c2];done) ⟨ai.refl _,rfl⟩):p:=h
theorem Zdm(h:p:=by
 repeat' split
 all_goals first
  |(exfalso;omega)
  | rfl
  |(congr 1;omega)):p:=h
theorem Zdn(h:p:=by unfold PC.cells at jR;have c10:=jR.cell 10;simp only[Uaa] at c10;exact aq (w':=w3) (by simp[go_sem,h0,c10];done) ⟨AR.refl _,rfl⟩):p:=h
theorem Zdo(h:p:=by
 intro i w w' v h hl
 match i with
 | 0 | 1 | 2 | 3 | 4 | 5 | 6 | 7 | 8 | 9 | 10=>exact h
 | n+11=>exact h):p:=h
theorem Zdp(h:p:=by
 obtain⟨b,off,rfl,kz,hex,hz⟩:=(HA.ae.below hb).at_ (show k <(args.map (·.1)).length by simpa using hlt);have js:(args.map (·.1))[k]' Tan=args[k].1:=by simp
 rw[js] at hex hz;clear js;have gu:=HE.ae args[k] (getElem_mem hlt);have hS:=Bv hlt;generalize args[k]=yb at*;exact Kbh):p:=h
theorem Zdq(h:p:=by skip;have h0:_=_:=hr.1;have e1:=hc.func 44;refine bu (f:=44) (args:= #[.agg (aD v)]) (w':=w3) TaA ?_;have hgo:=vg v w3;rw[<- NA.ae] at hgo;refine hgo.mono ?_;exact Zbg):p:=h
theorem Zdr(h:p:=by
 subst hrel;obtain⟨tk,pl,bd,hpl,hlt,aml,ug,cj,hg,JO,vz,hp⟩:=HA.ae.did.at_.vS;obtain⟨r',mV⟩:=hg _ rfl;injection mV with hu hr2;subst hu;have Em:bd < 0:=by simpa [ck.gT] using cj
 have HP:=aa hp;have c2:=hp.c2;have atj:=HA.ae.blk.lt;have Z5:=BU 3 3 rfl Tac tk;rw[ahx.ae] at Z5;exact Kbi):p:=h
theorem Zds(h:p:=by intro ρ' w' h' hc';simp[go_sem,h',hc']):p:=h
theorem Zdt(h:p:=by simp only[Uaa] at c0 c1 c2 y3 c4 c5 c6;exact aq (w':=w3) (by simp[go_sem,h0,c0,c1,c2,y3,c4,c5,c6];done) ⟨ai.refl _,rfl⟩):p:=h
theorem Zdu(h:p:=by go_wp2_with fail;refine(mL _ _).mono ?_;rintro e w1 ⟨rfl,b1⟩;have hR:=(aB.new w 44 #[ag 0,af 0,.string { data:= #[] }]).later b1;have dv:=aG hR;have cJ:=aB.frozen hR;have hB:aj w w1:=((Below.refl _ _).alloc (Nat.le_refl _) _).trans (b1.mono Tac);clear b1 hR;go_wp2_with fail;exact Kbj):p:=h
theorem Zdv(h:p:=by
 obtain rfl:k=8:=by omega
 have hno:lW n=none:=by rw[DU.ae];rfl
 clear DU;rw[HFO.ae] at hno;cases hno):p:=h
theorem Zdw(h:p:=by rw[rounds_succ];go_wp2_with fail;have gN:=aB.new W 5 #[ag k,ag wa];have bN:=ah W (.cells #[ag k,ag wa] 5);refine(qN W.heap.size 0 2 k wa _ Tac (gN.cell 0) (gN.cell 1)).mono ?_;rintro e W2 ⟨rfl,b2⟩;have hW2:=ai.then bN b2;replace hB:=ai.then hB hW2;replace hO:=hO.later hW2;exact Kbk):p:=h
theorem Zdx(h:p:=by go_wp2_with fail;exact bodyPost_ret (v:=.tuple #[.agg (aD r),af 0]) (by simp[results,Tryz.results170,go_sem,dv]) rfl ⟨by rw[HL.ae];rfl,((hB.setCell bI _).setCell bI _).setCell bI _⟩):p:=h
theorem Zdy(h:p:=by
 obtain⟨a,wa,gi,al,nu,d,rfl,_,hd⟩:=TS.shape;have jU:d.oneCell'=true:=by rcases hd with rfl |⟨F,C,rfl⟩<;> rfl
 have hst:=λ(u:Addr) (m:Mode) (w:World)=>run_store Tryz.prog w u d m jU
 unfold cI;have KK:=ai.then b1 (ah W3 (.cells #[af a,ag wa,ag gi,.bool al,.bool nu,d] 100));exact Kbl):p:=h
theorem Zdz(h:p:=by exact aq (w':=w3) (by simp[go_sem,h0,jq];done) ⟨ai.refl _,rfl⟩):p:=h
theorem ZdA(h:p:=by exact aq (w':=w3) (by simp[go_sem,h0,Kx];done) ⟨ai.refl _,rfl⟩):p:=h
theorem ZdB(h:p:=by intro ρ w3 hc hL hr;intro hg;have hg:ρ (.tmp 66)=.bool true:=hg;refine⟨λ _=>?_,λ hn=>absurd hg hn⟩;exact Kbm):p:=h
theorem ZdC(h:p:=by intro ρ w3 hc hL hr;intro hg;have hg:ρ (.tmp 82)=.bool true:=hg;refine⟨λ _=>?_,λ hn=>absurd hg hn⟩;exact Kbn):p:=h
theorem ZdD(h:p:=by have z1:=k1.cell 1;have x2:=k1.cell 2;have x3:=k1.cell 3;have x5:=k1.cell 5;have x7:=k1.cell 7;have x8:=k1.cell 8;have x9:=k1.cell 9;have XP:=k1.cell 13;have x14:=k1.cell 14;have x16:=k1.cell 16;have Rf:=k1.cell 19;have Rg:=k1.cell 20;have x24:=k1.cell 24;have x27:=k1.cell 27;exact Kbo):p:=h
theorem ZdE(h:p:=by simp only[setIfInBounds_toArray,set_cons_zero,set_cons_succ] at this;exact this):p:=h
theorem ZdF(h:p:=by exact bodyPost_ret (v:=.tuple #[ag 0,af 40]) Tap rfl ⟨congrArg (λ r:Int×Int=>Ending.returned (.tuple #[ag r.1,af r.2])) HQ.ae.symm,hB⟩):p:=h
theorem ZdG(h:p:=by exact bodyPost_ret (v:=.tuple #[ag gi,af 0]) Tap rfl ⟨congrArg (λ r:Int×Int=>Ending.returned (.tuple #[ag r.1,af r.2])) HQ.ae.symm,hB⟩):p:=h
theorem ZdH(h:p:=by
 gi_wp2;go_roundw;case rel=>exact⟨k+1,hlt,by go_num,HJ3.ae,HF3.ae⟩
 case measure=>exact Za0):p:=h
theorem ZdI(h:p:=by
 have hK:=xd (V:=V) (λ d=>a.eval (.tmp d)) l 0 a0 (λ i o d hi hd=>by
  rw[Nat.zero_add]
  have rW:i < l.length:=by
   rcases Nat.lt_or_ge i l.length with h' | h'
   ·exact h'
   ·rw[getElem?_eq_none h'] at hi;cases hi
  exact I.new i o d hi (hall i rW) hd) (hf w I.r)
 exact Kbp):p:=h
theorem ZdJ(h:p:=by
 rcases h with h |⟨b,off,h1,h2,h3⟩
 ·exact .inl h
 ·exact .inr ⟨b,off,h1,by omega,h3⟩):p:=h
theorem ZdK(h:p:=by
 rcases(show s=Kx\/f=Kx by omega)with e | e
 ·rw[e];exact yj D Kx f
 ·rw[e];exact uH D s Kx):p:=h
theorem ZdL(h:p:=by refine⟨k+1,hlt,by go_num,?_,hb.trans b4⟩;rw[HT.ae,map_append,NY.ae];exact O4.ae):p:=h
theorem ZdM(h:p:=by exact aq (w':=w3) (by simp[go_sem,h1,c0]) ⟨ai.refl _,rfl⟩):p:=h
theorem ZdN(h:p:=by intro i hi hT q hq;subst hT;have hq:a.ownBlock=some q:=hq;refine⟨(ho.lt hq).2.1,(ho.lt hq).1,λ e=>?_⟩;rw[e0] at hq;injection hq with hq;exact hq0 (hq.trans e)):p:=h
theorem ZdO(h:p:=by
 go_round;case rel=>exact⟨k+1,by omega,hlt,by go_num,mF.ae⟩
 case measure=>exact Za0):p:=h
theorem ZdP(h:p:=by
 obtain⟨l,rfl⟩:∃l,σ=.good l:=by
  match σ,Lv.ae with
  | .good l,_=>exact⟨l,rfl⟩
  | .bad m,cj=>simp[ck.gT] at cj;omega
 obtain⟨r,rfl⟩:=HG.ae l rfl;have e1:(pl:Int)+1=(ρ.n:Int) - r.length:=by rw[JR.ae];simp only[ck.left,length_cons] at*;omega
 exact Kbq):p:=h
theorem ZdQ(h:p:=by unfold fg at q0;simp at q0 q1;obtain⟨rfl,rfl,rfl,rfl,rfl,rfl,rfl⟩:=q0;subst q1;refine⟨(p,s),rfl,hp.more ?_⟩;simp only[Rows.uptoBulk,Rows.uptoBulkAll];omega):p:=h
theorem ZdR(h:p:=by rintro e4 w4 ⟨v4,rfl,ho4,b4⟩;refine⟨_,rfl,b4,_,rfl,?_⟩;have ho5:=ho4.down hL.size;rw[<- Bw.ae] at ho5;show aF bF _ 7 w4 B0 v4 E;rw[pW.ae];simpa using ho5):p:=h
theorem ZdS(h:p:=by have eB:=aa hb1;have CE:=aa (sP.ae.later hb1);have kB:=Gn.ae.later hb1;have Lw:=qu.ae.later hb1;have hxo:=kB.cell 0;simp only[Uaa] at hxo;have CF:z.op=t.op:=(at_root CD.ae).1;have pn:=xp z.op;exact Kbr):p:=h
theorem ZdT(h:p:=by intro ρ w3 hc hL hr;exact Zai):p:=h
theorem ZdU(h:p:=by rintro e w1 ⟨rfl,b1⟩;go_wp2_with fail;go_ret;exact⟨rfl,ai.then HB.ae b1⟩):p:=h
theorem ZdV(h:p:=by clear hWX;have x0:=hR.cell 0;have x1:=hR.cell 1;have z2:=hR.cell 2;have z3:=hR.cell 3;have z4:=hR.cell 4;have z5:=hR.cell 5;have z6:=hR.cell 6;simp only[Uaa] at x0 x1 z2 z3 z4 z5 z6;exact Kbs):p:=h
theorem ZdW(h:p:=by
 unfold dn at h;split at h
 ·cases h
 split at h
 ·cases h
 split at h
 ·cases h
 split at h
 ·cases h
 split at h
 ·cases h
 split at h
 ·cases h
 rename_i h1;split at h
 ·cases h
 rename_i h2;split at h
 ·cases h
 rename_i h3;injection h with h;rw[<- h];exact Kbt):p:=h
theorem ZdX(h:p:=by intro ρ w3 hc hL hr;have h0:_=_:=hr.1;exact aq (v:=.pointer (some ⟨gp,10,none⟩)) (w':=w3) Tai ⟨AR.refl _,rfl⟩):p:=h
theorem ZdY(h:p:=by intro ρ w3 hc hL hr;have h0:_=_:=hr.1;have Kx:=(HEW.ae.later hL).c13;exact ZbO):p:=h
theorem ZdZ(h:p:=by intro ρ w3 hc hL hr;have h0:_=_:=hr.1;exact aq (v:=.pointer (some ⟨gp,9,none⟩)) (w':=w3) Tai ⟨AR.refl _,rfl⟩):p:=h
theorem Zd0(h:p:=by
 clear HL HX;go_wp2_with fail;go_roundw;case rel=>exact⟨m+1,j,by omega,by omega,by omega,by go_num,rfl,H3.ae,AD.ae,HH.ae⟩
 case measure=>exact Za0):p:=h
theorem Zd1(h:p:=by
 go_wp2
 all_goals
  go_ret;refine⟨?_,rfl⟩;first | rfl |(refine lX ?_;rw[Bool.eq_iff_iff];simp;omega)|(refine lX ?_;rw[Bool.eq_iff_iff];simp;done)):p:=h
theorem Zd2(h:p:=by go_upto_region 5 with fail;have k1:=aB.new wr 46 (ay y);have Mp:=ah wr (.cells (ay y) 46);have Nx:=aa ((Mp.cell (p:=⟨gp,8,none⟩) (Nat.lt_of_lt_of_le BC.ae hb.size)).trans ((hb.cell (p:=⟨gp,8,none⟩) BC.ae).trans Ze.ae));have Qi:=aa (Nat.lt_of_lt_of_le (Nat.lt_of_lt_of_le BC.ae hb.size) Mp.size);have wU:=aa (λ W2 (h:ai (wr.alloc (.cells (ay y) 46)) W2)=>gu W2 (ai.then hB (ai.then hb (ai.then Mp h))));obtain⟨gy,Zf⟩:∃gy,gy=wr.heap.size:=⟨_,rfl⟩;rw[<- Zf] at k1 ⊢;clear gu hex Zf;exact Kbu):p:=h
theorem Zd3(h:p:=by have dv:=aG cJ;have gV:=aB.frozen cJ;go_wp2_with fail;exact bodyPost_ret (v:=.tuple #[.agg #[ag 0,af 0,.string ByteArray.empty],af 41]) Taf rfl ⟨by rw[HQ.ae];rfl,((hB.setCell bI _).setCell bI _).setCell bI _⟩):p:=h
theorem Zd4(h:p:=by
 have rq:=aa mo;have HL0:=aa hc;have Z4:=aa hdg;have HLEN:=aa (show s.data.toList.length=s.size by simp);clear mo hd hc hdg hq;go_enter Tryz.func132,Tryz.ntmps132;go_wp2_with (first
  |(go_at_call 174;refine(ej s[at_] _).mono ?_;rintro e w' ⟨rfl,rfl⟩;rw[HL0.ae])
  |(go_at_call 175;refine(eM s[at_] _).mono ?_;rintro e w' ⟨rfl,rfl⟩;rw[Z4.ae]))
 exact Kbv):p:=h
theorem Zd5(h:p:=by have x6:=HX.cell 6;simp only[Uaa] at x6;go_wp2_with fail;exact Kbw):p:=h
theorem Zd6(h:p:=by simp[results,Tryz.results184,go_sem,r0,r1,r2,r3,r4,r5,r6];rfl):p:=h
theorem Zd7(h:p:=by exact⟨b,off,h1,h2,h3 k _ (getElem?_eq_getElem hlt)⟩):p:=h
theorem Zd8(h:p:=by intro ρ w h;simp[go_sem,h]):p:=h
theorem Zd9(h:p:=by go_wp2_with fail;exact bodyPost_ret (v:=.tuple #[.agg (aD xv),af 0]) Taf rfl ⟨by rw[HQ.ae];rfl,((hB.setCell bI _).setCell bI _).setCell bI _⟩):p:=h
theorem Zea(h:p:=by
 clear Hq;refine wp_seq_k λ K1 hK1=>?_
 have nx:=aa hK1;clear hK1;go_wp2_with fail;refine nx.ae _ _ ?_;clear nx;refine wp_seq_k λ HX hK2=>?_
 have IL:=aa hK2;clear hK2;exact Kbx):p:=h
theorem Zeb(h:p:=by
 go_wp2_with fail;refine(vq ⟨2,Kx,name,width,A,0,c⟩ _).mono ?_;rintro e w1 ⟨oo,rfl,TS,b1⟩
 obtain rfl:oo=oD:=by
  rcases TS with ⟨h,_⟩|⟨_,h⟩
  ·exact absurd h (by simp[kF])
  ·exact h
 have Hr:bP ⟨2,Kx,name,width,A,0,c⟩=0:=by unfold bP;rw[if_pos Tac]
 rw[Hr];exact Kby):p:=h
theorem Zec(h:p:=by
 simp only[List.append,Uab];repeat (go_big_quiet_step (fail))
 exact Kbz):p:=h
theorem Zed(h:p:=by go_wp2_with (go_at_call 175;refine(eM s[k] _).mono ?_;rintro e w' ⟨rfl,rfl⟩;rw[HD.ae]);refine HN.ae.mono ?_;unfold jP;rw[HE.ae,pT.ae];rintro e w1 ⟨he,rfl⟩;exact KbA):p:=h
theorem Zee(h:p:=by exact aq (v:=aI w3.heap.size 1 1) (w':=w3.alloc (.cells #[aI g0 1 1] 38)) Taq ⟨ah w3 _,⟨w3.heap.size,g0,rfl,aB.new w3 _ _,fQ.later (ah _ _)⟩⟩):p:=h
theorem Zef(h:p:=by intro ρ w y v' w' h1 h2 hr;simp only[execOp,resolve,invoke,builtin,Sem.run_bind,Sem.run_pure,Result.andThen_ok,map_toArray,map_cons,map_nil,h1,h2,hr]):p:=h
theorem Zeg(h:p:=by
 have hj:j < K:=by
  rcases Nat.lt_or_ge j K with h' | h'
  ·exact h'
  ·rw[getElem?_eq_none (by rw[hf];exact h')] at hu;cases hu
 rw[(hp i x hx).2 j hj];exact hu):p:=h
theorem Zeh(h:p:=by go_wp2_with fail;go_region;clear c0 c1 c2 d0 d1 d2 d3 y0 y1 y2 z0 z1 z2 z3 x0 v0 v1 v2 v3;obtain⟨u0,u1,u2,u3,_⟩:=bO HT;clear HT;unfold dE at u0 u1 u2 u3 hb x1 x2 nS HF HWR HB HD;generalize (w.alloc _).drew=W at*;have hwr:=HWR.ae;clear HWR;rw[Ph] at hwr;exact KbB):p:=h
theorem Zei(h:p:=by go_wp2_with fail;have hS:=aB.alloc h (.cells #[ag 0,af 0,.string { data:= #[] }] 44);have KK:=aB.new w 44 #[ag 0,af 0,.string { data:= #[] }];have hB:aj w (w.alloc (.cells #[ag 0,af 0,.string { data:= #[] }] 44)):=(Below.refl _ _).alloc (Nat.le_refl _) _;exact KbC):p:=h
theorem Zej(h:p:=by
 cases hg1:cg k wa
 ·go_wp2_with fail;go_ret;exact⟨by rw[hg1];rfl,hB⟩
 have x1:=hO.cell 1;have x3:=hO.cell 3;simp only[Uaa] at x1 x3;have c0:=(hB.cell (p:=⟨p,off,none⟩) hp).trans h0;exact KbD):p:=h
theorem Zek(h:p:=by go_wp2_with fail;refine(gh w0 g n cap s Kx f D _ H2.ae hn WC WC WC).mono ?_;rintro e_ w5 ⟨rfl,h5⟩;have H3:=aa h5;clear h5 H2;exact KbE):p:=h
theorem Zel(h:p:=by have Jk:=SU.ae;have z0:=Jk.cell 0;have z1:=Jk.cell 1;have x2:=Jk.cell 2;have x3:=Jk.cell 3;have x4:=Jk.cell 4;have x5:=Jk.cell 5;have x6:=Jk.cell 6;simp only[Uaa] at z0 z1 x2 x3 x4 x5 x6;exact KbF):p:=h
theorem Zem(h:p:=by have e1:=hc.func 27;have e2:=hc.const (af 0);refine bu (f:=27) (args:= #[af 0]) (w':=w3) TaB ?_;refine(fE 0 w3).mono ?_;exact Zbg):p:=h
theorem Zen(h:p:=by have v0:=HV.cell 0;have v1:=HV.cell 1;have v2:=HV.cell 2;simp only[Uaa] at v0 v1 v2;exact KbG):p:=h
theorem Zeo(h:p:=by clear iE;have k1:=aB.new wr 46 (ay y);have Mp:=ah wr (.cells (ay y) 46);generalize wr.alloc (.cells (ay y) 46)=W2 at*;have tN:=aa (HP.ae.later Mp);generalize wr.heap.size=g12 at*;exact KbH):p:=h
theorem Zep(h:p:=by have z6:=hR.cell 6;simp only[Uaa] at z6;exact KbI):p:=h
theorem Zeq(h:p:=by
 have hb2:=ai.then hb1 bN;replace HK:=aa (HK.ae.later hb2);replace hb:=ai.then hb hb2;have AX:((args.take k).map (·.2)).length<=1599289640356:=by simp;omega
 exact KbJ):p:=h
theorem Zer(h:p:=by have HF:=aa hF;have IH:=aa ih;have Q1:=aa q1;have HFN:=aa q2;have Q3:=aa q3;have Q4:=aa q4;have Q5:=aa q5;exact KbK):p:=h
theorem Zes(h:p:=by intro ρ' w' hc' h';simp[go_sem,h',hc'.const,hc'.func]):p:=h
theorem Zet(h:p:=by have t1:decide ((200:Int)<(L.i.n:Int))=false:=decide_eq_false WC;have t2:decide ((200:Int)<(L.o.n:Int))=false:=decide_eq_false WC;exact KbL):p:=h
theorem Zeu(h:p:=by obtain⟨u,v,rfl⟩:=two WC;exact⟨_,#[_],rfl,.inr ⟨_,rfl⟩,Kv,λ W A c hb hr=>Kj x A c q _ [u,v] W hr Tac (hq.later hb)⟩):p:=h
theorem Zev(h:p:=by
 have hb2:b < W.heap.size:=Nat.lt_of_lt_of_le hb hB.size;have cV:=λ y:Ext W.heap.size W=>hv.keep (w':=y.w) λ o=>y.cell (p:=⟨b,o,none⟩) hb2
 exact KbM):p:=h
theorem Zew(h:p:=by obtain⟨q,h1,f0,f1⟩:=h;exact⟨q,h1,f0.grown hl.grown (Ne.symm f1),f1⟩):p:=h
theorem Zex(h:p:=by
 clear HH HX;go_wp2_with fail;go_roundw;case rel=>exact⟨i,m,by omega,by omega,by omega,rfl,rfl,H3.ae,HL.ae,HH2.ae⟩
 case measure=>exact Za0):p:=h
theorem Zey(h:p:=by have c0:=hb.cell 0;have c1:=hb.cell 1;have c2:=hb.cell 2;have y3:=hb.cell 3;have c4:=hb.cell 4;have c5:=hb.cell 5;have c6:=hb.cell 6;simp only[Uaa] at c0 c1 c2 y3 c4 c5 c6;exact KbN):p:=h
theorem Zez(h:p:=by obtain⟨c0,c1,c2,d0,d1,d2,d3⟩:=hp;obtain⟨y0,y1,y2,z0,z1,z2,z3⟩:=DO;obtain⟨x0,x1,x2,v0,v1,v2,v3⟩:=Lu;unfold pY at y0 y1 y2 z0 z1 z2 z3;exact KbO):p:=h
theorem ZeA(h:p:=by exact⟨r1,r2.trans hall,by rw[r3,hc];simp[cnt,one,o],by rw[r4,hs];simp[Bp,Nq,o],su (s:= { s with all:=s.all+1 }) hb (by simp[key,o,hk])⟩):p:=h
theorem ZeB(h:p:=by exact⟨λ e h=>by injection h with h;rw[<- h];exact h2,λ _ _ _ h=> Tad,λ _ _ _ h=> Tad,λ _ _ _ h=> Tad⟩):p:=h
theorem ZeC(h:p:=by
 repeat' split
 all_goals first
  | rfl
  |(exfalso;omega)
  |(subst_vars;rfl)):p:=h
theorem ZeD(h:p:=by refine⟨rfl,?_⟩;unfold qD at hG;rw[if_neg Taa];show(execOp ρ _).run Tryz.prog w9a=.ok (.value (ba gp 13)) w9a;simp[go_sem,r0]):p:=h
theorem ZeE(h:p:=by subst GH;go_wp2_with fail;exact bodyPost_ret (v:=.tuple #[]) TaI rfl ⟨rfl,_,H2.ae,HW.ae,HF.ae⟩):p:=h
theorem ZeF(h:p:=by
 simp only[take_succ_cons,take_zero];refine⟨Z1,Z1,Zbl,Z1,?_,trivial⟩
 ·exact Z1):p:=h
theorem ZeG(h:p:=by intro ρ w3 hc hL hr;have h1:_=_:=hr.1;have c0:=aG (HV.grown hL.grown NV);exact aq (w':=w3) (by simp[go_sem,h1,c0]) ⟨AR.refl _,rfl⟩):p:=h
theorem ZeH(h:p:=by obtain⟨y,o,hy,AP,hstep⟩:=BZ (x:=n.data.toList) hlt;have HST:=aa hstep;have FU:=aa AP;have c2:=sH (pT.ae.later HP.ae) hy;clear hy hstep AP;exact KbP):p:=h
theorem ZeI(h:p:=by have z0:=Mi.ae.cell 0;have z1:=Mi.ae.cell 1;have x2:=Mi.ae.cell 2;have f0:=Mi.ae.frozen 0;have f1:=Mi.ae.frozen 1;have f2:=Mi.ae.frozen 2;simp only[Uaa] at z0 z1 x2;exact KbQ):p:=h
theorem ZeJ(h:p:=by go_wp2_with fail;exact bodyPost_ret (v:=.tuple #[ag 2,af 0]) Tao rfl ⟨rfl,ai.then fG.ae b3⟩):p:=h
theorem ZeK(h:p:=by obtain⟨f,rfl⟩:=ym T hT;have h3:f 3=_:=h3;have h6:f 6=_:=h6;have h8:f 8=_:=h8;have h9:f 9=_:=h9;have h10:f 10=_:=h10;have h11:f 11=_:=h11;simp only[XN,h3,h6,h8,h9,h10,h11];clear h3 h6 h8 h9 h10 h11;clear h3 h6 h8 h9 h10 h11 hT;exact KbR):p:=h
theorem ZeL(h:p:=by obtain⟨g,h1,f0⟩:=h;exact⟨g,h1,f0.later hl⟩):p:=h
theorem ZeM(h:p:=by intro W3 hL;simp only[Uab];rintro a0 - a1 - a2 - a3 - _ rfl a5 - a6 - _ rfl;simp only[bD,Act.put,Uac];exact KbS):p:=h
theorem ZeN(h:p:=by
 intro r hr;rcases List.mem_append.1 hr with hr | hr
 ·exact M4.ae r hr
 ·rw[mem_singleton] at hr;rw[hr];exact V4.ae.down HWO.ae):p:=h
theorem ZeO(h:p:=by
 refine bodyPost_ret (v:=.tuple #[.agg #[ag 0,au,af 0,af 0],af 0,af 2]) ZbF rfl ?_
 ·rw[Z4.ae,mF.ae,if_neg h32];exact Zb0):p:=h
theorem ZeP(h:p:=by
 intro j u hu;have:(Addr.add ⟨g,0,none⟩ j)=⟨g,j,none⟩:=by unfold Addr.add;split <;> simp_all
 rw[this,hg.cell];simpa using hu):p:=h
theorem ZeQ(h:p:=by
 go_wp2_with fail;go_roundw;case rel=>exact⟨i+1,E,by omega,.inl WC,by go_num,H3.ae,HW.ae,SO.ae⟩
 case measure=>exact Za0):p:=h
theorem ZeR(h:p:=by go_enter Tryz.func193,Tryz.ntmps193;go_wp2_with (go_at_call 206;refine(HD.ae _).mono ?_;rintro e w1 ⟨rfl,hL⟩);go_ret;exact ZcX):p:=h
theorem ZeS(h:p:=by skip;intro hg;have hg:ρ (.tmp 26)=.bool true:=hg;refine⟨λ _=>?_,λ hn=>absurd hg hn⟩;have h0:_=_:=hr.1;exact KbT):p:=h
theorem ZeT(h:p:=by rw[h] at hlt;exact absurd hlt Tac):p:=h
theorem ZeU(h:p:=by simpa using this):p:=h
theorem ZeV(h:p:=by simp[Array.getD_eq_getD_getElem?,Array.getElem?_setIfInBounds,hT,e2]):p:=h
theorem ZeW(h:p:=by clear DN;go_wp2_with fail;refine yz.ae.mono ?_;rintro e w5 ⟨rfl,b5⟩;generalize hr:Ho op.toNat width [v1,v2]=r at*;exact Zaf):p:=h
theorem ZeX(h:p:=by obtain⟨u,rfl⟩:=one WC;exact⟨_,#[_],rfl,.inr ⟨_,rfl⟩,Kw,λ W A c hb hr=>Kh x A c q _ u W hr (hq.later hb)⟩):p:=h
theorem ZeY(h:p:=by
 split at h
 ·injection h with h;injection h with h1 h2;subst h1;exact⟨⟨by simp,by simp⟩,λ e=>by simp at e⟩
 ·cases h):p:=h
theorem ZeZ(h:p:=by go_enter Tryz.func36,Tryz.ntmps36;go_wp2_with fail;go_ret;exact⟨by rw[T1.ae];rfl,by rw[HP.ae];exact H.ae.aU 0 _,aC hg 0 _⟩):p:=h
theorem Ze0(h:p:=by
 unfold iH at h;split at h
 ·exact⟨_,_,_,_,_,_,_,_,h.2⟩
 ·obtain⟨HA,hc,OA,oc,out,h1,_⟩:=h;exact⟨_,_,_,_,_,_,_,_,h1⟩):p:=h
theorem Ze1(h:p:=by
 have hK:(ju W g4 g5 gp).heap[D]?=some (.deferred (some [])):=by unfold ju;rw[Below.heap_setCell _ ⟨g5,0,none⟩ _ D (Ne.symm hf.new.2.2.2.2),Below.heap_setCell _ ⟨g4,0,none⟩ _ D (Ne.symm hf.new.2.2.2.1)];exact hf.dd
 exact KbU):p:=h
theorem Ze2(h:p:=by intro ρ w3 hc hL hr;have h0:_=_:=hr.1;exact aq (v:=ba gp 10) (w':=w3) Tai ⟨AR.refl _,rfl⟩):p:=h
theorem Ze3(h:p:=by clear DN;go_wp2_with fail;refine yz.ae.mono ?_;rintro e w5 ⟨rfl,b5⟩;generalize hr:Ho op.toNat width [v1]=r at*;exact Zaf):p:=h
theorem Ze4(h:p:=by subst hr2;have HG:=aa hg;clear hg hv hr;go_enter Tryz.func58,Tryz.ntmps58;go_wp2_with fail;refine(HG.ae _).mono ?_;exact ZcT):p:=h
theorem Ze5(h:p:=by
 skip;cases ne
 ·skip;exact Zai
 ·skip;exact Zai):p:=h
theorem Ze6(h:p:=by simp only[getElem?_map,getElem?_eq_getElem hlt,Option.map_some] at h1;injection h1 with h1;rw[h1];simpa using h2):p:=h
theorem Ze7(h:p:=by go_wp2_with fail;refine(oH.ae _ hb).mono ?_;rintro e w1 ⟨rfl,hB⟩;have hb1:=ai.then hb hB;clear hex hz hB hb;exact Zam):p:=h
theorem Ze8(h:p:=by exact⟨0,Nat.zero_le _,rfl,λ j hj=>by omega,Below.refl _ _⟩):p:=h
theorem Ze9(h:p:=by
 have HWA:=aa hwa;have Ag:=aa xh;have HGI:=aa Z3
 have agE:args.length=1/\al=false\/args.length=2:=by
  rw[xh];unfold qL at nk;split at nk
  ·left;refine⟨by omega,?_⟩;simp[tR];omega
  ·right;omega
 have H1:=aa h1;exact KbV):p:=h
theorem Zfa(h:p:=by
 have js:(args.map (·.1)++bad::post)[k]' Tab=bad:=by rw[getElem_append_right Tab];simp[fw]
 rw[js] at hex;exact KbW):p:=h
theorem Zfb(h:p:=by
 rw[d1];go_enter Tryz.func76,Tryz.ntmps76;go_wp2
 all_goals
  go_ret;refine⟨?_,by first | rfl | go_grown⟩;simp_all):p:=h
theorem Zfc(h:p:=by rwa [show zs.length=fuel+1 by omega] at this):p:=h
theorem Zfd(h:p:=by go_end0;rw[HT.ae];exact⟨rfl,HS.ae,HG.ae⟩):p:=h
theorem Zfe(h:p:=by
 have hv':=hv.keep (w':=(w.alloc (.cells (ay x) 46)).alloc (.cells #[ag 0,af 0,au] 44)) λ o=>(ai.then (ah w (.cells (ay x) 46)) (ah _ (.cells #[ag 0,af 0,au] 44))).cell (p:=⟨b,o,none⟩) hb
 unfold ei at hv';exact KbX):p:=h
theorem Zff(h:p:=by injection h1 with h1;have e1:=congrArg (λ a:Array Value=>a[0]?) h1;have e2:=congrArg (λ a:Array Value=>a[1]?) h1;simp at e1 e2;exact KbY):p:=h
theorem Zfg(h:p:=by skip;intro hg;have hg:ρ (.tmp 22)=.bool false:=hg;exact Zah):p:=h
theorem Zfh(h:p:=by rename_i hk;exact⟨rfl,hall,by rw[hc];simp[cnt,one,o,hk],by rw[hs];simp[Bp,Nq,o,hk],fj hb TaN⟩):p:=h
theorem Zfi(h:p:=by
 have EF:s=i:=by omega
 have EG:s=j:=by omega
 subst EF EG;clear hlt hi hj pn EE HF;have u0_:decide (s < Kx)=true:=decide_eq_true k0;exact KbZ):p:=h
theorem Zfj(h:p:=by intro i hi j hj hT hU nL;exact absurd (hT.trans hU.symm) nL):p:=h
theorem Zfk(h:p:=by
 split at h
 ·cases h
 ·injection h with h;exact .inr h.symm):p:=h
theorem Zfl(h:p:=by
 obtain⟨m,rfl⟩:∃m,σ=.bad m:=by
  match σ,Lv.ae with
  | .good l,cj=>simp[ck.gT] at cj;omega
  | .bad m,_=>exact⟨m,rfl⟩
 go_wp2_with (go_at_call 88;refine hwr.mono ?_;rintro e w1 ⟨rfl,d1⟩);go_ret;exact Kb0):p:=h
theorem Zfm(h:p:=by have SB:=aa iX;have vU:=aa iX.p;have H1:=aa iX.wt;have H2:=aa iX.wf;have H3:=aa iX.wn;have H4:=aa iX.wo;exact Kb1):p:=h
theorem Zfn(h:p:=by have HXn:=aa (d13.blk HX.ae WC);have HQn:=aa (d13.blk uk.ae WC);have HDn:=aa (pk.ae.trans d13);have atf:=d13.size;clear HX uk pk d13;have HX:=HXn;have uk:=HQn;have pk:=HDn;clear HXn HQn HDn;exact Kb2):p:=h
theorem Zfo(h:p:=by exact⟨rfl,rfl⟩):p:=h
theorem Zfp(h:p:=by exact iZ (.inl rfl) h1 ⟨ai.refl _,rfl⟩):p:=h
theorem Zfq(h:p:=by
 have Hh:l[k]?=some o:=by have:=congrArg (λ x=>x[0]?) hk;simpa using this
 have akB:k < l.length:=by
  rcases Nat.lt_or_ge k l.length with h' | h'
  ·exact h'
  ·rw[getElem?_eq_none h'] at Hh;cases Hh
 exact Kb3):p:=h
theorem Zfr(h:p:=by go_wp2_with fail;rw[rounds_succ];exact Zc3):p:=h
theorem Zfs(h:p:=by go_wp2;exact Zbt):p:=h
theorem Zft(h:p:=by rename_i hk;exact⟨rfl,hall,by rw[hc];simp[cnt,one,o],by rw[hs];simp[Bp,Nq,o],fj hb (by simp[key,o,hk])⟩):p:=h
theorem Zfu(h:p:=by have cb:=cJ.cell 0;simp only[getElem?_toArray,getElem?_cons_zero] at cb;rw[Nat.zero_add,cb,IH.ae]):p:=h
theorem Zfv(h:p:=by intro W3 hL;simp only[Uab];rintro _ rfl _ rfl _ rfl _ rfl a4 q4 a5 q5 a6 q6 a7 q7 a8 q8 a9 q9 FH Uu;replace q4:cV=a4:=Eq.symm q4;subst q4;exact Kb4):p:=h
theorem Zfw(h:p:=by intro ρ w vs hc hG hr;rw[t1] at hr;have r0:=hr.1;simp only[m2] at r0;exact⟨g1,hld ρ w r0 (BX _ _ hG)⟩):p:=h
theorem Zfx(h:p:=by have hl:=Ai _ _ _ _ hgm s.op false i _ hi;exact aq (w':=w3) Ta9 ⟨ai.refl _,rfl⟩):p:=h
theorem Zfy(h:p:=by
 split at h
 ·cases h
 ·injection h with h;injection h with h1 h;injection h with h2 h3;rw[<- h3];exact hs):p:=h
theorem Zfz(h:p:=by intro ρ w3 hc hL hr;have h0:_=_:=hr.1;have Kx:=(hL.cell (p:=⟨lb,j,none⟩) Wv.ae).trans tF.ae;exact ZdA):p:=h
theorem ZfA(h:p:=by simp only[Cn,Uaa] at c0 c1 c2;exact Zdl):p:=h
theorem ZfB(h:p:=by refine(cq ρ _ _ false KK.ae ⟨#[116,114,117,101]⟩ (show(ck.good (tk.w::r)).head (⟨#[116,114,117,101]⟩:ByteArray).data.toList=false from H1.ae)).mono ?_;rintro e w1 ⟨rfl,d1⟩;go_wp2_with fail;exact Kb5):p:=h
theorem ZfC(h:p:=by go_wp2_with fail;exact DM.ae _ _ (HO.ae HN.ae _ _ _ _ _ _ _ _ _ _ _ _ _ _ _ _ _ _ _ _ _ _ _ _ _ _ _ _ _)):p:=h
theorem ZfD(h:p:=by
 rcases Nat.lt_or_ge g w.heap.size with h' | h'
 ·exact h'
 ·rw[Array.getElem?_eq_none h'] at h2;cases h2):p:=h
theorem ZfE(h:p:=by
 rcases h4 with h4 | h4
 ·exact .inl h4
 ·exact .inr λ q hq=>by rw[h4] at hq;injection hq with hq;omega):p:=h
theorem ZfF(h:p:=by
 rcases(show s=a\/s=mid by omega)with e | e
 ·have:=HFN.ae;rwa [e] at this
 ·have:=Q1.ae;rwa [e] at this):p:=h
theorem ZfG(h:p:=by obtain⟨q,h1,f0,f1⟩:=h;exact⟨q,h1,hl.new _ f0,f1⟩):p:=h
theorem ZfH(h:p:=by rw[h4];simp only[h3,getElem_map,getElem_range]):p:=h
theorem ZfI(h:p:=by intro ρ' w' s' v' ZV xf Ed mV;exact ZaY):p:=h
theorem ZfJ(h:p:=by subst hx hcs;obtain⟨hbytes,Og⟩:=yD hT hw;rw[length_map,length_map,hlen] at hbytes;have hb2:len*Tryz.prog.bytesOf e<=reachBytes:=Nat.le_trans (Nat.mul_le_mul_right _ WC) hbytes;exact Kb6):p:=h
theorem ZfK(h:p:=by intro ρ' w' y' h';show _=Result.ok _ (w'.alloc (.cells (SG y').toArray _));simp[go_sem,h',itV,SG,bF]):p:=h
theorem ZfL(h:p:=by simp only[bD,Act.put,Uac];have Ma:=aa (Below.trans uS.ae (hL.mono uS.ae.size));have Mi:=aa (zW.ae.later hL);have DX:=aa (K9.ae.later hL);exact Kb7):p:=h
theorem ZfM(h:p:=by intro ρ w3 hc hL hr;have h0:_=_:=hr.1;have h1:_=_:=hr.2.1;have hs:=sO XA xn xc gn xJ.ae w3;exact ZcN):p:=h
theorem ZfN(h:p:=by obtain⟨x0,x1,x2,x3,x4,x5,x6,x7⟩:=dx HS.ae.blk;obtain⟨z0,z1,z2,z3,z4,z5,z6,z7⟩:=lq HS.ae.res;obtain⟨y0,y1,y2,y3,y4,y5,y6,y7⟩:=dx HS.ae.res;unfold nH at x0 x3 x4 x5 x6 x7;go_wp2_with fail;exact Kb8):p:=h
theorem ZfO(h:p:=by
 rcases Nat.lt_or_ge k l.length with h' | h'
 ·exact h'
 ·rw[getElem?_eq_none h'] at ho;cases ho):p:=h
theorem ZfP(h:p:=by rw[drop_eq_getElem_cons hlt];rw[getElem?_eq_getElem hlt] at h1;injection h1 with h1;rw[h1]):p:=h
theorem ZfQ(h:p:=by exact⟨rfl,rfl,rfl,rfl,rfl,[],.inl rfl,Tr.all_nil⟩):p:=h
theorem ZfR(h:p:=by
 skip;cases nz
 ·skip;cases ne
  ·exact Zbo
  ·exact Zbo
 ·skip;cases ne
  ·exact Zbo
  ·exact Zbo):p:=h
theorem ZfS(h:p:=by rw[uO.ae];exact⟨⟨0,⟨0,0,⟨#[]⟩⟩,⟨#[]⟩,0,none,0,0⟩,_,_,rfl,wA.ae.own kG mz.ae⟩):p:=h
theorem ZfT(h:p:=by
 go_roundw;case rel=>exact⟨k+1,TA,by go_num,by rw[nt.ae];exact O4.ae⟩
 case measure=>exact Za0):p:=h
theorem ZfU(h:p:=by rintro e w1 ⟨rfl,hs1,hg1⟩;go_wp2_with fail;go_end0;rw[HT.ae];exact⟨rfl,hs1,aY HG.ae hg1⟩):p:=h
theorem ZfV(h:p:=by obtain⟨a,ha⟩:=Option.isSome_iff_exists.1 ha;rw[ha] at hG;obtain⟨k1,k2,k3,za,k5⟩:=hG;obtain⟨q,c,e1,e2⟩:=za.row;exact Kb9):p:=h
theorem ZfW(h:p:=by refine(wU.ae w3 hL).mono ?_;exact Zbg):p:=h
theorem ZfX(h:p:=by
 skip;cases nz
 ·exact Zbz
 ·exact Zbz):p:=h
theorem ZfY(h:p:=by
 intro i w w' v h hl
 match i with
 | 0 | 1 | 2 | 3 | 4 | 5 | 6 | 7 | 8=>exact h
 | n+9=>exact h):p:=h
theorem ZfZ(h:p:=by exact aq (v:=.tuple #[VK,VL]) (w':=w3) Taq ⟨ai.refl _,_,_,rfl,cJ⟩):p:=h
theorem Zf0(h:p:=by
 repeat' split
 all_goals first
  | rfl
  |(exfalso;omega)
  |(subst_vars;rfl)
  |(congr 1;omega)):p:=h
theorem Zf1(h:p:=by obtain⟨x,h1,f0⟩:=h;exact⟨x,h1,f0.later hl⟩):p:=h
theorem Zf2(h:p:=by rw[hr] at hrun;injection hrun with _ hw;rw[<- hw];exact(ai.drew w).alloc (Nat.le_refl _) _):p:=h
theorem Zf3(h:p:=by
 funext k;unfold bc;repeat' split
 all_goals first
  | rfl
  |(exfalso;omega)
  |(congr 1;omega)):p:=h
theorem Zf4(h:p:=by intro ρ w3 hc hL hr;exact aq (w':=w3) (by simp[go_sem,hc.const];done) ⟨ai.refl _,rfl⟩):p:=h
theorem Zf5(h:p:=by exact⟨0,Nat.zero_le _,rfl,rfl,Below.refl _ _⟩):p:=h
theorem Zf6(h:p:=by exact⟨0,Nat.zero_le _,rfl,Below.refl _ _,rfl⟩):p:=h
theorem Zf7(h:p:=by simp only[Uaa] at c8 Kx c10;have CD:=aa hat;have ia:=aa aZ;have kx:=aa fX;have pD:=aa nU;clear b0 b2 bb nU hat aZ fX gZ;exact Kca):p:=h
theorem Zf8(h:p:=by
 intro i w w' v h hl
 match i with
 | 0 | 1 | 2 | 3 | 4 | 5 | 6 | 7=>exact h
 | n+8=>exact h):p:=h
theorem Zf9(h:p:=by have e1:=cJ.err;subst e1;exact aq (w':=w3) Taq ⟨ai.refl _,rfl⟩):p:=h
theorem Zga(h:p:=by clear hz;go_enter Tryz.func177,Tryz.ntmps177;go_wp2_with fail;go_ret2;exact Pc HB.ae rfl):p:=h
theorem Zgb(h:p:=by exact(h.at_ x PW).qB.tJ hc (by rw[ho];decide) hm):p:=h
theorem Zgc(h:p:=by exact aq (w':=w3) (by simp[go_sem,h0,c0,c1,c2,y3,c4,c5,c6,c7];done) ⟨ai.refl _,rfl⟩):p:=h
theorem Zgd(h:p:=by intro ρ w3 hc hL hr;have h1:ρ (.tmp 15)=.tuple #[.agg (aD v),af err]:=hr.1;exact ZcK):p:=h
theorem Zge(h:p:=by intro a w8 DY;simp only[bD,Act.put,Uac];intro a0 _ a1 _ a2 _ a3 _ a4 _ a5 _ a6 _ a7 _ a8 _ a9 _ FH _;refine wpList_nil ?_;exact Kcb):p:=h
theorem Zgf(h:p:=by subst q9;replace Uu: af FJ=FH:=Eq.symm Uu;subst Uu;simp only[bD,Act.put,Uac];exact Kcc):p:=h
theorem Zgg(h:p:=by have KK:=aa (Av.ae l rfl);have K9:=aa (show aB w5 gb 84 #[af (jo FJ 0)] from Qv.ae);have t1:(na (.ok l)==0)=true:=rfl;clear Av K8 Qv;obtain⟨XA,xc,hx0,hxl,G0⟩:=Jf KK.ae;subst hx0;have uA:=aa G0;exact Kcd):p:=h
theorem Zgh(h:p:=by clear Uy;go_wp2_with fail;refine(Io.ae _).mono ?_;rintro e w2 ⟨rfl,b3⟩;have c10:=(bz.later b3).cell 0;simp only[Uaa] at c10;exact Kce):p:=h
theorem Zgi(h:p:=by obtain⟨o,h1,h2⟩:=h;exact⟨o,h1,h2.fr hr⟩):p:=h
theorem Zgj(h:p:=by clear SE Pn;go_wp2_with fail;have HP:=ep jI.ae y;have HR:=dr HP;unfold dV at HR;obtain⟨r0,r1,r2,r3,r4,r5,r6⟩:=HR;exact Kcf):p:=h
theorem Zgk(h:p:=by
 have EF:s=i:=by omega
 have EG:s=j:=by omega
 subst EF EG;clear hlt hi hj pn EE HF;have u0_:decide (s < Kx)=false:=decide_eq_false k0;have u2_:decide (a < s)=true:=decide_eq_true k2;exact Kcg):p:=h
theorem Zgl(h:p:=by go_wp2_with fail;refine(He q w3 v3 ys _ O3.ae TT.ae ia.ae xF.ae).mono ?_;rintro e w4 ⟨rfl,b4⟩;have hb4:=Below.trans tq.ae (b4.mono tq.ae.size);clear b4;go_wp2_with fail;go_ret;exact Kch):p:=h
theorem Zgm(h:p:=by have iE:=hex.keep (λ o=>HP.ae.f.base.cell (p:=⟨b,o,none⟩) Cg);unfold cw at iE;have wW:=aa rI;have kx:=aa fX;have uO:=aa Jw;have HAA:=aa hA;rw[hA];clear hex rI fX Jw hA Cg fI;exact Kci):p:=h
theorem Zgn(h:p:=by kernel_rfl):p:=h
theorem Zgo(h:p:=by exact⟨0,Nat.zero_le _,rfl,Below.refl _ _⟩):p:=h
theorem Zgp(h:p:=by intro ρ w3 hc hL hr;have h1:_=_:=hr.1;exact iZ (.inl rfl) h1 ⟨AR.refl _,rfl⟩):p:=h
theorem Zgq(h:p:=by exact aq (w':=w3) TaF ⟨FR.refl _ _ _,rfl,λ h=>by cases h⟩):p:=h
theorem Zgr(h:p:=by exact⟨true,λ _=>h,λ h=> Tad⟩):p:=h
theorem Zgs(h:p:=by simp[Rows.uptoBulk]):p:=h
theorem Zgt(h:p:=by rw[e3,take_append_of_le_length Tac,take_of_length_le Tac]):p:=h
theorem Zgu(h:p:=by exact aq (w':=w3) (by simp[go_sem,hc.const,h0,h1,e1];done) ⟨ai.refl _,rfl⟩):p:=h
theorem Zgv(h:p:=by intro ρ w3 hc hL hr;have h0:_=_:=hr.1;have Kx:=(HEW.ae.later hL).c4;exact ZbO):p:=h
theorem Zgw(h:p:=by go_enter Tryz.func48,Tryz.ntmps48;exact Zfs):p:=h
theorem Zgx(h:p:=by go_enter Tryz.func49,Tryz.ntmps49;exact Zfs):p:=h
theorem Zgy(h:p:=by go_enter Tryz.func50,Tryz.ntmps50;exact Zfs):p:=h
theorem Zgz(h:p:=by intro ρ' w' v' x' u' ZV xf Ed mV;exact ZaY):p:=h
theorem ZgA(h:p:=by intro ρ w G cap h1 h2;simp[go_sem,h1,h2];intro hh;exact absurd hh WC):p:=h
theorem ZgB(h:p:=by
 intro i w w' v h hl
 match i with
 | 0 | 1 | 2 | 3 | 4=>exact h
 | n+5=>exact h):p:=h
theorem ZgC(h:p:=by refine⟨A,l,c,?_,h⟩;simp[Value.cells] at q;obtain⟨rfl,rfl,rfl⟩:=q;rfl):p:=h
theorem ZgD(h:p:=by have gu:=Hu.ae;unfold cw at hex;go_wp2_with fail;have bY:=ah wr (.cells (ay bad) 46);refine(gu _ (Kx.trans ((ai.then hb bY).mono Kx.size))).mono ?_;rintro e W3 ⟨rfl,b1⟩;exact Kcj):p:=h
theorem ZgE(h:p:=by exact aq (w':=w3) (by simp[go_sem,hc.const,h0,e1];done) ⟨ai.refl _,rfl⟩):p:=h
theorem ZgF(h:p:=by simp[Array.getD_eq_getD_getElem?,Array.getElem?_setIfInBounds,hT];exact aqg):p:=h
theorem ZgG(h:p:=by intro ρ w3 hc hL hr;intro hg;have hg:ρ (.tmp 57)=.bool true:=hg;exact Zah):p:=h
theorem ZgH(h:p:=by intro ρ w3 hc hL hr;intro hg;have hg:ρ (.tmp 61)=.bool true:=hg;exact Zah):p:=h
theorem ZgI(h:p:=by intro ρ w3 hc hL hr;intro hg;have hg:ρ (.tmp 74)=.bool true:=hg;exact Zah):p:=h
theorem ZgJ(h:p:=by intro ρ w3 hc hL hr;intro hg;have hg:ρ (.tmp 78)=.bool true:=hg;exact Zah):p:=h
theorem ZgK(h:p:=by simpa [Lit.wf,IntKind.min,IntKind.max,IntKind.signed,IntKind.bits] using h):p:=h
theorem ZgL(h:p:=by subst hr;clear HK II JS NA XH nE;go_wp2_with fail;go_ret;exact⟨rfl,hW⟩):p:=h
theorem ZgM(h:p:=by rw[length_map];omega):p:=h
theorem ZgN(h:p:=by rw[set_append_right _ _ (Nat.le_refl _),Nat.sub_self] at h1;exact h1):p:=h
theorem ZgO(h:p:=by go_wp2_with fail;exact HF.ae er _ _ ow.ae nE.ae ⟨rfl,rfl,rfl⟩ HW2.ae):p:=h
theorem ZgP(h:p:=by intro ρ w3 hc hL hr;have h0:_=_:=hr.1;have cJ:=Gn.ae.later hL;exact Zbi):p:=h
theorem ZgQ(h:p:=by have HC:=aa hC;clear hC;go_wp2_with fail;refine HC.ae.mono ?_;rintro e_ w5 ⟨rfl,G,q4,q5,ho⟩;have H2:=aa q4;have HW:=aa (Q5.ae.trans (q5.mono WC WC));exact Kck):p:=h
theorem ZgR(h:p:=by exact⟨w.heap.size,rfl,(aB.new w 4 #[.bool fv]).alloc _,by go_grown⟩):p:=h
theorem ZgS(h:p:=by obtain⟨q,q2,h1,h2,h3⟩:=h;exact⟨q,q2,h1,hk _ _ _ h2,hk _ _ _ h3⟩):p:=h
theorem ZgT(h:p:=by have HE:=aa hE;have HF:=aa Qr;have ia:=aa Jq;have HIL:=aa Tn;have Q5:=aa hz;have VE:=aa Nj;have XE:=aa Gu;have HFN:=aa Tp;have XF:=aa Qs;have aio:=aa hX;have G9:=aa fq;exact Kcl):p:=h
theorem ZgU(h:p:=by rw[h1] at h2;injection h2 with h2;injection h2 with _ h2 _;exact ht h2):p:=h
theorem ZgV(h:p:=by
 cases x with
 | error e=>rfl
 | ok p=>rfl):p:=h
theorem ZgW(h:p:=by exact aq (w':=w3) (by simp[go_sem,h0,c0,c1];done) ⟨ai.refl _,rfl⟩):p:=h
theorem ZgX(h:p:=by obtain⟨g,a,h1,f0,f1⟩:=h;exact⟨g,a,h1,f0.later hl,f1.later hl⟩):p:=h
theorem ZgY(h:p:=by go_wp2_with fail;go_ret;exact⟨by rw[HMX.ae];rfl,ai.then HB.ae hW⟩):p:=h
theorem ZgZ(h:p:=by
 by_cases h0:b.n=0
 ·rw[if_pos h0]
 ·rw[if_neg h0] at h ⊢;exact tS h):p:=h
theorem Zg0(h:p:=by simp[Array.getD_eq_getD_getElem?,Array.getElem?_setIfInBounds,hT,e4]):p:=h
theorem Zg1(h:p:=by simp[Array.getD_eq_getD_getElem?,Array.getElem?_setIfInBounds,hT,e5]):p:=h
theorem Zg2(h:p:=by go_wp2_with fail;go_ret;exact⟨by simp[vy,e1,e2,e3,e4,e5,e6],hb⟩):p:=h
theorem Zg3(h:p:=by unfold aF;rw[length_append,flatMap_append];simpa using h2):p:=h
theorem Zg4(h:p:=by injection hx with hx;subst hx;exact⟨h.cell 0,h.cell 1,h.cell 2⟩):p:=h
theorem Zg5(h:p:=by exact⟨_,_,⟨rfl,rfl⟩,by unfold Val.Ok num;dsimp only;omega⟩):p:=h
theorem Zg6(h:p:=by cases A1 <;> simp[sliced,sN]):p:=h
theorem Zg7(h:p:=by
 cases hs:sb
 ·rfl
 ·have h1:=Lb (sW.ae.1 hs);have h2:=HNA.ae;omega):p:=h
theorem Zg8(h:p:=by obtain⟨q,h1,h2,h3⟩:=h;exact⟨q,h1,h2.grown hr.grown h3,h3⟩):p:=h
theorem Zg9(h:p:=by
 rcases Q5.ae with h |⟨b,off,h1,h2,h3⟩
 ·exact ZeT
 ·exact Zd7):p:=h
theorem Zha(h:p:=by
 rcases Q3.ae with h |⟨b,off,h1,h2,h3⟩
 ·exact ZeT
 ·exact Zd7):p:=h
theorem Zhb(h:p:=by rw[hxe] at hcj;clear hxe aix;subst hA;obtain⟨q,hq⟩:∃q,q=x.g:=⟨_,rfl⟩;have HQ:=aa hq;rw[<- hq] at hcj;have Wv:=aa DT;have tF:=aa hcj;clear uW DT hcj hq;exact Kcm):p:=h
theorem Zhc(h:p:=by exact aq (w':=w3) (by simp[execOp,h1,bU,hf]) ⟨ai.refl _,rfl⟩):p:=h
theorem Zhd(h:p:=by simp[results,Tryz.results134,go_sem,r0,r1,r2,r3,r4,r5,r6,r7];rfl):p:=h
theorem Zhe(h:p:=by
 by_cases e:dI s l=true
 ·simp only[e,if_true]
 ·simp only[e];rfl):p:=h
theorem Zhf(h:p:=by go_wp2_with fail;go_ret;refine⟨mP ?_,rfl⟩;rw[H2.ae,sF hi];rw[HD.ae,cy,HB.ae,if_neg Taa,if_neg];exact Kcn):p:=h
theorem Zhg(h:p:=by exact⟨0,Nat.zero_le _,Nat.zero_le _,rfl,rfl,Below.refl _ _⟩):p:=h
theorem Zhh(h:p:=by exact⟨b,off,h1,h2,(h3 k _ (getElem?_eq_getElem TA)).1⟩):p:=h
theorem Zhi(h:p:=by refine⟨rfl,rfl,rfl,rfl,rfl,[],.inl rfl,?_⟩;unfold Tr.aO;rfl):p:=h
theorem Zhj(h:p:=by obtain⟨s,hs1,hs2,hF⟩:=Dh hp he q1 q2 WC;obtain⟨f,hf⟩:∃q:Nat,q=mid+m - s:=⟨_,rfl⟩;obtain⟨e1,e2,e3,e4,e5⟩:=Dg hp hf he q1 q2 hF hs1 hs2;exact Kco):p:=h
theorem Zhk(h:p:=by
 intro ρ w3 hc hL hr;cases gd
 ·skip;exact ZbM
 ·skip;exact ZbM):p:=h
theorem Zhl(h:p:=by exact⟨y,w1,gG,g0,h1,h2,h3,h4,h5.trans (ai.drew _),h6.drew⟩):p:=h
theorem Zhm(h:p:=by rw[drop_eq_getElem_cons h1,drop_eq_nil_of_le h2];rfl):p:=h
theorem Zhn(h:p:=by
 repeat' split
 all_goals first | rfl |(exfalso;omega)| simp_all):p:=h
theorem Zho(h:p:=by go_wp2_with fail;go_ret;exact⟨_,rfl,aF.nil,Below.refl _ _⟩):p:=h
theorem Zhp(h:p:=by obtain⟨fn,tmps,assign,body,hy,hR⟩:=G9.ae _ x _ hJ1 zL.ae;unfold Qm at hy;rw[hLk] at hy;have HR:=aa hR;exact Kcp):p:=h
theorem Zhq(h:p:=by intro ρ w σ hc hG hr he hno;refine⟨rfl,?_⟩;unfold zn at hG;rw[if_neg Taa];have r0:_=_:=hr.1;exact Kcq):p:=h
theorem Zhr(h:p:=by rintro e w1 ⟨rfl,rfl⟩;exact Zc3):p:=h
theorem Zhs(h:p:=by intro ρ w3 hc hL hr;have h1:ρ (.tmp 0)=aw p:=hr.1;exact Zfp):p:=h
theorem Zht(h:p:=by
 have t0:T.getD 0 undef=mM q L:=by rw[JV];simp[Array.getD_eq_getD_getElem?]
 have t1:T.getD 1 undef=.slice CA cols.length cc:=by rw[JV];simp[Array.getD_eq_getD_getElem?]
 exact Kcr):p:=h
theorem Zhu(h:p:=by
 have e1:bc D s Kx f=D:=by exact ZdK
 have H3:=aa (show SS w0 g n _ (bc D s Kx f) by rw[e1];exact H2.ae);have vV:=aa (show Sw s f D (bc D s Kx f) by rw[e1];exact .refl);exact Kcs):p:=h
theorem Zhv(h:p:=by go_wp2_with fail;have bY:=ah wr (.cells (ay y) 46);refine(gu _ (Kx.trans ((ai.then hb bY).mono Kx.size))).mono ?_;rintro e W3 ⟨rfl,b1⟩;have hb1:=ai.then bY b1;exact Kct):p:=h
theorem Zhw(h:p:=by replace HC:=aa (HC.ae.later hB);replace JW:=aa (JW.ae.later hB);replace Q3:=aa (Q3.ae.later hB);replace K3:=aa (K3.ae.later hB);replace HB:=aa (ai.then HB.ae hB);exact Kcu):p:=h
end Go.Proofs.YtndgjggokjickaaGreatDoor
