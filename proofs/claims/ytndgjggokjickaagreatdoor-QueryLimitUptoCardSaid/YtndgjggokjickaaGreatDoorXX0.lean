/- Scripts that several proofs use. -/
import Derived.BigQuiet
import Derived.Handy
import Derived.WalkLawsBesides
import Derived.Lib.Hide
import Derived.Deep.AppendLies
import Derived.Deep.RegionWith
import Derived.Laws.EntriesVeiled
import Derived.Shelf.Small.Bits
import Derived.Shelf.Strconv.Itoa3
import Derived.Shelf.SlicesE.Clone
import Derived.Shelf.Spec.BitsCarry
import Derived.Deep.DeepCutAuto
import Derived.Laws.CopyOwn
import Derived.Lib.ItoaLen
import Derived.Lib.AppendZeros
import Derived.Lib.ParseIntB
import Derived.Lib.Case
import Derived.Lib.AppendZerosOnto
import Derived.Lib.Overlaps
import Derived.RangeFuncNested
import Derived.RangeFuncBound
import Derived.Shelf.RegionOpen
import Derived.OwnWalkIn
import Derived.LoopNIn
import Derived.LoopIn
import Derived.Deep.WholeRow
import Derived.Deep.Strs
import Derived.Lay
import Derived.LaidMore
import Derived.Stop.LaidErr
import Derived.HandedShaped
import Derived.Deep.DeepHandedRow
import Derived.Test.YtndgjggokjickaaGreatDoorProg
namespace Go.Proofs.YtndgjggokjickaaGreatDoor
set_option linter.unusedVariables false
open Go.ChangeShapes Go.WideShapes Go.ChangeAt Go.RowKit List
abbrev aj (a b:World):Prop:=Below a.heap.size a b
abbrev ar (f:FuncId)(a:Array Value)(w:World)(q:Ending->World->Prop):Prop:=Calls Tryz.prog f a w q
def eZ (p:Prop):Prop:=p
theorem eZ.ae {p:Prop}(h:eZ p):p:=h
theorem aa {p:Prop}(h:p):eZ p:=h
abbrev aw (g:Nat):Value:=.pointer (some ⟨g,0,none⟩)
abbrev bh (g k:Nat):Value:=.pointer (some ⟨g,k,none⟩)
abbrev aH (g n c:Nat):Value:=.slice (some ⟨g,0,none⟩) n c
abbrev az:Value:=.slice none 0 0
abbrev au:Value:=.string ⟨#[]⟩
abbrev af (n:Int):Value:=.int .i64 n
abbrev ag (n:Int):Value:=.int .u8 n
theorem Uaa:(∀{α:Type}(l:List α)(i:Nat),l.toArray[i]?=l[i]?)/\(∀{α:Type}(a:α)(l:List α),(a::l)[0]?=some a)/\∀{α:Type}(a:α)(l:List α)(i:Nat),(a::l)[i+1]?=l[i]?:=by refine⟨?_,?_,?_⟩<;>simp
theorem Uab:(∀{α:Type}(a:α)(l:List α)(i:Nat),(a::l).take (i+1)=a::l.take i)/\(∀{α:Type}(l:List α),l.take 0=[])/\(∀{α:Type}(a:α)(l:List α)(i:Nat),(a::l).drop (i+1)=l.drop i)/\∀{α:Type}(l:List α),l.drop 0=l:=by refine⟨?_,?_,?_,?_⟩<;>simp
theorem Uac:(∀{α:Type}(l:List α)(i:Nat)(a:α),l.toArray.setIfInBounds i a=(l.set i a).toArray)/\(∀{α:Type}(x:α)(l:List α)(i:Nat)(a:α),(x::l).set (i+1) a=x::l.set i a)/\∀{α:Type}(x:α)(l:List α)(a:α),(x::l).set 0 a=a::l:=by refine⟨?_,?_,?_⟩<;>simp
variable{p:Prop}
theorem WC(h:p:=by omega):p:=h
theorem Taa(h:p:=by kernel_rfl):p:=h
theorem Tab(h:p:=by decide):p:=h
theorem Tac(h:p:=by simp;omega):p:=h
theorem Tad(h:p:=by simp):p:=h
theorem Tae(h:p:=by cases h):p:=h
theorem Taf(h:p:=by unfold M;simp;omega):p:=h
theorem Tah(h:p:=by simp[results,Tryz.results17,go_sem,dt];try rfl):p:=h
theorem Tai(h:p:=by simp[results,Tryz.results99,go_sem,x0,x1,z2,z3,z4,z5,z6];done):p:=h
theorem Taj(h:p:=by simp[go_sem,hc.const,h0];done):p:=h
theorem Tak(h:p:=by rw[hg2];exact congrArg some e):p:=h
theorem Tal(h:p:=by simpa using h):p:=h
theorem Tam(h:p:=by simp_all):p:=h
theorem Tan(h:p:=by unfold maxLen;omega):p:=h
theorem Tao(h:p:=by simpa using hlt):p:=h
theorem Tap(h:p:=by simp[results,Tryz.results153,go_sem]):p:=h
theorem Taq(h:p:=by simp[results,Tryz.results59,go_sem]):p:=h
theorem Tar(h:p:=by simp[go_sem,h0];done):p:=h
theorem Tas(h:p:=by simp[go_sem,e1,h0,h1];done):p:=h
theorem Tat(h:p:=by rw[HLEN.ae];omega):p:=h
theorem Tau(h:p:=by simpa [Function.comp_def] using hA):p:=h
theorem Tav(h:p:=by simp[results,Tryz.results61,go_sem,x0,x1,z2,z3,z4,z5,z6];done):p:=h
theorem Taw(h:p:=by simp[results,Tryz.results16,go_sem]):p:=h
theorem Tax(h:p:=by rw[getElem?_eq_getElem hi,he]):p:=h
theorem Tay(h:p:=by rw[Nt.ae];rfl):p:=h
theorem Taz(h:p:=by simp[go_sem,h0,h1];done):p:=h
theorem TaA(h:p:=by simp[go_sem,e1,h0];done):p:=h
theorem TaB(h:p:=by simp[go_sem,e1,e2];done):p:=h
theorem TaC(h:p:=by simp[ck,Value.oneCell']):p:=h
theorem TaD(h:p:=by simp[bH,Value.oneCell']):p:=h
theorem TaE(h:p:=by simpa using hi):p:=h
theorem TaF(h:p:=by simp only[Array.size_setIfInBounds];exact hT):p:=h
theorem TaG(h:p:=by simp[go_sem,h1]):p:=h
theorem TaH(h:p:=by rw[sP];exact pB):p:=h
theorem TaI(h:p:=by simp[results,Tryz.results106,go_sem]):p:=h
theorem TaJ(h:p:=by simp[results,Tryz.results64,go_sem]):p:=h
theorem TaK(h:p:=by rw[<- h.len];exact hi):p:=h
theorem TaL(h:p:=by rw[take_append_drop];exact hz):p:=h
theorem TaM(h:p:=by simp[go_sem,hc.const,h0,h1];done):p:=h
theorem TaN(h:p:=by simp[key,o]):p:=h
theorem TaO(h:p:=by have:=zh.ae;have:=HND.ae;omega):p:=h
theorem TaP(h:p:=by simp[h a (by simp)]):p:=h
theorem TaQ(h:p:=by simp only[length_singleton,Nat.min_def];split <;> omega):p:=h
theorem TaR(h:p:=by rw[wA.ae];exact Nat.le_refl _):p:=h
theorem TaS(h:p:=by have:=mF.ae;have:=zX.ae;omega):p:=h
theorem TaT(h:p:=by have:=No.ae;omega):p:=h
theorem TaU(h:p:=by rw[Q1.ae,<- Nz.ae];decide):p:=h
theorem TaV(h:p:=by rw[length_take];omega):p:=h
theorem TaW(h:p:=by rw[SL];exact Ek):p:=h
theorem TaX(h:p:=by simp[dO,Value.oneCell']):p:=h
theorem TaY(h:p:=by simp[cY,Value.oneCell']):p:=h
theorem TaZ(h:p:=by simp[aV,Value.oneCell']):p:=h
theorem Ta0(h:p:=by simp[aS,Value.oneCell']):p:=h
theorem Ta1(h:p:=by simp[results,Tryz.results161,go_sem,dt];try rfl):p:=h
theorem Ta2(h:p:=by simpa using hz):p:=h
theorem Ta3(h:p:=by simpa using hk):p:=h
theorem Ta4(h:p:=by simpa using h1):p:=h
theorem Ta5(h:p:=by rw[mL.ae];simp):p:=h
theorem Ta6(h:p:=by simp[results,Tryz.results111,go_sem];try rfl):p:=h
theorem Ta7(h:p:=by simp[results,Tryz.results109,go_sem];try rfl):p:=h
theorem Ta8(h:p:=by simp[execOp,h1,h2,hl]):p:=h
theorem Ta9(h:p:=by cases e):p:=h
theorem Tba(h:p:=by rw[ft];exact h6.old):p:=h
theorem Tbb(h:p:=by rw[e]):p:=h
theorem Tbc(h:p:=by have:=pG.ae.base.size;have:=mF.ae;omega):p:=h
theorem Tbd(h:p:=by simp[hx]):p:=h
theorem Tbe(h:p:=by simp[go_sem,h1,c0]):p:=h
theorem Tbf(h:p:=by rw[I.len];exact zu):p:=h
theorem Tbg(h:p:=by show w.heap.size≠w1.heap.size;omega):p:=h
theorem Tbh(h:p:=by injection e):p:=h
theorem Tbi(h:p:=by simp[results,Tryz.results105,go_sem]):p:=h
theorem Tbj(h:p:=by simp[go_sem];done):p:=h
theorem Tbk(h:p:=by rw[tq.ae,hs,if_neg (by simp),HGI.ae]):p:=h
theorem Tbl(h:p:=by have:=HN.ae;omega):p:=h
theorem Tbm(h:p:=by simpa using(by omega:s[0].toNat=48)):p:=h
theorem Tbn(h:p:=by simp[results,Tryz.results70,go_sem]):p:=h
theorem Tbo(h:p:=by simp[results,Tryz.results38,go_sem]):p:=h
theorem Tbp(h:p:=by simp[results,Tryz.results34,go_sem]):p:=h
theorem zbf.Kaf(h:p:=by
 go_wp2_with fail;go_roundw;case rel=>exact⟨m+1,j,by omega,by omega,by omega,by omega,by go_num,rfl,H3.ae⟩
 case measure=>exact Za1):p:=h
theorem zbg.Kaf(h:p:=by
 go_wp2_with fail;go_roundw;case rel=>exact⟨i,m,by omega,by omega,by omega,by omega,rfl,rfl,H3.ae⟩
 case measure=>exact Za1):p:=h
theorem zev.KaR(h:p:=by
 have zpc:(p:Int) - (m:Int)=((p - m:Nat):Int):=by omega
 have c1:=λ q:Ext wr.heap.size wr=>(H2.ae.at_.later q.h).cell (p - m) WC
 have lG:=λ q:Ext wr.heap.size wr=>(H2.ae.at_.later q.h).dF (p - m) WC
 have c2:=λ q:Ext wr.heap.size wr=>(H2.ae.at_.later q.h).cell m WC
 have lH:=λ q:Ext wr.heap.size wr=>(H2.ae.at_.later q.h).dF m WC
 have hc:=λ q:Ext wr.heap.size wr=>H2.ae.cmp (p - m) m WC WC q.h
 by_cases hcs:m < s
 ·have t2:=decide_eq_false (show¬fW (D (p - m)) (D m)< 0 from HF.ae.low m WC hcs);refine aM 14 wr.heap.size wr (Below.refl _ _) Taa Taa Taa Taa ?_;open zbf in exact Zaw
 ·have t2:=decide_eq_true (show fW (D (p - m)) (D m)< 0 from HF.ae.high m WC WC);refine aM 14 wr.heap.size wr (Below.refl _ _) Taa Taa Taa Taa ?_;open zbg in exact Zaw):p:=h
theorem ZZ(h:p:=by go_upto_region 35 with fail;open zev in exact Zch):p:=h
theorem Zaa(h:p:=by intro ρ w3 hc hL hr;exact ZbP):p:=h
theorem zgB.KbF(h:p:=by
 have cJ:=PL.ae;have Gj:=cJ.frozen;have y0:=cJ.cell 0;have y1:=cJ.cell 1;have c2:=cJ.cell 2;have y3:=cJ.cell 3;have o4:=cJ.cell 4;have o5:=cJ.cell 5;have y6:=cJ.cell 6;simp only[Uaa] at y0 y1 c2 y3 o4 o5 y6;have hne:g9≠g4:=Ne.symm Xw.ae.1;clear Jh cJ;go_wp2_with fail;clear z0 z1 x2 x3 x4 x5 x6 y0 y1 c2 y3 o4 o5 y6 Gj hne;generalize uE:World.setCell _ _ _=W9;have hR:aB W9 g4 46 #[.int .u8 2,.int .u8 0,.int .i64 0,.string ⟨#[]⟩,.string nm,.int .i64 0,.slice none 0 0]:=by rw[<- uE];simpa using(((((((PL.ae.aT 0 _).aT 1 _).aT 2 _).aT 3 _).aT 4 _).aT 5 _).aT 6 _)
 have kK:WD.grownBy W9 (some g4):=by rw[<- uE];exact aC (aC (aC (aC (aC (aC (aC (aR (Below.refl _ _)) _ _) _ _) _ _) _ _) _ _) _ _) _ _
 clear uE;have x0:=hR.cell 0;have x1:=hR.cell 1;have z2:=hR.cell 2;have z3:=hR.cell 3;have z4:=hR.cell 4;have z5:=hR.cell 5;have z6:=hR.cell 6
 simp only[Uaa] at x0 x1 z2 z3 z4 z5 z6;refine bodyPost_ret (v:=.tuple #[.agg #[.int .u8 2,.int .u8 0,.int .i64 0,.string ⟨#[]⟩,.string nm,.int .i64 0,.slice none 0 0],.int .i64 0]) Tai rfl ?_;have hkD:=G0.ae.kp (ew.2 CI.ae);exact⟨⟨2,⟨0,0,⟨#[]⟩⟩,nm,0,none,0,0⟩,_,_,_,rfl,by rw[Sz.ae];exact BJ s.aL.length _ _,(by
  have h9:=ahI.ae.aside kK hkD (Nat.le_trans pG.ae.base.size mF.ae)
  rw[Sz.ae] at h9
  exact h9),(((gK.refl gp w (Value.slice UA ya.length uc) (Value.slice VA s.aL.length vc)).later Gl.ae).trans G0.ae).own kK mF.ae⟩):p:=h
theorem Zab(h:p:=by
 have gX:=HO.ae.blk;unfold PC.cells at gX;have c10:=gX.cell 10;simp only[Uaa] at c10;clear gX;go_wp2_with fail;refine(oY s.aL.length WC WC WA (gh.ae.env.later HO.ae.base)).mono ?_;rintro e w7 ⟨rfl,q4⟩;have tF:=aa (HO.ae.later q4);have wI:=aa (K3.ae.later q4);have zW:=aa (K6.ae.later q4);clear q4 HO K3 K6 c10;unfold mA KV;obtain⟨nm,iR⟩:∃nm,nm=iX s.aL.length:=⟨_,rfl⟩;rw[<- iR];have Sz:=aa iR;clear iR;go_upto_region 13 with fail;have kK:=aB.new w7 46 #[.int .u8 2,.int .u8 0,.int .i64 0,.string ⟨#[]⟩,.string nm,.int .i64 0,.slice none 0 0];have Gm:=ah w7 (.cells #[.int .u8 2,.int .u8 0,.int .i64 0,.string ⟨#[]⟩,.string nm,.int .i64 0,.slice none 0 0] 46);generalize w7.alloc (.cells #[.int .u8 2,.int .u8 0,.int .i64 0,.string ⟨#[]⟩,.string nm,.int .i64 0,.slice none 0 0] 46)=WB at*;obtain⟨g9,F5⟩:∃g9,g9=w7.heap.size:=⟨_,rfl⟩;rw[<- F5] at kK ⊢;have Vw:=aa kK;have kW:=aa (tF.ae.later Gm);have F6:=aa (wI.ae.later Gm);have F7:=aa (zW.ae.later Gm);have Xw:=aa (show g4≠g9/\gp≠g9 from⟨by have:=zW.ae.lt;omega,by have:=tF.ae.blk.lt;omega⟩);clear kK Gm F5 tF wI zW;refine fu _ _ (take_append_drop 13 _).symm (AR aS 113 2 w0.heap.size (Value.slice VA s.aL.length vc) s.aL ⟨nm,ty⟩) AR.refl (λ _ _ _=>AR.trans) AR.drew (acu gp g9 w0.heap.size WB (Value.slice VA s.aL.length vc) s.aL nm ty) (λ i w w' x h hr=>CH _ _ _ _ _ _ _ _ _ _ _ _ h hr) Taa Taa Taa ?_ ?_
 ·simp only[take_succ_cons,take_zero];refine⟨ZaT,ZaT,ZaT,Zd2,?_,?_,?_,?_,?_,?_,?_,ZaT,Zd2,trivial⟩
  ·intro ρ w3 hc hL hr;have h0:_=_:=hr.1;have jS:=dA kW.ae.blk kW.ae.dI Tab hL.grown;exact Zdq
  ·intro ρ w3 hc hL hr;have h0:_=_:=hr.1;exact aq (v:=.pointer (some ⟨g9,4,none⟩)) (w':=w3) Taj ⟨AR.refl _,rfl⟩
  ·intro ρ w3 hc hL hr;have h0:_=_:=hr.1;have hb9:=dA Vw.ae kW.ae.dI Tab hL.grown;have x4:=hb9.cell 4;simp only[Uaa] at x4;exact aq (w':=w3) (by simp[go_sem,h0,x4];done) ⟨AR.refl _,rfl⟩
  ·intro ρ w3 hc hL hr;have h0:_=_:=hr.1;exact aq (v:=.int .u8 ty) (w':=w3) Taj ⟨AR.refl _,rfl⟩
  ·intro ρ w3 hc hL hr;have h0:_=_:=hr.1;have h1:_=_:=hr.2.1;exact aq (v:=.agg #[.string nm,.int .u8 ty]) (w':=w3) TaM ⟨AR.refl _,rfl⟩
  ·intro ρ w3 hc hL hr;have h0:_=_:=hr.1;refine aq (v:=.slice (some ⟨w3.heap.size,0,none⟩) 1 1) (w':=w3.alloc (.cells #[.string nm,.int .u8 ty] 113)) Tar ⟨AR.later (ah w3 _),⟨_,rfl,aB.new w3 _ _,λ e=>?_⟩⟩;have:=((hL.old kW.ae.dI).lt e).1;omega
  ·intro ρ w3 hc hL hr;have h0:_=_:=hr.1;obtain⟨q1,h1,uF,Jg⟩:∃q:Nat,ρ (.tmp 79)=.slice (some ⟨q,0,none⟩) 1 1/\aB w3 q 113 (aS ⟨nm,ty⟩).toArray/\(Value.slice VA s.aL.length vc).ownBlock≠some q:=hr.2.1;obtain⟨v',w',hrun,ho,yD,Ei⟩:=eM (P:=Tryz.prog) (w:=w3) 28 28 _ 24 Tryz.underlying28 rG rfl WC (λ _=>rfl) Ta0 (hL.old kW.ae.dI) q1 uF (by show(s.aL.length+1)*24<=_;omega) (by show s.aL.length+1<=_;omega) (Nat.le_trans kW.ae.base.size hL.grown.size);exact ZbQ
 intro W3 hL;simp only[Uab];rintro a0 - a1 - a2 - a3 - a4 - a5 - a6 - a7 - a8 - a9 - FA ⟨atS,rfl,CK,Mk⟩ F8 - _ rfl;simp only[bE,Act.put,Uac];obtain⟨VB,vcb,hVB,_⟩:=CK.reads;rw[length_append,length_singleton] at hVB;subst hVB;have HOC:=aa CK;have HMC:=aa Mk;have LT:=aa hL.grown;have jS:=dA kW.ae.blk kW.ae.dI Tab hL.grown;have f10:=jS.frozen 10;unfold PC.cells at jS;have c10:=jS.cell 10;simp only[Uaa] at c10;have PY:=aa (dA Vw.ae kW.ae.dI Tab hL.grown);have HZC:=aa (dA F7.ae kW.ae.dI Tab hL.grown);clear CK Mk jS hL Vw F7;go_upto_region 14 with fail;clear f10 c10;have ahI:=aa (kW.ae.Qc HOC.ae LT.ae);have G0:=aa (F6.ae.trans (gK.F4 (gp:=gp) LT.ae HMC.ae (Value.slice VB (s.aL.length+1) vcb) 10));have SV:=aa (PY.ae.far (p:=⟨gp,10,none⟩) (Ne.symm Xw.ae.2) (Value.slice VB (s.aL.length+1) vcb));have PL:=aa (HZC.ae.far (p:=⟨gp,10,none⟩) CI.ae.2.1 (Value.slice VB (s.aL.length+1) vcb));clear kW F6 PY HZC HOC HMC LT;generalize World.setCell W3 _ _=WD at*;open zgB in exact Zeu):p:=h
theorem zgY.KbM(h:p:=by
 have cU:=λ y:Ext W.heap.size W=>hu.keep (w':=y.w) λ o=>y.cell (p:=⟨b,o,none⟩) hb2
 unfold eh at cV cU;exact Kb):p:=h
theorem zcp.Kar(h:p:=by
 replace hv:=hv.keep (w':=W) λ o=>hB.cell (p:=⟨b,o,none⟩) hb
 replace hu:=hu.keep (w':=W) λ o=>hB.cell (p:=⟨b,o,none⟩) hb
 open zgY in exact ZeE):p:=h
theorem Zac(h:p:=by open zcp in exact ZaM):p:=h
theorem Zad(h:p:=by
 obtain⟨i0,kZ,Xg⟩:=lq h0;obtain⟨Kx,⟨hi,hu⟩,AK⟩:=least (p:=λ Kx=>Kx < l.length/\listed.getD Kx false=false) i0 ⟨kZ,Xg⟩
 have mB:∀i,i < Kx->listed.getD i false=true:=λ i hj=>by
  cases hc:listed.getD i false with
  | true=>rfl
  | false=>exact absurd ⟨by omega,hc⟩ (AK i hj)
 have Nk:l[Kx]?=some l[Kx]:=getElem?_eq_getElem hi;have vp:=cF aZ Kx _ Nk;simp only[lO,Bool.and_eq_true,Nat.zero_add] at vp
 have iT:Kx∈Region.ready .any (l++zs).toArray listed:=by
  refine qJ (nM Nk) ?_ λ i hj=>mB i (of_decide_eq_true (List.all_eq_true.1 vp.1.1.1 i hj))
  rw[ep (by rw[I.len];simp;omega)];exact hu
 refine⟨(λ hnil=>by rw[hnil] at iT;cases iT),λ i hj=>?_⟩;obtain⟨AL,oj,oF,hall⟩:=mem_ready.1 hj
 have zu:i <(l++zs).length:=by
  rcases Nat.lt_or_ge i (l++zs).length with h' | h'
  ·exact h'
  ·rw[Array.getElem?_eq_none (by simpa using h')] at oF;cases oF
 rw[ep Tbf] at AL;have eY:∀k∈eX oj,listed.getD k false=true:=λ k hk=>by obtain⟨e,he,hb,rfl⟩:=ju.1 hk;exact hall e he hb
 have rZ:i < l.length:=by
  rcases Nat.lt_or_ge i l.length with h' | h'
  ·exact h'
  ·exfalso
   have hzj:zs[i - l.length]?=some oj:=by
    have:(l++zs)[i]?=some oj:=by simpa using oF
    rw[getElem?_append_right WC] at this;exact this
   have Rp:=iG hz (i - l.length) oj hzj;rw[show l.length+(i - l.length)=i by omega] at Rp;have hc:=iH (L:=l++zs) (λ k=>listed.getD k false=true) (by
    intro k ok hk hd e he
    rcases Nat.lt_or_ge k l.length with NF | NF
    ·rw[getElem?_append_left NF] at hk
     exact I.closed k ok hk hd e he
    ·rw[I.tail k NF] at hd;cases hd) i (eX oj) Rp.2 eY Kx WC
   rw[hu] at hc;cases hc
 have vo:l[i]?=some oj:=by
  have:(l++zs)[i]?=some oj:=by simpa using oF
  rw[getElem?_append_left rZ] at this;exact this
 exact KG):p:=h
theorem ziC.Kct(h:p:=by
 unfold bR;go_wp2_with fail;have HV:=aB.new W3 44 (aD v);have bG:=ah W3 (.cells (aD v) 44);have b1:=ai.then hb1 bG;have xo:=HO;replace HO:=aa (HO.ae.later b1);replace Q3:=aa (Q3.ae.later b1);replace hb:=ai.then hb b1;have hsz:wr.heap.size<=W3.heap.size:=hb1.size;have hne:∀u,aI aV 44 3 wr W.heap.size u ((args.take k).map (·.2))->some W3.heap.size≠u.ownBlock:=λ u hu e=>by have:=(hu.lt e.symm).1;omega
 have NU:=hne _ xo.ae;clear hne b1 hb1 Kx bY bG fZ hex xo;generalize W3.alloc (.cells (aD v) 44)=w2 at*;generalize W3.heap.size=LT at*;have AX:((args.take k).map (·.2)).length<=1599289640356:=by simp;omega
 have LE:((args.take k).map (·.2.k)).length<=1599289640356:=by simp;omega
 generalize hvs:(args.take k).map (·.2)=vs at*;generalize pR:(args.take k).map (·.2.k)=ks at*;have HVS:=aa hvs;have NW:=aa pR;clear hvs pR;have hbase:W.heap.size<=w2.heap.size:=hb.size;have alc:vs.length<=1599289640356:=AX;refine fu _ _ (take_append_drop 8 _).symm (AR aV 44 3 W.heap.size u8 vs v) AR.refl (λ _ _ _=>AR.trans) AR.drew (evV W.heap.size u8 u9 vs v LT) (λ i w w' u h hr=>EW _ _ _ _ _ _ _ _ _ _ h hr) Taa Taa Taa ?_ ?_
 ·simp only[take_succ_cons,take_zero];refine⟨Zgz,ZeP,?_,?_,Zgz,?_,ZeP,?_,trivial⟩
  ·intro ρ w3 hc hL hr;have h1:_=_:=hr.1;refine aq (v:=aH w3.heap.size 1 1) (w':=w3.alloc (.cells (aD v) 44)) TaG ⟨AR.later (ah w3 _),⟨_,rfl,aB.new w3 _ _,λ e=>?_⟩⟩;have:=((hL.old HO.ae).lt e.symm).1;omega
  ·intro ρ w3 hc hL hr;have h1:_=_:=hr.1;obtain⟨q,h2,h3,h4⟩:∃q,ρ (.tmp 37)=aH q 1 1/\aB w3 q 44 (aV v).toArray/\some q≠u8.ownBlock:=hr.2.1;obtain⟨v',w',hrun,ho,yD⟩:=fc (P:=Tryz.prog) (w:=w3) 38 38 _ 32 Tryz.underlying38 lW rfl WC (λ _=>rfl) TaZ (hL.old HO.ae) q h3 WC WC (Nat.le_trans hbase hL.grown.size);exact aq (v:=v') (w':=w') (by simp only[execOp,resolve,invoke,builtin,Sem.run_bind,Sem.run_pure,Result.andThen_ok,map_toArray,map_cons,map_nil,h1,h2,hrun]) ⟨yD,ho⟩
  ·intro ρ w3 hc hL hr;have h1:_=_:=hr.1;exact aq (w':=w3) TaG ⟨AR.refl _,rfl⟩
  ·intro ρ w3 hc hL hr;have h1:_=_:=hr.1;refine aq (v:=aH w3.heap.size 1 1) (w':=w3.alloc (.cells #[ag v.k] 5)) TaG ⟨AR.later (ah w3 _),⟨_,rfl,aB.new w3 _ _,λ e=>?_⟩⟩;have:=((hL.old HO.ae).lt e.symm).1;omega
 ·intro w3 hL;simp only[Uab];intro a0 h0 a1 h1 a2 h2 v3 hO3 a4 h4 a5 h5 a6 h6 a7 h7;obtain⟨q2,h2,_⟩:=h2;obtain⟨q7,h7,hq7,_⟩:=h7;have h0:u8=a0:=Eq.symm h0;have h4:u9=a4:=Eq.symm h4;have h1:_=a1:=Eq.symm h1;have h2:_=a2:=Eq.symm h2;have h5:_=a5:=Eq.symm h5;have h6:_=a6:=Eq.symm h6;have h7:_=a7:=Eq.symm h7;subst h0 h1 h2 h4 h5 h6 h7;have hO3:aI aV 44 3 w3 W.heap.size v3 (vs++ [v]):=hO3;have hK3:=Q3.ae.past HO.ae Tab hL.grown;have hb3:=hb.trans (br HO.ae hL.grown hbase);have TQ:=aa hO3;have DJ:=aa hK3;have HQ7:=aa hq7;have AY:=hb3.size;clear hO3 hK3 hq7 HO Q3 hL HV NU hb;simp only[bE,Act.put,Uac];go_wp2_with (first
   |(at_builtin
     refine aU rfl (.tmp 39) (.tmp 42) 97 rfl _ 1 Tryz.underlying97 oH rfl WC v.k rfl TaX rfl DJ.ae q7 rfl HQ7.ae WC WC AY ?_
     intro v4 w4 z4 g4
     have b4:=br DJ.ae g4 AY
     have z3:=TQ.ae.past DJ.ae Tab g4
     have O4:=aa z4
     have O3:=aa z3
     clear z4 g4 DJ TQ HQ7 z3))
  go_roundw
  case rel=>
   refine⟨k+1,hlt,by go_num,?_,?_,hb3.trans b4⟩
   ·rw[HT.ae,map_append,HVS.ae];exact O3.ae
   ·rw[HT.ae,map_append,NW.ae];exact O4.ae
  case measure=>exact Za1):p:=h
theorem zcX.Kay(h:p:=by open ziC in exact ZhE):p:=h
theorem Zae(h:p:=by open zcX in exact Zbe):p:=h
theorem zeU.Ka1(h:p:=by
 unfold qA at*;unfold dr.ptr;obtain⟨tk,pl,bd,hpl,hlt,hsm,uq,cg,KK,JL,uX,hp⟩:=h0.wk;obtain⟨r',na⟩:=KK _ rfl;have ZR:t=tk.w:=by injection na
 have Eh:bd < 0:=by simpa [cj.gT] using cg
 subst ZR;have Z8:=h0.left;have DM:=hp.later (ah _ qf);have Lr:=hp.later ((ah _ (.cells (dC tk) 172)).drew);have hb3:=(ah (w.alloc (.cells #[ag 0,ag 0,af 0,au,au,af 0,az] 46)) (.cells (dC tk) 172)).drew;have HT:=(aB.new (w.alloc (.cells #[ag 0,ag 0,af 0,au,au,af 0,az] 46)) 172 (dC tk)).drew;rw[hsz] at HT;have Kx:=aa (h0.later hb3);have HD:=aa ((eE.cW h hb).later hb3);have mZ:=aa (HQ.ae.later hb3);have nU:=(h0.later hb3).facts.2.2.2.2.1;have Cc:((w.alloc (.cells #[ag 0,ag 0,af 0,au,au,af 0,az] 46)).alloc (.cells (dC tk) 172)).drew.heap.size=w.heap.size+2:=by simp
 exact KW):p:=h
theorem Zaf(h:p:=by open zeU in exact Zcz):p:=h
theorem Zag(h:p:=by have YES:=aa (show∀w2,aj w w2->qV w (.returned (.bool true)) w2 from λ w2 h=>⟨true,rfl,h⟩);obtain⟨uX,TU,hn3⟩:=hn;clear b1 k1;go_enter Tryz.func21,Tryz.ntmps21;go_upto_region 1 with fail;change Code.wp _ _ _ _ (w.alloc (.cells #[ag 0,au,az,au,af 0,au,af 0,.slice L.i.A L.i.n L.i.c,.string q.bT,.bool q.only,.slice L.w.A L.w.n L.w.c,.slice L.g.A L.g.n L.g.c,.slice L.h.A L.h.n L.h.c,.slice L.o.A L.o.n L.o.c,.slice L.l.A L.l.n L.l.c,ag 0,au,af 0,af 0,az,az,az,ag 0,af 0,au,ag 0,af 0,au] 64));generalize w.alloc _=W1 at*;obtain⟨sv,CT⟩:∃sv,sv=Value.agg #[ag 0,au,az,au,af 0,au,af 0,.slice L.i.A L.i.n L.i.c,.string q.bT,.bool q.only,.slice L.w.A L.w.n L.w.c,.slice L.g.A L.g.n L.g.c,.slice L.h.A L.h.n L.h.c,.slice L.o.A L.o.n L.o.c,.slice L.l.A L.l.n L.l.c,ag 0,au,af 0,af 0,az,az,az,ag 0,af 0,au,ag 0,af 0,au]:=⟨_,rfl⟩;rw[<- CT];clear CT;obtain⟨gs,pV⟩:∃gs,gs=w.heap.size:=⟨_,rfl⟩;exact Kaa):p:=h
theorem Zah(h:p:=by have HR9:=aa hr;clear hr;unfold bR;clear z0 z1 x2 x3 x4 x5 x6 x0 x1 z2 z3 z4 z5 dt gV;replace cJ:=cJ.later b5;replace hB:=ai.then hB b5;have dt:=aG cJ;have gV:=aB.frozen cJ;go_wp2_with fail;exact bodyPost_ret (v:=.tuple #[.agg (aD r.1),af r.2]) Tah rfl ⟨congrArg (λ r:Val×Int=>Ending.returned (bR r.1 r.2)) Nm.ae.symm,((hB.setCell bJ _).setCell bJ _).setCell bJ _⟩):p:=h
theorem Zai(h:p:=by go_wp2_with fail;have ED:=aa (Q3.ae.congr (E:=E) λ x h1 h2=>HW.ae.ae x (.inr h1));have EE:=aa (Q4.ae.congr (E:=E) λ x h1 h2=>HW.ae.ae x (.inr WC));refine(IH.ae mid f b E _ WC WC hb WC H4.ae ED.ae EE.ae).mono ?_;rintro e_ w7 ⟨rfl,T,h5,h6,h7⟩;have HF:=jd ⟨by omega,by omega⟩ Q5.ae HW.ae h6 HO.ae h7;have HT:=aa h5;have xh:=aa HF.1;have qC:=aa ((wB.ae.mono WC WC).trans HF.2);clear h5 h6 h7 HF;go_wp2_with fail;exact bodyPost_ret (v:=.tuple #[]) TaI rfl ⟨rfl,T,HT.ae,qC.ae,xh.ae⟩):p:=h
theorem Zaj(h:p:=by refine⟨λ _=>?_,λ hn=>absurd hg hn⟩;exact ZbP):p:=h
theorem Zak(h:p:=by have h0:_=_:=hr.1;have h1:_=_:=hr.2.1;exact aq (w':=w3) TaM ⟨ai.refl _,rfl⟩):p:=h
theorem Zal(h:p:=by
 generalize ba D s Kx f=R at*;have H6:cE R a mid:=by exact ZfP
 obtain⟨E,hE⟩:∃E,E=R:=⟨_,rfl⟩;have H4:=aa (show SS w0 g n _ E by rw[hE];exact H3.ae);have HW:=aa (show Sw a mid R E by rw[hE];exact .refl);have HO:=aa (show cE E a mid by rw[hE];exact H6);clear hE H6 H3;go_wp2_with fail;have ED:=aa (Q3.ae.congr (E:=E) λ x h1 h2=>HW.ae.ae x (.inr h1));have EE:=aa (Q4.ae.congr (E:=E) λ x h1 h2=>HW.ae.ae x (.inr WC));have H6:=aa (show cE E mid b from by
  rcases(show f=mid\/f=b by omega)with e | e
  ·have:=EE.ae;rwa [e] at this
  ·have:=ED.ae;rwa [e] at this)
 exact ZbH):p:=h
theorem Zam(h:p:=by
 have K1:=sQ;have xM:=GK;have HYB:=NC;have tL:=Mr;have Wt:=Tt;have pU:=aa x7;clear sQ GK NC HT7 adK fx z0 x4 x7 Ck;obtain⟨WB,hWB⟩:∃WB,WB=WD:=⟨_,rfl⟩;rw[<- hWB] at K1 xM HYB tL Wt pU ⊢;have HOi:=aa K1.ae.o3;have HOh:=aa K1.ae.o2;have HLi:=aa (show yi.length<=1000000 by have:=HFN.ae;have:=qE.ae;have:=VH.ae;have:=zW.ae;omega);have HLh:=aa (show(hd++jV).length<=1000000 by have:=Q3.ae;have:=HFN.ae;have:=qE.ae;have:=VH.ae;rw[length_append];omega);have key:=λ(T:Array Value) (hT:T.size=252) e0 e1 e2 e3 (Q2:Exit->Act->World->Prop) hf=>Ds (T:=T) (d:=d) (Q:=Q2) (gp:=gp) (B:=w0.heap.size) (gY:=gY) (g16:=g16) (W:=WB) (cs:=c.cells { r with h:=rh,i:=ri } u' v') (ri:=ri) (rh:=rh) (yi:=yi) (y:=Kx) (hd:=hd++jV) (nm:=nm) (ty:=ty) hT e0 e1 e2 e3 rfl rfl K1.ae.f.base.size K1.ae.blk HOi.ae HOh.ae HLi.ae HLh.ae HYB.ae Wt.ae.2.1 (Wt.ae.2.2 3 WC) (Wt.ae.2.2 2 WC) pU.ae tL.ae.1 tL.ae.2.1 (tL.ae.2.2 3 WC) (tL.ae.2.2 2 WC) hf
 simp only[Dr,bK,fy,Tryz.f28,Option.getD_some,rW,Nat.reduceEqDiff,if_true,if_false] at key;refine key _ ?_ ?_ ?_ ?_ ?_ _ ?_
 ·rfl
 ·rfl
 ·rfl
 ·rfl
 ·rfl
 clear key;intro adr ads z167 z168 adt adu z171 adw z173 adx z175 ady adz adA adB adC adD z182 z183 adE adF adG adH w8 a b9 s7 EH yu;simp only[Uac];have P8:=aa (K1.ae.QS yu (mz xM.ae));clear yu K1 HYB pU xM HOi HOh;generalize World.setCell w8 _ _=Nx at*;have hk7:k < 1000000:=by have:=HFN.ae;have:=VH.ae;omega
 go_wp2_with fail;go_roundw;case rel=>exact⟨k+1,b9,a,u',v',G7,yi++ [Kx],s2,ti++ [t2],jV++ [⟨nm,ty⟩],hlt,by go_num,by
  have h:=P8.ae
  rw[append_assoc] at h
  exact h,xN.ae,by have:=zh.ae;have:=HND.ae;have:=Dp.ae;omega,by rw[length_append,qE.ae.1];rfl,by rw[length_append,qE.ae.2];rfl⟩
 case measure=>exact Za1):p:=h
theorem Zan(h:p:=by exact⟨λ hn=>(by rw[hg] at hn;cases hn),λ _=>rfl⟩):p:=h
theorem Zao(h:p:=by
 cases sb
 ·go_wp2_with fail;go_roundw
  case rel=>
   refine⟨k+1,hlt,by go_num,λ j hj=>?_,hb1⟩;rcases Nat.lt_succ_iff_lt_or_eq.1 hj with hj | rfl
   ·exact HP.ae j hj
   ·exact HS.ae
  case measure=>exact Za1
 ·go_wp2_with fail;go_ret;refine⟨?_,hb1⟩;rw[vM HP.ae (by rw[getElem?_eq_getElem Tao];congr 1;have:=HS.ae;rw[getD_eq_getElem?_getD,getElem?_eq_getElem Tao] at this;exact this)];rfl):p:=h
theorem Zap(h:p:=by simp only[eR,cI,Value.agg.injEq,Array.mk.injEq,List.cons.injEq,Value.int.injEq,Value.bool.injEq,true_and,and_true] at h;obtain⟨h1,h2,h3,h4,h5,rfl⟩:=h;exact Kab):p:=h
theorem zgL.KbI(h:p:=by
 generalize pR:(args.take k).map (·.2)=ks at*;have NW:=aa pR;have HG:=aa hG;have hbase:=hb.size;clear pR hG hb1 hb2 bN;go_wp2_with (first
  |(at_builtin
    refine aU rfl (.tmp 29) (.tmp 31) 38 rfl _ 32 Tryz.underlying38 lW rfl WC v rfl TaZ rfl HP.ae w2.heap.size rfl HG.ae WC WC hbase ?_
    intro v4 w4 o4 g4
    have b4:=br HP.ae g4 hbase
    have O4:=aa o4
    clear o4 g4 HP HG))
 go_roundw;case rel=>exact ZdR
 case measure=>exact Za1):p:=h
theorem zgF.KbG(h:p:=by go_upto_region 8 with fail;have bN:=ah w2 (.cells (aD v) 44);have hG:=aB.new w2 44 (aD v);open zgL in exact Zey):p:=h
theorem zcY.Kay(h:p:=by unfold jz at fZ;have oJ:=aa fZ;clear fZ;go_wp2_with fail;have bY:=ah wr (.cells (ay y) 46);refine(oJ.ae _ (ai.then hb bY)).mono ?_;rintro e W3 ⟨rfl,b1⟩;unfold bR;have Kx:=ai.then bY b1;clear bY b1 oJ hex;go_upto_region 6 with fail;have HV:=aB.new W3 44 (aD v);have bG:=ah W3 (.cells (aD v) 44);have hb1:=ai.then Kx bG;generalize W3.alloc _=w2 at*;obtain⟨gv,Xp⟩:∃gv,gv=W3.heap.size:=⟨_,rfl⟩;rw[<- Xp] at HV ⊢;clear Xp Kx bG;open zgF in exact Zew):p:=h
theorem Zaq(h:p:=by open zcY in exact Zbe):p:=h
theorem zgR.KbK(h:p:=by
 have mixed:Tryz.prog.follows .mixedOrders=true:=by kernel_rfl
 have t0:((Kx:Int) - (a:Int)==1)=false:=by simp;omega
 have t1:((b:Int) - (Kx:Int)==1)=false:=by simp;omega
 have zm:((a:Int)+(b:Int))/ 2=(mid:Int):=by omega
 have zp:(mid:Int)+(Kx:Int) - 1=(p:Int):=by omega
 have bm:a < mid/\mid < b:=by omega
 have bs:a<=s0/\s0<=r0/\r0<=Kx/\r0<=mid/\mid+Kx<=s0+b:=by omega
 have bp:p+1=mid+Kx:=by omega
 have bf:Kx<=f/\f<=b/\mid<=f:=by omega
 have zf:(mid:Int)+(Kx:Int) - (s:Int)=(f:Int):=by omega
 exact Kac):p:=h
theorem Zar(h:p:=by have HS:=aa h;open zgR in exact ZeA):p:=h
theorem zeJ.KaX(h:p:=by go_wp2_with fail;refine(lF c.aL c.gA c.gn c.gc g3 t z W (by have:=gh.ae.gl;omega) (gh.ae.aL.later (sT.ae.base)) gh.ae.gok kz.ae (CE.ae.later sT.ae.base) Gi.ae).mono ?_;rintro e w1 ⟨rfl,hb1⟩;rw[nY,hf];dsimp only;exact Kad):p:=h
theorem zhU.Kca(h:p:=by go_enter Tryz.func99,Tryz.ntmps99;open zeJ in exact Zcs):p:=h
theorem zfo.Kbb(h:p:=by have c4:=gX.cell 4;have c8:=gX.cell 8;have c10:=gX.cell 10;open zhU in exact Zgh):p:=h
theorem Zas(h:p:=by open zfo in exact Zc3):p:=h
theorem Zat(h:p:=by
 have HD:=px.ae;refine yU (P:=Tryz.prog) (f:=bH) (val:=mA) (e:=46) (size:=7) (base:=qx) (l:=[]) (lv:=az) (Post:=amf ρ x (cb::r)) (w0:=UW) (q:=9) (d0:=121) (d1:=122) (d2:=123) (d3:=124) (d4:=125) (d5:=126) (d6:=127) (qb:=qx) (k:=6) (g:=ρ.g) (pq:=aw qx) (ptr:=aw ρ.g) (F:=184) (args:= #[aw ρ.g,af 0]) 23 23 _ 88 Taa Taa Taa Taa Taa rfl rfl ?_ ?_ ?_ ?_ ?_ ?_ ?_ Tryz.underlying23 fI rfl WC (λ _=>rfl) (by intro y u hu;simp[bH] at hu;rcases hu with rfl | rfl | rfl | rfl | rfl | rfl | rfl <;> rfl) aI.nil ?_ WC ?_ ?_ Tad Tad WC ?_ ?_ ?_
 ·exact Zb7
 ·exact Zb7
 ·exact Zdy
 ·exact Zb7
 ·exact ZeB
 ·intro ρ' w' y' h';simp[go_sem,h',mA,bH]
 ·exact ZfS
 ·exact HX.ae.cell 6
 ·simp[Value.ownBlock]
 ·simp[Value.ownBlock]
 ·intro w' hw';refine(HH.ae ρ w' (px.ae.at_.later hw')).mono ?_;rintro e w'' ⟨y,rfl,ht,d⟩;exact⟨y,rfl,ht,d⟩
 ·rintro y w' w'' ⟨ht,d⟩;exact d.grown
 intro y s v' w1 gF w2 W ft ⟨ht1,ZW⟩ hl2 Y3 bJ Lk ZX cf;obtain⟨A,c,NJ,kN⟩:=Pn uj (ZX rfl rfl) (S:=jg (qx+1) W) (λ g h1 h2=>⟨by have:=ft.size;have:=ZW.size;have:=hl2.size;omega,h2⟩);have NJ:v'=.slice A 1 c:=NJ;subst NJ;have bJ:w2.grownBy W none:=bJ;have ZY:=yQ bJ;have DW:=(((HD.later ft).trans ZW).later hl2).later ZY;have Po:=(((HX.ae.later ft).grown ZW.grown Tac).later hl2).later ZY;have Sx:=(((uv.ae.later ft).grown ZW.grown Tac).later hl2).later ZY;have htW:Tr.at_ W (jg (qx+1) W) x y:=((ht1.later hl2).later ZY).more (by have:=ft.size;omega);have hxf:=Po.frozen 6;have q5:=Po.aT 6 (.slice A 1 c);have Av:=Sx.far (p:=⟨qx,6,none⟩) Tac (.slice A 1 c);have q4:=DW.far ee (show w.heap.size<=qx by omega) 6 (.slice A 1 c);have Tp:Tr.at_ _ _ x y:=htW.set (Nat.lt_succ_self qx) 6 (.slice A 1 c);have B3:=kN.keep (sI (Nat.lt_succ_self qx) 6 (.slice A 1 c));simp only[Uac] at q5;obtain⟨x0,x1,x2,x3,x4,x5,x6⟩:=bS q5;simp only[Act.put,Uac];have Q4:=aa q4;have Q5:=aa q5;have oz:=aa Av;have E1:=aa Tp;have Ai:=aa B3;skip;have hqW:=Po.lt;have asR:=aa hqW;have hgW:ρ.g+1 < W.heap.size:=by omega
 clear q4 q5 Av Tp B3 Po Sx DW htW kN Lk ZX Y3 ht1 ZW ft hl2 bJ ZY hqW;go_wp2_with fail;have JJ:aB ((W.setCell ⟨qx,6,none⟩ (.slice A 1 c)).alloc (.cells (bL [ez]) 9)) W.heap.size 9 (bL [ez]):=by have:=aB.new (W.setCell ⟨qx,6,none⟩ (.slice A 1 c)) 9 (bL [ez]);rwa [show(W.setCell ⟨qx,6,none⟩ (.slice A 1 c)).heap.size=W.heap.size by simp[World.setCell]] at this
 have XP:=Q4.ae.at_.later (ah _ (.cells (bL [ez]) 9));refine(ml HCB.ae ρ _ XP W.heap.size JJ WC).mono ?_;rintro e w12 ⟨rfl,d12⟩;have Pr:=ah (W.setCell ⟨qx,6,none⟩ (.slice A 1 c)) (.cells (bL [ez]) 9);have HXC:=(Q5.ae.later Pr).grown d12.grown Tac;have SD:=(oz.ae.later Pr).grown d12.grown Tac;have B5:=aa SD;obtain⟨x0,x1,x2,x3,x4,x5,x6⟩:=bS HXC;obtain⟨z0,z1,z2,z3,z4,z5,z6⟩:=ek SD;obtain⟨y0,y1,y2,y3,y4,y5,y6⟩:=bS SD;have DC:=aa ((Q4.ae.later Pr).trans d12);have B12:=aa Pr;have D12:=aa d12;clear HXC SD d12 Pr;go_wp2_with fail;exact Kae):p:=h
theorem zgK.KbI(h:p:=by
 generalize pR:(args.take k).map (·.2)=ks at*;have NW:=aa pR;have HG:=aa hG;have hbase:=hb.size;clear pR hG hb2 hb1 Mn bN hL;go_wp2_with (first
  |(at_builtin
    refine aU rfl (.tmp 31) (.tmp 33) 97 rfl _ 1 Tryz.underlying97 oH rfl WC v rfl TaX rfl HP.ae W3.heap.size rfl HG.ae WC WC hbase ?_
    intro v4 w4 o4 g4
    have b4:=br HP.ae g4 hbase
    have O4:=aa o4
    clear o4 g4 HP HG))
 go_roundw;case rel=>exact ZdR
 case measure=>exact Za1):p:=h
theorem zhZ.Kcc(h:p:=by subst hte;have hb1:=ai.then Mn hL;clear xa k1 Nw Qi;go_upto_region 8 with fail;have bN:=ah W3 (.cells #[ag v] 5);have hG:=aB.new W3 5 #[ag v];open zgK in exact Zey):p:=h
theorem zhG.Kb4(h:p:=by replace q5: .tuple #[ag v,af FC]=a5:=Eq.symm q5;subst q5;replace q6: .tuple #[ag v,af FC]=a6:=Eq.symm q6;subst q6;replace q7: ag v=a7:=Eq.symm q7;subst q7;replace q8: af FC=a8:=Eq.symm q8;subst q8;replace q9: ag v=a9:=Eq.symm q9;open zhZ in exact Zgo):p:=h
theorem zf6.Kbu(h:p:=by
 obtain⟨FC,hte⟩:∃FC:Int,FC=0:=⟨_,rfl⟩;rw[<- hte] at xa;refine bC 11 (t5V y gp cV v FC) (xB _ _ _ _ _) Taa Taa Taa ?_ ?_
 ·exact ZaV
 open zhG in exact ZfF):p:=h
theorem zcZ.Kay(h:p:=by open zf6 in exact Zd7):p:=h
theorem Zau(h:p:=by open zcZ in exact Zbe):p:=h
theorem Zav(h:p:=by
 intro W3 hL;simp only[Uab];rintro _ rfl a1 - a2 - a3 - _ rfl a5 - a6 - a7 - _ rfl;simp only[bE,Act.put,Uac];have eL:=aa (Below.trans Qz.ae (hL.mono Qz.ae.size));have HO:=aa (J5.ae.later hL);have Da:=aa (Jo.ae.later hL);have MA:=aa (mG.ae.later hL);have Et:=aa (Vw.ae.later hL);have QA:=aa (HK9.ae.keep hL.size λ b cur hX=>hL.block b hX.lt);clear hL Qz J5 Jo mG Vw HK9 J6 tL Wt;have hx:=Et.ae.at_ x (mem_of_getElem? Qx.ae);have xe:=aa hx;have Te:=HM.ae.qD x (mem_of_getElem? Qx.ae);have hsf:=uK (ops:=aJ.map Tr.op) (ps:=fV gn aJ ls) (k:=x.key) (λ op ho=>by obtain⟨t,ht,rfl⟩:=List.mem_map.1 ho;exact Q4.ae t ht) (by unfold fV;rw[length_map];have h3:=HLS.ae;have h4:=DN.ae;omega);have hye:(aJ.map λ t=>t.args.length).sum=ye.length:=by rw[<- dX Q1.ae,length_flatMap]
 have J7:ya.length=aJ.length:=(dX HF.ae.ta).symm
 have TK:=zb gp x.g w0.heap.size w0.heap.size ya AA ac (.slice x.KA x.key.length x.kc) x.sv x.qs x.ss (l.drop gn) (eQ XA xc gn) (xc - gn) W3 (by have:=Ai.ae;omega) HF.ae.lt eL.ae.size ((eL.ae.cell (p:=⟨gp,9,none⟩) HF.ae.lt).trans HF.ae.c9) (HF.ae.ra.below eL.ae) hx.blk hx.own hx.qD
  (by rw[hx.qD.len,Te,nj,length_map,J7]) ⟨QA.ae.rv.SX gn xc (by have:=Qw.ae;omega),xV (QA.ae.off hx.qD)⟩ (by rw[length_drop];have:=Qw.ae;omega)
  (by rw[HFN.ae,CB,hye,uY.ae];exact Nat.le_refl _)
  (λ y hy=>by
    have h1:y.n∈aJ.map λ t=>t.args.length:=by rw[<- HFN.ae];exact mem_map_of_mem hy
    obtain⟨t,ht,he⟩:=List.mem_map.1 h1
    rw[<- he]
    exact Q5.ae t ht)
  (λ s LT=>(hsf s (by rw[<- Te];exact LT)).1) (λ v hv=>Ly.ae v (mem_of_mem_drop hv)) (by rw[uY.ae];have:=GI.ae;omega)
 rw[HFN.ae,Jb aJ (l.drop gn) Q5.ae (by rw[hye,uY.ae];exact Nat.le_refl _)] at TK;have DO:(l.drop gn).length=xn - gn:=by rw[length_drop,ox.ae]
 rw[DO,<- HQ.ae] at TK;have HFD:=aa TK;clear hx Te hsf hye J7 TK DO;go_wp2_with fail;refine HFD.ae.mono ?_;rintro e w11 ⟨rfl,hst,Ny⟩;have aiq:=aa (Et.ae.feed Qx.ae Ny hst);have air:=aa (Below.trans eL.ae (Ny.low eL.ae.size λ q hq=>(xe.ae.qD.low q hq).1));have J8:=aa (HO.ae.turn Ny xe.ae.qD Tab);have J9:=aa (MA.ae.turn Ny xe.ae.qD Tab);have K7:=aa (Ny.blk Da.ae (xe.ae.qD.tQ Da.ae Tab));clear hst Ny Et eL HO MA Da xe HFD QA;go_wp2_with fail;go_roundw
 case rel=>
  refine⟨k+1,_,hlt,by go_num,air.ae,J8.ae,?_,?_,aiq.ae,?_⟩
  ·rw[qC.ae];exact K7.ae
  ·rw[afx Qx.ae];exact J9.ae
  ·rw[xh.ae];exact HM.ae.feed Qx.ae HKEY.ae
 case measure=>exact Za1):p:=h
theorem zgc.Kbw(h:p:=by
 go_big_quiet_step ((go_at_call 39;exact aF (Nat.le_refl _) (hc _)));repeat (go_big_quiet_step (fail))
 refine wpQuiet_nil ?_;rintro w3 ⟨y2,fM⟩;have hL:=y2.h;rw[<- fM] at hL;clear fM y2 c1 c2 lG lH hc;have H3:=aa (H2.ae.later hL);clear H2 hL;exact Kaf):p:=h
theorem Zaw(h:p:=by open zgc in exact Zea):p:=h
theorem Zax(h:p:=by have z0:=k1.cell 0;have z1:=k1.cell 1;have x2:=k1.cell 2;have x3:=k1.cell 3;have x4:=k1.cell 4;have x5:=k1.cell 5;have x6:=k1.cell 6;simp only[Uaa] at z0 z1 x2 x3 x4 x5 x6;exact Kag):p:=h
theorem Zay(h:p:=by have b1:=ah w (.cells #[ag 0,au,az,au,af 0,au,af 0,.slice L.i.A L.i.n L.i.c,.string q.bT,.bool q.only,.slice L.w.A L.w.n L.w.c,.slice L.g.A L.g.n L.g.c,.slice L.h.A L.h.n L.h.c,.slice L.o.A L.o.n L.o.c,.slice L.l.A L.l.n L.l.c,ag 0,au,af 0,af 0,az,az,az,ag 0,af 0,au,ag 0,af 0,au] 64);have k1:=aB.new w 64 #[ag 0,au,az,au,af 0,au,af 0,.slice L.i.A L.i.n L.i.c,.string q.bT,.bool q.only,.slice L.w.A L.w.n L.w.c,.slice L.g.A L.g.n L.g.c,.slice L.h.A L.h.n L.h.c,.slice L.o.A L.o.n L.o.c,.slice L.l.A L.l.n L.l.c,ag 0,au,af 0,af 0,az,az,az,ag 0,af 0,au,ag 0,af 0,au];have eL:=aa b1;have nD:=aa k1;unfold Ns;exact Kah):p:=h
theorem Zaz(h:p:=by clear hr;have dt:=aG hR;have gV:=aB.frozen hR;clear hR;go_wp2_with fail;exact bodyPost_ret (v:=.tuple #[.agg #[ag (r,(0:Int)).1.k,af (r,(0:Int)).1.n,.string (r,(0:Int)).1.s],af (r,(0:Int)).2]) (by simp[results,Tryz.results169,go_sem,dt]) rfl ⟨by have:=HE.ae;injection this with h1 h2;rw[<- h1];rfl,((hB.setCell (bJ) _).setCell (bJ) _).setCell (bJ) _⟩):p:=h
theorem zei.KaO(h:p:=by
 have n2:((tk.w.k:Int)==2)=false:=by rw[beq_eq_false_iff_ne];have:=wA.ae.i;omega
 have n3:((tk.w.k:Int)==3)=false:=by rw[beq_eq_false_iff_ne];have:=wA.ae.s;omega
 go_wp2_with fail;exact Kai):p:=h
theorem ZaA(h:p:=by open zei in exact Zb1):p:=h
theorem zey.KaT(h:p:=by
 have hfo:mb n=some OP:=by rw[HN.ae];exact HFN.ae
 have HFO:=aa hfo;have DO:n.toList=n.data.toList:=ByteArray.toList_eq n;have xN:=aa DO;clear hfo DO;go_wp2_with fail;have SB:=ai.then (ah w6 (.cells (bL tC) 9)) (ah _ (.cells (xL mE) 5));have NB:=(aB.new w6 9 (bL tC)).alloc (.cells (xL mE) 5);have OB:=aB.new (w6.alloc (.cells (bL tC) 9)) 5 (xL mE);rw[World.size_alloc] at OB;have SC:=aa (Xo.ae.later SB);have IE:=aa (Pq.ae.later SB);have hs8:=SB.size;have pU:=aa NB;have ZU:=aa OB;clear NB OB SB Xo Pq;show Code.wp _ _ _ _ ((w6.alloc (.cells (bL tC) 9)).alloc (.cells (xL mE) 5));generalize (w6.alloc (.cells (bL tC) 9)).alloc (.cells (xL mE) 5)=W8 at*;generalize w6.heap.size=nb at*;exact Kaj):p:=h
theorem ZaB(h:p:=by open zey in exact Zcm):p:=h
theorem ZaC(h:p:=by
 have HE:=aa he;have t1:(!y==n.toList)=false:=by rw[xN.ae];rw[beq_iff_eq] at he;simp[he]
 have uu:mb n=some o:=by rw[DN.ae,HST.ae,he];rfl
 clear he;obtain rfl:o=OP:=by rw[HFO.ae] at uu;injection uu with uu;exact uu.symm
 have c3:=(ZU.ae.later jI.ae).cell k;rw[show(xL mE)[k]?=some (ag o) by simp[xL,Lz.ae]] at c3;have d8:=SC.ae.later jI.ae;have hsw:=jI.ae.size;go_wp2_with fail;refine(ml Q1.ae ρ _ (d8.at_.later (ah wr (.cells (bL [eC]) 9))) wr.heap.size (aB.new _ _ _) WC).mono ?_;rintro e yX ⟨rfl,d10⟩;have c4:=(((ZU.ae.later jI.ae).alloc (.cells (bL [eC]) 9)).grown d10.grown (by simp;have:=ZU.ae.lt;omega)).cell k;rw[show(xL mE)[k]?=some (ag o) by simp[xL,Lz.ae]] at c4;have IG:=d10.size;have LB:=aa ((d8.later (ah wr (.cells (bL [eC]) 9))).trans d10);have xO:=aa (d10.blk ((IE.ae.later jI.ae).later (ah wr (.cells (bL [eC]) 9))) WC);have aeR:w.heap.size+2<=yX.heap.size:=by simp at IG;omega
 clear d10 d8 c3 IG SC IE pU;exact Kak):p:=h
theorem ZaD(h:p:=by clear uE;have x0:=hR.cell 0;have x1:=hR.cell 1;have z2:=hR.cell 2;have z3:=hR.cell 3;have z4:=hR.cell 4;have z5:=hR.cell 5;have z6:=hR.cell 6;simp only[Uaa] at x0 x1 z2 z3 z4 z5 z6;exact Kal):p:=h
theorem ZaE(h:p:=by have c4:=b4.cell 0;have c5:=(b5.far (p:=⟨g4,0,none⟩) (Ne.symm uR) (.pointer none)).cell 0;have f4:=b4.frozen 0;have f5:=(b5.far (p:=⟨g4,0,none⟩) (Ne.symm uR) (.pointer none)).frozen 0;simp only[getElem?_toArray,getElem?_cons_zero] at c4 c5;clear b4 b5 uR;exact Kam):p:=h
theorem ZaF(h:p:=by
 clear HS;obtain⟨i,j,py,hi,hj,Ez,rfl,rfl,hs⟩:=hrel;have H2:=aa hs;clear hs;by_cases hlt:i < j
 ·exact ZZ
 ·have EB:s=i:=by omega
  have EC:s=j:=by omega
  subst EB EC;clear hlt hi hj py Ez HF;have u0_:decide (s < Kx)=true:=decide_eq_true k0;have u1_:decide (Kx < f)=true:=decide_eq_true k1;have u2_:decide (a < s)=true:=decide_eq_true k2;have u3_:decide (s < mid)=true:=decide_eq_true k3;have u4_:decide (mid < f)=true:=decide_eq_true k4;have u5_:decide (f < b)=false:=decide_eq_false k5;go_wp2_with fail;refine(fX w0 g n cap s Kx f D _ H2.ae hn WC WC WC).mono ?_;rintro e_ w5 ⟨rfl,h5⟩;have H3:=aa h5;clear h5 H2;have wB:=aa (nr D s Kx f WC WC);generalize ba D s Kx f=R at*;go_wp2_with fail;refine(IH.ae a s mid R _ WC WC WC WC H3.ae Q1.ae HFN.ae).mono ?_;rintro e_ w6 ⟨rfl,E,hs,hw,ho⟩;have H4:=aa hs;have HW:=aa hw;have HO:=aa ho;clear hs hw ho H3;go_wp2_with fail;have ED:=aa (Q3.ae.congr (E:=E) λ x h1 h2=>HW.ae.ae x (.inr h1));have EE:=aa (Q4.ae.congr (E:=E) λ x h1 h2=>HW.ae.ae x (.inr WC));have H6:=aa (show cE E mid b from by
   rcases(show f=mid\/f=b by omega)with e | e
   ·have:=EE.ae;rwa [e] at this
   ·have:=ED.ae;rwa [e] at this)
  exact ZbH):p:=h
theorem ZaG(h:p:=by
 have hall:=ea h0
 have ha:a=fill (λ d=>a.eval (.tmp d)) l a0:=by
  have h1:a.tmps=(fill (λ d=>a.eval (.tmp d)) l a0).tmps:=by
   apply Array.ext_getElem?;intro t;by_cases ht:t < a0.tmps.size
   ·rw[qI _ _ _ _ ht];split
    ·simp[Act.eval,I.size,ht]
    ·rename_i hno;refine I.old t ?_;intro i o hi hd _;exact hno ⟨o,mem_of_getElem? hi,hd⟩
   ·rw[Array.getElem?_eq_none (by rw[I.size];omega),Array.getElem?_eq_none (by rw[nN];omega)]
  have h2:a.defers=(fill (λ d=>a.eval (.tmp d)) l a0).defers:=by rw[jU,I.defers]
  exact Ag h1 h2
 exact Kan):p:=h
theorem ZaH(h:p:=by
 have k0:=λ y:Ext wr.heap.size wr=>(HP.ae.later y.h).c0
 have k1:=λ y:Ext wr.heap.size wr=>(HP.ae.later y.h).c1
 have m0:=λ y:Ext wr.heap.size wr=>(HP.ae.later y.h).d0
 have m1:=λ y:Ext wr.heap.size wr=>(HP.ae.later y.h).d1
 have m2:=λ y:Ext wr.heap.size wr=>(HP.ae.later y.h).d2
 have m3:=λ y:Ext wr.heap.size wr=>(HP.ae.later y.h).d3
 go_wp2_with fail;refine aM 13 wr.heap.size wr (Below.refl _ _) Taa Taa Taa Taa ?_;simp only[Uab];repeat (go_big_quiet_step (first
  |(go_at_call 200;exact aF (Nat.le_refl _) (Z0 _))))
 refine wpQuiet_nil ?_;rintro w3 ⟨y2,fM⟩;have hL:=y2.h;rw[<- fM] at hL;clear fM y2 k0 k1 m0 m1 m2 m3 c2;exact Kao):p:=h
theorem ZaI(h:p:=by have k:=dN (B:=w.heap.size) cJ rfl bJ HO.ae;exact⟨_,by rw[pX.ae];rfl,k.2,hB.trans k.1.below⟩):p:=h
theorem ZaJ(h:p:=by obtain⟨f0,Ko,rfl,Bd,hen,lX⟩:=Y8.ae;have DL:=aa (lX _ A8 c8 HDB.ae AZ.ae);clear lX;have z0:=k1.cell 0;have z1:=k1.cell 1;have x2:=k1.cell 2;have x3:=k1.cell 3;have x4:=k1.cell 4;have x5:=k1.cell 5;have x6:=k1.cell 6;have x0:=hR.cell 0;have x1:=hR.cell 1;have z2:=hR.cell 2;have z3:=hR.cell 3;have z4:=hR.cell 4;have z5:=hR.cell 5;simp only[Uaa] at z0 z1 x2 x3 x4 x5 x6 x0 x1 z2 z3 z4 z5;have dt:=aG cJ;have gV:=aB.frozen cJ;exact Kap):p:=h
theorem zgJ.KbI(h:p:=by
 generalize pR:(args.take k).map (·.2)=ks at*;have NW:=aa pR;have HG:=aa hG;have hbase:=hb.size;clear pR hG hb2 hb1 Kx bY bN fZ hex;go_wp2_with (first
  |(at_builtin
    refine aU rfl (.tmp 30) (.tmp 32) 97 rfl _ 1 Tryz.underlying97 oH rfl WC v rfl TaX rfl HP.ae W3.heap.size rfl HG.ae WC WC hbase ?_
    intro v4 w4 o4 g4
    have b4:=br HP.ae g4 hbase
    have O4:=aa o4
    clear o4 g4 HP HG))
 go_roundw;case rel=>exact ZdR
 case measure=>simp[intOf];omega):p:=h
theorem ziD.Kct(h:p:=by have bN:=ah W3 (.cells #[ag v] 5);have hG:=aB.new W3 5 #[ag v];open zgJ in exact Zey):p:=h
theorem zc0.Kay(h:p:=by open ziD in exact ZhE):p:=h
theorem ZaK(h:p:=by open zc0 in exact Zbe):p:=h
theorem ZaL(h:p:=by
 have cQ:=λ y:Ext W.heap.size W=>(lu.later y.h).cell 0
 simp only[getElem?_toArray,getElem?_cons_zero] at cQ;have bJ:w.heap.size<=w.heap.size+1:=by omega
 exact Kaq):p:=h
theorem zff.Ka7(h:p:=by exact Kar):p:=h
theorem ZaM(h:p:=by open zff in exact ZcS):p:=h
theorem zgz.KbE(h:p:=by have wB:=aa (nr D s Kx f WC WC);exact ZbZ):p:=h
theorem zfl.Kba(h:p:=by have u5_:decide (f < b)=true:=decide_eq_true k5;open zgz in exact Zet):p:=h
theorem ZaN(h:p:=by
 clear HS;obtain⟨i,j,py,hi,hj,Ez,rfl,rfl,hs⟩:=hrel;have H2:=aa hs;clear hs;by_cases hlt:i < j
 ·exact ZZ
 ·open zfl in exact ZcZ):p:=h
theorem ZaO(h:p:=by
 have HA:=aa hA;have HE:=aa hE;clear hA hE;go_enter Tryz.func150,Tryz.ntmps150;go_wp2_with fail;go_loopw [5,8] (λ _ i wr=>∃k:Nat,k<=args.length/\i=af k/\(∀j,j < k->(args.map (·.2)).getD j false=false)/\aj w wr) (λ _ i _=>args.length - (intOf i).toNat);case atStart=>exact Zfi
 case round=>
  obtain⟨k,hk,rfl,hp,hb⟩:=hrel;have HP:=aa hp;clear hp;by_cases hlt:k < args.length
  ·obtain⟨b,off,rfl,kF,hex⟩:=(HA.ae.below hb).at_ (show k <(args.map (·.1)).length by simpa using hlt);have jn:(args.map (·.1))[k]' Tao=args[k].1:=by simp
   rw[jn] at hex;clear jn;have fZ:=HE.ae args[k] (getElem_mem hlt);have hS:=Bw hlt;generalize args[k]=yb at*;obtain⟨y,sb⟩:=yb;dsimp only at*;have HS:=aa hS;have oJ:=aa fZ;clear hS fZ;unfold cw at hex;go_wp2_with fail;refine(oJ.ae _ hb).mono ?_;rintro e w1 ⟨rfl,b1⟩;have hb1:=ai.then hb b1;clear hex b1 hb;exact Zao
  ·exact Zdj):p:=h
theorem ZaP(h:p:=by
 have HQ:=aa (aB.new w 46 #[ag 0,ag 0,af 0,au,au,af 0,az]);have hsz:(w.alloc qA).heap.size=w.heap.size+1:=by simp
 unfold qA at*;go_enter Tryz.func184,Tryz.ntmps184;go_wp2_with (first
  |(go_at_call 87;refine hm.mono ?_;rintro e w1 ⟨rfl,d1⟩)
  |(go_at_call 184;refine(H ρ w1 d1.at_).mono ?_;rintro e w2 ⟨y,rfl,ht,d2⟩;unfold mA bH;have D:=(eE.cW h hb).trans (d1.trans d2);have yV:=d2.blk (d1.blk HQ.ae WC) WC;have hqs:=d2.size;have asL:=d1.size;have mZ:=yV.alloc (.cells #[ag y.op,ag y.v.k,af y.v.n,.string y.v.s,.string y.name,af y.width,.slice y.A y.n y.c] 46);obtain⟨z0,z1,z2,z3,z4,z5,z6⟩:=ek mZ;obtain⟨y0,y1,y2,y3,y4,y5,y6⟩:=bS mZ;obtain⟨x0,x1,x2,x3,x4,x5,x6⟩:=dp (aB.new w2 46 (bH y).toArray);unfold bH at x0 x1 x2 x3 x4 x5 x6))
 have HP:=eo mZ y;have HR:=dp HP;unfold dW at HR;obtain⟨r0,r1,r2,r3,r4,r5,r6⟩:=HR;refine bodyPost_ret (v:=mA y) Zef rfl ?_
 ·exact Nr.put ee (Nat.le_refl _) (D.later (ah w2 _)) ((ht.later (ah w2 _)).more WC)):p:=h
theorem ZaQ(h:p:=by
 simp only[take_succ_cons,take_zero];refine⟨?_,Zaa,Zaa,Zaa,?_,?_,Zaa,Zaa,Zaa,Zaa,?_,trivial⟩
 ·intro ρ w3 hc hL hr;have h0:_=_:=hr.1;have cJ:=VH.ae.later hL;exact Zbl
 ·intro ρ w3 hc hL hr;have h0:_=_:=hr.1;have jk:=(hL.cell (p:=⟨gp,10,none⟩) Qi.ae).trans Nw.ae;exact ZdF
 ·intro ρ w3 hc hL hr;have h0:_=_:=hr.1;have h1:_=_:=hr.2.1;have e1:=hc.func 59;refine bj (f:=59) (args:= #[.agg (ay Kx),.slice VA s1.aL.length vc]) (w':=w3) Tas ?_;exact Zf6
 ·exact Zaa):p:=h
theorem ZaR(h:p:=by simp only[Uaa] at c0;exact ZdG):p:=h
theorem zfB.Kbh(h:p:=by obtain⟨⟨y,z⟩,sb⟩:=yb;dsimp only at*;have HS:=aa hS;have oJ:=aa fZ;clear hS fZ;unfold cw at hex;exact Zfh):p:=h
theorem ZaS(h:p:=by
 go_wp2_with fail;go_loopw [5,8] (λ _ i wr=>∃k:Nat,k<=args.length/\i=af k/\(∀j,j < k->(args.map (·.2)).getD j false=false)/\aj w wr) (λ _ i _=>args.length - (intOf i).toNat);case atStart=>exact Zfi
 case round=>
  obtain⟨k,hk,rfl,hp,hb⟩:=hrel;have HP:=aa hp;clear hp;by_cases hlt:k < args.length
  ·open zfB in exact Zdt
  ·exact Zdj):p:=h
theorem ZaT(h:p:=by intro ρ w3 hc hL hr;have h0:_=_:=hr.1;exact aq (v:=.pointer (some ⟨gp,0,none⟩)) (w':=w3) Taj ⟨AR.refl _,rfl⟩):p:=h
theorem ZaU(h:p:=by
 simp only[BW,Bool.and_eq_true,beq_iff_eq,Option.isNone_iff_eq_none] at BX;obtain⟨⟨⟨⟨⟨⟨⟨⟨⟨⟨⟨⟨⟨⟨⟨⟨⟨⟨⟨⟨⟨⟨⟨⟨⟨⟨⟨⟨t0,s0⟩,t1⟩,m2⟩,t2⟩,m0⟩,t3⟩,m3⟩,t4⟩,s4⟩,t5⟩,s5⟩,s5'⟩,t6⟩,s6⟩,e0⟩,e1⟩,e2⟩,e3⟩,e4⟩,e5⟩,e6⟩,g0⟩,g1⟩,g2⟩,g3⟩,g4⟩,g5⟩,g6⟩:=BX;have Xn:qb < w0.heap.size:=(by rcases Nat.lt_or_ge qb w0.heap.size with h | h;exact h;exact absurd hcell (by unfold World.cell?;rw[Array.getElem?_eq_none h];simp))
 have wu:∀ {y w1 gF w},ai w0 w1->Post y w1 gF->ai gF w->w.cell? ⟨qb,k,none⟩=some lv/\aI f e size w base lv l/\w0.heap.size<=w.heap.size:=by
  intro y w1 gF w ha hb hc;have hg:=Sv _ _ _ hb;have z1:qb < w1.heap.size:=Nat.lt_of_lt_of_le Xn ha.size;have z2:qb < gF.heap.size:=Nat.lt_of_lt_of_le z1 hg.size;refine⟨?_,?_,Nat.le_trans ha.size (Nat.le_trans hg.size hc.size)⟩
  ·rw[hc.cell (p:=⟨qb,k,none⟩) z2,pw hg (p:=⟨qb,k,none⟩) z1 (λ e=>TI Tbh),ha.cell (p:=⟨qb,k,none⟩) Xn];exact hcell
  ·exact((hown.later ha).grown hg Xm).later hc
 exact Kas):p:=h
theorem ZaV(h:p:=by
 simp only[take_succ_cons,take_zero];refine⟨?_,Zaa,Zaa,Zaa,Zcd,?_,Zaa,Zaa,Zaa,Zaa,?_,trivial⟩
 ·intro ρ w3 hc hL hr;have h0:_=_:=hr.1;have jk:=(k1.later hL).cell;have y0:=jk 0;have y1:=jk 1;have c2:=jk 2;have y3:=jk 3;have y4:=jk 4;have y5:=jk 5;have y6:=jk 6;exact Zdz
 ·intro ρ w3 hc hL hr;have h0:_=_:=hr.1;have h1:_=_:=hr.2.1;have e1:=hc.func 59;refine bj (f:=59) (args:= #[.agg (ay y),cV]) (w':=w3) Tas ?_;exact Zf6
 ·exact Zaa):p:=h
theorem zgy.KbE(h:p:=by have wB:=aa (nr D s Kx f WC WC);generalize ba D s Kx f=R at*;go_wp2_with fail;refine(IH.ae a s mid R _ WC WC WC WC H3.ae Q1.ae HFN.ae).mono ?_;rintro e_ w6 ⟨rfl,E,hs,hw,ho⟩;have H4:=aa hs;have HW:=aa hw;have HO:=aa ho;clear hs hw ho H3;exact Zai):p:=h
theorem zht.KbZ(h:p:=by have u1_:decide (Kx < f)=true:=decide_eq_true k1;have u2_:decide (a < s)=true:=decide_eq_true k2;have u3_:decide (s < mid)=true:=decide_eq_true k3;have u4_:decide (mid < f)=true:=decide_eq_true k4;have u5_:decide (f < b)=true:=decide_eq_true k5;open zgy in exact Zet):p:=h
theorem ZaW(h:p:=by
 clear HS;obtain⟨i,j,py,hi,hj,Ez,rfl,rfl,hs⟩:=hrel;have H2:=aa hs;clear hs;by_cases hlt:i < j
 ·exact ZZ
 ·open zht in exact Zfs):p:=h
theorem ZaX(h:p:=by
 intro ρ w3 hc hL hr;cases gd
 ·exact Zf7
 ·skip;cases nz
  ·exact ZcJ
  ·skip;intro hg;have hg:ρ (.tmp 26)=.bool true:=hg;exact Zaj):p:=h
theorem zeQ.Ka0(h:p:=by exact bodyPost_ret (v:=.tuple #[.agg #[ag 0,af 0,.string ByteArray.empty],af 40]) Tah rfl ⟨congrArg (λ r:Val×Int=>Ending.returned (bR r.1 r.2)) Nm.ae.symm,((hB.setCell bJ _).setCell bJ _).setCell bJ _⟩):p:=h
theorem ZaY(h:p:=by have Nm:=aa (Nn.ae (aN,40) (by unfold iJ;simp only[map_cons,map_nil];rw[tq.ae,hs,if_pos rfl]));open zeQ in exact Zcv):p:=h
theorem ZaZ(h:p:=by simp only[execOp,resolve,invoke,builtin,Sem.run_bind,Sem.run_pure,Result.andThen_ok,map_toArray,map_cons,map_nil,xm,DY,na]):p:=h
theorem Za0(h:p:=by
 go_wp2_with fail;refine hi.mono ?_;rintro e w1 ⟨rfl,b1⟩;clear hi;by_cases h:0<=fQ (args.map (·.2))
 ·have t1:=decide_eq_true h;go_wp2_with fail;go_ret;exact⟨by rw[t1];rfl,b1⟩
 ·have t1:=decide_eq_false h;go_wp2_with fail;go_ret;exact⟨by rw[t1];rfl,b1⟩):p:=h
theorem Za1(h:p:=by simp[intOf];omega):p:=h
theorem Za2(h:p:=by refine⟨rfl,?_⟩;unfold qF at hG;rw[if_neg Tab];show(execOp ρ _).run Tryz.prog X8=.ok (.value (aw gp)) X8;simp[go_sem,r0]):p:=h
theorem Za3(h:p:=by rw[jZ] at hG;obtain⟨Pe,Pd,HX⟩:=hG.cell r0;obtain⟨Kx,h6⟩:=hG.e6 _ r1;obtain⟨A1,n1,c1,A2,n2,NE,i,e,hv⟩:=(hG.run _ h6).tri;injection hv with hv;have hv0:=congrArg (λ a:Array Value=>a[0]?) hv;simp at hv0;rw[hv0] at h6;rw[Pd] at r0;have MY:=HX.cell 0;have Lw:=HX.cell 1;have No:=HX.cell 2;simp only[z33,Uaa] at MY Lw No;have f0:=HX.frozen 0;have f1:=HX.frozen 1;have f2:=HX.frozen 2;refine GZ (w':=((w.setCell ⟨Pe,0,none⟩ (.slice A1 n1 c1)).setCell ⟨Pe,1,none⟩ (.slice A2 n2 NE)).setCell ⟨Pe,2,none⟩ (af i)) (by simp[go_sem,Pd,hv0,MY,Lw,No,f0,f1,f2];done) ?_;show kH _ _ _ _ _;unfold kH;simp only[gC,Nat.reduceEqDiff,if_true,if_false];exact hG.aqt r0 h6 _):p:=h
theorem zgA.KbE(h:p:=by have wB:=aa (nr D s Kx f WC WC);exact Zal):p:=h
theorem zfm.Kba(h:p:=by have u5_:decide (f < b)=false:=decide_eq_false k5;open zgA in exact Zet):p:=h
theorem Za4(h:p:=by
 clear HS;obtain⟨i,j,py,hi,hj,Ez,rfl,rfl,hs⟩:=hrel;have H2:=aa hs;clear hs;by_cases hlt:i < j
 ·exact ZZ
 ·open zfm in exact ZcZ):p:=h
theorem Za5(h:p:=by simp[results,Tryz.results42,go_sem,y0,y1,c2,y3,o4,o5]):p:=h
theorem Za6(h:p:=by
 refine(FI (s.extract at_ k) _ (by rw[ByteArray.size_extract];omega)).mono ?_;rintro e w1 ⟨rfl,b1⟩;have HE:=aa (show(s.extract at_ k).data.toList=(s.data.toList.drop at_).takeWhile eP by rw[<- mL.ae];exact mX eP s at_);obtain⟨z0,z1,z2,z3,y0,y1,y2,y3⟩:=bP (HZ.ae.later b1);rw[HE.ae];go_wp2_with fail;refine bodyPost_ret (v:=.tuple #[.agg #[ag 1,.string ⟨(((s.data.toList.drop at_).takeWhile eP).map vT).toArray⟩,af 0,af at_],af k,af 0]) ZbI rfl ?_
 ·rw[Y8.ae,mL.ae,if_pos h32];unfold zM;simp only;rw[vY eP s WC,mL.ae];exact⟨rfl,vZ (bb.trans (b1.mono bb.size)) (Nat.le_refl _) _ _ _ _⟩):p:=h
theorem Za7(h:p:=by
 simp only[take_succ_cons,take_zero];refine⟨Zaa,Zaa,Zaa,?_,ZfI,Zaa,Zaa,Zaa,?_,trivial⟩
 ·intro ρ w3 hc hL hr;have h0:_=_:=hr.1;have h1:_=_:=hr.2.1;exact aq (v:=bh lb j) (w':=w3) (by have vn:=HJL.ae;simp[go_sem,h0,h1,vn,et];done) ⟨ai.refl _,rfl⟩
 ·exact ZfW):p:=h
theorem zef.KaN(h:p:=by go_wp2_with fail;have gX:=uD.ae.blk;unfold PC.cells at gX;have c8:=gX.cell 8;simp only[Uaa] at c8;refine(Tr.La (by have:=gh.ae.cl;omega) gp t z w2 kz.ae (CE.ae.later uD.ae.base) ((gh.ae.cols.later uD.ae.base)) gX.lt c8).mono ?_;rintro e w3 ⟨rfl,hb3⟩;have Mg:=aa (uD.ae.later hb3);have DR:=aa (Aw.ae.later hb3);have Mh:=Xu.ae.later hb3;have oB:=aa (ai.then fE.ae hb3);clear z0 z1 x2 x3 x4 x5 x6 c8 gX hb3 Aw Xu fE uD;rw[ht];dsimp only;exact Kat):p:=h
theorem zf1.Kbr(h:p:=by rw[CG,ha] at py;have HIS:=aa py;have UT:=aa CG;clear c4 c8 c10 hb1 hf py CG Gi tD;go_wp2_with fail;have Vg:=aa kG;have KK:=aa Lw;have hop:=UT.ae;rw[hop];refine(HIS.ae w1).mono ?_;rintro e w2 ⟨rfl,hb2⟩;rw[<- hop];have uD:=aa (CF.ae.later hb2);have hb:=Vg.ae.later hb2;have Xu:=aa (KK.ae.later hb2);have fE:=aa (ai.then zJ.ae (ai.then eL.ae hb2));clear hxo kG Lw hb2 hop Vg KK eL CF;open zef in exact Zb0):p:=h
theorem Za8(h:p:=by open zf1 in exact ZdY):p:=h
theorem zg1.KbN(h:p:=by exact Kau):p:=h
theorem Za9(h:p:=by open zg1 in exact ZeH):p:=h
theorem Zba(h:p:=by have HE:=aa hr;clear hr;have dt:=aG hR;have gV:=aB.frozen hR;clear hR;go_wp2_with fail;exact bodyPost_ret (v:=.tuple #[.agg (aD r.1),af r.2]) (by simp[results,Tryz.results167,go_sem,dt]) rfl ⟨by rw[HE.ae];rfl,((hB.setCell (bJ) _).setCell (bJ) _).setCell (bJ) _⟩):p:=h
theorem zeV.Ka1(h:p:=by
 have hsm:=h.small;unfold qA at*;unfold dr.ptr;go_enter Tryz.func184,Tryz.ntmps184;go_wp2_with (first
  |(go_at_call 184;refine(H1 ρ _ h0).mono ?_;rintro e w2 ⟨y,rfl,ht,d2⟩;unfold mA bH))
 have hA:AtC ρ w w.heap.size w2.heap.size (w2.alloc (ur y)) _ t y:=
  ⟨((eE.cW h hb).trans d2).later (ah _ _),aB.new w2 _ _,(d2.blk HQ.ae WC).alloc _,Tr.at_.keep (OV _ (by rw[hsz];exact Nat.le_refl _)) _ _ ht⟩
 have hqx:w.heap.size+1<=w2.heap.size:=by have:=d2.size;omega
 unfold ur bH at hA;generalize w2.alloc _=W at*;generalize w2.heap.size=qx at*;have A:=hA;clear hA ht d2 h0 hb HQ;have Hu:=cq ρ W _ false A.did.at_ ⟨#[105,115]⟩ py;have ahm:=aa hop;clear hop py;refine Hu.mono ?_;rintro e w1 ⟨rfl,d1⟩;replace A:=A.more d1 WC WC;clear d1 Hu;go_wp2_with fail;have HA:=aa A;clear A;exact Kav):p:=h
theorem Zbb(h:p:=by intro ρ w h;have H1:=H;clear H;open zeV in exact Zcz):p:=h
theorem Zbc(h:p:=by have NA:=aa tS;have uA:=aa mC;clear h hF ih q1 q2 q3 q4 q5 fY hp hf tS mC;go_enter Tryz.func106,Tryz.ntmps106;go_wp2_with fail;clear t0 t1 zm zp zs;exact Kaw):p:=h
theorem zgS.KbK(h:p:=by have oz:=aa Av;have E1:=aa Tp;have Ai:=aa B3;have GI:=aa hz;have F7:=aa Nk;exact Kax):p:=h
theorem Zbd(h:p:=by open zgS in exact ZeA):p:=h
theorem Zbe(h:p:=by rw[jn] at hex;clear jn;have fZ:=HE.ae args[k] (getElem_mem hlt);have HT:=aa (show args.take (k+1)=args.take k++ [args[k]] by rw[take_add_one,getElem?_eq_getElem hlt];rfl);generalize args[k]=yv at*;obtain⟨y,v⟩:=yv;dsimp only at*;unfold cw at hex;exact Kay):p:=h
theorem Zbf(h:p:=by rw[bg] at Uw;have Ij:=aa Uw;clear Uw;go_wp2_with fail;refine(Ij.ae _).mono ?_;rintro e w2 ⟨rfl,b3⟩;clear z0 z1 x2 x3 x5 x6 x0 x1 z2 z3 z4 z5 y0 y1 c2 y3 o4 o5 rf;replace k1:=k1.later b3;replace hR:=hR.later b3;replace cJ:=cJ.later b3;replace hB:=ai.then hB b3;replace HO:=aa (HO.ae.later b3);clear b3;have z0:=k1.cell 0;have z1:=k1.cell 1;have x2:=k1.cell 2;have x3:=k1.cell 3;have x5:=k1.cell 5;have x6:=k1.cell 6;have x0:=hR.cell 0;have x1:=hR.cell 1;have z2:=hR.cell 2;have z3:=hR.cell 3;have z4:=hR.cell 4;have z5:=hR.cell 5;have y0:=cJ.cell 0;have y1:=cJ.cell 1;have c2:=cJ.cell 2;have y3:=cJ.cell 3;have o4:=cJ.cell 4;have o5:=cJ.cell 5;have rf:=cJ.frozen;unfold cI at x0 x1 z2 z3 z4 z5;simp only[Uaa] at z0 z1 x2 x3 x5 x6 x0 x1 z2 z3 z4 z5 y0 y1 c2 y3 o4 o5;exact Kaz):p:=h
theorem Zbg(h:p:=by intro ρ w σ hc hG q5 he hno;refine⟨rfl,?_⟩;unfold kH at hG;rw[if_pos Tab];have jZ:=hno Tab;exact KaA):p:=h
theorem Zbh(h:p:=by have x0:=hR.cell 0;have x1:=hR.cell 1;have z6:=hR.cell 6;have y0:=cJ.cell 0;have y1:=cJ.cell 1;have c2:=cJ.cell 2;have y3:=cJ.cell 3;have o4:=cJ.cell 4;have o5:=cJ.cell 5;simp only[Uaa] at x0 x1 z6 y0 y1 c2 y3 o4 o5;go_wp2_with fail;exact KaB):p:=h
theorem Zbi(h:p:=by
 go_wp2_with fail;refine(fD x.op _).mono ?_;rintro e w9 ⟨rfl,rfl⟩;by_cases hn:(x.n:Int)=nx x.op
 ·have t1:((x.n:Int)==nx x.op)=true:=by simpa using hn
  have pX:=aa (show bQ x=42 by simp only[bQ];rw[if_neg Tam,if_neg Tam,if_pos hn]);exact Zbz
 ·have t1:((x.n:Int)==nx x.op)=false:=by simpa using hn
  have pX:=aa (show bQ x=21 by simp only[bQ];rw[if_neg Tam,if_neg Tam,if_neg hn]);exact ZbA):p:=h
theorem Zbj(h:p:=by rintro e4 w4 ⟨rfl,b4⟩;exact⟨_,rfl,b4,rfl⟩):p:=h
theorem Zbk(h:p:=by refine wpQuiet_nil ?_;rintro w3 ⟨y2,fM⟩;have hL:=y2.h;rw[<- fM] at hL;clear fM y2 cV cU cQ;replace hR:=hR.later hL;replace hB:=ai.then hB hL;exact KaC):p:=h
theorem Zbl(h:p:=by have y0:=cJ.cell 0;have y1:=cJ.cell 1;have c2:=cJ.cell 2;have y3:=cJ.cell 3;have y4:=cJ.cell 4;have y5:=cJ.cell 5;have y6:=cJ.cell 6;exact Zdz):p:=h
theorem zgj.Kbx(h:p:=by clear x6;exact KaD):p:=h
theorem ze8.Ka4(h:p:=by rw[<- hg] at HX ⊢;clear hg;have HA:=aa KQ;have YX:=aa YW;have BC:=aa Ii;have HE:=aa hE;clear KQ YW Ii hE;open zgj in exact Zeb):p:=h
theorem Zbm(h:p:=by have HX:=aB.new w 46 #[ag op,ag xv.k,af xv.n,.string xv.s,.string name,af width,.slice A n c];have hB:=ah w (.cells #[ag op,ag xv.k,af xv.n,.string xv.s,.string name,af width,.slice A n c] 46);have YW:=(hB.cell (p:=⟨gp,8,none⟩) sF).trans YV;have Ii:=Nat.lt_of_lt_of_le sF hB.size;have KQ:=hA.later hB;clear hA YV sF;go_enter Tryz.func153,Tryz.ntmps153;open ze8 in exact ZcK):p:=h
theorem Zbn(h:p:=by
 refine qK aZ hz 0 zs rfl listed a w I.len ?_ hK;intro i hi;constructor
 ·intro hl;rcases Nat.lt_or_ge i l.length with h' | h'
  ·omega
  ·rw[I.tail i h'] at hl;cases hl
 ·intro hl;exact hall i WC):p:=h
theorem Zbo(h:p:=by
 simp only[take_succ_cons,take_zero];refine⟨Zaa,Zaa,Zaa,?_,?_,Zaa,Zaa,?_,trivial⟩
 ·intro ρ w3 hc hL hr;have h0:_=_:=hr.1;have h1:_=_:=hr.2.1;exact aq (w':=w3) (by simp[go_sem,h0,h1,IntKind.wrap_i64];omega) ⟨ai.refl _,rfl⟩
 ·intro ρ w3 hc hL hr;have h0:_=_:=hr.1;have h1:_=_:=hr.2.1;have hs:=Er w3;exact ZcQ
 ·intro ρ w3 hc hL hr;have h0:_=_:=hr.1;have h1:_=_:=hr.2.1;have hs:=PO w3;exact ZcQ):p:=h
theorem Zbp(h:p:=by intro ρ w3 hc hL hr;have h0:_=_:=hr.1;have jk:=(Q3.ae.later hL).cell 0;simp only[getElem?_toArray,getElem?_cons_zero] at jk;exact ZdF):p:=h
theorem zg3.KbO(h:p:=by have HWR:=aa hwr;have Pj:=aa hpl;have HG:=aa hg;have Ls:=aa cg;clear hwr hpl hg cg uq;rw[Ph];exact KaE):p:=h
theorem Zbq(h:p:=by obtain⟨t,pl,bd,hpl,hlt,hsm,uq,cg,hg,JL,uX,hp⟩:=h.wk;have DM:=hp.later (ah w qf);have Lr:=hp.later ((ah w (.cells (dC t) 172)).drew);have hb:=(ah w (.cells (dC t) 172)).drew;have HT:=(aB.new w 172 (dC t)).drew;have HB:=aa HT;have HF:=aa (h.later hb);have HD:=aa (eE.cW h hb);have nU:=(h.later hb).facts.2.2.2.2.1;have Ph:ρ.ptr=aw ρ.g:=rfl;have hwr:=po ρ _ σ big (h.later hb);have Z8:=h.left;have ee:=h.FK;clear h;open zg3 in exact ZeI):p:=h
theorem Zbr(h:p:=by skip;intro hg;have hg:ρ (.tmp 22)=.bool true:=hg;exact Zan):p:=h
theorem Zbs(h:p:=by go_enter Tryz.func144,Tryz.ntmps144;go_wp2_with fail;go_ret;exact⟨by rw[HQ.ae];rfl,by go_grown⟩):p:=h
theorem Zbt(h:p:=by
 rcases Bd with rfl |⟨pp,rfl⟩
 ·have DZ:eZ (ar f0 #[.agg #[ag op,ag xv.k,af xv.n,.string xv.s,.string name,af width,.slice A 2 c],.slice A8 2 c8] _ _):=DL.ae;exact Ze7
 ·have DZ:eZ (ar f0 #[.agg #[ag op,ag xv.k,af xv.n,.string xv.s,.string name,af width,.slice A 2 c],.slice A8 2 c8,pp] _ _):=DL.ae;exact Ze7):p:=h
theorem Zbu(h:p:=by
 rcases Bd with rfl |⟨pp,rfl⟩
 ·have DZ:eZ (ar f0 #[.agg #[ag op,ag xv.k,af xv.n,.string xv.s,.string name,af width,.slice A 1 c],.slice A8 1 c8] _ _):=DL.ae;exact Zfd
 ·have DZ:eZ (ar f0 #[.agg #[ag op,ag xv.k,af xv.n,.string xv.s,.string name,af width,.slice A 1 c],.slice A8 1 c8,pp] _ _):=DL.ae;exact Zfd):p:=h
theorem Zbv(h:p:=by go_ret;exact Zfy):p:=h
theorem Zbw(h:p:=by have z0:=hb.cell 0;have z1:=hb.cell 1;have x2:=hb.cell 2;have x3:=hb.cell 3;have x4:=hb.cell 4;have x5:=hb.cell 5;have x6:=hb.cell 6;simp only[bH,Uaa] at z0 z1 x2 x3 x4 x5 x6;exact KaF):p:=h
theorem Zbx(h:p:=by
 go_enter Tryz.func44,Tryz.ntmps44;go_wp2
 all_goals
  go_ret;refine⟨?_,by go_grown⟩;simp_all):p:=h
theorem Zby(h:p:=by
 intro vs w hl hG;have Ej:=BZ _ _ hG
 match vs,hl with
 | [a,s,v],_=>obtain⟨y,w1,gF,w2,ha,h2,h3,h4,h5,h6,h7,h8⟩:=hG;simp only[bE,e0,e1,e2,e3,e4,e5,e6];intro a0' p0 a1 p1 a2 p2 a3 p3 a4 p4 a5 p5 a6 p6;have z0:a0'=bh qb k:=p0;have z1:a1=lv:=p1;have z2:a2=ptr:=p2;have z3:some a=some a3:=p3;have z4:some s=some a4:=p4;have z5:some v=some a5:=p5;have z6:a6=bh qb k:=p6;injection z3 with z3;injection z4 with z4;injection z5 with z5;rw[z0,z1,z2,<- z3,<- z4,<- z5,z6,ha];exact mh y s v w1 gF w2 w h2 h3 h4 h5 h6 h7 h8 Ej):p:=h
theorem Zbz(h:p:=by
 go_wp2_with fail;refine bodyPost_ret (v:=.tuple #[.agg #[af a,ag wa,ag gi,.bool al,.bool nu,d],af 42]) Za5 rfl ?_
 ·exact ZaI):p:=h
theorem ZbA(h:p:=by
 go_wp2_with fail;refine bodyPost_ret (v:=.tuple #[.agg #[af a,ag wa,ag gi,.bool al,.bool nu,d],af 21]) Za5 rfl ?_
 ·exact ZaI):p:=h
theorem ZbB(h:p:=by
 repeat (go_big_quiet_step (fail))
 refine wpQuiet_nil ?_;rintro w3 ⟨y2,fM⟩;have hL:=y2.h;rw[<- fM] at hL;exact KaG):p:=h
theorem ZbC(h:p:=by skip;intro hg;have hg:ρ (.tmp 26)=undef:=hg;exact Zan):p:=h
theorem ZbD(h:p:=by obtain⟨q,h1,h2⟩:=h;exact⟨q,h1,hk _ _ _ h2⟩):p:=h
theorem ZbE(h:p:=by
 have HE:=aa he;have t1:(!y==n.toList)=true:=by rw[xN.ae];rw[beq_eq_false_iff_ne] at he;simp;exact λ e=>he e.symm
 clear he;go_wp2_with fail;go_roundw;case rel=>refine⟨k+1,by omega,by go_num,jI.ae,?_⟩;rw[DN.ae,HST.ae,HE.ae];rfl
 case measure=>exact Za1):p:=h
theorem ZbF(h:p:=by go_wp2_with fail;go_ret;exact YES.ae _ eL.ae):p:=h
theorem ZbG(h:p:=by
 obtain⟨v',w',hr,ho,ha⟩:=fc t ty z bytes ht jm hzs hsz hf h1 hown g0 hg0 hlen mJ hbase;obtain⟨i0,kZ,hz0,hz1,hz2⟩:=info_parts jm;obtain⟨v2,w2,hr2,_,_,h4⟩:=iV (P:=P) w base t ty e i0 z size bytes ht kZ hz0 hz1 hz2 hzs hsz lv l.length (l.flatMap f) hown (g0+1) (some ⟨g0,0,none⟩) 1 1 (f y) ⟨by rw[hf];omega,λ _=>⟨_,rfl,Nat.lt_succ_self _,by
  intro j u hu
  have:(Addr.add ⟨g0,0,none⟩ j)=⟨g0,j,none⟩:=by unfold Addr.add;split <;> simp_all
  rw[this,hg0.cell]
  simpa using hu⟩⟩ h1 Tan hlen hbase
 rw[hr] at hr2;injection hr2 with e1 e2;subst e1 e2;exact KaH):p:=h
theorem ZbH(h:p:=by have HF:=jd ⟨by omega,by omega⟩ Q5.ae HW.ae .refl HO.ae H6.ae;have xh:=aa HF.1;have qC:=aa ((wB.ae.mono WC WC).trans HF.2);exact bodyPost_ret (v:=.tuple #[]) TaI rfl ⟨rfl,E,H4.ae,qC.ae,xh.ae⟩):p:=h
theorem ZbI(h:p:=by simp[results,Tryz.results132,go_sem,z0,z1,z2,z3]):p:=h
theorem ZbJ(h:p:=by
 rw[length_set,Mi hf y l i rZ];simp only[toList_toArray,size_toArray,hf];rw[<- ht,take_take,Nat.min_eq_left WC,drop_take];have hA:(cur.toList.take (i*size)).length=i*size:=by rw[length_take,Array.length_toList];omega
 have hF:(f y).length=size:=hf y;rw[append_assoc,take_append,hA,take_of_length_le (by rw[hA];omega),take_append,hF,take_of_length_le (l:=f y) (by rw[hF];omega),append_assoc,Nat.sub_sub]):p:=h
theorem ZbK(h:p:=by
 have t1:(op==1)=false:=by simpa using h1
 have Bc:op≠2:=by
  intro e2;rcases Hm.ae with h | h
  ·exact h e2
  ·exact h (sj mL.ae e2)
 have t2:(op==2)=false:=by simpa using Bc
 obtain⟨Ho,ny,hwd⟩:=AW mL.ae Bc h1;clear Bc;dsimp only at Ho ny hwd;have agr:3<=op/\op<=20:=by simpa [kJ] using Ho
 have Ry:((op.toNat:Nat):Int)=op:=by omega
 have hOp:gu (W3.alloc (.cells #[af a,ag wa,ag gi,.bool al,.bool nu,d] 100)) op.toNat (.agg (cI a wa gi al nu d)):=by
  rcases HOI.ae with ⟨_,h⟩|⟨h,_⟩
  ·exact h
  ·dsimp only at h;rw[Ho] at h;cases h
 have Hp:=hOp.fields;exact KaI):p:=h
theorem ZbL(h:p:=by have y0:=cJ.cell 0;have y1:=cJ.cell 1;have c2:=cJ.cell 2;have y3:=cJ.cell 3;have y4:=cJ.cell 4;have y5:=cJ.cell 5;have y6:=cJ.cell 6;have x7:=cJ.cell 7;exact KaJ):p:=h
theorem ZbM(h:p:=by have z0:=HX.cell 0;have z1:=HX.cell 1;have x2:=HX.cell 2;have f0:=HX.frozen 0;have f1:=HX.frozen 1;have f2:=HX.frozen 2;simp only[Uaa] at z0 z1 x2;exact KaK):p:=h
theorem ZbN(h:p:=by
 rw[if_neg WC,if_neg WC,if_neg WC,if_pos WC];unfold St.alone;split
 ·exact ZfD
 ·rename_i hk;obtain⟨r1,r2,r3,r4⟩:=sx { s with all:=s.all+1 } x.1 aN;exact ZeK):p:=h
theorem ZbO(h:p:=by
 rw[if_neg WC,if_neg WC,if_neg WC,if_neg WC];unfold St.Bo;split
 ·rename_i hk;obtain⟨r1,r2,r3,r4⟩:=sx { s with all:=s.all+1 } x.1 x.2;exact ZeK
 ·exact ZfD):p:=h
theorem ZbP(h:p:=by have h0:_=_:=hr.1;exact aq (w':=w3) Taj ⟨ai.refl _,rfl⟩):p:=h
theorem ZbQ(h:p:=by exact aq (v:=v') (w':=w') (by simp only[execOp,resolve,invoke,builtin,Sem.run_bind,Sem.run_pure,Result.andThen_ok,map_toArray,map_cons,map_nil,h0,h1,hrun]) ⟨yD,_,rfl,ho,Ei.later hL.grown.size⟩):p:=h
theorem ZbR(h:p:=by exact aq (w':=w3) (by simp[go_sem,h0,c0,<- IH.ae];done) ⟨ai.refl _,rfl⟩):p:=h
theorem ZbS(h:p:=by intro ρ w3 hc hL hr;intro hg;have hg:ρ (.tmp 45)=.bool true:=hg;refine⟨λ _=>?_,λ hn=>absurd hg hn⟩;exact KaL):p:=h
theorem ZbT(h:p:=by
 intro vs w h
 match vs,h with
 | [],h=>rw[ai.cell h (p:=⟨qb,k,none⟩) Xn];exact hcell
 | [a],⟨y,w1,gF,_,h2,h3,h4⟩=>exact(wu h2 h3 h4).1
 | [a,s],⟨y,w1,gF,_,_,_,h2,h3,h4,_⟩=>exact(wu h2 h3 h4).1
 | [a,s,v],⟨y,w1,gF,w2,_,h2,h3,h4,_,h6,_,_⟩=>obtain⟨k1,_,k3⟩:=wu h2 h3 h4;rw[pw h6 (p:=⟨qb,k,none⟩) (Nat.lt_of_lt_of_le Xn k3) (λ e=>hlq e.symm)];exact k1
 | _::_::_::_::_,h=>exact h.elim):p:=h
theorem ZbU(h:p:=by rintro e w4 ⟨rfl,d4⟩;go_wp2_with fail;refine(Cb HF.ae IH.ae ρ _ d4.at_).mono ?_;rintro e w5 ⟨n,hn,rfl,d5⟩;have HN:=aa hn;clear hn;go_wp2_with fail;have hwd:=lL ρ _ _ false d5.at_ ⟨#[40]⟩;exact KaM):p:=h
theorem ZbV(h:p:=by
 intro ρ w vs hc hG hr;rw[t4] at hr;have r0:=hr.1;simp only[s4] at r0;refine⟨g4,?_⟩;show vs.length=1->_;intro hl
 match vs,hl with
 | [a],_=>have r0:some a=some (ρ (.tmp d3)):=r0;injection r0 with r0;obtain⟨y,w1,gF,ha,h2,h3,h4⟩:=hG;refine aq (JJ ρ w y (r0.symm.trans ha)) ?_;exact⟨y,w1,gF,w.heap.size,ha,rfl,h2,h3,h4.trans ((Below.refl _ _).alloc (Nat.le_refl _) _),aB.new w e _⟩):p:=h
theorem ZbW(h:p:=by
 go_wp2_with fail;refine bodyPost_ret (v:=.tuple #[.agg #[af a,ag wa,ag gi,.bool al,.bool nu,d],af 0]) Za5 rfl ?_
 ·exact ZaI):p:=h
theorem ZbX(h:p:=by exact⟨s0,r0,by omega,by omega,by omega,by omega,by rw[NA.ae],by rw[uA.ae],HS.ae⟩):p:=h
theorem ZbY(h:p:=by
 go_roundw
 case rel=>
  refine⟨k+1,dJ++ [nl],hlt,by go_num,O4.ae,?_,?_,by simp;exact zL.ae,?_,Ly.ae⟩
  ·intro x hx;rcases List.mem_append.1 hx with hx | hx
   ·exact RW4.ae x hx
   ·rw[mem_singleton] at hx;subst hx;exact⟨N41.ae,N42.ae,HN8.ae.2.2⟩
  ·rw[zh.ae,Ey.ae,map_append,HP.ae];show _++ [MN nl]=_++ [_];rw[PK.ae]
  ·rw[qC.ae];exact B4.ae
 case measure=>exact Za1):p:=h
theorem ZbZ(h:p:=by
 generalize ba D s Kx f=R at*;have H6:cE R a mid:=by exact ZfP
 obtain⟨E,hE⟩:∃E,E=R:=⟨_,rfl⟩;have H4:=aa (show SS w0 g n _ E by rw[hE];exact H3.ae);have HW:=aa (show Sw a mid R E by rw[hE];exact .refl);have HO:=aa (show cE E a mid by rw[hE];exact H6);clear hE H6 H3;exact Zai):p:=h
theorem Zb0(h:p:=by have z0:=hb.cell 0;have z1:=hb.cell 1;have x2:=hb.cell 2;have x3:=hb.cell 3;have x4:=hb.cell 4;have x5:=hb.cell 5;have x6:=hb.cell 6;simp only[Uaa] at z0 z1 x2 x3 x4 x5 x6;have Aw:=aa hb;clear hb;exact KaN):p:=h
theorem zg4.KbO(h:p:=by go_enter Tryz.func199,Tryz.ntmps199;go_wp2_with fail;go_region;clear c0 c1 c2 d0 d1 d2 d3 y0 y1 y2 z0 z1 z2 z3 x0 v0 v1 v2 v3;obtain⟨u0,u1,u2,u3,_⟩:=bP HT;have xM:=aa HT;clear HT;unfold dC at u0 u1 u2 u3 hb3 x1 x2 nU Kx xM HD mZ Cc;generalize World.drew _=W at*;exact KaO):p:=h
theorem Zb1(h:p:=by have Pj:=aa hpl;clear h hpl KK cg uq na h0 hb HQ;open zg4 in exact ZeI):p:=h
theorem Zb2(h:p:=by exact⟨rfl,vZ bb (Nat.le_refl _) _ _ _ _⟩):p:=h
theorem Zb3(h:p:=by obtain⟨x0,x1,h1,f0⟩:=h;exact⟨x0,x1,h1,f0.later hl⟩):p:=h
theorem Zb4(h:p:=by intro ρ w3 hc hL hr;have h0:_=_:=hr.1;exact aq (v:=aw gp) (w':=w3) Taj ⟨AR.refl _,rfl⟩):p:=h
theorem Zb5(h:p:=by
 rw[if_neg (by rw[hf];simp),agw];dsimp only;by_cases Hn:bQ ⟨op,xv,name,width,none,args.length,0⟩=0
 ·simp only[Hn,ne_eq,not_true_eq_false,↓reduceIte];by_cases h1:op=1
  ·simp only[h1,↓reduceIte]
  ·simp only[h1,↓reduceIte];rw[if_neg];intro ho;exact h2 ⟨ho,sj (l:=args) Hn ho⟩
 ·simp only[Hn,ne_eq,not_false_eq_true,↓reduceIte]):p:=h
theorem Zb6(h:p:=by
 go_wp2_with fail
 all_goals
  go_ret;refine⟨?_,rfl⟩;try simp_all
  try rfl):p:=h
theorem Zb7(h:p:=by intro ρ' w' h';simp[go_sem,h']):p:=h
theorem Zb8(h:p:=by go_wp2_with (go_at_call 104;refine(jB _).mono ?_;rintro e w1 ⟨rfl,rfl⟩);go_ret;rw[HT.ae];exact⟨rfl,by go_grown⟩):p:=h
theorem Zb9(h:p:=by
 rcases hb.1 with h1 | h1
 ·have:=(p.rows i hi b e).1;omega
 ·match i with
  | 0=>exact(ew.1 hb.2).2.2.1 e
  | 1=>exact(ew.1 hb.2).2.2.2 e
  | 2=>have:=(h.f.rows 2 WC b e).2.1;omega
  | 3=>have:=(h.f.rows 3 WC b e).2.1;omega
  | 4=>have:=(h.f.rows 4 WC b e).2.1;omega
  | n+5=>have:=(h.f.rows 5 WC b e).2.1;omega):p:=h
theorem Zca(h:p:=by
 go_wp2_with fail;have bx:=ah wr (.cells (ay y) 46);refine(fZ _ (ai.then (ai.then HB.ae hW) bx)).mono ?_;rintro e w1 ⟨rfl,b1⟩;have KK:=ai.then hW (ai.then bx b1);clear bx hex fZ b1;go_wp2_with fail;go_roundw;case rel=>refine⟨k+1,hlt,by go_num,?_,KK⟩;rw[HT.ae,map_append,map_singleton,xA,HM.ae]
 case measure=>exact Za1):p:=h
theorem Zcb(h:p:=by
 simp only[bK,fy,Tryz.f28,Option.getD_some] at key;have hK2:∀T:Array Value,T.size=252->T.getD 2 undef=aw g2->T.getD 4 undef=aw g4->T.getD 5 undef=aw g5->T.getD 6 undef=aw gp->K { tmps:=T,defers:=d } wr:=λ T hT h2 h4 h5 h6=>hK _ _ (key T hT h2 h4 h5 h6)
 clear hK key;go_wp2_with fail;refine hK2 _ ?_ ?_ ?_ ?_ ?_ <;> rfl):p:=h
theorem Zcc(h:p:=by
 have hmf:∀(fn:Fn) (first cap:Array Value) (w:World),(Instr.makeFunc fn first cap).run Tryz.prog w=.ok (.func fn first cap) w:=λ _ _ _ _=>rfl
 exact KaP):p:=h
theorem Zcd(h:p:=by intro ρ w3 hc hL hr;have h0:_=_:=hr.1;have jk:=(hL.cell (p:=⟨gp,8,none⟩) Qi.ae).trans Nw.ae;exact ZdF):p:=h
theorem Zce(h:p:=by rw[jZ] at hG;have e1:=hc.func 12;refine bj (f:=12) (args:= #[.slice RA rows.length rc]) (w':=w) (by simp[go_sem,e1,r0];done) ?_;refine(V7 rc (HCR.ae.later hG.low)).mono ?_;rintro e w4 ⟨v,rfl,hv,b4⟩;refine⟨_,rfl,?_⟩;show kH _ _ _ _ _;unfold kH;simp only[gC,Nat.reduceEqDiff,if_true,if_false];exact hG.aqo b4 hv):p:=h
theorem Zcf(h:p:=by
 have zA:k < n:=by have:=HN.ae;omega
 obtain⟨b,off,rfl,kF,hex⟩:=(HA.ae.below (KK.trans (hb.mono KK.size))).at_ (show k <(args.map (·.1)++bad::post).length by simp;omega);exact KaQ):p:=h
theorem Zcg(h:p:=by intro ρ X8 σ hc hG hr he hno;have r0:ρ (.tmp 6)=aw gp:=(show ρ (.tmp 6)=f 6 from hr.1).trans es0;exact Za2):p:=h
theorem Zch(h:p:=by
 obtain⟨m,Ad⟩:∃m:Nat,m=(i+j)/ 2:=⟨_,rfl⟩;have zc:((i:Int)+(j:Int))/ 2=(m:Int):=by omega
 simp only[zc];have cf:i<=m:=by omega
 have XF:m < j:=by omega
 clear zc Ad;exact KaR):p:=h
theorem Zci(h:p:=by
 have hr:=IB _ _ s[i] (aB.new wr 5 #[ag (s[i].toNat:Int)]);have um:=aa (Si hc);clear hc;go_wp2_with fail;go_roundw;case rel=>refine⟨i+1,l++ [s[i]],by omega,by go_num,by rw[mg],by rw[length_append,HL.ae];rfl,?_,hb.trans ((ah wr _).mono hb.size)⟩;rw[HM.ae,HD.ae];simp[um.ae]
 case measure=>exact Za1):p:=h
theorem Zcj(h:p:=by
 have HE:=aa (show(s.extract at_ k).data.toList=(s.data.toList.drop at_).takeWhile bD by rw[<- mL.ae];exact mX bD s at_);have hx1:0 <(s.extract at_ k).size:=by have h1:=alQ.ae;rw[<- HE.ae] at h1;simpa only[ByteArray.size_data,Array.length_toList] using h1
 have hx2:(s.extract at_ k).size<=4294967280:=by rw[ByteArray.size_extract];omega
 have HN:=aa (yR (s.extract at_ k) W (by rw[HE.ae];exact Sg _) hx1 hx2);have Sk:=aa (show(s.data.toList.drop at_).dropWhile bD=s.data.toList.drop k by rw[<- BL,mL.ae]);clear hx1 hx2;obtain⟨z0,z1,z2,z3,y0,y1,y2,y3⟩:=bP HZ.ae;exact KaS):p:=h
theorem Zck(h:p:=by
 by_cases h0:bO v v'=0
 ·have t0:(bO v v' != 0)=false:=by simpa using h0
  have HD':=aa ((HS.ae.trans (if_pos h0)).symm.trans HD.ae);clear h0;go_wp2_with fail;go_roundw;case rel=>exact⟨k+1,hlt,Br,by go_num,HD'.ae,hB⟩
  case measure=>exact Za1
 ·have t0:(bO v v' != 0)=true:=by simpa using h0
  have HD':=aa ((HS.ae.trans (if_neg h0)).symm.trans HD.ae);clear h0;go_wp2_with fail;go_ret;exact⟨by rw[HD'.ae];rfl,hB⟩):p:=h
theorem Zcl(h:p:=by have Nm:=aa (Nn.ae (aN,0) (by unfold iJ;simp only[map_cons,map_nil];rw[tq.ae,hs,if_neg Tad,if_pos (by have:=HGI.ae;simp_all)]));go_wp2_with fail;exact bodyPost_ret (v:=.tuple #[.agg #[ag 0,af 0,.string ByteArray.empty],af 0]) Tah rfl ⟨congrArg (λ r:Val×Int=>Ending.returned (bR r.1 r.2)) Nm.ae.symm,((hB.setCell bJ _).setCell bJ _).setCell bJ _⟩):p:=h
theorem Zcm(h:p:=by
 refine hwd.mono ?_;rintro e w6 ⟨rfl,b6⟩;have dd:=(((((HD.ae.trans d1).trans d2).trans d3).trans d4).trans d5).later b6;have zP:=(d5.blk (d4.blk (d3.blk (d2.blk (d1.blk mZ.ae WC) WC) WC) WC) WC).later b6;have hs6:w.heap.size+2<=w6.heap.size:=by have:=d1.size;have:=d2.size;have:=d3.size;have:=d4.size;have:=d5.size;have:=b6.size;omega
 have Xo:=aa dd;have Pq:=aa zP;clear dd zP d1 d2 d3 d4 d5 b6 hwd Kx HD mZ xM u0 u1 u2 u3 x1 x2 nU hb3;exact KaT):p:=h
theorem Zcn(h:p:=by
 refine bC 11 (Gn gp 10 VA s1.aL.length vc ty er Kx) (nk _ _ _ _ _ _ _ _) Taa Taa Taa ?_ ?_
 ·exact ZaQ
 intro W3 hL;simp only[Uab];rintro a0 - a1 - a2 - a3 - a4 - a5 - a6 - a7 - a8 - _ rfl _ rfl;simp only[bE,Act.put,Uac];have SV:=aa (VH.ae.later hL);have Aa:=aa (HP.ae.later hL);exact KaU):p:=h
theorem Zco(h:p:=by
 clear yu sQ GK NC zU Tt;have hk7:k < 1000000:=by have:=HFN.ae;have:=F7.ae;omega
 go_wp2_with fail;go_roundw;case rel=>exact⟨k+1,a,u',v',G7,yh++ [Kx],s2,eD++ [t2],hlt,by go_num,by
  have h:=P8.ae
  rw[VD.ae] at h
  exact h,EF.ae,by have:=zh.ae;have:=HND.ae;have:=Dp.ae;omega,by rw[length_append,qE.ae];rfl⟩
 case measure=>exact Za1):p:=h
theorem Zcp(h:p:=by go_wp2_with fail;refine wp_loop_rounds 3 ?_;rw[rounds_succ];go_wp2_with fail;refine(K1.ae _).mono ?_;rintro e w1 ⟨rfl,rfl⟩;go_wp2_with fail;rw[rounds_succ];go_wp2_with fail;exact KaV):p:=h
theorem Zcq(h:p:=by
 go_wp2_with fail;refine bodyPost_ret (v:=.tuple #[.agg #[ag 3,.string ⟨acc.toArray⟩,af 0,af at_],af ((k:Int)+1),af 0]) ZbI rfl ?_
 ·rw[rz.ae,HF.ae,cH HB.ae,HQ.ae,Lh aha.ae];unfold zM;simp only;have e:s.size - (s.data.toList.drop (k+1)).length=k+1:=by rw[length_drop,HLEN.ae];omega
  rw[e];exact Zb2):p:=h
theorem Zcr(h:p:=by
 injection hv with e1 e2 e3;injection e1 with e1;injection e1 with e1 _ _;subst e1 e3;have ft:(i+1)*size<=l.length*size:=Nat.mul_le_mul_right _ rZ;have hl2:l.length*size<=c*size:=Nat.mul_le_mul_right _ hn;rw[Nat.add_mul,Nat.one_mul] at ft;have pE:i*size+size<=cur.size:=by rw[hs];omega
 have hrun:=wF (P:=P) w q (i*size) e ty cur (f y).toArray hg (by rw[hi];simp[hf]) (by simpa [hf] using pE) h1;exact KaW):p:=h
theorem Zcs(h:p:=by go_upto_region 1 with fail;generalize World.alloc (World.alloc w _) _=W at*;obtain⟨g3,kZ⟩:∃g3,g3=w.heap.size:=⟨_,rfl⟩;obtain⟨g4,hg4⟩:∃g4,g4=w.heap.size+1:=⟨_,rfl⟩;rw[<- hg4] at HZ ⊢;rw[<- kZ] at oy ⊢;have mF:=aa (show w.heap.size<=g4 by omega);have Je:=aa (show w.heap.size<=g3 by omega);have HI:=aa kZ;have JO:=aa hg4;have Gi:=aa oy;have tD:=aa HZ;clear kZ hg4 oy HZ;exact KaX):p:=h
theorem Zct(h:p:=by
 clear hlen;simp only[map_cons,map_nil,length_cons,length_nil,Nat.zero_add,Nat.reduceAdd] at*;have tM:=HKC.ae;clear HKC;rcases tM with tM |⟨g9,rfl,kK,tM⟩
 ·simp at tM
 exact KaY):p:=h
theorem zeR.Ka0(h:p:=by exact KaZ):p:=h
theorem Zcu(h:p:=by subst Y7;open zeR in exact Zcv):p:=h
theorem Zcv(h:p:=by have z0:=k1.cell 0;have z1:=k1.cell 1;have x2:=k1.cell 2;have x3:=k1.cell 3;have x4:=k1.cell 4;have x5:=k1.cell 5;have x6:=k1.cell 6;have x0:=hR.cell 0;have x1:=hR.cell 1;have z2:=hR.cell 2;have z3:=hR.cell 3;have z4:=hR.cell 4;have z5:=hR.cell 5;simp only[Uaa] at z0 z1 x2 x3 x4 x5 x6 x0 x1 z2 z3 z4 z5;have dt:=aG cJ;have gV:=aB.frozen cJ;go_wp2_with fail;exact Ka0):p:=h
theorem Zcw(h:p:=by
 rcases h with h |⟨b,off,h1,h2,h3⟩
 ·exact .inl h
 ·exact .inr ⟨b,off,h1,h2,λ i x hx=>(h3 i x hx).keep λ o=>hb.cell (p:=⟨b,o,none⟩) h2⟩):p:=h
theorem Zcx(h:p:=by skip;intro hg;have hg:ρ (.tmp 22)=.bool false:=hg;refine⟨λ _=>?_,λ hn=>absurd hg hn⟩;exact Zak):p:=h
theorem Zcy(h:p:=by rw[jZ] at hG;have h4:=hG.e5 _ r0;obtain⟨A1,n1,c1,A2,n2,NE,i,e,hv⟩:=(hG.run _ h4).tri;rw[hv] at h4;refine aq (v:=.agg #[.slice A1 n1 c1,.slice A2 n2 NE,af i]) (w':=w) (by simp[go_sem,hv];done) ?_;show kH _ _ _ _ _;unfold kH;simp only[gC,Nat.reduceEqDiff,if_true,if_false];exact hG.aqr h4):p:=h
theorem Zcz(h:p:=by
 have ee:=h.FK;have hb:=ah w qA;have h0:=h.later hb;have HQ:=aa (aB.new w 46 #[ag 0,ag 0,af 0,au,au,af 0,az]);have hsz:(w.alloc qA).heap.size=w.heap.size+1:=by simp
 exact Ka1):p:=h
theorem ZcA(h:p:=by obtain⟨f,rfl⟩:=kX T hT;have h2:f 2=_:=h2;have h4:f 4=_:=h4;have h5:f 5=_:=h5;have h6:f 6=_:=h6;simp only[bT,h2,h4,h5,h6];clear h2 h4 h5 h6;clear h2 h4 h5 h6 hT;exact Ka2):p:=h
theorem ZcB(h:p:=by exact⟨s0,r0,by omega,by omega,by omega,by omega,by rfl,by rw[uA.ae],HS.ae⟩):p:=h
theorem ZcC(h:p:=by intro ρ w vs hc hG hr;rw[t3] at hr;have r0:=hr.1;simp only[m3] at r0;refine⟨g3,?_⟩;show vs.length=0->_;intro hl;obtain rfl:=eq_nil_of_length_eq_zero hl;refine bj (cf ρ w hc r0) ((lX w hG).mono ?_);rintro e' w' ⟨y,rfl,hp⟩;exact⟨_,rfl,y,w,w',rfl,hG,hp,ai.refl _⟩):p:=h
theorem ZcD(h:p:=by
 go_wp2_with fail;go_roundw;case rel=>exact⟨k+1,hlt,by go_num,HR.ae,hW⟩
 case measure=>exact Za1):p:=h
theorem ZcE(h:p:=by
 replace Q3:=aa (Q3.ae.later b3);clear b1 b3;have hst:=λ(u:Addr) (m:Mode) (w:World)=>run_store Tryz.prog w u .nilFunc m rfl
 unfold oG;have x0:=hR.cell 0;have x1:=hR.cell 1;have z2:=hR.cell 2;have z3:=hR.cell 3;have z4:=hR.cell 4;have z5:=hR.cell 5;have z6:=hR.cell 6;simp only[Uaa] at x0 x1 z2 z3 z4 z5 z6;exact Ka3):p:=h
theorem ZcF(h:p:=by
 have HV1:=aa NL;clear NL;go_wp2_with fail;go_roundw;case rel=>exact⟨k+1,hlt,by go_num,HN2.ae HV1.ae,ai.then hb hL⟩
 case measure=>exact Za1):p:=h
theorem ZcG(h:p:=by simp[results,Tryz.results199,go_sem,r0,r1,r2,r3,r4,r5,r6];rfl):p:=h
theorem ZcH(h:p:=by exact⟨0,Nat.zero_le _,rfl,aI.nil,Below.refl _ _⟩):p:=h
theorem ZcI(h:p:=by
 go_wp2_with fail;refine bodyPost_ret (v:=.tuple #[.agg #[ag 0,au,af 0,af 0],af 0,af 30]) ZbI rfl ?_
 ·rw[rz.ae,pU.ae];exact Zb2):p:=h
theorem ZcJ(h:p:=by skip;intro hg;have hg:ρ (.tmp 26)=.bool false:=hg;exact Zan):p:=h
theorem ZcK(h:p:=by go_upto_region 1 with fail;generalize w.alloc _=W1 at*;obtain⟨g,hg⟩:∃g,g=w.heap.size:=⟨_,rfl⟩;exact Ka4):p:=h
theorem ZcL(h:p:=by
 intro e4 w4 h4;unfold rI at h4;rw[jH.ae] at h4
 cases res with
 | error er=>obtain⟨_,rfl,b4⟩:=h4;exact⟨_,rfl,b4,_,_,rfl,rfl,rfl⟩
 | ok l=>obtain⟨v4,rfl,o4,b4⟩:=h4;refine⟨_,rfl,b4,_,_,rfl,rfl,?_⟩;have o5:=o4.down hL.size;rw[<- Bz.ae] at o5;exact o5):p:=h
theorem ZcM(h:p:=by
 obtain⟨a0,_,hc0⟩:=nt 0 h0;have hsome:∃u,(f a0)[0]?=some u:=⟨(f a0)[0]'(by rw[hf];exact hK),getElem?_eq_getElem _⟩;obtain⟨u0,Xg⟩:=hsome;have hlt:=jO ((hc0 0 hK).trans Xg);obtain⟨b,off,spot⟩:=ad;have hs:spot=none:=by have:=hlt.2;simpa [Addr.add] using this
 subst hs;have hbl:b < w.heap.size:=by have:=hlt.1;simpa [Addr.add] using this
 exact Ka5):p:=h
theorem ZcN(h:p:=by exact aq (w':=w3) TaG ⟨ai.refl _,rfl⟩):p:=h
theorem ZcO(h:p:=by
 go_wp2_with fail;clear y0 y1 c2 y3 y4 y5 y6 Gj;generalize uE:World.setCell _ _ _=W9;have hR:aB W9 g4 46 dh:=by rw[<- uE];simpa using(((((((PL.ae.aT 0 _).aT 1 _).aT 2 _).aT 3 _).aT 4 _).aT 5 _).aT 6 _)
 exact Ka6):p:=h
theorem ZcP(h:p:=by
 clear hk hb
 rcases hlv with rfl | rfl | rfl | rfl;all_goals
  generalize kQ _ t.w=R at*;go_enter Tryz.func200,Tryz.ntmps200;go_wp2_with fail;all_goals
   go_ret;rw[HR.ae];refine⟨?_,ah w _⟩;refine mV ?_;simp[opsL,List.lookup,agN,Zf,OS,sG,xE,Iu,xF, *]):p:=h
theorem ZcQ(h:p:=by exact aq (w':=w3) (by simp[go_sem,h0,h1,hs];done) ⟨ai.refl _,rfl⟩):p:=h
theorem ZcR(h:p:=by rw[jZ] at hG;have h4:=hG.e5 _ r0;obtain⟨A1,n1,c1,A2,n2,NE,i,e,hv⟩:=(hG.run _ h4).tri;rw[hv] at h4;refine aq (v:=e) (w':=w) (by simp[go_sem,hv];done) ?_;show kH _ _ _ _ _;unfold kH;simp only[gC,Nat.reduceEqDiff,if_true,if_false];exact hG.aqs h4):p:=h
theorem ZcS(h:p:=by go_wp2_with fail;have hB:=ai.then (ah w (.cells (ay x) 46)) (ah _ (.cells #[ag 0,af 0,au] 44));have hR:=aB.new (w.alloc (.cells (ay x) 46)) 44 #[ag 0,af 0,au];have hX:=(aB.new w 46 (ay x)).alloc (.cells #[ag 0,af 0,au] 44);rw[World.size_alloc] at hR;generalize vw:(w.alloc (.cells (ay x) 46)).alloc (.cells #[ag 0,af 0,au] 44)=W at*;clear vw;exact Ka7):p:=h
theorem zhq.KbX(h:p:=by clear jn fH HP;have fZ:=Hq.ae;exact Ka8):p:=h
theorem ZcT(h:p:=by
 have fH:k=args.length:=by omega
 have zA:k < n:=by have:=HN.ae;omega
 obtain⟨b,off,rfl,kF,hex⟩:=(HA.ae.below hb).at_ (show k <(args.map (·.1)++bad::post).length by simp;omega);open zhq in exact Zfk):p:=h
theorem ZcU(h:p:=by
 rcases h1 with h |⟨b,off,e1,e2,e3⟩
 ·exact .inl h
 ·exact .inr ⟨b,off,e1,e2,e3⟩):p:=h
theorem ZcV(h:p:=by have h0:_=_:=hr.1;have jk:=aG (HG.later hL);exact aq (w':=w3) (by simp[go_sem,h0,jk.1,jk.2.1,jk.2.2];done) ⟨ai.refl _,rfl⟩):p:=h
theorem ZcW(h:p:=by intro ρ w3 hc hL hr;have e1:=hc.func 104;refine bj (f:=104) (args:= #[]) (w':=w3) (by simp[go_sem,e1]) ?_;refine(jB w3).mono ?_;rintro e w2 ⟨rfl,rfl⟩;exact⟨_,rfl,(Below.refl _ _).alloc (Nat.le_refl _) _,_,rfl,heap_alloc_new w3 _⟩):p:=h
theorem ZcX(h:p:=by rintro e w1 ⟨rfl,b1⟩;go_wp2_with fail;go_ret;exact⟨rfl,b1⟩):p:=h
theorem ZcY(h:p:=by obtain⟨f,rfl⟩:=kX T hT;have h1:f 1=_:=h1;have h2:f 2=_:=h2;have h4:f 4=_:=h4;have h5:f 5=_:=h5;have h6:f 6=_:=h6;simp only[bT,h1,h2,h4,h5,h6];clear h1 h2 h4 h5 h6;clear h1 h2 h4 h5 h6 hT;exact Ka9):p:=h
theorem zhv.KbZ(h:p:=by have u1_:decide (Kx < f)=true:=decide_eq_true k1;have u2_:decide (a < s)=false:=decide_eq_false k2;have u3_:decide (s < mid)=true:=decide_eq_true k3;have u4_:decide (mid < f)=true:=decide_eq_true k4;exact Kba):p:=h
theorem ZcZ(h:p:=by open zhv in exact Zfs):p:=h
theorem Zc0(h:p:=by exact⟨rfl,((Below.refl _ _).alloc (Nat.le_refl _) _).trans (hL.mono Tad)⟩):p:=h
theorem Zc1(h:p:=by
 rcases h with h |⟨b,off,h1,h2,h3⟩
 ·subst h;simp at hk
 ·exact⟨b,off,h1,h2,h3 k _ (getElem?_eq_getElem hk)⟩):p:=h
theorem Zc2(h:p:=by go_wp2_with fail;go_ret;exact⟨by rw[<- HD.ae,HS.ae];rfl,hB⟩):p:=h
theorem Zc3(h:p:=by have oy:=aB.new w 46 (ay z);have b0:=ah w (.cells (ay z) 46);have HZ:=aB.new (w.alloc (.cells (ay z) 46)) 46 dh;have b2:=ah (w.alloc (.cells (ay z) 46)) (.cells dh 46);replace oy:=oy.later b2;have bb:=ai.then b0 b2;rw[World.size_alloc] at HZ;have sT:=aa (nX.later bb);have zJ:=aa bb;have gX:=sT.ae.blk;unfold PC.cells at gX;exact Kbb):p:=h
theorem Zc4(h:p:=by clear gX;go_wp2_with fail;refine(Xk.ae _).mono ?_;rintro e Kx ⟨rfl,b2⟩;go_wp2_with fail;exact bodyPost_ret (v:=.tuple #[ag 0,af 40]) Tap rfl ⟨rfl,ai.then (ai.then fE.ae b3) b2⟩):p:=h
theorem Zc5(h:p:=by exact aq (v:=VI) (w':=w3) Tar ⟨ai.refl _,_,VJ,rfl,cJ⟩):p:=h
theorem Zc6(h:p:=by rintro e w3 ⟨rfl,Lw⟩;clear z0 z1 x2 x3 x4 x5 x6 x0 x1 z2 z3 z4 z5 dt gV;replace k1:=k1.later Lw;replace hR:=hR.later Lw;replace cJ:=cJ.later Lw;replace hB:=ai.then hB Lw;replace AZ:=aa ((AZ.ae.below Lw).more (Lw).size);replace HDB:=aa (ai.then HDB.ae Lw);replace TS:=(Lw.cell (p:=⟨g9,0,none⟩) vD).trans TS;exact Kbc):p:=h
theorem Zc7(h:p:=by go_wp2_with fail;exact Zbv):p:=h
theorem Zc8(h:p:=by
 rcases Nat.lt_or_ge vs.length ch.length with h' | h'
 ·have hi:=getElem?_eq_getElem h';have hb:=of_decide_eq_true (List.all_eq_true.1 JT _ (getElem_mem h'));have:=(cf _ _ hi).1 (hall _ hb);omega
 ·omega):p:=h
theorem Zc9(h:p:=by
 refine⟨rfl,rfl,rfl,rfl,rfl,[y],?_,Tr.fL ?_⟩
 ·exact((Ai.ae.keep (iP B12.ae)).keep (lK D12.ae.grown WC)).keep (iY WC)
 ·exact((E1.ae.later B12.ae).grown D12.ae.grown WC).more WC):p:=h
theorem Zda(h:p:=by
 have YQ:i < listed.size:=by rw[I.len];exact zu
 have YR:fuel=bw l.length (listed.setIfInBounds i true)+zs.length:=by have:=ll l.length listed i YQ rZ AL;omega
 unfold wpOp;rw[oF];show if Region.wanted oj (yielded (l++zs).toArray a.tmps)=true then _ else _;rw[if_pos (by simp[Region.wanted,hgd])];refine .inl ?_;exact Kbd):p:=h
theorem Zdb(h:p:=by
 have jV:=uY.ae;rw[hr] at hp vg jV;obtain⟨Kx,ty,u',v',rfl,hst⟩:=hp;have her:=vg.ae.err _ rfl;have ox:=aa (show X=.error er by
  rw[uI.ae,jV]
  rfl)
 have nJ:=aa her;have t1:(er != 0)=true:=by simp[her]
 have bg:=ah w6 (.cells (ay Kx) 46);have HW:=aa ((tU.ae.err hst).later bg);clear hr her hst jV vg uY tU bg;exact Kbe):p:=h
theorem Zdc(h:p:=by have NC:=aa (show aB (w6.alloc (.cells (ay Kx) 46)) w6.heap.size 46 (bH Kx).toArray from XH);clear XH;generalize w6.alloc (.cells (ay Kx) 46)=WD at*;generalize w6.heap.size=gY at*;exact Kbf):p:=h
theorem Zdd(h:p:=by
 refine bodyPost_ret (v:=.tuple #[.agg #[ag 2,au,af (ly ((s.data.toList.drop at_).takeWhile bD)),af at_],af k,af 0]) ZbI rfl ?_
 ·rw[HR.ae];unfold zM;simp only;rw[vY bD s WC,mL.ae];exact Zb2):p:=h
theorem Zde(h:p:=by skip;intro hg;have hg:ρ (.tmp 22)=.bool false:=hg;refine⟨λ _=>?_,λ hn=>absurd hg hn⟩;have h0:_=_:=hr.1;have e1:=Xz.ae.2 rfl;exact ZgO):p:=h
theorem Zdf(h:p:=by skip;intro hg;have hg:ρ (.tmp 22)=.bool false:=hg;refine⟨λ _=>?_,λ hn=>absurd hg hn⟩;have h0:_=_:=hr.1;have e1:=Xz.ae.1 rfl;exact ZgO):p:=h
theorem Zdg(h:p:=by
 go_wp2_with fail;go_quiet (fail);go_wp2_with fail;go_roundw
 case rel=>
  refine⟨i+1,n+nq,by omega,by go_num,?_,?_⟩
  ·rw[<- HWN.ae];exact BM W n nq
  ·rw[pU.ae,Z6.ae,kP,HP.ae];rfl
 case measure=>exact Za1):p:=h
theorem Zdh(h:p:=by
 split at h <;> try exact h
 obtain⟨g,h1,h2⟩:=h;refine⟨g,h1,?_⟩;rw[hl.block g ?_]
 ·exact h2
 ·exact ZfN):p:=h
theorem Zdi(h:p:=by intro ρ w3 hc hL hr;have h0:_=_:=hr.1;have h1:_=_:=hr.2.1;have h2:_=_:=hr.2.2.1;have hs:=Gd XA xn xc gn gn (Nat.le_refl _) HXC.ae w3;exact aq (w':=w3) (by simp[go_sem,h0,h1,h2,hs];done) ⟨ai.refl _,rfl⟩):p:=h
theorem Zdj(h:p:=by go_wp2_with fail;go_ret;refine⟨?_,hb⟩;rw[nT λ j hj=>HP.ae j (by rw[length_map] at hj;omega)];rfl):p:=h
theorem Zdk(h:p:=by intro ρ w vs hc hG hr;rw[t0] at hr;have r0:=hr.1;simp only[s0] at r0;exact⟨g0,hfa ρ w (r0.trans hq)⟩):p:=h
theorem Zdl(h:p:=by rw[Bool.not_eq_true] at hs;obtain⟨nl,c,d0,d1,c0,c1,_,_,s1⟩:=Hw (lo a) 0 l0 l1 WC WC;obtain⟨nh,c2,e0,e1,_,_,_,_,s2⟩:=Hw (hi a) c h0 h1 c0 c1;have Np:=Int.emod_nonneg nh (show n≠0 by omega);have Hu:=Int.emod_lt_of_pos nh hn;obtain⟨q,r,hd⟩:=Hv (nh % n) nl n Np Hu uX d0 d1;exact Kbg):p:=h
theorem Zdm(h:p:=by intro ρ w vs hc hG hr;rw[t2] at hr;have r0:=hr.1;simp only[m0] at r0;exact⟨g2,Ei ρ w (r0.trans h0)⟩):p:=h
theorem Zdn(h:p:=by intro ρ w vs hc hG hr;rw[t6] at hr;have r0:=hr.1;simp only[s6] at r0;exact⟨g6,ZO ρ w (r0.trans hq)⟩):p:=h
theorem Zdo(h:p:=by exact aq (w':=w3) (by simp[go_sem,h0,y0,y1,c2];done) ⟨ai.refl _,rfl⟩):p:=h
theorem Zdp(h:p:=by
 repeat' split
 all_goals first
  |(exfalso;omega)
  | rfl
  |(congr 1;omega)):p:=h
theorem Zdq(h:p:=by unfold PC.cells at jS;have c10:=jS.cell 10;simp only[Uaa] at c10;exact aq (w':=w3) (by simp[go_sem,h0,c10];done) ⟨AR.refl _,rfl⟩):p:=h
theorem Zdr(h:p:=by
 intro i w w' v h hl
 match i with
 | 0 | 1 | 2 | 3 | 4 | 5 | 6 | 7 | 8 | 9 | 10=>exact h
 | n+11=>exact h):p:=h
theorem Zds(h:p:=by simp only[Uaa] at y0 y1 c2 y3 y4 y5 y6 x7;exact aq (w':=w3) (by simp[go_sem,h0,y0,y1,c2,y3,y4,y5,y6,x7];done) ⟨ai.refl _,rfl⟩):p:=h
theorem Zdt(h:p:=by
 obtain⟨b,off,rfl,kF,hex,hz⟩:=(HA.ae.below hb).at_ (show k <(args.map (·.1)).length by simpa using hlt);have jn:(args.map (·.1))[k]' Tao=args[k].1:=by simp
 rw[jn] at hex hz;clear jn;have fZ:=HE.ae args[k] (getElem_mem hlt);have hS:=Bw hlt;generalize args[k]=yb at*;exact Kbh):p:=h
theorem Zdu(h:p:=by rintro e w4 ⟨v,rfl,hv,b4⟩;rw[hm] at hv;refine⟨_,rfl,?_⟩;show kH _ _ _ _ _;unfold kH;simp only[gC,Nat.reduceEqDiff,if_true,if_false];exact hG.aqp b4 (by rw[r2];rfl) (hv.down hG.low.size)):p:=h
theorem Zdv(h:p:=by skip;have h0:_=_:=hr.1;have e1:=hc.func 44;refine bj (f:=44) (args:= #[.agg (aD v)]) (w':=w3) TaA ?_;have hgo:=vu v w3;rw[<- Nz.ae] at hgo;refine hgo.mono ?_;exact Zbj):p:=h
theorem Zdw(h:p:=by rw[jZ] at hG;refine aq (v:=aw w.heap.size) (w':=w.alloc (.cells z33 33)) (by simp[go_sem,z33];done) ?_;show kH _ _ _ _ _;unfold kH;simp only[gC,Nat.reduceEqDiff,if_true,if_false];exact hG.ux):p:=h
theorem Zdx(h:p:=by
 subst hrel;obtain⟨tk,pl,bd,hpl,hlt,ame,uq,cg,hg,JL,uX,hp⟩:=HA.ae.did.at_.wk;obtain⟨r',na⟩:=hg _ rfl;injection na with hu hr2;subst hu;have Eh:bd < 0:=by simpa [cj.gT] using cg
 have HP:=aa hp;have c2:=hp.c2;have asY:=HA.ae.blk.lt;have Z0:=BV 3 3 rfl Tad tk;rw[ahm.ae] at Z0;exact Kbi):p:=h
theorem Zdy(h:p:=by intro ρ' w' h' hc';simp[go_sem,h',hc']):p:=h
theorem Zdz(h:p:=by simp only[Uaa] at y0 y1 c2 y3 y4 y5 y6;exact aq (w':=w3) (by simp[go_sem,h0,y0,y1,c2,y3,y4,y5,y6];done) ⟨ai.refl _,rfl⟩):p:=h
theorem ZdA(h:p:=by go_wp2_with fail;refine(mQ _ _).mono ?_;rintro e w1 ⟨rfl,b1⟩;have hR:=(aB.new w 44 #[ag 0,af 0,.string { data:= #[] }]).later b1;have dt:=aG hR;have cJ:=aB.frozen hR;have hB:aj w w1:=((Below.refl _ _).alloc (Nat.le_refl _) _).trans (b1.mono Tad);clear b1 hR;go_wp2_with fail;exact Kbj):p:=h
theorem ZdB(h:p:=by
 obtain rfl:k=8:=by omega
 have hno:mb n=none:=by rw[DN.ae];rfl
 clear DN;rw[HFO.ae] at hno;cases hno):p:=h
theorem ZdC(h:p:=by rw[rounds_succ];go_wp2_with fail;have gN:=aB.new W 5 #[ag k,ag wa];have bN:=ah W (.cells #[ag k,ag wa] 5);refine(qP W.heap.size 0 2 k wa _ Tad (gN.cell 0) (gN.cell 1)).mono ?_;rintro e W2 ⟨rfl,b2⟩;have hW2:=ai.then bN b2;replace hB:=ai.then hB hW2;replace hO:=hO.later hW2;exact Kbk):p:=h
theorem ZdD(h:p:=by go_wp2_with fail;exact bodyPost_ret (v:=.tuple #[.agg (aD r),af 0]) (by simp[results,Tryz.results170,go_sem,dt]) rfl ⟨by rw[HL.ae];rfl,((hB.setCell bJ _).setCell bJ _).setCell bJ _⟩):p:=h
theorem ZdE(h:p:=by
 obtain⟨a,wa,gi,al,nu,d,rfl,_,hd⟩:=TR.shape;have jV:d.oneCell'=true:=by rcases hd with rfl |⟨F,C,rfl⟩<;> rfl
 have hst:=λ(u:Addr) (m:Mode) (w:World)=>run_store Tryz.prog w u d m jV
 unfold cI;have b2:=ai.then Kx (ah W3 (.cells #[af a,ag wa,ag gi,.bool al,.bool nu,d] 100));exact Kbl):p:=h
theorem ZdF(h:p:=by exact aq (w':=w3) (by simp[go_sem,h0,jk];done) ⟨ai.refl _,rfl⟩):p:=h
theorem ZdG(h:p:=by exact aq (w':=w3) (by simp[go_sem,h0,c0];done) ⟨ai.refl _,rfl⟩):p:=h
theorem ZdH(h:p:=by intro ρ w3 hc hL hr;intro hg;have hg:ρ (.tmp 66)=.bool true:=hg;refine⟨λ _=>?_,λ hn=>absurd hg hn⟩;exact Kbm):p:=h
theorem ZdI(h:p:=by intro ρ w3 hc hL hr;intro hg;have hg:ρ (.tmp 82)=.bool true:=hg;refine⟨λ _=>?_,λ hn=>absurd hg hn⟩;exact Kbn):p:=h
theorem ZdJ(h:p:=by have z1:=k1.cell 1;have x2:=k1.cell 2;have x3:=k1.cell 3;have x5:=k1.cell 5;have x7:=k1.cell 7;have x8:=k1.cell 8;have x9:=k1.cell 9;have XJ:=k1.cell 13;have x14:=k1.cell 14;have x16:=k1.cell 16;have Rf:=k1.cell 19;have Rg:=k1.cell 20;have x24:=k1.cell 24;have x27:=k1.cell 27;exact Kbo):p:=h
theorem ZdK(h:p:=by simp only[setIfInBounds_toArray,set_cons_zero,set_cons_succ] at this;exact this):p:=h
theorem ZdL(h:p:=by exact bodyPost_ret (v:=.tuple #[ag 0,af 40]) Taq rfl ⟨congrArg (λ r:Int×Int=>Ending.returned (.tuple #[ag r.1,af r.2])) HQ.ae.symm,hB⟩):p:=h
theorem ZdM(h:p:=by exact bodyPost_ret (v:=.tuple #[ag gi,af 0]) Taq rfl ⟨congrArg (λ r:Int×Int=>Ending.returned (.tuple #[ag r.1,af r.2])) HQ.ae.symm,hB⟩):p:=h
theorem ZdN(h:p:=by
 gi_wp2;go_roundw;case rel=>exact⟨k+1,hlt,by go_num,HJ3.ae,HF3.ae⟩
 case measure=>exact Za1):p:=h
theorem ZdO(h:p:=by
 have hK:=xj (V:=V) (λ d=>a.eval (.tmp d)) l 0 a0 (λ i o d hi hd=>by
  rw[Nat.zero_add]
  have rZ:i < l.length:=by
   rcases Nat.lt_or_ge i l.length with h' | h'
   ·exact h'
   ·rw[getElem?_eq_none h'] at hi;cases hi
  exact I.new i o d hi (hall i rZ) hd) (hf w I.r)
 exact Kbp):p:=h
theorem ZdP(h:p:=by
 rcases h with h |⟨b,off,h1,h2,h3⟩
 ·exact .inl h
 ·exact .inr ⟨b,off,h1,by omega,h3⟩):p:=h
theorem ZdQ(h:p:=by
 rcases(show s=Kx\/f=Kx by omega)with e | e
 ·rw[e];exact yq D Kx f
 ·rw[e];exact uO D s Kx):p:=h
theorem ZdR(h:p:=by refine⟨k+1,hlt,by go_num,?_,hb.trans b4⟩;rw[HT.ae,map_append,NW.ae];exact O4.ae):p:=h
theorem ZdS(h:p:=by exact aq (w':=w3) Tbe ⟨ai.refl _,rfl⟩):p:=h
theorem ZdT(h:p:=by intro i hi hT q hq;subst hT;have hq:a.ownBlock=some q:=hq;refine⟨(ho.lt hq).2.1,(ho.lt hq).1,λ e=>?_⟩;rw[e0] at hq;injection hq with hq;exact hq0 (hq.trans e)):p:=h
theorem ZdU(h:p:=by
 obtain⟨l,rfl⟩:∃l,σ=.good l:=by
  match σ,Ls.ae with
  | .good l,_=>exact⟨l,rfl⟩
  | .bad m,cg=>simp[cj.gT] at cg;omega
 obtain⟨r,rfl⟩:=HG.ae l rfl;have e1:(pl:Int)+1=(ρ.n:Int) - r.length:=by rw[Pj.ae];simp only[cj.left,length_cons] at*;omega
 exact Kbq):p:=h
theorem ZdV(h:p:=by unfold fg at q0;simp at q0 q1;obtain⟨rfl,rfl,rfl,rfl,rfl,rfl,rfl⟩:=q0;subst q1;refine⟨(p,s),rfl,hp.more ?_⟩;simp only[Rows.uptoBulk,Rows.uptoBulkAll];omega):p:=h
theorem ZdW(h:p:=by rintro e4 w4 ⟨v4,rfl,ho4,b4⟩;refine⟨_,rfl,b4,_,rfl,?_⟩;have ho5:=ho4.down hL.size;rw[<- Bz.ae] at ho5;show aI bH _ 7 w4 B0 v4 E;rw[pX.ae];simpa using ho5):p:=h
theorem ZdX(h:p:=by
 go_round;case rel=>exact⟨k+1,by omega,Ah,by go_num,mL.ae⟩
 case measure=>exact Za1):p:=h
theorem ZdY(h:p:=by have eL:=aa hb1;have CF:=aa (sT.ae.later hb1);have kG:=Gi.ae.later hb1;have Lw:=tD.ae.later hb1;have hxo:=kG.cell 0;simp only[Uaa] at hxo;have CG:z.op=t.op:=(at_root CE.ae).1;have py:=xw z.op;exact Kbr):p:=h
theorem ZdZ(h:p:=by intro ρ w3 hc hL hr;exact Zak):p:=h
theorem Zd0(h:p:=by clear hWX;have x0:=hR.cell 0;have x1:=hR.cell 1;have z2:=hR.cell 2;have z3:=hR.cell 3;have z4:=hR.cell 4;have z5:=hR.cell 5;have z6:=hR.cell 6;simp only[Uaa] at x0 x1 z2 z3 z4 z5 z6;exact Kbs):p:=h
theorem Zd1(h:p:=by
 unfold dS at h;split at h
 ·cases h
 split at h
 ·cases h
 split at h
 ·cases h
 split at h
 ·cases h
 split at h
 ·cases h
 split at h
 ·cases h
 rename_i h1;split at h
 ·cases h
 rename_i h2;split at h
 ·cases h
 rename_i h3;injection h with h;rw[<- h];exact Kbt):p:=h
theorem Zd2(h:p:=by intro ρ w3 hc hL hr;have h0:_=_:=hr.1;exact aq (v:=.pointer (some ⟨gp,10,none⟩)) (w':=w3) Taj ⟨AR.refl _,rfl⟩):p:=h
theorem Zd3(h:p:=by intro ρ w3 hc hL hr;have h0:_=_:=hr.1;have c0:=(HEW.ae.later hL).c13;exact ZbR):p:=h
theorem Zd4(h:p:=by intro ρ w3 hc hL hr;have h0:_=_:=hr.1;exact aq (v:=.pointer (some ⟨gp,9,none⟩)) (w':=w3) Taj ⟨AR.refl _,rfl⟩):p:=h
theorem Zd5(h:p:=by
 clear HL HX;go_wp2_with fail;go_roundw;case rel=>exact⟨m+1,j,by omega,by omega,by omega,by go_num,rfl,H3.ae,Ey.ae,HH.ae⟩
 case measure=>exact Za1):p:=h
theorem Zd6(h:p:=by
 go_wp2
 all_goals
  go_ret;refine⟨?_,rfl⟩;first | rfl |(refine mf ?_;rw[Bool.eq_iff_iff];simp;omega)|(refine mf ?_;rw[Bool.eq_iff_iff];simp;done)):p:=h
theorem Zd7(h:p:=by go_upto_region 5 with fail;have k1:=aB.new wr 46 (ay y);have Mn:=ah wr (.cells (ay y) 46);have Nw:=aa ((Mn.cell (p:=⟨gp,8,none⟩) (Nat.lt_of_lt_of_le BC.ae hb.size)).trans ((hb.cell (p:=⟨gp,8,none⟩) BC.ae).trans YX.ae));have Qi:=aa (Nat.lt_of_lt_of_le (Nat.lt_of_lt_of_le BC.ae hb.size) Mn.size);have xa:=aa (λ W2 (h:ai (wr.alloc (.cells (ay y) 46)) W2)=>fZ W2 (ai.then hB (ai.then hb (ai.then Mn h))));obtain⟨gy,YY⟩:∃gy,gy=wr.heap.size:=⟨_,rfl⟩;rw[<- YY] at k1 ⊢;clear fZ hex YY;exact Kbu):p:=h
theorem Zd8(h:p:=by have dt:=aG cJ;have gV:=aB.frozen cJ;go_wp2_with fail;exact bodyPost_ret (v:=.tuple #[.agg #[ag 0,af 0,.string ByteArray.empty],af 41]) Tah rfl ⟨by rw[HQ.ae];rfl,((hB.setCell bJ _).setCell bJ _).setCell bJ _⟩):p:=h
theorem Zd9(h:p:=by
 have rz:=aa mB;have HL0:=aa hc;have Y8:=aa hdg;have HLEN:=aa (show s.data.toList.length=s.size by simp);clear mB hd hc hdg hq;go_enter Tryz.func132,Tryz.ntmps132;go_wp2_with (first
  |(go_at_call 174;refine(ei s[at_] _).mono ?_;rintro e w' ⟨rfl,rfl⟩;rw[HL0.ae])
  |(go_at_call 175;refine(eK s[at_] _).mono ?_;rintro e w' ⟨rfl,rfl⟩;rw[Y8.ae]))
 exact Kbv):p:=h
theorem Zea(h:p:=by
 simp only[List.append,Uab];repeat (go_big_quiet_step (fail))
 exact Kbw):p:=h
theorem Zeb(h:p:=by have x6:=HX.cell 6;simp only[Uaa] at x6;go_wp2_with fail;exact Kbx):p:=h
theorem Zec(h:p:=by intro ρ w σ hc hG q5 he hno;refine⟨rfl,?_⟩;unfold kH at hG;rw[if_neg Tab];have r0:ρ (.tmp 1)=.slice CA cols.length cc:=q5.1;show(execOp ρ _).run Tryz.prog w=.ok (.value (.slice CA cols.length cc)) w;simp[go_sem,r0]):p:=h
theorem Zed(h:p:=by intro ρ w σ hc hG q5 he hno;refine⟨rfl,?_⟩;unfold kH at hG;rw[if_neg Tab];have r0:ρ (.tmp 2)=.slice RA rows.length rc:=q5.1;show(execOp ρ _).run Tryz.prog w=.ok (.value (.slice RA rows.length rc)) w;simp[go_sem,r0]):p:=h
theorem Zee(h:p:=by rintro e w1 ⟨rfl,b1⟩;go_wp2_with fail;go_ret;exact⟨rfl,ai.then HB.ae b1⟩):p:=h
theorem Zef(h:p:=by simp[results,Tryz.results184,go_sem,r0,r1,r2,r3,r4,r5,r6];rfl):p:=h
theorem Zeg(h:p:=by exact⟨b,off,h1,h2,h3 k _ (getElem?_eq_getElem hlt)⟩):p:=h
theorem Zeh(h:p:=by intro ρ w h;simp[go_sem,h]):p:=h
theorem Zei(h:p:=by go_wp2_with fail;exact bodyPost_ret (v:=.tuple #[.agg (aD xv),af 0]) Tah rfl ⟨by rw[HQ.ae];rfl,((hB.setCell bJ _).setCell bJ _).setCell bJ _⟩):p:=h
theorem Zej(h:p:=by
 clear Hm;refine wp_seq_k λ K1 hK1=>?_
 have nD:=aa hK1;clear hK1;go_wp2_with fail;refine nD.ae _ _ ?_;clear nD;refine wp_seq_k λ HO hK2=>?_
 have II:=aa hK2;clear hK2;exact Kby):p:=h
theorem Zek(h:p:=by
 go_wp2_with fail;refine(vC ⟨2,Kx,name,width,A,0,c⟩ _).mono ?_;rintro e w1 ⟨oo,rfl,TR,b1⟩
 obtain rfl:oo=oG:=by
  rcases TR with ⟨h,_⟩|⟨_,h⟩
  ·exact absurd h (by simp[kJ])
  ·exact h
 have Hn:bQ ⟨2,Kx,name,width,A,0,c⟩=0:=by unfold bQ;rw[if_pos Tad]
 rw[Hn];exact Kbz):p:=h
theorem Zel(h:p:=by go_wp2_with (go_at_call 175;refine(eK s[k] _).mono ?_;rintro e w' ⟨rfl,rfl⟩;rw[HD.ae]);refine HN.ae.mono ?_;unfold jQ;rw[HE.ae,pU.ae];rintro e w1 ⟨he,rfl⟩;exact KbA):p:=h
theorem Zem(h:p:=by exact aq (v:=aH w3.heap.size 1 1) (w':=w3.alloc (.cells #[aH g0 1 1] 38)) Tar ⟨ah w3 _,⟨w3.heap.size,g0,rfl,aB.new w3 _ _,fN.later (ah _ _)⟩⟩):p:=h
theorem Zen(h:p:=by intro ρ w y v' w' h1 h2 hr;simp only[execOp,resolve,invoke,builtin,Sem.run_bind,Sem.run_pure,Result.andThen_ok,map_toArray,map_cons,map_nil,h1,h2,hr]):p:=h
theorem Zeo(h:p:=by
 have hj:j < K:=by
  rcases Nat.lt_or_ge j K with h' | h'
  ·exact h'
  ·rw[getElem?_eq_none (by rw[hf];exact h')] at hu;cases hu
 rw[(hp i x hx).2 j hj];exact hu):p:=h
theorem Zep(h:p:=by go_wp2_with fail;refine(oq _ (XI.ae.env.later oB.ae)).mono ?_;rintro e w1 ⟨rfl,b1⟩;go_wp2_with fail;go_ret;exact⟨rfl,Below.trans oB.ae (b1.mono oB.ae.size)⟩):p:=h
theorem Zeq(h:p:=by go_wp2_with fail;go_region;clear c0 c1 c2 d0 d1 d2 d3 y0 y1 y2 z0 z1 z2 z3 x0 v0 v1 v2 v3;obtain⟨u0,u1,u2,u3,_⟩:=bP HT;clear HT;unfold dC at u0 u1 u2 u3 hb x1 x2 nU HF HWR HB HD;generalize (w.alloc _).drew=W at*;have hwr:=HWR.ae;clear HWR;rw[Ph] at hwr;exact KbB):p:=h
theorem Zer(h:p:=by go_wp2_with fail;have hS:=aB.alloc h (.cells #[ag 0,af 0,.string { data:= #[] }] 44);have Kx:=aB.new w 44 #[ag 0,af 0,.string { data:= #[] }];have hB:aj w (w.alloc (.cells #[ag 0,af 0,.string { data:= #[] }] 44)):=(Below.refl _ _).alloc (Nat.le_refl _) _;exact KbC):p:=h
theorem Zes(h:p:=by
 cases hg1:bZ k wa
 ·go_wp2_with fail;go_ret;exact⟨by rw[hg1];rfl,hB⟩
 have x1:=hO.cell 1;have x3:=hO.cell 3;simp only[Uaa] at x1 x3;have c0:=(hB.cell (p:=⟨p,off,none⟩) hp).trans h0;exact KbD):p:=h
theorem Zet(h:p:=by go_wp2_with fail;refine(fX w0 g n cap s Kx f D _ H2.ae hn WC WC WC).mono ?_;rintro e_ w5 ⟨rfl,h5⟩;have H3:=aa h5;clear h5 H2;exact KbE):p:=h
theorem Zeu(h:p:=by have Jh:=SV.ae;have z0:=Jh.cell 0;have z1:=Jh.cell 1;have x2:=Jh.cell 2;have x3:=Jh.cell 3;have x4:=Jh.cell 4;have x5:=Jh.cell 5;have x6:=Jh.cell 6;simp only[Uaa] at z0 z1 x2 x3 x4 x5 x6;exact KbF):p:=h
theorem Zev(h:p:=by have e1:=hc.func 27;have e2:=hc.const (af 0);refine bj (f:=27) (args:= #[af 0]) (w':=w3) TaB ?_;refine(fC 0 w3).mono ?_;exact Zbj):p:=h
theorem Zew(h:p:=by have v0:=HV.cell 0;have v1:=HV.cell 1;have v2:=HV.cell 2;simp only[Uaa] at v0 v1 v2;exact KbG):p:=h
theorem Zex(h:p:=by clear iB;have k1:=aB.new wr 46 (ay y);have Mn:=ah wr (.cells (ay y) 46);generalize wr.alloc (.cells (ay y) 46)=W2 at*;have tU:=aa (jI.ae.later Mn);generalize wr.heap.size=g12 at*;exact KbH):p:=h
theorem Zey(h:p:=by
 have hb2:=ai.then hb1 bN;replace HP:=aa (HP.ae.later hb2);replace hb:=ai.then hb hb2;have AX:((args.take k).map (·.2)).length<=1599289640356:=by simp;omega
 exact KbI):p:=h
theorem Zez(h:p:=by have y1:=HO.ae.cell 1;have c2:=HO.ae.cell 2;have y3:=HO.ae.cell 3;have y4:=HO.ae.cell 4;have y5:=HO.ae.cell 5;have y6:=HO.ae.cell 6;have x7:=HO.ae.cell 7;exact KbJ):p:=h
theorem ZeA(h:p:=by have HF:=aa hF;have IH:=aa ih;have Q1:=aa q1;have HFN:=aa q2;have Q3:=aa q3;have Q4:=aa q4;have Q5:=aa q5;exact KbK):p:=h
theorem ZeB(h:p:=by intro ρ' w' hc' h';simp[go_sem,h',hc'.const,hc'.func]):p:=h
theorem ZeC(h:p:=by have t1:decide ((200:Int)<(L.i.n:Int))=false:=decide_eq_false WC;have t2:decide ((200:Int)<(L.o.n:Int))=false:=decide_eq_false WC;exact KbL):p:=h
theorem ZeD(h:p:=by obtain⟨u,v,rfl⟩:=two WC;exact⟨_,#[_],rfl,.inr ⟨_,rfl⟩,Kq,λ W A c hb hr=>Ke x A c q _ [u,v] W hr Tad (hq.later hb)⟩):p:=h
theorem ZeE(h:p:=by
 have hb2:b < W.heap.size:=Nat.lt_of_lt_of_le hb hB.size;have cV:=λ y:Ext W.heap.size W=>hv.keep (w':=y.w) λ o=>y.cell (p:=⟨b,o,none⟩) hb2
 exact KbM):p:=h
theorem ZeF(h:p:=by obtain⟨q,h1,f0,f1⟩:=h;exact⟨q,h1,f0.grown hl.grown (Ne.symm f1),f1⟩):p:=h
theorem ZeG(h:p:=by
 clear HH HX;go_wp2_with fail;go_roundw;case rel=>exact⟨i,m,by omega,by omega,by omega,rfl,rfl,H3.ae,HL.ae,HH2.ae⟩
 case measure=>exact Za1):p:=h
theorem ZeH(h:p:=by have y0:=Mh.cell 0;have y1:=Mh.cell 1;have c2:=Mh.cell 2;have y3:=Mh.cell 3;have y4:=Mh.cell 4;have y5:=Mh.cell 5;have y6:=Mh.cell 6;simp only[Uaa] at y0 y1 c2 y3 y4 y5 y6;exact KbN):p:=h
theorem ZeI(h:p:=by obtain⟨c0,c1,c2,d0,d1,d2,d3⟩:=hp;obtain⟨y0,y1,y2,z0,z1,z2,z3⟩:=DM;obtain⟨x0,x1,x2,v0,v1,v2,v3⟩:=Lr;unfold qf at y0 y1 y2 z0 z1 z2 z3;exact KbO):p:=h
theorem ZeJ(h:p:=by
 simp only[take_succ_cons,take_zero];refine⟨Zaa,Zaa,Zbp,Zaa,?_,trivial⟩
 ·exact Zaa):p:=h
theorem ZeK(h:p:=by exact⟨r1,r2.trans hall,by rw[r3,hc];simp[cnt,one,o],by rw[r4,hs];simp[Bq,Nq,o],sy (s:= { s with all:=s.all+1 }) hb (by simp[key,o,hk])⟩):p:=h
theorem ZeL(h:p:=by exact⟨λ e h=>by injection h with h;rw[<- h];exact h2,λ _ _ _ h=> Tae,λ _ _ _ h=> Tae,λ _ _ _ h=> Tae⟩):p:=h
theorem ZeM(h:p:=by
 repeat' split
 all_goals first
  | rfl
  |(exfalso;omega)
  |(subst_vars;rfl)):p:=h
theorem ZeN(h:p:=by go_wp2_with fail;go_ret;exact⟨rfl,hb⟩):p:=h
theorem ZeO(h:p:=by subst GC;go_wp2_with fail;exact bodyPost_ret (v:=.tuple #[]) TaI rfl ⟨rfl,_,H2.ae,HW.ae,HF.ae⟩):p:=h
theorem ZeP(h:p:=by intro ρ w3 hc hL hr;have h1:_=_:=hr.1;have c0:=aG (HV.grown hL.grown NU);exact aq (w':=w3) Tbe ⟨AR.refl _,rfl⟩):p:=h
theorem ZeQ(h:p:=by refine⟨rfl,?_⟩;unfold qF at hG;rw[if_neg Tab];show(execOp ρ _).run Tryz.prog X8=.ok (.value (bh gp 13)) X8;simp[go_sem,r0]):p:=h
theorem ZeR(h:p:=by obtain⟨y,o,hy,AP,hstep⟩:=Ca (x:=n.data.toList) hlt;have HST:=aa hstep;have Lz:=aa AP;have c2:=sL (pU.ae.later jI.ae) hy;clear hy hstep AP;exact KbP):p:=h
theorem ZeS(h:p:=by clear NT;go_enter Tryz.func74,Tryz.ntmps74;go_wp2_with fail;refine wp_loop_rounds 3 ?_;rw[rounds_succ];go_wp2_with fail;refine aM 10 w.heap.size w (Below.refl _ _) Taa Taa Taa Taa ?_;exact KbQ):p:=h
theorem ZeT(h:p:=by have z0:=Mg.ae.cell 0;have z1:=Mg.ae.cell 1;have x2:=Mg.ae.cell 2;have f0:=Mg.ae.frozen 0;have f1:=Mg.ae.frozen 1;have f2:=Mg.ae.frozen 2;simp only[Uaa] at z0 z1 x2;exact KbR):p:=h
theorem ZeU(h:p:=by go_wp2_with fail;exact bodyPost_ret (v:=.tuple #[ag 2,af 0]) Tap rfl ⟨rfl,ai.then fE.ae b3⟩):p:=h
theorem ZeV(h:p:=by obtain⟨f,rfl⟩:=yt T hT;have h3:f 3=_:=h3;have h6:f 6=_:=h6;have h8:f 8=_:=h8;have h9:f 9=_:=h9;have h10:f 10=_:=h10;have h11:f 11=_:=h11;simp only[XG,h3,h6,h8,h9,h10,h11];clear h3 h6 h8 h9 h10 h11;clear h3 h6 h8 h9 h10 h11 hT;exact KbS):p:=h
theorem ZeW(h:p:=by obtain⟨g,h1,f0⟩:=h;exact⟨g,h1,f0.later hl⟩):p:=h
theorem ZeX(h:p:=by intro W3 hL;simp only[Uab];rintro a0 - a1 - a2 - a3 - _ rfl a5 - a6 - _ rfl;simp only[bE,Act.put,Uac];exact KbT):p:=h
theorem ZeY(h:p:=by
 intro r hr;rcases List.mem_append.1 hr with hr | hr
 ·exact M4.ae r hr
 ·rw[mem_singleton] at hr;rw[hr];exact V4.ae.down HWO.ae):p:=h
theorem ZeZ(h:p:=by
 refine bodyPost_ret (v:=.tuple #[.agg #[ag 0,au,af 0,af 0],af 0,af 2]) ZbI rfl ?_
 ·rw[Y8.ae,mL.ae,if_neg h32];exact Zb2):p:=h
theorem Ze0(h:p:=by
 intro j u hu;have:(Addr.add ⟨g,0,none⟩ j)=⟨g,j,none⟩:=by unfold Addr.add;split <;> simp_all
 rw[this,hg.cell];simpa using hu):p:=h
theorem Ze1(h:p:=by
 go_wp2_with fail;go_roundw;case rel=>exact⟨i+1,E,by omega,.inl WC,by go_num,H3.ae,HW.ae,SO.ae⟩
 case measure=>exact Za1):p:=h
theorem Ze2(h:p:=by go_enter Tryz.func193,Tryz.ntmps193;go_wp2_with (go_at_call 206;refine(HD.ae _).mono ?_;rintro e w1 ⟨rfl,hL⟩);go_ret;exact Zc0):p:=h
theorem Ze3(h:p:=by skip;intro hg;have hg:ρ (.tmp 26)=.bool true:=hg;refine⟨λ _=>?_,λ hn=>absurd hg hn⟩;have h0:_=_:=hr.1;exact KbU):p:=h
theorem Ze4(h:p:=by rw[h] at hlt;exact absurd hlt Tad):p:=h
theorem Ze5(h:p:=by simpa using this):p:=h
theorem Ze6(h:p:=by simp[Array.getD_eq_getD_getElem?,Array.getElem?_setIfInBounds,hT,e2]):p:=h
theorem Ze7(h:p:=by clear DL;go_wp2_with fail;refine DZ.ae.mono ?_;rintro e w5 ⟨rfl,b5⟩;generalize hr:Hk op.toNat width [v1,v2]=r at*;exact Zah):p:=h
theorem Ze8(h:p:=by obtain⟨u,rfl⟩:=one WC;exact⟨_,#[_],rfl,.inr ⟨_,rfl⟩,Kr,λ W A c hb hr=>Kc x A c q _ u W hr (hq.later hb)⟩):p:=h
theorem Ze9(h:p:=by
 split at h
 ·injection h with h;injection h with h1 h2;subst h1;exact⟨⟨by simp,by simp⟩,λ e=>by simp at e⟩
 ·cases h):p:=h
theorem Zfa(h:p:=by go_enter Tryz.func36,Tryz.ntmps36;go_wp2_with fail;go_ret;exact⟨by rw[T1.ae];rfl,by rw[HP.ae];exact H.ae.aT 0 _,aC hg 0 _⟩):p:=h
theorem Zfb(h:p:=by
 have hK:(jt W g4 g5 gp).heap[D]?=some (.deferred (some [])):=by unfold jt;rw[Below.heap_setCell _ ⟨g5,0,none⟩ _ D (Ne.symm hf.new.2.2.2.2),Below.heap_setCell _ ⟨g4,0,none⟩ _ D (Ne.symm hf.new.2.2.2.1)];exact hf.dd
 exact KbV):p:=h
theorem Zfc(h:p:=by intro ρ w3 hc hL hr;have h0:_=_:=hr.1;exact aq (v:=bh gp 10) (w':=w3) Taj ⟨AR.refl _,rfl⟩):p:=h
theorem Zfd(h:p:=by clear DL;go_wp2_with fail;refine DZ.ae.mono ?_;rintro e w5 ⟨rfl,b5⟩;generalize hr:Hk op.toNat width [v1]=r at*;exact Zah):p:=h
theorem Zfe(h:p:=by subst hr2;have HG:=aa hg;clear hg hv hr;go_enter Tryz.func58,Tryz.ntmps58;go_wp2_with fail;refine(HG.ae _).mono ?_;exact ZcX):p:=h
theorem Zff(h:p:=by
 skip;cases ne
 ·skip;exact Zak
 ·skip;exact Zak):p:=h
theorem Zfg(h:p:=by simp only[getElem?_map,getElem?_eq_getElem hlt,Option.map_some] at h1;injection h1 with h1;rw[h1];simpa using h2):p:=h
theorem Zfh(h:p:=by go_wp2_with fail;refine(oJ.ae _ hb).mono ?_;rintro e w1 ⟨rfl,b1⟩;have hb1:=ai.then hb b1;clear hex hz b1 hb;exact Zao):p:=h
theorem Zfi(h:p:=by exact⟨0,Nat.zero_le _,rfl,λ j hj=>by omega,Below.refl _ _⟩):p:=h
theorem Zfj(h:p:=by
 have HWA:=aa hwa;have Ai:=aa xp;have HGI:=aa Y7
 have agt:args.length=1/\al=false\/args.length=2:=by
  rw[xp];unfold qN at ny;split at ny
  ·left;refine⟨by omega,?_⟩;simp[tZ];omega
  ·right;omega
 have H1:=aa h1;exact KbW):p:=h
theorem Zfk(h:p:=by
 have jn:(args.map (·.1)++bad::post)[k]' Tac=bad:=by rw[getElem_append_right Tac];simp[fH]
 rw[jn] at hex;exact KbX):p:=h
theorem Zfl(h:p:=by
 rw[d1];go_enter Tryz.func76,Tryz.ntmps76;go_wp2
 all_goals
  go_ret;refine⟨?_,by first | rfl | go_grown⟩;simp_all):p:=h
theorem Zfm(h:p:=by rwa [show zs.length=fuel+1 by omega] at this):p:=h
theorem Zfn(h:p:=by go_end0;rw[HT.ae];exact⟨rfl,HS.ae,HG.ae⟩):p:=h
theorem Zfo(h:p:=by
 clear fM y2;go_wp2_with fail;go_roundw;case rel=>exact⟨i+1,vo,by go_num,ai.then cJ hL⟩
 case measure=>exact Za1):p:=h
theorem Zfp(h:p:=by
 have hv':=hv.keep (w':=(w.alloc (.cells (ay x) 46)).alloc (.cells #[ag 0,af 0,au] 44)) λ o=>(ai.then (ah w (.cells (ay x) 46)) (ah _ (.cells #[ag 0,af 0,au] 44))).cell (p:=⟨b,o,none⟩) hb
 unfold eh at hv';exact KbY):p:=h
theorem Zfq(h:p:=by skip;intro hg;have hg:ρ (.tmp 22)=.bool false:=hg;exact Zaj):p:=h
theorem Zfr(h:p:=by rename_i hk;exact⟨rfl,hall,by rw[hc];simp[cnt,one,o,hk],by rw[hs];simp[Bq,Nq,o,hk],fj hb TaN⟩):p:=h
theorem Zfs(h:p:=by
 have EB:s=i:=by omega
 have EC:s=j:=by omega
 subst EB EC;clear hlt hi hj py Ez HF;have u0_:decide (s < Kx)=true:=decide_eq_true k0;exact KbZ):p:=h
theorem Zft(h:p:=by intro i hi j hj hT hU nP;exact absurd (hT.trans hU.symm) nP):p:=h
theorem Zfu(h:p:=by
 split at h
 ·cases h
 ·injection h with h;exact .inr h.symm):p:=h
theorem Zfv(h:p:=by
 obtain⟨m,rfl⟩:∃m,σ=.bad m:=by
  match σ,Ls.ae with
  | .good l,cg=>simp[cj.gT] at cg;omega
  | .bad m,_=>exact⟨m,rfl⟩
 go_wp2_with (go_at_call 88;refine hwr.mono ?_;rintro e w1 ⟨rfl,d1⟩);go_ret;exact Kb0):p:=h
theorem Zfw(h:p:=by have Sz:=aa iR;have wA:=aa iR.p;have H1:=aa iR.wt;have H2:=aa iR.wf;have H3:=aa iR.wn;have H4:=aa iR.wo;exact Kb1):p:=h
theorem Zfx(h:p:=by have HXn:=aa (d13.blk HX.ae WC);have HQn:=aa (d13.blk uv.ae WC);have HDn:=aa (px.ae.trans d13);have asU:=d13.size;clear HX uv px d13;have HX:=HXn;have uv:=HQn;have px:=HDn;clear HXn HQn HDn;exact Kb2):p:=h
theorem Zfy(h:p:=by exact⟨rfl,rfl⟩):p:=h
theorem Zfz(h:p:=by exact iU (.inl rfl) h1 ⟨ai.refl _,rfl⟩):p:=h
theorem ZfA(h:p:=by
 have Hd:l[k]?=some o:=by have:=congrArg (λ x=>x[0]?) hk;simpa using this
 have aku:k < l.length:=by
  rcases Nat.lt_or_ge k l.length with h' | h'
  ·exact h'
  ·rw[getElem?_eq_none h'] at Hd;cases Hd
 exact Kb3):p:=h
theorem ZfB(h:p:=by go_wp2_with fail;rw[rounds_succ];exact Zc7):p:=h
theorem ZfC(h:p:=by go_wp2;exact Zbv):p:=h
theorem ZfD(h:p:=by rename_i hk;exact⟨rfl,hall,by rw[hc];simp[cnt,one,o],by rw[hs];simp[Bq,Nq,o],fj hb (by simp[key,o,hk])⟩):p:=h
theorem ZfE(h:p:=by have cb:=cJ.cell 0;simp only[getElem?_toArray,getElem?_cons_zero] at cb;rw[Nat.zero_add,cb,IH.ae]):p:=h
theorem ZfF(h:p:=by intro W3 hL;simp only[Uab];rintro _ rfl _ rfl _ rfl _ rfl a4 q4 a5 q5 a6 q6 a7 q7 a8 q8 a9 q9 FA Us;replace q4:cV=a4:=Eq.symm q4;subst q4;exact Kb4):p:=h
theorem ZfG(h:p:=by have hl:=Ak _ _ _ _ hgm s.op false i _ hi;exact aq (w':=w3) Ta8 ⟨ai.refl _,rfl⟩):p:=h
theorem ZfH(h:p:=by
 split at h
 ·cases h
 ·injection h with h;injection h with h1 h;injection h with h2 h3;rw[<- h3];exact hs):p:=h
theorem ZfI(h:p:=by intro ρ w3 hc hL hr;have h0:_=_:=hr.1;have c0:=(hL.cell (p:=⟨lb,j,none⟩) Wt.ae).trans tL.ae;exact ZdG):p:=h
theorem ZfJ(h:p:=by intro ρ w vs hc hG hr;rw[t1] at hr;have r0:=hr.1;simp only[m2] at r0;exact⟨g1,Z9 ρ w r0 (BZ _ _ hG)⟩):p:=h
theorem ZfK(h:p:=by simp only[Co,Uaa] at y0 y1 c2;exact Zdo):p:=h
theorem ZfL(h:p:=by refine(cq ρ _ _ false Kx.ae ⟨#[116,114,117,101]⟩ (show(cj.good (tk.w::r)).head (⟨#[116,114,117,101]⟩:ByteArray).data.toList=false from H1.ae)).mono ?_;rintro e w1 ⟨rfl,d1⟩;go_wp2_with fail;exact Kb5):p:=h
theorem ZfM(h:p:=by go_wp2_with fail;exact HK.ae _ _ (HO.ae HN.ae _ _ _ _ _ _ _ _ _ _ _ _ _ _ _ _ _ _ _ _ _ _ _ _ _ _ _ _ _)):p:=h
theorem ZfN(h:p:=by
 rcases Nat.lt_or_ge g w.heap.size with h' | h'
 ·exact h'
 ·rw[Array.getElem?_eq_none h'] at h2;cases h2):p:=h
theorem ZfO(h:p:=by
 rcases h4 with h4 | h4
 ·exact .inl h4
 ·exact .inr λ q hq=>by rw[h4] at hq;injection hq with hq;omega):p:=h
theorem ZfP(h:p:=by
 rcases(show s=a\/s=mid by omega)with e | e
 ·have:=HFN.ae;rwa [e] at this
 ·have:=Q1.ae;rwa [e] at this):p:=h
theorem ZfQ(h:p:=by obtain⟨q,h1,f0,f1⟩:=h;exact⟨q,h1,hl.new _ f0,f1⟩):p:=h
theorem ZfR(h:p:=by rw[h4];simp only[h3,getElem_map,getElem_range]):p:=h
theorem ZfS(h:p:=by intro ρ' w' s' v' ZP xm DY na;exact ZaZ):p:=h
theorem ZfT(h:p:=by subst hx hcs;obtain⟨hbytes,Od⟩:=yG hT hw;rw[length_map,length_map,hlen] at hbytes;have hb2:len*Tryz.prog.bytesOf e<=reachBytes:=Nat.le_trans (Nat.mul_le_mul_right _ WC) hbytes;exact Kb6):p:=h
theorem ZfU(h:p:=by intro ρ' w' y' h';show _=Result.ok _ (w'.alloc (.cells (SF y').toArray _));simp[go_sem,h',itV,SF,bH]):p:=h
theorem ZfV(h:p:=by simp only[bE,Act.put,Uac];have LY:=aa (Below.trans rK.ae (hL.mono rK.ae.size));have Mg:=aa (zW.ae.later hL);have DR:=aa (J3.ae.later hL);exact Kb7):p:=h
theorem ZfW(h:p:=by intro ρ w3 hc hL hr;have h0:_=_:=hr.1;have h1:_=_:=hr.2.1;have hs:=sS XA xn xc gn xN.ae w3;exact ZcQ):p:=h
theorem ZfX(h:p:=by obtain⟨x0,x1,x2,x3,x4,x5,x6,x7⟩:=dw HS.ae.blk;obtain⟨z0,z1,z2,z3,z4,z5,z6,z7⟩:=lB HS.ae.res;obtain⟨y0,y1,y2,y3,y4,y5,y6,y7⟩:=dw HS.ae.res;unfold nL at x0 x3 x4 x5 x6 x7;go_wp2_with fail;exact Kb8):p:=h
theorem ZfY(h:p:=by
 rcases Nat.lt_or_ge k l.length with h' | h'
 ·exact h'
 ·rw[getElem?_eq_none h'] at ho;cases ho):p:=h
theorem ZfZ(h:p:=by rw[drop_eq_getElem_cons hlt];rw[getElem?_eq_getElem hlt] at h1;injection h1 with h1;rw[h1]):p:=h
theorem Zf0(h:p:=by exact⟨rfl,rfl,rfl,rfl,rfl,[],.inl rfl,Tr.all_nil⟩):p:=h
theorem Zf1(h:p:=by
 skip;cases nz
 ·skip;cases ne
  ·exact Zbr
  ·exact Zbr
 ·skip;cases ne
  ·exact Zbr
  ·exact Zbr):p:=h
theorem Zf2(h:p:=by rw[uY.ae];exact⟨⟨0,⟨0,0,⟨#[]⟩⟩,⟨#[]⟩,0,none,0,0⟩,_,_,rfl,wI.ae.own kK mF.ae⟩):p:=h
theorem Zf3(h:p:=by
 go_roundw;case rel=>exact⟨k+1,Y0,by go_num,by rw[oZ.ae];exact O4.ae⟩
 case measure=>exact Za1):p:=h
theorem Zf4(h:p:=by rintro e w1 ⟨rfl,hs1,hg1⟩;go_wp2_with fail;go_end0;rw[HT.ae];exact⟨rfl,hs1,aY HG.ae hg1⟩):p:=h
theorem Zf5(h:p:=by obtain⟨a,ha⟩:=Option.isSome_iff_exists.1 ha;rw[ha] at hG;obtain⟨k1,k2,k3,zg,k5⟩:=hG;obtain⟨q,c,e1,e2⟩:=zg.row;exact Kb9):p:=h
theorem Zf6(h:p:=by refine(xa.ae w3 hL).mono ?_;exact Zbj):p:=h
theorem Zf7(h:p:=by
 skip;cases nz
 ·exact ZbC
 ·exact ZbC):p:=h
theorem Zf8(h:p:=by exact aq (v:=.tuple #[VI,VJ]) (w':=w3) Tar ⟨ai.refl _,_,_,rfl,cJ⟩):p:=h
theorem Zf9(h:p:=by
 repeat' split
 all_goals first
  | rfl
  |(exfalso;omega)
  |(subst_vars;rfl)
  |(congr 1;omega)):p:=h
theorem Zga(h:p:=by obtain⟨x,h1,f0⟩:=h;exact⟨x,h1,f0.later hl⟩):p:=h
theorem Zgb(h:p:=by rw[hr] at hrun;injection hrun with _ hw;rw[<- hw];exact(ai.drew w).alloc (Nat.le_refl _) _):p:=h
theorem Zgc(h:p:=by
 funext k;unfold ba;repeat' split
 all_goals first
  | rfl
  |(exfalso;omega)
  |(congr 1;omega)):p:=h
theorem Zgd(h:p:=by show kH _ _ _ _ _;unfold kH;simp only[gC,Nat.reduceEqDiff,if_true,if_false];exact hG.aqq r0):p:=h
theorem Zge(h:p:=by intro ρ w3 hc hL hr;exact aq (w':=w3) (by simp[go_sem,hc.const];done) ⟨ai.refl _,rfl⟩):p:=h
theorem Zgf(h:p:=by exact⟨0,Nat.zero_le _,rfl,rfl,Below.refl _ _⟩):p:=h
theorem Zgg(h:p:=by exact⟨0,Nat.zero_le _,rfl,Below.refl _ _,rfl⟩):p:=h
theorem Zgh(h:p:=by simp only[Uaa] at c4 c8 c10;have CE:=aa hat;have gh:=aa aZ;have kz:=aa fU;have pG:=aa nX;clear b0 b2 bb nX hat aZ fU gX;exact Kca):p:=h
theorem Zgi(h:p:=by
 intro i w w' v h hl
 match i with
 | 0 | 1 | 2 | 3 | 4 | 5 | 6 | 7=>exact h
 | n+8=>exact h):p:=h
theorem Zgj(h:p:=by have e1:=cJ.err;subst e1;exact aq (w':=w3) Tar ⟨ai.refl _,rfl⟩):p:=h
theorem Zgk(h:p:=by clear hz;go_enter Tryz.func177,Tryz.ntmps177;go_wp2_with fail;go_ret2;exact Pc HB.ae rfl):p:=h
theorem Zgl(h:p:=by exact(h.at_ x PX).qD.tQ hc (by rw[ho];decide) hm):p:=h
theorem Zgm(h:p:=by intro ρ w3 hc hL hr;have h1:ρ (.tmp 15)=.tuple #[.agg (aD v),af err]:=hr.1;exact ZcN):p:=h
theorem Zgn(h:p:=by intro a w8 yu;simp only[bE,Act.put,Uac];intro a0 _ a1 _ a2 _ a3 _ a4 _ a5 _ a6 _ a7 _ a8 _ a9 _ FA _;refine wpList_nil ?_;exact Kcb):p:=h
theorem Zgo(h:p:=by subst q9;replace Us: af FC=FA:=Eq.symm Us;subst Us;simp only[bE,Act.put,Uac];exact Kcc):p:=h
theorem Zgp(h:p:=by have z6:=hR.cell 6;simp only[Uaa] at z6;exact Kcd):p:=h
theorem Zgq(h:p:=by have KK:=aa (Aw.ae l rfl);have J3:=aa (show aB w5 gb 84 #[af (tx FC 0)] from Qv.ae);have t1:(np (.ok l)==0)=true:=rfl;clear Aw J2 Qv;obtain⟨XA,xc,hx0,hxl,E8⟩:=Jc KK.ae;subst hx0;have uI:=aa E8;exact Kce):p:=h
theorem Zgr(h:p:=by clear Uw;go_wp2_with fail;refine(Ij.ae _).mono ?_;rintro e w2 ⟨rfl,b3⟩;have c10:=(bz.later b3).cell 0;simp only[Uaa] at c10;exact Kcf):p:=h
theorem Zgs(h:p:=by obtain⟨o,h1,h2⟩:=h;exact⟨o,h1,h2.fr hr⟩):p:=h
theorem Zgt(h:p:=by clear SD Po;go_wp2_with fail;have HP:=eo jH.ae y;have HR:=dp HP;unfold dW at HR;obtain⟨r0,r1,r2,r3,r4,r5,r6⟩:=HR;exact Kcg):p:=h
theorem Zgu(h:p:=by
 have EB:s=i:=by omega
 have EC:s=j:=by omega
 subst EB EC;clear hlt hi hj py Ez HF;have u0_:decide (s < Kx)=false:=decide_eq_false k0;have u2_:decide (a < s)=true:=decide_eq_true k2;exact Kch):p:=h
theorem Zgv(h:p:=by go_wp2_with fail;refine(Ha q w3 v3 ys _ O3.ae TT.ae gh.ae BP.ae).mono ?_;rintro e w4 ⟨rfl,b4⟩;have hb4:=Below.trans oB.ae (b4.mono oB.ae.size);clear b4;go_wp2_with fail;go_ret;exact Kci):p:=h
theorem Zgw(h:p:=by have iB:=hex.keep (λ o=>jI.ae.f.base.cell (p:=⟨b,o,none⟩) Ch);unfold cw at iB;have xe:=aa rM;have kz:=aa fU;have uY:=aa Js;have HAA:=aa hA;rw[hA];clear hex rM fU Js hA Ch fG;exact Kcj):p:=h
theorem Zgx(h:p:=by kernel_rfl):p:=h
theorem Zgy(h:p:=by exact⟨0,Nat.zero_le _,rfl,Below.refl _ _⟩):p:=h
theorem Zgz(h:p:=by intro ρ w3 hc hL hr;have h1:_=_:=hr.1;exact iU (.inl rfl) h1 ⟨AR.refl _,rfl⟩):p:=h
theorem ZgA(h:p:=by exact aq (w':=w3) TaG ⟨FR.refl _ _ _,rfl,λ h=>by cases h⟩):p:=h
theorem ZgB(h:p:=by exact⟨true,λ _=>h,λ h=> Tae⟩):p:=h
theorem ZgC(h:p:=by simp[Rows.uptoBulk]):p:=h
theorem ZgD(h:p:=by rw[e3,take_append_of_le_length Tad,take_of_length_le Tad]):p:=h
theorem ZgE(h:p:=by exact aq (w':=w3) (by simp[go_sem,hc.const,h0,h1,e1];done) ⟨ai.refl _,rfl⟩):p:=h
theorem ZgF(h:p:=by intro ρ w3 hc hL hr;have h0:_=_:=hr.1;have c0:=(HEW.ae.later hL).c4;exact ZbR):p:=h
theorem ZgG(h:p:=by go_enter Tryz.func48,Tryz.ntmps48;exact ZfC):p:=h
theorem ZgH(h:p:=by go_enter Tryz.func49,Tryz.ntmps49;exact ZfC):p:=h
theorem ZgI(h:p:=by go_enter Tryz.func50,Tryz.ntmps50;exact ZfC):p:=h
theorem ZgJ(h:p:=by intro ρ' w' v' x' u' ZP xm DY na;exact ZaZ):p:=h
theorem ZgK(h:p:=by intro ρ w G cap h1 h2;simp[go_sem,h1,h2];intro hh;exact absurd hh WC):p:=h
theorem ZgL(h:p:=by
 intro i w w' v h hl
 match i with
 | 0 | 1 | 2 | 3 | 4=>exact h
 | n+5=>exact h):p:=h
theorem ZgM(h:p:=by refine⟨A,l,c,?_,h⟩;simp[Value.cells] at q;obtain⟨rfl,rfl,rfl⟩:=q;rfl):p:=h
theorem ZgN(h:p:=by have fZ:=Hq.ae;unfold cw at hex;go_wp2_with fail;have bY:=ah wr (.cells (ay bad) 46);refine(fZ _ (KK.trans ((ai.then hb bY).mono KK.size))).mono ?_;rintro e W3 ⟨rfl,Kx⟩;exact Kck):p:=h
theorem ZgO(h:p:=by exact aq (w':=w3) (by simp[go_sem,hc.const,h0,e1];done) ⟨ai.refl _,rfl⟩):p:=h
theorem ZgP(h:p:=by simp[Array.getD_eq_getD_getElem?,Array.getElem?_setIfInBounds,hT];exact apZ):p:=h
theorem ZgQ(h:p:=by intro ρ w3 hc hL hr;intro hg;have hg:ρ (.tmp 57)=.bool true:=hg;exact Zaj):p:=h
theorem ZgR(h:p:=by intro ρ w3 hc hL hr;intro hg;have hg:ρ (.tmp 61)=.bool true:=hg;exact Zaj):p:=h
theorem ZgS(h:p:=by intro ρ w3 hc hL hr;intro hg;have hg:ρ (.tmp 74)=.bool true:=hg;exact Zaj):p:=h
theorem ZgT(h:p:=by intro ρ w3 hc hL hr;intro hg;have hg:ρ (.tmp 78)=.bool true:=hg;exact Zaj):p:=h
theorem ZgU(h:p:=by simpa [Lit.wf,IntKind.min,IntKind.max,IntKind.signed,IntKind.bits] using h):p:=h
theorem ZgV(h:p:=by subst hr;clear HP IC JN Nz Xz nJ;go_wp2_with fail;go_ret;exact⟨rfl,hW⟩):p:=h
theorem ZgW(h:p:=by rw[length_map];omega):p:=h
theorem ZgX(h:p:=by rw[set_append_right _ _ (Nat.le_refl _),Nat.sub_self] at h1;exact h1):p:=h
theorem ZgY(h:p:=by have HE:=aa hE;have HF:=aa Qr;have gh:=aa Jn;have HIL:=aa Tp;have Q5:=aa hz;have VC:=aa Nk;have Xx:=aa Gp;have HFN:=aa Tq;have HLEN:=aa Qs;have aie:=aa hX;have F7:=aa eU;exact Kcl):p:=h
theorem ZgZ(h:p:=by go_wp2_with fail;exact HF.ae er _ _ ox.ae nJ.ae ⟨rfl,rfl,rfl⟩ HW2.ae):p:=h
theorem Zg0(h:p:=by intro ρ w3 hc hL hr;have h0:_=_:=hr.1;have cJ:=Gi.ae.later hL;exact Zbl):p:=h
theorem Zg1(h:p:=by have HC:=aa hC;clear hC;go_wp2_with fail;refine HC.ae.mono ?_;rintro e_ w5 ⟨rfl,G,q4,q5,ho⟩;have H2:=aa q4;have HW:=aa (Q5.ae.trans (q5.mono WC WC));exact Kcm):p:=h
theorem Zg2(h:p:=by exact⟨w.heap.size,rfl,(aB.new w 4 #[.bool fv]).alloc _,by go_grown⟩):p:=h
theorem Zg3(h:p:=by obtain⟨q,q2,h1,h2,h3⟩:=h;exact⟨q,q2,h1,hk _ _ _ h2,hk _ _ _ h3⟩):p:=h
theorem Zg4(h:p:=by go_wp2_with fail;refine(oq _ (XI.ae.env.later HB.ae)).mono ?_;exact Zee):p:=h
theorem Zg5(h:p:=by rw[h1] at h2;injection h2 with h2;injection h2 with _ h2 _;exact ht h2):p:=h
theorem Zg6(h:p:=by
 cases x with
 | error e=>rfl
 | ok p=>rfl):p:=h
theorem Zg7(h:p:=by obtain⟨g,a,h1,f0,f1⟩:=h;exact⟨g,a,h1,f0.later hl,f1.later hl⟩):p:=h
theorem Zg8(h:p:=by go_wp2_with fail;go_ret;exact⟨by rw[HMX.ae];rfl,ai.then HB.ae hW⟩):p:=h
theorem Zg9(h:p:=by
 by_cases h0:b.n=0
 ·rw[if_pos h0]
 ·rw[if_neg h0] at h ⊢;exact ua h):p:=h
theorem Zha(h:p:=by simp[Array.getD_eq_getD_getElem?,Array.getElem?_setIfInBounds,hT,e4]):p:=h
theorem Zhb(h:p:=by simp[Array.getD_eq_getD_getElem?,Array.getElem?_setIfInBounds,hT,e5]):p:=h
theorem Zhc(h:p:=by go_wp2_with fail;go_ret;exact⟨by simp[vH,e1,e2,e3,e4,e5,e6],hb⟩):p:=h
theorem Zhd(h:p:=by unfold aI;rw[length_append,flatMap_append];simpa using h2):p:=h
theorem Zhe(h:p:=by injection hx with hx;subst hx;exact⟨h.cell 0,h.cell 1,h.cell 2⟩):p:=h
theorem Zhf(h:p:=by exact⟨_,_,⟨rfl,rfl⟩,by unfold Val.Ok num;dsimp only;omega⟩):p:=h
theorem Zhg(h:p:=by cases A1 <;> simp[sliced,sR]):p:=h
theorem Zhh(h:p:=by obtain⟨q,h1,h2,h3⟩:=h;exact⟨q,h1,h2.grown hr.grown h3,h3⟩):p:=h
theorem Zhi(h:p:=by
 rcases Q5.ae with h |⟨b,off,h1,h2,h3⟩
 ·exact Ze4
 ·exact Zeg):p:=h
theorem Zhj(h:p:=by
 cases hs:sb
 ·rfl
 ·have h1:=KY (tq.ae.1 hs);have h2:=Xj.ae;omega):p:=h
theorem Zhk(h:p:=by
 rcases Q3.ae with h |⟨b,off,h1,h2,h3⟩
 ·exact Ze4
 ·exact Zeg):p:=h
theorem Zhl(h:p:=by rw[hxe] at hcj;clear hxe aio;subst hA;obtain⟨q,hq⟩:∃q,q=x.g:=⟨_,rfl⟩;have HQ:=aa hq;rw[<- hq] at hcj;have Wt:=aa xJ;have tL:=aa hcj;clear vn xJ hcj hq;exact Kcn):p:=h
theorem Zhm(h:p:=by exact aq (w':=w3) (by simp[execOp,h1,bU,hf]) ⟨ai.refl _,rfl⟩):p:=h
theorem Zhn(h:p:=by simp[results,Tryz.results134,go_sem,r0,r1,r2,r3,r4,r5,r6,r7];rfl):p:=h
theorem Zho(h:p:=by
 by_cases e:dH s l=true
 ·simp only[e,if_true]
 ·simp only[e];rfl):p:=h
theorem Zhp(h:p:=by go_wp2_with fail;go_ret;refine⟨mV ?_,rfl⟩;rw[H2.ae,sJ hi];rw[HD.ae,cy,HB.ae,if_neg Tab,if_neg];exact Kco):p:=h
theorem Zhq(h:p:=by exact⟨0,Nat.zero_le _,Nat.zero_le _,rfl,rfl,Below.refl _ _⟩):p:=h
theorem Zhr(h:p:=by exact⟨b,off,h1,h2,(h3 k _ (getElem?_eq_getElem Y0)).1⟩):p:=h
theorem Zhs(h:p:=by refine⟨rfl,rfl,rfl,rfl,rfl,[],.inl rfl,?_⟩;unfold Tr.aO;rfl):p:=h
theorem Zht(h:p:=by obtain⟨s,hs1,hs2,hF⟩:=Dh hp he q1 q2 WC;obtain⟨f,hf⟩:∃q:Nat,q=mid+m - s:=⟨_,rfl⟩;obtain⟨e1,e2,e3,e4,e5⟩:=Dg hp hf he q1 q2 hF hs1 hs2;exact Kcp):p:=h
theorem Zhu(h:p:=by
 intro ρ w3 hc hL hr;cases gd
 ·skip;exact ZbP
 ·skip;exact ZbP):p:=h
theorem Zhv(h:p:=by exact⟨y,w1,gF,g0,h1,h2,h3,h4,h5.trans (ai.drew _),h6.drew⟩):p:=h
theorem Zhw(h:p:=by rw[drop_eq_getElem_cons h1,drop_eq_nil_of_le h2];rfl):p:=h
theorem Zhx(h:p:=by
 repeat' split
 all_goals first | rfl |(exfalso;omega)| simp_all):p:=h
theorem Zhy(h:p:=by go_wp2_with fail;go_ret;exact⟨_,rfl,aI.nil,Below.refl _ _⟩):p:=h
theorem Zhz(h:p:=by obtain⟨fn,tmps,assign,body,hy,hR⟩:=F7.ae _ x _ hJ1 zL.ae;unfold Qm at hy;rw[hLk] at hy;have HR:=aa hR;exact Kcq):p:=h
theorem ZhA(h:p:=by rintro e w1 ⟨rfl,rfl⟩;exact Zc7):p:=h
theorem ZhB(h:p:=by intro ρ w3 hc hL hr;have h1:ρ (.tmp 0)=aw p:=hr.1;exact Zfz):p:=h
theorem ZhC(h:p:=by
 have t0:T.getD 0 undef=mR q L:=by rw[JR];simp[Array.getD_eq_getD_getElem?]
 have t1:T.getD 1 undef=.slice CA cols.length cc:=by rw[JR];simp[Array.getD_eq_getD_getElem?]
 exact Kcr):p:=h
theorem ZhD(h:p:=by
 have e1:ba D s Kx f=D:=by exact ZdQ
 have H3:=aa (show SS w0 g n _ (ba D s Kx f) by rw[e1];exact H2.ae);have wB:=aa (show Sw s f D (ba D s Kx f) by rw[e1];exact .refl);exact Kcs):p:=h
theorem ZhE(h:p:=by go_wp2_with fail;have bY:=ah wr (.cells (ay y) 46);refine(fZ _ (KK.trans ((ai.then hb bY).mono KK.size))).mono ?_;rintro e W3 ⟨rfl,Kx⟩;have hb1:=ai.then bY Kx;exact Kct):p:=h
theorem ZhF(h:p:=by replace Q3:=aa (Q3.ae.later b1);replace K1:=aa (K1.ae.later b1);replace K2:=aa (K2.ae.later b1);replace K3:=aa (K3.ae.later b1);replace HB:=aa (ai.then HB.ae b1);exact Kcu):p:=h
end Go.Proofs.YtndgjggokjickaaGreatDoor
