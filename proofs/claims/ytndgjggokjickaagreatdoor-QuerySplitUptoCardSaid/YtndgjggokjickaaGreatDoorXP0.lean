/- Scripts that several proofs use. -/
import Derived.BigQuiet
import Derived.Handy
import Derived.WalkLawsBesides
import Derived.Lib.Hide
import Derived.Deep.AppendLies
import Derived.Deep.RegionWith
import Derived.Laws.EntriesVeiled
import Derived.Shelf.Small.Bits
import Derived.Shelf.Strconv.Itoa3
import Derived.Shelf.SlicesE.Clone
import Derived.Shelf.Spec.BitsCarry
import Derived.Deep.DeepCutAuto
import Derived.Laws.CopyOwn
import Derived.Lib.ItoaLen
import Derived.Lib.AppendZeros
import Derived.Lib.ParseIntB
import Derived.Lib.Case
import Derived.Lib.AppendZerosOnto
import Derived.Lib.Overlaps
import Derived.RangeFuncNested
import Derived.RangeFuncBound
import Derived.Shelf.RegionOpen
import Derived.OwnWalkIn
import Derived.LoopNIn
import Derived.LoopIn
import Derived.Deep.WholeRow
import Derived.Deep.Strs
import Derived.Lay
import Derived.LaidMore
import Derived.Stop.LaidErr
import Derived.HandedShaped
import Derived.Deep.DeepHandedRow
import Derived.Test.YtndgjggokjickaaGreatDoorProg
namespace Go.Proofs.YtndgjggokjickaaGreatDoor
open _root_.Go.Proofs.Tryz
set_option linter.unusedVariables false
open Go.ChangeShapes Go.WideShapes Go.ChangeAt Go.RowKit List
abbrev y_:=Exit->Act->World->Prop
abbrev xP:=Option Addr
abbrev x_:=Array Value
abbrev xr:=List Value
abbrev xb:=List UInt8
abbrev uC:=Except Int
abbrev u_:=ByteArray
abbrev t_:=World
abbrev ai(a b:t_):Prop:=Below a.heap.size a b
abbrev ar(f:FuncId)(a:x_)(w:t_)(q:Ending->t_->Prop):Prop:=Calls Tryz.prog f a w q
def fy(p:Prop):Prop:=p
theorem fy.ae{p:Prop}(h:fy p):p:=h
theorem aa{p:Prop}(h:p):fy p:=h
abbrev aw(g:Nat):Value:=.pointer (some ⟨g,0,none⟩)
abbrev aY(g k:Nat):Value:=.pointer (some ⟨g,k,none⟩)
abbrev aL(g n c:Nat):Value:=.slice (some ⟨g,0,none⟩) n c
abbrev az:Value:=.slice none 0 0
abbrev au:Value:=.string ⟨#[]⟩
abbrev af(n:Int):Value:=.int .i64 n
abbrev ag(n:Int):Value:=.int .u8 n
theorem Uaa:(∀{α:Type}(l:List α)(i:Nat),l.toArray[i]?=l[i]?)/\(∀{α:Type}(a:α)(l:List α),(a::l)[0]?=some a)/\∀{α:Type}(a:α)(l:List α)(i:Nat),(a::l)[i+1]?=l[i]?:=by refine⟨?_,?_,?_⟩<;>simp
theorem Uab:(∀{α:Type}(a:α)(l:List α)(i:Nat),(a::l).take (i+1)=a::l.take i)/\(∀{α:Type}(l:List α),l.take 0=[])/\(∀{α:Type}(a:α)(l:List α)(i:Nat),(a::l).drop (i+1)=l.drop i)/\∀{α:Type}(l:List α),l.drop 0=l:=by refine⟨?_,?_,?_,?_⟩<;>simp
theorem Uac:(∀{α:Type}(l:List α)(i:Nat)(a:α),l.toArray.setIfInBounds i a=(l.set i a).toArray)/\(∀{α:Type}(x:α)(l:List α)(i:Nat)(a:α),(x::l).set (i+1) a=x::l.set i a)/\∀{α:Type}(x:α)(l:List α)(a:α),(x::l).set 0 a=a::l:=by refine⟨?_,?_,?_⟩<;>simp
variable{p:Sort _}
theorem aE{a:Nat}:a<=a:=Nat.le_refl a
theorem cX{a:Nat}{w:World}:Below a w w:=Below.refl a w
theorem eS{a b c:Nat}(h:a<b)(k:b<=c):a<c:=Nat.lt_of_lt_of_le h k
theorem fK{a b c:Nat}(h:a<=b)(k:b<=c):a<=c:=Nat.le_trans h k
theorem gE{a:Nat}:0<=a:=Nat.zero_le a
theorem gR(a b:Nat):a<b\/b<=a:=Nat.lt_or_ge a b
def WC(h:p:=by omega):=h
def Taa(h:p:=by kernel_rfl):=h
def Tab(h:p:=by decide):=h
def Tac(h:p:=by simp;omega):=h
def Tad(h:p:=by simp):=h
def Tae(h:p:=by cases h):=h
def Taf(h:p:=by unfold M;simp;omega):=h
def Tah(h:p:=by simp[results,results17,go_sem,dy];try rfl):=h
def Tai(h:p:=by simp[results,results99,go_sem,x0,x1,z2,z3,z4,z5,z6];done):=h
def Taj(h:p:=by simpa using h):=h
def Tak(h:p:=by simp[go_sem,hc.const,h0];done):=h
def Tal(h:p:=by rw[hg2];exact congrArg some e):=h
def Tam(h:p:=by unfold maxLen;omega):=h
def Tan(h:p:=by simp_all):=h
def Tao(h:p:=by simpa using hlt):=h
def Tap(h:p:=by simp[results,results153,go_sem]):=h
def Taq(h:p:=by simp[results,results59,go_sem]):=h
def Tar(h:p:=by simp[bh,Value.oneCell']):=h
def Tas(h:p:=by simp[go_sem,h0];done):=h
def Tat(h:p:=by simp[go_sem,e1,h0,h1];done):=h
def Tau(h:p:=by rw[HLEN.ae];omega):=h
def Tav(h:p:=by simpa [Function.comp_def] using hA):=h
def Taw(h:p:=by simp[results,results61,go_sem,x0,x1,z2,z3,z4,z5,z6];done):=h
def Tax(h:p:=by simp[go_sem,e1,e2];done):=h
def Tay(h:p:=by simpa using hi):=h
def Taz(h:p:=by rw[length_take];omega):=h
def TaA(h:p:=by simp[results,results16,go_sem]):=h
def TaB(h:p:=by rw[getElem?_eq_getElem hi,he]):=h
def TaC(h:p:=by rw[Pt.ae];rfl):=h
def TaD(h:p:=by simp[go_sem,h0,h1];done):=h
def TaE(h:p:=by simp[go_sem,e1,h0];done):=h
def TaF(h:p:=by simp[bH,Value.oneCell']):=h
def TaG(h:p:=by have:=LE.ae;omega):=h
def TaH(h:p:=by simp only[Array.size_setIfInBounds];exact hT):=h
def TaI(h:p:=by simp[go_sem,h1]):=h
def TaJ(h:p:=by rw[tY];exact qB):=h
def TaK(h:p:=by injection hx with hx;rw[<-hx];exact ho):=h
def TaL(h:p:=by simp[results,results64,go_sem]):=h
def TaM(h:p:=by rw[<-h.len];exact hi):=h
def TaN(h:p:=by rw[take_append_drop];exact hz):=h
def TaO(h:p:=by simp[go_sem,hc.const,h0,h1];done):=h
def TaP(h:p:=by simp[key,o]):=h
def TaQ(h:p:=by have:=Az.ae;have:=HND.ae;omega):=h
def TaR(h:p:=by simp[h]):=h
def TaS(h:p:=by simp[h a (by simp)]):=h
def TaT(h:p:=by cases e):=h
def TaU(h:p:=by simp only[length_singleton,Nat.min_def];split<;>omega):=h
def TaV(h:p:=by rw[xF.ae];exact aE):=h
def TaW(h:p:=by have:=nD.ae;have:=Bw.ae;omega):=h
def TaX(h:p:=by rw[Kx];exact congrArg some e):=h
def TaY(h:p:=by rw[Nj.ae,<-PB.ae];decide):=h
def TaZ(h:p:=by rw[NA];exact FN):=h
def Ta0(h:p:=by simp[dh,Value.oneCell']):=h
def Ta1(h:p:=by simp[dS,Value.oneCell']):=h
def Ta2(h:p:=by simp[aX,Value.oneCell']):=h
def Ta3(h:p:=by simp[aU,Value.oneCell']):=h
def Ta4(h:p:=by simp[results,results161,go_sem,dy];try rfl):=h
def Ta5(h:p:=by rw[e]):=h
def Ta6(h:p:=by simpa using hz):=h
def Ta7(h:p:=by simpa using hk):=h
def Ta8(h:p:=by simpa using h2):=h
def Ta9(h:p:=by simpa using h1):=h
def Tba(h:p:=by rw[nK.ae];simp):=h
def Tbb(h:p:=by simp[results,results111,go_sem];try rfl):=h
def Tbc(h:p:=by simp[results,results109,go_sem];try rfl):=h
def Tbd(h:p:=by simp[execOp,h1,h2,hl]):=h
def Tbe(h:p:=by have:=iT.ae.cl;omega):=h
def Tbf(h:p:=by rw[fI];exact h6.old):=h
def Tbg(h:p:=by have:=qG.ae.base.size;have:=nD.ae;omega):=h
def Tbh(h:p:=by simp[hx]):=h
def Tbi(h:p:=by simp[go_sem,h1,c0]):=h
def Tbj(h:p:=by rw[I.len];exact AJ):=h
def Tbk(h:p:=by show w.heap.size≠w1.heap.size;omega):=h
def Tbl(h:p:=by injection e):=h
def Tbm(h:p:=by simp[results,results130,go_sem]):=h
def Tbn(h:p:=by simp[results,results129,go_sem]):=h
def Tbo(h:p:=by simp[results,results106,go_sem]):=h
def Tbp(h:p:=by simp[results,results105,go_sem]):=h
def Tbq(h:p:=by rw[um.ae,hs,if_neg (by simp),HGI.ae]):=h
def Tbr(h:p:=by have:=HN.ae;omega):=h
def Tbs(h:p:=by simpa using(by omega:s[0].toNat=48)):=h
def Tbt(h:p:=by simp[results,results84,go_sem]):=h
def Tbu(h:p:=by simp[results,results70,go_sem]):=h
def Tbv(h:p:=by simp[results,results51,go_sem]):=h
def Tbw(h:p:=by simp[results,results38,go_sem]):=h
def Tbx(h:p:=by simp[results,results34,go_sem]):=h
def Zaa(h:p:=by intro ρ W4 hc hL hr;exact Zb3):=h
def zgH.KbM(h:p:=by
 have cL:=Rz.ae;have Ig:=cL.frozen;have y0:=cL.cell 0;have y1:=cL.cell 1;have c2:=cL.cell 2;have y3:=cL.cell 3;have o4:=cL.cell 4;have o5:=cL.cell 5;have y6:=cL.cell 6;simp only[Uaa]at y0 y1 c2 y3 o4 o5 y6;have hne:g9≠g4:=Ne.symm YY.ae.1;clear KJ cL;go_wp2_with fail;clear z0 z1 x2 x3 x4 x5 x6 y0 y1 c2 y3 o4 o5 y6 Ig hne;generalize vG:World.setCell _ _ _=W9;have hR:aB W9 g4 46 #[.int .u8 2,.int .u8 0,.int .i64 0,.string ⟨#[]⟩,.string nm,.int .i64 0,.slice none 0 0]:=by rw[<-vG];simpa using(((((((Rz.ae.aW 0 _).aW 1 _).aW 2 _).aW 3 _).aW 4 _).aW 5 _).aW 6 _)
 have lC:WD.grownBy W9 (some g4):=by rw[<-vG];exact aF (aF (aF (aF (aF (aF (aF (aQ cX) _ _) _ _) _ _) _ _) _ _) _ _) _ _
 clear vG;have x0:=hR.cell 0;have x1:=hR.cell 1;have z2:=hR.cell 2;have z3:=hR.cell 3;have z4:=hR.cell 4;have z5:=hR.cell 5;have z6:=hR.cell 6;simp only[Uaa]at x0 x1 z2 z3 z4 z5 z6;refine bodyPost_ret (v:=.tuple #[.agg #[.int .u8 2,.int .u8 0,.int .i64 0,.string ⟨#[]⟩,.string nm,.int .i64 0,.slice none 0 0],.int .i64 0]) Tai rfl ?_;have hkD:=S5.ae.kp (eG.2 Ef.ae);exact⟨⟨2,⟨0,0,⟨#[]⟩⟩,nm,0,none,0,0⟩,_,_,_,rfl,by rw[Ur.ae];exact Db s.aG.length _ _,(by have h9:=ajn.ae.aside lC hkD (fK qG.ae.base.size nD.ae);rw[Ur.ae]at h9;exact h9),(((ik.refl gp w (Value.slice UA ya.length uc) (Value.slice VA s.aG.length vc)).later Ii.ae).trans S5.ae).own lC nD.ae⟩):=h
def Zab(h:p:=by
 have iB:=HX.ae.blk;unfold PC.cells at iB;have c10:=iB.cell 10;simp only[Uaa]at c10;clear iB;go_wp2_with fail;refine(pX s.aG.length WC WC WA (iT.ae.env.later HX.ae.base)).mono ?_;rintro e w7 ⟨rfl,hS⟩;have uz:=aa (HX.ae.later hS);have xO:=aa (K3.ae.later hS);have Bv:=aa (K6.ae.later hS);clear hS HX K3 K6 c10;unfold nt MK;obtain⟨nm,jw⟩:∃nm,nm=jD s.aG.length:=⟨_,rfl⟩;rw[<-jw];have Ur:=aa jw;clear jw;go_upto_region 13 with fail;have lC:=aB.new w7 46 #[.int .u8 2,.int .u8 0,.int .i64 0,.string ⟨#[]⟩,.string nm,.int .i64 0,.slice none 0 0];have Ij:=ah w7 (.cells #[.int .u8 2,.int .u8 0,.int .i64 0,.string ⟨#[]⟩,.string nm,.int .i64 0,.slice none 0 0] 46);generalize w7.alloc (.cells #[.int .u8 2,.int .u8 0,.int .i64 0,.string ⟨#[]⟩,.string nm,.int .i64 0,.slice none 0 0] 46)=WB at*;obtain⟨g9,R8⟩:∃g9,g9=w7.heap.size:=⟨_,rfl⟩;rw[<-R8]at lC⊢;have KH:=aa lC;have lL:=aa (uz.ae.later Ij);have R9:=aa (xO.ae.later Ij);have S0:=aa (Bv.ae.later Ij);have YY:=aa (show g4≠g9/\gp≠g9 from⟨by have:=Bv.ae.lt;omega,by have:=uz.ae.blk.lt;omega⟩);clear lC Ij R8 uz xO Bv;refine fJ _ _ (take_append_drop 13 _).symm (AR aU 113 2 w0.heap.size (Value.slice VA s.aG.length vc) s.aG ⟨nm,ty⟩) AR.refl (λ _ _ _=>AR.trans) AR.drew (adW gp g9 w0.heap.size WB (Value.slice VA s.aG.length vc) s.aG nm ty) (λ i w w' x h hr=>Ee _ _ _ _ _ _ _ _ _ _ _ _ h hr) Taa Taa Taa ?_ ?_
 ·simp only[take_succ_cons,take_zero];refine⟨ZaY,ZaY,ZaY,ZeA,?_,?_,?_,?_,?_,?_,?_,ZaY,ZeA,trivial⟩
  ·intro ρ W4 hc hL hr;have h0:_=_:=hr.1;have kJ:=dG lL.ae.blk lL.ae.dM Tab hL.grown;exact ZdR
  intro ρ W4 hc hL hr;have h0:_=_:=hr.1;exact aq (v:=.pointer (some ⟨g9,4,none⟩)) (w':=W4) Tak ⟨AR.refl _,rfl⟩
  ·intro ρ W4 hc hL hr;have h0:_=_:=hr.1;have hb9:=dG KH.ae lL.ae.dM Tab hL.grown;have x4:=hb9.cell 4;simp only[Uaa]at x4;exact aq (w':=W4) (by simp[go_sem,h0,x4];done) ⟨AR.refl _,rfl⟩
  intro ρ W4 hc hL hr;have h0:_=_:=hr.1;exact aq (v:=.int .u8 ty) (w':=W4) Tak ⟨AR.refl _,rfl⟩;intro ρ W4 hc hL hr;have h0:_=_:=hr.1;have h1:_=_:=hr.2.1;exact aq (v:=.agg #[.string nm,.int .u8 ty]) (w':=W4) TaO ⟨AR.refl _,rfl⟩;intro ρ W4 hc hL hr;have h0:_=_:=hr.1;refine aq (v:=.slice (some ⟨W4.heap.size,0,none⟩) 1 1) (w':=W4.alloc (.cells #[.string nm,.int .u8 ty] 113)) Tas ⟨AR.later (ah W4 _),⟨_,rfl,aB.new W4 _ _,λ e=>?_⟩⟩;have:=((hL.old lL.ae.dM).lt e).1;omega;intro ρ W4 hc hL hr;have h0:_=_:=hr.1;obtain⟨q1,h1,vH,KF⟩:∃q:Nat,ρ (.tmp 79)=.slice (some ⟨q,0,none⟩) 1 1/\aB W4 q 113 (aU ⟨nm,ty⟩).toArray/\(Value.slice VA s.aG.length vc).ownBlock≠some q:=hr.2.1;obtain⟨v',w',hrun,ho,zT,FM⟩:=fc (P:=prog) (w:=W4) 28 28 _ 24 underlying28 sM rfl WC (λ _=>rfl) Ta3 (hL.old lL.ae.dM) q1 vH (by show(s.aG.length+1)*24<=_;omega) (by show s.aG.length+1<=_;omega) (fK lL.ae.base.size hL.grown.size);exact Zb4
 intro W3 hL;simp only[Uab];rintro a0-a1-a2-a3-a4-a5-a6-a7-a8-a9-Hc ⟨avN,rfl,Eh,Ob⟩ S1-_ rfl;simp only[bw,Act.put,Uac];obtain⟨VB,vcb,hVB,_⟩:=Eh.reads;rw[length_append,length_singleton]at hVB;subst hVB;have HOC:=aa Eh;have HMC:=aa Ob;have MY:=aa hL.grown;have kJ:=dG lL.ae.blk lL.ae.dM Tab hL.grown;have f10:=kJ.frozen 10;unfold PC.cells at kJ;have c10:=kJ.cell 10;simp only[Uaa]at c10;have RT:=aa (dG KH.ae lL.ae.dM Tab hL.grown);have HZC:=aa (dG S0.ae lL.ae.dM Tab hL.grown);clear Eh Ob kJ hL KH S0;go_upto_region 14 with fail;clear f10 c10;have ajn:=aa (lL.ae.RZ HOC.ae MY.ae);have S5:=aa (R9.ae.trans (ik.R7 (gp:=gp) MY.ae HMC.ae (Value.slice VB (s.aG.length+1) vcb) 10));have UI:=aa (RT.ae.far (p:=⟨gp,10,none⟩) (Ne.symm YY.ae.2) (Value.slice VB (s.aG.length+1) vcb));have Rz:=aa (HZC.ae.far (p:=⟨gp,10,none⟩) Ef.ae.2.1 (Value.slice VB (s.aG.length+1) vcb));clear lL R9 RT HZC HOC HMC MY;generalize World.setCell W3 _ _=WD at*;open zgH in exact Ze0):=h
def zg9.KbU(h:p:=by have cU:=λ y:Ext W.heap.size W=>hu.keep (w':=y.w) λ o=>y.cell (p:=⟨b,o,none⟩) hb2;unfold ej at cV cU;exact Ka):=h
def zcr.Kap(h:p:=by
 replace hv:=hv.keep (w':=W) λ o=>hB.cell (p:=⟨b,o,none⟩) hb;replace hu:=hu.keep (w':=W) λ o=>hB.cell (p:=⟨b,o,none⟩) hb
 open zg9 in exact Zfe):=h
def Zac(h:p:=by open zcr in exact ZaO):=h
def Zad(h:p:=by
 obtain⟨i0,kB,YG⟩:=lX h0;obtain⟨Kx,⟨hi,hu⟩,Ck⟩:=least (p:=λ Kx=>Kx<l.length/\listed.getD Kx false=false) i0 ⟨kB,YG⟩;have ny:∀i,i<Kx->listed.getD i false=true:=λ i hj=>by
  cases hc:listed.getD i false with
  |true=>rfl
  |false=>exact absurd ⟨by omega,hc⟩ (Ck i hj)
 have Pk:l[Kx]?=some l[Kx]:=getElem?_eq_getElem hi;have wF:=cF bc Kx _ Pk;simp only[mz,Bool.and_eq_true,Nat.zero_add]at wF;have jy:Kx∈Region.ready .any (l++zs).toArray listed:=by refine rQ (oH Pk) ?_ λ i hj=>ny i (of_decide_eq_true (List.all_eq_true.1 wF.1.1.1 i hj));rw[eE (by rw[I.len];simp;omega)];exact hu
 refine⟨(λ hnil=>by rw[hnil]at jy;cases jy),λ i hj=>?_⟩;obtain⟨Cl,oj,pG,hall⟩:=mem_ready.1 hj;have AJ:i <(l++zs).length:=by rcases gR i (l++zs).length with h'|h';exact h';rw[Array.getElem?_eq_none (by simpa using h')]at pG;cases pG
 rw[eE Tbj]at Cl;have fw:∀k∈eL oj,listed.getD k false=true:=λ k hk=>by obtain⟨e,he,hb,rfl⟩:=jU.1 hk;exact hall e he hb
 have qQ:i<l.length:=by
  rcases gR i l.length with h'|h';exact h';exfalso;have hzj:zs[i-l.length]?=some oj:=by
   have:(l++zs)[i]?=some oj:=by simpa using pG
   rw[getElem?_append_right WC]at this;exact this
  have Tw:=jh hz (i-l.length) oj hzj;rw[show l.length+(i-l.length)=i by omega]at Tw;have hc:=ji (L:=l++zs) (λ k=>listed.getD k false=true) (by
   intro k ok hk hd e he;rcases gR k l.length with PF|PF
   ·rw[getElem?_append_left PF]at hk
    exact I.closed k ok hk hd e he
   rw[I.tail k PF]at hd;cases hd) i (eL oj) Tw.2 fw Kx WC
  rw[hu]at hc;cases hc
 have wE:l[i]?=some oj:=by
  have:(l++zs)[i]?=some oj:=by simpa using pG
  rw[getElem?_append_left qQ]at this;exact this
 exact Kb):=h
def ziR.KcC(h:p:=by
 unfold bP;go_wp2_with fail;have HV:=aB.new W3 44 (aC v);have bG:=ah W3 (.cells (aC v) 44);have b1:=aj.then hb1 bG;have yJ:=HO;replace HO:=aa (HO.ae.later b1);replace HK:=aa (HK.ae.later b1);replace hb:=aj.then hb b1;have hsz:wr.heap.size<=W3.heap.size:=hb1.size;have hne:∀u,aH aX 44 3 wr W.heap.size u ((args.take i).map (·.2))->some W3.heap.size≠u.ownBlock:=λ u hu e=>by have:=(hu.lt e.symm).1;omega
 have PT:=hne _ yJ.ae;clear hne b1 hb1 KK bY bG gO hex yJ;generalize W3.alloc (.cells (aC v) 44)=w2 at*;generalize W3.heap.size=Ly at*;have Ct:((args.take i).map (·.2)).length<=1599289640356:=Tac;have MY:((args.take i).map (·.2.k)).length<=1599289640356:=Tac;generalize hvs:(args.take i).map (·.2)=vs at*;generalize qV:(args.take i).map (·.2.k)=ks at*;have HVS:=aa hvs;have PV:=aa qV;clear hvs qV;have hbase:W.heap.size<=w2.heap.size:=hb.size;have amT:vs.length<=1599289640356:=Ct;refine fJ _ _ (take_append_drop 8 _).symm (AR aX 44 3 W.heap.size u8 vs v) AR.refl (λ _ _ _=>AR.trans) AR.drew (evV W.heap.size u8 u9 vs v Ly) (λ LT w w' u h hr=>Gt _ _ _ _ _ _ _ _ _ _ h hr) Taa Taa Taa ?_ ?_
 ·simp only[take_succ_cons,take_zero];refine⟨Zhv,Zfq,?_,?_,Zhv,?_,Zfq,?_,trivial⟩
  ·intro ρ W4 hc hL hr;have h1:_=_:=hr.1;refine aq (v:=aL W4.heap.size 1 1) (w':=W4.alloc (.cells (aC v) 44)) TaI ⟨AR.later (ah W4 _),⟨_,rfl,aB.new W4 _ _,λ e=>?_⟩⟩;have:=((hL.old HO.ae).lt e.symm).1;omega
  intro ρ W4 hc hL hr;have h1:_=_:=hr.1;obtain⟨q,h2,h3,h4⟩:∃q,ρ (.tmp 37)=aL q 1 1/\aB W4 q 44 (aX v).toArray/\some q≠u8.ownBlock:=hr.2.1;obtain⟨v',w',hrun,ho,zT⟩:=fA (P:=prog) (w:=W4) 38 38 _ 32 underlying38 mD rfl WC (λ _=>rfl) Ta2 (hL.old HO.ae) q h3 WC WC (fK hbase hL.grown.size);exact aq (v:=v') (w':=w') (by simp only[execOp,resolve,invoke,builtin,Sem.run_bind,Sem.run_pure,Result.andThen_ok,map_toArray,map_cons,map_nil,h1,h2,hrun]) ⟨zT,ho⟩;intro ρ W4 hc hL hr;have h1:_=_:=hr.1;exact aq (w':=W4) TaI ⟨AR.refl _,rfl⟩;intro ρ W4 hc hL hr;have h1:_=_:=hr.1;refine aq (v:=aL W4.heap.size 1 1) (w':=W4.alloc (.cells #[ag v.k] 5)) TaI ⟨AR.later (ah W4 _),⟨_,rfl,aB.new W4 _ _,λ e=>?_⟩⟩;have:=((hL.old HO.ae).lt e.symm).1;omega
 intro W4 hL;simp only[Uab];intro a0 h0 a1 h1 a2 h2 v3 hO3 a4 h4 a5 h5 a6 h6 a7 h7;obtain⟨q2,h2,_⟩:=h2;obtain⟨q7,h7,hq7,_⟩:=h7;have h0:u8=a0:=Eq.symm h0;have h4:u9=a4:=Eq.symm h4;have h1:_=a1:=Eq.symm h1;have h2:_=a2:=Eq.symm h2;have h5:_=a5:=Eq.symm h5;have h6:_=a6:=Eq.symm h6;have h7:_=a7:=Eq.symm h7;subst h0 h1 h2 h4 h5 h6 h7;have hO3:aH aX 44 3 W4 W.heap.size v3 (vs++[v]):=hO3;have hK3:=HK.ae.past HO.ae Tab hL.grown;have hb3:=hb.trans (bj HO.ae hL.grown hbase);have VG:=aa hO3;have Fl:=aa hK3;have HQ7:=aa hq7;have Cu:=hb3.size;clear hO3 hK3 hq7 HO HK hL HV PT hb;simp only[bw,Act.put,Uac];go_wp2_with (first
  |(at_builtin
    refine aV rfl (.tmp 39) (.tmp 42) 97 rfl _ 1 underlying97 pI rfl WC v.k rfl Ta1 rfl Fl.ae q7 rfl HQ7.ae WC WC Cu ?_;intro v4 w4 z4 g4;have b4:=bj Fl.ae g4 Cu;have z3:=VG.ae.past Fl.ae Tab g4;have O4:=aa z4;have O3:=aa z3;clear z4 g4 Fl VG HQ7 z3))
 go_roundw
 case rel=>
  refine⟨i+1,hlt,by go_num,?_,?_,hb3.trans b4⟩;rw[HT.ae,map_append,HVS.ae];exact O3.ae;rw[HT.ae,map_append,PV.ae];exact O4.ae
 case measure=>exact Za2):=h
def zcQ.Kaw(h:p:=by open ziR in exact ZiL):=h
def Zae(h:p:=by open zcQ in exact Zbg):=h
def zeU.Ka3(h:p:=by
 unfold rI at*;unfold dx.ptr;obtain⟨tk,pl,bd,hpl,hlt,hsm,vt,cq,Kx,LD,wV,hp⟩:=h0.xD;obtain⟨r',nX⟩:=Kx _ rfl;have L6:t=tk.w:=by injection nX
 have zr:bd<0:=by simpa [cw.iy] using cq
 subst L6;have hlf:=h0.left;have Fo:=hp.later (ah _ rC);have Nd:=hp.later ((ah _ (.cells (dJ tk) 172)).drew);have hb3:=(ah (w.alloc (.cells #[ag 0,ag 0,af 0,au,au,af 0,az] 46)) (.cells (dJ tk) 172)).drew;have HT:=(aB.new (w.alloc (.cells #[ag 0,ag 0,af 0,au,au,af 0,az] 46)) 172 (dJ tk)).drew;rw[hsz]at HT;have HF:=aa (h0.later hb3);have HD:=aa ((eQ.df h hb).later hb3);have nV:=aa (HQ.ae.later hb3);have oY:=(h0.later hb3).facts.2.2.2.2.1;have Dt:((w.alloc (.cells #[ag 0,ag 0,af 0,au,au,af 0,az] 46)).alloc (.cells (dJ tk) 172)).drew.heap.size=w.heap.size+2:=Tad;exact KG):=h
def Zaf(h:p:=by open zeU in exact ZcR):=h
def zdV.KaL(h:p:=by have EK:=(aT u (show 24<220 by decide)).symm.trans hT.t24;simp only[Xv,List.range,List.range.loop,List.map,h0,h1,h2,h3,h4,EH,EI,EJ,EK];clear hT h0 h1 h2 h3 h4 EH EI EJ EK;have HI:=aa hI;have HQ:=aa hQ;have mixed:prog.follows .mixedOrders=true:=Taa;clear hI hQ;exact KM):=h
def Zag(h:p:=by open zdV in exact Zb9):=h
def Zah(h:p:=by have YES:=aa (show∀w2,ai w w2->sf w (.returned (.bool true)) w2 from λ w2 h=>⟨true,rfl,h⟩);obtain⟨wV,YI,hn3⟩:=hn;clear b1 k1;go_enter func21,ntmps21;go_upto_region 1 with fail;change Code.wp _ _ _ _ (w.alloc (.cells #[ag 0,au,az,au,af 0,au,af 0,.slice L.i.A L.i.n L.i.c,.string q.bU,.bool q.only,.slice L.w.A L.w.n L.w.c,.slice L.g.A L.g.n L.g.c,.slice L.h.A L.h.n L.h.c,.slice L.o.A L.o.n L.o.c,.slice L.l.A L.l.n L.l.c,ag 0,au,af 0,af 0,az,az,az,ag 0,af 0,au,ag 0,af 0,au] 64));generalize w.alloc _=W1 at*;obtain⟨sv,Ep⟩:∃sv,sv=Value.agg #[ag 0,au,az,au,af 0,au,af 0,.slice L.i.A L.i.n L.i.c,.string q.bU,.bool q.only,.slice L.w.A L.w.n L.w.c,.slice L.g.A L.g.n L.g.c,.slice L.h.A L.h.n L.h.c,.slice L.o.A L.o.n L.o.c,.slice L.l.A L.l.n L.l.c,ag 0,au,af 0,af 0,az,az,az,ag 0,af 0,au,ag 0,af 0,au]:=⟨_,rfl⟩;rw[<-Ep];clear Ep;obtain⟨gs,rq⟩:∃gs,gs=w.heap.size:=⟨_,rfl⟩;exact KN):=h
def Zai(h:p:=by have HR9:=aa hr;clear hr;unfold bP;clear z0 z1 x2 x3 x4 x5 x6 x0 x1 z2 z3 z4 z5 dy iA;replace cL:=cL.later b5;replace hB:=aj.then hB b5;have dy:=aI cL;have iA:=aB.frozen cL;go_wp2_with fail;exact bodyPost_ret (v:=.tuple #[.agg (aC r.1),af r.2]) Tah rfl ⟨congrArg (λ r:Val×Int=>Ending.returned (bP r.1 r.2)) NE.ae.symm,((hB.setCell bJ _).setCell bJ _).setCell bJ _⟩):=h
def zdt.KaD(h:p:=by clear fq y2 cV c2 KY KZ hc;have H3:=aa (H2.ae.later hL);clear H2 hL;exact KW):=h
def zeD.KaX(h:p:=by go_big_quiet_step ((go_at_call 39;exact aN aE (hc _)));open zdt in exact Zbu):=h
def Zaj(h:p:=by open zeD in exact ZcI):=h
def zdu.KaD(h:p:=by clear fq y2 cV cU cQ;have H3:=aa (H2.ae.later hL);clear H2 hL;exact Kaa):=h
def zeE.KaX(h:p:=by go_big_quiet_step ((go_at_call 14;exact aN aE (cQ _)));open zdu in exact Zbu):=h
def Zak(h:p:=by open zeE in exact ZcI):=h
def Zal(h:p:=by refine⟨λ _=>?_,λ hn=>absurd hg hn⟩;exact Zb3):=h
def ziF.Kcx(h:p:=by
 have Gb:=aa (HL.ae.step A2.ae hw ho);have HH3:=aa (A1.ae.step WC hw);have Kl:=aa (Nat.dvd_add A2.ae (Nat.dvd_refl (2*j)));clear hS hw ho A2 ID HL A1 HO HS HC;go_wp2_with fail;go_roundw;case rel=>exact⟨a+2*j,G,Kl.ae,by omega,by go_num,by go_num,H2.ae,HW.ae,Gb.ae,HH3.ae⟩
 case measure=>exact Za2):=h
def ziG.Kcx(h:p:=by
 have Gb:=aa (je HL.ae A2.ae han WC hw ho);clear hS hw ho A2 ID HL A1 HO HS HC;go_wp2_with fail;go_roundw;case rel=>exact⟨2*j,G,by omega,by omega,by go_num,H2.ae,HW.ae,Gb.ae⟩
 case measure=>exact Za2):=h
def Zam(h:p:=by
 clear HS HO HL;obtain⟨a,E,M7,han,rfl,rfl,hS,hw,hl,hh⟩:=hrel;have HS:=aa hS;have HO:=aa hw;have HL:=aa hl;have A1:=aa hh;have A2:=aa M7;have ID:=aa (show j ∣ a from Nat.dvd_trans ⟨2,by omega⟩ M7);clear hS hw hl hh M7;by_cases rB:a+2*j<=n;have hC:=xY w0 g n cap hn (2*j) a (a+j) (a+2*j) E wr WC WC WC rB HS.ae ((A1.ae a ID.ae aE).mono aE WC) ((A1.ae (a+j) (Nat.dvd_add ID.ae (Nat.dvd_refl j)) WC).mono aE WC);rw[show((a+j:Nat):Int)=(a:Int)+(j:Int) by omega,show((a+2*j:Nat):Int)=(a:Int)+2*(j:Int) by omega]at hC;open ziF in exact Zh0
 by_cases Ml:a+j<n;have hC:=xY w0 g n cap hn (2*j) a (a+j) n E wr WC WC Ml aE HS.ae ((A1.ae a ID.ae aE).mono aE WC) ((A1.ae (a+j) (Nat.dvd_add ID.ae (Nat.dvd_refl j)) WC).mono aE WC);rw[show((a+j:Nat):Int)=(a:Int)+(j:Int) by omega]at hC;open ziG in exact Zh0
 have Gb:=aa (je HL.ae A2.ae han WC .refl ((A1.ae a ID.ae aE).mono aE WC));clear HL A1 A2 ID;go_wp2_with fail;go_roundw;case rel=>exact⟨2*j,E,by omega,by omega,by go_num,HS.ae,HO.ae,Gb.ae⟩
 case measure=>exact Za2):=h
def Zan(h:p:=by have h0:_=_:=hr.1;have h1:_=_:=hr.2.1;exact aq (w':=W4) TaO ⟨aj.refl _,rfl⟩):=h
def Zao(h:p:=by
 have K1:=tZ;have zu:=IH;have HYB:=PD;have Za:=Oj;have YN:=Vg;have rb:=aa x7;clear tZ IH PD HT7 afh fx z0 x4 x7 DB;obtain⟨WB,hWB⟩:∃WB,WB=WD:=⟨_,rfl⟩;rw[<-hWB]at K1 zu HYB Za YN rb⊢;have HOi:=aa K1.ae.o3;have HOh:=aa K1.ae.o2;have HLi:=aa (show yi.length<=1000000 by have:=HFN.ae;have:=rL.ae;have:=XE.ae;have:=Bv.ae;omega);have HLh:=aa (show(hd++kF).length<=1000000 by have:=HK.ae;have:=HFN.ae;have:=rL.ae;have:=XE.ae;rw[length_append];omega);have key:=λ(T:x_) (hT:T.size=252) e0 e1 e2 e3 (Q2:y_) hf=>ET (T:=T) (d:=d) (Q:=Q2) (gp:=gp) (B:=w0.heap.size) (gY:=gY) (g16:=g16) (W:=WB) (cs:=c.cells {r with h:=rh,i:=ri} u' v') (ri:=ri) (rh:=rh) (yi:=yi) (y:=Kx) (hd:=hd++kF) (nm:=nm) (ty:=ty) hT e0 e1 e2 e3 rfl rfl K1.ae.f.base.size K1.ae.blk HOi.ae HOh.ae HLi.ae HLh.ae HYB.ae YN.ae.2.1 (YN.ae.2.2 3 WC) (YN.ae.2.2 2 WC) rb.ae Za.ae.1 Za.ae.2.1 (Za.ae.2.2 3 WC) (Za.ae.2.2 2 WC) hf;simp only[ES,bK,eC,f28,Option.getD_some,tx,Nat.reduceEqDiff,if_true,if_false]at key;refine key _ ?_ ?_ ?_ ?_ ?_ _ ?_;rfl;rfl;rfl;rfl;rfl;clear key;intro aeP aeQ z167 z168 aeR aeS z171 aeT z173 aeU z175 aeV aeW aeX aeY aeZ afa z182 z183 afb afc afd afe w8 a b9 s7 Ge BD;simp only[Uac];have HP8:=aa (K1.ae.SR BD (np zu.ae));clear BD K1 HYB rb zu HOi HOh;generalize World.setCell w8 _ _=Px at*;have hk7:k<1000000:=by have:=HFN.ae;have:=XE.ae;omega
 go_wp2_with fail;go_roundw;case rel=>exact⟨k+1,b9,a,u',v',T7,yi++[Kx],s2,ti++[t2],kF++[⟨nm,ty⟩],hlt,by go_num,by have h:=HP8.ae;rw[append_assoc]at h;exact h,zv.ae,by have:=Az.ae;have:=HND.ae;have:=EP.ae;omega,by rw[length_append,rL.ae.1];rfl,by rw[length_append,rL.ae.2];rfl⟩
 case measure=>exact Za2):=h
def Zap(h:p:=by exact⟨λ hn=>(by rw[hg]at hn;cases hn),λ _=>rfl⟩):=h
def Zaq(h:p:=by
 cases sb
 ·go_wp2_with fail;go_roundw
  case rel=>
   refine⟨i+1,hlt,by go_num,λ j hj=>?_,hb1⟩;rcases Nat.lt_succ_iff_lt_or_eq.1 hj with hj|rfl;exact HP.ae j hj;exact HS.ae
  case measure=>exact Za2
 go_wp2_with fail;go_ret;refine⟨?_,hb1⟩;rw[xe HP.ae (by rw[getElem?_eq_getElem Tao];congr 1;have:=HS.ae;rw[getD_eq_getElem?_getD,getElem?_eq_getElem Tao]at this;exact this)];rfl):=h
def Zar(h:p:=by
 obtain⟨⟨e1,e2⟩,e0,e3⟩:=he;have b1:a<=s/\s<=m/\s<=mid:=WC;have b2:m<=mid+m-s/\mid+m-s<=b:=WC;obtain⟨f,hf⟩:∃f,f=mid+m-s:=⟨_,rfl⟩;rw[<-hf]at b2⊢;have r1:∀x,x<s->bS D s m f x=D x:=λ x hx=>by unfold bS;rw[if_neg WC]
 have r2:∀x,s<=x->x<mid->bS D s m f x=D (x+(m-s)):=λ x hx hx2=>by unfold bS;rw[if_pos WC,if_pos WC]
 have r3:∀x,mid<=x->x<f->bS D s m f x=D (x-(f-m)):=λ x hx hx2=>by unfold bS;rw[if_pos WC,if_neg WC]
 have r4:∀x,f<=x->bS D s m f x=D x:=λ x hx=>by unfold bS;rw[if_neg WC]
 refine⟨λ i j hi hj hb=>?_,λ i j hi hj hb=>?_,λ i j hi hj hb=>?_,λ i j hi hj hb=>?_,λ x y hx hx2 hy fq=>?_⟩;rw[r1 i WC,r1 j hb];exact h1 i j hi hj WC;rw[r2 i hi WC,r2 j WC hb];exact h2 _ _ WC WC WC;rw[r3 i hi WC,r3 j WC hb];exact h1 _ _ WC WC WC;rw[r4 i hi,r4 j WC];exact h2 _ _ WC hj hb;by_cases c1:x<s
 ·rw[r1 x c1];by_cases c2:y<f
  ·rw[r3 y hy c2];exact h1.le hx WC WC
  rw[r4 y WC];have h3:=h.low (s-1) WC WC;have h4:=not_lt.1 h3;rw[show mid+m-1-(s-1)=f by omega]at h4;exact le_trans (h1.le hx (show x<=s-1 by omega) WC) (le_trans h4 (h2.le WC WC fq))
 rw[r2 x WC hx2];by_cases c2:y<f;rw[r3 y hy c2];have h3:=h.high s aE WC;rw[show mid+m-1-s=f-1 by omega]at h3;exact le_trans (h2.le WC (show x+(m-s)<=f-1 by omega) WC) (le_trans (le_of_lt h3) (h1.le WC WC WC));rw[r4 y WC];exact h2.le WC WC fq):=h
def Zas(h:p:=by simp only[fo,cJ,Value.agg.injEq,Array.mk.injEq,List.cons.injEq,Value.int.injEq,Value.bool.injEq,true_and,and_true]at h;obtain⟨h1,h2,h3,h4,h5,rfl⟩:=h;exact Kab):=h
def zg0.KbR(h:p:=by
 generalize qV:(args.take i).map (·.2)=ks at*;have PV:=aa qV;have HG:=aa hG;have hbase:=hb.size;clear qV hG hb1 hb2 bN;go_wp2_with (first
  |(at_builtin
    refine aV rfl (.tmp 29) (.tmp 31) 38 rfl _ 32 underlying38 mD rfl WC v rfl Ta2 rfl HP.ae w2.heap.size rfl HG.ae WC WC hbase ?_;intro v4 w4 o4 g4;have b4:=bj HP.ae g4 hbase;have O4:=aa o4;clear o4 g4 HP HG))
 go_roundw;case rel=>exact Zek
 case measure=>exact Za2):=h
def zgL.KbN(h:p:=by go_upto_region 8 with fail;have bN:=ah w2 (.cells (aC v) 44);have hG:=aB.new w2 44 (aC v);open zg0 in exact Ze7):=h
def zcR.Kaw(h:p:=by unfold jZ at gO;have oC:=aa gO;clear gO;go_wp2_with fail;have bY:=ah wr (.cells (ay y) 46);refine(oC.ae _ (aj.then hb bY)).mono ?_;rintro e W3 ⟨rfl,b1⟩;unfold bP;have KK:=aj.then bY b1;clear bY b1 oC hex;go_upto_region 6 with fail;have HV:=aB.new W3 44 (aC v);have bG:=ah W3 (.cells (aC v) 44);have hb1:=aj.then KK bG;generalize W3.alloc _=w2 at*;obtain⟨gv,YS⟩:∃gv,gv=W3.heap.size:=⟨_,rfl⟩;rw[<-YS]at HV⊢;clear YS KK bG;open zgL in exact Ze2):=h
def Zat(h:p:=by open zcR in exact Zbg):=h
def zeJ.KaZ(h:p:=by go_wp2_with fail;refine(ml c.aG c.gA c.gn c.gc g3 t z W (by have:=iT.ae.gl;omega) (iT.ae.aG.later (ud.ae.base)) iT.ae.gok lq.ae (Cb.ae.later ud.ae.base) Ie.ae).mono ?_;rintro e w1 ⟨rfl,hb1⟩;rw[pj,hf];dsimp only;exact Kac):=h
def zic.Kcl(h:p:=by go_enter func99,ntmps99;open zeJ in exact ZcL):=h
def zfj.Kbc(h:p:=by have c4:=iB.cell 4;have c8:=iB.cell 8;have c10:=iB.cell 10;open zic in exact Zg8):=h
def Zau(h:p:=by open zfj in exact Zdq):=h
def Zav(h:p:=by
 have HD:=qu.ae;refine Am (P:=prog) (f:=bH) (val:=nt) (e:=46) (size:=7) (base:=qx) (l:=[]) (lv:=az) (Post:=anZ ρ x (cb::r)) (w0:=Rk) (q:=9) (d0:=121) (d1:=122) (d2:=123) (d3:=124) (d4:=125) (d5:=126) (d6:=127) (qb:=qx) (k:=6) (g:=ρ.g) (pq:=aw qx) (ptr:=aw ρ.g) (F:=184) (args:= #[aw ρ.g,af 0]) 23 23 _ 88 Taa Taa Taa Taa Taa rfl rfl ?_ ?_ ?_ ?_ ?_ ?_ ?_ underlying23 gh rfl WC (λ _=>rfl) (by intro y u hu;simp[bH]at hu;rcases hu with rfl|rfl|rfl|rfl|rfl|rfl|rfl<;>rfl) aH.nil ?_ WC ?_ ?_ Tad Tad WC ?_ ?_ ?_;exact Zcm;exact Zcm;exact ZdY;exact Zcm;exact Zfa
 ·intro ρ' w' y' h';simp[go_sem,h',nt,bH]
 exact ZgF;exact HX.ae.cell 6;simp[Value.ownBlock];simp[Value.ownBlock];intro w' hw';refine(HH.ae ρ w' (qu.ae.at_.later hw')).mono ?_;rintro e w'' ⟨y,rfl,ht,d⟩;exact⟨y,rfl,ht,d⟩;rintro y w' w'' ⟨ht,d⟩;exact d.grown;intro y s v' w1 gU w2 W fI ⟨ht1,M0⟩ hl2 ho2 bJ MX M3 cj;obtain⟨A,c,PH,lQ⟩:=Rf vo (M3 rfl rfl) (S:=jM (qx+1) W) (λ g h1 h2=>⟨by have:=fI.size;have:=M0.size;have:=hl2.size;omega,h2⟩);have PH:v'=.slice A 1 c:=PH;subst PH;have bJ:w2.grownBy W none:=bJ;have M5:=Ai bJ;have DW:=(((HD.later fI).trans M0).later hl2).later M5;have Rg:=(((HX.ae.later fI).grown M0.grown Tac).later hl2).later M5;have Up:=(((vz.ae.later fI).grown M0.grown Tac).later hl2).later M5;have htW:Tr.at_ W (jM (qx+1) W) x y:=((ht1.later hl2).later M5).more (by have:=fI.size;omega);have hxf:=Rg.frozen 6;have hw:=Rg.aW 6 (.slice A 1 c);have hl:=Up.far (p:=⟨qx,6,none⟩) Tac (.slice A 1 c);have hS:=DW.far ei (show w.heap.size<=qx by omega) 6 (.slice A 1 c);have hh:Tr.at_ _ _ x y:=htW.set (Nat.lt_succ_self qx) 6 (.slice A 1 c);have M7:=lQ.keep (tQ (Nat.lt_succ_self qx) 6 (.slice A 1 c));simp only[Uac]at hw;obtain⟨x0,x1,x2,x3,x4,x5,x6⟩:=bR hw;simp only[Act.put,Uac];have HS:=aa hS;have HO:=aa hw;have HL:=aa hl;have A1:=aa hh;have A2:=aa M7;skip;have hqW:=Rg.lt;have auO:=aa hqW;have hgW:ρ.g+1<W.heap.size:=WC;clear hS hw hl hh M7 Rg Up DW htW lQ MX M3 ho2 ht1 M0 fI hl2 bJ M5 hqW;go_wp2_with fail;have Lz:aB ((W.setCell ⟨qx,6,none⟩ (.slice A 1 c)).alloc (.cells (bL [eJ]) 9)) W.heap.size 9 (bL [eJ]):=by have:=aB.new (W.setCell ⟨qx,6,none⟩ (.slice A 1 c)) 9 (bL [eJ]);rwa [show(W.setCell ⟨qx,6,none⟩ (.slice A 1 c)).heap.size=W.heap.size by simp[World.setCell]]at this
 have Ty:=HS.ae.at_.later (ah _ (.cells (bL [eJ]) 9));refine(mQ HCB.ae ρ _ Ty W.heap.size Lz WC).mono ?_;rintro e w12 ⟨rfl,d12⟩;have Rj:=ah (W.setCell ⟨qx,6,none⟩ (.slice A 1 c)) (.cells (bL [eJ]) 9);have HXC:=(HO.ae.later Rj).grown d12.grown Tac;have Uu:=(HL.ae.later Rj).grown d12.grown Tac;have M8:=aa Uu;obtain⟨x0,x1,x2,x3,x4,x5,x6⟩:=bR HXC;obtain⟨z0,z1,z2,z3,z4,z5,z6⟩:=eA Uu;obtain⟨y0,y1,y2,y3,y4,y5,y6⟩:=bR Uu;have DC:=aa ((HS.ae.later Rj).trans d12);have B12:=aa Rj;have D12:=aa d12;clear HXC Uu d12 Rj;go_wp2_with fail;exact Kad):=h
def zgZ.KbR(h:p:=by
 generalize qV:(args.take i).map (·.2)=ks at*;have PV:=aa qV;have HG:=aa hG;have hbase:=hb.size;clear qV hG hb2 hb1 Oe bN hL;go_wp2_with (first
  |(at_builtin
    refine aV rfl (.tmp 31) (.tmp 33) 97 rfl _ 1 underlying97 pI rfl WC v rfl Ta1 rfl HP.ae W3.heap.size rfl HG.ae WC WC hbase ?_;intro v4 w4 o4 g4;have b4:=bj HP.ae g4 hbase;have O4:=aa o4;clear o4 g4 HP HG))
 go_roundw;case rel=>exact Zek
 case measure=>exact Za2):=h
def zih.Kcn(h:p:=by subst hte;have hb1:=aj.then Oe hL;clear yC k1 Pw Sh;go_upto_region 8 with fail;have bN:=ah W3 (.cells #[ag v] 5);have hG:=aB.new W3 5 #[ag v];open zgZ in exact Ze7):=h
def zhY.Kcf(h:p:=by replace q5: .tuple #[ag v,af He]=a5:=Eq.symm q5;subst q5;replace q6: .tuple #[ag v,af He]=a6:=Eq.symm q6;subst q6;replace q7: ag v=a7:=Eq.symm q7;subst q7;replace q8: af He=a8:=Eq.symm q8;subst q8;replace q3: ag v=a9:=Eq.symm q3;open zih in exact Zhg):=h
def zge.KbB(h:p:=by
 obtain⟨He,hte⟩:∃He:Int,He=0:=⟨_,rfl⟩;rw[<-hte]at yC;refine bD 11 (t5V y gp cV v He) (yY _ _ _ _ _) Taa Taa Taa ?_ ?_;exact Za0
 open zhY in exact Zgt):=h
def zcS.Kaw(h:p:=by open zge in exact ZeG):=h
def Zaw(h:p:=by open zcS in exact Zbg):=h
def Zax(h:p:=by
 intro W3 hL;simp only[Uab];rintro _ rfl a1-a2-a3-_ rfl a5-a6-a7-_ rfl;simp only[bw,Act.put,Uac];have eZ:=aa (Below.trans zM.ae (hL.mono zM.ae.size));have HX:=aa (V7.ae.later hL);have EC:=aa (KT.ae.later hL);have Ov:=aa (nE.ae.later hL);have FW:=aa (KH.ae.later hL);have SB:=aa (HK9.ae.keep hL.size λ b cur hqk=>hL.block b hqk.lt);clear hL zM V7 KT nE KH HK9 V8 Za YN;have hX:=FW.ae.at_ x (mem_of_getElem? Sz.ae);have yE:=aa hX;have UT:=HM.ae.rK x (mem_of_getElem? Sz.ae);have hsf:=vM (ops:=aD.map Tr.op) (ps:=gM gn aD ls) (k:=x.key) (λ op ho=>by obtain⟨t,ht,rfl⟩:=List.mem_map.1 ho;exact HS.ae t ht) (by unfold gM;rw[length_map];have h3:=HLS.ae;have h4:=Fp.ae;omega);have hye:(aD.map λ t=>t.args.length).sum=ye.length:=by rw[<-dZ Nj.ae,length_flatMap]
 have V9:ya.length=aD.length:=(dZ ox.ae.ta).symm;have Vz:=Au gp x.g w0.heap.size w0.heap.size ya AA ac (.slice x.KA x.key.length x.kc) x.sv x.qs x.ss (l.drop gn) (fk XA xc gn) (xc-gn) W3 (by have:=A2.ae;omega) ox.ae.lt eZ.ae.size ((eZ.ae.cell (p:=⟨gp,9,none⟩) ox.ae.lt).trans ox.ae.c9) (ox.ae.ra.below eZ.ae) hX.blk hX.own hX.rK
  (by rw[hX.rK.len,UT,nZ,length_map,V9]) ⟨SB.ae.rv.UJ gn xc (by have:=Sy.ae;omega),zD (SB.ae.off hX.rK)⟩ (by rw[length_drop];have:=Sy.ae;omega)
  (by rw[HFN.ae,DZ,hye,wh.ae];exact aE)
  (λ y hy=>by
    have h1:y.n∈aD.map λ t=>t.args.length:=by rw[<-HFN.ae];exact mem_map_of_mem hy
    obtain⟨t,ht,he⟩:=List.mem_map.1 h1;rw[<-he];exact HO.ae t ht)
  (λ s LT=>(hsf s (by rw[<-UT];exact LT)).1) (λ v hv=>P9.ae v (mem_of_mem_drop hv)) (by rw[wh.ae];have:=HJ.ae;omega)
 rw[HFN.ae,Kz aD (l.drop gn) HO.ae (by rw[hye,wh.ae];exact aE)]at Vz;have Fq:(l.drop gn).length=xn-gn:=by rw[length_drop,pC.ae]
 rw[Fq,<-HQ.ae]at Vz;have HFD:=aa Vz;clear hX UT hsf hye V9 Vz Fq;go_wp2_with fail;refine HFD.ae.mono ?_;rintro e w11 ⟨rfl,hst,Py⟩;have ajW:=aa (FW.ae.feed Sz.ae Py hst);have ajX:=aa (Below.trans eZ.ae (Py.low eZ.ae.size λ q hq=>(yE.ae.rK.low q hq).1));have X0:=aa (HX.ae.turn Py yE.ae.rK Tab);have X5:=aa (Ov.ae.turn Py yE.ae.rK Tab);have X6:=aa (Py.blk EC.ae (yE.ae.rK.uN EC.ae Tab));clear hst Py FW eZ HX Ov EC yE HFD SB;go_wp2_with fail;go_roundw
 case rel=>
  refine⟨k+1,_,hlt,by go_num,ajX.ae,X0.ae,?_,?_,ajW.ae,?_⟩;rw[UK.ae];exact X6.ae;rw[aha Sz.ae];exact X5.ae;rw[HS1.ae];exact HM.ae.feed Sz.ae HKEY.ae
 case measure=>exact Za2):=h
def Zay(h:p:=by have z0:=k1.cell 0;have z1:=k1.cell 1;have x2:=k1.cell 2;have x3:=k1.cell 3;have x4:=k1.cell 4;have x5:=k1.cell 5;have x6:=k1.cell 6;simp only[Uaa]at z0 z1 x2 x3 x4 x5 x6;exact Kae):=h
def Zaz(h:p:=by have b1:=ah w (.cells #[ag 0,au,az,au,af 0,au,af 0,.slice L.i.A L.i.n L.i.c,.string q.bU,.bool q.only,.slice L.w.A L.w.n L.w.c,.slice L.g.A L.g.n L.g.c,.slice L.h.A L.h.n L.h.c,.slice L.o.A L.o.n L.o.c,.slice L.l.A L.l.n L.l.c,ag 0,au,af 0,af 0,az,az,az,ag 0,af 0,au,ag 0,af 0,au] 64);have k1:=aB.new w 64 #[ag 0,au,az,au,af 0,au,af 0,.slice L.i.A L.i.n L.i.c,.string q.bU,.bool q.only,.slice L.w.A L.w.n L.w.c,.slice L.g.A L.g.n L.g.c,.slice L.h.A L.h.n L.h.c,.slice L.o.A L.o.n L.o.c,.slice L.l.A L.l.n L.l.c,ag 0,au,af 0,af 0,az,az,az,ag 0,af 0,au,ag 0,af 0,au];have eZ:=aa b1;have Kx:=aa k1;unfold Pr;exact Kaf):=h
def ZaA(h:p:=by clear hr;have dy:=aI hR;have iA:=aB.frozen hR;clear hR;go_wp2_with fail;exact bodyPost_ret (v:=.tuple #[.agg #[ag (r,(0:Int)).1.k,af (r,(0:Int)).1.n,.string (r,(0:Int)).1.s],af (r,(0:Int)).2]) (by simp[results,results169,go_sem,dy]) rfl ⟨by have:=HE.ae;injection this with h1 h2;rw[<-h1];rfl,((hB.setCell (bJ) _).setCell (bJ) _).setCell (bJ) _⟩):=h
def zd5.KaO(h:p:=by
 have n2:((tk.w.k:Int)==2)=false:=by rw[beq_eq_false_iff_ne];have:=xF.ae.i;omega
 have n3:((tk.w.k:Int)==3)=false:=by rw[beq_eq_false_iff_ne];have:=xF.ae.s;omega
 go_wp2_with fail;exact Kag):=h
def ZaB(h:p:=by open zd5 in exact Zcg):=h
def zes.KaU(h:p:=by
 have hfo:mL n=some OP:=by rw[HN.ae];exact HFN.ae
 have HFO:=aa hfo;have Fq:n.toList=n.data.toList:=ByteArray.toList_eq n;have zv:=aa Fq;clear hfo Fq;go_wp2_with fail;have Us:=aj.then (ah w6 (.cells (bL uu) 9)) (ah _ (.cells (zt nC) 5));have NB:=(aB.new w6 9 (bL uu)).alloc (.cells (zt nC) 5);have OB:=aB.new (w6.alloc (.cells (bL uu) 9)) 5 (zt nC);rw[World.size_alloc]at OB;have Ut:=aa (YR.ae.later Us);have Kf:=aa (Ri.ae.later Us);have hs8:=Us.size;have rb:=aa NB;have Nk:=aa OB;clear NB OB Us YR Ri;show Code.wp _ _ _ _ ((w6.alloc (.cells (bL uu) 9)).alloc (.cells (zt nC) 5));generalize (w6.alloc (.cells (bL uu) 9)).alloc (.cells (zt nC) 5)=W8 at*;generalize w6.heap.size=nb at*;exact Kah):=h
def ZaC(h:p:=by open zes in exact ZcE):=h
def ZaD(h:p:=by
 have HE:=aa he;have t1:(!y==n.toList)=false:=by rw[zv.ae];rw[beq_iff_eq]at he;simp[he]
 have vw:mL n=some o:=by rw[Fp.ae,HST.ae,he];rfl
 clear he;obtain rfl:o=OP:=by rw[HFO.ae]at vw;injection vw with vw;exact vw.symm
 have c3:=(Nk.ae.later iJ.ae).cell k;rw[show(zt nC)[k]?=some (ag o) by simp[zt,xG.ae]]at c3;have d8:=Ut.ae.later iJ.ae;have hsw:=iJ.ae.size;go_wp2_with fail;refine(mQ Nj.ae ρ _ (d8.at_.later (ah wr (.cells (bL [eN]) 9))) wr.heap.size (aB.new _ _ _) WC).mono ?_;rintro e vy ⟨rfl,d10⟩;have c4:=(((Nk.ae.later iJ.ae).alloc (.cells (bL [eN]) 9)).grown d10.grown (by simp;have:=Nk.ae.lt;omega)).cell k;rw[show(zt nC)[k]?=some (ag o) by simp[zt,xG.ae]]at c4;have Kg:=d10.size;have Nl:=aa ((d8.later (ah wr (.cells (bL [eN]) 9))).trans d10);have zw:=aa (d10.blk ((Kf.ae.later iJ.ae).later (ah wr (.cells (bL [eN]) 9))) WC);have agu:w.heap.size+2<=vy.heap.size:=by simp at Kg;omega
 clear d10 d8 c3 Kg Ut Kf rb;exact Kai):=h
def ZaE(h:p:=by clear vG;have x0:=hR.cell 0;have x1:=hR.cell 1;have z2:=hR.cell 2;have z3:=hR.cell 3;have z4:=hR.cell 4;have z5:=hR.cell 5;have z6:=hR.cell 6;simp only[Uaa]at x0 x1 z2 z3 z4 z5 z6;exact Kaj):=h
def ZaF(h:p:=by have c4:=b4.cell 0;have c5:=(b5.far (p:=⟨g4,0,none⟩) (Ne.symm vS) (.pointer none)).cell 0;have f4:=b4.frozen 0;have f5:=(b5.far (p:=⟨g4,0,none⟩) (Ne.symm vS) (.pointer none)).frozen 0;simp only[getElem?_toArray,getElem?_cons_zero]at c4 c5;clear b4 b5 vS;exact Kak):=h
def ZaG(h:p:=by
 have hall:=eh h0;have ha:a=fill (λ d=>a.eval (.tmp d)) l a0:=by
  have h1:a.tmps=(fill (λ d=>a.eval (.tmp d)) l a0).tmps:=by
   apply Array.ext_getElem?;intro t;by_cases ht:t<a0.tmps.size
   ·rw[rP _ _ _ _ ht];split
    ·simp[Act.eval,I.size,ht]
    rename_i hno;refine I.old t ?_;intro i o hi hd _;exact hno ⟨o,mem_of_getElem? hi,hd⟩
   rw[Array.getElem?_eq_none (by rw[I.size];omega),Array.getElem?_eq_none (by rw[oI];omega)]
  have h2:a.defers=(fill (λ d=>a.eval (.tmp d)) l a0).defers:=by rw[kM,I.defers]
  exact BI h1 h2
 exact Kal):=h
def ZaH(h:p:=by
 have k0:=λ y:Ext wr.heap.size wr=>(HP.ae.later y.h).c0;have k1:=λ y:Ext wr.heap.size wr=>(HP.ae.later y.h).c1;have m0:=λ y:Ext wr.heap.size wr=>(HP.ae.later y.h).d0;have m1:=λ y:Ext wr.heap.size wr=>(HP.ae.later y.h).d1;have m2:=λ y:Ext wr.heap.size wr=>(HP.ae.later y.h).d2;have m3:=λ y:Ext wr.heap.size wr=>(HP.ae.later y.h).d3;go_wp2_with fail;refine aR 13 wr.heap.size wr cX Taa Taa Taa Taa ?_;simp only[Uab];repeat (go_big_quiet_step (first
  |(go_at_call 200;exact aN aE (hbz _))))
 refine wpQuiet_nil ?_;rintro W4 ⟨y2,fq⟩;have hL:=y2.h;rw[<-fq]at hL;clear fq y2 k0 k1 m0 m1 m2 m3 c2;exact Kam):=h
def ZaI(h:p:=by have k:=dR (B:=w.heap.size) cL rfl bJ HO.ae;exact⟨_,by rw[rz.ae];rfl,k.2,hB.trans k.1.below⟩):=h
def ZaJ(h:p:=by obtain⟨f0,Mh,rfl,Cx,hen,mE⟩:=HD0.ae;have Fm:=aa (mE _ A8 c8 HDB.ae Cv.ae);clear mE;have z0:=k1.cell 0;have z1:=k1.cell 1;have x2:=k1.cell 2;have x3:=k1.cell 3;have x4:=k1.cell 4;have x5:=k1.cell 5;have x6:=k1.cell 6;have x0:=hR.cell 0;have x1:=hR.cell 1;have z2:=hR.cell 2;have z3:=hR.cell 3;have z4:=hR.cell 4;have z5:=hR.cell 5;simp only[Uaa]at z0 z1 x2 x3 x4 x5 x6 x0 x1 z2 z3 z4 z5;have dy:=aI cL;have iA:=aB.frozen cL;exact Kan):=h
def zgY.KbR(h:p:=by
 generalize qV:(args.take i).map (·.2)=ks at*;have PV:=aa qV;have HG:=aa hG;have hbase:=hb.size;clear qV hG hb2 hb1 KK bY bN gO hex;go_wp2_with (first
  |(at_builtin
    refine aV rfl (.tmp 30) (.tmp 32) 97 rfl _ 1 underlying97 pI rfl WC v rfl Ta1 rfl HP.ae W3.heap.size rfl HG.ae WC WC hbase ?_;intro v4 w4 o4 g4;have b4:=bj HP.ae g4 hbase;have O4:=aa o4;clear o4 g4 HP HG))
 go_roundw;case rel=>exact Zek
 case measure=>simp[intOf];omega):=h
def ziS.KcC(h:p:=by have bN:=ah W3 (.cells #[ag v] 5);have hG:=aB.new W3 5 #[ag v];open zgY in exact Ze7):=h
def zcT.Kaw(h:p:=by open ziS in exact ZiL):=h
def ZaK(h:p:=by open zcT in exact Zbg):=h
def ZaL(h:p:=by have cQ:=λ y:Ext W.heap.size W=>(lx.later y.h).cell 0;simp only[getElem?_toArray,getElem?_cons_zero]at cQ;have bJ:w.heap.size<=w.heap.size+1:=WC;exact Kao):=h
def ZaM(h:p:=by
 have key:∀A W U,A.defers=d->SS w0 g n W U->Sw mid b S U->cT U mid b->Q .normal A W:=λ A W U k0 k1 k2 k3=>by have e:=JD ⟨by omega,by omega⟩ HO.ae.q5 HW.ae k2 HL.ae k3;exact HQ.ae _ _ k0 ⟨rfl,U,k1,HD.ae.trans e.2,e.1⟩
 have HK:=aa key;clear key;by_cases c:mid<f/\f<b
 ·have u1:decide (mid<f)=true:=decide_eq_true c.1;have u2:decide (f<b)=true:=decide_eq_true c.2;have C:=aa c;clear c;go_wp2_with fail;refine(HI.ae.2.2 mid f b S _ C.ae.1 C.ae.2 HI.ae.1 WC HS.ae Q3.ae Q4.ae).mono ?_;rintro e_ w7 ⟨rfl,U,k1,k2,k3⟩;have K1:=aa k1;have K2:=aa k2;have K3:=aa k3;clear k1 k2 k3;go_wp2_with fail;exact HK.ae _ _ U rfl K1.ae K2.ae K3.ae
 have H6:cT S mid b:=by rcases(show f=mid\/f=b by omega)with e|e;have:=Q4.ae;rwa [e]at this;have:=Q3.ae;rwa [e]at this
 have H6:=aa H6;by_cases c1:mid<f
 ·have u1:decide (mid<f)=true:=decide_eq_true c1;have u2:decide (f<b)=false:=decide_eq_false λ e=>c ⟨c1,e⟩
  exact Zif
 have u1:decide (mid<f)=false:=decide_eq_false c1;exact Zif):=h
def ZaN(h:p:=by
 refine wp_seq_k λ K hK=>?_;have Fl:=aa hK;clear hK;go_wp2_with fail;refine Fl.ae _ _ ?_;clear Fl zf;refine wp_seq_k λ K hK=>?_;have Fl:=aa hK;clear hK;by_cases c:s<m/\m<f
 ·have u1:decide (s<m)=true:=decide_eq_true c.1;have u2:decide (m<f)=true:=decide_eq_true c.2;have C:=aa c;clear c;go_wp2_with fail;refine(vd w0 g n cap s m f D _ HS.ae HI.ae.2.1 C.ae.1 C.ae.2 WC).mono ?_;rintro e_ w7 ⟨rfl,k1⟩;have K1:=aa k1;clear k1;go_wp2_with fail;exact Fl.ae _ _ (HY.ae _ K1.ae (JC D s m f C.ae.1 C.ae.2) _ ⟨rfl,rfl,rfl,rfl,rfl,rfl,rfl,rfl,rfl,rfl⟩)
 have e1:bS D s m f=D:=by rcases(show s=m\/f=m by omega)with e|e;rw[e];exact yO D m f;rw[e];exact ve D s m
 rw[e1]at HY;clear e1;by_cases c1:s<m
 ·have u1:decide (s<m)=true:=decide_eq_true c1;have u2:decide (m<f)=false:=decide_eq_false λ e=>c ⟨c1,e⟩
  exact Zgc
 have u1:decide (s<m)=false:=decide_eq_false c1;exact Zgc):=h
def zff.Kba(h:p:=by exact Kap):=h
def ZaO(h:p:=by open zff in exact Zdf):=h
def ZaP(h:p:=by
 refine wp_seq_k λ K hK=>?_;have Fl:=aa hK;clear hK;by_cases c:a<s/\s<mid
 ·have u1:decide (a<s)=true:=decide_eq_true c.1;have u2:decide (s<mid)=true:=decide_eq_true c.2;have C:=aa c;clear c;go_wp2_with fail;refine(HI.ae.2.2 a s mid R _ C.ae.1 C.ae.2 WC WC HS.ae HO.ae.q1 HO.ae.q2).mono ?_;rintro e_ w7 ⟨rfl,U,k1,k2,k3⟩;have K1:=aa k1;have K2:=aa k2;have K3:=aa k3;clear k1 k2 k3;go_wp2_with fail;exact Fl.ae _ _ (HY.ae U _ K1.ae K2.ae K3.ae _ ⟨rfl,rfl,rfl,rfl,rfl,rfl,rfl,rfl,rfl,rfl⟩)
 have H6:cT R a mid:=by rcases(show s=a\/s=mid by omega)with e|e;have:=HO.ae.q2;rwa [e]at this;have:=HO.ae.q1;rwa [e]at this
 have H6:=aa H6;by_cases c1:a<s
 ·have u1:decide (a<s)=true:=decide_eq_true c1;have u2:decide (s<mid)=false:=decide_eq_false λ e=>c ⟨c1,e⟩
  exact ZfV
 have u1:decide (a<s)=false:=decide_eq_false c1;exact ZfV):=h
def zdW.KaL(h:p:=by
 have h21:=(aT u (show 21<220 by decide)).symm.trans XO;have JM:=(aT u (show 22<220 by decide)).symm.trans e22;have EK:=(aT u (show 24<220 by decide)).symm.trans hT.t24;simp only[Xv,List.range,List.range.loop,List.map,h0,h1,h2,h3,h4,EH,EI,EJ,h21,JM,EK];clear hT h0 h1 h2 h3 h4 EH EI EJ h21 JM EK XO e22;have HI:=aa hI;have HQ:=aa hQ;have mixed:prog.follows .mixedOrders=true:=Taa;clear hI hQ;have HS:=aa hS;have HO:=aa hw;have HL:=aa hl;have A1:=aa hh;have A2:=aa M7;have bn:=HI.ae.1;have bn2:=HI.ae.2.1;have o:a<mid/\mid<b/\a<=s0/\s0<=r0/\r0<=m/\r0<=mid/\mid+m<=s0+b/\p+1=mid+m:=by have:=hw.ab;have:=hw.B6;have:=hw.ends;omega
 clear hS hw hl hh M7;exact Kaq):=h
def ZaQ(h:p:=by open zdW in exact Zb9):=h
def ZaR(h:p:=by go_wp2_with fail;refine(gX _ (Yi.ae.env.later CQ.ae)).mono ?_;exact Zew):=h
def ZaS(h:p:=by
 have HA:=aa hA;have HE:=aa hE;clear hA hE;go_enter func150,ntmps150;go_wp2_with fail;go_loopw [5,8] (λ _ Kx wr=>∃i:Nat,i<=args.length/\Kx=af i/\(∀j,j<i->(args.map (·.2)).getD j false=false)/\ai w wr) (λ _ Kx _=>args.length-(intOf Kx).toNat);case atStart=>exact ZfY
 case round=>
  obtain⟨i,hk,rfl,hp,hb⟩:=hrel;have HP:=aa hp;clear hp;by_cases hlt:i<args.length
  ·obtain⟨b,off,rfl,ly,hex⟩:=(HA.ae.below hb).at_ (show i <(args.map (·.1)).length by simpa using hlt);have jR:(args.map (·.1))[i]' Tao=args[i].1:=by simp
   rw[jR]at hex;clear jR;have gO:=HE.ae args[i] (getElem_mem hlt);have hS:=CP hlt;generalize args[i]=yb at*;obtain⟨y,sb⟩:=yb;dsimp only at*;have HS:=aa hS;have oC:=aa gO;clear hS gO;unfold cC at hex;go_wp2_with fail;refine(oC.ae _ hb).mono ?_;rintro e w1 ⟨rfl,b1⟩;have hb1:=aj.then hb b1;clear hex b1 hb;exact Zaq
  exact ZdK):=h
def ZaT(h:p:=by
 have t1:((i:Int) !=(j:Int))=true:=Tac;have z1:(m:Int)-(i:Int)=((m-i:Nat):Int):=WC;by_cases hlt:j<i
 ·have t2:decide ((j:Int)<(i:Int))=true:=by simp;omega
  go_wp2_with fail;refine(eX w0 g n cap (m-i) m j E wr H2.ae hn WC WC).mono ?_;rintro e_ w1 ⟨rfl,hs⟩;have H3:=aa hs;have HR3:=aa ((sj E m i j WC hlt).trans HR.ae);clear hs H2 HR z1 t1;go_wp2_with fail;go_roundw;case rel=>exact⟨i-j,j,_,by omega,by omega,by omega,by omega,by go_num,rfl,H3.ae,HR3.ae⟩
  case measure=>simp[intOf];omega
 have t2:decide ((j:Int)<(i:Int))=false:=by simp;omega
 have z2:(m:Int)+(j:Int)-(i:Int)=((m+j-i:Nat):Int):=WC;go_wp2_with fail;refine(eX w0 g n cap (m-i) (m+j-i) i E wr H2.ae hn WC WC).mono ?_;rintro e_ w1 ⟨rfl,hs⟩;have H3:=aa hs;have HR3:=aa ((sk E m i j WC WC).trans HR.ae);clear hs H2 HR z1 t1 z2;go_wp2_with fail;go_roundw;case rel=>exact⟨i,j-i,_,by omega,by omega,by omega,by omega,rfl,by go_num,H3.ae,HR3.ae⟩
 case measure=>simp[intOf];omega):=h
def ZaU(h:p:=by
 have HQ:=aa (aB.new w 46 #[ag 0,ag 0,af 0,au,au,af 0,az]);have hsz:(w.alloc rI).heap.size=w.heap.size+1:=Tad;unfold rI at*;go_enter func184,ntmps184;go_wp2_with (first
  |(go_at_call 87;refine hm.mono ?_;rintro e w1 ⟨rfl,d1⟩)
  |(go_at_call 184;refine(H ρ w1 d1.at_).mono ?_;rintro e w2 ⟨y,rfl,ht,d2⟩;unfold nt bH;have D:=(eQ.df h hb).trans (d1.trans d2);have Ao:=d2.blk (d1.blk HQ.ae WC) WC;have hqs:=d2.size;have auI:=d1.size;have nV:=Ao.alloc (.cells #[ag y.op,ag y.v.k,af y.v.n,.string y.v.s,.string y.name,af y.width,.slice y.A y.n y.c] 46);obtain⟨z0,z1,z2,z3,z4,z5,z6⟩:=eA nV;obtain⟨y0,y1,y2,y3,y4,y5,y6⟩:=bR nV;obtain⟨x0,x1,x2,x3,x4,x5,x6⟩:=dw (aB.new w2 46 (bH y).toArray);unfold bH at x0 x1 x2 x3 x4 x5 x6))
 have HP:=eB nV y;have HR:=dw HP;unfold dY at HR;obtain⟨r0,r1,r2,r3,r4,r5,r6⟩:=HR;refine bodyPost_ret (v:=nt y) ZeL rfl ?_;exact Pq.put ei aE (D.later (ah w2 _)) ((ht.later (ah w2 _)).more WC)):=h
def ZaV(h:p:=by simp only[take_succ_cons,take_zero];refine⟨?_,Zaa,Zaa,Zaa,?_,?_,Zaa,Zaa,Zaa,Zaa,?_,trivial⟩;intro ρ W4 hc hL hr;have h0:_=_:=hr.1;have cL:=XE.ae.later hL;exact Zbo;intro ρ W4 hc hL hr;have h0:_=_:=hr.1;have jP:=(hL.cell (p:=⟨gp,10,none⟩) Sh.ae).trans Pw.ae;exact Zd5;intro ρ W4 hc hL hr;have h0:_=_:=hr.1;have h1:_=_:=hr.2.1;have e1:=hc.func 59;refine bu (f:=59) (args:= #[.agg (ay Kx),.slice VA s1.aG.length vc]) (w':=W4) Tat ?_;exact ZgZ;exact Zaa):=h
def ZaW(h:p:=by simp only[Uaa]at c0;exact Zd6):=h
def zfD.Kbl(h:p:=by obtain⟨⟨y,z⟩,sb⟩:=yb;dsimp only at*;have HS:=aa hS;have oC:=aa gO;clear hS gO;unfold cC at hex;exact ZfW):=h
def ZaX(h:p:=by
 go_wp2_with fail;go_loopw [5,8] (λ _ Kx wr=>∃i:Nat,i<=args.length/\Kx=af i/\(∀j,j<i->(args.map (·.2)).getD j false=false)/\ai w wr) (λ _ Kx _=>args.length-(intOf Kx).toNat);case atStart=>exact ZfY
 case round=>
  obtain⟨i,hk,rfl,hp,hb⟩:=hrel;have HP:=aa hp;clear hp;by_cases hlt:i<args.length
  ·open zfD in exact ZdU
  exact ZdK):=h
def ZaY(h:p:=by intro ρ W4 hc hL hr;have h0:_=_:=hr.1;exact aq (v:=.pointer (some ⟨gp,0,none⟩)) (w':=W4) Tak ⟨AR.refl _,rfl⟩):=h
def ZaZ(h:p:=by
 simp only[Dm,Bool.and_eq_true,beq_iff_eq,Option.isNone_iff_eq_none]at Dn;obtain⟨⟨⟨⟨⟨⟨⟨⟨⟨⟨⟨⟨⟨⟨⟨⟨⟨⟨⟨⟨⟨⟨⟨⟨⟨⟨⟨⟨t0,s0⟩,t1⟩,m2⟩,t2⟩,m0⟩,t3⟩,m3⟩,t4⟩,s4⟩,t5⟩,s5⟩,s5'⟩,t6⟩,s6⟩,e0⟩,e1⟩,e2⟩,e3⟩,e4⟩,e5⟩,e6⟩,g0⟩,g1⟩,g2⟩,g3⟩,g4⟩,g5⟩,g6⟩:=Dn;have YQ:qb<w0.heap.size:=(by rcases gR qb w0.heap.size with h|h;exact h;exact absurd hcell (by unfold World.cell?;rw[Array.getElem?_eq_none h];simp));have xE:∀{y w1 gU w},aj w0 w1->Post y w1 gU->aj gU w->w.cell? ⟨qb,k,none⟩=some lv/\aH f e size w base lv l/\w0.heap.size<=w.heap.size:=by intro y w1 gU w ha hb hc;have hg:=Uo _ _ _ hb;have z1:qb<w1.heap.size:=eS YQ ha.size;have z2:qb<gU.heap.size:=eS z1 hg.size;refine⟨?_,?_,fK ha.size (fK hg.size hc.size)⟩;rw[hc.cell (p:=⟨qb,k,none⟩) z2,qp hg (p:=⟨qb,k,none⟩) z1 (λ e=>Vx Tbl),ha.cell (p:=⟨qb,k,none⟩) YQ];exact hcell;exact((hown.later ha).grown hg YP).later hc
 exact Kar):=h
def Za0(h:p:=by simp only[take_succ_cons,take_zero];refine⟨?_,Zaa,Zaa,Zaa,Zcu,?_,Zaa,Zaa,Zaa,Zaa,?_,trivial⟩;intro ρ W4 hc hL hr;have h0:_=_:=hr.1;have jP:=(k1.later hL).cell;have y0:=jP 0;have y1:=jP 1;have c2:=jP 2;have y3:=jP 3;have y4:=jP 4;have y5:=jP 5;have y6:=jP 6;exact ZeP;intro ρ W4 hc hL hr;have h0:_=_:=hr.1;have h1:_=_:=hr.2.1;have e1:=hc.func 59;refine bu (f:=59) (args:= #[.agg (ay y),cV]) (w':=W4) Tat ?_;exact ZgZ;exact Zaa):=h
def Za1(h:p:=by
 intro ρ W4 hc hL hr;cases gd;exact Zg0
 skip;cases nz
 exact Zc5
 skip;intro hg;have hg:ρ (.tmp 26)=.bool true:=hg;exact Zal):=h
def Za2(h:p:=by simp[intOf];omega):=h
def zeQ.Ka2(h:p:=by exact bodyPost_ret (v:=.tuple #[.agg #[ag 0,af 0,.string ByteArray.empty],af 40]) Tah rfl ⟨congrArg (λ r:Val×Int=>Ending.returned (bP r.1 r.2)) NE.ae.symm,((hB.setCell bJ _).setCell bJ _).setCell bJ _⟩):=h
def Za3(h:p:=by have NE:=aa (Fz.ae (aM,40) (by unfold jm;simp only[map_cons,map_nil];rw[um.ae,hs,if_pos rfl]));open zeQ in exact ZcO):=h
def Za4(h:p:=by simp only[execOp,resolve,invoke,builtin,Sem.run_bind,Sem.run_pure,Result.andThen_ok,map_toArray,map_cons,map_nil,vY,Fk,nX]):=h
def Za5(h:p:=by
 go_wp2_with fail;refine hi.mono ?_;rintro e w1 ⟨rfl,b1⟩;clear hi;by_cases h:0<=gI (args.map (·.2))
 ·have t1:=decide_eq_true h;go_wp2_with fail;go_ret;exact⟨by rw[t1];rfl,b1⟩
 have t1:=decide_eq_false h;go_wp2_with fail;go_ret;exact⟨by rw[t1];rfl,b1⟩):=h
def Za6(h:p:=by refine⟨rfl,?_⟩;unfold rM at hG;rw[if_neg Tab];show(execOp ρ _).run prog Fu=.ok (.value (aw gp)) Fu;simp[go_sem,r0]):=h
def Za7(h:p:=by
 intro N
 induction N generalizing D with
 |zero=>intro i j h h0 h1;omega
 |succ N ih=>
   intro i j h h0 h1 zQ;rcases Nat.lt_trichotomy i j with h2|h2|h2;have h3:=ih (dT D (m-i) (m+j-i) i) i (j-i) WC h0 WC zQ;rw[sk D m i j zQ h2]at h3;exact((jB D (m-i) (m+j-i) i WC).mono aE WC).trans (h3.mono aE WC);subst h2;rw[<-sq D m i zQ];exact jB D (m-i) m i WC;have h3:=ih (dT D (m-i) m j) (i-j) j WC WC h1 WC;rw[sj D m i j zQ h2]at h3;exact((jB D (m-i) m j WC).mono aE WC).trans (h3.mono WC aE)):=h
def Za8(h:p:=by simp[results,results42,go_sem,y0,y1,c2,y3,o4,o5]):=h
def Za9(h:p:=by refine(Hi (s.extract at_ k) _ (by rw[ByteArray.size_extract];omega)).mono ?_;rintro e w1 ⟨rfl,b1⟩;have HE:=aa (show(s.extract at_ k).data.toList=(s.data.toList.drop at_).takeWhile fj by rw[<-nK.ae];exact nT fj s at_);obtain⟨z0,z1,z2,z3,y0,y1,y2,y3⟩:=bM (HZ.ae.later b1);rw[HE.ae];go_wp2_with fail;refine bodyPost_ret (v:=.tuple #[.agg #[ag 1,.string ⟨(((s.data.toList.drop at_).takeWhile fj).map xt).toArray⟩,af 0,af at_],af k,af 0]) ZbS rfl ?_;rw[HC.ae,nK.ae,if_pos h32];unfold Bj;simp only;rw[xz fj s WC,nK.ae];exact⟨rfl,xA (bb.trans (b1.mono bb.size)) aE _ _ _ _⟩):=h
def Zba(h:p:=by
 simp only[take_succ_cons,take_zero];refine⟨Zaa,Zaa,Zaa,?_,Zgx,Zaa,Zaa,Zaa,?_,trivial⟩
 ·intro ρ W4 hc hL hr;have h0:_=_:=hr.1;have h1:_=_:=hr.2.1;exact aq (v:=aY lb i) (w':=W4) (by have wD:=HJL.ae;simp[go_sem,h0,h1,wD,dX];done) ⟨aj.refl _,rfl⟩
 exact ZgJ):=h
def zd2.KaN(h:p:=by go_wp2_with fail;have iB:=vF.ae.blk;unfold PC.cells at iB;have c8:=iB.cell 8;simp only[Uaa]at c8;refine(Tr.MO Tbe gp t z w2 lq.ae (Cb.ae.later vF.ae.base) ((iT.ae.cols.later vF.ae.base)) iB.lt c8).mono ?_;rintro e W4 ⟨rfl,hb3⟩;have NW:=aa (vF.ae.later hb3);have Fs:=aa (BW.ae.later hb3);have NY:=YW.ae.later hb3;have ux:=aa (aj.then fT.ae hb3);clear z0 z1 x2 x3 x4 x5 x6 c8 iB hb3 BW YW fT vF;rw[ht];dsimp only;exact Kas):=h
def zf9.Kby(h:p:=by rw[Ed,ha]at vZ;have HIS:=aa vZ;have WU:=aa Ed;clear c4 c8 c10 hb1 hf vZ Ed Ie uv;go_wp2_with fail;have Xd:=aa lz;have KK:=aa Lw;have hop:=WU.ae;rw[hop];refine(HIS.ae w1).mono ?_;rintro e w2 ⟨rfl,hb2⟩;rw[<-hop];have vF:=aa (Ec.ae.later hb2);have hb:=Xd.ae.later hb2;have YW:=aa (KK.ae.later hb2);have fT:=aa (aj.then Bf.ae (aj.then eZ.ae hb2));clear hxo lz Lw hb2 hop Xd KK eZ Ec;open zd2 in exact Zcf):=h
def Zbb(h:p:=by open zf9 in exact Zet):=h
def zhc.KbV(h:p:=by exact Kat):=h
def Zbc(h:p:=by open zhc in exact Zfg):=h
def Zbd(h:p:=by have HE:=aa hr;clear hr;have dy:=aI hR;have iA:=aB.frozen hR;clear hR;go_wp2_with fail;exact bodyPost_ret (v:=.tuple #[.agg (aC r.1),af r.2]) (by simp[results,results167,go_sem,dy]) rfl ⟨by rw[HE.ae];rfl,((hB.setCell (bJ) _).setCell (bJ) _).setCell (bJ) _⟩):=h
def zeV.Ka3(h:p:=by
 have hsm:=h.small;unfold rI at*;unfold dx.ptr;go_enter func184,ntmps184;go_wp2_with (first
  |(go_at_call 184;refine(H1 ρ _ h0).mono ?_;rintro e w2 ⟨y,rfl,ht,d2⟩;unfold nt bH))
 have hA:AtC ρ w w.heap.size w2.heap.size (w2.alloc (vu y)) _ t y:=
  ⟨((eQ.df h hb).trans d2).later (ah _ _),aB.new w2 _ _,(d2.blk HQ.ae WC).alloc _,Tr.at_.keep (QN _ (by rw[hsz];exact aE)) _ _ ht⟩
 have hqx:w.heap.size+1<=w2.heap.size:=by have:=d2.size;omega
 unfold vu bH at hA;generalize w2.alloc _=W at*;generalize w2.heap.size=qx at*;have A:=hA;clear hA ht d2 h0 hb HQ;have Js:=cy ρ W _ false A.did.at_ ⟨#[105,115]⟩ vZ;have aiS:=aa hop;clear hop vZ;refine Js.mono ?_;rintro e w1 ⟨rfl,d1⟩;replace A:=A.more d1 WC WC;clear d1 Js;go_wp2_with fail;have HA:=aa A;clear A;exact Kau):=h
def Zbe(h:p:=by intro ρ w h;have H1:=H;clear H;open zeV in exact ZcR):=h
def zhF.Kb7(h:p:=by have HL:=aa hl;have A1:=aa hh;have A2:=aa M7;have HJ:=aa hJ;have pE:=aa Pk;exact Kav):=h
def Zbf(h:p:=by open zhF in exact Zf2):=h
def Zbg(h:p:=by rw[jR]at hex;clear jR;have gO:=HE.ae args[i] (getElem_mem hlt);have HT:=aa (show args.take (i+1)=args.take i++[args[i]] by rw[take_add_one,getElem?_eq_getElem hlt];rfl);generalize args[i]=yv at*;obtain⟨y,v⟩:=yv;dsimp only at*;unfold cC at hex;exact Kaw):=h
def Zbh(h:p:=by rw[bg]at JM;have JL:=aa JM;clear JM;go_wp2_with fail;refine(JL.ae _).mono ?_;rintro e w2 ⟨rfl,b3⟩;clear z0 z1 x2 x3 x5 x6 x0 x1 z2 z3 z4 z5 y0 y1 c2 y3 o4 o5 rf;replace k1:=k1.later b3;replace hR:=hR.later b3;replace cL:=cL.later b3;replace hB:=aj.then hB b3;replace HO:=aa (HO.ae.later b3);clear b3;have z0:=k1.cell 0;have z1:=k1.cell 1;have x2:=k1.cell 2;have x3:=k1.cell 3;have x5:=k1.cell 5;have x6:=k1.cell 6;have x0:=hR.cell 0;have x1:=hR.cell 1;have z2:=hR.cell 2;have z3:=hR.cell 3;have z4:=hR.cell 4;have z5:=hR.cell 5;have y0:=cL.cell 0;have y1:=cL.cell 1;have c2:=cL.cell 2;have y3:=cL.cell 3;have o4:=cL.cell 4;have o5:=cL.cell 5;have rf:=cL.frozen;unfold cJ at x0 x1 z2 z3 z4 z5;simp only[Uaa]at z0 z1 x2 x3 x5 x6 x0 x1 z2 z3 z4 z5 y0 y1 c2 y3 o4 o5;exact Kax):=h
def Zbi(h:p:=by obtain⟨jp,U3⟩:∃jp:Nat,jp=(i+j)/ 2:=⟨_,rfl⟩;have zc:((i:Int)+(j:Int))/ 2=(jp:Int):=WC;simp only[zc];have cj:i<=jp:=WC;have hcr:jp<j:=WC;clear zc U3;exact Kay):=h
def Zbj(h:p:=by have x0:=hR.cell 0;have x1:=hR.cell 1;have z6:=hR.cell 6;have y0:=cL.cell 0;have y1:=cL.cell 1;have c2:=cL.cell 2;have y3:=cL.cell 3;have o4:=cL.cell 4;have o5:=cL.cell 5;simp only[Uaa]at x0 x1 z6 y0 y1 c2 y3 o4 o5;go_wp2_with fail;exact Kaz):=h
def Zbk(h:p:=by
 go_wp2_with fail;refine(fQ x.op _).mono ?_;rintro e w9 ⟨rfl,rfl⟩;by_cases hn:(x.n:Int)=om x.op
 ·have t1:((x.n:Int)==om x.op)=true:=by simpa using hn
  have rz:=aa (show bO x=42 by simp only[bO];rw[if_neg Tan,if_neg Tan,if_pos hn]);exact ZbL
 have t1:((x.n:Int)==om x.op)=false:=by simpa using hn
 have rz:=aa (show bO x=21 by simp only[bO];rw[if_neg Tan,if_neg Tan,if_neg hn]);exact ZbM):=h
def Zbl(h:p:=by rintro e4 w4 ⟨rfl,b4⟩;exact⟨_,rfl,b4,rfl⟩):=h
def Zbm(h:p:=by refine wpQuiet_nil ?_;rintro W4 ⟨y2,fq⟩;have hL:=y2.h;rw[<-fq]at hL;clear fq y2 cV cU cQ;replace hR:=hR.later hL;replace hB:=aj.then hB hL;exact KaA):=h
def zeF.KaX(h:p:=by refine wpQuiet_nil ?_;rintro W4 ⟨y2,fq⟩;have hL:=y2.h;rw[<-fq]at hL;clear fq y2;have H3:=aa (H2.ae.later hL);clear H2 hL;exact Zdd):=h
def Zbn(h:p:=by have t1:decide ((a:Int)<(j:Int))=false:=decide_eq_false WC;have SO:=aa (Gb.ae.stop hj0 (.inl WC));go_upto_region 4 with fail;refine aR 17 wr.heap.size wr cX Taa Taa Taa Taa ?_;open zeF in exact ZcI):=h
def ze3.Ka5(h:p:=by exact ZeP):=h
def Zbo(h:p:=by open ze3 in exact ZcW):=h
def zgS.KbP(h:p:=by clear x6;exact KaB):=h
def zgl.KbC(h:p:=by rw[<-hg]at HX⊢;clear hg;have HA:=aa Wf;have F2:=aa E9;have CV:=aa JK;have HE:=aa hE;clear Wf E9 JK hE;open zgS in exact Ze4):=h
def Zbp(h:p:=by have HX:=aB.new w 46 #[ag op,ag xv.k,af xv.n,.string xv.s,.string name,af width,.slice A n c];have hB:=ah w (.cells #[ag op,ag xv.k,af xv.n,.string xv.s,.string name,af width,.slice A n c] 46);have E9:=(hB.cell (p:=⟨gp,8,none⟩) qZ).trans E8;have JK:=eS qZ hB.size;have Wf:=hA.later hB;clear hA E8 qZ;go_enter func153,ntmps153;open zgl in exact ZeH):=h
def Zbq(h:p:=by
 refine rR bc hz 0 zs rfl listed a w I.len ?_ hK;intro i hi;constructor
 ·intro hl;rcases gR i l.length with h'|h'
  ·omega
  rw[I.tail i h']at hl;cases hl
 intro hl;exact hall i WC):=h
def Zbr(h:p:=by
 simp only[take_succ_cons,take_zero];refine⟨Zaa,Zaa,Zaa,?_,?_,Zaa,Zaa,?_,trivial⟩
 ·intro ρ W4 hc hL hr;have h0:_=_:=hr.1;have h1:_=_:=hr.2.1;exact aq (w':=W4) (by simp[go_sem,h0,h1,IntKind.wrap_i64];omega) ⟨aj.refl _,rfl⟩
 intro ρ W4 hc hL hr;have h0:_=_:=hr.1;have h1:_=_:=hr.2.1;have hs:=FU W4;exact Zde;intro ρ W4 hc hL hr;have h0:_=_:=hr.1;have h1:_=_:=hr.2.1;have hs:=RG W4;exact Zde):=h
def Zbs(h:p:=by intro ρ W4 hc hL hr;have h0:_=_:=hr.1;have jP:=(HK.ae.later hL).cell 0;simp only[getElem?_toArray,getElem?_cons_zero]at jP;exact Zd5):=h
def Zbt(h:p:=by
 obtain⟨f,hf⟩:∃f,f=mid+m-s:=⟨_,rfl⟩;obtain⟨e1,e2,e3,e4,e5⟩:=vL hp hf he k1 k2 hF hs.1 hs.2;have HS:=aa hS;have o:a<mid/\mid<b/\a<m/\m<b/\a<=s/\s<=m/\s<=mid/\mid+m<=s+b:=by have:=he.ab;have:=he.B6;have:=he.ends;omega
 have HO:=aa (show SyO a b mid s f (bS D s m f)from⟨by omega,e1,e2,e3,e4,e5⟩);have bn:=HI.ae.1;have bn2:=HI.ae.2.1;have zf:(mid:Int)+(m:Int)-(s:Int)=(f:Int):=WC;have of:m<=f/\f<=b:=WC;clear hS he hp k1 k2 hF hs hf e1 e2 e3 e4 e5;have HY:=aa λ W (k1:SS w0 g n W (bS D s m f)) (k2:Sw s f D (bS D s m f)) T hT=>sy2 (T:=T) (d:=d) (m:=m) (vn:=af (mid+m:Nat)) hT k1 HO.ae (k2.mono WC WC) HI.ae HQ.ae;exact KaC):=h
def Zbu(h:p:=by
 repeat (go_big_quiet_step (fail))
 refine wpQuiet_nil ?_;rintro W4 ⟨y2,fq⟩;have hL:=y2.h;rw[<-fq]at hL;exact KaD):=h
def Zbv(h:p:=by
 intro p q hp Tv hq;unfold mK;by_cases c1:a<=p/\p<i-1
 ·rw[if_pos c1];by_cases c2:a<=q/\q<i-1
  ·rw[if_pos c2];exact hs (p+1) (q+1) WC WC WC
  rw[if_neg c2];by_cases c3:q=i-1;rw[if_pos c3];exact le_of_lt (h1 (p+1) WC WC);rw[if_neg c3];exact hs.le WC WC hq
 rw[if_neg c1];have c2:¬(a<=q/\q<i-1):=by omega
 rw[if_neg c2];have c3:q≠i-1:=WC;rw[if_neg c3];by_cases c4:p=i-1;rw[if_pos c4];exact not_lt.1 (h2 q WC hq);rw[if_neg c4];exact hs p q WC Tv hq):=h
def Zbw(h:p:=by obtain⟨mid,aaa⟩:∃q:Nat,q=(a+b)/ 2:=⟨_,rfl⟩;obtain⟨p,hp⟩:∃q:Nat,q=mid+m-1:=⟨_,rfl⟩;obtain⟨nn,pY⟩:∃q:Nat,q=mid+m:=⟨_,rfl⟩;have HS:=aa h;have mixed:prog.follows .mixedOrders=true:=Taa;have t0:((m:Int)-(a:Int)==1)=false:=Tac;have t1:((b:Int)-(m:Int)==1)=false:=Tac;have zm:((a:Int)+(b:Int))/ 2=(mid:Int):=WC;have zn:(mid:Int)+(m:Int)=(nn:Int):=WC;have zp:(nn:Int)-1=(p:Int):=WC;have bn:=hI.1;have bn2:=hI.2.1;have HY:=aa λ s0 r0 (he:jC a m b mid s0 r0) W (k0:SS w0 g n W D) Q (hQ:Z9 w0 g n a b D [] Q) T vf hT e1 e2=>syL (T:=T) (d:=[]) (vf:=vf) hT e1 e2 k0 he hp k1 k2 hI hQ;exact KaE):=h
def Zbx(h:p:=by
 have hp:=Array.swap_perm (xs:=((List.range n).map D).toArray) (i:=i) (j:=j) Tay (by simpa using hj);have e:((List.range n).map (swp D i j)).toArray=((List.range n).map D).toArray.swap i j Tay (by simpa using hj):=by
  apply Array.ext;simp;intro k h1 h2;have hk:k<n:=by simpa using h1
  rw[Array.getElem_swap];simp only[getElem_toArray,getElem_map,getElem_range];unfold swp;exact Zc4
 have:=e▸hp;exact Array.perm_iff_toList_perm.1 this):=h
def zhe.KbW(h:p:=by have Ul:=aa hwr;have QY:=aa hpl;have HG:=aa hg;have Nf:=aa cq;clear hwr hpl hg cq vt;rw[QX];exact KaF):=h
def Zby(h:p:=by obtain⟨t,pl,bd,hpl,hlt,hsm,vt,cq,hg,LD,wV,hp⟩:=h.xD;have Fo:=hp.later (ah w rC);have Nd:=hp.later ((ah w (.cells (dJ t) 172)).drew);have hb:=(ah w (.cells (dJ t) 172)).drew;have HT:=(aB.new w 172 (dJ t)).drew;have HB:=aa HT;have HF:=aa (h.later hb);have HD:=aa (eQ.df h hb);have oY:=(h.later hb).facts.2.2.2.2.1;have QX:ρ.ptr=aw ρ.g:=rfl;have hwr:=qm ρ _ σ big (h.later hb);have hlf:=h.left;have ei:=h.Hk;clear h;open zhe in exact Zfh):=h
def Zbz(h:p:=by skip;intro hg;have hg:ρ (.tmp 22)=.bool true:=hg;exact Zap):=h
def ZbA(h:p:=by go_enter func144,ntmps144;go_wp2_with fail;go_ret;exact⟨by rw[HQ.ae];rfl,by go_grown⟩):=h
def ZbB(h:p:=by rcases Cx with rfl|⟨pp,rfl⟩;have AU:fy (ar f0 #[.agg #[ag op,ag xv.k,af xv.n,.string xv.s,.string name,af width,.slice A 2 c],.slice A8 2 c8] _ _):=Fm.ae;exact ZfJ;have AU:fy (ar f0 #[.agg #[ag op,ag xv.k,af xv.n,.string xv.s,.string name,af width,.slice A 2 c],.slice A8 2 c8,pp] _ _):=Fm.ae;exact ZfJ):=h
def ZbC(h:p:=by obtain⟨⟨e1,e2⟩,rfl,e3⟩:=he;constructor;intro hn;refine⟨λ d hd Pn=>?_,h.high⟩;have a1:le (D d) (D c):=h1.le WC WC WC;have a2:le (D ((a+b)/ 2+m-1-c)) (D ((a+b)/ 2+m-1-d)):=h2.le WC WC WC;exact not_lt.2 (le_trans (le_trans a1 (not_lt.1 hn)) a2);intro hl;refine⟨h.low,λ d hd Pn=>?_⟩;have a1:le (D c) (D d):=h1.le WC WC WC;have a2:le (D ((a+b)/ 2+m-1-d)) (D ((a+b)/ 2+m-1-c)):=h2.le WC WC WC;exact kQ (kP a2 hl) a1):=h
def ZbD(h:p:=by rcases Cx with rfl|⟨pp,rfl⟩;have AU:fy (ar f0 #[.agg #[ag op,ag xv.k,af xv.n,.string xv.s,.string name,af width,.slice A 1 c],.slice A8 1 c8] _ _):=Fm.ae;exact ZfQ;have AU:fy (ar f0 #[.agg #[ag op,ag xv.k,af xv.n,.string xv.s,.string name,af width,.slice A 1 c],.slice A8 1 c8,pp] _ _):=Fm.ae;exact ZfQ):=h
def ZbE(h:p:=by
 constructor
 ·intro p q h1 h2 h3 h4 h5;unfold swp;rw[if_neg h4,if_neg h5];by_cases e1:p=j
  ·subst e1;rw[if_pos rfl,if_neg WC];exact h.1 (p-1) q WC WC h3 WC WC
  rw[if_neg e1];by_cases e2:q=j;subst e2;rw[if_pos rfl];exact h.1 p (q-1) h1 WC WC e1 WC;rw[if_neg e2];exact h.1 p q h1 h2 h3 e1 e2
 intro q h1 h2;unfold swp;rw[if_pos rfl,if_neg WC];by_cases e2:q=j;subst e2;rw[if_pos rfl];exact le_of_lt hl;rw[if_neg e2];exact h.2 q WC h2):=h
def ZbF(h:p:=by simp[go_sem,hc.const,h0,q4 w3 cL,ce0 w3 cL,ce1 w3 cL,ce2 w3 cL,ce3 w3 cL,ce4 w3 cL,ce5 w3 cL,ce6 w3 cL,cr w3 cL]):=h
def ZbG(h:p:=by intro p q hp Tv hq;unfold ot;by_cases c1:p=i;rw[if_pos c1,if_neg WC,if_pos WC];exact le_of_lt (h2 (q-1) WC WC);rw[if_neg c1];by_cases c2:i<p/\p<=m;rw[if_pos c2,if_neg WC,if_pos WC];exact hs.le WC WC WC;rw[if_neg c2];by_cases c3:q=i;rw[if_pos c3];exact not_lt.1 (h1 p hp WC);rw[if_neg c3];by_cases c4:i<q/\q<=m;rw[if_pos c4];exact hs.le hp WC WC;rw[if_neg c4];exact hs p q hp Tv WC):=h
def ZbH(h:p:=by go_ret;exact ZfK):=h
def ZbI(h:p:=by have z0:=hb.cell 0;have z1:=hb.cell 1;have x2:=hb.cell 2;have x3:=hb.cell 3;have x4:=hb.cell 4;have x5:=hb.cell 5;have x6:=hb.cell 6;simp only[bH,Uaa]at z0 z1 x2 x3 x4 x5 x6;exact KaG):=h
def ZbJ(h:p:=by
 go_enter func44,ntmps44;go_wp2
 all_goals
  go_ret;refine⟨?_,by go_grown⟩;simp_all):=h
def ZbK(h:p:=by
 intro vs w hl hG;have uo:=Dp _ _ hG
 match vs,hl with
 |[a,s,v],_=>obtain⟨y,w1,gU,w2,ha,h2,h3,h4,h5,h6,h7,h8⟩:=hG;simp only[bw,e0,e1,e2,e3,e4,e5,e6];intro a0' p0 a1 p1 a2 p2 a3 p3 a4 p4 a5 p5 a6 p6;have z0:a0'=aY qb k:=p0;have z1:a1=lv:=p1;have z2:a2=ptr:=p2;have z3:some a=some a3:=p3;have z4:some s=some a4:=p4;have z5:some v=some a5:=p5;have z6:a6=aY qb k:=p6;injection z3 with z3;injection z4 with z4;injection z5 with z5;rw[z0,z1,z2,<-z3,<-z4,<-z5,z6,ha];exact mO y s v w1 gU w2 w h2 h3 h4 h5 h6 h7 h8 uo):=h
def ZbL(h:p:=by go_wp2_with fail;refine bodyPost_ret (v:=.tuple #[.agg #[af a,ag wa,ag gi,.bool al,.bool nu,d],af 42]) Za8 rfl ?_;exact ZaI):=h
def ZbM(h:p:=by go_wp2_with fail;refine bodyPost_ret (v:=.tuple #[.agg #[af a,ag wa,ag gi,.bool al,.bool nu,d],af 21]) Za8 rfl ?_;exact ZaI):=h
def ZbN(h:p:=by skip;intro hg;have hg:ρ (.tmp 26)=undef:=hg;exact Zap):=h
def ZbO(h:p:=by obtain⟨q,h1,h2⟩:=h;exact⟨q,h1,hk _ _ _ h2⟩):=h
def ZbP(h:p:=by
 have HE:=aa he;have t1:(!y==n.toList)=true:=by rw[zv.ae];rw[beq_eq_false_iff_ne]at he;simp;exact λ e=>he e.symm
 clear he;go_wp2_with fail;go_roundw;case rel=>refine⟨k+1,by omega,by go_num,iJ.ae,?_⟩;rw[Fp.ae,HST.ae,HE.ae];rfl
 case measure=>exact Za2):=h
def ZbQ(h:p:=by go_wp2_with fail;go_ret;exact YES.ae _ eZ.ae):=h
def ZbR(h:p:=by
 obtain⟨v',w',hr,ho,ha⟩:=fA t ty z bytes ht jQ hzs hsz hf h1 hown g0 hg0 hlen nI hbase;obtain⟨i0,kB,hz0,hz1,hz2⟩:=info_parts jQ;obtain⟨v2,w2,hr2,_,_,h4⟩:=gF (P:=P) w base t ty e i0 z size bytes ht kB hz0 hz1 hz2 hzs hsz lv l.length (l.flatMap f) hown (g0+1) (some ⟨g0,0,none⟩) 1 1 (f y) ⟨by rw[hf];omega,λ _=>⟨_,rfl,Nat.lt_succ_self _,by
  intro j u hu;have:(Addr.add ⟨g0,0,none⟩ j)=⟨g0,j,none⟩:=by unfold Addr.add;split<;>simp_all
  rw[this,hg0.cell];simpa using hu⟩⟩ h1 Tam hlen hbase
 rw[hr]at hr2;injection hr2 with e1 e2;subst e1 e2;exact KaH):=h
def ZbS(h:p:=by simp[results,results132,go_sem,z0,z1,z2,z3]):=h
def ZbT(h:p:=by
 rw[length_set,NZ hf y l i qQ];simp only[toList_toArray,size_toArray,hf];rw[<-ht,take_take,Nat.min_eq_left WC,drop_take];have hA:(cur.toList.take (i*size)).length=i*size:=by rw[length_take,Array.length_toList];omega
 have hF:(f y).length=size:=hf y;rw[append_assoc,take_append,hA,take_of_length_le (by rw[hA];omega),take_append,hF,take_of_length_le (l:=f y) (by rw[hF];omega),append_assoc,Nat.sub_sub]):=h
def ZbU(h:p:=by
 have t1:(op==1)=false:=Ta9;have Cw:op≠2:=by intro e2;rcases Jk.ae with h|h;exact h e2;exact h (tG nK.ae e2)
 have t2:(op==2)=false:=by simpa using Cw
 obtain⟨Jm,oq,hwd⟩:=Cs nK.ae Cw h1;clear Cw;dsimp only at Jm oq hwd;have ahR:3<=op/\op<=20:=by simpa [lB] using Jm
 have TF:((op.toNat:Nat):Int)=op:=WC;have hOp:gQ (W3.alloc (.cells #[af a,ag wa,ag gi,.bool al,.bool nu,d] 100)) op.toNat (.agg (cJ a wa gi al nu d)):=by
  rcases HOI.ae with⟨_,h⟩|⟨h,_⟩
  exact h
  dsimp only at h;rw[Jm]at h;cases h
 have Jn:=hOp.fields;exact KaI):=h
def ZbV(h:p:=by
 intro N
 induction N with
 |zero=>intro a m b D w h0 h1 h2;omega
 |succ N ih=>
   intro a m b D w h0 h1 h2 hb h q1 q2;by_cases c1:m=a+1;subst c1;have:=KO w0 g n cap a b D w h hn h2 hb q2;exact ZfH;by_cases c2:b=m+1;subst c2;have:=KP w0 g n cap a m D w h hn WC hb q1;exact ZfH;exact Lb w0 g n cap a m b D w h WC WC q1 q2 ⟨hb,hn,λ a' m' b' E W k1 k2 k3 k4 k5 k6 k7=>ih a' m' b' E W WC k1 k2 k3 k5 k6 k7⟩):=h
def ZbW(h:p:=by
 repeat' split
 all_goals first
  |(exfalso;omega)
  |rfl
  |(congr 1;omega)):=h
def ZbX(h:p:=by
 go_wp2_with fail;refine(iK w0 g n cap a (a+20) E _ HS.ae hn WC WC).mono ?_;rintro e_ w1 ⟨rfl,F,hS,hw,ho⟩;have H2:=aa hS;have HW:=aa (HO.ae.trans (hw.mono WC WC));have Gb:=aa (HL.ae.step A2.ae hw ho);have Kl:=aa (Nat.dvd_add A2.ae (Nat.dvd_refl 20));clear hS hw ho A2 HL HO HS;go_wp2_with fail;go_roundw;case rel=>exact⟨a+20,F,Kl.ae,by omega,by go_num,by go_num,H2.ae,HW.ae,Gb.ae⟩
 case measure=>exact Za2):=h
def ZbY(h:p:=by have z0:=Xz.cell 0;have z1:=Xz.cell 1;have x2:=Xz.cell 2;have f0:=Xz.frozen 0;have f1:=Xz.frozen 1;have f2:=Xz.frozen 2;simp only[Uaa]at z0 z1 x2;exact KaJ):=h
def ZbZ(h:p:=by
 clear HL HX;go_wp2_with fail;go_roundw;case rel=>exact⟨jp+1,j,by omega,by omega,by omega,by go_num,rfl,H3.ae,zK.ae,HH.ae⟩
 case measure=>exact Za2):=h
def Zb0(h:p:=by refine⟨λ i j hi hj hb=>?_,(k1.mono aE hm.2).trans (k2.mono hm.1 aE)⟩;by_cases c1:j<mid;rw[k2.ae i (.inl WC),k2.ae j (.inl c1)];exact s1 i j hi hj c1;by_cases c2:mid<=i;exact s2 i j c2 hj hb;rw[k2.ae i (.inl WC)];obtain⟨i',h1,h2,h3⟩:=k1.mem i hi WC;obtain⟨j',h4,h5,h6⟩:=k2.mem j WC hb;rw[h3,h6,k1.ae j' (.inr h4)];exact h i' j' h1 h2 h4 h5):=h
def Zb1(h:p:=by rw[if_neg WC,if_neg WC,if_neg WC,if_pos WC];unfold St.alone;split;exact Zgr;rename_i hk;obtain⟨r1,r2,r3,r4⟩:=tL {s with all:=s.all+1} x.1 aM;exact Zfk):=h
def Zb2(h:p:=by rw[if_neg WC,if_neg WC,if_neg WC,if_neg WC];unfold St.CI;split;rename_i hk;obtain⟨r1,r2,r3,r4⟩:=tL {s with all:=s.all+1} x.1 x.2;exact Zfk;exact Zgr):=h
def Zb3(h:p:=by have h0:_=_:=hr.1;exact aq (w':=W4) Tak ⟨aj.refl _,rfl⟩):=h
def Zb4(h:p:=by exact aq (v:=v') (w':=w') (by simp only[execOp,resolve,invoke,builtin,Sem.run_bind,Sem.run_pure,Result.andThen_ok,map_toArray,map_cons,map_nil,h0,h1,hrun]) ⟨zT,_,rfl,ho,FM.later hL.grown.size⟩):=h
def Zb5(h:p:=by exact aq (w':=W4) (by simp[go_sem,h0,c0,<-iT.ae];done) ⟨aj.refl _,rfl⟩):=h
def ze4.Ka5(h:p:=by have x7:=cL.cell 7;simp only[Uaa]at y0 y1 c2 y3 y4 y5 y6 x7;exact aq (w':=W4) (by simp[go_sem,h0,y0,y1,c2,y3,y4,y5,y6,x7];done) ⟨aj.refl _,rfl⟩):=h
def Zb6(h:p:=by intro ρ W4 hc hL hr;have h0:_=_:=hr.1;have cL:=Ie.ae.later hL;open ze4 in exact ZcW):=h
def Zb7(h:p:=by
 clear HH HX;go_wp2_with fail;go_roundw;case rel=>exact⟨i,jp,by omega,by omega,by omega,rfl,rfl,H3.ae,HL.ae,HH2.ae⟩
 case measure=>exact Za2):=h
def Zb8(h:p:=by intro ρ W4 hc hL hr;intro hg;have hg:ρ (.tmp 45)=.bool true:=hg;refine⟨λ _=>?_,λ hn=>absurd hg hn⟩;exact KaK):=h
def Zb9(h:p:=by obtain⟨u,rfl⟩:=sT T hT.sz;have h0:=(aT u (show 0<220 by decide)).symm.trans hT.t0;have h1:=(aT u (show 1<220 by decide)).symm.trans hT.t1;have h2:=(aT u (show 2<220 by decide)).symm.trans hT.t2;have h3:=(aT u (show 3<220 by decide)).symm.trans hT.t3;have h4:=(aT u (show 4<220 by decide)).symm.trans hT.t4;have EH:=(aT u (show 18<220 by decide)).symm.trans hT.t18;have EI:=(aT u (show 19<220 by decide)).symm.trans hT.t19;have EJ:=(aT u (show 20<220 by decide)).symm.trans hT.t20;exact KaL):=h
def Zca(h:p:=by
 intro vs w h
 match vs,h with
 |[],h=>rw[aj.cell h (p:=⟨qb,k,none⟩) YQ];exact hcell
 |[a],⟨y,w1,gU,_,h2,h3,h4⟩=>exact(xE h2 h3 h4).1
 |[a,s],⟨y,w1,gU,_,_,_,h2,h3,h4,_⟩=>exact(xE h2 h3 h4).1
 |[a,s,v],⟨y,w1,gU,w2,_,h2,h3,h4,_,h6,_,_⟩=>obtain⟨k1,_,k3⟩:=xE h2 h3 h4;rw[qp h6 (p:=⟨qb,k,none⟩) (eS YQ k3) (λ e=>hlq e.symm)];exact k1
 |_::_::_::_::_,h=>exact h.elim):=h
def Zcb(h:p:=by rintro e w4 ⟨rfl,d4⟩;go_wp2_with fail;refine(Ds ox.ae iT.ae ρ _ d4.at_).mono ?_;rintro e w5 ⟨n,hn,rfl,d5⟩;have HN:=aa hn;clear hn;go_wp2_with fail;have hwd:=mq ρ _ _ false d5.at_ ⟨#[40]⟩;exact KaM):=h
def Zcc(h:p:=by
 intro ρ w vs hc hG hr;rw[t4]at hr;have r0:=hr.1;simp only[s4]at r0;refine⟨g4,?_⟩;show vs.length=1->_;intro hl
 match vs,hl with
 |[a],_=>have r0:some a=some (ρ (.tmp d3)):=r0;injection r0 with r0;obtain⟨y,w1,gU,ha,h2,h3,h4⟩:=hG;refine aq (Lz ρ w y (r0.symm.trans ha)) ?_;exact⟨y,w1,gU,w.heap.size,ha,rfl,h2,h3,h4.trans (cX.alloc aE _),aB.new w e _⟩):=h
def Zcd(h:p:=by go_wp2_with fail;refine bodyPost_ret (v:=.tuple #[.agg #[af a,ag wa,ag gi,.bool al,.bool nu,d],af 0]) Za8 rfl ?_;exact ZaI):=h
def Zce(h:p:=by
 go_roundw
 case rel=>
  refine⟨k+1,dN++[nl],hlt,by go_num,O4.ae,?_,?_,by simp;exact Bh.ae,?_,LT.ae⟩
  ·intro x hX;rcases List.mem_append.1 hX with hX|hX
   ·exact RW4.ae x hX
   rw[mem_singleton]at hX;subst hX;exact⟨N41.ae,N42.ae,HN8.ae.2.2⟩
  rw[Az.ae,zK.ae,map_append,Ae.ae];show _++[OH nl]=_++[_];rw[Ry.ae];rw[UK.ae];exact B4.ae
 case measure=>exact Za2):=h
def Zcf(h:p:=by have z0:=hb.cell 0;have z1:=hb.cell 1;have x2:=hb.cell 2;have x3:=hb.cell 3;have x4:=hb.cell 4;have x5:=hb.cell 5;have x6:=hb.cell 6;simp only[Uaa]at z0 z1 x2 x3 x4 x5 x6;have BW:=aa hb;clear hb;exact KaN):=h
def zhf.KbW(h:p:=by go_enter func199,ntmps199;go_wp2_with fail;go_region;clear c0 c1 c2 d0 d1 d2 d3 y0 y1 y2 z0 z1 z2 z3 x0 v0 v1 v2 v3;obtain⟨u0,u1,u2,u3,_⟩:=bM HT;have zu:=aa HT;clear HT;unfold dJ at u0 u1 u2 u3 hb3 x1 x2 oY HF zu HD nV Dt;generalize World.drew _=W at*;exact KaO):=h
def Zcg(h:p:=by have QY:=aa hpl;clear h hpl Kx cq vt nX h0 hb HQ;open zhf in exact Zfh):=h
def Zch(h:p:=by exact⟨rfl,xA bb aE _ _ _ _⟩):=h
def Zci(h:p:=by obtain⟨x0,x1,h1,f0⟩:=h;exact⟨x0,x1,h1,f0.later hl⟩):=h
def Zcj(h:p:=by intro ρ W4 hc hL hr;have h0:_=_:=hr.1;exact aq (v:=aw gp) (w':=W4) Tak ⟨AR.refl _,rfl⟩):=h
def Zck(h:p:=by
 rw[if_neg (by rw[hf];simp),ahW];dsimp only;by_cases Jl:bO ⟨op,xv,name,width,none,args.length,0⟩=0
 ·simp only[Jl,ne_eq,not_true_eq_false,↓reduceIte];by_cases h1:op=1
  ·simp only[h1,↓reduceIte]
  simp only[h1,↓reduceIte];rw[if_neg];intro ho;exact h2 ⟨ho,tG (l:=args) Jl ho⟩
 simp only[Jl,ne_eq,not_false_eq_true,↓reduceIte]):=h
def Zcl(h:p:=by
 go_wp2_with fail
 all_goals
  go_ret;refine⟨?_,rfl⟩;try simp_all
  try rfl):=h
def Zcm(h:p:=by intro ρ' w' h';simp[go_sem,h']):=h
def Zcn(h:p:=by go_wp2_with (go_at_call 104;refine(kj _).mono ?_;rintro e w1 ⟨rfl,rfl⟩);go_ret;rw[HT.ae];exact⟨rfl,by go_grown⟩):=h
def Zco(h:p:=by
 rcases hb.1 with h1|h1;have:=(p.rows i hi b e).1;omega
 match i with
 |0=>exact(eG.1 hb.2).2.2.1 e
 |1=>exact(eG.1 hb.2).2.2.2 e
 |2=>have:=(h.f.rows 2 WC b e).2.1;omega
 |3=>have:=(h.f.rows 3 WC b e).2.1;omega
 |4=>have:=(h.f.rows 4 WC b e).2.1;omega
 |n+5=>have:=(h.f.rows 5 WC b e).2.1;omega):=h
def Zcp(h:p:=by
 generalize hW3:World.drew _=W3 at S3⊢;clear hW3;have SI:=aa (Gb.ae.step hja hj (by simpa using HL.ae));have SW:=aa (Sw.step (i:=jp+1) (j:=jp) HW.ae WC WC WC WC);clear Gb HW HL;go_wp2_with fail;go_roundw;case rel=>exact⟨jp,_,by omega,by omega,by go_num,S3.ae,SW.ae,SI.ae⟩
 case measure=>simp[intOf]):=h
def Zcq(h:p:=by
 go_wp2_with fail;have bx:=ah wr (.cells (ay y) 46);refine(gO _ (aj.then (aj.then Bf.ae hW) bx)).mono ?_;rintro e w1 ⟨rfl,b1⟩;have KK:=aj.then hW (aj.then bx b1);clear bx hex gO b1;go_wp2_with fail;go_roundw;case rel=>refine⟨i+1,hlt,by go_num,?_,KK⟩;rw[HT.ae,map_append,map_singleton,yX,HM.ae]
 case measure=>exact Za2):=h
def Zcr(h:p:=by simp only[bK,eC,f28,Option.getD_some]at key;have hK2:∀T:x_,T.size=252->T.getD 2 undef=aw g2->T.getD 4 undef=aw g4->T.getD 5 undef=aw g5->T.getD 6 undef=aw gp->K {tmps:=T,defers:=d} wr:=λ T hT h2 h4 h5 h6=>hK _ _ (key T hT h2 h4 h5 h6);clear hK key;go_wp2_with fail;refine hK2 _ ?_ ?_ ?_ ?_ ?_<;>rfl):=h
def Zcs(h:p:=by have hmf:∀(fn:Fn) (first cap:x_) (w:t_),(Instr.makeFunc fn first cap).run prog w=.ok (.func fn first cap) w:=λ _ _ _ _=>rfl;exact KaP):=h
def Zct(h:p:=by
 intro p q h1 h2 h3;by_cases e1:p=j;subst e1;exact h.2 q h2 WC;by_cases e2:q=j
 ·subst e2;rcases hs with hs|hs
  ·omega
  have h4:=not_lt.1 hs;by_cases e3:p=q-1;rw[e3];exact h4;exact le_trans (h.1 p (q-1) h1 WC WC e1 WC) h4
 exact h.1 p q h1 h2 WC e1 e2):=h
def Zcu(h:p:=by intro ρ W4 hc hL hr;have h0:_=_:=hr.1;have jP:=(hL.cell (p:=⟨gp,8,none⟩) Sh.ae).trans Pw.ae;exact Zd5):=h
def Zcv(h:p:=by have AV:i<n:=Tbr;obtain⟨b,off,rfl,ly,hex⟩:=(HA.ae.below (Kx.trans (hb.mono Kx.size))).at_ (show i <(args.map (·.1)++bad::post).length by simp;omega);exact KaQ):=h
def Zcw(h:p:=by intro ρ w σ hc hG hr he hno;refine⟨rfl,?_⟩;unfold AH at hG;rw[if_pos Tab];have kW:=hno Tab;exact KaR):=h
def Zcx(h:p:=by
 go_roundw
 case rel=>
  refine⟨jx+1,FH,by go_num,Zg1,?_,(λ q h1 h2=>TG.ae.2 q h2 h1),zM.ae.trans B3.ae⟩;rw[nx.ae,filter_append,filter_cons_of_pos (by rw[Zj.ae];rfl)];exact O2.ae
 case measure=>exact Za2):=h
def Zcy(h:p:=by intro ρ Fu σ hc hG hr he hno;have r0:ρ (.tmp 6)=aw gp:=(show ρ (.tmp 6)=f 6 from hr.1).trans es0;exact Za6):=h
def Zcz(h:p:=by
 have hr:=JZ _ _ s[i] (aB.new wr 5 #[ag (s[i].toNat:Int)]);have vq:=aa (Ue hc);clear hc;go_wp2_with fail;go_roundw;case rel=>refine⟨i+1,l++[s[i]],by omega,by go_num,by rw[mN],by rw[length_append,HL.ae];rfl,?_,hb.trans ((ah wr _).mono hb.size)⟩;rw[HM.ae,HD.ae];simp[vq.ae]
 case measure=>exact Za2):=h
def ZcA(h:p:=by
 have HE:=aa (show(s.extract at_ k).data.toList=(s.data.toList.drop at_).takeWhile bE by rw[<-nK.ae];exact nT bE s at_);have hx1:0 <(s.extract at_ k).size:=by have h1:=anK.ae;rw[<-HE.ae]at h1;simpa only[ByteArray.size_data,Array.length_toList] using h1
 have hx2:(s.extract at_ k).size<=4294967280:=by rw[ByteArray.size_extract];omega
 have HN:=aa (Aj (s.extract at_ k) W (by rw[HE.ae];exact Uc _) hx1 hx2);have Ug:=aa (show(s.data.toList.drop at_).dropWhile bE=s.data.toList.drop k by rw[<-Dd,nK.ae]);clear hx1 hx2;obtain⟨z0,z1,z2,z3,y0,y1,y2,y3⟩:=bM HZ.ae;exact KaS):=h
def ZcB(h:p:=by
 iterate 7
  refine wp_seq_k λ K hK=>?_;have Fl:=aa hK;clear hK;go_wp2_with fail;refine Fl.ae _ _ ?_;clear Fl
 refine HY.ae _ _ HE.ae _ HS.ae _ (λ A W h0 h=>?_) _ _ ⟨rfl,rfl,rfl,rfl,rfl,rfl,rfl,rfl,rfl,rfl⟩ rfl rfl;exact KaT):=h
def ZcC(h:p:=by
 by_cases h0:bC v v'=0
 ·have t0:(bC v v' != 0)=false:=by simpa using h0
  have HD':=aa ((HS.ae.trans (if_pos h0)).symm.trans HD.ae);clear h0;go_wp2_with fail;go_roundw;case rel=>exact⟨k+1,hlt,CM,by go_num,HD'.ae,hB⟩
  case measure=>exact Za2
 have t0:(bC v v' != 0)=true:=by simpa using h0
 have HD':=aa ((HS.ae.trans (if_neg h0)).symm.trans HD.ae);clear h0;go_wp2_with fail;go_ret;exact⟨by rw[HD'.ae];rfl,hB⟩):=h
def ZcD(h:p:=by have NE:=aa (Fz.ae (aM,0) (by unfold jm;simp only[map_cons,map_nil];rw[um.ae,hs,if_neg Tad,if_pos (by have:=HGI.ae;simp_all)]));go_wp2_with fail;exact bodyPost_ret (v:=.tuple #[.agg #[ag 0,af 0,.string ByteArray.empty],af 0]) Tah rfl ⟨congrArg (λ r:Val×Int=>Ending.returned (bP r.1 r.2)) NE.ae.symm,((hB.setCell bJ _).setCell bJ _).setCell bJ _⟩):=h
def ZcE(h:p:=by
 refine hwd.mono ?_;rintro e w6 ⟨rfl,b6⟩;have dd:=(((((HD.ae.trans d1).trans d2).trans d3).trans d4).trans d5).later b6;have Bn:=(d5.blk (d4.blk (d3.blk (d2.blk (d1.blk nV.ae WC) WC) WC) WC) WC).later b6;have hs6:w.heap.size+2<=w6.heap.size:=by have:=d1.size;have:=d2.size;have:=d3.size;have:=d4.size;have:=d5.size;have:=b6.size;omega
 have YR:=aa dd;have Ri:=aa Bn;clear dd Bn d1 d2 d3 d4 d5 b6 hwd HF HD nV zu u0 u1 u2 u3 x1 x2 oY hb3;exact KaU):=h
def ZcF(h:p:=by refine bD 11 (Ik gp 10 VA s1.aG.length vc ty er Kx) (oa _ _ _ _ _ _ _ _) Taa Taa Taa ?_ ?_;exact ZaV;intro W3 hL;simp only[Uab];rintro a0-a1-a2-a3-a4-a5-a6-a7-a8-_ rfl _ rfl;simp only[bw,Act.put,Uac];have UI:=aa (XE.ae.later hL);have BA:=aa (Ae.ae.later hL);exact KaV):=h
def ZcG(h:p:=by
 clear BD tZ IH PD Bt Vg;have hk7:k<1000000:=by have:=HFN.ae;have:=pE.ae;omega
 go_wp2_with fail;go_roundw;case rel=>exact⟨k+1,a,u',v',T7,yh++[Kx],s2,eP++[t2],hlt,by go_num,by have h:=HP8.ae;rw[Xy.ae]at h;exact h,Gc.ae,by have:=Az.ae;have:=HND.ae;have:=EP.ae;omega,by rw[length_append,rL.ae];rfl⟩
 case measure=>exact Za2):=h
def ZcH(h:p:=by go_wp2_with fail;refine wp_loop_rounds 3 ?_;rw[rounds_succ];go_wp2_with fail;refine(K1.ae _).mono ?_;rintro e w1 ⟨rfl,rfl⟩;go_wp2_with fail;rw[rounds_succ];go_wp2_with fail;exact KaW):=h
def ZcI(h:p:=by
 simp only[List.append,Uab];repeat (go_big_quiet_step (fail))
 exact KaX):=h
def ZcJ(h:p:=by
 go_wp2_with fail;refine bodyPost_ret (v:=.tuple #[.agg #[ag 3,.string ⟨acc.toArray⟩,af 0,af at_],af ((k:Int)+1),af 0]) ZbS rfl ?_;rw[sH.ae,HF.ae,cH HB.ae,HQ.ae,MV aiG.ae];unfold Bj;simp only;have e:s.size-(s.data.toList.drop (k+1)).length=k+1:=by rw[length_drop,HLEN.ae];omega
 rw[e];exact Zch):=h
def ZcK(h:p:=by
 injection hv with e1 e2 e3;injection e1 with e1;injection e1 with e1 _ _;subst e1 e3;have fI:(i+1)*size<=l.length*size:=Nat.mul_le_mul_right _ qQ;have hl2:l.length*size<=c*size:=Nat.mul_le_mul_right _ hn;rw[Nat.add_mul,Nat.one_mul]at fI;have qE:i*size+size<=cur.size:=by rw[hs];omega
 have hrun:=xL (P:=P) w q (i*size) e ty cur (f y).toArray hg (by rw[hi];simp[hf]) (by simpa [hf] using qE) h1;exact KaY):=h
def ZcL(h:p:=by go_upto_region 1 with fail;generalize World.alloc (World.alloc w _) _=W at*;obtain⟨g3,kB⟩:∃g3,g3=w.heap.size:=⟨_,rfl⟩;obtain⟨g4,hg4⟩:∃g4,g4=w.heap.size+1:=⟨_,rfl⟩;rw[<-hg4]at HZ⊢;rw[<-kB]at pD⊢;have nD:=aa (show w.heap.size<=g4 by omega);have KD:=aa (show w.heap.size<=g3 by omega);have HI:=aa kB;have LI:=aa hg4;have Ie:=aa pD;have uv:=aa HZ;clear kB hg4 pD HZ;exact KaZ):=h
def ZcM(h:p:=by clear hlen;simp only[map_cons,map_nil,length_cons,length_nil,Nat.zero_add,Nat.reduceAdd]at*;have uH:=HKC.ae;clear HKC;rcases uH with uH|⟨g9,rfl,lC,uH⟩;simp at uH;exact Ka0):=h
def zeR.Ka2(h:p:=by exact Ka1):=h
def ZcN(h:p:=by subst hgi;open zeR in exact ZcO):=h
def ZcO(h:p:=by have z0:=k1.cell 0;have z1:=k1.cell 1;have x2:=k1.cell 2;have x3:=k1.cell 3;have x4:=k1.cell 4;have x5:=k1.cell 5;have x6:=k1.cell 6;have x0:=hR.cell 0;have x1:=hR.cell 1;have z2:=hR.cell 2;have z3:=hR.cell 3;have z4:=hR.cell 4;have z5:=hR.cell 5;simp only[Uaa]at z0 z1 x2 x3 x4 x5 x6 x0 x1 z2 z3 z4 z5;have dy:=aI cL;have iA:=aB.frozen cL;go_wp2_with fail;exact Ka2):=h
def ZcP(h:p:=by rcases h with h|⟨b,off,h1,h2,h3⟩;exact Zis;exact .inr ⟨b,off,h1,h2,λ i x hx=>(h3 i x hx).keep λ o=>hb.cell (p:=⟨b,o,none⟩) h2⟩):=h
def ZcQ(h:p:=by skip;intro hg;have hg:ρ (.tmp 22)=.bool false:=hg;refine⟨λ _=>?_,λ hn=>absurd hg hn⟩;exact Zan):=h
def ZcR(h:p:=by have ei:=h.Hk;have hb:=ah w rI;have h0:=h.later hb;have HQ:=aa (aB.new w 46 #[ag 0,ag 0,af 0,au,au,af 0,az]);have hsz:(w.alloc rI).heap.size=w.heap.size+1:=Tad;exact Ka3):=h
def ZcS(h:p:=by obtain⟨f,rfl⟩:=lM T hT;have h2:f 2=_:=h2;have h4:f 4=_:=h4;have h5:f 5=_:=h5;have h6:f 6=_:=h6;simp only[bU,h2,h4,h5,h6];clear h2 h4 h5 h6;clear h2 h4 h5 h6 hT;exact Ka4):=h
def ZcT(h:p:=by
 have e9:=oT D (kp+1) m WC hk;rw[show kp+1-1=kp by omega]at e9;rw[e9]at S3;generalize hW3:World.drew _=W3 at S3⊢;clear hW3;go_wp2_with fail;go_roundw;case rel=>exact⟨kp,by omega,by omega,by go_num,S3.ae⟩
 case measure=>first |(simp[intOf];done)|(simp[intOf];omega)):=h
def ZcU(h:p:=by intro ρ w vs hc hG hr;rw[t3]at hr;have r0:=hr.1;simp only[m3]at r0;refine⟨g3,?_⟩;show vs.length=0->_;intro hl;obtain rfl:=eq_nil_of_length_eq_zero hl;refine bu (cj ρ w hc r0) ((mE w hG).mono ?_);rintro e' w' ⟨y,rfl,hp⟩;exact⟨_,rfl,y,w,w',rfl,hG,hp,aj.refl _⟩):=h
def ZcV(h:p:=by
 go_wp2_with fail;go_roundw;case rel=>exact⟨i+1,hlt,by go_num,HR.ae,hW⟩
 case measure=>exact Za2):=h
def ZcW(h:p:=by have y0:=cL.cell 0;have y1:=cL.cell 1;have c2:=cL.cell 2;have y3:=cL.cell 3;have y4:=cL.cell 4;have y5:=cL.cell 5;have y6:=cL.cell 6;exact Ka5):=h
def ZcX(h:p:=by replace HK:=aa (HK.ae.later b3);clear b1 b3;have hst:=λ(u:Addr) (m:Mode) (w:t_)=>run_store prog w u .nilFunc m rfl;unfold pH;have x0:=hR.cell 0;have x1:=hR.cell 1;have z2:=hR.cell 2;have z3:=hR.cell 3;have z4:=hR.cell 4;have z5:=hR.cell 5;have z6:=hR.cell 6;simp only[Uaa]at x0 x1 z2 z3 z4 z5 z6;exact Ka6):=h
def ZcY(h:p:=by
 have HV1:=aa PJ;clear PJ;go_wp2_with fail;go_roundw;case rel=>exact⟨i+1,hlt,by go_num,HN2.ae HV1.ae,aj.then hb hL⟩
 case measure=>exact Za2):=h
def ZcZ(h:p:=by intro x hx;rcases Nat.lt_trichotomy x a with h1|h1|h1;have h2:=mZ hx hd h1;exact((h x hx h2).congr λ i h3 h4=>hw.ae i (.inl WC)).mono aE WC;subst h1;exact ho.mono aE WC;have h2:=mZ hd hx h1;exact .none WC):=h
def Zc0(h:p:=by
 have c1:decide ((mid:Int)<(m:Int))=true:=decide_eq_true WC;have c2:decide (mid<m)=true:=decide_eq_true c;obtain⟨s0,hs0⟩:∃q:Nat,q=mid+m-b:=⟨_,rfl⟩;have HE:=aa (show jC a m b mid s0 mid from⟨⟨by omega,by omega⟩,HM.ae,.inl ⟨c,hs0,rfl⟩⟩);have zs:(nn:Int)-(b:Int)=(s0:Int):=by have:=HNN.ae;omega
 have bs:s0<=2000:=WC;clear hs0 c;exact Ka7):=h
def Zc1(h:p:=by simp[results,results199,go_sem,r0,r1,r2,r3,r4,r5,r6];rfl):=h
def Zc2(h:p:=by exact⟨0,gE,rfl,aH.nil,cX⟩):=h
def Zc3(h:p:=by go_wp2_with fail;refine bodyPost_ret (v:=.tuple #[.agg #[ag 0,au,af 0,af 0],af 0,af 30]) ZbS rfl ?_;rw[sH.ae,rb.ae];exact Zch):=h
def Zc4(h:p:=by
 repeat' split
 all_goals first
  |rfl
  |(exfalso;omega)
  |(subst_vars;rfl)):=h
def Zc5(h:p:=by skip;intro hg;have hg:ρ (.tmp 26)=.bool false:=hg;exact Zap):=h
def Zc6(h:p:=by
 intro e4 w4 h4;unfold sO at h4;rw[kt.ae]at h4;cases res with
 |error er=>obtain⟨_,rfl,b4⟩:=h4;exact⟨_,rfl,b4,_,_,rfl,rfl,rfl⟩
 |ok l=>obtain⟨v4,rfl,o4,b4⟩:=h4;refine⟨_,rfl,b4,_,_,rfl,rfl,?_⟩;have o5:=o4.down hL.size;rw[<-CQ.ae]at o5;exact o5):=h
def Zc7(h:p:=by
 obtain⟨a0,_,hc0⟩:=oh 0 h0;have hsome:∃u,(f a0)[0]?=some u:=⟨(f a0)[0]'(by rw[hf];exact hK),getElem?_eq_getElem _⟩;obtain⟨u0,YG⟩:=hsome;have hlt:=kG ((hc0 0 hK).trans YG);obtain⟨b,off,spot⟩:=ad;have hs:spot=none:=by have:=hlt.2;simpa [Addr.add] using this
 subst hs;have hbl:b<w.heap.size:=by have:=hlt.1;simpa [Addr.add] using this
 exact Ka8):=h
def Zc8(h:p:=by
 repeat' split
 all_goals first
  |rfl
  |(exfalso;omega)
  |(subst_vars;rfl)
  |(congr 1;omega)):=h
def Zc9(h:p:=by
 funext k;unfold bS;repeat' split
 all_goals first
  |rfl
  |(exfalso;omega)
  |(congr 1;omega)):=h
def Zda(h:p:=by exact aq (w':=W4) TaI ⟨aj.refl _,rfl⟩):=h
def Zdb(h:p:=by
 go_wp2_with fail;clear y0 y1 c2 y3 y4 y5 y6 Ig;generalize vG:World.setCell _ _ _=W9;have hR:aB W9 g4 46 dn:=by rw[<-vG];simpa using(((((((Rz.ae.aW 0 _).aW 1 _).aW 2 _).aW 3 _).aW 4 _).aW 5 _).aW 6 _)
 exact Ka9):=h
def Zdc(h:p:=by
 clear hk hb;rcases hlv with rfl|rfl|rfl|rfl;all_goals
  generalize lH _ t.w=R at*;go_enter func200,ntmps200;go_wp2_with fail;all_goals
   go_ret;rw[HR.ae];refine⟨?_,ah w _⟩;refine nR ?_;simp[opsL,List.lookup,ait,G0,QJ,tO,ze,JU,zg, *]):=h
def Zdd(h:p:=by
 go_wp2_with fail;go_roundw;case rel=>exact⟨i+1,E,by omega,.inl WC,by go_num,H3.ae,HW.ae,SO.ae⟩
 case measure=>exact Za2):=h
def Zde(h:p:=by exact aq (w':=W4) (by simp[go_sem,h0,h1,hs];done) ⟨aj.refl _,rfl⟩):=h
def Zdf(h:p:=by go_wp2_with fail;have hB:=aj.then (ah w (.cells (ay x) 46)) (ah _ (.cells #[ag 0,af 0,au] 44));have hR:=aB.new (w.alloc (.cells (ay x) 46)) 44 #[ag 0,af 0,au];have hX:=(aB.new w 46 (ay x)).alloc (.cells #[ag 0,af 0,au] 44);rw[World.size_alloc]at hR;generalize wK:(w.alloc (.cells (ay x) 46)).alloc (.cells #[ag 0,af 0,au] 44)=W at*;clear wK;exact Kba):=h
def zhJ.Kb8(h:p:=by clear jR fX HP;have gO:=Jo.ae;exact Kbb):=h
def Zdg(h:p:=by have fX:i=args.length:=WC;have AV:i<n:=Tbr;obtain⟨b,off,rfl,ly,hex⟩:=(HA.ae.below hb).at_ (show i <(args.map (·.1)++bad::post).length by simp;omega);open zhJ in exact Zf3):=h
def Zdh(h:p:=by rcases h1 with h|⟨b,off,e1,e2,e3⟩;exact Zis;exact .inr ⟨b,off,e1,e2,e3⟩):=h
def Zdi(h:p:=by have h0:_=_:=hr.1;have jP:=aI (HG.later hL);exact aq (w':=W4) (by simp[go_sem,h0,jP.1,jP.2.1,jP.2.2];done) ⟨aj.refl _,rfl⟩):=h
def Zdj(h:p:=by rcases h with h|⟨b,off,h1,h2,h3,h4⟩;exact Zis;refine .inr ⟨b,off,h1,eS h2 hg.size,λ i x hx=>(h4 i x hx).keep λ o=>?_⟩;have hb:=hg.block b h2 (λ e=>h3 Tbl);unfold World.cell?;simp only[hb]):=h
def Zdk(h:p:=by intro ρ W4 hc hL hr;have e1:=hc.func 104;refine bu (f:=104) (args:= #[]) (w':=W4) (by simp[go_sem,e1]) ?_;refine(kj W4).mono ?_;rintro e w2 ⟨rfl,rfl⟩;exact⟨_,rfl,cX.alloc aE _,_,rfl,heap_alloc_new W4 _⟩):=h
def Zdl(h:p:=by rintro e w1 ⟨rfl,b1⟩;go_wp2_with fail;go_ret;exact⟨rfl,b1⟩):=h
def Zdm(h:p:=by refine bp rfl rfl rfl λ ρ w3 hc cL hr=>?_;have h0:ρ (.tmp 2)=.slice (some ⟨Pe,o1,none⟩) rows.length rc:=hr.1;show(execOp ρ _).run _ w3=.ok (.value (.slice (some ⟨Pe,o1,none⟩) rows.length rc)) w3;simp[go_sem,hc.const,h0]):=h
def Zdn(h:p:=by exact⟨rfl,(cX.alloc aE _).trans (hL.mono Tad)⟩):=h
def Zdo(h:p:=by rcases h with h|⟨b,off,h1,h2,h3⟩;subst h;simp at hk;exact⟨b,off,h1,h2,h3 k _ (getElem?_eq_getElem hk)⟩):=h
def Zdp(h:p:=by go_wp2_with fail;go_ret;exact⟨by rw[<-HD.ae,HS.ae];rfl,hB⟩):=h
def Zdq(h:p:=by have pD:=aB.new w 46 (ay z);have b0:=ah w (.cells (ay z) 46);have HZ:=aB.new (w.alloc (.cells (ay z) 46)) 46 dn;have b2:=ah (w.alloc (.cells (ay z) 46)) (.cells dn 46);replace pD:=pD.later b2;have bb:=aj.then b0 b2;rw[World.size_alloc]at HZ;have ud:=aa (pd.later bb);have Bf:=aa bb;have iB:=ud.ae.blk;unfold PC.cells at iB;exact Kbc):=h
def Zdr(h:p:=by clear iB;go_wp2_with fail;refine(YM.ae _).mono ?_;rintro e KK ⟨rfl,b2⟩;go_wp2_with fail;exact bodyPost_ret (v:=.tuple #[ag 0,af 40]) Tap rfl ⟨rfl,aj.then (aj.then fT.ae b3) b2⟩):=h
def Zds(h:p:=by subst heq;have t1:((i:Int) !=(i:Int))=false:=Tad;have z1:(m:Int)-(i:Int)=((m-i:Nat):Int):=WC;go_wp2_with fail;refine(eX w0 g n cap (m-i) m i E wr H2.ae hn WC WC).mono ?_;rintro e_ w1 ⟨rfl,hs⟩;rw[sq E m i WC,HR.ae]at hs;have H3:=aa hs;clear hs H2 HR z1 t1;go_wp2_with fail;exact Kbd):=h
def Zdt(h:p:=by exact aq (v:=XF) (w':=W4) Tas ⟨aj.refl _,_,XG,rfl,cL⟩):=h
def Zdu(h:p:=by
 rw[oP D a k YK]at S3;generalize hW3:World.drew _=W3 at S3⊢;clear hW3;go_wp2_with fail;go_roundw;case rel=>exact⟨k+1,by omega,by omega,by go_num,S3.ae⟩
 case measure=>first |(simp[intOf];done)|(simp[intOf];omega)):=h
def Zdv(h:p:=by rintro e W4 ⟨rfl,Lw⟩;clear z0 z1 x2 x3 x4 x5 x6 x0 x1 z2 z3 z4 z5 dy iA;replace k1:=k1.later Lw;replace hR:=hR.later Lw;replace cL:=cL.later Lw;replace hB:=aj.then hB Lw;replace Cv:=aa ((Cv.ae.below Lw).more (Lw).size);replace HDB:=aa (aj.then HDB.ae Lw);replace VJ:=(Lw.cell (p:=⟨g9,0,none⟩) wQ).trans VJ;exact Kbe):=h
def Zdw(h:p:=by go_wp2_with fail;exact ZbH):=h
def Zdx(h:p:=by rcases gR vs.length ch.length with h'|h';have hi:=getElem?_eq_getElem h';have hb:=of_decide_eq_true (List.all_eq_true.1 LO _ (getElem_mem h'));have:=(cj _ _ hi).1 (hall _ hb);omega;omega):=h
def Zdy(h:p:=by refine⟨rfl,rfl,rfl,rfl,rfl,[y],?_,Tr.gw ?_⟩;exact((A2.ae.keep (jo B12.ae)).keep (mo D12.ae.grown WC)).keep (jF WC);exact((A1.ae.later B12.ae).grown D12.ae.grown WC).more WC):=h
def Zdz(h:p:=by
 have D7:i<listed.size:=Tbj;have D8:fuel=bB l.length (listed.setIfInBounds i true)+zs.length:=by have:=lW l.length listed i D7 qQ Cl;omega
 unfold wpOp;rw[pG];show if Region.wanted oj (yielded (l++zs).toArray a.tmps)=true then _ else _;rw[if_pos (by simp[Region.wanted,hgd])];refine .inl ?_;exact Kbf):=h
def ZdA(h:p:=by
 have kF:=wh.ae;rw[hr]at hp wA kF;obtain⟨Kx,ty,u',v',rfl,hst⟩:=hp;have her:=wA.ae.err _ rfl;have pC:=aa (show X=.error er by rw[vK.ae,kF];rfl)
 have oD:=aa her;have t1:(er != 0)=true:=by simp[her]
 have bg:=ah w6 (.cells (ay Kx) 46);have HW:=aa ((ry.ae.err hst).later bg);clear hr her hst kF wA wh ry bg;exact Kbg):=h
def ZdB(h:p:=by have PD:=aa (show aB (w6.alloc (.cells (ay Kx) 46)) w6.heap.size 46 (bH Kx).toArray from Zh);clear Zh;generalize w6.alloc (.cells (ay Kx) 46)=WD at*;generalize w6.heap.size=gY at*;exact Kbh):=h
def ZdC(h:p:=by refine bodyPost_ret (v:=.tuple #[.agg #[ag 2,au,af (mb ((s.data.toList.drop at_).takeWhile bE)),af at_],af k,af 0]) ZbS rfl ?_;rw[HR.ae];unfold Bj;simp only;rw[xz bE s WC,nK.ae];exact Zch):=h
def ZdD(h:p:=by
 go_wp2_with fail;go_quiet (fail);go_wp2_with fail;go_roundw
 case rel=>
  refine⟨i+1,n+nq,by omega,by go_num,?_,?_⟩;rw[<-HWN.ae];exact De W n nq;rw[rb.ae,HDX.ae,lG,HP.ae];rfl
 case measure=>exact Za2):=h
def ZdE(h:p:=by clear ja;have k1:=aB.new wr 46 (ay y);have Oe:=ah wr (.cells (ay y) 46);generalize wr.alloc (.cells (ay y) 46)=W2 at*;have ry:=aa (iJ.ae.later Oe);generalize wr.heap.size=g12 at*;exact Kbi):=h
def ZdF(h:p:=by skip;intro hg;have hg:ρ (.tmp 22)=.bool false:=hg;refine⟨λ _=>?_,λ hn=>absurd hg hn⟩;have h0:_=_:=hr.1;have e1:=PA.ae.2 rfl;exact ZhM):=h
def ZdG(h:p:=by skip;intro hg;have hg:ρ (.tmp 22)=.bool false:=hg;refine⟨λ _=>?_,λ hn=>absurd hg hn⟩;have h0:_=_:=hr.1;have e1:=PA.ae.1 rfl;exact ZhM):=h
def ZdH(h:p:=by
 split at h<;>try exact h
 obtain⟨g,h1,h2⟩:=h;refine⟨g,h1,?_⟩;rw[hl.block g ?_];exact h2;exact ZgB):=h
def ZdI(h:p:=by obtain⟨jp,rfl⟩:∃q,j=q+1:=⟨j-1,by omega⟩;have t1:decide ((a:Int)<(jp:Int)+1)=true:=decide_eq_true WC;have t1':decide ((a:Int)<((jp+1:Nat):Int))=true:=decide_eq_true WC;go_upto_region 4 with fail;have cV:=λ q:Ext wr.heap.size wr=>(H2.ae.at_.later q.h).cell (jp+1) WC;exact Kbj):=h
def ZdJ(h:p:=by intro ρ W4 hc hL hr;have h0:_=_:=hr.1;have h1:_=_:=hr.2.1;have h2:_=_:=hr.2.2.1;have hs:=Hy XA xn xc gn gn aE HXC.ae W4;exact aq (w':=W4) (by simp[go_sem,h0,h1,h2,hs];done) ⟨aj.refl _,rfl⟩):=h
def ZdK(h:p:=by go_wp2_with fail;go_ret;refine⟨?_,hb⟩;rw[oV λ j hj=>HP.ae j (by rw[length_map]at hj;omega)];rfl):=h
def ZdL(h:p:=by simp[go_sem,hc.const,h0]):=h
def ZdM(h:p:=by intro ρ w vs hc hG hr;rw[t0]at hr;have r0:=hr.1;simp only[s0]at r0;exact⟨g0,hfa ρ w (r0.trans hq)⟩):=h
def ZdN(h:p:=by rw[Bool.not_eq_true]at hs;obtain⟨nl,c,d0,d1,c0,c1,_,_,s1⟩:=Ju (lo a) 0 l0 l1 WC WC;obtain⟨nh,c2,e0,e1,_,_,_,_,s2⟩:=Ju (hi a) c h0 h1 c0 c1;have Pl:=Int.emod_nonneg nh (show n≠0 by omega);have Js:=Int.emod_lt_of_pos nh hn;obtain⟨q,r,hd⟩:=Jt (nh % n) nl n Pl Js wV d0 d1;exact Kbk):=h
def ZdO(h:p:=by intro ρ w vs hc hG hr;rw[t2]at hr;have r0:=hr.1;simp only[m0]at r0;exact⟨g2,FM ρ w (r0.trans h0)⟩):=h
def ZdP(h:p:=by intro ρ w vs hc hG hr;rw[t6]at hr;have r0:=hr.1;simp only[s6]at r0;exact⟨g6,L1 ρ w (r0.trans hq)⟩):=h
def ZdQ(h:p:=by exact aq (w':=W4) (by simp[go_sem,h0,y0,y1,c2];done) ⟨aj.refl _,rfl⟩):=h
def ZdR(h:p:=by unfold PC.cells at kJ;have c10:=kJ.cell 10;simp only[Uaa]at c10;exact aq (w':=W4) (by simp[go_sem,h0,c10];done) ⟨AR.refl _,rfl⟩):=h
def ZdS(h:p:=by
 induction h with
 |refl=>exact λ k h1 h2=>⟨k,h1,h2,rfl⟩
 |step _ k1 k2 k3 k4 ih=>
   intro k h1 h2;unfold swp;split;exact ih _ k1 k2;split;exact ih _ k3 k4;exact ih k h1 h2):=h
def ZdT(h:p:=by
 intro i w w' v h hl
 match i with
 |0|1|2|3|4|5|6|7|8|9|10=>exact h
 |n+11=>exact h):=h
def ZdU(h:p:=by obtain⟨b,off,rfl,ly,hex,hz⟩:=(HA.ae.below hb).at_ (show i <(args.map (·.1)).length by simpa using hlt);have jR:(args.map (·.1))[i]' Tao=args[i].1:=Tad;rw[jR]at hex hz;clear jR;have gO:=HE.ae args[i] (getElem_mem hlt);have hS:=CP hlt;generalize args[i]=yb at*;exact Kbl):=h
def ZdV(h:p:=by skip;have h0:_=_:=hr.1;have e1:=hc.func 44;refine bu (f:=44) (args:= #[.agg (aC v)]) (w':=W4) TaE ?_;have hgo:=wJ v W4;rw[<-PB.ae]at hgo;refine hgo.mono ?_;exact Zbl):=h
def ZdW(h:p:=by
 subst hrel;obtain⟨tk,pl,bd,hpl,hlt,anY,vt,cq,hg,LD,wV,hp⟩:=HA.ae.did.at_.xD;obtain⟨r',nX⟩:=hg _ rfl;injection nX with hu hr2;subst hu;have zr:bd<0:=by simpa [cw.iy] using cq
 have HP:=aa hp;have c2:=hp.c2;have auV:=HA.ae.blk.lt;have hbz:=Dl 3 3 rfl Tad tk;rw[aiS.ae]at hbz;exact Kbm):=h
def ZdX(h:p:=by go_wp2_with fail;refine(iK w0 g n cap a n E _ HS.ae hn WC WC).mono ?_;rintro e_ w1 ⟨rfl,F,hS,hw,ho⟩;have H2:=aa hS;have HW:=aa (HO.ae.trans (hw.mono WC WC));have Gb:=aa (je HL.ae A2.ae han WC hw ho);clear hS hw ho A2 HL HO HS;go_wp2_with fail;exact Kbn):=h
def ZdY(h:p:=by intro ρ' w' h' hc';simp[go_sem,h',hc']):=h
def ZdZ(h:p:=by go_wp2_with fail;refine(nP _ _).mono ?_;rintro e w1 ⟨rfl,b1⟩;have hR:=(aB.new w 44 #[ag 0,af 0,.string {data:= #[]}]).later b1;have dy:=aI hR;have cL:=aB.frozen hR;have hB:ai w w1:=(cX.alloc aE _).trans (b1.mono Tad);clear b1 hR;go_wp2_with fail;exact Kbo):=h
def Zd0(h:p:=by
 obtain rfl:k=8:=WC;have hno:mL n=none:=by rw[Fp.ae];rfl
 clear Fp;rw[HFO.ae]at hno;cases hno):=h
def Zd1(h:p:=by rw[rounds_succ];go_wp2_with fail;have gN:=aB.new W 5 #[ag k,ag wa];have bN:=ah W (.cells #[ag k,ag wa] 5);refine(rW W.heap.size 0 2 k wa _ Tad (gN.cell 0) (gN.cell 1)).mono ?_;rintro e W2 ⟨rfl,b2⟩;have hW2:=aj.then bN b2;replace hB:=aj.then hB hW2;replace hO:=hO.later hW2;exact Kbp):=h
def Zd2(h:p:=by go_wp2_with fail;exact bodyPost_ret (v:=.tuple #[.agg (aC r),af 0]) (by simp[results,results170,go_sem,dy]) rfl ⟨by rw[HL.ae];rfl,((hB.setCell bJ _).setCell bJ _).setCell bJ _⟩):=h
def Zd3(h:p:=by
 obtain⟨a,wa,gi,al,nu,d,rfl,_,hd⟩:=VH.shape;have kF:d.oneCell'=true:=by rcases hd with rfl|⟨F,C,rfl⟩<;>rfl
 have hst:=λ(u:Addr) (m:Mode) (w:t_)=>run_store prog w u d m kF;unfold cJ;have b2:=aj.then KK (ah W3 (.cells #[af a,ag wa,ag gi,.bool al,.bool nu,d] 100));exact Kbq):=h
def Zd4(h:p:=by obtain⟨u,rfl⟩:=h1;obtain⟨v,rfl⟩:=h2;have:u<v:=Nat.lt_of_mul_lt_mul_left h;have h3:=Nat.mul_le_mul_left d (show u+1<=v by omega);rw[Nat.mul_add,Nat.mul_one]at h3;exact h3):=h
def Zd5(h:p:=by exact aq (w':=W4) (by simp[go_sem,h0,jP];done) ⟨aj.refl _,rfl⟩):=h
def Zd6(h:p:=by exact aq (w':=W4) (by simp[go_sem,h0,c0];done) ⟨aj.refl _,rfl⟩):=h
def Zd7(h:p:=by intro ρ W4 hc hL hr;intro hg;have hg:ρ (.tmp 66)=.bool true:=hg;refine⟨λ _=>?_,λ hn=>absurd hg hn⟩;exact Kbr):=h
def Zd8(h:p:=by intro ρ W4 hc hL hr;intro hg;have hg:ρ (.tmp 82)=.bool true:=hg;refine⟨λ _=>?_,λ hn=>absurd hg hn⟩;exact Kbs):=h
def Zd9(h:p:=by have z1:=k1.cell 1;have x2:=k1.cell 2;have x3:=k1.cell 3;have x5:=k1.cell 5;have x7:=k1.cell 7;have x8:=k1.cell 8;have x9:=k1.cell 9;have Zi:=k1.cell 13;have x14:=k1.cell 14;have x16:=k1.cell 16;have Th:=k1.cell 19;have Ti:=k1.cell 20;have x24:=k1.cell 24;have x27:=k1.cell 27;exact Kbt):=h
def Zea(h:p:=by simp only[setIfInBounds_toArray,set_cons_zero,set_cons_succ]at this;exact this):=h
def Zeb(h:p:=by exact bodyPost_ret (v:=.tuple #[ag 0,af 40]) Taq rfl ⟨congrArg (λ r:Int×Int=>Ending.returned (.tuple #[ag r.1,af r.2])) HQ.ae.symm,hB⟩):=h
def Zec(h:p:=by exact bodyPost_ret (v:=.tuple #[ag gi,af 0]) Taq rfl ⟨congrArg (λ r:Int×Int=>Ending.returned (.tuple #[ag r.1,af r.2])) HQ.ae.symm,hB⟩):=h
def Zed(h:p:=by
 rw[mJ D a b i WC]at S3;generalize hW3:World.drew _=W3 at S3⊢;clear hW3;go_wp2_with fail;go_roundw;case rel=>exact⟨i+1,hlt,by go_num,S3.ae⟩
 case measure=>exact Za2):=h
def Zee(h:p:=by
 gi_wp2;go_roundw;case rel=>exact⟨i+1,hlt,by go_num,HJ3.ae,HF3.ae⟩
 case measure=>exact Za2):=h
def Zef(h:p:=by
 have hK:=yH (V:=V) (λ d=>a.eval (.tmp d)) l 0 a0 (λ i o d hi hd=>by
  rw[Nat.zero_add];have qQ:i<l.length:=by rcases gR i l.length with h'|h';exact h';rw[getElem?_eq_none h']at hi;cases hi
  exact I.new i o d hi (hall i qQ) hd) (hf w I.r)
 exact Kbu):=h
def Zeg(h:p:=by rcases h with h|⟨b,off,h1,h2,h3⟩;exact Zis;exact .inr ⟨b,off,h1,by omega,h3⟩):=h
def Zeh(h:p:=by have HS:=aa hS;have HO:=aa hw;have HW:=aa h1;have HL:=aa h2;have HD:=aa hd;have o:=hw.o;have Q3:=aa (hw.q3.congr (E:=S) λ x h1 h2=>HW.ae.ae x (.inr h1));have Q4:=aa (hw.q4.congr (E:=S) λ x h1 h2=>HW.ae.ae x (.inr WC));have bn:=HI.ae.1;clear hS hw h1 h2 hd;exact Kbv):=h
def Zei(h:p:=by have zK:=aa (show∀h,a<=h->h<jp+1->¬lt (D m) (D h)from λ h h1 h2=>not_lt.2 (le_trans (HQ.ae.le h1 (show h<=jp by omega) WC) (not_lt.1 HX.ae)));exact ZbZ):=h
def Zej(h:p:=by intro x hx hle;rcases gR x a with h1|h1;have:=mZ hx hd h1;exact(h x hx this).congr λ i h2 h3=>hw.ae i (.inl WC);rw[show x=a by omega];exact ho):=h
def Zek(h:p:=by refine⟨i+1,hlt,by go_num,?_,hb.trans b4⟩;rw[HT.ae,map_append,PV.ae];exact O4.ae):=h
def Zel(h:p:=by exact aq (w':=W4) Tbi ⟨aj.refl _,rfl⟩):=h
def Zem(h:p:=by intro i hi hT q hq;subst hT;have hq:a.ownBlock=some q:=hq;refine⟨(ho.lt hq).2.1,(ho.lt hq).1,λ e=>?_⟩;rw[e0]at hq;injection hq with hq;exact hq0 (hq.trans e)):=h
def Zen(h:p:=by
 obtain⟨l,rfl⟩:∃l,σ=.good l:=by
  match σ,Nf.ae with
  |.good l,_=>exact⟨l,rfl⟩
  |.bad m,cq=>simp[cw.iy]at cq;omega
 obtain⟨r,rfl⟩:=HG.ae l rfl;have e1:(pl:Int)+1=(ρ.n:Int)-r.length:=by rw[QY.ae];simp only[cw.left,length_cons]at*;omega
 exact Kbw):=h
def Zeo(h:p:=by unfold fB at q0;simp at q0 q1;obtain⟨rfl,rfl,rfl,rfl,rfl,rfl,rfl⟩:=q0;subst q1;refine⟨(p,s),rfl,hp.more ?_⟩;simp only[Rows.uptoBulk,Rows.uptoBulkAll];omega):=h
def Zep(h:p:=by rintro e4 w4 ⟨v4,rfl,ho4,b4⟩;refine⟨_,rfl,b4,_,rfl,?_⟩;have ho5:=ho4.down hL.size;rw[<-CQ.ae]at ho5;show aH bH _ 7 w4 B0 v4 E;rw[rz.ae];simpa using ho5):=h
def Zeq(h:p:=by have:=Qn D m (m-s+(e-m)) (m-s) (e-m) aE WC WC WC;rwa [show m-(m-s)=s by omega,show m+(e-m)=e by omega]at this):=h
def Zer(h:p:=by
 go_round;case rel=>exact⟨k+1,by omega,BJ,by go_num,nK.ae⟩
 case measure=>exact Za2):=h
def Zes(h:p:=by obtain⟨b,off,rfl,hb,hcell,uw⟩:=(HR.ae.below hB).at_ hlt;have HT:=aa (show(aG.take (i+1)).map (·.l)=(aG.take i).map (·.l)++[aG[i].l] by rw[take_add_one,getElem?_eq_getElem hlt,map_append];rfl);have lQ:=Bh.ae aG[i] (getElem_mem hlt);exact Kbx):=h
def Zet(h:p:=by have eZ:=aa hb1;have Ec:=aa (ud.ae.later hb1);have lz:=Ie.ae.later hb1;have Lw:=uv.ae.later hb1;have hxo:=lz.cell 0;simp only[Uaa]at hxo;have Ed:z.op=t.op:=(at_root Cb.ae).1;have vZ:=yQ z.op;exact Kby):=h
def Zeu(h:p:=by obtain rfl:i=j:=WC;clear hlt kE;go_wp2_with fail;exact Fl.ae _ _ (HY.ae i _ H2.ae HF.ae ⟨vZ,hjr⟩ _ _ ⟨rfl,rfl,rfl,rfl,rfl,rfl,rfl,rfl,rfl,rfl⟩)):=h
def Zev(h:p:=by intro ρ W4 hc hL hr;exact Zan):=h
def Zew(h:p:=by rintro e w1 ⟨rfl,b1⟩;go_wp2_with fail;go_ret;exact⟨rfl,aj.then CQ.ae b1⟩):=h
def Zex(h:p:=by clear hWX;have x0:=hR.cell 0;have x1:=hR.cell 1;have z2:=hR.cell 2;have z3:=hR.cell 3;have z4:=hR.cell 4;have z5:=hR.cell 5;have z6:=hR.cell 6;simp only[Uaa]at x0 x1 z2 z3 z4 z5 z6;exact Kbz):=h
def Zey(h:p:=by unfold et at h;split at h;cases h;split at h;cases h;split at h;cases h;split at h;cases h;split at h;cases h;split at h;cases h;rename_i h1;split at h;cases h;rename_i h2;split at h;cases h;rename_i h3;injection h with h;rw[<-h];exact KbA):=h
def Zez(h:p:=by have HH2:=aa (show∀h,jp<=h->h<b->¬lt (D h) (D a)from λ h h1 h2=>not_lt.2 (le_trans (not_lt.1 HX.ae) (HQ.ae.le WC h1 h2)));exact Zb7):=h
def ZeA(h:p:=by intro ρ W4 hc hL hr;have h0:_=_:=hr.1;exact aq (v:=.pointer (some ⟨gp,10,none⟩)) (w':=W4) Tak ⟨AR.refl _,rfl⟩):=h
def ZeB(h:p:=by intro ρ W4 hc hL hr;have h0:_=_:=hr.1;have c0:=(HEW.ae.later hL).c13;exact Zb5):=h
def ZeC(h:p:=by refine⟨m-a,b-m,D,by omega,by omega,by omega,by omega,by go_num,by go_num,HS.ae,?_⟩;rw[show m-(m-a)=a by omega,show m+(b-m)=b by omega]):=h
def ZeD(h:p:=by intro ρ W4 hc hL hr;have h0:_=_:=hr.1;exact aq (v:=.pointer (some ⟨gp,9,none⟩)) (w':=W4) Tak ⟨AR.refl _,rfl⟩):=h
def ZeE(h:p:=by
 go_wp2
 all_goals
  go_ret;refine⟨?_,rfl⟩;first|rfl |(refine mM ?_;rw[Bool.eq_iff_iff];simp;omega)|(refine mM ?_;rw[Bool.eq_iff_iff];simp;done)):=h
def ZeF(h:p:=by rcases HK.ae with h|⟨b,off,h1,h2,h3⟩;exact ZgN;exact ZeW):=h
def ZeG(h:p:=by go_upto_region 5 with fail;have k1:=aB.new wr 46 (ay y);have Oe:=ah wr (.cells (ay y) 46);have Pw:=aa ((Oe.cell (p:=⟨gp,8,none⟩) (eS CV.ae hb.size)).trans ((hb.cell (p:=⟨gp,8,none⟩) CV.ae).trans F2.ae));have Sh:=aa (eS (eS CV.ae hb.size) Oe.size);have yC:=aa (λ W2 (h:aj (wr.alloc (.cells (ay y) 46)) W2)=>gO W2 (aj.then hB (aj.then hb (aj.then Oe h))));obtain⟨gy,F3⟩:∃gy,gy=wr.heap.size:=⟨_,rfl⟩;rw[<-F3]at k1⊢;clear gO hex F3;exact KbB):=h
def ZeH(h:p:=by go_upto_region 1 with fail;generalize w.alloc _=W1 at*;obtain⟨g,hg⟩:∃g,g=w.heap.size:=⟨_,rfl⟩;exact KbC):=h
def ZeI(h:p:=by have dy:=aI cL;have iA:=aB.frozen cL;go_wp2_with fail;exact bodyPost_ret (v:=.tuple #[.agg #[ag 0,af 0,.string ByteArray.empty],af 41]) Tah rfl ⟨by rw[HQ.ae];rfl,((hB.setCell bJ _).setCell bJ _).setCell bJ _⟩):=h
def ZeJ(h:p:=by
 have sH:=aa ny;have HL0:=aa hc;have HC:=aa hdg;have HLEN:=aa (show s.data.toList.length=s.size by simp);clear ny hd hc hdg hq;go_enter func132,ntmps132;go_wp2_with (first
  |(go_at_call 174;refine(ew s[at_] _).mono ?_;rintro e w' ⟨rfl,rfl⟩;rw[HL0.ae])
  |(go_at_call 175;refine(eY s[at_] _).mono ?_;rintro e w' ⟨rfl,rfl⟩;rw[HC.ae]))
 exact KbD):=h
def ZeK(h:p:=by obtain⟨f,rfl⟩:=lM T hT;have h1:f 1=_:=h1;have h2:f 2=_:=h2;have h4:f 4=_:=h4;have h5:f 5=_:=h5;have h6:f 6=_:=h6;simp only[bU,h1,h2,h4,h5,h6];clear h1 h2 h4 h5 h6;clear h1 h2 h4 h5 h6 hT;exact KbE):=h
def ZeL(h:p:=by simp[results,results184,go_sem,r0,r1,r2,r3,r4,r5,r6];rfl):=h
def ZeM(h:p:=by intro ρ w h;simp[go_sem,h]):=h
def ZeN(h:p:=by have Ku:j=i:=WC;subst Ku;have HF:=aa (CN HQ.ae hi hj HL.ae HH.ae);have HW:=aa ((wY D a (j-1-a)).mono aE (show a+(j-1-a)+1<=b by omega));rw[show a+(j-1-a)=j-1 by omega]at HW;clear HL HH HQ hlt kE;have zj:(j:Int)-1=((j-1:Nat):Int):=WC;go_wp2_with fail;exact KbF):=h
def ZeO(h:p:=by go_wp2_with fail;exact bodyPost_ret (v:=.tuple #[.agg (aC xv),af 0]) Tah rfl ⟨by rw[HQ.ae];rfl,((hB.setCell bJ _).setCell bJ _).setCell bJ _⟩):=h
def ZeP(h:p:=by simp only[Uaa]at y0 y1 c2 y3 y4 y5 y6;exact aq (w':=W4) (by simp[go_sem,h0,y0,y1,c2,y3,y4,y5,y6];done) ⟨aj.refl _,rfl⟩):=h
def ZeQ(h:p:=by clear Jk;refine wp_seq_k λ K1 hK1=>?_;have Kx:=aa hK1;clear hK1;go_wp2_with fail;refine Kx.ae _ _ ?_;clear Kx;refine wp_seq_k λ HX hK2=>?_;have Kh:=aa hK2;clear hK2;exact KbG):=h
def ZeR(h:p:=by
 go_wp2_with fail;refine(wP ⟨2,Kx,name,width,A,0,c⟩ _).mono ?_;rintro e w1 ⟨oo,rfl,VH,b1⟩;obtain rfl:oo=pH:=by
  rcases VH with⟨h,_⟩|⟨_,h⟩
  exact absurd h (by simp[lB]);exact h
 have Jl:bO ⟨2,Kx,name,width,A,0,c⟩=0:=by unfold bO;rw[if_pos Tad]
 rw[Jl];exact KbH):=h
def ZeS(h:p:=by go_wp2_with (go_at_call 175;refine(eY s[k] _).mono ?_;rintro e w' ⟨rfl,rfl⟩;rw[HD.ae]);refine HN.ae.mono ?_;unfold kH;rw[HE.ae,rb.ae];rintro e w1 ⟨he,rfl⟩;exact KbI):=h
def ZeT(h:p:=by exact aq (v:=aL W4.heap.size 1 1) (w':=W4.alloc (.cells #[aL g0 1 1] 38)) Tas ⟨ah W4 _,⟨W4.heap.size,g0,rfl,aB.new W4 _ _,gC.later (ah _ _)⟩⟩):=h
def ZeU(h:p:=by intro ρ w y v' w' h1 h2 hr;simp only[execOp,resolve,invoke,builtin,Sem.run_bind,Sem.run_pure,Result.andThen_ok,map_toArray,map_cons,map_nil,h1,h2,hr]):=h
def ZeV(h:p:=by
 have hj:j<K:=by rcases gR j K with h'|h';exact h';rw[getElem?_eq_none (by rw[hf];exact h')]at hu;cases hu
 rw[(hp i x hx).2 j hj];exact hu):=h
def ZeW(h:p:=by exact⟨b,off,h1,h2,h3 k _ (getElem?_eq_getElem hlt)⟩):=h
def ZeX(h:p:=by go_wp2_with fail;have hS:=aB.alloc h (.cells #[ag 0,af 0,.string {data:= #[]}] 44);have KK:=aB.new w 44 #[ag 0,af 0,.string {data:= #[]}];have hB:ai w (w.alloc (.cells #[ag 0,af 0,.string {data:= #[]}] 44)):=cX.alloc aE _;exact KbJ):=h
def ZeY(h:p:=by
 cases hg1:ck k wa
 ·go_wp2_with fail;go_ret;exact⟨by rw[hg1];rfl,hB⟩
 have x1:=hO.cell 1;have x3:=hO.cell 3;simp only[Uaa]at x1 x3;have c0:=(hB.cell (p:=⟨p,off,none⟩) hp).trans h0;exact KbK):=h
def ZeZ(h:p:=by go_wp2_with fail;go_region;clear c0 c1 c2 d0 d1 d2 d3 y0 y1 y2 z0 z1 z2 z3 x0 v0 v1 v2 v3;obtain⟨u0,u1,u2,u3,_⟩:=bM HT;clear HT;unfold dJ at u0 u1 u2 u3 hb x1 x2 oY HF Ul HB HD;generalize (w.alloc _).drew=W at*;have hwr:=Ul.ae;clear Ul;rw[QX]at hwr;exact KbL):=h
def Ze0(h:p:=by have KJ:=UI.ae;have z0:=KJ.cell 0;have z1:=KJ.cell 1;have x2:=KJ.cell 2;have x3:=KJ.cell 3;have x4:=KJ.cell 4;have x5:=KJ.cell 5;have x6:=KJ.cell 6;simp only[Uaa]at z0 z1 x2 x3 x4 x5 x6;exact KbM):=h
def Ze1(h:p:=by have e1:=hc.func 27;have e2:=hc.const (af 0);refine bu (f:=27) (args:= #[af 0]) (w':=W4) Tax ?_;refine(fP 0 W4).mono ?_;exact Zbl):=h
def Ze2(h:p:=by have v0:=HV.cell 0;have v1:=HV.cell 1;have v2:=HV.cell 2;simp only[Uaa]at v0 v1 v2;exact KbN):=h
def Ze3(h:p:=by have Ku:j=i:=WC;subst Ku;have HF:=aa (CO HQ.ae hi hj HL.ae HH.ae);have HW:=aa ((wZ D m (m-j) WC).mono (show a<=m-(m-j) by omega) aE);rw[show m-(m-j)=j by omega]at HW;clear HL HH HQ hlt kE;go_wp2_with fail;exact KbO):=h
def Ze4(h:p:=by have x6:=HX.cell 6;simp only[Uaa]at x6;go_wp2_with fail;exact KbP):=h
def Ze5(h:p:=by refine bp rfl rfl rfl λ ρ w3 hc cL hr=>?_;have h0:ρ (.tmp 1)=.slice CA cols.length cc:=hr.1;show(execOp ρ _).run _ w3=.ok (.value (.slice CA cols.length cc)) w3;exact ZdL):=h
def Ze6(h:p:=by have z6:=hR.cell 6;simp only[Uaa]at z6;exact KbQ):=h
def Ze7(h:p:=by have hb2:=aj.then hb1 bN;replace HP:=aa (HP.ae.later hb2);replace hb:=aj.then hb hb2;have Ct:((args.take i).map (·.2)).length<=1599289640356:=Tac;exact KbR):=h
def Ze8(h:p:=by clear HS;obtain⟨i,j,hi,kE,hj,rfl,rfl,hs,hl,hh⟩:=hrel;have H2:=aa hs;have HL:=aa hl;have HH:=aa hh;clear hs hl hh;exact KbS):=h
def Ze9(h:p:=by
 induction h with
 |refl=>exact λ _ _=>rfl
 |step _ k1 k2 k3 k4 ih=>intro k hk;unfold swp;rw[if_neg WC,if_neg WC];exact ih k hk):=h
def Zfa(h:p:=by intro ρ' w' hc' h';simp[go_sem,h',hc'.const,hc'.func]):=h
def Zfb(h:p:=by have t1:decide ((200:Int)<(L.i.n:Int))=false:=decide_eq_false WC;have t2:decide ((200:Int)<(L.o.n:Int))=false:=decide_eq_false WC;exact KbT):=h
def Zfc(h:p:=by have zK:=aa (show∀h,a+1<=h->h<jp+1->lt (D h) (D a)from λ h h1 h2=>kP (HQ.ae.le h1 (show h<=jp by omega) WC) HX.ae);exact ZbZ):=h
def Zfd(h:p:=by obtain⟨u,v,rfl⟩:=two WC;exact⟨_,#[_],rfl,.inr ⟨_,rfl⟩,Mi,λ W A c hb hr=>LW x A c q _ [u,v] W hr Tad (hq.later hb)⟩):=h
def Zfe(h:p:=by have hb2:b<W.heap.size:=eS hb hB.size;have cV:=λ y:Ext W.heap.size W=>hv.keep (w':=y.w) λ o=>y.cell (p:=⟨b,o,none⟩) hb2;exact KbU):=h
def Zff(h:p:=by obtain⟨q,h1,f0,f1⟩:=h;exact⟨q,h1,f0.grown hl.grown (Ne.symm f1),f1⟩):=h
def Zfg(h:p:=by have y0:=NY.cell 0;have y1:=NY.cell 1;have c2:=NY.cell 2;have y3:=NY.cell 3;have y4:=NY.cell 4;have y5:=NY.cell 5;have y6:=NY.cell 6;simp only[Uaa]at y0 y1 c2 y3 y4 y5 y6;exact KbV):=h
def Zfh(h:p:=by obtain⟨c0,c1,c2,d0,d1,d2,d3⟩:=hp;obtain⟨y0,y1,y2,z0,z1,z2,z3⟩:=Fo;obtain⟨x0,x1,x2,v0,v1,v2,v3⟩:=Nd;unfold rC at y0 y1 y2 z0 z1 z2 z3;exact KbW):=h
def Zfi(h:p:=by obtain⟨kp,rfl⟩:∃q,k=q+1:=⟨k-1,by omega⟩;have t2:decide ((j:Int)<(kp:Int)+1)=true:=decide_eq_true WC;have t2':decide ((j:Int)<((kp+1:Nat):Int))=true:=decide_eq_true WC;have cV:=H2.ae.at_.cell (kp+1) WC;exact KbX):=h
def Zfj(h:p:=by simp only[take_succ_cons,take_zero];refine⟨Zaa,Zaa,Zbs,Zaa,?_,trivial⟩;exact Zaa):=h
def Zfk(h:p:=by exact⟨r1,r2.trans hall,by rw[r3,hc];simp[cnt,one,o],by rw[r4,hs];simp[CK,Pm,o],tM (s:= {s with all:=s.all+1}) hb (by simp[key,o,hk])⟩):=h
def Zfl(h:p:=by exact⟨λ e h=>by injection h with h;rw[<-h];exact h2,λ _ _ _ h=>Tae,λ _ _ _ h=>Tae,λ _ _ _ h=>Tae⟩):=h
def Zfm(h:p:=by go_wp2_with fail;go_ret;exact⟨rfl,hb⟩):=h
def Zfn(h:p:=by refine bp rfl rfl rfl λ ρ w3 hc cL hr=>?_;have h0:ρ (.tmp 4)=aw g:=hr.1;show(execOp ρ _).run _ w3=.ok (.value (aY g 4)) w3;exact ZdL):=h
def Zfo(h:p:=by subst yz;go_wp2_with fail;exact bodyPost_ret (v:=.tuple #[]) Tbm rfl ⟨rfl,_,H2.ae,HW.ae,HF.ae⟩):=h
def Zfp(h:p:=by subst yz;go_wp2_with fail;exact bodyPost_ret (v:=.tuple #[]) Tbo rfl ⟨rfl,_,H2.ae,HW.ae,HF.ae⟩):=h
def Zfq(h:p:=by intro ρ W4 hc hL hr;have h1:_=_:=hr.1;have c0:=aI (HV.grown hL.grown PT);exact aq (w':=W4) Tbi ⟨AR.refl _,rfl⟩):=h
def Zfr(h:p:=by refine⟨rfl,?_⟩;unfold rM at hG;rw[if_neg Tab];show(execOp ρ _).run prog Fu=.ok (.value (aY gp 13)) Fu;simp[go_sem,r0]):=h
def Zfs(h:p:=by have c1:decide ((mid:Int)<(m:Int))=false:=decide_eq_false WC;have c2:decide (mid<m)=false:=decide_eq_false c;have HE:=aa (show jC a m b mid a m from⟨⟨by omega,by omega⟩,HM.ae,.inr ⟨by omega,rfl,rfl⟩⟩);clear c;exact KbY):=h
def Zft(h:p:=by obtain⟨y,o,hy,Cn,hstep⟩:=Dr (x:=n.data.toList) hlt;have HST:=aa hstep;have xG:=aa Cn;have c2:=tT (rb.ae.later iJ.ae) hy;clear hy hstep Cn;exact KbZ):=h
def Zfu(h:p:=by clear PS;go_enter func74,ntmps74;go_wp2_with fail;refine wp_loop_rounds 3 ?_;rw[rounds_succ];go_wp2_with fail;refine aR 10 w.heap.size w cX Taa Taa Taa Taa ?_;exact Kb0):=h
def Zfv(h:p:=by have z0:=NW.ae.cell 0;have z1:=NW.ae.cell 1;have x2:=NW.ae.cell 2;have f0:=NW.ae.frozen 0;have f1:=NW.ae.frozen 1;have f2:=NW.ae.frozen 2;simp only[Uaa]at z0 z1 x2;exact Kb1):=h
def Zfw(h:p:=by go_wp2_with fail;exact bodyPost_ret (v:=.tuple #[ag 2,af 0]) Tap rfl ⟨rfl,aj.then fT.ae b3⟩):=h
def Zfx(h:p:=by obtain⟨f,rfl⟩:=zN T hT;have h3:f 3=_:=h3;have h6:f 6=_:=h6;have h8:f 8=_:=h8;have h9:f 9=_:=h9;have h10:f 10=_:=h10;have h11:f 11=_:=h11;simp only[Zg,h3,h6,h8,h9,h10,h11];clear h3 h6 h8 h9 h10 h11;clear h3 h6 h8 h9 h10 h11 hT;exact Kb2):=h
def Zfy(h:p:=by obtain⟨g,h1,f0⟩:=h;exact⟨g,h1,f0.later hl⟩):=h
def Zfz(h:p:=by intro W3 hL;simp only[Uab];rintro a0-a1-a2-a3-_ rfl a5-a6-_ rfl;simp only[bw,Act.put,Uac];exact Kb3):=h
def ZfA(h:p:=by intro r hr;rcases List.mem_append.1 hr with hr|hr;exact M4.ae r hr;rw[mem_singleton]at hr;rw[hr];exact V4.ae.down HWO.ae):=h
def ZfB(h:p:=by refine bodyPost_ret (v:=.tuple #[.agg #[ag 0,au,af 0,af 0],af 0,af 2]) ZbS rfl ?_;rw[HC.ae,nK.ae,if_neg h32];exact Zch):=h
def ZfC(h:p:=by
 go_wp2_with fail;go_roundw;case rel=>exact⟨jp+1,j,by omega,by omega,by omega,by go_num,rfl,H3.ae,HX.ae⟩
 case measure=>exact Za2):=h
def ZfD(h:p:=by
 intro j u hu;have:(Addr.add ⟨g,0,none⟩ j)=⟨g,j,none⟩:=by unfold Addr.add;split<;>simp_all
 rw[this,hg.cell];simpa using hu):=h
def ZfE(h:p:=by
 obtain⟨g,hg1,_,hg3⟩:=this;have:w.heap.size=g:=by injection hg1 with hg1;injection hg1 with hg1;injection hg1
 have:=hg3.lt;omega):=h
def ZfF(h:p:=by go_enter func193,ntmps193;go_wp2_with (go_at_call 206;refine(HD.ae _).mono ?_;rintro e w1 ⟨rfl,hL⟩);go_ret;exact Zdn):=h
def ZfG(h:p:=by skip;intro hg;have hg:ρ (.tmp 26)=.bool true:=hg;refine⟨λ _=>?_,λ hn=>absurd hg hn⟩;have h0:_=_:=hr.1;exact Kb4):=h
def ZfH(h:p:=by simpa using this):=h
def ZfI(h:p:=by simp[Array.getD_eq_getD_getElem?,Array.getElem?_setIfInBounds,hT,e2]):=h
def ZfJ(h:p:=by clear Fm;go_wp2_with fail;refine AU.ae.mono ?_;rintro e w5 ⟨rfl,b5⟩;generalize hr:Jh op.toNat width [v1,v2]=r at*;exact Zai):=h
def ZfK(h:p:=by exact⟨rfl,rfl⟩):=h
def ZfL(h:p:=by obtain⟨u,rfl⟩:=one WC;exact⟨_,#[_],rfl,.inr ⟨_,rfl⟩,Mj,λ W A c hb hr=>LU x A c q _ u W hr (hq.later hb)⟩):=h
def ZfM(h:p:=by split at h;injection h with h;injection h with h1 h2;subst h1;exact⟨⟨by simp,by simp⟩,λ e=>by simp at e⟩;cases h):=h
def ZfN(h:p:=by go_enter func36,ntmps36;go_wp2_with fail;go_ret;exact⟨by rw[T1.ae];rfl,by rw[HP.ae];exact H.ae.aW 0 _,aF hg 0 _⟩):=h
def ZfO(h:p:=by
 have hK:(jT W g4 g5 gp).heap[D]?=some (.deferred (some [])):=by unfold jT;rw[Below.heap_setCell _ ⟨g5,0,none⟩ _ D (Ne.symm hf.new.2.2.2.2),Below.heap_setCell _ ⟨g4,0,none⟩ _ D (Ne.symm hf.new.2.2.2.1)];exact hf.dd
 exact Kb5):=h
def ZfP(h:p:=by intro ρ W4 hc hL hr;have h0:_=_:=hr.1;exact aq (v:=aY gp 10) (w':=W4) Tak ⟨AR.refl _,rfl⟩):=h
def ZfQ(h:p:=by clear Fm;go_wp2_with fail;refine AU.ae.mono ?_;rintro e w5 ⟨rfl,b5⟩;generalize hr:Jh op.toNat width [v1]=r at*;exact Zai):=h
def ZfR(h:p:=by subst hr2;have HG:=aa hg;clear hg hv hr;go_enter func58,ntmps58;go_wp2_with fail;refine(HG.ae _).mono ?_;exact Zdl):=h
def ZfS(h:p:=by
 go_wp2_with fail;go_roundw;case rel=>exact⟨i,jp,by omega,by omega,by omega,rfl,rfl,H3.ae,HX.ae⟩
 case measure=>exact Za2):=h
def ZfT(h:p:=by
 skip;cases ne
 ·skip;exact Zan
 skip;exact Zan):=h
def ZfU(h:p:=by simp only[getElem?_map,getElem?_eq_getElem hlt,Option.map_some]at h1;injection h1 with h1;rw[h1];simpa using h2):=h
def ZfV(h:p:=by clear c c1;go_wp2_with fail;exact Fl.ae _ _ (HY.ae R _ HS.ae .refl H6.ae _ ⟨rfl,rfl,rfl,rfl,rfl,rfl,rfl,rfl,rfl,rfl⟩)):=h
def ZfW(h:p:=by go_wp2_with fail;refine(oC.ae _ hb).mono ?_;rintro e w1 ⟨rfl,b1⟩;have hb1:=aj.then hb b1;clear hex hz b1 hb;exact Zaq):=h
def ZfX(h:p:=by
 induction h with
 |refl=>exact .refl
 |step _ k1 k2 k3 k4 ih=>exact .step ih WC WC WC WC):=h
def ZfY(h:p:=by exact⟨0,gE,rfl,λ j hj=>by omega,cX⟩):=h
def ZfZ(h:p:=by have HH2:=aa (show∀h,jp<=h->h<m->lt (D m) (D h)from λ h h1 h2=>kQ HX.ae (HQ.ae.le WC h1 h2));exact Zb7):=h
def Zf0(h:p:=by funext k;unfold bS dT;exact ZbW):=h
def Zf1(h:p:=by
 have HWA:=aa hwa;have BK:=aa yK;have HGI:=aa hgi;have ahT:args.length=1/\al=false\/args.length=2:=by
  rw[yK];unfold rU at oq;split at oq
  ·left;refine⟨by omega,?_⟩;simp[uU];omega
  right;omega
 have H1:=aa h1;exact Kb6):=h
def Zf2(h:p:=by have ox:=aa Bi;have iT:=aa Ui;have Nj:=aa qT;have HFN:=aa hfn;have HK:=aa hz;have HS:=aa hS;have HO:=aa hw;exact Kb7):=h
def Zf3(h:p:=by
 have jR:(args.map (·.1)++bad::post)[i]' Tac=bad:=by rw[getElem_append_right Tac];simp[fX]
 rw[jR]at hex;exact Kb8):=h
def Zf4(h:p:=by refine⟨hg,?_⟩;rw[(ma hn).1];dsimp only;rw[(ma hn).2];dsimp only;intro ρ w h1 h2 h3;rw[hc];exact h ρ w h1 h2 h3):=h
def Zf5(h:p:=by have y1:=cL.cell 1;simp only[Uaa]at y1;exact Kb9):=h
def Zf6(h:p:=by
 rw[d1];go_enter func76,ntmps76;go_wp2
 all_goals
  go_ret;refine⟨?_,by first|rfl|go_grown⟩;simp_all):=h
def Zf7(h:p:=by
 clear fq y2;go_wp2_with fail;go_roundw;case rel=>exact⟨i+1,hlt,by go_num,aj.then cL hL⟩
 case measure=>exact Za2):=h
def Zf8(h:p:=by rwa [show zs.length=fuel+1 by omega]at this):=h
def Zf9(h:p:=by go_end0;rw[HT.ae];exact⟨rfl,HS.ae,HG.ae⟩):=h
def Zga(h:p:=by exact⟨s0,r0,aE,by omega,aE,rfl,rfl,HS.ae,λ jp h1 h2=>by omega,λ jp h1 h2=>by omega⟩):=h
def Zgb(h:p:=by have hv':=hv.keep (w':=(w.alloc (.cells (ay x) 46)).alloc (.cells #[ag 0,af 0,au] 44)) λ o=>(aj.then (ah w (.cells (ay x) 46)) (ah _ (.cells #[ag 0,af 0,au] 44))).cell (p:=⟨b,o,none⟩) hb;unfold ej at hv';exact Kca):=h
def Zgc(h:p:=by clear c c1;go_wp2_with fail;exact Fl.ae _ _ (HY.ae _ HS.ae .refl _ ⟨rfl,rfl,rfl,rfl,rfl,rfl,rfl,rfl,rfl,rfl⟩)):=h
def Zgd(h:p:=by
 induction h with
 |refl=>exact .refl _
 |step _ k1 k2 k3 k4 ih=>exact(EG _ n _ _ WC WC).trans ih):=h
def Zge(h:p:=by skip;intro hg;have hg:ρ (.tmp 22)=.bool false:=hg;exact Zal):=h
def Zgf(h:p:=by rename_i hk;exact⟨rfl,hall,by rw[hc];simp[cnt,one,o,hk],by rw[hs];simp[CK,Pm,o,hk],fD hb TaP⟩):=h
def Zgg(h:p:=by have HS:=aa h;have HQ:=aa hQ;have mixed:prog.follows .mixedOrders=true:=Taa;clear h hQ;have t0:((m:Int)-(a:Int)==1)=false:=Tac;have t1:((m:Int)+1-(m:Int)==1)=true:=Tac;exact Kcb):=h
def Zgh(h:p:=by intro i hi j hj hT hU kE;exact absurd (hT.trans hU.symm) kE):=h
def Zgi(h:p:=by split at h;cases h;injection h with h;exact .inr h.symm):=h
def Zgj(h:p:=by
 obtain⟨m,rfl⟩:∃m,σ=.bad m:=by
  match σ,Nf.ae with
  |.good l,cq=>simp[cw.iy]at cq;omega
  |.bad m,_=>exact⟨m,rfl⟩
 go_wp2_with (go_at_call 88;refine hwr.mono ?_;rintro e w1 ⟨rfl,d1⟩);go_ret;exact Kcc):=h
def Zgk(h:p:=by have HXn:=aa (d13.blk HX.ae WC);have HQn:=aa (d13.blk vz.ae WC);have HDn:=aa (qu.ae.trans d13);have auR:=d13.size;clear HX vz qu d13;have HX:=HXn;have vz:=HQn;have qu:=HDn;clear HXn HQn HDn;exact Kcd):=h
def Zgl(h:p:=by exact jz (.inl rfl) h1 ⟨aj.refl _,rfl⟩):=h
def Zgm(h:p:=by
 have Ja:l[k]?=some o:=by have:=congrArg (λ x=>x[0]?) hk;simpa using this
 have aml:k<l.length:=by rcases gR k l.length with h'|h';exact h';rw[getElem?_eq_none h']at Ja;cases Ja
 exact Kce):=h
def Zgn(h:p:=by go_wp2_with fail;rw[rounds_succ];exact Zdw):=h
def Zgo(h:p:=by exact⟨a+1,b,by omega,by omega,by omega,by go_num,rfl,HS.ae,λ h h1 h2=>by omega,λ h h1 h2=>by omega⟩):=h
def Zgp(h:p:=by exact⟨0,E,⟨0,rfl⟩,by omega,rfl,by go_num,HS.ae,HO.ae,λ x h1 h2=>by omega,λ x h1 h2=>HL.ae x h1⟩):=h
def Zgq(h:p:=by go_wp2;exact ZbH):=h
def Zgr(h:p:=by rename_i hk;exact⟨rfl,hall,by rw[hc];simp[cnt,one,o],by rw[hs];simp[CK,Pm,o],fD hb (by simp[key,o,hk])⟩):=h
def Zgs(h:p:=by have y1:=cL.cell 0;simp only[getElem?_toArray,getElem?_cons_zero]at y1;rw[Nat.zero_add,y1,iT.ae]):=h
def Zgt(h:p:=by intro W3 hL;simp only[Uab];rintro _ rfl _ rfl _ rfl _ rfl a4 q4 a5 q5 a6 q6 a7 q7 a8 q8 a9 q3 Hc Wm;replace q4:cV=a4:=Eq.symm q4;subst q4;exact Kcf):=h
def Zgu(h:p:=by intro ρ w vs hc hG hr;rw[t1]at hr;have r0:=hr.1;simp only[m2]at r0;exact⟨g1,hld ρ w r0 (Dp _ _ hG)⟩):=h
def Zgv(h:p:=by have hl:=BM _ _ _ _ hgm s.op false i _ hi;exact aq (w':=W4) Tbd ⟨aj.refl _,rfl⟩):=h
def Zgw(h:p:=by split at h;cases h;injection h with h;injection h with h1 h;injection h with h2 h3;rw[<-h3];exact hs):=h
def Zgx(h:p:=by intro ρ W4 hc hL hr;have h0:_=_:=hr.1;have c0:=(hL.cell (p:=⟨lb,i,none⟩) YN.ae).trans Za.ae;exact Zd6):=h
def Zgy(h:p:=by go_wp2_with fail;exact Fl.ae _ _ (HBE.ae HN.ae _ _ _ _ _ _ _ _ _ _ _ _ _ _ _ _ _ _ _ _ _ _ _ _ _ _ _ _ _)):=h
def Zgz(h:p:=by simp only[DI,Uaa]at y0 y1 c2;exact ZdQ):=h
def ZgA(h:p:=by refine(cy ρ _ _ false HF.ae ⟨#[116,114,117,101]⟩ (show(cw.good (tk.w::r)).head (⟨#[116,114,117,101]⟩:u_).data.toList=false from H1.ae)).mono ?_;rintro e w1 ⟨rfl,d1⟩;go_wp2_with fail;exact Kcg):=h
def ZgB(h:p:=by rcases gR g w.heap.size with h'|h';exact h';rw[Array.getElem?_eq_none h']at h2;cases h2):=h
def ZgC(h:p:=by rcases h4 with h4|h4;exact .inl h4;exact .inr λ q hq=>by rw[h4]at hq;injection hq with hq;omega):=h
def ZgD(h:p:=by obtain⟨q,h1,f0,f1⟩:=h;exact⟨q,h1,hl.new _ f0,f1⟩):=h
def ZgE(h:p:=by rw[h4];simp only[h3,getElem_map,getElem_range]):=h
def ZgF(h:p:=by intro ρ' w' s' v' L3 vY Fk nX;exact Za4):=h
def ZgG(h:p:=by subst hx hcs;obtain⟨hbytes,Qc⟩:=zW hT hw;rw[length_map,length_map,hlen]at hbytes;have hb2:len*prog.bytesOf e<=reachBytes:=fK (Nat.mul_le_mul_right _ WC) hbytes;exact Kch):=h
def ZgH(h:p:=by intro ρ' w' y' h';show _=Result.ok _ (w'.alloc (.cells (Uv y').toArray _));simp[go_sem,h',itV,Uv,bH]):=h
def ZgI(h:p:=by simp only[bw,Act.put,Uac];have NN:=aa (Below.trans wu.ae (hL.mono wu.ae.size));have NW:=aa (Bv.ae.later hL);have Fs:=aa (V5.ae.later hL);exact Kci):=h
def ZgJ(h:p:=by intro ρ W4 hc hL hr;have h0:_=_:=hr.1;have h1:_=_:=hr.2.1;have hs:=ub XA xn xc gn zv.ae W4;exact Zde):=h
def ZgK(h:p:=by obtain⟨x0,x1,x2,x3,x4,x5,x6,x7⟩:=dB Ly.ae.blk;obtain⟨z0,z1,z2,z3,z4,z5,z6,z7⟩:=mg Ly.ae.res;obtain⟨y0,y1,y2,y3,y4,y5,y6,y7⟩:=dB Ly.ae.res;unfold oG at x0 x3 x4 x5 x6 x7;go_wp2_with fail;exact Kcj):=h
def ZgL(h:p:=by rcases gR k l.length with h'|h';exact h';rw[getElem?_eq_none h']at ho;cases ho):=h
def ZgM(h:p:=by rw[drop_eq_getElem_cons hlt];rw[getElem?_eq_getElem hlt]at h1;injection h1 with h1;rw[h1]):=h
def ZgN(h:p:=by rw[h]at hlt;exact absurd hlt Tad):=h
def ZgO(h:p:=by rcases gR i j with h1|h1;exact h i j hi h1 hj;rw[show i=j by omega];exact le_refl _):=h
def ZgP(h:p:=by exact⟨rfl,rfl,rfl,rfl,rfl,[],.inl rfl,Tr.all_nil⟩):=h
def ZgQ(h:p:=by show(execOp ρ _).run _ w3=.ok (.value (.slice (some ⟨bg,og,none⟩) L.g.n L.g.c)) w3;exact ZbF):=h
def ZgR(h:p:=by rcases gR i ps.length with h|h;exact h;rw[getElem?_eq_none h]at BL;cases BL):=h
def ZgS(h:p:=by
 skip;cases nz
 ·skip;cases ne
  ·exact Zbz
  exact Zbz
 skip;cases ne
 exact Zbz;exact Zbz):=h
def ZgT(h:p:=by rw[wh.ae];exact⟨⟨0,⟨0,0,⟨#[]⟩⟩,⟨#[]⟩,0,none,0,0⟩,_,_,rfl,xO.ae.own lC nD.ae⟩):=h
def ZgU(h:p:=by
 go_roundw;case rel=>exact⟨k+1,hx,by go_num,by rw[nx.ae];exact O4.ae⟩
 case measure=>exact Za2):=h
def ZgV(h:p:=by rintro e w1 ⟨rfl,hs1,hg1⟩;go_wp2_with fail;go_end0;rw[HT.ae];exact⟨rfl,hs1,ba HG.ae hg1⟩):=h
def ZgW(h:p:=by refine Classical.byContradiction λ e=>?_;have:=le_trans (not_lt.1 e) h;exact(not_lt.2 this) k):=h
def ZgX(h:p:=by refine Classical.byContradiction λ e=>?_;have:=le_trans k (not_lt.1 e);exact(not_lt.2 this) h):=h
def ZgY(h:p:=by obtain⟨a,ha⟩:=Option.isSome_iff_exists.1 ha;rw[ha]at hG;obtain⟨k1,k2,k3,Ax,k5⟩:=hG;obtain⟨q,c,e1,e2⟩:=Ax.row;exact Kck):=h
def ZgZ(h:p:=by refine(yC.ae W4 hL).mono ?_;exact Zbl):=h
def Zg0(h:p:=by
 skip;cases nz
 exact ZbN;exact ZbN):=h
def Zg1(h:p:=by rw[nx.ae,filter_append,filter_cons_of_neg (by rw[Zj.ae];simp)];simpa using TG.ae.1):=h
def Zg2(h:p:=by exact aq (v:=.tuple #[XF,XG]) (w':=W4) Tas ⟨aj.refl _,_,_,rfl,cL⟩):=h
def Zg3(h:p:=by obtain⟨x,h1,f0⟩:=h;exact⟨x,h1,f0.later hl⟩):=h
def Zg4(h:p:=by rw[hr]at hrun;injection hrun with _ hw;rw[<-hw];exact(aj.drew w).alloc aE _):=h
def Zg5(h:p:=by intro ρ W4 hc hL hr;exact aq (w':=W4) (by simp[go_sem,hc.const];done) ⟨aj.refl _,rfl⟩):=h
def Zg6(h:p:=by exact⟨0,gE,rfl,rfl,cX⟩):=h
def Zg7(h:p:=by exact⟨0,gE,rfl,cX,rfl⟩):=h
def Zg8(h:p:=by simp only[Uaa]at c4 c8 c10;have Cb:=aa hat;have iT:=aa bc;have lq:=aa gL;have qG:=aa pd;clear b0 b2 bb pd hat bc gL iB;exact Kcl):=h
def Zg9(h:p:=by
 intro i w w' v h hl
 match i with
 |0|1|2|3|4|5|6|7=>exact h
 |n+8=>exact h):=h
def Zha(h:p:=by have e1:=cL.err;subst e1;exact aq (w':=W4) Tas ⟨aj.refl _,rfl⟩):=h
def Zhb(h:p:=by clear hz;go_enter func177,ntmps177;go_wp2_with fail;go_ret2;exact QU HB.ae rfl):=h
def Zhc(h:p:=by exact(h.at_ x RS).rK.uN hc (by rw[ho];decide) hm):=h
def Zhd(h:p:=by intro ρ W4 hc hL hr;have h1:ρ (.tmp 15)=.tuple #[.agg (aC v),af err]:=hr.1;exact Zda):=h
def Zhe(h:p:=by unfold swp;split;exact h.rows i hi;split;exact h.rows j hj;exact h.rows k hk):=h
def Zhf(h:p:=by intro a w8 BD;simp only[bw,Act.put,Uac];intro a0 _ a1 _ a2 _ a3 _ a4 _ a5 _ a6 _ a7 _ a8 _ a9 _ Hc _;refine wpList_nil ?_;exact Kcm):=h
def Zhg(h:p:=by subst q3;replace Wm: af He=Hc:=Eq.symm Wm;subst Wm;simp only[bw,Act.put,Uac];exact Kcn):=h
def Zhh(h:p:=by have Ur:=aa jw;have xF:=aa jw.p;have H1:=aa jw.wt;have H2:=aa jw.wf;have H3:=aa jw.wn;have H4:=aa jw.wo;exact Kco):=h
def Zhi(h:p:=by have LE:=aa (BW.ae l rfl);have V5:=aa (show aB w5 gb 84 #[af (jO He 0)] from Sx.ae);have t1:(od (.ok l)==0)=true:=rfl;clear BW V3 Sx;obtain⟨XA,xc,hx0,hxl,Q8⟩:=KB LE.ae;subst hx0;have vK:=aa Q8;exact Kcp):=h
def Zhj(h:p:=by exact⟨a,m,by omega,by omega,by omega,rfl,rfl,HS.ae,λ h h1 h2=>by omega,λ h h1 h2=>by omega⟩):=h
def Zhk(h:p:=by clear JM;go_wp2_with fail;refine(JL.ae _).mono ?_;rintro e w2 ⟨rfl,b3⟩;have c10:=(bz.later b3).cell 0;simp only[Uaa]at c10;exact Kcq):=h
def Zhl(h:p:=by obtain⟨o,h1,h2⟩:=h;exact⟨o,h1,h2.fr hr⟩):=h
def Zhm(h:p:=by
 induction k with
 |refl=>exact h
 |step _ h1 h2 h3 h4 ih=>exact .step ih h1 h2 h3 h4):=h
def Zhn(h:p:=by clear Uu Rg;go_wp2_with fail;have HP:=eB kt.ae y;have HR:=dw HP;unfold dY at HR;obtain⟨r0,r1,r2,r3,r4,r5,r6⟩:=HR;exact Kcr):=h
def Zho(h:p:=by go_wp2_with fail;refine(IX q w3 v3 ys _ O3.ae TT.ae iT.ae Dg.ae).mono ?_;rintro e w4 ⟨rfl,b4⟩;have hb4:=Below.trans ux.ae (b4.mono ux.ae.size);clear b4;go_wp2_with fail;go_ret;exact Kcs):=h
def Zhp(h:p:=by have ja:=hex.keep (λ o=>iJ.ae.f.base.cell (p:=⟨b,o,none⟩) Dx);unfold cC at ja;have yE:=aa sR;have lq:=aa gL;have wh:=aa Lf;have HAA:=aa hA;rw[hA];clear hex sR gL Lf hA Dx fW;exact Kct):=h
def Zhq(h:p:=by show(execOp ρ _).run _ w3=.ok (.value (aY bg og)) w3;simp[go_sem,hc.const,h0,hg0]):=h
def Zhr(h:p:=by kernel_rfl):=h
def Zhs(h:p:=by exact⟨0,gE,rfl,cX⟩):=h
def Zht(h:p:=by exact bodyPost_ret (v:=.tuple #[]) Tbo h0 h):=h
def Zhu(h:p:=by exact bodyPost_ret (v:=.tuple #[]) Tbm h0 h):=h
def Zhv(h:p:=by intro ρ W4 hc hL hr;have h1:_=_:=hr.1;exact jz (.inl rfl) h1 ⟨AR.refl _,rfl⟩):=h
def Zhw(h:p:=by exact aq (w':=W4) TaI ⟨FR.refl _ _ _,rfl,λ h=>by cases h⟩):=h
def Zhx(h:p:=by exact⟨true,λ _=>h,λ h=>Tae⟩):=h
def Zhy(h:p:=by simp[Rows.uptoBulk]):=h
def Zhz(h:p:=by rw[e3,take_append_of_le_length Tad,take_of_length_le Tad]):=h
def ZhA(h:p:=by exact aq (w':=W4) (by simp[go_sem,hc.const,h0,h1,e1];done) ⟨aj.refl _,rfl⟩):=h
def ZhB(h:p:=by intro ρ W4 hc hL hr;have h0:_=_:=hr.1;have c0:=(HEW.ae.later hL).c4;exact Zb5):=h
def ZhC(h:p:=by exact⟨0,D,⟨0,rfl⟩,by omega,rfl,rfl,Kx.ae,.refl,λ x h1 h2=>by omega⟩):=h
def ZhD(h:p:=by go_enter func48,ntmps48;exact Zgq):=h
def ZhE(h:p:=by go_enter func49,ntmps49;exact Zgq):=h
def ZhF(h:p:=by go_enter func50,ntmps50;exact Zgq):=h
def ZhG(h:p:=by intro ρ' w' v' x' u' L3 vY Fk nX;exact Za4):=h
def ZhH(h:p:=by intro ρ w G cap h1 h2;simp[go_sem,h1,h2];intro KK;exact absurd KK WC):=h
def ZhI(h:p:=by
 intro i w w' v h hl
 match i with
 |0|1|2|3|4=>exact h
 |n+5=>exact h):=h
def ZhJ(h:p:=by refine⟨A,l,c,?_,h⟩;simp[Value.cells]at q;obtain⟨rfl,rfl,rfl⟩:=q;rfl):=h
def ZhK(h:p:=by intro ρ w σ hc hG hr he hno;refine⟨rfl,?_⟩;unfold Tt at hG;rw[if_pos Tab];have kW:=hno Tab;exact Kcu):=h
def ZhL(h:p:=by have gO:=Jo.ae;unfold cC at hex;go_wp2_with fail;have bY:=ah wr (.cells (ay bad) 46);refine(gO _ (Kx.trans ((aj.then hb bY).mono Kx.size))).mono ?_;rintro e W3 ⟨rfl,KK⟩;exact Kcv):=h
def ZhM(h:p:=by exact aq (w':=W4) (by simp[go_sem,hc.const,h0,e1];done) ⟨aj.refl _,rfl⟩):=h
def ZhN(h:p:=by simp[Array.getD_eq_getD_getElem?,Array.getElem?_setIfInBounds,hT];exact arV):=h
def ZhO(h:p:=by intro ρ W4 hc hL hr;intro hg;have hg:ρ (.tmp 57)=.bool true:=hg;exact Zal):=h
def ZhP(h:p:=by intro ρ W4 hc hL hr;intro hg;have hg:ρ (.tmp 61)=.bool true:=hg;exact Zal):=h
def ZhQ(h:p:=by intro ρ W4 hc hL hr;intro hg;have hg:ρ (.tmp 74)=.bool true:=hg;exact Zal):=h
def ZhR(h:p:=by intro ρ W4 hc hL hr;intro hg;have hg:ρ (.tmp 78)=.bool true:=hg;exact Zal):=h
def ZhS(h:p:=by simpa [Lit.wf,IntKind.min,IntKind.max,IntKind.signed,IntKind.bits] using h):=h
def ZhT(h:p:=by subst hr;clear HP Kd LH PB PA oD;go_wp2_with fail;go_ret;exact⟨rfl,hW⟩):=h
def ZhU(h:p:=by have HE:=aa hE;have ox:=aa Su;have aen:=aa KS;have HIL:=aa Vd;have HO:=aa hJ;have S0:=aa Pk;have YZ:=aa Il;have HFN:=aa Ve;have HLEN:=aa Pz;have ajL:=aa lQ;have pE:=aa fE;exact Kcw):=h
def ZhV(h:p:=by exact⟨a+1,D,by omega,.inr rfl,by go_num,HS.ae,.refl,.none WC⟩):=h
def ZhW(h:p:=by rw[length_map];omega):=h
def ZhX(h:p:=by rw[set_append_right _ _ aE,Nat.sub_self]at h1;exact h1):=h
def ZhY(h:p:=by go_wp2_with fail;exact ox.ae er _ _ pC.ae oD.ae ⟨rfl,rfl,rfl⟩ HW2.ae):=h
def ZhZ(h:p:=by intro ρ W4 hc hL hr;have h0:_=_:=hr.1;have cL:=Ie.ae.later hL;exact Zbo):=h
def Zh0(h:p:=by have HC:=aa hC;clear hC;go_wp2_with fail;refine HC.ae.mono ?_;rintro e_ w5 ⟨rfl,G,hS,hw,ho⟩;have H2:=aa hS;have HW:=aa (HO.ae.trans (hw.mono WC WC));exact Kcx):=h
def Zh1(h:p:=by exact⟨w.heap.size,rfl,(aB.new w 4 #[.bool fv]).alloc _,by go_grown⟩):=h
def Zh2(h:p:=by obtain⟨q,q2,h1,h2,h3⟩:=h;exact⟨q,q2,h1,hk _ _ _ h2,hk _ _ _ h3⟩):=h
def Zh3(h:p:=by rw[h1]at h2;injection h2 with h2;injection h2 with _ h2 _;exact ht h2):=h
def Zh4(h:p:=by
 cases x with
 |error e=>rfl
 |ok p=>rfl):=h
def Zh5(h:p:=by obtain⟨g,a,h1,f0,f1⟩:=h;exact⟨g,a,h1,f0.later hl,f1.later hl⟩):=h
def Zh6(h:p:=by go_wp2_with fail;go_ret;exact⟨by rw[HMX.ae];rfl,aj.then Bf.ae hW⟩):=h
def Zh7(h:p:=by by_cases h0:b.n=0;rw[if_pos h0];rw[if_neg h0]at h⊢;exact uV h):=h
def Zh8(h:p:=by simp[Array.getD_eq_getD_getElem?,Array.getElem?_setIfInBounds,hT,e4]):=h
def Zh9(h:p:=by simp[Array.getD_eq_getD_getElem?,Array.getElem?_setIfInBounds,hT,e5]):=h
def Zia(h:p:=by have SO:=aa (Gb.ae.stop hj0 (.inr (by simpa using HL.ae)));exact Zdd):=h
def Zib(h:p:=by exact⟨i,KK,by omega,aE,rfl,H2.ae,HW.ae,.start Gb.ae⟩):=h
def Zic(h:p:=by go_wp2_with fail;go_ret;exact⟨by simp[wU,e1,e2,e3,e4,e5,e6],hb⟩):=h
def Zid(h:p:=by unfold aH;rw[length_append,flatMap_append];simpa using h2):=h
def Zie(h:p:=by injection hx with hx;subst hx;exact⟨h.cell 0,h.cell 1,h.cell 2⟩):=h
def Zif(h:p:=by clear c c1;go_wp2_with fail;exact HK.ae _ _ S rfl HS.ae .refl H6.ae):=h
def Zig(h:p:=by exact⟨_,_,⟨rfl,rfl⟩,by unfold Val.Ok num;dsimp only;omega⟩):=h
def Zih(h:p:=by cases A1<;>simp[sliced,ua]):=h
def Zii(h:p:=by show(execOp ρ _).run _ w3=.ok (.value (.agg (ay y))) w3;exact ZbF):=h
def Zij(h:p:=by cases hs:sb;rfl;have h1:=MM (um.ae.1 hs);have h2:=HNA.ae;omega):=h
def Zik(h:p:=by go_wp2_with fail;go_ret;refine⟨nR ?_,rfl⟩;rw[HS.ae,tR hle];rw[HD.ae,cD,HB.ae,if_neg Tab,if_neg];exact Kcy):=h
def Zil(h:p:=by exact hG.apart y hy z hz hyz v hv hv2):=h
def Zim(h:p:=by obtain⟨q,h1,h2,h3⟩:=h;exact⟨q,h1,h2.grown hr.grown h3,h3⟩):=h
def Zin(h:p:=by rcases HO.ae with h|⟨b,off,h1,h2,h3⟩;exact ZgN;exact ZeW):=h
def Zio(h:p:=by exact aq (w':=W4) (by simp[execOp,h1,bZ,hf]) ⟨aj.refl _,rfl⟩):=h
def Ziq(h:p:=by simp[results,results134,go_sem,r0,r1,r2,r3,r4,r5,r6,r7];rfl):=h
def Zir(h:p:=by by_cases e:dL s l=true;simp only[e,if_true];simp only[e];rfl):=h
def Zis(h:p:=by exact .inl h):=h
def Zit(h:p:=by exact⟨0,gE,gE,rfl,rfl,cX⟩):=h
def Ziu(h:p:=by exact⟨b,off,h1,h2,(h3 k _ (getElem?_eq_getElem hx)).1⟩):=h
def Ziv(h:p:=by exact Ha (by simp[go_sem,hc.const,hc.func,h0,h1,h2]) (na w3 cL)):=h
def Ziw(h:p:=by refine⟨rfl,rfl,rfl,rfl,rfl,[],.inl rfl,?_⟩;unfold Tr.aO;rfl):=h
def Zix(h:p:=by
 intro ρ W4 hc hL hr;cases gd
 ·skip;exact Zb3
 skip;exact Zb3):=h
def Ziy(h:p:=by rw[Wi]at hcj;clear Wi ajU;subst hA;obtain⟨q,hq⟩:∃q,q=x.g:=⟨_,rfl⟩;have HQ:=aa hq;rw[<-hq]at hcj;have YN:=aa yB;have Za:=aa hcj;clear wD yB hcj hq;exact Kcz):=h
def Ziz(h:p:=by exact⟨y,w1,gU,g0,h1,h2,h3,h4,h5.trans (aj.drew _),h6.drew⟩):=h
def ZiA(h:p:=by exact uL _ rfl rfl λ ρ w3 hc=>by first|rfl|simp[go_sem]):=h
def ZiB(h:p:=by rw[drop_eq_getElem_cons h2,drop_eq_nil_of_le h1];rfl):=h
def ZiC(h:p:=by
 repeat' split
 all_goals first|rfl |(exfalso;omega)|simp_all):=h
def ZiD(h:p:=by go_wp2_with fail;go_ret;exact⟨_,rfl,aH.nil,cX⟩):=h
def ZiE(h:p:=by obtain⟨fn,tmps,assign,body,hy,hR⟩:=pE.ae _ x _ hJ1 Bh.ae;unfold Sm at hy;rw[hLk]at hy;have HR:=aa hR;exact KcA):=h
def ZiF(h:p:=by exact⟨rfl,rfl,rfl⟩):=h
def ZiG(h:p:=by exact⟨a,aE,by omega,rfl,by rw[oO];exact H2.ae⟩):=h
def ZiH(h:p:=by rintro e w1 ⟨rfl,rfl⟩;exact Zdw):=h
def ZiI(h:p:=by unfold aH;rw[length_append,flatMap_append];exact h2):=h
def ZiJ(h:p:=by intro ρ W4 hc hL hr;have h1:ρ (.tmp 0)=aw p:=hr.1;exact Zgl):=h
def ZiK(h:p:=by
 have t0:T.getD 0 undef=oF q L:=by rw[LM];simp[Array.getD_eq_getD_getElem?]
 have t1:T.getD 1 undef=.slice CA cols.length cc:=by rw[LM];simp[Array.getD_eq_getD_getElem?]
 exact KcB):=h
def ZiL(h:p:=by go_wp2_with fail;have bY:=ah wr (.cells (ay y) 46);refine(gO _ (Kx.trans ((aj.then hb bY).mono Kx.size))).mono ?_;rintro e W3 ⟨rfl,KK⟩;have hb1:=aj.then bY KK;exact KcC):=h
def ZiM(h:p:=by replace HK:=aa (HK.ae.later b1);replace K1:=aa (K1.ae.later b1);replace K2:=aa (K2.ae.later b1);replace K3:=aa (K3.ae.later b1);replace HB:=aa (aj.then HB.ae b1);exact KcD):=h
end Go.Proofs.YtndgjggokjickaaGreatDoor
