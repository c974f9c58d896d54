/- Scripts that several proofs use. -/
import Derived.BigQuiet
import Derived.Handy
import Derived.WalkLawsBesides
import Derived.Lib.Hide
import Derived.Deep.AppendLies
import Derived.Deep.RegionWith
import Derived.Laws.EntriesVeiled
import Derived.Shelf.Small.Bits
import Derived.Shelf.Strconv.Itoa3
import Derived.Shelf.SlicesE.Clone
import Derived.Shelf.Spec.BitsCarry
import Derived.Deep.DeepCutAuto
import Derived.Laws.CopyOwn
import Derived.Lib.ItoaLen
import Derived.Lib.AppendZeros
import Derived.Lib.ParseIntB
import Derived.Lib.Case
import Derived.Lib.AppendZerosOnto
import Derived.Lib.Overlaps
import Derived.RangeFuncNested
import Derived.RangeFuncBound
import Derived.Shelf.RegionOpen
import Derived.OwnWalkIn
import Derived.LoopNIn
import Derived.LoopIn
import Derived.Deep.WholeRow
import Derived.Deep.Strs
import Derived.Lay
import Derived.LaidMore
import Derived.Stop.LaidErr
import Derived.HandedShaped
import Derived.Deep.DeepHandedRow
import Derived.Test.YtndgjggokjickaaGreatDoorProg
namespace Go.Proofs.YtndgjggokjickaaGreatDoor
set_option linter.unusedVariables false
open Go.ChangeShapes Go.WideShapes Go.ChangeAt Go.RowKit List
abbrev yD:=Exit->Act->World->Prop
abbrev z_:=Option Addr
abbrev x_:=Array Value
abbrev wL:=List Value
abbrev w_:=List UInt8
abbrev tE:=Except Int
abbrev t_:=ByteArray
abbrev rQ:=World
abbrev aj (a b:rQ):Prop:=Below a.heap.size a b
abbrev ar (f:FuncId)(a:x_)(w:rQ)(q:Ending->rQ->Prop):Prop:=Calls Tryz.prog f a w q
def fw (p:Prop):Prop:=p
theorem fw.ae {p:Prop}(h:fw p):p:=h
theorem aa {p:Prop}(h:p):fw p:=h
abbrev aw (g:Nat):Value:=.pointer (some ⟨g,0,none⟩)
abbrev bc (g k:Nat):Value:=.pointer (some ⟨g,k,none⟩)
abbrev aL (g n c:Nat):Value:=.slice (some ⟨g,0,none⟩) n c
abbrev ay:Value:=.slice none 0 0
abbrev au:Value:=.string ⟨#[]⟩
abbrev af (n:Int):Value:=.int .i64 n
abbrev ag (n:Int):Value:=.int .u8 n
theorem Uaa:(∀{α:Type}(l:List α)(i:Nat),l.toArray[i]?=l[i]?)/\(∀{α:Type}(a:α)(l:List α),(a::l)[0]?=some a)/\∀{α:Type}(a:α)(l:List α)(i:Nat),(a::l)[i+1]?=l[i]?:=by refine⟨?_,?_,?_⟩<;>simp
theorem Uab:(∀{α:Type}(a:α)(l:List α)(i:Nat),(a::l).take (i+1)=a::l.take i)/\(∀{α:Type}(l:List α),l.take 0=[])/\(∀{α:Type}(a:α)(l:List α)(i:Nat),(a::l).drop (i+1)=l.drop i)/\∀{α:Type}(l:List α),l.drop 0=l:=by refine⟨?_,?_,?_,?_⟩<;>simp
theorem Uac:(∀{α:Type}(l:List α)(i:Nat)(a:α),l.toArray.setIfInBounds i a=(l.set i a).toArray)/\(∀{α:Type}(x:α)(l:List α)(i:Nat)(a:α),(x::l).set (i+1) a=x::l.set i a)/\∀{α:Type}(x:α)(l:List α)(a:α),(x::l).set 0 a=a::l:=by refine⟨?_,?_,?_⟩<;>simp
variable{p:Prop}
theorem TD(h:p:=by omega):p:=h
theorem WC(h:p:=by kernel_rfl):p:=h
theorem V0(h:p:=by decide):p:=h
theorem Taa(h:p:=by simp):p:=h
theorem Tab(h:p:=by simp;omega):p:=h
theorem Tac(h:p:=by cases h):p:=h
theorem Tad(h:p:=by unfold M;simp;omega):p:=h
theorem Tae(h:p:=by simp[results,Tryz.results17,go_sem,dz];try rfl):p:=h
theorem Taf(h:p:=by simp[results,Tryz.results99,go_sem,x0,x1,z2,z3,z4,z5,z6];done):p:=h
theorem Tah(h:p:=by simp[go_sem,hc.const,h0];done):p:=h
theorem Tai(h:p:=by simpa using h):p:=h
theorem Taj(h:p:=by rw[hg2];exact congrArg some e):p:=h
theorem Tak(h:p:=by unfold maxLen;omega):p:=h
theorem Tal(h:p:=by simp_all):p:=h
theorem Tam(h:p:=by simp[go_sem,h0];done):p:=h
theorem Tan(h:p:=by simpa using hlt):p:=h
theorem Tao(h:p:=by simp[results,Tryz.results153,go_sem]):p:=h
theorem Tap(h:p:=by simp[results,Tryz.results59,go_sem]):p:=h
theorem Taq(h:p:=by simp[go_sem,e1,h0,h1];done):p:=h
theorem Tar(h:p:=by rw[HLEN.ae];omega):p:=h
theorem Tas(h:p:=by simpa [Function.comp_def] using hA):p:=h
theorem Tat(h:p:=by simp[results,Tryz.results61,go_sem,x0,x1,z2,z3,z4,z5,z6];done):p:=h
theorem Tau(h:p:=by simp[results,Tryz.results16,go_sem]):p:=h
theorem Tav(h:p:=by rw[getElem?_eq_getElem hi,he]):p:=h
theorem Taw(h:p:=by rw[Oe.ae];rfl):p:=h
theorem Tax(h:p:=by simp[go_sem,h0,h1];done):p:=h
theorem Tay(h:p:=by simp[go_sem,e1,h0];done):p:=h
theorem Taz(h:p:=by simp[go_sem,e1,e2];done):p:=h
theorem TaA(h:p:=by simp[cq,Value.oneCell']):p:=h
theorem TaB(h:p:=by simp[bD,Value.oneCell']):p:=h
theorem TaC(h:p:=by simpa using hi):p:=h
theorem TaD(h:p:=by simp only[Array.size_setIfInBounds];exact hT):p:=h
theorem TaE(h:p:=by simp[go_sem,h1]):p:=h
theorem TaF(h:p:=by rw[sM];exact pz):p:=h
theorem TaG(h:p:=by simp[results,Tryz.results64,go_sem]):p:=h
theorem TaH(h:p:=by rw[<- h.len];exact hi):p:=h
theorem TaI(h:p:=by rw[take_append_drop];exact hz):p:=h
theorem TaJ(h:p:=by simp[go_sem,hc.const,h0,h1];done):p:=h
theorem TaK(h:p:=by simp[key,o]):p:=h
theorem TaL(h:p:=by have:=mr.ae;have:=HJN.ae;omega):p:=h
theorem TaM(h:p:=by have:=AW.ae;have:=HND.ae;omega):p:=h
theorem TaN(h:p:=by simp[h]):p:=h
theorem TaO(h:p:=by simp[h a (by simp)]):p:=h
theorem TaP(h:p:=by simp only[length_singleton,Nat.min_def];split <;> omega):p:=h
theorem TaQ(h:p:=by rw[wC.ae];exact Nat.le_refl _):p:=h
theorem TaR(h:p:=by have:=mH.ae;have:=Am.ae;omega):p:=h
theorem TaS(h:p:=by rw[Lw];exact congrArg some e):p:=h
theorem TaT(h:p:=by have:=Nm.ae;omega):p:=h
theorem TaU(h:p:=by rw[length_take];omega):p:=h
theorem TaV(h:p:=by rw[LW.ae,<- Om.ae];decide):p:=h
theorem TaW(h:p:=by rw[Ts];exact EB):p:=h
theorem TaX(h:p:=by simp[dn,Value.oneCell']):p:=h
theorem TaY(h:p:=by simp[dR,Value.oneCell']):p:=h
theorem TaZ(h:p:=by simp[aU,Value.oneCell']):p:=h
theorem Ta0(h:p:=by simp[aR,Value.oneCell']):p:=h
theorem Ta1(h:p:=by simp[results,Tryz.results161,go_sem,dz];try rfl):p:=h
theorem Ta2(h:p:=by simpa using hz):p:=h
theorem Ta3(h:p:=by simpa using hk):p:=h
theorem Ta4(h:p:=by simpa using hj):p:=h
theorem Ta5(h:p:=by simpa using h1):p:=h
theorem Ta6(h:p:=by rw[mN.ae];simp):p:=h
theorem Ta7(h:p:=by simp[results,Tryz.results111,go_sem];try rfl):p:=h
theorem Ta8(h:p:=by simp[results,Tryz.results109,go_sem];try rfl):p:=h
theorem Ta9(h:p:=by simp[execOp,h1,h2,hl]):p:=h
theorem Tba(h:p:=by cases e):p:=h
theorem Tbb(h:p:=by have:=je.ae.cl;omega):p:=h
theorem Tbc(h:p:=by rw[fJ];exact h6.old):p:=h
theorem Tbd(h:p:=by rw[e]):p:=h
theorem Tbe(h:p:=by have:=pF.ae.base.size;have:=mH.ae;omega):p:=h
theorem Tbf(h:p:=by simp[hx]):p:=h
theorem Tbg(h:p:=by simp[go_sem,h1,c0]):p:=h
theorem Tbh(h:p:=by rw[I.len];exact xt):p:=h
theorem Tbi(h:p:=by show w.heap.size≠w1.heap.size;omega):p:=h
theorem Tbj(h:p:=by injection e):p:=h
theorem Tbk(h:p:=by simp[results,Tryz.results106,go_sem]):p:=h
theorem Tbl(h:p:=by simp[results,Tryz.results105,go_sem]):p:=h
theorem Tbm(h:p:=by simp[go_sem];done):p:=h
theorem Tbn(h:p:=by rw[sY.ae,hs,if_neg (by simp),HGI.ae]):p:=h
theorem Tbo(h:p:=by have:=HN.ae;omega):p:=h
theorem Tbp(h:p:=by simpa using(by omega:s[0].toNat=48)):p:=h
theorem Tbq(h:p:=by simp[results,Tryz.results70,go_sem]):p:=h
theorem Tbr(h:p:=by simp[results,Tryz.results38,go_sem]):p:=h
theorem Tbs(h:p:=by simp[results,Tryz.results34,go_sem]):p:=h
theorem Zaa(h:p:=by intro ρ w3 hc hL hr;exact ZbI):p:=h
theorem zgb.KbE(h:p:=by
 have cN:=Qq.ae;have Gp:=cN.frozen;have y0:=cN.cell 0;have y1:=cN.cell 1;have c2:=cN.cell 2;have y3:=cN.cell 3;have o4:=cN.cell 4;have o5:=cN.cell 5;have y6:=cN.cell 6;simp only[Uaa] at y0 y1 c2 y3 o4 o5 y6;have hne:g9≠g4:=Ne.symm Yh.ae.1;clear Js cN;go_wp2_with fail;clear z0 z1 x2 x3 x4 x5 x6 y0 y1 c2 y3 o4 o5 y6 Gp hne;generalize uD:World.setCell _ _ _=W9;have hR:aB W9 g4 46 #[.int .u8 2,.int .u8 0,.int .i64 0,.string ⟨#[]⟩,.string nm,.int .i64 0,.slice none 0 0]:=by rw[<- uD];simpa using(((((((Qq.ae.aT 0 _).aT 1 _).aT 2 _).aT 3 _).aT 4 _).aT 5 _).aT 6 _)
 have kQ:WD.grownBy W9 (some g4):=by rw[<- uD];exact aG (aG (aG (aG (aG (aG (aG (aO (Below.refl _ _)) _ _) _ _) _ _) _ _) _ _) _ _) _ _
 clear uD;have x0:=hR.cell 0;have x1:=hR.cell 1;have z2:=hR.cell 2;have z3:=hR.cell 3;have z4:=hR.cell 4;have z5:=hR.cell 5;have z6:=hR.cell 6
 simp only[Uaa] at x0 x1 z2 z3 z4 z5 z6;refine bodyPost_ret (v:=.tuple #[.agg #[.int .u8 2,.int .u8 0,.int .i64 0,.string ⟨#[]⟩,.string nm,.int .i64 0,.slice none 0 0],.int .i64 0]) Taf rfl ?_;have hkD:=M3.ae.kp (eC.2 CW.ae);exact⟨⟨2,⟨0,0,⟨#[]⟩⟩,nm,0,none,0,0⟩,_,_,_,rfl,by rw[Th.ae];exact BZ s.aF.length _ _,(by
  have h9:=aiP.ae.aside kQ hkD (Nat.le_trans pF.ae.base.size mH.ae)
  rw[Th.ae] at h9
  exact h9),(((ik.refl gp w (Value.slice UA ya.length uc) (Value.slice VA s.aF.length vc)).later Gr.ae).trans M3.ae).own kQ mH.ae⟩):p:=h
theorem Zab(h:p:=by
 have iC:=HC.ae.blk;unfold PC.cells at iC;have c10:=iC.cell 10;simp only[Uaa] at c10;clear iC;go_wp2_with fail;refine(oZ s.aF.length TD TD WA (je.ae.env.later HC.ae.base)).mono ?_;rintro e w7 ⟨rfl,hS⟩;have tC:=aa (HC.ae.later hS);have wK:=aa (K3.ae.later hS);have Al:=aa (K6.ae.later hS);clear hS HC K3 K6 c10;unfold mD Lu;obtain⟨nm,jb⟩:∃nm,nm=di s.aF.length:=⟨_,rfl⟩;rw[<- jb];have Th:=aa jb;clear jb;go_upto_region 13 with fail;have kQ:=aB.new w7 46 #[.int .u8 2,.int .u8 0,.int .i64 0,.string ⟨#[]⟩,.string nm,.int .i64 0,.slice none 0 0];have Gs:=ah w7 (.cells #[.int .u8 2,.int .u8 0,.int .i64 0,.string ⟨#[]⟩,.string nm,.int .i64 0,.slice none 0 0] 46);generalize w7.alloc (.cells #[.int .u8 2,.int .u8 0,.int .i64 0,.string ⟨#[]⟩,.string nm,.int .i64 0,.slice none 0 0] 46)=WB at*;obtain⟨g9,L5⟩:∃g9,g9=w7.heap.size:=⟨_,rfl⟩;rw[<- L5] at kQ ⊢;have Wp:=aa kQ;have kZ:=aa (tC.ae.later Gs);have L6:=aa (wK.ae.later Gs);have L8:=aa (Al.ae.later Gs);have Yh:=aa (show g4≠g9/\gp≠g9 from⟨by have:=Al.ae.lt;omega,by have:=tC.ae.blk.lt;omega⟩);clear kQ Gs L5 tC wK Al;refine fL _ _ (take_append_drop 13 _).symm (AR aR 113 2 w0.heap.size (Value.slice VA s.aF.length vc) s.aF ⟨nm,ty⟩) AR.refl (λ _ _ _=>AR.trans) AR.drew (adj gp g9 w0.heap.size WB (Value.slice VA s.aF.length vc) s.aF nm ty) (λ i w w' x h hr=>CV _ _ _ _ _ _ _ _ _ _ _ _ h hr) WC WC WC ?_ ?_
 ·simp only[take_succ_cons,take_zero];refine⟨ZaQ,ZaQ,ZaQ,ZdU,?_,?_,?_,?_,?_,?_,?_,ZaQ,ZdU,trivial⟩
  ·intro ρ w3 hc hL hr;have h0:_=_:=hr.1;have kj:=dC kZ.ae.blk kZ.ae.dL V0 hL.grown;exact Zdi
  ·intro ρ w3 hc hL hr;have h0:_=_:=hr.1;exact aq (v:=.pointer (some ⟨g9,4,none⟩)) (w':=w3) Tah ⟨AR.refl _,rfl⟩
  ·intro ρ w3 hc hL hr;have h0:_=_:=hr.1;have hb9:=dC Wp.ae kZ.ae.dL V0 hL.grown;have x4:=hb9.cell 4;simp only[Uaa] at x4;exact aq (w':=w3) (by simp[go_sem,h0,x4];done) ⟨AR.refl _,rfl⟩
  ·intro ρ w3 hc hL hr;have h0:_=_:=hr.1;exact aq (v:=.int .u8 ty) (w':=w3) Tah ⟨AR.refl _,rfl⟩
  ·intro ρ w3 hc hL hr;have h0:_=_:=hr.1;have h1:_=_:=hr.2.1;exact aq (v:=.agg #[.string nm,.int .u8 ty]) (w':=w3) TaJ ⟨AR.refl _,rfl⟩
  ·intro ρ w3 hc hL hr;have h0:_=_:=hr.1;refine aq (v:=.slice (some ⟨w3.heap.size,0,none⟩) 1 1) (w':=w3.alloc (.cells #[.string nm,.int .u8 ty] 113)) Tam ⟨AR.later (ah w3 _),⟨_,rfl,aB.new w3 _ _,λ e=>?_⟩⟩;have:=((hL.old kZ.ae.dL).lt e).1;omega
  ·intro ρ w3 hc hL hr;have h0:_=_:=hr.1;obtain⟨q1,h1,uE,Jr⟩:∃q:Nat,ρ (.tmp 79)=.slice (some ⟨q,0,none⟩) 1 1/\aB w3 q 113 (aR ⟨nm,ty⟩).toArray/\(Value.slice VA s.aF.length vc).ownBlock≠some q:=hr.2.1;obtain⟨v',w',hrun,ho,yL,Ey⟩:=eY (P:=Tryz.prog) (w:=w3) 28 28 _ 24 Tryz.underlying28 rD rfl TD (λ _=>rfl) Ta0 (hL.old kZ.ae.dL) q1 uE (by show(s.aF.length+1)*24<=_;omega) (by show s.aF.length+1<=_;omega) (Nat.le_trans kZ.ae.base.size hL.grown.size);exact ZbJ
 intro W3 hL;simp only[Uab];rintro a0 - a1 - a2 - a3 - a4 - a5 - a6 - a7 - a8 - a9 - FI ⟨avF,rfl,CY,MH⟩ L9 - _ rfl;simp only[bA,Act.put,Uac];obtain⟨VB,vcb,hVB,_⟩:=CY.reads;rw[length_append,length_singleton] at hVB;subst hVB;have HOC:=aa CY;have HMC:=aa MH;have Kx:=aa hL.grown;have kj:=dC kZ.ae.blk kZ.ae.dL V0 hL.grown;have f10:=kj.frozen 10;unfold PC.cells at kj;have c10:=kj.cell 10;simp only[Uaa] at c10;have QD:=aa (dC Wp.ae kZ.ae.dL V0 hL.grown);have HZC:=aa (dC L8.ae kZ.ae.dL V0 hL.grown);clear CY MH kj hL Wp L8;go_upto_region 14 with fail;clear f10 c10;have aiP:=aa (kZ.ae.QI HOC.ae Kx.ae);have M3:=aa (L6.ae.trans (ik.L3 (gp:=gp) Kx.ae HMC.ae (Value.slice VB (s.aF.length+1) vcb) 10));have TA:=aa (QD.ae.far (p:=⟨gp,10,none⟩) (Ne.symm Yh.ae.2) (Value.slice VB (s.aF.length+1) vcb));have Qq:=aa (HZC.ae.far (p:=⟨gp,10,none⟩) CW.ae.2.1 (Value.slice VB (s.aF.length+1) vcb));clear kZ L6 QD HZC HOC HMC Kx;generalize World.setCell W3 _ _=WD at*;open zgb in exact Zeg):p:=h
theorem zgt.KbK(h:p:=by
 have cU:=λ y:Ext W.heap.size W=>hu.keep (w':=y.w) λ o=>y.cell (p:=⟨b,o,none⟩) hb2
 unfold dE at cV cU;exact KG):p:=h
theorem zch.Kas(h:p:=by
 replace hv:=hv.keep (w':=W) λ o=>hB.cell (p:=⟨b,o,none⟩) hb
 replace hu:=hu.keep (w':=W) λ o=>hB.cell (p:=⟨b,o,none⟩) hb
 open zgt in exact Zep):p:=h
theorem Zac(h:p:=by open zch in exact ZaJ):p:=h
theorem Zad(h:p:=by
 obtain⟨i0,kL,XO⟩:=lr h0;obtain⟨Kx,⟨hi,hu⟩,Bf⟩:=least (p:=λ Kx=>Kx < l.length/\listed.getD Kx false=false) i0 ⟨kL,XO⟩
 have mE:∀i,i < Kx->listed.getD i false=true:=λ i hj=>by
  cases hc:listed.getD i false with
  | true=>rfl
  | false=>exact absurd ⟨by omega,hc⟩ (Bf i hj)
 have NT:l[Kx]?=some l[Kx]:=getElem?_eq_getElem hi;have vh:=cI aZ Kx _ NT;simp only[lN,Bool.and_eq_true,Nat.zero_add] at vh
 have jh:Kx∈Region.ready .any (l++zs).toArray listed:=by
  refine qF (nR NT) ?_ λ i hj=>mE i (of_decide_eq_true (List.all_eq_true.1 vh.1.1.1 i hj))
  rw[eA (by rw[I.len];simp;omega)];exact hu
 refine⟨(λ hnil=>by rw[hnil] at jh;cases jh),λ i hj=>?_⟩;obtain⟨Bg,oj,oI,hall⟩:=mem_ready.1 hj
 have xt:i <(l++zs).length:=by
  rcases Nat.lt_or_ge i (l++zs).length with h' | h'
  ·exact h'
  ·rw[Array.getElem?_eq_none (by simpa using h')] at oI;cases oI
 rw[eA Tbh] at Bg;have fu:∀k∈ft oj,listed.getD k false=true:=λ k hk=>by obtain⟨e,he,hb,rfl⟩:=jG.1 hk;exact hall e he hb
 have rW:i < l.length:=by
  rcases Nat.lt_or_ge i l.length with h' | h'
  ·exact h'
  ·exfalso
   have hzj:zs[i - l.length]?=some oj:=by
    have:(l++zs)[i]?=some oj:=by simpa using oI
    rw[getElem?_append_right TD] at this;exact this
   have Si:=iU hz (i - l.length) oj hzj;rw[show l.length+(i - l.length)=i by omega] at Si;have hc:=iV (L:=l++zs) (λ k=>listed.getD k false=true) (by
    intro k ok hk hd e he
    rcases Nat.lt_or_ge k l.length with Ot | Ot
    ·rw[getElem?_append_left Ot] at hk
     exact I.closed k ok hk hd e he
    ·rw[I.tail k Ot] at hd;cases hd) i (ft oj) Si.2 fu Kx TD
   rw[hu] at hc;cases hc
 have vg:l[i]?=some oj:=by
  have:(l++zs)[i]?=some oj:=by simpa using oI
  rw[getElem?_append_left rW] at this;exact this
 exact KW):p:=h
theorem zh4.Kcp(h:p:=by
 unfold bP;go_wp2_with fail;have HV:=aB.new W3 44 (aJ v);have bG:=ah W3 (.cells (aJ v) 44);have b1:=ai.then hb1 bG;have xx:=HC;replace HC:=aa (HC.ae.later b1);replace HK:=aa (HK.ae.later b1);replace hb:=ai.then hb b1;have hsz:wr.heap.size<=W3.heap.size:=hb1.size;have hne:∀u,aH aU 44 3 wr W.heap.size u ((args.take k).map (·.2))->some W3.heap.size≠u.ownBlock:=λ u hu e=>by have:=(hu.lt e.symm).1;omega
 have OH:=hne _ xx.ae;clear hne b1 hb1 KK bY bG gS hex xx;generalize W3.alloc (.cells (aJ v) 44)=w2 at*;generalize W3.heap.size=Ly at*;have Bo:((args.take k).map (·.2)).length<=1599289640356:=by simp;omega
 have LT:((args.take k).map (·.2.k)).length<=1599289640356:=by simp;omega
 generalize hvs:(args.take k).map (·.2)=vs at*;generalize nV:(args.take k).map (·.2.k)=ks at*;have HVS:=aa hvs;have OJ:=aa nV;clear hvs nV;have hbase:W.heap.size<=w2.heap.size:=hb.size;have amx:vs.length<=1599289640356:=Bo;refine fL _ _ (take_append_drop 8 _).symm (AR aU 44 3 W.heap.size u8 vs v) AR.refl (λ _ _ _=>AR.trans) AR.drew (evV W.heap.size u8 u9 vs v Ly) (λ i w w' u h hr=>Ff _ _ _ _ _ _ _ _ _ _ h hr) WC WC WC ?_ ?_
 ·simp only[take_succ_cons,take_zero];refine⟨Zgj,ZeC,?_,?_,Zgj,?_,ZeC,?_,trivial⟩
  ·intro ρ w3 hc hL hr;have h1:_=_:=hr.1;refine aq (v:=aL w3.heap.size 1 1) (w':=w3.alloc (.cells (aJ v) 44)) TaE ⟨AR.later (ah w3 _),⟨_,rfl,aB.new w3 _ _,λ e=>?_⟩⟩;have:=((hL.old HC.ae).lt e.symm).1;omega
  ·intro ρ w3 hc hL hr;have h1:_=_:=hr.1;obtain⟨q,h2,h3,h4⟩:∃q,ρ (.tmp 37)=aL q 1 1/\aB w3 q 44 (aU v).toArray/\some q≠u8.ownBlock:=hr.2.1;obtain⟨v',w',hrun,ho,yL⟩:=fy (P:=Tryz.prog) (w:=w3) 38 38 _ 32 Tryz.underlying38 lU rfl TD (λ _=>rfl) TaZ (hL.old HC.ae) q h3 TD TD (Nat.le_trans hbase hL.grown.size);exact aq (v:=v') (w':=w') (by simp only[execOp,resolve,invoke,builtin,Sem.run_bind,Sem.run_pure,Result.andThen_ok,map_toArray,map_cons,map_nil,h1,h2,hrun]) ⟨yL,ho⟩
  ·intro ρ w3 hc hL hr;have h1:_=_:=hr.1;exact aq (w':=w3) TaE ⟨AR.refl _,rfl⟩
  ·intro ρ w3 hc hL hr;have h1:_=_:=hr.1;refine aq (v:=aL w3.heap.size 1 1) (w':=w3.alloc (.cells #[ag v.k] 5)) TaE ⟨AR.later (ah w3 _),⟨_,rfl,aB.new w3 _ _,λ e=>?_⟩⟩;have:=((hL.old HC.ae).lt e.symm).1;omega
 ·intro w3 hL;simp only[Uab];intro a0 h0 a1 h1 a2 h2 v3 hO3 a4 h4 a5 h5 a6 h6 a7 h7;obtain⟨q2,h2,_⟩:=h2;obtain⟨q7,h7,hq7,_⟩:=h7;have h0:u8=a0:=Eq.symm h0;have h4:u9=a4:=Eq.symm h4;have h1:_=a1:=Eq.symm h1;have h2:_=a2:=Eq.symm h2;have h5:_=a5:=Eq.symm h5;have h6:_=a6:=Eq.symm h6;have h7:_=a7:=Eq.symm h7;subst h0 h1 h2 h4 h5 h6 h7;have hO3:aH aU 44 3 w3 W.heap.size v3 (vs++ [v]):=hO3;have hK3:=HK.ae.past HC.ae V0 hL.grown;have hb3:=hb.trans (bj HC.ae hL.grown hbase);have UF:=aa hO3;have Ed:=aa hK3;have HQ7:=aa hq7;have Bp:=hb3.size;clear hO3 hK3 hq7 HC HK hL HV OH hb;simp only[bA,Act.put,Uac];go_wp2_with (first
   |(at_builtin
     refine aS rfl (.tmp 39) (.tmp 42) 97 rfl _ 1 Tryz.underlying97 oK rfl TD v.k rfl TaY rfl Ed.ae q7 rfl HQ7.ae TD TD Bp ?_
     intro v4 w4 z4 g4
     have b4:=bj Ed.ae g4 Bp
     have z3:=UF.ae.past Ed.ae V0 g4
     have O4:=aa z4
     have O3:=aa z3
     clear z4 g4 Ed UF HQ7 z3))
  go_roundw
  case rel=>
   refine⟨k+1,hlt,by go_num,?_,?_,hb3.trans b4⟩
   ·rw[HT.ae,map_append,HVS.ae];exact O3.ae
   ·rw[HT.ae,map_append,OJ.ae];exact O4.ae
  case measure=>exact ZaU):p:=h
theorem zcE.Kay(h:p:=by open zh4 in exact Zhp):p:=h
theorem Zae(h:p:=by open zcE in exact Za8):p:=h
theorem zeC.Ka2(h:p:=by
 unfold qp at*;unfold dy.ptr;obtain⟨tk,pl,bd,hpl,hlt,hsm,uo,cj,Kx,Kf,uT,hp⟩:=h0.wA;obtain⟨r',nd⟩:=Kx _ rfl;have F4:t=tk.w:=by injection nd
 have Ew:bd < 0:=by simpa [ck.iy] using cj
 subst F4;have hlf:=h0.left;have Ef:=hp.later (ah _ pW);have LQ:=hp.later ((ah _ (.cells (dI tk) 172)).drew);have hb3:=(ah (w.alloc (.cells #[ag 0,ag 0,af 0,au,au,af 0,ay] 46)) (.cells (dI tk) 172)).drew;have HT:=(aB.new (w.alloc (.cells #[ag 0,ag 0,af 0,au,au,af 0,ay] 46)) 172 (dI tk)).drew;rw[hsz] at HT;have HF:=aa (h0.later hb3);have HD:=aa ((eN.dh h hb).later hb3);have nc:=aa (HQ.ae.later hb3);have od:=(h0.later hb3).facts.2.2.2.2.1;have Cq:((w.alloc (.cells #[ag 0,ag 0,af 0,au,au,af 0,ay] 46)).alloc (.cells (dI tk) 172)).drew.heap.size=w.heap.size+2:=by simp
 exact Kaa):p:=h
theorem Zaf(h:p:=by open zeC in exact Zcs):p:=h
theorem Zag(h:p:=by have YES:=aa (show∀w2,aj w w2->qP w (.returned (.bool true)) w2 from λ w2 h=>⟨true,rfl,h⟩);obtain⟨uT,UJ,hn3⟩:=hn;clear b1 k1;go_enter Tryz.func21,Tryz.ntmps21;go_upto_region 1 with fail;change Code.wp _ _ _ _ (w.alloc (.cells #[ag 0,au,ay,au,af 0,au,af 0,.slice L.i.A L.i.n L.i.c,.string q.bT,.bool q.only,.slice L.w.A L.w.n L.w.c,.slice L.g.A L.g.n L.g.c,.slice L.h.A L.h.n L.h.c,.slice L.o.A L.o.n L.o.c,.slice L.l.A L.l.n L.l.c,ag 0,au,af 0,af 0,ay,ay,ay,ag 0,af 0,au,ag 0,af 0,au] 64));generalize w.alloc _=W1 at*;obtain⟨sv,Df⟩:∃sv,sv=Value.agg #[ag 0,au,ay,au,af 0,au,af 0,.slice L.i.A L.i.n L.i.c,.string q.bT,.bool q.only,.slice L.w.A L.w.n L.w.c,.slice L.g.A L.g.n L.g.c,.slice L.h.A L.h.n L.h.c,.slice L.o.A L.o.n L.o.c,.slice L.l.A L.l.n L.l.c,ag 0,au,af 0,af 0,ay,ay,ay,ag 0,af 0,au,ag 0,af 0,au]:=⟨_,rfl⟩;rw[<- Df];clear Df;obtain⟨gs,ou⟩:∃gs,gs=w.heap.size:=⟨_,rfl⟩;exact Kab):p:=h
theorem Zah(h:p:=by have HR9:=aa hr;clear hr;unfold bP;clear z0 z1 x2 x3 x4 x5 x6 x0 x1 z2 z3 z4 z5 dz iB;replace cN:=cN.later b5;replace hB:=ai.then hB b5;have dz:=aK cN;have iB:=aB.frozen cN;go_wp2_with fail;exact bodyPost_ret (v:=.tuple #[.agg (aJ r.1),af r.2]) Tae rfl ⟨congrArg (λ r:Val×Int=>Ending.returned (bP r.1 r.2)) NO.ae.symm,((hB.setCell bJ _).setCell bJ _).setCell bJ _⟩):p:=h
theorem zfD.Kbp(h:p:=by
 go_big_quiet_step ((go_at_call 39;exact aP (Nat.le_refl _) (hc _)));repeat (go_big_quiet_step (fail))
 refine wpQuiet_nil ?_;rintro w3 ⟨y2,fI⟩;have hL:=y2.h;rw[<- fI] at hL;clear fI y2 c1 c2 JJ JK hc;have H3:=aa (H2.ae.later hL);clear H2 hL;exact Kac):p:=h
theorem Zai(h:p:=by open zfD in exact ZdF):p:=h
theorem Zaj(h:p:=by refine⟨λ _=>?_,λ hn=>absurd hg hn⟩;exact ZbI):p:=h
theorem Zak(h:p:=by have h0:_=_:=hr.1;have h1:_=_:=hr.2.1;exact aq (w':=w3) TaJ ⟨ai.refl _,rfl⟩):p:=h
theorem Zal(h:p:=by
 have K1:=sN;have xW:=Hb;have Yr:=Oo;have tK:=MO;have Xh:=Ua;have oD:=aa x7;clear sN Hb Oo HT7 aeC fx z0 x4 x7 Cw;obtain⟨WB,hWB⟩:∃WB,WB=WD:=⟨_,rfl⟩;rw[<- hWB] at K1 xW Yr tK Xh oD ⊢;have HOi:=aa K1.ae.o3;have HOh:=aa K1.ae.o2;have HLi:=aa (show yi.length<=1000000 by have:=HFN.ae;have:=qA.ae;have:=WE.ae;have:=Al.ae;omega);have HLh:=aa (show(hd++jL).length<=1000000 by have:=HK.ae;have:=HFN.ae;have:=qA.ae;have:=WE.ae;rw[length_append];omega);have key:=λ(T:x_) (hT:T.size=252) e0 e1 e2 e3 (Q2:yD) hf=>DL (T:=T) (d:=d) (Q:=Q2) (gp:=gp) (B:=w0.heap.size) (gY:=gY) (g16:=g16) (W:=WB) (cs:=c.cells { r with h:=rh,i:=ri } u' v') (ri:=ri) (rh:=rh) (yi:=yi) (y:=Kx) (hd:=hd++jL) (nm:=nm) (ty:=ty) hT e0 e1 e2 e3 rfl rfl K1.ae.f.base.size K1.ae.blk HOi.ae HOh.ae HLi.ae HLh.ae Yr.ae Xh.ae.2.1 (Xh.ae.2.2 3 TD) (Xh.ae.2.2 2 TD) oD.ae tK.ae.1 tK.ae.2.1 (tK.ae.2.2 3 TD) (tK.ae.2.2 2 TD) hf
 simp only[DJ,bK,eZ,Tryz.f28,Option.getD_some,rS,Nat.reduceEqDiff,if_true,if_false] at key;refine key _ ?_ ?_ ?_ ?_ ?_ _ ?_
 ·rfl
 ·rfl
 ·rfl
 ·rfl
 ·rfl
 clear key;intro aek ael z167 z168 aem aen z171 aeo z173 aep z175 aeq aer aes aet aeu aev z182 z183 aew aex aey aez w8 a b9 s7 EO zF;simp only[Uac];have V1:=aa (K1.ae.RG zF (mB xW.ae));clear zF K1 Yr oD xW HOi HOh;generalize World.setCell w8 _ _=Oj at*;have hk7:k < 1000000:=by have:=HFN.ae;have:=WE.ae;omega
 go_wp2_with fail;go_roundw;case rel=>exact⟨k+1,b9,a,u',v',M8,yi++ [Kx],s2,ti++ [t2],jL++ [⟨nm,ty⟩],hlt,by go_num,by
  have h:=V1.ae
  rw[append_assoc] at h
  exact h,xX.ae,by have:=AW.ae;have:=HND.ae;have:=DG.ae;omega,by rw[length_append,qA.ae.1];rfl,by rw[length_append,qA.ae.2];rfl⟩
 case measure=>exact ZaU):p:=h
theorem Zam(h:p:=by exact⟨λ hn=>(by rw[hg] at hn;cases hn),λ _=>rfl⟩):p:=h
theorem Zan(h:p:=by
 cases sb
 ·go_wp2_with fail;go_roundw
  case rel=>
   refine⟨k+1,hlt,by go_num,λ j hj=>?_,hb1⟩;rcases Nat.lt_succ_iff_lt_or_eq.1 hj with hj | rfl
   ·exact HP.ae j hj
   ·exact HS.ae
  case measure=>exact ZaU
 ·go_wp2_with fail;go_ret;refine⟨?_,hb1⟩;rw[vL HP.ae (by rw[getElem?_eq_getElem Tan];congr 1;have:=HS.ae;rw[getD_eq_getElem?_getD,getElem?_eq_getElem Tan] at this;exact this)];rfl):p:=h
theorem Zao(h:p:=by simp only[fk,cK,Value.agg.injEq,Array.mk.injEq,List.cons.injEq,Value.int.injEq,Value.bool.injEq,true_and,and_true] at h;obtain⟨h1,h2,h3,h4,h5,rfl⟩:=h;exact Kad):p:=h
theorem zgl.KbH(h:p:=by
 generalize nV:(args.take k).map (·.2)=ks at*;have OJ:=aa nV;have HG:=aa hG;have hbase:=hb.size;clear nV hG hb1 hb2 bN;go_wp2_with (first
  |(at_builtin
    refine aS rfl (.tmp 29) (.tmp 31) 38 rfl _ 32 Tryz.underlying38 lU rfl TD v rfl TaZ rfl HP.ae w2.heap.size rfl HG.ae TD TD hbase ?_
    intro v4 w4 o4 g4
    have b4:=bj HP.ae g4 hbase
    have O4:=aa o4
    clear o4 g4 HP HG))
 go_roundw;case rel=>exact ZdJ
 case measure=>exact ZaU):p:=h
theorem zgf.KbF(h:p:=by go_upto_region 8 with fail;have bN:=ah w2 (.cells (aJ v) 44);have hG:=aB.new w2 44 (aJ v);open zgl in exact Zek):p:=h
theorem zcF.Kay(h:p:=by unfold jM at gS;have oM:=aa gS;clear gS;go_wp2_with fail;have bY:=ah wr (.cells (az y) 46);refine(oM.ae _ (ai.then hb bY)).mono ?_;rintro e W3 ⟨rfl,b1⟩;unfold bP;have Kx:=ai.then bY b1;clear bY b1 oM hex;go_upto_region 6 with fail;have HV:=aB.new W3 44 (aJ v);have bG:=ah W3 (.cells (aJ v) 44);have hb1:=ai.then Kx bG;generalize W3.alloc _=w2 at*;obtain⟨gv,XZ⟩:∃gv,gv=W3.heap.size:=⟨_,rfl⟩;rw[<- XZ] at HV ⊢;clear XZ Kx bG;open zgf in exact Zei):p:=h
theorem Zap(h:p:=by open zcF in exact Za8):p:=h
theorem zer.KaY(h:p:=by go_wp2_with fail;refine(lH c.aF c.gA c.gn c.gc g3 t z W (by have:=je.ae.gl;omega) (je.ae.aF.later (sQ.ae.base)) je.ae.gok kI.ae (CS.ae.later sQ.ae.base) Ej.ae).mono ?_;rintro e w1 ⟨rfl,hb1⟩;rw[om,hf];dsimp only;exact Kae):p:=h
theorem zhm.Kb7(h:p:=by go_enter Tryz.func99,Tryz.ntmps99;open zer in exact Zcl):p:=h
theorem ze2.Kbb(h:p:=by have c4:=iC.cell 4;have c8:=iC.cell 8;have c10:=iC.cell 10;open zhm in exact Zf2):p:=h
theorem Zaq(h:p:=by open ze2 in exact ZcW):p:=h
theorem Zar(h:p:=by
 have HD:=pw.ae;refine zk (P:=Tryz.prog) (f:=bD) (val:=mD) (e:=46) (size:=7) (base:=qx) (l:=[]) (lv:=ay) (Post:=anz ρ x (cb::r)) (w0:=VM) (q:=9) (d0:=121) (d1:=122) (d2:=123) (d3:=124) (d4:=125) (d5:=126) (d6:=127) (qb:=qx) (k:=6) (g:=ρ.g) (pq:=aw qx) (ptr:=aw ρ.g) (F:=184) (args:= #[aw ρ.g,af 0]) 23 23 _ 88 WC WC WC WC WC rfl rfl ?_ ?_ ?_ ?_ ?_ ?_ ?_ Tryz.underlying23 gC rfl TD (λ _=>rfl) (by intro y u hu;simp[bD] at hu;rcases hu with rfl | rfl | rfl | rfl | rfl | rfl | rfl <;> rfl) aH.nil ?_ TD ?_ ?_ Taa Taa TD ?_ ?_ ?_
 ·exact ZbZ
 ·exact ZbZ
 ·exact Zdq
 ·exact ZbZ
 ·exact Zem
 ·intro ρ' w' y' h';simp[go_sem,h',mD,bD]
 ·exact ZfD
 ·exact HX.ae.cell 6
 ·simp[Value.ownBlock]
 ·simp[Value.ownBlock]
 ·intro w' hw';refine(HH.ae ρ w' (pw.ae.at_.later hw')).mono ?_;rintro e w'' ⟨y,rfl,ht,d⟩;exact⟨y,rfl,ht,d⟩
 ·rintro y w' w'' ⟨ht,d⟩;exact d.grown
 intro y s v' w1 gZ w2 W fJ ⟨ht1,F8⟩ hl2 ho2 bJ LK F9 cL;obtain⟨A,c,Ov,lX⟩:=PX rp (F9 rfl rfl) (S:=ju (qx+1) W) (λ g h1 h2=>⟨by have:=fJ.size;have:=F8.size;have:=hl2.size;omega,h2⟩);have Ov:v'=.slice A 1 c:=Ov;subst Ov;have bJ:w2.grownBy W none:=bJ;have G0:=yY bJ;have DW:=(((HD.later fJ).trans F8).later hl2).later G0;have PY:=(((HX.ae.later fJ).grown F8.grown Tab).later hl2).later G0;have Tf:=(((uu.ae.later fJ).grown F8.grown Tab).later hl2).later G0;have htW:Tr.at_ W (ju (qx+1) W) x y:=((ht1.later hl2).later G0).more (by have:=fJ.size;omega);have hxf:=PY.frozen 6;have hw:=PY.aT 6 (.slice A 1 c);have AL:=Tf.far (p:=⟨qx,6,none⟩) Tab (.slice A 1 c);have hS:=DW.far ej (show w.heap.size<=qx by omega) 6 (.slice A 1 c);have Ai:Tr.at_ _ _ x y:=htW.set (Nat.lt_succ_self qx) 6 (.slice A 1 c);have G3:=lX.keep (sF (Nat.lt_succ_self qx) 6 (.slice A 1 c));simp only[Uac] at hw;obtain⟨x0,x1,x2,x3,x4,x5,x6⟩:=bS hw;simp only[Act.put,Uac];have HS:=aa hS;have HO:=aa hw;have mr:=aa AL;have A1:=aa Ai;have A2:=aa G3;skip;have hqW:=PY.lt;have auF:=aa hqW;have hgW:ρ.g+1 < W.heap.size:=by omega
 clear hS hw AL Ai G3 PY Tf DW htW lX LK F9 ho2 ht1 F8 fJ hl2 bJ G0 hqW;go_wp2_with fail;have Kd:aB ((W.setCell ⟨qx,6,none⟩ (.slice A 1 c)).alloc (.cells (bL [eF]) 9)) W.heap.size 9 (bL [eF]):=by have:=aB.new (W.setCell ⟨qx,6,none⟩ (.slice A 1 c)) 9 (bL [eF]);rwa [show(W.setCell ⟨qx,6,none⟩ (.slice A 1 c)).heap.size=W.heap.size by simp[World.setCell]] at this
 have Yy:=HS.ae.at_.later (ah _ (.cells (bL [eF]) 9));refine(mn HCB.ae ρ _ Yy W.heap.size Kd TD).mono ?_;rintro e w12 ⟨rfl,d12⟩;have Qa:=ah (W.setCell ⟨qx,6,none⟩ (.slice A 1 c)) (.cells (bL [eF]) 9);have HXC:=(HO.ae.later Qa).grown d12.grown Tab;have Tk:=(mr.ae.later Qa).grown d12.grown Tab;have G5:=aa Tk;obtain⟨x0,x1,x2,x3,x4,x5,x6⟩:=bS HXC;obtain⟨z0,z1,z2,z3,z4,z5,z6⟩:=ey Tk;obtain⟨y0,y1,y2,y3,y4,y5,y6⟩:=bS Tk;have DC:=aa ((HS.ae.later Qa).trans d12);have B12:=aa Qa;have D12:=aa d12;clear HXC Tk d12 Qa;go_wp2_with fail;exact Kaf):p:=h
theorem zgk.KbH(h:p:=by
 generalize nV:(args.take k).map (·.2)=ks at*;have OJ:=aa nV;have HG:=aa hG;have hbase:=hb.size;clear nV hG hb2 hb1 MK bN hL;go_wp2_with (first
  |(at_builtin
    refine aS rfl (.tmp 31) (.tmp 33) 97 rfl _ 1 Tryz.underlying97 oK rfl TD v rfl TaY rfl HP.ae W3.heap.size rfl HG.ae TD TD hbase ?_
    intro v4 w4 o4 g4
    have b4:=bj HP.ae g4 hbase
    have O4:=aa o4
    clear o4 g4 HP HG))
 go_roundw;case rel=>exact ZdJ
 case measure=>exact ZaU):p:=h
theorem zhr.Kb9(h:p:=by subst hte;have hb1:=ai.then MK hL;clear xj k1 Oi QP;go_upto_region 8 with fail;have bN:=ah W3 (.cells #[ag v] 5);have hG:=aB.new W3 5 #[ag v];open zgk in exact Zek):p:=h
theorem zg8.Kb1(h:p:=by replace q5: .tuple #[ag v,af FK]=a5:=Eq.symm q5;subst q5;replace q6: .tuple #[ag v,af FK]=a6:=Eq.symm q6;subst q6;replace q7: ag v=a7:=Eq.symm q7;subst q7;replace q8: af FK=a8:=Eq.symm q8;subst q8;replace q3: ag v=a9:=Eq.symm q3;open zhr in exact Zf9):p:=h
theorem zfO.Kbv(h:p:=by
 obtain⟨FK,hte⟩:∃FK:Int,FK=0:=⟨_,rfl⟩;rw[<- hte] at xj;refine bz 11 (t5V y gp cV v FK) (xL _ _ _ _ _) WC WC WC ?_ ?_
 ·exact ZaS
 open zg8 in exact Zfr):p:=h
theorem zcG.Kay(h:p:=by open zfO in exact ZdZ):p:=h
theorem Zas(h:p:=by open zcG in exact Za8):p:=h
theorem Zat(h:p:=by
 intro W3 hL;simp only[Uab];rintro _ rfl a1 - a2 - a3 - _ rfl a5 - a6 - a7 - _ rfl;simp only[bA,Act.put,Uac];have eX:=aa (Below.trans Rh.ae (hL.mono Rh.ae.size));have HC:=aa (P7.ae.later hL);have Dn:=aa (JC.ae.later hL);have MW:=aa (mI.ae.later hL);have EI:=aa (Wp.ae.later hL);have Ri:=aa (HK9.ae.keep hL.size λ b cur hqk=>hL.block b hqk.lt);clear hL Rh P7 JC mI Wp HK9 P8 tK Xh;have hX:=EI.ae.at_ x (mem_of_getElem? Rg.ae);have xm:=aa hX;have TJ:=HM.ae.qz x (mem_of_getElem? Rg.ae);have hsf:=uI (ops:=aD.map Tr.op) (ps:=gQ gn aD ls) (k:=x.key) (λ op ho=>by obtain⟨t,ht,rfl⟩:=List.mem_map.1 ho;exact HS.ae t ht) (by unfold gQ;rw[length_map];have h3:=HLS.ae;have h4:=Eh.ae;omega);have hye:(aD.map λ t=>t.args.length).sum=ye.length:=by rw[<- dZ LW.ae,length_flatMap]
 have P9:ya.length=aD.length:=(dZ nI.ae.ta).symm
 have Uy:=zw gp x.g w0.heap.size w0.heap.size ya AA ac (.slice x.KA x.key.length x.kc) x.sv x.qs x.ss (l.drop gn) (fj XA xc gn) (xc - gn) W3 (by have:=A2.ae;omega) nI.ae.lt eX.ae.size ((eX.ae.cell (p:=⟨gp,9,none⟩) nI.ae.lt).trans nI.ae.c9) (nI.ae.ra.below eX.ae) hX.blk hX.own hX.qz
  (by rw[hX.qz.len,TJ,nt,length_map,P9]) ⟨Ri.ae.rv.TB gn xc (by have:=Rf.ae;omega),yt (Ri.ae.off hX.qz)⟩ (by rw[length_drop];have:=Rf.ae;omega)
  (by rw[HFN.ae,CO,hye,uU.ae];exact Nat.le_refl _)
  (λ y hy=>by
    have h1:y.n∈aD.map λ t=>t.args.length:=by rw[<- HFN.ae];exact mem_map_of_mem hy
    obtain⟨t,ht,he⟩:=List.mem_map.1 h1
    rw[<- he]
    exact HO.ae t ht)
  (λ s LE=>(hsf s (by rw[<- TJ];exact LE)).1) (λ v hv=>J4.ae v (mem_of_mem_drop hv)) (by rw[uU.ae];have:=HJ.ae;omega)
 rw[HFN.ae,Jm aD (l.drop gn) HO.ae (by rw[hye,uU.ae];exact Nat.le_refl _)] at Uy;have Ae:(l.drop gn).length=xn - gn:=by rw[length_drop,oF.ae]
 rw[Ae,<- HQ.ae] at Uy;have HFD:=aa Uy;clear hX TJ hsf hye P9 Uy Ae;go_wp2_with fail;refine HFD.ae.mono ?_;rintro e w11 ⟨rfl,hst,Ol⟩;have ajz:=aa (EI.ae.feed Rg.ae Ol hst);have ajA:=aa (Below.trans eX.ae (Ol.low eX.ae.size λ q hq=>(xm.ae.qz.low q hq).1));have Q0:=aa (HC.ae.turn Ol xm.ae.qz V0);have Q1:=aa (MW.ae.turn Ol xm.ae.qz V0);have Q5:=aa (Ol.blk Dn.ae (xm.ae.qz.tP Dn.ae V0));clear hst Ol EI eX HC MW Dn xm HFD Ri;go_wp2_with fail;go_roundw
 case rel=>
  refine⟨k+1,_,hlt,by go_num,ajA.ae,Q0.ae,?_,?_,ajz.ae,?_⟩
  ·rw[TC.ae];exact Q5.ae
  ·rw[agy Rg.ae];exact Q1.ae
  ·rw[HS1.ae];exact HM.ae.feed Rg.ae HKEY.ae
 case measure=>exact ZaU):p:=h
theorem Zau(h:p:=by have z0:=k1.cell 0;have z1:=k1.cell 1;have x2:=k1.cell 2;have x3:=k1.cell 3;have x4:=k1.cell 4;have x5:=k1.cell 5;have x6:=k1.cell 6;simp only[Uaa] at z0 z1 x2 x3 x4 x5 x6;exact Kag):p:=h
theorem Zav(h:p:=by have b1:=ah w (.cells #[ag 0,au,ay,au,af 0,au,af 0,.slice L.i.A L.i.n L.i.c,.string q.bT,.bool q.only,.slice L.w.A L.w.n L.w.c,.slice L.g.A L.g.n L.g.c,.slice L.h.A L.h.n L.h.c,.slice L.o.A L.o.n L.o.c,.slice L.l.A L.l.n L.l.c,ag 0,au,af 0,af 0,ay,ay,ay,ag 0,af 0,au,ag 0,af 0,au] 64);have k1:=aB.new w 64 #[ag 0,au,ay,au,af 0,au,af 0,.slice L.i.A L.i.n L.i.c,.string q.bT,.bool q.only,.slice L.w.A L.w.n L.w.c,.slice L.g.A L.g.n L.g.c,.slice L.h.A L.h.n L.h.c,.slice L.o.A L.o.n L.o.c,.slice L.l.A L.l.n L.l.c,ag 0,au,af 0,af 0,ay,ay,ay,ag 0,af 0,au,ag 0,af 0,au];have eX:=aa b1;have Kx:=aa k1;unfold Od;exact Kah):p:=h
theorem Zaw(h:p:=by clear hr;have dz:=aK hR;have iB:=aB.frozen hR;clear hR;go_wp2_with fail;exact bodyPost_ret (v:=.tuple #[.agg #[ag (r,(0:Int)).1.k,af (r,(0:Int)).1.n,.string (r,(0:Int)).1.s],af (r,(0:Int)).2]) (by simp[results,Tryz.results169,go_sem,dz]) rfl ⟨by have:=HE.ae;injection this with h1 h2;rw[<- h1];rfl,((hB.setCell (bJ) _).setCell (bJ) _).setCell (bJ) _⟩):p:=h
theorem zd0.KaP(h:p:=by
 have n2:((tk.w.k:Int)==2)=false:=by rw[beq_eq_false_iff_ne];have:=wC.ae.i;omega
 have n3:((tk.w.k:Int)==3)=false:=by rw[beq_eq_false_iff_ne];have:=wC.ae.s;omega
 go_wp2_with fail;exact Kai):p:=h
theorem Zax(h:p:=by open zd0 in exact ZbT):p:=h
theorem zec.KaT(h:p:=by
 have hfo:mg n=some OP:=by rw[HN.ae];exact HFN.ae
 have HFO:=aa hfo;have Ae:n.toList=n.data.toList:=ByteArray.toList_eq n;have xX:=aa Ae;clear hfo Ae;go_wp2_with fail;have Ti:=ai.then (ah w6 (.cells (bL tu) 9)) (ah _ (.cells (xV mG) 5));have NB:=(aB.new w6 9 (bL tu)).alloc (.cells (xV mG) 5);have OB:=aB.new (w6.alloc (.cells (bL tu) 9)) 5 (xV mG);rw[World.size_alloc] at OB;have Tj:=aa (XY.ae.later Ti);have IW:=aa (Ki.ae.later Ti);have hs8:=Ti.size;have oD:=aa NB;have F6:=aa OB;clear NB OB Ti XY Ki;show Code.wp _ _ _ _ ((w6.alloc (.cells (bL tu) 9)).alloc (.cells (xV mG) 5));generalize (w6.alloc (.cells (bL tu) 9)).alloc (.cells (xV mG) 5)=W8 at*;generalize w6.heap.size=nb at*;exact Kaj):p:=h
theorem Zay(h:p:=by open zec in exact Zce):p:=h
theorem Zaz(h:p:=by
 have HE:=aa he;have t1:(!y==n.toList)=false:=by rw[xX.ae];rw[beq_iff_eq] at he;simp[he]
 have ur:mg n=some o:=by rw[Eh.ae,HST.ae,he];rfl
 clear he;obtain rfl:o=OP:=by rw[HFO.ae] at ur;injection ur with ur;exact ur.symm
 have c3:=(F6.ae.later iz.ae).cell k;rw[show(xV mG)[k]?=some (ag o) by simp[xV,LY.ae]] at c3;have d8:=Tj.ae.later iz.ae;have hsw:=iz.ae.size;go_wp2_with fail;refine(mn LW.ae ρ _ (d8.at_.later (ah wr (.cells (bL [eL]) 9))) wr.heap.size (aB.new _ _ _) TD).mono ?_;rintro e zq ⟨rfl,d10⟩;have c4:=(((F6.ae.later iz.ae).alloc (.cells (bL [eL]) 9)).grown d10.grown (by simp;have:=F6.ae.lt;omega)).cell k;rw[show(xV mG)[k]?=some (ag o) by simp[xV,LY.ae]] at c4;have IX:=d10.size;have LZ:=aa ((d8.later (ah wr (.cells (bL [eL]) 9))).trans d10);have xY:=aa (d10.blk ((IW.ae.later iz.ae).later (ah wr (.cells (bL [eL]) 9))) TD);have afR:w.heap.size+2<=zq.heap.size:=by simp at IX;omega
 clear d10 d8 c3 IX Tj IW oD;exact Kak):p:=h
theorem ZaA(h:p:=by clear uD;have x0:=hR.cell 0;have x1:=hR.cell 1;have z2:=hR.cell 2;have z3:=hR.cell 3;have z4:=hR.cell 4;have z5:=hR.cell 5;have z6:=hR.cell 6;simp only[Uaa] at x0 x1 z2 z3 z4 z5 z6;exact Kal):p:=h
theorem ZaB(h:p:=by have c4:=b4.cell 0;have c5:=(b5.far (p:=⟨g4,0,none⟩) (Ne.symm uO) (.pointer none)).cell 0;have f4:=b4.frozen 0;have f5:=(b5.far (p:=⟨g4,0,none⟩) (Ne.symm uO) (.pointer none)).frozen 0;simp only[getElem?_toArray,getElem?_cons_zero] at c4 c5;clear b4 b5 uO;exact Kam):p:=h
theorem ZaC(h:p:=by
 have hall:=eh h0
 have ha:a=fill (λ d=>a.eval (.tmp d)) l a0:=by
  have h1:a.tmps=(fill (λ d=>a.eval (.tmp d)) l a0).tmps:=by
   apply Array.ext_getElem?;intro t;by_cases ht:t < a0.tmps.size
   ·rw[qE _ _ _ _ ht];split
    ·simp[Act.eval,I.size,ht]
    ·rename_i hno;refine I.old t ?_;intro i o hi hd _;exact hno ⟨o,mem_of_getElem? hi,hd⟩
   ·rw[Array.getElem?_eq_none (by rw[I.size];omega),Array.getElem?_eq_none (by rw[nS];omega)]
  have h2:a.defers=(fill (λ d=>a.eval (.tmp d)) l a0).defers:=by rw[ko,I.defers]
  exact Aw h1 h2
 exact Kan):p:=h
theorem zdR.KaM(h:p:=by
 have U1:=(bC u (show 24 < 220 by decide)).symm.trans hT.t24;simp only[frN,List.range,List.range.loop,List.map,h0,h1,h2,h3,h4,T8,T9,U0,U1];clear hT h0 h1 h2 h3 h4 T8 T9 U0 U1;have HI:=aa hI;have HQ:=aa hQ;have mixed:Tryz.prog.follows .mixedOrders=true:=by kernel_rfl
 clear hI hQ;exact Kao):p:=h
theorem ZaD(h:p:=by open zdR in exact ZbM):p:=h
theorem ZaE(h:p:=by
 have k0:=λ y:Ext wr.heap.size wr=>(HP.ae.later y.h).c0
 have k1:=λ y:Ext wr.heap.size wr=>(HP.ae.later y.h).c1
 have m0:=λ y:Ext wr.heap.size wr=>(HP.ae.later y.h).d0
 have m1:=λ y:Ext wr.heap.size wr=>(HP.ae.later y.h).d1
 have m2:=λ y:Ext wr.heap.size wr=>(HP.ae.later y.h).d2
 have m3:=λ y:Ext wr.heap.size wr=>(HP.ae.later y.h).d3
 go_wp2_with fail;refine aW 13 wr.heap.size wr (Below.refl _ _) WC WC WC WC ?_;simp only[Uab];repeat (go_big_quiet_step (first
  |(go_at_call 200;exact aP (Nat.le_refl _) (hbz _))))
 refine wpQuiet_nil ?_;rintro w3 ⟨y2,fI⟩;have hL:=y2.h;rw[<- fI] at hL;clear fI y2 k0 k1 m0 m1 m2 m3 c2;exact Kap):p:=h
theorem ZaF(h:p:=by have k:=dQ (B:=w.heap.size) cN rfl bJ HC.ae;exact⟨_,by rw[pV.ae];rfl,k.2,hB.trans k.1.below⟩):p:=h
theorem ZaG(h:p:=by obtain⟨f0,KQ,rfl,Bt,hen,lW⟩:=HD0.ae;have Ee:=aa (lW _ A8 c8 HDB.ae Bq.ae);clear lW;have z0:=k1.cell 0;have z1:=k1.cell 1;have x2:=k1.cell 2;have x3:=k1.cell 3;have x4:=k1.cell 4;have x5:=k1.cell 5;have x6:=k1.cell 6;have x0:=hR.cell 0;have x1:=hR.cell 1;have z2:=hR.cell 2;have z3:=hR.cell 3;have z4:=hR.cell 4;have z5:=hR.cell 5;simp only[Uaa] at z0 z1 x2 x3 x4 x5 x6 x0 x1 z2 z3 z4 z5;have dz:=aK cN;have iB:=aB.frozen cN;exact Kaq):p:=h
theorem zgj.KbH(h:p:=by
 generalize nV:(args.take k).map (·.2)=ks at*;have OJ:=aa nV;have HG:=aa hG;have hbase:=hb.size;clear nV hG hb2 hb1 KK bY bN gS hex;go_wp2_with (first
  |(at_builtin
    refine aS rfl (.tmp 30) (.tmp 32) 97 rfl _ 1 Tryz.underlying97 oK rfl TD v rfl TaY rfl HP.ae W3.heap.size rfl HG.ae TD TD hbase ?_
    intro v4 w4 o4 g4
    have b4:=bj HP.ae g4 hbase
    have O4:=aa o4
    clear o4 g4 HP HG))
 go_roundw;case rel=>exact ZdJ
 case measure=>simp[intOf];omega):p:=h
theorem zh5.Kcp(h:p:=by have bN:=ah W3 (.cells #[ag v] 5);have hG:=aB.new W3 5 #[ag v];open zgj in exact Zek):p:=h
theorem zcH.Kay(h:p:=by open zh5 in exact Zhp):p:=h
theorem ZaH(h:p:=by open zcH in exact Za8):p:=h
theorem ZaI(h:p:=by
 have cQ:=λ y:Ext W.heap.size W=>(lx.later y.h).cell 0
 simp only[getElem?_toArray,getElem?_cons_zero] at cQ;have bJ:w.heap.size<=w.heap.size+1:=by omega
 exact Kar):p:=h
theorem zeQ.Ka7(h:p:=by exact Kas):p:=h
theorem ZaJ(h:p:=by open zeQ in exact ZcJ):p:=h
theorem ZaK(h:p:=by go_wp2_with fail;refine(ib _ (JQ.ae.env.later HB.ae)).mono ?_;exact ZdR):p:=h
theorem ZaL(h:p:=by
 have HA:=aa hA;have HE:=aa hE;clear hA hE;go_enter Tryz.func150,Tryz.ntmps150;go_wp2_with fail;go_loopw [5,8] (λ _ i wr=>∃k:Nat,k<=args.length/\i=af k/\(∀j,j < k->(args.map (·.2)).getD j false=false)/\aj w wr) (λ _ i _=>args.length - (intOf i).toNat);case atStart=>exact Ze5
 case round=>
  obtain⟨k,hk,rfl,hp,hb⟩:=hrel;have HP:=aa hp;clear hp;by_cases hlt:k < args.length
  ·obtain⟨b,off,rfl,kM,hex⟩:=(HA.ae.below hb).at_ (show k <(args.map (·.1)).length by simpa using hlt);have jC:(args.map (·.1))[k]' Tan=args[k].1:=by simp
   rw[jC] at hex;clear jC;have gS:=HE.ae args[k] (getElem_mem hlt);have hS:=BL hlt;generalize args[k]=yb at*;obtain⟨y,sb⟩:=yb;dsimp only at*;have HS:=aa hS;have oM:=aa gS;clear hS gS;unfold cg at hex;go_wp2_with fail;refine(oM.ae _ hb).mono ?_;rintro e w1 ⟨rfl,b1⟩;have hb1:=ai.then hb b1;clear hex b1 hb;exact Zan
  ·exact Zdb):p:=h
theorem ZaM(h:p:=by
 have HQ:=aa (aB.new w 46 #[ag 0,ag 0,af 0,au,au,af 0,ay]);have hsz:(w.alloc qp).heap.size=w.heap.size+1:=by simp
 unfold qp at*;go_enter Tryz.func184,Tryz.ntmps184;go_wp2_with (first
  |(go_at_call 87;refine hm.mono ?_;rintro e w1 ⟨rfl,d1⟩)
  |(go_at_call 184;refine(H ρ w1 d1.at_).mono ?_;rintro e w2 ⟨y,rfl,ht,d2⟩;unfold mD bD;have D:=(eN.dh h hb).trans (d1.trans d2);have zl:=d2.blk (d1.blk HQ.ae TD) TD;have hqs:=d2.size;have auz:=d1.size;have nc:=zl.alloc (.cells #[ag y.op,ag y.v.k,af y.v.n,.string y.v.s,.string y.name,af y.width,.slice y.A y.n y.c] 46);obtain⟨z0,z1,z2,z3,z4,z5,z6⟩:=ey nc;obtain⟨y0,y1,y2,y3,y4,y5,y6⟩:=bS nc;obtain⟨x0,x1,x2,x3,x4,x5,x6⟩:=dw (aB.new w2 46 (bD y).toArray);unfold bD at x0 x1 x2 x3 x4 x5 x6))
 have HP:=ez nc y;have HR:=dw HP;unfold dY at HR;obtain⟨r0,r1,r2,r3,r4,r5,r6⟩:=HR;refine bodyPost_ret (v:=mD y) Zd3 rfl ?_
 ·exact Ob.put ej (Nat.le_refl _) (D.later (ah w2 _)) ((ht.later (ah w2 _)).more TD)):p:=h
theorem ZaN(h:p:=by
 simp only[take_succ_cons,take_zero];refine⟨?_,Zaa,Zaa,Zaa,?_,?_,Zaa,Zaa,Zaa,Zaa,?_,trivial⟩
 ·intro ρ w3 hc hL hr;have h0:_=_:=hr.1;have cN:=WE.ae.later hL;exact Zbf
 ·intro ρ w3 hc hL hr;have h0:_=_:=hr.1;have jy:=(hL.cell (p:=⟨gp,10,none⟩) QP.ae).trans Oi.ae;exact Zdx
 ·intro ρ w3 hc hL hr;have h0:_=_:=hr.1;have h1:_=_:=hr.2.1;have e1:=hc.func 59;refine bp (f:=59) (args:= #[.agg (az Kx),.slice VA s1.aF.length vc]) (w':=w3) Taq ?_;exact ZfR
 ·exact Zaa):p:=h
theorem ZaO(h:p:=by simp only[Uaa] at c0;exact Zdy):p:=h
theorem zff.Kbh(h:p:=by obtain⟨⟨y,z⟩,sb⟩:=yb;dsimp only at*;have HS:=aa hS;have oM:=aa gS;clear hS gS;unfold cg at hex;exact Ze4):p:=h
theorem ZaP(h:p:=by
 go_wp2_with fail;go_loopw [5,8] (λ _ i wr=>∃k:Nat,k<=args.length/\i=af k/\(∀j,j < k->(args.map (·.2)).getD j false=false)/\aj w wr) (λ _ i _=>args.length - (intOf i).toNat);case atStart=>exact Ze5
 case round=>
  obtain⟨k,hk,rfl,hp,hb⟩:=hrel;have HP:=aa hp;clear hp;by_cases hlt:k < args.length
  ·open zff in exact Zdl
  ·exact Zdb):p:=h
theorem ZaQ(h:p:=by intro ρ w3 hc hL hr;have h0:_=_:=hr.1;exact aq (v:=.pointer (some ⟨gp,0,none⟩)) (w':=w3) Tah ⟨AR.refl _,rfl⟩):p:=h
theorem ZaR(h:p:=by
 simp only[Cl,Bool.and_eq_true,beq_iff_eq,Option.isNone_iff_eq_none] at Cm;obtain⟨⟨⟨⟨⟨⟨⟨⟨⟨⟨⟨⟨⟨⟨⟨⟨⟨⟨⟨⟨⟨⟨⟨⟨⟨⟨⟨⟨t0,s0⟩,t1⟩,m2⟩,t2⟩,m0⟩,t3⟩,m3⟩,t4⟩,s4⟩,t5⟩,s5⟩,s5'⟩,t6⟩,s6⟩,e0⟩,e1⟩,e2⟩,e3⟩,e4⟩,e5⟩,e6⟩,g0⟩,g1⟩,g2⟩,g3⟩,g4⟩,g5⟩,g6⟩:=Cm;have XX:qb < w0.heap.size:=(by rcases Nat.lt_or_ge qb w0.heap.size with h | h;exact h;exact absurd hcell (by unfold World.cell?;rw[Array.getElem?_eq_none h];simp))
 have wB:∀ {y w1 gZ w},ai w0 w1->Post y w1 gZ->ai gZ w->w.cell? ⟨qb,k,none⟩=some lv/\aH f e size w base lv l/\w0.heap.size<=w.heap.size:=by
  intro y w1 gZ w ha hb hc;have hg:=Te _ _ _ hb;have z1:qb < w1.heap.size:=Nat.lt_of_lt_of_le XX ha.size;have z2:qb < gZ.heap.size:=Nat.lt_of_lt_of_le z1 hg.size;refine⟨?_,?_,Nat.le_trans ha.size (Nat.le_trans hg.size hc.size)⟩
  ·rw[hc.cell (p:=⟨qb,k,none⟩) z2,po hg (p:=⟨qb,k,none⟩) z1 (λ e=>Uw Tbj),ha.cell (p:=⟨qb,k,none⟩) XX];exact hcell
  ·exact((hown.later ha).grown hg XW).later hc
 exact Kat):p:=h
theorem ZaS(h:p:=by
 simp only[take_succ_cons,take_zero];refine⟨?_,Zaa,Zaa,Zaa,Zb7,?_,Zaa,Zaa,Zaa,Zaa,?_,trivial⟩
 ·intro ρ w3 hc hL hr;have h0:_=_:=hr.1;have jy:=(k1.later hL).cell;have y0:=jy 0;have y1:=jy 1;have c2:=jy 2;have y3:=jy 3;have y4:=jy 4;have y5:=jy 5;have y6:=jy 6;exact Zdr
 ·intro ρ w3 hc hL hr;have h0:_=_:=hr.1;have h1:_=_:=hr.2.1;have e1:=hc.func 59;refine bp (f:=59) (args:= #[.agg (az y),cV]) (w':=w3) Taq ?_;exact ZfR
 ·exact Zaa):p:=h
theorem ZaT(h:p:=by
 intro ρ w3 hc hL hr;cases gd
 ·exact ZfS
 ·skip;cases nz
  ·exact ZcB
  ·skip;intro hg;have hg:ρ (.tmp 26)=.bool true:=hg;exact Zaj):p:=h
theorem ZaU(h:p:=by simp[intOf];omega):p:=h
theorem zey.Ka1(h:p:=by exact bodyPost_ret (v:=.tuple #[.agg #[ag 0,af 0,.string ByteArray.empty],af 40]) Tae rfl ⟨congrArg (λ r:Val×Int=>Ending.returned (bP r.1 r.2)) NO.ae.symm,((hB.setCell bJ _).setCell bJ _).setCell bJ _⟩):p:=h
theorem ZaV(h:p:=by have NO:=aa (NU.ae (aC,40) (by unfold iY;simp only[map_cons,map_nil];rw[sY.ae,hs,if_pos rfl]));open zey in exact Zco):p:=h
theorem ZaW(h:p:=by simp only[execOp,resolve,invoke,builtin,Sem.run_bind,Sem.run_pure,Result.andThen_ok,map_toArray,map_cons,map_nil,xw,Ep,nd]):p:=h
theorem ZaX(h:p:=by
 go_wp2_with fail;refine hi.mono ?_;rintro e w1 ⟨rfl,b1⟩;clear hi;by_cases h:0<=gL (args.map (·.2))
 ·have t1:=decide_eq_true h;go_wp2_with fail;go_ret;exact⟨by rw[t1];rfl,b1⟩
 ·have t1:=decide_eq_false h;go_wp2_with fail;go_ret;exact⟨by rw[t1];rfl,b1⟩):p:=h
theorem ZaY(h:p:=by refine⟨rfl,?_⟩;unfold qB at hG;rw[if_neg V0];show(execOp ρ _).run Tryz.prog w9a=.ok (.value (aw gp)) w9a;simp[go_sem,r0]):p:=h
theorem ZaZ(h:p:=by rw[kx] at hG;obtain⟨g,hg,HX⟩:=hG.cell r0;obtain⟨Kx,h6⟩:=hG.e6 _ r1;obtain⟨A1,n1,c1,A2,n2,Ly,k,e,hv⟩:=(hG.run _ h6).tri;injection hv with hv;have hv0:=congrArg (λ a:x_=>a[0]?) hv;simp at hv0;rw[hv0] at h6;rw[hg] at r0;have No:=HX.cell 0;have MY:=HX.cell 1;have NX:=HX.cell 2;simp only[z33,Uaa] at No MY NX;have f0:=HX.frozen 0;have f1:=HX.frozen 1;have f2:=HX.frozen 2;refine Hl (w':=((w.setCell ⟨g,0,none⟩ (.slice A1 n1 c1)).setCell ⟨g,1,none⟩ (.slice A2 n2 Ly)).setCell ⟨g,2,none⟩ (af k)) (by simp[go_sem,hg,hv0,No,MY,NX,f0,f1,f2];done) ?_;show kO _ _ _ _ _;unfold kO;simp only[gX,Nat.reduceEqDiff,if_true,if_false];exact hG.arS r0 h6 _):p:=h
theorem Za0(h:p:=by simp[results,Tryz.results42,go_sem,y0,y1,c2,y3,o4,o5]):p:=h
theorem Za1(h:p:=by
 refine(FO (s.extract at_ k) _ (by rw[ByteArray.size_extract];omega)).mono ?_;rintro e w1 ⟨rfl,b1⟩;have HE:=aa (show(s.extract at_ k).data.toList=(s.data.toList.drop at_).takeWhile fh by rw[<- mN.ae];exact mZ fh s at_);obtain⟨z0,z1,z2,z3,y0,y1,y2,y3⟩:=bO (HZ.ae.later b1);rw[HE.ae];go_wp2_with fail;refine bodyPost_ret (v:=.tuple #[.agg #[ag 1,.string ⟨(((s.data.toList.drop at_).takeWhile fh).map vU).toArray⟩,af 0,af at_],af k,af 0]) ZbA rfl ?_
 ·rw[HC.ae,mN.ae,if_pos h32];unfold Aa;simp only;rw[vZ fh s TD,mN.ae];exact⟨rfl,wj (bb.trans (b1.mono bb.size)) (Nat.le_refl _) _ _ _ _⟩):p:=h
theorem Za2(h:p:=by
 simp only[take_succ_cons,take_zero];refine⟨Zaa,Zaa,Zaa,?_,Zfv,Zaa,Zaa,Zaa,?_,trivial⟩
 ·intro ρ w3 hc hL hr;have h0:_=_:=hr.1;have h1:_=_:=hr.2.1;exact aq (v:=bc lb j) (w':=w3) (by have ve:=HJL.ae;simp[go_sem,h0,h1,ve,eB];done) ⟨ai.refl _,rfl⟩
 ·intro ρ w3 hc hL hr;have h0:_=_:=hr.1;have h1:_=_:=hr.2.1;have hs:=sP XA xn xc gn xX.ae w3;exact ZcH):p:=h
theorem zdX.KaO(h:p:=by go_wp2_with fail;have iC:=uC.ae.blk;unfold PC.cells at iC;have c8:=iC.cell 8;simp only[Uaa] at c8;refine(Tr.LB Tbb gp t z w2 kI.ae (CS.ae.later uC.ae.base) ((je.ae.cols.later uC.ae.base)) iC.lt c8).mono ?_;rintro e w3 ⟨rfl,hb3⟩;have MD:=aa (uC.ae.later hb3);have Ei:=aa (AO.ae.later hb3);have ME:=Yf.ae.later hb3;have tz:=aa (ai.then fY.ae hb3);clear z0 z1 x2 x3 x4 x5 x6 c8 iC hb3 AO Yf fY uC;rw[ht];dsimp only;exact Kau):p:=h
theorem zfJ.Kbs(h:p:=by rw[CU,ha] at FV;have HIS:=aa FV;have VK:=aa CU;clear c4 c8 c10 hb1 hf FV CU Ej tx;go_wp2_with fail;have VU:=aa kN;have KK:=aa Lw;have hop:=VK.ae;rw[hop];refine(HIS.ae w1).mono ?_;rintro e w2 ⟨rfl,hb2⟩;rw[<- hop];have uC:=aa (CT.ae.later hb2);have hb:=VU.ae.later hb2;have Yf:=aa (KK.ae.later hb2);have fY:=aa (ai.then zX.ae (ai.then eX.ae hb2));clear hxo kN Lw hb2 hop VU KK eX CT;open zdX in exact ZbS):p:=h
theorem Za3(h:p:=by open zfJ in exact ZdP):p:=h
theorem zgw.KbL(h:p:=by exact Kav):p:=h
theorem Za4(h:p:=by open zgw in exact Zes):p:=h
theorem Za5(h:p:=by have HE:=aa hr;clear hr;have dz:=aK hR;have iB:=aB.frozen hR;clear hR;go_wp2_with fail;exact bodyPost_ret (v:=.tuple #[.agg (aJ r.1),af r.2]) (by simp[results,Tryz.results167,go_sem,dz]) rfl ⟨by rw[HE.ae];rfl,((hB.setCell (bJ) _).setCell (bJ) _).setCell (bJ) _⟩):p:=h
theorem zeD.Ka2(h:p:=by
 have hsm:=h.small;unfold qp at*;unfold dy.ptr;go_enter Tryz.func184,Tryz.ntmps184;go_wp2_with (first
  |(go_at_call 184;refine(H1 ρ _ h0).mono ?_;rintro e w2 ⟨y,rfl,ht,d2⟩;unfold mD bD))
 have hA:AtC ρ w w.heap.size w2.heap.size (w2.alloc (uq y)) _ t y:=
  ⟨((eN.dh h hb).trans d2).later (ah _ _),aB.new w2 _ _,(d2.blk HQ.ae TD).alloc _,Tr.at_.keep (PG _ (by rw[hsz];exact Nat.le_refl _)) _ _ ht⟩
 have hqx:w.heap.size+1<=w2.heap.size:=by have:=d2.size;omega
 unfold uq bD at hA;generalize w2.alloc _=W at*;generalize w2.heap.size=qx at*;have A:=hA;clear hA ht d2 h0 hb HQ;have Ij:=cw ρ W _ false A.did.at_ ⟨#[105,115]⟩ FV;have aiw:=aa hop;clear hop FV;refine Ij.mono ?_;rintro e w1 ⟨rfl,d1⟩;replace A:=A.more d1 TD TD;clear d1 Ij;go_wp2_with fail;have HA:=aa A;clear A;exact Kaw):p:=h
theorem Za6(h:p:=by intro ρ w h;have H1:=H;clear H;open zeD in exact Zcs):p:=h
theorem zhu.Kca(h:p:=by have mr:=aa AL;have A1:=aa Ai;have A2:=aa G3;have HJ:=aa Wy;have GZ:=aa NT;exact Kax):p:=h
theorem Za7(h:p:=by open zhu in exact Zga):p:=h
theorem Za8(h:p:=by rw[jC] at hex;clear jC;have gS:=HE.ae args[k] (getElem_mem hlt);have HT:=aa (show args.take (k+1)=args.take k++ [args[k]] by rw[take_add_one,getElem?_eq_getElem hlt];rfl);generalize args[k]=yv at*;obtain⟨y,v⟩:=yv;dsimp only at*;unfold cg at hex;exact Kay):p:=h
theorem Za9(h:p:=by rw[bg] at NY;have IB:=aa NY;clear NY;go_wp2_with fail;refine(IB.ae _).mono ?_;rintro e w2 ⟨rfl,b3⟩;clear z0 z1 x2 x3 x5 x6 x0 x1 z2 z3 z4 z5 y0 y1 c2 y3 o4 o5 rf;replace k1:=k1.later b3;replace hR:=hR.later b3;replace cN:=cN.later b3;replace hB:=ai.then hB b3;replace HC:=aa (HC.ae.later b3);clear b3;have z0:=k1.cell 0;have z1:=k1.cell 1;have x2:=k1.cell 2;have x3:=k1.cell 3;have x5:=k1.cell 5;have x6:=k1.cell 6;have x0:=hR.cell 0;have x1:=hR.cell 1;have z2:=hR.cell 2;have z3:=hR.cell 3;have z4:=hR.cell 4;have z5:=hR.cell 5;have y0:=cN.cell 0;have y1:=cN.cell 1;have c2:=cN.cell 2;have y3:=cN.cell 3;have o4:=cN.cell 4;have o5:=cN.cell 5;have rf:=cN.frozen;unfold cK at x0 x1 z2 z3 z4 z5;simp only[Uaa] at z0 z1 x2 x3 x5 x6 x0 x1 z2 z3 z4 z5 y0 y1 c2 y3 o4 o5;exact Kaz):p:=h
theorem Zba(h:p:=by intro ρ w σ hc hG hr he hno;refine⟨rfl,?_⟩;unfold kO at hG;rw[if_pos V0];have kx:=hno V0;exact KaA):p:=h
theorem Zbb(h:p:=by have x0:=hR.cell 0;have x1:=hR.cell 1;have z6:=hR.cell 6;have y0:=cN.cell 0;have y1:=cN.cell 1;have c2:=cN.cell 2;have y3:=cN.cell 3;have o4:=cN.cell 4;have o5:=cN.cell 5;simp only[Uaa] at x0 x1 z6 y0 y1 c2 y3 o4 o5;go_wp2_with fail;exact KaB):p:=h
theorem Zbc(h:p:=by
 go_wp2_with fail;refine(fW x.op _).mono ?_;rintro e w9 ⟨rfl,rfl⟩;by_cases hn:(x.n:Int)=nD x.op
 ·have t1:((x.n:Int)==nD x.op)=true:=by simpa using hn
  have pV:=aa (show bH x=42 by simp only[bH];rw[if_neg Tal,if_neg Tal,if_pos hn]);exact Zbt
 ·have t1:((x.n:Int)==nD x.op)=false:=by simpa using hn
  have pV:=aa (show bH x=21 by simp only[bH];rw[if_neg Tal,if_neg Tal,if_neg hn]);exact Zbu):p:=h
theorem Zbd(h:p:=by rintro e4 w4 ⟨rfl,b4⟩;exact⟨_,rfl,b4,rfl⟩):p:=h
theorem Zbe(h:p:=by refine wpQuiet_nil ?_;rintro w3 ⟨y2,fI⟩;have hL:=y2.h;rw[<- fI] at hL;clear fI y2 cV cU cQ;replace hR:=hR.later hL;replace hB:=ai.then hB hL;exact KaC):p:=h
theorem Zbf(h:p:=by have y0:=cN.cell 0;have y1:=cN.cell 1;have c2:=cN.cell 2;have y3:=cN.cell 3;have y4:=cN.cell 4;have y5:=cN.cell 5;have y6:=cN.cell 6;exact Zdr):p:=h
theorem zfW.Kbx(h:p:=by clear x6;exact KaD):p:=h
theorem zeX.Ka9(h:p:=by clear hg;have HA:=aa Kg;have ZK:=aa ZJ;have BQ:=aa Iz;have HE:=aa hE;clear Kg ZJ Iz hE;open zfW in exact Zd2):p:=h
theorem Zbg(h:p:=by have HX:=aB.new w 46 #[ag op,ag xv.k,af xv.n,.string xv.s,.string name,af width,.slice A n c];have hB:=ah w (.cells #[ag op,ag xv.k,af xv.n,.string xv.s,.string name,af width,.slice A n c] 46);have ZJ:=(hB.cell (p:=⟨gp,8,none⟩) sy).trans ZI;have Iz:=Nat.lt_of_lt_of_le sy hB.size;have Kg:=hA.later hB;clear hA ZI sy;go_enter Tryz.func153,Tryz.ntmps153;open zeX in exact ZcL):p:=h
theorem Zbh(h:p:=by
 refine qG aZ hz 0 zs rfl listed a w I.len ?_ hK;intro i hi;constructor
 ·intro hl;rcases Nat.lt_or_ge i l.length with h' | h'
  ·omega
  ·rw[I.tail i h'] at hl;cases hl
 ·intro hl;exact hall i TD):p:=h
theorem Zbi(h:p:=by
 simp only[take_succ_cons,take_zero];refine⟨Zaa,Zaa,Zaa,?_,?_,Zaa,Zaa,?_,trivial⟩
 ·intro ρ w3 hc hL hr;have h0:_=_:=hr.1;have h1:_=_:=hr.2.1;exact aq (w':=w3) (by simp[go_sem,h0,h1,IntKind.wrap_i64];omega) ⟨ai.refl _,rfl⟩
 ·intro ρ w3 hc hL hr;have h0:_=_:=hr.1;have h1:_=_:=hr.2.1;have hs:=EG w3;exact ZcH
 ·intro ρ w3 hc hL hr;have h0:_=_:=hr.1;have h1:_=_:=hr.2.1;have hs:=Qt w3;exact ZcH):p:=h
theorem Zbj(h:p:=by intro ρ w3 hc hL hr;have h0:_=_:=hr.1;have jy:=(HK.ae.later hL).cell 0;simp only[getElem?_toArray,getElem?_cons_zero] at jy;exact Zdx):p:=h
theorem zgy.KbM(h:p:=by have HWR:=aa hwr;have PT:=aa hpl;have HG:=aa hg;have LR:=aa cj;clear hwr hpl hg cj uo;rw[PS];exact KaE):p:=h
theorem Zbk(h:p:=by obtain⟨t,pl,bd,hpl,hlt,hsm,uo,cj,hg,Kf,uT,hp⟩:=h.wA;have Ef:=hp.later (ah w pW);have LQ:=hp.later ((ah w (.cells (dI t) 172)).drew);have hb:=(ah w (.cells (dI t) 172)).drew;have HT:=(aB.new w 172 (dI t)).drew;have HB:=aa HT;have HF:=aa (h.later hb);have HD:=aa (eN.dh h hb);have od:=(h.later hb).facts.2.2.2.2.1;have PS:ρ.ptr=aw ρ.g:=rfl;have hwr:=pn ρ _ σ big (h.later hb);have hlf:=h.left;have ej:=h.FQ;clear h;open zgy in exact Zet):p:=h
theorem Zbl(h:p:=by skip;intro hg;have hg:ρ (.tmp 22)=.bool true:=hg;exact Zam):p:=h
theorem Zbm(h:p:=by go_enter Tryz.func144,Tryz.ntmps144;go_wp2_with fail;go_ret;exact⟨by rw[HQ.ae];rfl,by go_grown⟩):p:=h
theorem Zbn(h:p:=by
 rcases Bt with rfl |⟨pp,rfl⟩
 ·have Er:fw (ar f0 #[.agg #[ag op,ag xv.k,af xv.n,.string xv.s,.string name,af width,.slice A 2 c],.slice A8 2 c8] _ _):=Ee.ae;exact ZeT
 ·have Er:fw (ar f0 #[.agg #[ag op,ag xv.k,af xv.n,.string xv.s,.string name,af width,.slice A 2 c],.slice A8 2 c8,pp] _ _):=Ee.ae;exact ZeT):p:=h
theorem Zbo(h:p:=by
 rcases Bt with rfl |⟨pp,rfl⟩
 ·have Er:fw (ar f0 #[.agg #[ag op,ag xv.k,af xv.n,.string xv.s,.string name,af width,.slice A 1 c],.slice A8 1 c8] _ _):=Ee.ae;exact ZeZ
 ·have Er:fw (ar f0 #[.agg #[ag op,ag xv.k,af xv.n,.string xv.s,.string name,af width,.slice A 1 c],.slice A8 1 c8,pp] _ _):=Ee.ae;exact ZeZ):p:=h
theorem Zbp(h:p:=by go_ret;exact Ze7):p:=h
theorem Zbq(h:p:=by have z0:=hb.cell 0;have z1:=hb.cell 1;have x2:=hb.cell 2;have x3:=hb.cell 3;have x4:=hb.cell 4;have x5:=hb.cell 5;have x6:=hb.cell 6;simp only[bD,Uaa] at z0 z1 x2 x3 x4 x5 x6;exact KaF):p:=h
theorem Zbr(h:p:=by
 go_enter Tryz.func44,Tryz.ntmps44;go_wp2
 all_goals
  go_ret;refine⟨?_,by go_grown⟩;simp_all):p:=h
theorem Zbs(h:p:=by
 intro vs w hl hG;have Ez:=Cn _ _ hG
 match vs,hl with
 | [a,s,v],_=>obtain⟨y,w1,gZ,w2,ha,h2,h3,h4,h5,h6,h7,h8⟩:=hG;simp only[bA,e0,e1,e2,e3,e4,e5,e6];intro a0' p0 a1 p1 a2 p2 a3 p3 a4 p4 a5 p5 a6 p6;have z0:a0'=bc qb k:=p0;have z1:a1=lv:=p1;have z2:a2=ptr:=p2;have z3:some a=some a3:=p3;have z4:some s=some a4:=p4;have z5:some v=some a5:=p5;have z6:a6=bc qb k:=p6;injection z3 with z3;injection z4 with z4;injection z5 with z5;rw[z0,z1,z2,<- z3,<- z4,<- z5,z6,ha];exact ml y s v w1 gZ w2 w h2 h3 h4 h5 h6 h7 h8 Ez):p:=h
theorem Zbt(h:p:=by
 go_wp2_with fail;refine bodyPost_ret (v:=.tuple #[.agg #[af a,ag wa,ag gi,.bool al,.bool nu,d],af 42]) Za0 rfl ?_
 ·exact ZaF):p:=h
theorem Zbu(h:p:=by
 go_wp2_with fail;refine bodyPost_ret (v:=.tuple #[.agg #[af a,ag wa,ag gi,.bool al,.bool nu,d],af 21]) Za0 rfl ?_
 ·exact ZaF):p:=h
theorem Zbv(h:p:=by skip;intro hg;have hg:ρ (.tmp 26)=undef:=hg;exact Zam):p:=h
theorem Zbw(h:p:=by obtain⟨q,h1,h2⟩:=h;exact⟨q,h1,hk _ _ _ h2⟩):p:=h
theorem Zbx(h:p:=by
 have HE:=aa he;have t1:(!y==n.toList)=true:=by rw[xX.ae];rw[beq_eq_false_iff_ne] at he;simp;exact λ e=>he e.symm
 clear he;go_wp2_with fail;go_roundw;case rel=>refine⟨k+1,by omega,by go_num,iz.ae,?_⟩;rw[Eh.ae,HST.ae,HE.ae];rfl
 case measure=>exact ZaU):p:=h
theorem Zby(h:p:=by go_wp2_with fail;go_ret;exact YES.ae _ eX.ae):p:=h
theorem Zbz(h:p:=by
 obtain⟨v',w',hr,ho,ha⟩:=fy t ty z bytes ht jB hzs hsz hf h1 hown g0 hg0 hlen mL hbase;obtain⟨i0,kL,hz0,hz1,hz2⟩:=info_parts jB;obtain⟨v2,w2,hr2,_,_,h4⟩:=gH (P:=P) w base t ty e i0 z size bytes ht kL hz0 hz1 hz2 hzs hsz lv l.length (l.flatMap f) hown (g0+1) (some ⟨g0,0,none⟩) 1 1 (f y) ⟨by rw[hf];omega,λ _=>⟨_,rfl,Nat.lt_succ_self _,by
  intro j u hu
  have:(Addr.add ⟨g0,0,none⟩ j)=⟨g0,j,none⟩:=by unfold Addr.add;split <;> simp_all
  rw[this,hg0.cell]
  simpa using hu⟩⟩ h1 Tak hlen hbase
 rw[hr] at hr2;injection hr2 with e1 e2;subst e1 e2;exact KaG):p:=h
theorem ZbA(h:p:=by simp[results,Tryz.results132,go_sem,z0,z1,z2,z3]):p:=h
theorem ZbB(h:p:=by
 rw[length_set,MF hf y l i rW];simp only[toList_toArray,size_toArray,hf];rw[<- ht,take_take,Nat.min_eq_left TD,drop_take];have hA:(cur.toList.take (i*size)).length=i*size:=by rw[length_take,Array.length_toList];omega
 have hF:(f y).length=size:=hf y;rw[append_assoc,take_append,hA,take_of_length_le (by rw[hA];omega),take_append,hF,take_of_length_le (l:=f y) (by rw[hF];omega),append_assoc,Nat.sub_sub]):p:=h
theorem ZbC(h:p:=by
 have t1:(op==1)=false:=by simpa using h1
 have Br:op≠2:=by
  intro e2;rcases Ia.ae with h | h
  ·exact h e2
  ·exact h (se mN.ae e2)
 have t2:(op==2)=false:=by simpa using Br
 obtain⟨Ic,nE,hwd⟩:=Bn mN.ae Br h1;clear Br;dsimp only at Ic nE hwd;have ahx:3<=op/\op<=20:=by simpa [jK] using Ic
 have Ss:((op.toNat:Nat):Int)=op:=by omega
 have hOp:gU (W3.alloc (.cells #[af a,ag wa,ag gi,.bool al,.bool nu,d] 100)) op.toNat (.agg (cK a wa gi al nu d)):=by
  rcases HOI.ae with ⟨_,h⟩|⟨h,_⟩
  ·exact h
  ·dsimp only at h;rw[Ic] at h;cases h
 have Ie:=hOp.fields;exact KaH):p:=h
theorem ZbD(h:p:=by
 repeat (go_big_quiet_step (fail))
 refine wpQuiet_nil ?_;rintro w3 ⟨y2,fI⟩;have hL:=y2.h;rw[<- fI] at hL;exact KaI):p:=h
theorem ZbE(h:p:=by have y0:=cN.cell 0;have y1:=cN.cell 1;have c2:=cN.cell 2;have y3:=cN.cell 3;have y4:=cN.cell 4;have y5:=cN.cell 5;have y6:=cN.cell 6;have x7:=cN.cell 7;exact KaJ):p:=h
theorem ZbF(h:p:=by have z0:=HX.cell 0;have z1:=HX.cell 1;have x2:=HX.cell 2;have f0:=HX.frozen 0;have f1:=HX.frozen 1;have f2:=HX.frozen 2;simp only[Uaa] at z0 z1 x2;exact KaK):p:=h
theorem ZbG(h:p:=by
 rw[if_neg TD,if_neg TD,if_neg TD,if_pos TD];unfold St.alone;split
 ·exact Zfp
 ·rename_i hk;obtain⟨r1,r2,r3,r4⟩:=sk { s with all:=s.all+1 } x.1 aC;exact Zev):p:=h
theorem ZbH(h:p:=by
 rw[if_neg TD,if_neg TD,if_neg TD,if_neg TD];unfold St.BD;split
 ·rename_i hk;obtain⟨r1,r2,r3,r4⟩:=sk { s with all:=s.all+1 } x.1 x.2;exact Zev
 ·exact Zfp):p:=h
theorem ZbI(h:p:=by have h0:_=_:=hr.1;exact aq (w':=w3) Tah ⟨ai.refl _,rfl⟩):p:=h
theorem ZbJ(h:p:=by exact aq (v:=v') (w':=w') (by simp only[execOp,resolve,invoke,builtin,Sem.run_bind,Sem.run_pure,Result.andThen_ok,map_toArray,map_cons,map_nil,h0,h1,hrun]) ⟨yL,_,rfl,ho,Ey.later hL.grown.size⟩):p:=h
theorem ZbK(h:p:=by exact aq (w':=w3) (by simp[go_sem,h0,c0,<- je.ae];done) ⟨ai.refl _,rfl⟩):p:=h
theorem ZbL(h:p:=by intro ρ w3 hc hL hr;intro hg;have hg:ρ (.tmp 45)=.bool true:=hg;refine⟨λ _=>?_,λ hn=>absurd hg hn⟩;exact KaL):p:=h
theorem ZbM(h:p:=by obtain⟨u,rfl⟩:=Jw T hT.sz;have h0:=(bC u (show 0 < 220 by decide)).symm.trans hT.t0;have h1:=(bC u (show 1 < 220 by decide)).symm.trans hT.t1;have h2:=(bC u (show 2 < 220 by decide)).symm.trans hT.t2;have h3:=(bC u (show 3 < 220 by decide)).symm.trans hT.t3;have h4:=(bC u (show 4 < 220 by decide)).symm.trans hT.t4;have T8:=(bC u (show 18 < 220 by decide)).symm.trans hT.t18;have T9:=(bC u (show 19 < 220 by decide)).symm.trans hT.t19;have U0:=(bC u (show 20 < 220 by decide)).symm.trans hT.t20;exact KaM):p:=h
theorem ZbN(h:p:=by
 intro vs w h
 match vs,h with
 | [],h=>rw[ai.cell h (p:=⟨qb,k,none⟩) XX];exact hcell
 | [a],⟨y,w1,gZ,_,h2,h3,h4⟩=>exact(wB h2 h3 h4).1
 | [a,s],⟨y,w1,gZ,_,_,_,h2,h3,h4,_⟩=>exact(wB h2 h3 h4).1
 | [a,s,v],⟨y,w1,gZ,w2,_,h2,h3,h4,_,h6,_,_⟩=>obtain⟨k1,_,k3⟩:=wB h2 h3 h4;rw[po h6 (p:=⟨qb,k,none⟩) (Nat.lt_of_lt_of_le XX k3) (λ e=>hlq e.symm)];exact k1
 | _::_::_::_::_,h=>exact h.elim):p:=h
theorem ZbO(h:p:=by rintro e w4 ⟨rfl,d4⟩;go_wp2_with fail;refine(Cp nI.ae je.ae ρ _ d4.at_).mono ?_;rintro e w5 ⟨n,hn,rfl,d5⟩;have HN:=aa hn;clear hn;go_wp2_with fail;have hwd:=lK ρ _ _ false d5.at_ ⟨#[40]⟩;exact KaN):p:=h
theorem ZbP(h:p:=by
 intro ρ w vs hc hG hr;rw[t4] at hr;have r0:=hr.1;simp only[s4] at r0;refine⟨g4,?_⟩;show vs.length=1->_;intro hl
 match vs,hl with
 | [a],_=>have r0:some a=some (ρ (.tmp d3)):=r0;injection r0 with r0;obtain⟨y,w1,gZ,ha,h2,h3,h4⟩:=hG;refine aq (Kd ρ w y (r0.symm.trans ha)) ?_;exact⟨y,w1,gZ,w.heap.size,ha,rfl,h2,h3,h4.trans ((Below.refl _ _).alloc (Nat.le_refl _) _),aB.new w e _⟩):p:=h
theorem ZbQ(h:p:=by
 go_wp2_with fail;refine bodyPost_ret (v:=.tuple #[.agg #[af a,ag wa,ag gi,.bool al,.bool nu,d],af 0]) Za0 rfl ?_
 ·exact ZaF):p:=h
theorem ZbR(h:p:=by
 go_roundw
 case rel=>
  refine⟨k+1,dM++ [nl],hlt,by go_num,O4.ae,?_,?_,by simp;exact zZ.ae,?_,Ly.ae⟩
  ·intro x hX;rcases List.mem_append.1 hX with hX | hX
   ·exact RW4.ae x hX
   ·rw[mem_singleton] at hX;subst hX;exact⟨N41.ae,N42.ae,HN8.ae.2.2⟩
  ·rw[AW.ae,yG.ae,map_append,HP.ae];show _++ [Nr nl]=_++ [_];rw[Qp.ae]
  ·rw[TC.ae];exact B4.ae
 case measure=>exact ZaU):p:=h
theorem ZbS(h:p:=by have z0:=hb.cell 0;have z1:=hb.cell 1;have x2:=hb.cell 2;have x3:=hb.cell 3;have x4:=hb.cell 4;have x5:=hb.cell 5;have x6:=hb.cell 6;simp only[Uaa] at z0 z1 x2 x3 x4 x5 x6;have AO:=aa hb;clear hb;exact KaO):p:=h
theorem zgz.KbM(h:p:=by go_enter Tryz.func199,Tryz.ntmps199;go_wp2_with fail;go_region;clear c0 c1 c2 d0 d1 d2 d3 y0 y1 y2 z0 z1 z2 z3 x0 v0 v1 v2 v3;obtain⟨u0,u1,u2,u3,_⟩:=bO HT;have xW:=aa HT;clear HT;unfold dI at u0 u1 u2 u3 hb3 x1 x2 od HF xW HD nc Cq;generalize World.drew _=W at*;exact KaP):p:=h
theorem ZbT(h:p:=by have PT:=aa hpl;clear h hpl Kx cj uo nd h0 hb HQ;open zgz in exact Zet):p:=h
theorem ZbU(h:p:=by exact⟨rfl,wj bb (Nat.le_refl _) _ _ _ _⟩):p:=h
theorem ZbV(h:p:=by obtain⟨x0,x1,h1,f0⟩:=h;exact⟨x0,x1,h1,f0.later hl⟩):p:=h
theorem ZbW(h:p:=by intro ρ w3 hc hL hr;have h0:_=_:=hr.1;exact aq (v:=aw gp) (w':=w3) Tah ⟨AR.refl _,rfl⟩):p:=h
theorem ZbX(h:p:=by
 rw[if_neg (by rw[hf];simp),ahC];dsimp only;by_cases Ib:bH ⟨op,xv,name,width,none,args.length,0⟩=0
 ·simp only[Ib,ne_eq,not_true_eq_false,↓reduceIte];by_cases h1:op=1
  ·simp only[h1,↓reduceIte]
  ·simp only[h1,↓reduceIte];rw[if_neg];intro ho;exact h2 ⟨ho,se (l:=args) Ib ho⟩
 ·simp only[Ib,ne_eq,not_false_eq_true,↓reduceIte]):p:=h
theorem ZbY(h:p:=by
 go_wp2_with fail
 all_goals
  go_ret;refine⟨?_,rfl⟩;try simp_all
  try rfl):p:=h
theorem ZbZ(h:p:=by intro ρ' w' h';simp[go_sem,h']):p:=h
theorem Zb0(h:p:=by go_wp2_with (go_at_call 104;refine(jN _).mono ?_;rintro e w1 ⟨rfl,rfl⟩);go_ret;rw[HT.ae];exact⟨rfl,by go_grown⟩):p:=h
theorem Zb1(h:p:=by
 go_enter Tryz.func106,Tryz.ntmps106
 iterate 7
  refine wp_seq_k λ K hK=>?_
  have Ed:=aa hK;clear hK;go_wp2_with fail;refine Ed.ae _ _ ?_;clear Ed
 refine HY.ae _ _ HE.ae _ HS.ae _ (λ A W h0 h=>?_) _ _ ⟨rfl,rfl,rfl,rfl,rfl,rfl,rfl,rfl,rfl,rfl⟩ rfl rfl;exact bodyPost_ret (v:=.tuple #[]) Tbk h0 h):p:=h
theorem Zb2(h:p:=by
 rcases hb.1 with h1 | h1
 ·have:=(p.rows i hi b e).1;omega
 ·match i with
  | 0=>exact(eC.1 hb.2).2.2.1 e
  | 1=>exact(eC.1 hb.2).2.2.2 e
  | 2=>have:=(h.f.rows 2 TD b e).2.1;omega
  | 3=>have:=(h.f.rows 3 TD b e).2.1;omega
  | 4=>have:=(h.f.rows 4 TD b e).2.1;omega
  | n+5=>have:=(h.f.rows 5 TD b e).2.1;omega):p:=h
theorem Zb3(h:p:=by
 go_wp2_with fail;have bx:=ah wr (.cells (az y) 46);refine(gS _ (ai.then (ai.then HB.ae hW) bx)).mono ?_;rintro e w1 ⟨rfl,b1⟩;have KK:=ai.then hW (ai.then bx b1);clear bx hex gS b1;go_wp2_with fail;go_roundw;case rel=>refine⟨k+1,hlt,by go_num,?_,KK⟩;rw[HT.ae,map_append,map_singleton,xK,HM.ae]
 case measure=>exact ZaU):p:=h
theorem Zb4(h:p:=by
 simp only[bK,eZ,Tryz.f28,Option.getD_some] at key;have hK2:∀T:x_,T.size=252->T.getD 2 undef=aw g2->T.getD 4 undef=aw g4->T.getD 5 undef=aw g5->T.getD 6 undef=aw gp->K { tmps:=T,defers:=d } wr:=λ T hT h2 h4 h5 h6=>hK _ _ (key T hT h2 h4 h5 h6)
 clear hK key;go_wp2_with fail;refine hK2 _ ?_ ?_ ?_ ?_ ?_ <;> rfl):p:=h
theorem Zb5(h:p:=by
 have hmf:∀(fn:Fn) (first cap:x_) (w:rQ),(Instr.makeFunc fn first cap).run Tryz.prog w=.ok (.func fn first cap) w:=λ _ _ _ _=>rfl
 exact KaQ):p:=h
theorem Zb6(h:p:=by rw[kx] at hG;have e1:=hc.func 12;refine bp (f:=12) (args:= #[.slice RA rows.length rc]) (w':=w) (by simp[go_sem,e1,r0];done) ?_;refine(aag rc (HCR.ae.later hG.low)).mono ?_;rintro e w4 ⟨v,rfl,hv,b4⟩;refine⟨_,rfl,?_⟩;show kO _ _ _ _ _;unfold kO;simp only[gX,Nat.reduceEqDiff,if_true,if_false];exact hG.arN b4 hv):p:=h
theorem Zb7(h:p:=by intro ρ w3 hc hL hr;have h0:_=_:=hr.1;have jy:=(hL.cell (p:=⟨gp,8,none⟩) QP.ae).trans Oi.ae;exact Zdx):p:=h
theorem Zb8(h:p:=by
 have ua:k < n:=by have:=HN.ae;omega
 obtain⟨b,off,rfl,kM,hex⟩:=(HA.ae.below (Kx.trans (hb.mono Kx.size))).at_ (show k <(args.map (·.1)++bad::post).length by simp;omega);exact KaR):p:=h
theorem Zb9(h:p:=by intro ρ w9a σ hc hG hr he hno;have r0:ρ (.tmp 6)=aw gp:=(show ρ (.tmp 6)=f 6 from hr.1).trans es0;exact ZaY):p:=h
theorem Zca(h:p:=by
 have hr:=IQ _ _ s[i] (aB.new wr 5 #[ag (s[i].toNat:Int)]);have uk:=aa (SU hc);clear hc;go_wp2_with fail;go_roundw;case rel=>refine⟨i+1,l++ [s[i]],by omega,by go_num,by rw[mj],by rw[length_append,HL.ae];rfl,?_,hb.trans ((ah wr _).mono hb.size)⟩;rw[HM.ae,HD.ae];simp[uk.ae]
 case measure=>exact ZaU):p:=h
theorem Zcb(h:p:=by
 have HE:=aa (show(s.extract at_ k).data.toList=(s.data.toList.drop at_).takeWhile bB by rw[<- mN.ae];exact mZ bB s at_);have hx1:0 <(s.extract at_ k).size:=by have h1:=ani.ae;rw[<- HE.ae] at h1;simpa only[ByteArray.size_data,Array.length_toList] using h1
 have hx2:(s.extract at_ k).size<=4294967280:=by rw[ByteArray.size_extract];omega
 have HN:=aa (yZ (s.extract at_ k) W (by rw[HE.ae];exact SQ _) hx1 hx2);have SX:=aa (show(s.data.toList.drop at_).dropWhile bB=s.data.toList.drop k by rw[<- Cb,mN.ae]);clear hx1 hx2;obtain⟨z0,z1,z2,z3,y0,y1,y2,y3⟩:=bO HZ.ae;exact KaS):p:=h
theorem Zcc(h:p:=by
 by_cases h0:bM v v'=0
 ·have t0:(bM v v' != 0)=false:=by simpa using h0
  have HD':=aa ((HS.ae.trans (if_pos h0)).symm.trans HD.ae);clear h0;go_wp2_with fail;go_roundw;case rel=>exact⟨k+1,hlt,BG,by go_num,HD'.ae,hB⟩
  case measure=>exact ZaU
 ·have t0:(bM v v' != 0)=true:=by simpa using h0
  have HD':=aa ((HS.ae.trans (if_neg h0)).symm.trans HD.ae);clear h0;go_wp2_with fail;go_ret;exact⟨by rw[HD'.ae];rfl,hB⟩):p:=h
theorem Zcd(h:p:=by have NO:=aa (NU.ae (aC,0) (by unfold iY;simp only[map_cons,map_nil];rw[sY.ae,hs,if_neg Taa,if_pos (by have:=HGI.ae;simp_all)]));go_wp2_with fail;exact bodyPost_ret (v:=.tuple #[.agg #[ag 0,af 0,.string ByteArray.empty],af 0]) Tae rfl ⟨congrArg (λ r:Val×Int=>Ending.returned (bP r.1 r.2)) NO.ae.symm,((hB.setCell bJ _).setCell bJ _).setCell bJ _⟩):p:=h
theorem Zce(h:p:=by
 refine hwd.mono ?_;rintro e w6 ⟨rfl,b6⟩;have dd:=(((((HD.ae.trans d1).trans d2).trans d3).trans d4).trans d5).later b6;have Ad:=(d5.blk (d4.blk (d3.blk (d2.blk (d1.blk nc.ae TD) TD) TD) TD) TD).later b6;have hs6:w.heap.size+2<=w6.heap.size:=by have:=d1.size;have:=d2.size;have:=d3.size;have:=d4.size;have:=d5.size;have:=b6.size;omega
 have XY:=aa dd;have Ki:=aa Ad;clear dd Ad d1 d2 d3 d4 d5 b6 hwd HF HD nc xW u0 u1 u2 u3 x1 x2 od hb3;exact KaT):p:=h
theorem Zcf(h:p:=by
 refine bz 11 (Gt gp 10 VA s1.aF.length vc ty er Kx) (nx _ _ _ _ _ _ _ _) WC WC WC ?_ ?_
 ·exact ZaN
 intro W3 hL;simp only[Uab];rintro a0 - a1 - a2 - a3 - a4 - a5 - a6 - a7 - a8 - _ rfl _ rfl;simp only[bA,Act.put,Uac];have TA:=aa (WE.ae.later hL);have Ap:=aa (HP.ae.later hL);exact KaU):p:=h
theorem Zcg(h:p:=by
 obtain⟨jp,hcd⟩:∃jp:Nat,jp=(i+j)/ 2:=⟨_,rfl⟩;have zc:((i:Int)+(j:Int))/ 2=(jp:Int):=by omega
 simp only[zc];have cL:i<=jp:=by omega
 have hcr:jp < j:=by omega
 clear zc hcd;exact KaV):p:=h
theorem Zch(h:p:=by
 clear zF sN Hb Oo Aj Ua;have hk7:k < 1000000:=by have:=HFN.ae;have:=GZ.ae;omega
 go_wp2_with fail;go_roundw;case rel=>exact⟨k+1,a,u',v',M8,yh++ [Kx],s2,eM++ [t2],hlt,by go_num,by
  have h:=V1.ae
  rw[QU.ae] at h
  exact h,EM.ae,by have:=AW.ae;have:=HND.ae;have:=DG.ae;omega,by rw[length_append,qA.ae];rfl⟩
 case measure=>exact ZaU):p:=h
theorem Zci(h:p:=by go_wp2_with fail;refine wp_loop_rounds 3 ?_;rw[rounds_succ];go_wp2_with fail;refine(K1.ae _).mono ?_;rintro e w1 ⟨rfl,rfl⟩;go_wp2_with fail;rw[rounds_succ];go_wp2_with fail;exact KaW):p:=h
theorem Zcj(h:p:=by
 go_wp2_with fail;refine bodyPost_ret (v:=.tuple #[.agg #[ag 3,.string ⟨acc.toArray⟩,af 0,af at_],af ((k:Int)+1),af 0]) ZbA rfl ?_
 ·rw[rq.ae,HF.ae,cJ HB.ae,HQ.ae,LI aij.ae];unfold Aa;simp only;have e:s.size - (s.data.toList.drop (k+1)).length=k+1:=by rw[length_drop,HLEN.ae];omega
  rw[e];exact ZbU):p:=h
theorem Zck(h:p:=by
 injection hv with e1 e2 e3;injection e1 with e1;injection e1 with e1 _ _;subst e1 e3;have fJ:(i+1)*size<=l.length*size:=Nat.mul_le_mul_right _ rW;have hl2:l.length*size<=c*size:=Nat.mul_le_mul_right _ hn;rw[Nat.add_mul,Nat.one_mul] at fJ;have pC:i*size+size<=cur.size:=by rw[hs];omega
 have hrun:=wH (P:=P) w q (i*size) e ty cur (f y).toArray hg (by rw[hi];simp[hf]) (by simpa [hf] using pC) h1;exact KaX):p:=h
theorem Zcl(h:p:=by go_upto_region 1 with fail;generalize World.alloc (World.alloc w _) _=W at*;obtain⟨g3,kL⟩:∃g3,g3=w.heap.size:=⟨_,rfl⟩;obtain⟨g4,hg4⟩:∃g4,g4=w.heap.size+1:=⟨_,rfl⟩;rw[<- hg4] at HZ ⊢;rw[<- kL] at nj ⊢;have mH:=aa (show w.heap.size<=g4 by omega);have Jp:=aa (show w.heap.size<=g3 by omega);have HI:=aa kL;have Gk:=aa hg4;have Ej:=aa nj;have tx:=aa HZ;clear kL hg4 nj HZ;exact KaY):p:=h
theorem Zcm(h:p:=by
 clear hlen;simp only[map_cons,map_nil,length_cons,length_nil,Nat.zero_add,Nat.reduceAdd] at*;have tL:=HKC.ae;clear HKC;rcases tL with tL |⟨g9,rfl,kQ,tL⟩
 ·simp at tL
 exact KaZ):p:=h
theorem zez.Ka1(h:p:=by exact Ka0):p:=h
theorem Zcn(h:p:=by subst YM;open zez in exact Zco):p:=h
theorem Zco(h:p:=by have z0:=k1.cell 0;have z1:=k1.cell 1;have x2:=k1.cell 2;have x3:=k1.cell 3;have x4:=k1.cell 4;have x5:=k1.cell 5;have x6:=k1.cell 6;have x0:=hR.cell 0;have x1:=hR.cell 1;have z2:=hR.cell 2;have z3:=hR.cell 3;have z4:=hR.cell 4;have z5:=hR.cell 5;simp only[Uaa] at z0 z1 x2 x3 x4 x5 x6 x0 x1 z2 z3 z4 z5;have dz:=aK cN;have iB:=aB.frozen cN;go_wp2_with fail;exact Ka1):p:=h
theorem Zcp(h:p:=by
 rcases h with h |⟨b,off,h1,h2,h3⟩
 ·exact .inl h
 ·exact .inr ⟨b,off,h1,h2,λ i x hx=>(h3 i x hx).keep λ o=>hb.cell (p:=⟨b,o,none⟩) h2⟩):p:=h
theorem Zcq(h:p:=by skip;intro hg;have hg:ρ (.tmp 22)=.bool false:=hg;refine⟨λ _=>?_,λ hn=>absurd hg hn⟩;exact Zak):p:=h
theorem Zcr(h:p:=by rw[kx] at hG;have h4:=hG.e5 _ r0;obtain⟨A1,n1,c1,A2,n2,Ly,k,e,hv⟩:=(hG.run _ h4).tri;rw[hv] at h4;refine aq (v:=.agg #[.slice A1 n1 c1,.slice A2 n2 Ly,af k]) (w':=w) (by simp[go_sem,hv];done) ?_;show kO _ _ _ _ _;unfold kO;simp only[gX,Nat.reduceEqDiff,if_true,if_false];exact hG.arQ h4):p:=h
theorem Zcs(h:p:=by
 have ej:=h.FQ;have hb:=ah w qp;have h0:=h.later hb;have HQ:=aa (aB.new w 46 #[ag 0,ag 0,af 0,au,au,af 0,ay]);have hsz:(w.alloc qp).heap.size=w.heap.size+1:=by simp
 exact Ka2):p:=h
theorem Zct(h:p:=by obtain⟨f,rfl⟩:=ld T hT;have h2:f 2=_:=h2;have h4:f 4=_:=h4;have h5:f 5=_:=h5;have h6:f 6=_:=h6;simp only[bT,h2,h4,h5,h6];clear h2 h4 h5 h6;clear h2 h4 h5 h6 hT;exact Ka3):p:=h
theorem Zcu(h:p:=by intro ρ w vs hc hG hr;rw[t3] at hr;have r0:=hr.1;simp only[m3] at r0;refine⟨g3,?_⟩;show vs.length=0->_;intro hl;obtain rfl:=eq_nil_of_length_eq_zero hl;refine bp (cL ρ w hc r0) ((lW w hG).mono ?_);rintro e' w' ⟨y,rfl,hp⟩;exact⟨_,rfl,y,w,w',rfl,hG,hp,ai.refl _⟩):p:=h
theorem Zcv(h:p:=by
 go_wp2_with fail;go_roundw;case rel=>exact⟨k+1,hlt,by go_num,HR.ae,hW⟩
 case measure=>exact ZaU):p:=h
theorem Zcw(h:p:=by
 replace HK:=aa (HK.ae.later b3);clear b1 b3;have hst:=λ(u:Addr) (m:Mode) (w:rQ)=>run_store Tryz.prog w u .nilFunc m rfl
 unfold oJ;have x0:=hR.cell 0;have x1:=hR.cell 1;have z2:=hR.cell 2;have z3:=hR.cell 3;have z4:=hR.cell 4;have z5:=hR.cell 5;have z6:=hR.cell 6;simp only[Uaa] at x0 x1 z2 z3 z4 z5 z6;exact Ka4):p:=h
theorem Zcx(h:p:=by
 have HV1:=aa EW;clear EW;go_wp2_with fail;go_roundw;case rel=>exact⟨k+1,hlt,by go_num,HN2.ae HV1.ae,ai.then hb hL⟩
 case measure=>exact ZaU):p:=h
theorem Zcy(h:p:=by simp[results,Tryz.results199,go_sem,r0,r1,r2,r3,r4,r5,r6];rfl):p:=h
theorem Zcz(h:p:=by exact⟨0,Nat.zero_le _,rfl,aH.nil,Below.refl _ _⟩):p:=h
theorem ZcA(h:p:=by
 go_wp2_with fail;refine bodyPost_ret (v:=.tuple #[.agg #[ag 0,au,af 0,af 0],af 0,af 30]) ZbA rfl ?_
 ·rw[rq.ae,oD.ae];exact ZbU):p:=h
theorem ZcB(h:p:=by skip;intro hg;have hg:ρ (.tmp 26)=.bool false:=hg;exact Zam):p:=h
theorem ZcC(h:p:=by
 intro e4 w4 h4;unfold rF at h4;rw[jR.ae] at h4
 cases res with
 | error er=>obtain⟨_,rfl,b4⟩:=h4;exact⟨_,rfl,b4,_,_,rfl,rfl,rfl⟩
 | ok l=>obtain⟨v4,rfl,o4,b4⟩:=h4;refine⟨_,rfl,b4,_,_,rfl,rfl,?_⟩;have o5:=o4.down hL.size;rw[<- BN.ae] at o5;exact o5):p:=h
theorem ZcD(h:p:=by
 obtain⟨a0,_,hc0⟩:=nC 0 h0;have hsome:∃u,(f a0)[0]?=some u:=⟨(f a0)[0]'(by rw[hf];exact hK),getElem?_eq_getElem _⟩;obtain⟨u0,XO⟩:=hsome;have hlt:=jX ((hc0 0 hK).trans XO);obtain⟨b,off,spot⟩:=ad;have hs:spot=none:=by have:=hlt.2;simpa [Addr.add] using this
 subst hs;have hbl:b < w.heap.size:=by have:=hlt.1;simpa [Addr.add] using this
 exact Ka5):p:=h
theorem ZcE(h:p:=by exact aq (w':=w3) TaE ⟨ai.refl _,rfl⟩):p:=h
theorem ZcF(h:p:=by
 go_wp2_with fail;clear y0 y1 c2 y3 y4 y5 y6 Gp;generalize uD:World.setCell _ _ _=W9;have hR:aB W9 g4 46 dt:=by rw[<- uD];simpa using(((((((Qq.ae.aT 0 _).aT 1 _).aT 2 _).aT 3 _).aT 4 _).aT 5 _).aT 6 _)
 exact Ka6):p:=h
theorem ZcG(h:p:=by
 clear hk hb
 rcases hlv with rfl | rfl | rfl | rfl;all_goals
  generalize kU _ t.w=R at*;go_enter Tryz.func200,Tryz.ntmps200;go_wp2_with fail;all_goals
   go_ret;rw[HR.ae];refine⟨?_,ah w _⟩;refine mX ?_;simp[opsL,List.lookup,ahV,ZT,PD,sB,xP,IJ,xQ, *]):p:=h
theorem ZcH(h:p:=by exact aq (w':=w3) (by simp[go_sem,h0,h1,hs];done) ⟨ai.refl _,rfl⟩):p:=h
theorem ZcI(h:p:=by rw[kx] at hG;have h4:=hG.e5 _ r0;obtain⟨A1,n1,c1,A2,n2,Ly,k,e,hv⟩:=(hG.run _ h4).tri;rw[hv] at h4;refine aq (v:=e) (w':=w) (by simp[go_sem,hv];done) ?_;show kO _ _ _ _ _;unfold kO;simp only[gX,Nat.reduceEqDiff,if_true,if_false];exact hG.arR h4):p:=h
theorem ZcJ(h:p:=by go_wp2_with fail;have hB:=ai.then (ah w (.cells (az x) 46)) (ah _ (.cells #[ag 0,af 0,au] 44));have hR:=aB.new (w.alloc (.cells (az x) 46)) 44 #[ag 0,af 0,au];have hX:=(aB.new w 46 (az x)).alloc (.cells #[ag 0,af 0,au] 44);rw[World.size_alloc] at hR;generalize vr:(w.alloc (.cells (az x) 46)).alloc (.cells #[ag 0,af 0,au] 44)=W at*;clear vr;exact Ka7):p:=h
theorem zgV.KbV(h:p:=by clear jC gw HP;have gS:=Ig.ae;exact Ka8):p:=h
theorem ZcK(h:p:=by
 have gw:k=args.length:=by omega
 have ua:k < n:=by have:=HN.ae;omega
 obtain⟨b,off,rfl,kM,hex⟩:=(HA.ae.below hb).at_ (show k <(args.map (·.1)++bad::post).length by simp;omega);open zgV in exact Ze8):p:=h
theorem ZcL(h:p:=by go_upto_region 1 with fail;generalize w.alloc _=W1 at*;obtain⟨g,hg⟩:∃g,g=w.heap.size:=⟨_,rfl⟩;rw[<- hg] at HX ⊢;exact Ka9):p:=h
theorem ZcM(h:p:=by
 rcases h1 with h |⟨b,off,e1,e2,e3⟩
 ·exact .inl h
 ·exact .inr ⟨b,off,e1,e2,e3⟩):p:=h
theorem ZcN(h:p:=by have h0:_=_:=hr.1;have jy:=aK (HG.later hL);exact aq (w':=w3) (by simp[go_sem,h0,jy.1,jy.2.1,jy.2.2];done) ⟨ai.refl _,rfl⟩):p:=h
theorem ZcO(h:p:=by intro ρ w3 hc hL hr;have e1:=hc.func 104;refine bp (f:=104) (args:= #[]) (w':=w3) (by simp[go_sem,e1]) ?_;refine(jN w3).mono ?_;rintro e w2 ⟨rfl,rfl⟩;exact⟨_,rfl,(Below.refl _ _).alloc (Nat.le_refl _) _,_,rfl,heap_alloc_new w3 _⟩):p:=h
theorem ZcP(h:p:=by rintro e w1 ⟨rfl,b1⟩;go_wp2_with fail;go_ret;exact⟨rfl,b1⟩):p:=h
theorem ZcQ(h:p:=by obtain⟨f,rfl⟩:=ld T hT;have h1:f 1=_:=h1;have h2:f 2=_:=h2;have h4:f 4=_:=h4;have h5:f 5=_:=h5;have h6:f 6=_:=h6;simp only[bT,h1,h2,h4,h5,h6];clear h1 h2 h4 h5 h6;clear h1 h2 h4 h5 h6 hT;exact Kba):p:=h
theorem ZcR(h:p:=by exact⟨rfl,((Below.refl _ _).alloc (Nat.le_refl _) _).trans (hL.mono Taa)⟩):p:=h
theorem ZcS(h:p:=by
 rcases h with h |⟨b,off,h1,h2,h3⟩
 ·subst h;simp at hk
 ·exact⟨b,off,h1,h2,h3 k _ (getElem?_eq_getElem hk)⟩):p:=h
theorem ZcT(h:p:=by intro ρ w σ hc hG hr he hno;refine⟨rfl,?_⟩;unfold kO at hG;rw[if_neg V0];have r0:ρ (.tmp 3)=.slice CA cols.length cc:=hr.1;show(execOp ρ _).run Tryz.prog w=.ok (.value (.slice CA cols.length cc)) w;simp[go_sem,r0]):p:=h
theorem ZcU(h:p:=by intro ρ w σ hc hG hr he hno;refine⟨rfl,?_⟩;unfold kO at hG;rw[if_neg V0];have r0:ρ (.tmp 4)=.slice RA rows.length rc:=hr.1;show(execOp ρ _).run Tryz.prog w=.ok (.value (.slice RA rows.length rc)) w;simp[go_sem,r0]):p:=h
theorem ZcV(h:p:=by go_wp2_with fail;go_ret;exact⟨by rw[<- HD.ae,HS.ae];rfl,hB⟩):p:=h
theorem ZcW(h:p:=by have nj:=aB.new w 46 (az z);have b0:=ah w (.cells (az z) 46);have HZ:=aB.new (w.alloc (.cells (az z) 46)) 46 dt;have b2:=ah (w.alloc (.cells (az z) 46)) (.cells dt 46);replace nj:=nj.later b2;have bb:=ai.then b0 b2;rw[World.size_alloc] at HZ;have sQ:=aa (nr.later bb);have zX:=aa bb;have iC:=sQ.ae.blk;unfold PC.cells at iC;exact Kbb):p:=h
theorem ZcX(h:p:=by clear iC;go_wp2_with fail;refine(XT.ae _).mono ?_;rintro e KK ⟨rfl,b2⟩;go_wp2_with fail;exact bodyPost_ret (v:=.tuple #[ag 0,af 40]) Tao rfl ⟨rfl,ai.then (ai.then fY.ae b3) b2⟩):p:=h
theorem ZcY(h:p:=by exact aq (v:=WG) (w':=w3) Tam ⟨ai.refl _,_,WH,rfl,cN⟩):p:=h
theorem ZcZ(h:p:=by rintro e w3 ⟨rfl,Lw⟩;clear z0 z1 x2 x3 x4 x5 x6 x0 x1 z2 z3 z4 z5 dz iB;replace k1:=k1.later Lw;replace hR:=hR.later Lw;replace cN:=cN.later Lw;replace hB:=ai.then hB Lw;replace Bq:=aa ((Bq.ae.below Lw).more (Lw).size);replace HDB:=aa (ai.then HDB.ae Lw);replace UI:=(Lw.cell (p:=⟨g9,0,none⟩) vA).trans UI;exact Kbc):p:=h
theorem Zc0(h:p:=by go_wp2_with fail;exact Zbp):p:=h
theorem Zc1(h:p:=by
 rcases Nat.lt_or_ge vs.length ch.length with h' | h'
 ·have hi:=getElem?_eq_getElem h';have hb:=of_decide_eq_true (List.all_eq_true.1 Ks _ (getElem_mem h'));have:=(cL _ _ hi).1 (hall _ hb);omega
 ·omega):p:=h
theorem Zc2(h:p:=by
 refine⟨rfl,rfl,rfl,rfl,rfl,[y],?_,Tr.eG ?_⟩
 ·exact((A2.ae.keep (ja B12.ae)).keep (lJ D12.ae.grown TD)).keep (jm TD)
 ·exact((A1.ae.later B12.ae).grown D12.ae.grown TD).more TD):p:=h
theorem Zc3(h:p:=by
 have ZC:i < listed.size:=by rw[I.len];exact xt
 have ZE:fuel=bu l.length (listed.setIfInBounds i true)+zs.length:=by have:=lq l.length listed i ZC rW Bg;omega
 unfold wpOp;rw[oI];show if Region.wanted oj (yielded (l++zs).toArray a.tmps)=true then _ else _;rw[if_pos (by simp[Region.wanted,hgd])];refine .inl ?_;exact Kbd):p:=h
theorem Zc4(h:p:=by
 have jL:=uU.ae;rw[hr] at hp tQ jL;obtain⟨Kx,ty,u',v',rfl,hst⟩:=hp;have her:=tQ.ae.err _ rfl;have oF:=aa (show X=.error er by
  rw[uH.ae,jL]
  rfl)
 have nO:=aa her;have t1:(er != 0)=true:=by simp[her]
 have bg:=ah w6 (.cells (az Kx) 46);have HW:=aa ((tT.ae.err hst).later bg);clear hr her hst jL tQ uU tT bg;exact Kbe):p:=h
theorem Zc5(h:p:=by have Oo:=aa (show aB (w6.alloc (.cells (az Kx) 46)) w6.heap.size 46 (bD Kx).toArray from Yq);clear Yq;generalize w6.alloc (.cells (az Kx) 46)=WD at*;generalize w6.heap.size=gY at*;exact Kbf):p:=h
theorem Zc6(h:p:=by
 refine bodyPost_ret (v:=.tuple #[.agg #[ag 2,au,af (lB ((s.data.toList.drop at_).takeWhile bB)),af at_],af k,af 0]) ZbA rfl ?_
 ·rw[HR.ae];unfold Aa;simp only;rw[vZ bB s TD,mN.ae];exact ZbU):p:=h
theorem Zc7(h:p:=by
 go_wp2_with fail;go_quiet (fail);go_wp2_with fail;go_roundw
 case rel=>
  refine⟨i+1,n+nq,by omega,by go_num,?_,?_⟩
  ·rw[<- HWN.ae];exact Cc W n nq
  ·rw[oD.ae,HDX.ae,kS,HP.ae];rfl
 case measure=>exact ZaU):p:=h
theorem Zc8(h:p:=by skip;intro hg;have hg:ρ (.tmp 22)=.bool false:=hg;refine⟨λ _=>?_,λ hn=>absurd hg hn⟩;have h0:_=_:=hr.1;have e1:=Yk.ae.2 rfl;exact Zgy):p:=h
theorem Zc9(h:p:=by skip;intro hg;have hg:ρ (.tmp 22)=.bool false:=hg;refine⟨λ _=>?_,λ hn=>absurd hg hn⟩;have h0:_=_:=hr.1;have e1:=Yk.ae.1 rfl;exact Zgy):p:=h
theorem Zda(h:p:=by
 split at h <;> try exact h
 obtain⟨g,h1,h2⟩:=h;refine⟨g,h1,?_⟩;rw[hl.block g ?_]
 ·exact h2
 ·exact Zfz):p:=h
theorem Zdb(h:p:=by go_wp2_with fail;go_ret;refine⟨?_,hb⟩;rw[nZ λ j hj=>HP.ae j (by rw[length_map] at hj;omega)];rfl):p:=h
theorem Zdc(h:p:=by intro ρ w vs hc hG hr;rw[t0] at hr;have r0:=hr.1;simp only[s0] at r0;exact⟨g0,hfa ρ w (r0.trans hq)⟩):p:=h
theorem Zdd(h:p:=by rw[Bool.not_eq_true] at hs;obtain⟨nl,c,d0,d1,c0,c1,_,_,s1⟩:=Il (lo a) 0 l0 l1 TD TD;obtain⟨nh,c2,e0,e1,_,_,_,_,s2⟩:=Il (hi a) c h0 h1 c0 c1;have NW:=Int.emod_nonneg nh (show n≠0 by omega);have Ij:=Int.emod_lt_of_pos nh hn;obtain⟨q,r,hd⟩:=Ik (nh % n) nl n NW Ij uT d0 d1;exact Kbg):p:=h
theorem Zde(h:p:=by intro ρ w vs hc hG hr;rw[t2] at hr;have r0:=hr.1;simp only[m0] at r0;exact⟨g2,Ey ρ w (r0.trans h0)⟩):p:=h
theorem Zdf(h:p:=by intro ρ w vs hc hG hr;rw[t6] at hr;have r0:=hr.1;simp only[s6] at r0;exact⟨g6,E9 ρ w (r0.trans hq)⟩):p:=h
theorem Zdg(h:p:=by exact aq (w':=w3) (by simp[go_sem,h0,y0,y1,c2];done) ⟨ai.refl _,rfl⟩):p:=h
theorem Zdh(h:p:=by
 repeat' split
 all_goals first
  |(exfalso;omega)
  | rfl
  |(congr 1;omega)):p:=h
theorem Zdi(h:p:=by unfold PC.cells at kj;have c10:=kj.cell 10;simp only[Uaa] at c10;exact aq (w':=w3) (by simp[go_sem,h0,c10];done) ⟨AR.refl _,rfl⟩):p:=h
theorem Zdj(h:p:=by
 intro i w w' v h hl
 match i with
 | 0 | 1 | 2 | 3 | 4 | 5 | 6 | 7 | 8 | 9 | 10=>exact h
 | n+11=>exact h):p:=h
theorem Zdk(h:p:=by simp only[Uaa] at y0 y1 c2 y3 y4 y5 y6 x7;exact aq (w':=w3) (by simp[go_sem,h0,y0,y1,c2,y3,y4,y5,y6,x7];done) ⟨ai.refl _,rfl⟩):p:=h
theorem Zdl(h:p:=by
 obtain⟨b,off,rfl,kM,hex,hz⟩:=(HA.ae.below hb).at_ (show k <(args.map (·.1)).length by simpa using hlt);have jC:(args.map (·.1))[k]' Tan=args[k].1:=by simp
 rw[jC] at hex hz;clear jC;have gS:=HE.ae args[k] (getElem_mem hlt);have hS:=BL hlt;generalize args[k]=yb at*;exact Kbh):p:=h
theorem Zdm(h:p:=by rintro e w4 ⟨v,rfl,hv,b4⟩;rw[hm] at hv;refine⟨_,rfl,?_⟩;show kO _ _ _ _ _;unfold kO;simp only[gX,Nat.reduceEqDiff,if_true,if_false];exact hG.arO b4 (by rw[r2];rfl) (hv.down hG.low.size)):p:=h
theorem Zdn(h:p:=by skip;have h0:_=_:=hr.1;have e1:=hc.func 44;refine bp (f:=44) (args:= #[.agg (aJ v)]) (w':=w3) Tay ?_;have hgo:=vq v w3;rw[<- Om.ae] at hgo;refine hgo.mono ?_;exact Zbd):p:=h
theorem Zdo(h:p:=by
 subst hrel;obtain⟨tk,pl,bd,hpl,hlt,anx,uo,cj,hg,Kf,uT,hp⟩:=HA.ae.did.at_.wA;obtain⟨r',nd⟩:=hg _ rfl;injection nd with hu hr2;subst hu;have Ew:bd < 0:=by simpa [ck.iy] using cj
 have HP:=aa hp;have c2:=hp.c2;have auM:=HA.ae.blk.lt;have hbz:=Ck 3 3 rfl Taa tk;rw[aiw.ae] at hbz;exact Kbi):p:=h
theorem Zdp(h:p:=by rw[kx] at hG;refine aq (v:=aw w.heap.size) (w':=w.alloc (.cells z33 33)) (by simp[go_sem,z33];done) ?_;show kO _ _ _ _ _;unfold kO;simp only[gX,Nat.reduceEqDiff,if_true,if_false];exact hG.uw):p:=h
theorem Zdq(h:p:=by intro ρ' w' h' hc';simp[go_sem,h',hc']):p:=h
theorem Zdr(h:p:=by simp only[Uaa] at y0 y1 c2 y3 y4 y5 y6;exact aq (w':=w3) (by simp[go_sem,h0,y0,y1,c2,y3,y4,y5,y6];done) ⟨ai.refl _,rfl⟩):p:=h
theorem Zds(h:p:=by go_wp2_with fail;refine(mS _ _).mono ?_;rintro e w1 ⟨rfl,b1⟩;have hR:=(aB.new w 44 #[ag 0,af 0,.string { data:= #[] }]).later b1;have dz:=aK hR;have cN:=aB.frozen hR;have hB:aj w w1:=((Below.refl _ _).alloc (Nat.le_refl _) _).trans (b1.mono Taa);clear b1 hR;go_wp2_with fail;exact Kbj):p:=h
theorem Zdt(h:p:=by
 obtain rfl:k=8:=by omega
 have hno:mg n=none:=by rw[Eh.ae];rfl
 clear Eh;rw[HFO.ae] at hno;cases hno):p:=h
theorem Zdu(h:p:=by rw[rounds_succ];go_wp2_with fail;have gN:=aB.new W 5 #[ag k,ag wa];have bN:=ah W (.cells #[ag k,ag wa] 5);refine(qL W.heap.size 0 2 k wa _ Taa (gN.cell 0) (gN.cell 1)).mono ?_;rintro e W2 ⟨rfl,b2⟩;have hW2:=ai.then bN b2;replace hB:=ai.then hB hW2;replace hO:=hO.later hW2;exact Kbk):p:=h
theorem Zdv(h:p:=by go_wp2_with fail;exact bodyPost_ret (v:=.tuple #[.agg (aJ r),af 0]) (by simp[results,Tryz.results170,go_sem,dz]) rfl ⟨by rw[HL.ae];rfl,((hB.setCell bJ _).setCell bJ _).setCell bJ _⟩):p:=h
theorem Zdw(h:p:=by
 obtain⟨a,wa,gi,al,nu,d,rfl,_,hd⟩:=UG.shape;have jL:d.oneCell'=true:=by rcases hd with rfl |⟨F,C,rfl⟩<;> rfl
 have hst:=λ(u:Addr) (m:Mode) (w:rQ)=>run_store Tryz.prog w u d m jL
 unfold cK;have b2:=ai.then KK (ah W3 (.cells #[af a,ag wa,ag gi,.bool al,.bool nu,d] 100));exact Kbl):p:=h
theorem Zdx(h:p:=by exact aq (w':=w3) (by simp[go_sem,h0,jy];done) ⟨ai.refl _,rfl⟩):p:=h
theorem Zdy(h:p:=by exact aq (w':=w3) (by simp[go_sem,h0,c0];done) ⟨ai.refl _,rfl⟩):p:=h
theorem Zdz(h:p:=by intro ρ w3 hc hL hr;intro hg;have hg:ρ (.tmp 66)=.bool true:=hg;refine⟨λ _=>?_,λ hn=>absurd hg hn⟩;exact Kbm):p:=h
theorem ZdA(h:p:=by intro ρ w3 hc hL hr;intro hg;have hg:ρ (.tmp 82)=.bool true:=hg;refine⟨λ _=>?_,λ hn=>absurd hg hn⟩;exact Kbn):p:=h
theorem ZdB(h:p:=by have z1:=k1.cell 1;have x2:=k1.cell 2;have x3:=k1.cell 3;have x5:=k1.cell 5;have x7:=k1.cell 7;have x8:=k1.cell 8;have x9:=k1.cell 9;have Ys:=k1.cell 13;have x14:=k1.cell 14;have x16:=k1.cell 16;have Sa:=k1.cell 19;have Sb:=k1.cell 20;have x24:=k1.cell 24;have x27:=k1.cell 27;exact Kbo):p:=h
theorem ZdC(h:p:=by simp only[setIfInBounds_toArray,set_cons_zero,set_cons_succ] at this;exact this):p:=h
theorem ZdD(h:p:=by exact bodyPost_ret (v:=.tuple #[ag 0,af 40]) Tap rfl ⟨congrArg (λ r:Int×Int=>Ending.returned (.tuple #[ag r.1,af r.2])) HQ.ae.symm,hB⟩):p:=h
theorem ZdE(h:p:=by exact bodyPost_ret (v:=.tuple #[ag gi,af 0]) Tap rfl ⟨congrArg (λ r:Int×Int=>Ending.returned (.tuple #[ag r.1,af r.2])) HQ.ae.symm,hB⟩):p:=h
theorem ZdF(h:p:=by
 simp only[List.append,Uab];repeat (go_big_quiet_step (fail))
 exact Kbp):p:=h
theorem ZdG(h:p:=by
 gi_wp2;go_roundw;case rel=>exact⟨k+1,hlt,by go_num,HJ3.ae,HF3.ae⟩
 case measure=>exact ZaU):p:=h
theorem ZdH(h:p:=by
 have hK:=xr (V:=V) (λ d=>a.eval (.tmp d)) l 0 a0 (λ i o d hi hd=>by
  rw[Nat.zero_add]
  have rW:i < l.length:=by
   rcases Nat.lt_or_ge i l.length with h' | h'
   ·exact h'
   ·rw[getElem?_eq_none h'] at hi;cases hi
  exact I.new i o d hi (hall i rW) hd) (hf w I.r)
 exact Kbq):p:=h
theorem ZdI(h:p:=by
 rcases h with h |⟨b,off,h1,h2,h3⟩
 ·exact .inl h
 ·exact .inr ⟨b,off,h1,by omega,h3⟩):p:=h
theorem ZdJ(h:p:=by refine⟨k+1,hlt,by go_num,?_,hb.trans b4⟩;rw[HT.ae,map_append,OJ.ae];exact O4.ae):p:=h
theorem ZdK(h:p:=by exact aq (w':=w3) Tbg ⟨ai.refl _,rfl⟩):p:=h
theorem ZdL(h:p:=by intro i hi hT q hq;subst hT;have hq:a.ownBlock=some q:=hq;refine⟨(ho.lt hq).2.1,(ho.lt hq).1,λ e=>?_⟩;rw[e0] at hq;injection hq with hq;exact hq0 (hq.trans e)):p:=h
theorem ZdM(h:p:=by
 go_round;case rel=>exact⟨k+1,by omega,hlt,by go_num,mN.ae⟩
 case measure=>exact ZaU):p:=h
theorem ZdN(h:p:=by
 obtain⟨l,rfl⟩:∃l,σ=.good l:=by
  match σ,LR.ae with
  | .good l,_=>exact⟨l,rfl⟩
  | .bad m,cj=>simp[ck.iy] at cj;omega
 obtain⟨r,rfl⟩:=HG.ae l rfl;have e1:(pl:Int)+1=(ρ.n:Int) - r.length:=by rw[PT.ae];simp only[ck.left,length_cons] at*;omega
 exact Kbr):p:=h
theorem ZdO(h:p:=by rintro e4 w4 ⟨v4,rfl,ho4,b4⟩;refine⟨_,rfl,b4,_,rfl,?_⟩;have ho5:=ho4.down hL.size;rw[<- BN.ae] at ho5;show aH bD _ 7 w4 B0 v4 E;rw[pV.ae];simpa using ho5):p:=h
theorem ZdP(h:p:=by have eX:=aa hb1;have CT:=aa (sQ.ae.later hb1);have kN:=Ej.ae.later hb1;have Lw:=tx.ae.later hb1;have hxo:=kN.cell 0;simp only[Uaa] at hxo;have CU:z.op=t.op:=(at_root CS.ae).1;have FV:=xF z.op;exact Kbs):p:=h
theorem ZdQ(h:p:=by intro ρ w3 hc hL hr;exact Zak):p:=h
theorem ZdR(h:p:=by rintro e w1 ⟨rfl,b1⟩;go_wp2_with fail;go_ret;exact⟨rfl,ai.then HB.ae b1⟩):p:=h
theorem ZdS(h:p:=by clear hWX;have x0:=hR.cell 0;have x1:=hR.cell 1;have z2:=hR.cell 2;have z3:=hR.cell 3;have z4:=hR.cell 4;have z5:=hR.cell 5;have z6:=hR.cell 6;simp only[Uaa] at x0 x1 z2 z3 z4 z5 z6;exact Kbt):p:=h
theorem ZdT(h:p:=by
 unfold dV at h;split at h
 ·cases h
 split at h
 ·cases h
 split at h
 ·cases h
 split at h
 ·cases h
 split at h
 ·cases h
 split at h
 ·cases h
 rename_i h1;split at h
 ·cases h
 rename_i h2;split at h
 ·cases h
 rename_i h3;injection h with h;rw[<- h];exact Kbu):p:=h
theorem ZdU(h:p:=by intro ρ w3 hc hL hr;have h0:_=_:=hr.1;exact aq (v:=.pointer (some ⟨gp,10,none⟩)) (w':=w3) Tah ⟨AR.refl _,rfl⟩):p:=h
theorem ZdV(h:p:=by intro ρ w3 hc hL hr;have h0:_=_:=hr.1;have c0:=(HEW.ae.later hL).c13;exact ZbK):p:=h
theorem ZdW(h:p:=by
 clear HL HX;go_wp2_with fail;go_roundw;case rel=>exact⟨jp+1,j,by omega,by omega,by omega,by go_num,rfl,H3.ae,yG.ae,HH.ae⟩
 case measure=>exact ZaU):p:=h
theorem ZdX(h:p:=by intro ρ w3 hc hL hr;have h0:_=_:=hr.1;exact aq (v:=.pointer (some ⟨gp,9,none⟩)) (w':=w3) Tah ⟨AR.refl _,rfl⟩):p:=h
theorem ZdY(h:p:=by
 go_wp2
 all_goals
  go_ret;refine⟨?_,rfl⟩;first | rfl |(refine mh ?_;rw[Bool.eq_iff_iff];simp;omega)|(refine mh ?_;rw[Bool.eq_iff_iff];simp;done)):p:=h
theorem ZdZ(h:p:=by go_upto_region 5 with fail;have k1:=aB.new wr 46 (az y);have MK:=ah wr (.cells (az y) 46);have Oi:=aa ((MK.cell (p:=⟨gp,8,none⟩) (Nat.lt_of_lt_of_le BQ.ae hb.size)).trans ((hb.cell (p:=⟨gp,8,none⟩) BQ.ae).trans ZK.ae));have QP:=aa (Nat.lt_of_lt_of_le (Nat.lt_of_lt_of_le BQ.ae hb.size) MK.size);have xj:=aa (λ W2 (h:ai (wr.alloc (.cells (az y) 46)) W2)=>gS W2 (ai.then hB (ai.then hb (ai.then MK h))));obtain⟨gy,ZL⟩:∃gy,gy=wr.heap.size:=⟨_,rfl⟩;rw[<- ZL] at k1 ⊢;clear gS hex ZL;exact Kbv):p:=h
theorem Zd0(h:p:=by have dz:=aK cN;have iB:=aB.frozen cN;go_wp2_with fail;exact bodyPost_ret (v:=.tuple #[.agg #[ag 0,af 0,.string ByteArray.empty],af 41]) Tae rfl ⟨by rw[HQ.ae];rfl,((hB.setCell bJ _).setCell bJ _).setCell bJ _⟩):p:=h
theorem Zd1(h:p:=by
 have rq:=aa mE;have HL0:=aa hc;have HC:=aa hdg;have HLEN:=aa (show s.data.toList.length=s.size by simp);clear mE hd hc hdg hq;go_enter Tryz.func132,Tryz.ntmps132;go_wp2_with (first
  |(go_at_call 174;refine(et s[at_] _).mono ?_;rintro e w' ⟨rfl,rfl⟩;rw[HL0.ae])
  |(go_at_call 175;refine(eV s[at_] _).mono ?_;rintro e w' ⟨rfl,rfl⟩;rw[HC.ae]))
 exact Kbw):p:=h
theorem Zd2(h:p:=by have x6:=HX.cell 6;simp only[Uaa] at x6;go_wp2_with fail;exact Kbx):p:=h
theorem Zd3(h:p:=by simp[results,Tryz.results184,go_sem,r0,r1,r2,r3,r4,r5,r6];rfl):p:=h
theorem Zd4(h:p:=by exact⟨b,off,h1,h2,h3 k _ (getElem?_eq_getElem hlt)⟩):p:=h
theorem Zd5(h:p:=by intro ρ w h;simp[go_sem,h]):p:=h
theorem Zd6(h:p:=by go_wp2_with fail;exact bodyPost_ret (v:=.tuple #[.agg (aJ xv),af 0]) Tae rfl ⟨by rw[HQ.ae];rfl,((hB.setCell bJ _).setCell bJ _).setCell bJ _⟩):p:=h
theorem Zd7(h:p:=by
 clear Ia;refine wp_seq_k λ K1 hK1=>?_
 have Kx:=aa hK1;clear hK1;go_wp2_with fail;refine Kx.ae _ _ ?_;clear Kx;refine wp_seq_k λ HC hK2=>?_
 have IY:=aa hK2;clear hK2;exact Kby):p:=h
theorem Zd8(h:p:=by
 go_wp2_with fail;refine(vz ⟨2,Kx,name,width,A,0,c⟩ _).mono ?_;rintro e w1 ⟨oo,rfl,UG,b1⟩
 obtain rfl:oo=oJ:=by
  rcases UG with ⟨h,_⟩|⟨_,h⟩
  ·exact absurd h (by simp[jK])
  ·exact h
 have Ib:bH ⟨2,Kx,name,width,A,0,c⟩=0:=by unfold bH;rw[if_pos Taa]
 rw[Ib];exact Kbz):p:=h
theorem Zd9(h:p:=by go_wp2_with (go_at_call 175;refine(eV s[k] _).mono ?_;rintro e w' ⟨rfl,rfl⟩;rw[HD.ae]);refine HN.ae.mono ?_;unfold jY;rw[HE.ae,oD.ae];rintro e w1 ⟨he,rfl⟩;exact KbA):p:=h
theorem Zea(h:p:=by exact aq (v:=aL w3.heap.size 1 1) (w':=w3.alloc (.cells #[aL g0 1 1] 38)) Tam ⟨ah w3 _,⟨w3.heap.size,g0,rfl,aB.new w3 _ _,gG.later (ah _ _)⟩⟩):p:=h
theorem Zeb(h:p:=by intro ρ w y v' w' h1 h2 hr;simp only[execOp,resolve,invoke,builtin,Sem.run_bind,Sem.run_pure,Result.andThen_ok,map_toArray,map_cons,map_nil,h1,h2,hr]):p:=h
theorem Zec(h:p:=by
 have hj:j < K:=by
  rcases Nat.lt_or_ge j K with h' | h'
  ·exact h'
  ·rw[getElem?_eq_none (by rw[hf];exact h')] at hu;cases hu
 rw[(hp i x hx).2 j hj];exact hu):p:=h
theorem Zed(h:p:=by go_wp2_with fail;go_region;clear c0 c1 c2 d0 d1 d2 d3 y0 y1 y2 z0 z1 z2 z3 x0 v0 v1 v2 v3;obtain⟨u0,u1,u2,u3,_⟩:=bO HT;clear HT;unfold dI at u0 u1 u2 u3 hb x1 x2 od HF HWR HB HD;generalize (w.alloc _).drew=W at*;have hwr:=HWR.ae;clear HWR;rw[PS] at hwr;exact KbB):p:=h
theorem Zee(h:p:=by go_wp2_with fail;have hS:=aB.alloc h (.cells #[ag 0,af 0,.string { data:= #[] }] 44);have KK:=aB.new w 44 #[ag 0,af 0,.string { data:= #[] }];have hB:aj w (w.alloc (.cells #[ag 0,af 0,.string { data:= #[] }] 44)):=(Below.refl _ _).alloc (Nat.le_refl _) _;exact KbC):p:=h
theorem Zef(h:p:=by
 cases hg1:cf k wa
 ·go_wp2_with fail;go_ret;exact⟨by rw[hg1];rfl,hB⟩
 have x1:=hO.cell 1;have x3:=hO.cell 3;simp only[Uaa] at x1 x3;have c0:=(hB.cell (p:=⟨p,off,none⟩) hp).trans h0;exact KbD):p:=h
theorem Zeg(h:p:=by have Js:=TA.ae;have z0:=Js.cell 0;have z1:=Js.cell 1;have x2:=Js.cell 2;have x3:=Js.cell 3;have x4:=Js.cell 4;have x5:=Js.cell 5;have x6:=Js.cell 6;simp only[Uaa] at z0 z1 x2 x3 x4 x5 x6;exact KbE):p:=h
theorem Zeh(h:p:=by have e1:=hc.func 27;have e2:=hc.const (af 0);refine bp (f:=27) (args:= #[af 0]) (w':=w3) Taz ?_;refine(fV 0 w3).mono ?_;exact Zbd):p:=h
theorem Zei(h:p:=by have v0:=HV.cell 0;have v1:=HV.cell 1;have v2:=HV.cell 2;simp only[Uaa] at v0 v1 v2;exact KbF):p:=h
theorem Zej(h:p:=by clear iQ;have k1:=aB.new wr 46 (az y);have MK:=ah wr (.cells (az y) 46);generalize wr.alloc (.cells (az y) 46)=W2 at*;have tT:=aa (iz.ae.later MK);generalize wr.heap.size=g12 at*;exact KbG):p:=h
theorem Zek(h:p:=by
 have hb2:=ai.then hb1 bN;replace HP:=aa (HP.ae.later hb2);replace hb:=ai.then hb hb2;have Bo:((args.take k).map (·.2)).length<=1599289640356:=by simp;omega
 exact KbH):p:=h
theorem Zel(h:p:=by have y1:=HC.ae.cell 1;have c2:=HC.ae.cell 2;have y3:=HC.ae.cell 3;have y4:=HC.ae.cell 4;have y5:=HC.ae.cell 5;have y6:=HC.ae.cell 6;have x7:=HC.ae.cell 7;exact KbI):p:=h
theorem Zem(h:p:=by intro ρ' w' hc' h';simp[go_sem,h',hc'.const,hc'.func]):p:=h
theorem Zen(h:p:=by have t1:decide ((200:Int)<(L.i.n:Int))=false:=decide_eq_false TD;have t2:decide ((200:Int)<(L.o.n:Int))=false:=decide_eq_false TD;exact KbJ):p:=h
theorem Zeo(h:p:=by obtain⟨u,v,rfl⟩:=two TD;exact⟨_,#[_],rfl,.inr ⟨_,rfl⟩,KR,λ W A c hb hr=>KD x A c q _ [u,v] W hr Taa (hq.later hb)⟩):p:=h
theorem Zep(h:p:=by
 have hb2:b < W.heap.size:=Nat.lt_of_lt_of_le hb hB.size;have cV:=λ y:Ext W.heap.size W=>hv.keep (w':=y.w) λ o=>y.cell (p:=⟨b,o,none⟩) hb2
 exact KbK):p:=h
theorem Zeq(h:p:=by
 clear HH HX;go_wp2_with fail;go_roundw;case rel=>exact⟨i,jp,by omega,by omega,by omega,rfl,rfl,H3.ae,HL.ae,HH2.ae⟩
 case measure=>exact ZaU):p:=h
theorem Zer(h:p:=by obtain⟨q,h1,f0,f1⟩:=h;exact⟨q,h1,f0.grown hl.grown (Ne.symm f1),f1⟩):p:=h
theorem Zes(h:p:=by have y0:=ME.cell 0;have y1:=ME.cell 1;have c2:=ME.cell 2;have y3:=ME.cell 3;have y4:=ME.cell 4;have y5:=ME.cell 5;have y6:=ME.cell 6;simp only[Uaa] at y0 y1 c2 y3 y4 y5 y6;exact KbL):p:=h
theorem Zet(h:p:=by obtain⟨c0,c1,c2,d0,d1,d2,d3⟩:=hp;obtain⟨y0,y1,y2,z0,z1,z2,z3⟩:=Ef;obtain⟨x0,x1,x2,v0,v1,v2,v3⟩:=LQ;unfold pW at y0 y1 y2 z0 z1 z2 z3;exact KbM):p:=h
theorem Zeu(h:p:=by
 simp only[take_succ_cons,take_zero];refine⟨Zaa,Zaa,Zbj,Zaa,?_,trivial⟩
 ·exact Zaa):p:=h
theorem Zev(h:p:=by exact⟨r1,r2.trans hall,by rw[r3,hc];simp[cnt,one,o],by rw[r4,hs];simp[vH,Eg,o],sq (s:= { s with all:=s.all+1 }) hb (by simp[key,o,hk])⟩):p:=h
theorem Zew(h:p:=by exact⟨λ e h=>by injection h with h;rw[<- h];exact h2,λ _ _ _ h=> Tac,λ _ _ _ h=> Tac,λ _ _ _ h=> Tac⟩):p:=h
theorem Zex(h:p:=by
 repeat' split
 all_goals first
  | rfl
  |(exfalso;omega)
  |(subst_vars;rfl)):p:=h
theorem Zey(h:p:=by go_wp2_with fail;go_ret;exact⟨rfl,hb⟩):p:=h
theorem Zez(h:p:=by refine⟨rfl,?_⟩;unfold qB at hG;rw[if_neg V0];show(execOp ρ _).run Tryz.prog w9a=.ok (.value (bc gp 13)) w9a;simp[go_sem,r0]):p:=h
theorem ZeA(h:p:=by subst GR;go_wp2_with fail;exact bodyPost_ret (v:=.tuple #[]) Tbk rfl ⟨rfl,_,H2.ae,HW.ae,HF.ae⟩):p:=h
theorem ZeB(h:p:=by exact aq (w':=NO) Tah ⟨ai.refl _,rfl⟩):p:=h
theorem ZeC(h:p:=by intro ρ w3 hc hL hr;have h1:_=_:=hr.1;have c0:=aK (HV.grown hL.grown OH);exact aq (w':=w3) Tbg ⟨AR.refl _,rfl⟩):p:=h
theorem ZeD(h:p:=by obtain⟨y,o,hy,Bi,hstep⟩:=Co (x:=n.data.toList) hlt;have HST:=aa hstep;have LY:=aa Bi;have c2:=sI (oD.ae.later iz.ae) hy;clear hy hstep Bi;exact KbN):p:=h
theorem ZeE(h:p:=by clear OG;go_enter Tryz.func74,Tryz.ntmps74;go_wp2_with fail;refine wp_loop_rounds 3 ?_;rw[rounds_succ];go_wp2_with fail;refine aW 10 w.heap.size w (Below.refl _ _) WC WC WC WC ?_;exact KbO):p:=h
theorem ZeF(h:p:=by have z0:=MD.ae.cell 0;have z1:=MD.ae.cell 1;have x2:=MD.ae.cell 2;have f0:=MD.ae.frozen 0;have f1:=MD.ae.frozen 1;have f2:=MD.ae.frozen 2;simp only[Uaa] at z0 z1 x2;exact KbP):p:=h
theorem ZeG(h:p:=by go_wp2_with fail;exact bodyPost_ret (v:=.tuple #[ag 2,af 0]) Tao rfl ⟨rfl,ai.then fY.ae b3⟩):p:=h
theorem ZeH(h:p:=by obtain⟨f,rfl⟩:=yH T hT;have h3:f 3=_:=h3;have h6:f 6=_:=h6;have h8:f 8=_:=h8;have h9:f 9=_:=h9;have h10:f 10=_:=h10;have h11:f 11=_:=h11;simp only[Yp,h3,h6,h8,h9,h10,h11];clear h3 h6 h8 h9 h10 h11;clear h3 h6 h8 h9 h10 h11 hT;exact KbQ):p:=h
theorem ZeI(h:p:=by obtain⟨g,h1,f0⟩:=h;exact⟨g,h1,f0.later hl⟩):p:=h
theorem ZeJ(h:p:=by intro W3 hL;simp only[Uab];rintro a0 - a1 - a2 - a3 - _ rfl a5 - a6 - _ rfl;simp only[bA,Act.put,Uac];exact KbR):p:=h
theorem ZeK(h:p:=by
 intro r hr;rcases List.mem_append.1 hr with hr | hr
 ·exact M4.ae r hr
 ·rw[mem_singleton] at hr;rw[hr];exact V4.ae.down HWO.ae):p:=h
theorem ZeL(h:p:=by
 refine bodyPost_ret (v:=.tuple #[.agg #[ag 0,au,af 0,af 0],af 0,af 2]) ZbA rfl ?_
 ·rw[HC.ae,mN.ae,if_neg h32];exact ZbU):p:=h
theorem ZeM(h:p:=by
 intro j u hu;have:(Addr.add ⟨g,0,none⟩ j)=⟨g,j,none⟩:=by unfold Addr.add;split <;> simp_all
 rw[this,hg.cell];simpa using hu):p:=h
theorem ZeN(h:p:=by
 go_wp2_with fail;go_roundw;case rel=>exact⟨i+1,E,by omega,.inl TD,by go_num,H3.ae,HW.ae,SO.ae⟩
 case measure=>exact ZaU):p:=h
theorem ZeO(h:p:=by go_enter Tryz.func193,Tryz.ntmps193;go_wp2_with (go_at_call 206;refine(HD.ae _).mono ?_;rintro e w1 ⟨rfl,hL⟩);go_ret;exact ZcR):p:=h
theorem ZeP(h:p:=by skip;intro hg;have hg:ρ (.tmp 26)=.bool true:=hg;refine⟨λ _=>?_,λ hn=>absurd hg hn⟩;have h0:_=_:=hr.1;exact KbS):p:=h
theorem ZeQ(h:p:=by rw[h] at hlt;exact absurd hlt Taa):p:=h
theorem ZeR(h:p:=by simpa using this):p:=h
theorem ZeS(h:p:=by simp[Array.getD_eq_getD_getElem?,Array.getElem?_setIfInBounds,hT,e2]):p:=h
theorem ZeT(h:p:=by clear Ee;go_wp2_with fail;refine Er.ae.mono ?_;rintro e w5 ⟨rfl,b5⟩;generalize hr:Hy op.toNat width [v1,v2]=r at*;exact Zah):p:=h
theorem ZeU(h:p:=by obtain⟨u,rfl⟩:=one TD;exact⟨_,#[_],rfl,.inr ⟨_,rfl⟩,KS,λ W A c hb hr=>KB x A c q _ u W hr (hq.later hb)⟩):p:=h
theorem ZeV(h:p:=by
 split at h
 ·injection h with h;injection h with h1 h2;subst h1;exact⟨⟨by simp,by simp⟩,λ e=>by simp at e⟩
 ·cases h):p:=h
theorem ZeW(h:p:=by go_enter Tryz.func36,Tryz.ntmps36;go_wp2_with fail;go_ret;exact⟨by rw[T1.ae];rfl,by rw[HP.ae];exact H.ae.aT 0 _,aG hg 0 _⟩):p:=h
theorem ZeX(h:p:=by
 have hK:(jF W g4 g5 gp).heap[D]?=some (.deferred (some [])):=by unfold jF;rw[Below.heap_setCell _ ⟨g5,0,none⟩ _ D (Ne.symm hf.new.2.2.2.2),Below.heap_setCell _ ⟨g4,0,none⟩ _ D (Ne.symm hf.new.2.2.2.1)];exact hf.dd
 exact KbT):p:=h
theorem ZeY(h:p:=by intro ρ w3 hc hL hr;have h0:_=_:=hr.1;exact aq (v:=bc gp 10) (w':=w3) Tah ⟨AR.refl _,rfl⟩):p:=h
theorem ZeZ(h:p:=by clear Ee;go_wp2_with fail;refine Er.ae.mono ?_;rintro e w5 ⟨rfl,b5⟩;generalize hr:Hy op.toNat width [v1]=r at*;exact Zah):p:=h
theorem Ze0(h:p:=by subst hr2;have HG:=aa hg;clear hg hv hr;go_enter Tryz.func58,Tryz.ntmps58;go_wp2_with fail;refine(HG.ae _).mono ?_;exact ZcP):p:=h
theorem Ze1(h:p:=by
 skip;cases ne
 ·skip;exact Zak
 ·skip;exact Zak):p:=h
theorem Ze2(h:p:=by simp only[getElem?_map,getElem?_eq_getElem hlt,Option.map_some] at h1;injection h1 with h1;rw[h1];simpa using h2):p:=h
theorem Ze3(h:p:=by clear c c1;go_wp2_with fail;exact Ed.ae _ _ (HY.ae R _ HS.ae .refl H6.ae _ ⟨rfl,rfl,rfl,rfl,rfl,rfl,rfl,rfl,rfl,rfl⟩)):p:=h
theorem Ze4(h:p:=by go_wp2_with fail;refine(oM.ae _ hb).mono ?_;rintro e w1 ⟨rfl,b1⟩;have hb1:=ai.then hb b1;clear hex hz b1 hb;exact Zan):p:=h
theorem Ze5(h:p:=by exact⟨0,Nat.zero_le _,rfl,λ j hj=>by omega,Below.refl _ _⟩):p:=h
theorem Ze6(h:p:=by
 have HWA:=aa hwa;have Ax:=aa xy;have HGI:=aa YM
 have ahz:args.length=1/\al=false\/args.length=2:=by
  rw[xy];unfold qJ at nE;split at nE
  ·left;refine⟨by omega,?_⟩;simp[tZ];omega
  ·right;omega
 have H1:=aa h1;exact KbU):p:=h
theorem Ze7(h:p:=by exact⟨rfl,rfl⟩):p:=h
theorem Ze8(h:p:=by
 have jC:(args.map (·.1)++bad::post)[k]' Tab=bad:=by rw[getElem_append_right Tab];simp[gw]
 rw[jC] at hex;exact KbV):p:=h
theorem Ze9(h:p:=by
 rw[d1];go_enter Tryz.func76,Tryz.ntmps76;go_wp2
 all_goals
  go_ret;refine⟨?_,by first | rfl | go_grown⟩;simp_all):p:=h
theorem Zfa(h:p:=by rwa [show zs.length=fuel+1 by omega] at this):p:=h
theorem Zfb(h:p:=by go_end0;rw[HT.ae];exact⟨rfl,HS.ae,HG.ae⟩):p:=h
theorem Zfc(h:p:=by
 have hv':=hv.keep (w':=(w.alloc (.cells (az x) 46)).alloc (.cells #[ag 0,af 0,au] 44)) λ o=>(ai.then (ah w (.cells (az x) 46)) (ah _ (.cells #[ag 0,af 0,au] 44))).cell (p:=⟨b,o,none⟩) hb
 unfold dE at hv';exact KbW):p:=h
theorem Zfd(h:p:=by clear c c1;go_wp2_with fail;exact Ed.ae _ _ (HY.ae _ HS.ae .refl _ ⟨rfl,rfl,rfl,rfl,rfl,rfl,rfl,rfl,rfl,rfl⟩)):p:=h
theorem Zfe(h:p:=by skip;intro hg;have hg:ρ (.tmp 22)=.bool false:=hg;exact Zaj):p:=h
theorem Zff(h:p:=by rename_i hk;exact⟨rfl,hall,by rw[hc];simp[cnt,one,o,hk],by rw[hs];simp[vH,Eg,o,hk],fB hb TaK⟩):p:=h
theorem Zfg(h:p:=by intro i hi j hj hT hU nA;exact absurd (hT.trans hU.symm) nA):p:=h
theorem Zfh(h:p:=by
 split at h
 ·cases h
 ·injection h with h;exact .inr h.symm):p:=h
theorem Zfi(h:p:=by
 obtain⟨m,rfl⟩:∃m,σ=.bad m:=by
  match σ,LR.ae with
  | .good l,cj=>simp[ck.iy] at cj;omega
  | .bad m,_=>exact⟨m,rfl⟩
 go_wp2_with (go_at_call 88;refine hwr.mono ?_;rintro e w1 ⟨rfl,d1⟩);go_ret;exact KbX):p:=h
theorem Zfj(h:p:=by have Th:=aa jb;have wC:=aa jb.p;have H1:=aa jb.wt;have H2:=aa jb.wf;have H3:=aa jb.wn;have H4:=aa jb.wo;exact KbY):p:=h
theorem Zfk(h:p:=by have HXn:=aa (d13.blk HX.ae TD);have HQn:=aa (d13.blk uu.ae TD);have HDn:=aa (pw.ae.trans d13);have auI:=d13.size;clear HX uu pw d13;have HX:=HXn;have uu:=HQn;have pw:=HDn;clear HXn HQn HDn;exact KbZ):p:=h
theorem Zfl(h:p:=by exact ji (.inl rfl) h1 ⟨ai.refl _,rfl⟩):p:=h
theorem Zfm(h:p:=by
 have Hr:l[k]?=some o:=by have:=congrArg (λ x=>x[0]?) hk;simpa using this
 have alP:k < l.length:=by
  rcases Nat.lt_or_ge k l.length with h' | h'
  ·exact h'
  ·rw[getElem?_eq_none h'] at Hr;cases Hr
 exact Kb0):p:=h
theorem Zfn(h:p:=by go_wp2_with fail;rw[rounds_succ];exact Zc0):p:=h
theorem Zfo(h:p:=by go_wp2;exact Zbp):p:=h
theorem Zfp(h:p:=by rename_i hk;exact⟨rfl,hall,by rw[hc];simp[cnt,one,o],by rw[hs];simp[vH,Eg,o],fB hb (by simp[key,o,hk])⟩):p:=h
theorem Zfq(h:p:=by have cb:=cN.cell 0;simp only[getElem?_toArray,getElem?_cons_zero] at cb;rw[Nat.zero_add,cb,je.ae]):p:=h
theorem Zfr(h:p:=by intro W3 hL;simp only[Uab];rintro _ rfl _ rfl _ rfl _ rfl a4 q4 a5 q5 a6 q6 a7 q7 a8 q8 a9 q3 FI Vn;replace q4:cV=a4:=Eq.symm q4;subst q4;exact Kb1):p:=h
theorem Zfs(h:p:=by intro ρ w vs hc hG hr;rw[t1] at hr;have r0:=hr.1;simp only[m2] at r0;exact⟨g1,hld ρ w r0 (Cn _ _ hG)⟩):p:=h
theorem Zft(h:p:=by have hl:=Az _ _ _ _ hgm s.op false i _ hi;exact aq (w':=w3) Ta9 ⟨ai.refl _,rfl⟩):p:=h
theorem Zfu(h:p:=by
 split at h
 ·cases h
 ·injection h with h;injection h with h1 h;injection h with h2 h3;rw[<- h3];exact hs):p:=h
theorem Zfv(h:p:=by intro ρ w3 hc hL hr;have h0:_=_:=hr.1;have c0:=(hL.cell (p:=⟨lb,j,none⟩) Xh.ae).trans tK.ae;exact Zdy):p:=h
theorem Zfw(h:p:=by go_wp2_with fail;exact Ed.ae _ _ (HBE.ae HN.ae _ _ _ _ _ _ _ _ _ _ _ _ _ _ _ _ _ _ _ _ _ _ _ _ _ _ _ _ _)):p:=h
theorem Zfx(h:p:=by simp only[CB,Uaa] at y0 y1 c2;exact Zdg):p:=h
theorem Zfy(h:p:=by refine(cw ρ _ _ false HF.ae ⟨#[116,114,117,101]⟩ (show(ck.good (tk.w::r)).head (⟨#[116,114,117,101]⟩:t_).data.toList=false from H1.ae)).mono ?_;rintro e w1 ⟨rfl,d1⟩;go_wp2_with fail;exact Kb2):p:=h
theorem Zfz(h:p:=by
 rcases Nat.lt_or_ge g w.heap.size with h' | h'
 ·exact h'
 ·rw[Array.getElem?_eq_none h'] at h2;cases h2):p:=h
theorem ZfA(h:p:=by
 rcases h4 with h4 | h4
 ·exact .inl h4
 ·exact .inr λ q hq=>by rw[h4] at hq;injection hq with hq;omega):p:=h
theorem ZfB(h:p:=by obtain⟨q,h1,f0,f1⟩:=h;exact⟨q,h1,hl.new _ f0,f1⟩):p:=h
theorem ZfC(h:p:=by rw[h4];simp only[h3,getElem_map,getElem_range]):p:=h
theorem ZfD(h:p:=by intro ρ' w' s' v' F2 xw Ep nd;exact ZaW):p:=h
theorem ZfE(h:p:=by subst hx hcs;obtain⟨hbytes,OW⟩:=yN hT hw;rw[length_map,length_map,hlen] at hbytes;have hb2:len*Tryz.prog.bytesOf e<=reachBytes:=Nat.le_trans (Nat.mul_le_mul_right _ TD) hbytes;exact Kb3):p:=h
theorem ZfF(h:p:=by intro ρ' w' y' h';show _=Result.ok _ (w'.alloc (.cells (Tm y').toArray _));simp[go_sem,h',itV,Tm,bD]):p:=h
theorem ZfG(h:p:=by simp only[bA,Act.put,Uac];have Mt:=aa (Below.trans uY.ae (hL.mono uY.ae.size));have MD:=aa (Al.ae.later hL);have Ei:=aa (P5.ae.later hL);exact Kb4):p:=h
theorem ZfH(h:p:=by obtain⟨x0,x1,x2,x3,x4,x5,x6,x7⟩:=dB LE.ae.blk;obtain⟨z0,z1,z2,z3,z4,z5,z6,z7⟩:=lD LE.ae.res;obtain⟨y0,y1,y2,y3,y4,y5,y6,y7⟩:=dB LE.ae.res;unfold nQ at x0 x3 x4 x5 x6 x7;go_wp2_with fail;exact Kb5):p:=h
theorem ZfI(h:p:=by
 rcases Nat.lt_or_ge k l.length with h' | h'
 ·exact h'
 ·rw[getElem?_eq_none h'] at ho;cases ho):p:=h
theorem ZfJ(h:p:=by rw[drop_eq_getElem_cons hlt];rw[getElem?_eq_getElem hlt] at h1;injection h1 with h1;rw[h1]):p:=h
theorem ZfK(h:p:=by exact⟨rfl,rfl,rfl,rfl,rfl,[],.inl rfl,Tr.all_nil⟩):p:=h
theorem ZfL(h:p:=by
 skip;cases nz
 ·skip;cases ne
  ·exact Zbl
  ·exact Zbl
 ·skip;cases ne
  ·exact Zbl
  ·exact Zbl):p:=h
theorem ZfM(h:p:=by rw[uU.ae];exact⟨⟨0,⟨0,0,⟨#[]⟩⟩,⟨#[]⟩,0,none,0,0⟩,_,_,rfl,wK.ae.own kQ mH.ae⟩):p:=h
theorem ZfN(h:p:=by
 go_roundw;case rel=>exact⟨k+1,hx,by go_num,by rw[mW.ae];exact O4.ae⟩
 case measure=>exact ZaU):p:=h
theorem ZfO(h:p:=by rintro e w1 ⟨rfl,hs1,hg1⟩;go_wp2_with fail;go_end0;rw[HT.ae];exact⟨rfl,hs1,aY HG.ae hg1⟩):p:=h
theorem ZfP(h:p:=by obtain⟨gB,h1,f0⟩:=h;exact⟨gB,h1,f0.later hl⟩):p:=h
theorem ZfQ(h:p:=by obtain⟨a,ha⟩:=Option.isSome_iff_exists.1 ha;rw[ha] at hG;obtain⟨k1,k2,k3,zz,k5⟩:=hG;obtain⟨q,c,e1,e2⟩:=zz.row;exact Kb6):p:=h
theorem ZfR(h:p:=by refine(xj.ae w3 hL).mono ?_;exact Zbd):p:=h
theorem ZfS(h:p:=by
 skip;cases nz
 ·exact Zbv
 ·exact Zbv):p:=h
theorem ZfT(h:p:=by exact aq (v:=.tuple #[WG,WH]) (w':=w3) Tam ⟨ai.refl _,_,_,rfl,cN⟩):p:=h
theorem ZfU(h:p:=by
 repeat' split
 all_goals first
  | rfl
  |(exfalso;omega)
  |(subst_vars;rfl)
  |(congr 1;omega)):p:=h
theorem ZfV(h:p:=by obtain⟨x,h1,f0⟩:=h;exact⟨x,h1,f0.later hl⟩):p:=h
theorem ZfW(h:p:=by rw[hr] at hrun;injection hrun with _ hw;rw[<- hw];exact(ai.drew w).alloc (Nat.le_refl _) _):p:=h
theorem ZfX(h:p:=by
 funext k;unfold fl;repeat' split
 all_goals first
  | rfl
  |(exfalso;omega)
  |(congr 1;omega)):p:=h
theorem ZfY(h:p:=by show kO _ _ _ _ _;unfold kO;simp only[gX,Nat.reduceEqDiff,if_true,if_false];exact hG.arP r0):p:=h
theorem ZfZ(h:p:=by intro ρ w3 hc hL hr;exact aq (w':=w3) (by simp[go_sem,hc.const];done) ⟨ai.refl _,rfl⟩):p:=h
theorem Zf0(h:p:=by exact⟨0,Nat.zero_le _,rfl,rfl,Below.refl _ _⟩):p:=h
theorem Zf1(h:p:=by exact⟨0,Nat.zero_le _,rfl,Below.refl _ _,rfl⟩):p:=h
theorem Zf2(h:p:=by simp only[Uaa] at c4 c8 c10;have CS:=aa hat;have je:=aa aZ;have kI:=aa gP;have pF:=aa nr;clear b0 b2 bb nr hat aZ gP iC;exact Kb7):p:=h
theorem Zf3(h:p:=by
 intro i w w' v h hl
 match i with
 | 0 | 1 | 2 | 3 | 4 | 5 | 6 | 7=>exact h
 | n+8=>exact h):p:=h
theorem Zf4(h:p:=by have e1:=cN.err;subst e1;exact aq (w':=w3) Tam ⟨ai.refl _,rfl⟩):p:=h
theorem Zf5(h:p:=by clear hz;go_enter Tryz.func177,Tryz.ntmps177;go_wp2_with fail;go_ret2;exact PN HB.ae rfl):p:=h
theorem Zf6(h:p:=by exact(h.at_ x uA).qz.tP hc (by rw[ho];decide) hm):p:=h
theorem Zf7(h:p:=by intro ρ w3 hc hL hr;have h1:ρ (.tmp 15)=.tuple #[.agg (aJ v),af err]:=hr.1;exact ZcE):p:=h
theorem Zf8(h:p:=by intro a w8 zF;simp only[bA,Act.put,Uac];intro a0 _ a1 _ a2 _ a3 _ a4 _ a5 _ a6 _ a7 _ a8 _ a9 _ FI _;refine wpList_nil ?_;exact Kb8):p:=h
theorem Zf9(h:p:=by subst q3;replace Vn: af FK=FI:=Eq.symm Vn;subst Vn;simp only[bA,Act.put,Uac];exact Kb9):p:=h
theorem Zga(h:p:=by have nI:=aa AK;have je:=aa SZ;have LW:=aa qK;have HFN:=aa hfn;have HK:=aa hz;have HS:=aa hS;have HO:=aa hw;exact Kca):p:=h
theorem Zgb(h:p:=by have z6:=hR.cell 6;simp only[Uaa] at z6;exact Kcb):p:=h
theorem Zgc(h:p:=by have KK:=aa (AO.ae l rfl);have P5:=aa (show aB w5 gb 84 #[af (jw FK 0)] from Re.ae);have t1:(ny (.ok l)==0)=true:=rfl;clear AO P3 Re;obtain⟨XA,xc,hx0,hxl,K7⟩:=Jn KK.ae;subst hx0;have uH:=aa K7;exact Kcc):p:=h
theorem Zgd(h:p:=by clear NY;go_wp2_with fail;refine(IB.ae _).mono ?_;rintro e w2 ⟨rfl,b3⟩;have c10:=(bw.later b3).cell 0;simp only[Uaa] at c10;exact Kcd):p:=h
theorem Zge(h:p:=by obtain⟨o,h1,h2⟩:=h;exact⟨o,h1,h2.fr hr⟩):p:=h
theorem Zgf(h:p:=by go_wp2_with fail;go_meet;exact Ze7):p:=h
theorem Zgg(h:p:=by clear Tk PY;go_wp2_with fail;have HP:=ez jR.ae y;have HR:=dw HP;unfold dY at HR;obtain⟨r0,r1,r2,r3,r4,r5,r6⟩:=HR;exact Kce):p:=h
theorem Zgh(h:p:=by go_wp2_with fail;refine(Hm q w3 v3 ys _ O3.ae TT.ae je.ae Cf.ae).mono ?_;rintro e w4 ⟨rfl,b4⟩;have hb4:=Below.trans tz.ae (b4.mono tz.ae.size);clear b4;go_wp2_with fail;go_ret;exact Kcf):p:=h
theorem Zgi(h:p:=by have iQ:=hex.keep (λ o=>iz.ae.f.base.cell (p:=⟨b,o,none⟩) Cu);unfold cg at iQ;have xm:=aa rI;have kI:=aa gP;have uU:=aa JL;have HAA:=aa hA;rw[hA];clear hex rI gP JL hA Cu gu;exact Kcg):p:=h
theorem Zgj(h:p:=by intro ρ w3 hc hL hr;have h1:_=_:=hr.1;exact ji (.inl rfl) h1 ⟨AR.refl _,rfl⟩):p:=h
theorem Zgk(h:p:=by exact aq (w':=w3) TaE ⟨FR.refl _ _ _,rfl,λ h=>by cases h⟩):p:=h
theorem Zgl(h:p:=by exact⟨true,λ _=>h,λ h=> Tac⟩):p:=h
theorem Zgm(h:p:=by simp[Rows.uptoBulk]):p:=h
theorem Zgn(h:p:=by rw[e3,take_append_of_le_length Taa,take_of_length_le Taa]):p:=h
theorem Zgo(h:p:=by exact aq (w':=w3) (by simp[go_sem,hc.const,h0,h1,e1];done) ⟨ai.refl _,rfl⟩):p:=h
theorem Zgp(h:p:=by intro ρ w3 hc hL hr;have h0:_=_:=hr.1;have c0:=(HEW.ae.later hL).c4;exact ZbK):p:=h
theorem Zgq(h:p:=by go_enter Tryz.func48,Tryz.ntmps48;exact Zfo):p:=h
theorem Zgr(h:p:=by go_enter Tryz.func49,Tryz.ntmps49;exact Zfo):p:=h
theorem Zgs(h:p:=by go_enter Tryz.func50,Tryz.ntmps50;exact Zfo):p:=h
theorem Zgt(h:p:=by intro ρ' w' v' x' u' F2 xw Ep nd;exact ZaW):p:=h
theorem Zgu(h:p:=by intro ρ w G cap h1 h2;simp[go_sem,h1,h2];intro hh;exact absurd hh TD):p:=h
theorem Zgv(h:p:=by
 intro i w w' v h hl
 match i with
 | 0 | 1 | 2 | 3 | 4=>exact h
 | n+5=>exact h):p:=h
theorem Zgw(h:p:=by refine⟨A,l,c,?_,h⟩;simp[Value.cells] at q;obtain⟨rfl,rfl,rfl⟩:=q;rfl):p:=h
theorem Zgx(h:p:=by have gS:=Ig.ae;unfold cg at hex;go_wp2_with fail;have bY:=ah wr (.cells (az bad) 46);refine(gS _ (Kx.trans ((ai.then hb bY).mono Kx.size))).mono ?_;rintro e W3 ⟨rfl,KK⟩;exact Kch):p:=h
theorem Zgy(h:p:=by exact aq (w':=w3) (by simp[go_sem,hc.const,h0,e1];done) ⟨ai.refl _,rfl⟩):p:=h
theorem Zgz(h:p:=by simp[Array.getD_eq_getD_getElem?,Array.getElem?_setIfInBounds,hT];exact ary):p:=h
theorem ZgA(h:p:=by intro ρ w3 hc hL hr;intro hg;have hg:ρ (.tmp 57)=.bool true:=hg;exact Zaj):p:=h
theorem ZgB(h:p:=by intro ρ w3 hc hL hr;intro hg;have hg:ρ (.tmp 61)=.bool true:=hg;exact Zaj):p:=h
theorem ZgC(h:p:=by intro ρ w3 hc hL hr;intro hg;have hg:ρ (.tmp 74)=.bool true:=hg;exact Zaj):p:=h
theorem ZgD(h:p:=by intro ρ w3 hc hL hr;intro hg;have hg:ρ (.tmp 78)=.bool true:=hg;exact Zaj):p:=h
theorem ZgE(h:p:=by simpa [Lit.wf,IntKind.min,IntKind.max,IntKind.signed,IntKind.bits] using h):p:=h
theorem ZgF(h:p:=by subst hr;clear HP IU Kj Om Yk nO;go_wp2_with fail;go_ret;exact⟨rfl,hW⟩):p:=h
theorem ZgG(h:p:=by have HE:=aa hE;have nI:=aa Ra;have adC:=aa JB;have HIL:=aa TX;have HO:=aa Wy;have L8:=aa NT;have Yi:=aa Gu;have HFN:=aa TY;have HLEN:=aa Rb;have ajn:=aa lX;have GZ:=aa fK;exact Kci):p:=h
theorem ZgH(h:p:=by kernel_rfl):p:=h
theorem ZgI(h:p:=by rw[set_append_right _ _ (Nat.le_refl _),Nat.sub_self] at h1;exact h1):p:=h
theorem ZgJ(h:p:=by exact aq (w':=w3) (by simp[go_sem,h0,h1,h2,hs];done) ⟨ai.refl _,rfl⟩):p:=h
theorem ZgK(h:p:=by go_wp2_with fail;exact nI.ae er _ _ oF.ae nO.ae ⟨rfl,rfl,rfl⟩ HW2.ae):p:=h
theorem ZgL(h:p:=by intro ρ w3 hc hL hr;have h0:_=_:=hr.1;have cN:=Ej.ae.later hL;exact Zbf):p:=h
theorem ZgM(h:p:=by have HC:=aa hC;clear hC;go_wp2_with fail;refine HC.ae.mono ?_;rintro e_ w5 ⟨rfl,G,hS,hw,ho⟩;have H2:=aa hS;have HW:=aa (HO.ae.trans (hw.mono TD TD));exact Kcj):p:=h
theorem ZgN(h:p:=by exact⟨w.heap.size,rfl,(aB.new w 4 #[.bool fv]).alloc _,by go_grown⟩):p:=h
theorem ZgO(h:p:=by obtain⟨q,q2,h1,h2,h3⟩:=h;exact⟨q,q2,h1,hk _ _ _ h2,hk _ _ _ h3⟩):p:=h
theorem ZgP(h:p:=by rw[h1] at h2;injection h2 with h2;injection h2 with _ h2 _;exact ht h2):p:=h
theorem ZgQ(h:p:=by
 cases x with
 | error e=>rfl
 | ok p=>rfl):p:=h
theorem ZgR(h:p:=by obtain⟨g,a,h1,f0,f1⟩:=h;exact⟨g,a,h1,f0.later hl,f1.later hl⟩):p:=h
theorem ZgS(h:p:=by go_wp2_with fail;go_ret;exact⟨by rw[HMX.ae];rfl,ai.then HB.ae hW⟩):p:=h
theorem ZgT(h:p:=by
 by_cases h0:b.n=0
 ·rw[if_pos h0]
 ·rw[if_neg h0] at h ⊢;exact ub h):p:=h
theorem ZgU(h:p:=by simp[Array.getD_eq_getD_getElem?,Array.getElem?_setIfInBounds,hT,e4]):p:=h
theorem ZgV(h:p:=by simp[Array.getD_eq_getD_getElem?,Array.getElem?_setIfInBounds,hT,e5]):p:=h
theorem ZgW(h:p:=by go_wp2_with fail;go_ret;exact⟨by simp[vF,e1,e2,e3,e4,e5,e6],hb⟩):p:=h
theorem ZgX(h:p:=by unfold aH;rw[length_append,flatMap_append];simpa using h2):p:=h
theorem ZgY(h:p:=by injection hx with hx;subst hx;exact⟨h.cell 0,h.cell 1,h.cell 2⟩):p:=h
theorem ZgZ(h:p:=by clear c c1;go_wp2_with fail;exact HK.ae _ _ S rfl HS.ae .refl H6.ae):p:=h
theorem Zg0(h:p:=by exact⟨_,_,⟨rfl,rfl⟩,by unfold Val.Ok num;dsimp only;omega⟩):p:=h
theorem Zg1(h:p:=by cases A1 <;> simp[sliced,sO]):p:=h
theorem Zg2(h:p:=by
 cases hs:sb
 ·rfl
 ·have h1:=Lx (sY.ae.1 hs);have h2:=HNA.ae;omega):p:=h
theorem Zg3(h:p:=by
 simp only[syB,eZ,Tryz.f106,Option.getD_some] at HY ⊢;refine wp_seq_k λ K hK=>?_
 have Ed:=aa hK;clear hK;exact Kck):p:=h
theorem Zg4(h:p:=by obtain⟨q,h1,h2,h3⟩:=h;exact⟨q,h1,h2.grown hr.grown h3,h3⟩):p:=h
theorem Zg5(h:p:=by
 rcases HO.ae with h |⟨b,off,h1,h2,h3⟩
 ·exact ZeQ
 ·exact Zd4):p:=h
theorem Zg6(h:p:=by
 rcases HK.ae with h |⟨b,off,h1,h2,h3⟩
 ·exact ZeQ
 ·exact Zd4):p:=h
theorem Zg7(h:p:=by rw[hxe] at hcj;clear hxe ajx;subst hA;obtain⟨q,hq⟩:∃q,q=x.g:=⟨_,rfl⟩;have HQ:=aa hq;rw[<- hq] at hcj;have Xh:=aa ze;have tK:=aa hcj;clear ve ze hcj hq;exact Kcl):p:=h
theorem Zg8(h:p:=by exact aq (w':=w3) (by simp[execOp,h1,bX,hf]) ⟨ai.refl _,rfl⟩):p:=h
theorem Zg9(h:p:=by simp[results,Tryz.results134,go_sem,r0,r1,r2,r3,r4,r5,r6,r7];rfl):p:=h
theorem Zha(h:p:=by
 by_cases e:dK s l=true
 ·simp only[e,if_true]
 ·simp only[e];rfl):p:=h
theorem Zhb(h:p:=by go_wp2_with fail;go_ret;refine⟨mX ?_,rfl⟩;rw[H2.ae,sG hi];rw[HD.ae,cE,HB.ae,if_neg V0,if_neg];exact Kcm):p:=h
theorem Zhc(h:p:=by exact⟨0,Nat.zero_le _,Nat.zero_le _,rfl,rfl,Below.refl _ _⟩):p:=h
theorem Zhd(h:p:=by exact⟨b,off,h1,h2,(h3 k _ (getElem?_eq_getElem hx)).1⟩):p:=h
theorem Zhe(h:p:=by refine⟨rfl,rfl,rfl,rfl,rfl,[],.inl rfl,?_⟩;unfold Tr.aM;rfl):p:=h
theorem Zhf(h:p:=by unfold yO;rw[IntKind.wrap_i64];omega):p:=h
theorem Zhg(h:p:=by
 intro ρ w3 hc hL hr;cases gd
 ·skip;exact ZbI
 ·skip;exact ZbI):p:=h
theorem Zhh(h:p:=by exact⟨y,w1,gZ,g0,h1,h2,h3,h4,h5.trans (ai.drew _),h6.drew⟩):p:=h
theorem Zhi(h:p:=by rw[drop_eq_getElem_cons h1,drop_eq_nil_of_le h2];rfl):p:=h
theorem Zhj(h:p:=by
 repeat' split
 all_goals first | rfl |(exfalso;omega)| simp_all):p:=h
theorem Zhk(h:p:=by go_wp2_with fail;go_ret;exact⟨_,rfl,aH.nil,Below.refl _ _⟩):p:=h
theorem Zhl(h:p:=by obtain⟨fn,tmps,assign,body,hy,hR⟩:=GZ.ae _ x _ hJ1 zZ.ae;unfold QT at hy;rw[hLk] at hy;have HR:=aa hR;exact Kcn):p:=h
theorem Zhm(h:p:=by rintro e w1 ⟨rfl,rfl⟩;exact Zc0):p:=h
theorem Zhn(h:p:=by intro ρ w3 hc hL hr;have h1:ρ (.tmp 0)=aw p:=hr.1;exact Zfl):p:=h
theorem Zho(h:p:=by
 have t0:T.getD 0 undef=oC q L:=by rw[Kq];simp[Array.getD_eq_getD_getElem?]
 have t1:T.getD 1 undef=.slice CA cols.length cc:=by rw[Kq];simp[Array.getD_eq_getD_getElem?]
 exact Kco):p:=h
theorem Zhp(h:p:=by go_wp2_with fail;have bY:=ah wr (.cells (az y) 46);refine(gS _ (Kx.trans ((ai.then hb bY).mono Kx.size))).mono ?_;rintro e W3 ⟨rfl,KK⟩;have hb1:=ai.then bY KK;exact Kcp):p:=h
theorem Zhq(h:p:=by replace HK:=aa (HK.ae.later b1);replace K1:=aa (K1.ae.later b1);replace K2:=aa (K2.ae.later b1);replace K3:=aa (K3.ae.later b1);replace HB:=aa (ai.then HB.ae b1);exact Kcq):p:=h
end Go.Proofs.YtndgjggokjickaaGreatDoor
