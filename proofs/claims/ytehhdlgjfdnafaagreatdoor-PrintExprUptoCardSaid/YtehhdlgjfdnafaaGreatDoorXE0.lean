/- Scripts that several proofs use. -/
import Derived.Below
import Derived.BigQuiet
import Derived.Shelf.Strings.OnBuilder
import Derived.Shelf.Small.Utf8
import Derived.Shelf.Strings.BuilderK
import Derived.Shelf.Strconv.Itoa4
import Derived.Shelf.Strconv.ErrVarParseInt
import Derived.Shelf.Strings.Shaped
import Derived.Shelf.Strings.Prefix
import Derived.Shelf.Strings.SplitShaped
import Derived.Shelf.Unicode.DecodeSlow
import Derived.Shelf.Unicode.IsSpaceAny
import Derived.Shelf.Unicode.CaseLaid
import Derived.Shelf.Unicode.ExclAny
import Derived.Deep.AppendLies
import Derived.Handy
import Derived.WalkLawsBesides
import Derived.Laws.EntriesVeiled
import Derived.Deep.DeepCutAuto
import Derived.Lib.BufferKept
import Derived.Lib.ItoaLen
import Derived.Deep.Strs
import Derived.Laws.CopyOwn
import Derived.Lay
import Derived.LaidMore
import Derived.Stop.LaidErr
import Derived.HandedShaped
import Derived.Deep.DeepHandedRow
namespace Go.Proofs.YtehhdlgjfdnafaaGreatDoor
open List
set_option linter.unusedVariables false
theorem Uaa:(∀{α:Type}(l:List α)(i:Nat),l.toArray[i]?=l[i]?)/\(∀{α:Type}(a:α)(l:List α),(a::l)[0]?=some a)/\∀{α:Type}(a:α)(l:List α)(i:Nat),(a::l)[i+1]?=l[i]?:=by refine⟨?_,?_,?_⟩<;>simp
theorem Uab:(∀{α:Type}(a:α)(l:List α)(i:Nat),(a::l).take (i+1)=a::l.take i)/\(∀{α:Type}(l:List α),l.take 0=[])/\(∀{α:Type}(a:α)(l:List α)(i:Nat),(a::l).drop (i+1)=l.drop i)/\∀{α:Type}(l:List α),l.drop 0=l:=by refine⟨?_,?_,?_,?_⟩<;>simp
theorem Uac:(∀{α:Type}(l:List α)(i:Nat)(a:α),l.toArray.setIfInBounds i a=(l.set i a).toArray)/\(∀{α:Type}(x:α)(l:List α)(i:Nat)(a:α),(x::l).set (i+1) a=x::l.set i a)/\∀{α:Type}(x:α)(l:List α)(a:α),(x::l).set 0 a=a::l:=by refine⟨?_,?_,?_⟩<;>simp
variable{p:Prop}
theorem Taa(h:p:=by omega):p:=h
theorem Tab(h:p:=by kernel_rfl):p:=h
theorem Tac(h:p:=by decide):p:=h
theorem Tad(h:p:=by simp;omega):p:=h
theorem Tae(h:p:=by simp):p:=h
theorem Taf(h:p:=by have:=HA.out.qb;have:=HA.out.sa.qw;omega):p:=h
theorem Tah(h:p:=by rw[e2];simp[go_sem,hc.const,h0,h1];done):p:=h
theorem Tai(h:p:=by simp[St.exprs,Qu.exprs,cR,any_append,any_map,any_flatten,Function.comp_def,Bool.or_assoc]):p:=h
theorem Taj(h:p:=by rw[<- e];simp[go_sem,h0,h1];done):p:=h
theorem Tak(h:p:=by simp[Qu.exprs,cR,any_append,any_map,Function.comp_def,Bool.or_assoc]):p:=h
theorem Tal(h:p:=by simp[St.long,Qu.long]):p:=h
theorem Tam(h:p:=by simpa using h):p:=h
theorem Tan(h:p:=by rw[HA.out.name];exact HF.out.names.1):p:=h
theorem Tao(h:p:=by rw[HLEN.out];omega):p:=h
theorem Tap(h:p:=by rw[AU.out];exact hi):p:=h
theorem Taq(h:p:=by simp[go_sem,e1,h0,h1];done):p:=h
theorem Tar(h:p:=by simp[St.exprs,Qu.exprs,cR]):p:=h
theorem Tas(h:p:=by rw[length_map,HL.out]):p:=h
theorem Tat(h:p:=by rw[no li.r];simp):p:=h
theorem Tau(h:p:=by simp[St.long,Qu.long,Bool.or_assoc]):p:=h
theorem Tav(h:p:=by simp only[length_cons];omega):p:=h
theorem Taw(h:p:=by simp[MapKept.IsKey]):p:=h
theorem Tax(h:p:=by simp[Qu.long,Bool.or_assoc]):p:=h
theorem Tay(h:p:=by simpa using hv):p:=h
theorem Taz(h:p:=by simp only[length_append,hA,length_cons,length_nil,show(aL y).length=7 from rfl];omega):p:=h
theorem TaA(h:p:=by have:=HK.out;omega):p:=h
theorem TaB(h:p:=by simpa using hk):p:=h
theorem TaC(h:p:=by rw[hl];exact ht.1):p:=h
theorem TaD(h:p:=by rw[hk];decide):p:=h
theorem TaE(h:p:=by have:=Yc.out;have:=Us.out;have:=PT.out;have:=HN.out;simp only[length_append];omega):p:=h
theorem TaF(h:p:=by rw[(no li.c).1];simp):p:=h
theorem TaG(h:p:=by rw[qF];exact qG):p:=h
theorem TaH(h:p:=by unfold maxLen;omega):p:=h
theorem TaI(h:p:=by have:=g1.size;omega):p:=h
theorem TaJ(h:p:=by simpa using hx):p:=h
theorem TaK(h:p:=by simpa using ha):p:=h
theorem TaL(h:p:=by rw[I.len];exact BL):p:=h
theorem TaM(h:p:=by rw[HA.out.every];exact HF.out.every.2):p:=h
theorem TaN(h:p:=by rw[HA.out.every];exact HF.out.every.1):p:=h
theorem TaO(h:p:=by simp[jz,Value.oneCell']):p:=h
theorem TaP(h:p:=by rw[HO.out,HK.out];omega):p:=h
theorem TaQ(h:p:=by rfl):p:=h
theorem TaR(h:p:=by rw[no li.u];simp):p:=h
theorem TaS(h:p:=by rw[take_append_drop];exact hz):p:=h
theorem TaT(h:p:=by rw[HL.out];omega):p:=h
theorem TaU(h:p:=by rw[e2];simp[go_sem,h0,h1,q1];done):p:=h
theorem TaV(h:p:=by rw[HL.out];simp):p:=h
theorem TaW(h:p:=by rw[no li.q];exact q0):p:=h
theorem TaX(h:p:=by simpa using A0):p:=h
theorem TaY(h:p:=by rw[BV.out];exact bT):p:=h
theorem TaZ(h:p:=by have:=HN.out;omega):p:=h
theorem Ta0(h:p:=by have:=HL.out;omega):p:=h
theorem Ta1(h:p:=by rw[ja];exact hlt):p:=h
theorem Ta2(h:p:=by rw[HC.out];omega):p:=h
theorem Ta3(h:p:=by injection e):p:=h
theorem Ta4(h:p:=by simpa using hy):p:=h
theorem Ta5(h:p:=by simp[Region.wanted,hg]):p:=h
theorem Ta6(h:p:=by have:=fw.out.at_;rw[HL.out] at this;exact this):p:=h
theorem Ta7(h:p:=by rw[hwd];exact Aq ra _):p:=h
theorem Ta8(h:p:=by have:=hb.1;simp;omega):p:=h
theorem Ta9(h:p:=by decide+kernel):p:=h
theorem Tba(h:p:=by rw[hn,hl]):p:=h
theorem Tbb(h:p:=by rw[nE.out];exact bT):p:=h
theorem Tbc(h:p:=by rw[length_map];have:=HL.out;omega):p:=h
theorem Tbd(h:p:=by show w.heap.size≠w1.heap.size;omega):p:=h
theorem Tbe(h:p:=by rw[length_map];exact HL.out.symm):p:=h
theorem Tbf(h:p:=by rw[fV.out.skip];exact drop_at HB.out):p:=h
theorem Tbg(h:p:=by rw[HY.out,HL.out]):p:=h
theorem Tbh(h:p:=by simpa using(by omega:x[0].toNat=48)):p:=h
theorem Tbi(h:p:=by simpa using(by omega:s[0].toNat=48)):p:=h
theorem Tbj(h:p:=by rw[<- drop_at HB.out];exact dY.out):p:=h
theorem ze2.Kbn(h:p:=by exact Kaa):p:=h
theorem zdA.KaT(h:p:=by go_enter Tryz.func19,Tryz.ntmps19;open ze2 in exact ZcC):p:=h
theorem Zaa(h:p:=by have HA:=hid h;have HF:=hid hf;obtain⟨cs,hcs⟩:∃cs,cs=(bI y).toArray:=⟨_,rfl⟩;show Calls Tryz.prog 19 #[.pointer (some ⟨b,0,none⟩),.agg (bI y).toArray] w _;open zdA in exact Zbn):p:=h
theorem Zab(h:p:=by
 obtain⟨i0,mm,Rm⟩:=jY h0;obtain⟨i,⟨hi,hu⟩,Eb⟩:=least (p:=λ i=>i < l.length/\listed.getD i false=false) i0 ⟨mm,Rm⟩
 have dx:∀j,j < i->listed.getD j false=true:=λ j hj=>by
  cases hc:listed.getD j false with
  | true=>rfl
  | false=>exact absurd ⟨by omega,hc⟩ (Eb j hj)
 have BU:l[i]?=some l[i]:=getElem?_eq_getElem hi;have pc:=cw ay i _ BU;simp only[lQ,Bool.and_eq_true,Nat.zero_add] at pc
 have iK:i∈Region.ready .any (l++zs).toArray listed:=by
  refine oZ (nr BU) ?_ λ j hj=>dx j (of_decide_eq_true (List.all_eq_true.1 pc.1.1.1 j hj))
  rw[dX (by rw[I.len];simp;omega)];exact hu
 refine⟨(λ hnil=>by rw[hnil] at iK;cases iK),λ j hj=>?_⟩;obtain⟨wq,oj,nX,hall⟩:=mem_ready.1 hj
 have BL:j <(l++zs).length:=by
  rcases Nat.lt_or_ge j (l++zs).length with h' | h'
  ·exact h'
  ·rw[Array.getElem?_eq_none (by simpa using h')] at nX;cases nX
 rw[dX TaL] at wq;have eI:∀k∈fA oj,listed.getD k false=true:=λ k hk=>by obtain⟨e,he,hb,rfl⟩:=jI.1 hk;exact hall e he hb
 have JC:j < l.length:=by
  rcases Nat.lt_or_ge j l.length with h' | h'
  ·exact h'
  ·exfalso
   have Rl:zs[j - l.length]?=some oj:=by
    have:(l++zs)[j]?=some oj:=by simpa using nX
    rw[getElem?_append_right Taa] at this;exact this
   have Gh:=jd hz (j - l.length) oj Rl;rw[show l.length+(j - l.length)=j by omega] at Gh;have hc:=iJ (L:=l++zs) (λ k=>listed.getD k false=true) (by
    intro k ok hk hd e he
    rcases Nat.lt_or_ge k l.length with Ec | Ec
    ·rw[getElem?_append_left Ec] at hk
     exact I.closed k ok hk hd e he
    ·rw[I.tail k Ec] at hd;cases hd) j (fA oj) Gh.2 eI i Taa
   rw[hu] at hc;cases hc
 have wE:l[j]?=some oj:=by
  have:(l++zs)[j]?=some oj:=by simpa using nX
  rw[getElem?_append_left JC] at this;exact this
 exact Kab):p:=h
theorem zeX.Kbl(h:p:=by exact Kac):p:=h
theorem Zac(h:p:=by obtain⟨u,rfl⟩:=dJ T hT.sz;open zeX in exact Zcz):p:=h
theorem zgz.Kb1(h:p:=by have x7:=(d2.blk HX.out kG Tac).cell 7;simp only[Uaa] at x0 x1 x2 x3 x4 x5 x6 x7;exact ZaE):p:=h
theorem zdg.KaM(h:p:=by open zgz in exact Zem):p:=h
theorem zhj.Kcn(h:p:=by have x7:=HX.out.cell 7;simp only[Uaa] at x0 x1 x2 x3 x4 x5 x6 x7;exact ZaF):p:=h
theorem zgF.Kb4(h:p:=by
 clear k0 k1 k2 k3 k4 k5 k6 k7 HS HD;generalize wr.alloc _=W1 at*;clear bx lx;rcases Nat.eq_zero_or_pos i with mm | mm
 ·open zhj in exact Zf3
 ·open zdg in exact Zbc):p:=h
theorem Zad(h:p:=by open zgF in exact Zev):p:=h
theorem Zae(h:p:=by exact Ze3):p:=h
theorem Zaf(h:p:=by have h0:_=_:=hr.1;exact ae (w':=w3) (by simp[go_sem,h0];done) ⟨af.refl _,rfl⟩):p:=h
theorem zdd.KaK(h:p:=by exact Kad):p:=h
theorem zcP.KaB(h:p:=by
 have g2:((t.w.k:Int)==2)=false:=by simp;omega
 have g3:((t.w.k:Int)==3)=false:=by simp;omega
 open zdd in exact Zba):p:=h
theorem Zag(h:p:=by open zcP in exact ZaX):p:=h
theorem Zah(h:p:=by obtain⟨u,rfl⟩:=dJ T hT.sz;have h2:=(aw u (show 2 < 83 by decide)).symm.trans hT.t2;have h3:=(aw u (show 3 < 83 by decide)).symm.trans hT.t3;simp only[sT,List.range,List.range.loop,List.map,h2,h3];clear hT h2 h3;have HH:=hid h;clear h;simp only[tz,iz,Tryz.f40,Option.getD_some] at hO ⊢;have HO:=hid hO;clear hO;obtain⟨p0,q0,q1,q2,q3,q4,q5,q6,q7⟩:=HH.out.cells;exact Kae):p:=h
theorem zgr.KbX(h:p:=by
 go_big_quiet_step ((go_at_call 16;exact iM (Nat.le_refl _) (VY _)));repeat (go_big_quiet_step (fail))
 refine wpQuiet_nil ?_;rintro V4 ⟨x9,Tp⟩;have Hw:=x9.h;rw[<- Tp] at Hw;have hb1:=af.then qZ Hw;clear Tp x9 k0 k1 k2 k3 k4 k5 k6 m0 m1 m2 m3 m4 m5 m6 VY Hw;exact Kaf):p:=h
theorem Zai(h:p:=by
 have hwr:Below w.heap.size w wr:=hW.trans (qZ.mono hW.size);rcases HA.out with h0 |⟨b,off,mr,lH,hc⟩
 ·subst h0;simp at hx
 rcases fV.out with h0 |⟨b2,si,Q7,Tn,hc2⟩
 ·subst h0;simp at hu
 have AK:b < wr.heap.size:=Nat.lt_of_lt_of_le (hS b lH) hwr.size;have uC:b2 < wr.heap.size:=Nat.lt_of_lt_of_le (Cq b2 Tn) hwr.size;have hcell:=λ j v hv=>(hwr.cell (p:=⟨b,off+i*7+j,none⟩) (hS b lH)).trans (hc i x j v hx hv)
 have iB:=λ j v hv=>(hwr.cell (p:=⟨b2,si+i*7+j,none⟩) (Cq b2 Tn)).trans (hc2 i u j v hu hv)
 have k0:=λ q:Ext wr.heap.size wr=>(q.h.cell (p:=⟨b,off+i*7,none⟩) AK).trans (hcell 0 (.int .u8 x.op) rfl)
 have k1:=λ q:Ext wr.heap.size wr=>(q.h.cell (p:=⟨b,off+i*7+1,none⟩) AK).trans (hcell 1 (.int .u8 x.v.k) rfl)
 have k2:=λ q:Ext wr.heap.size wr=>(q.h.cell (p:=⟨b,off+i*7+2,none⟩) AK).trans (hcell 2 (.int .i64 x.v.n) rfl)
 have k3:=λ q:Ext wr.heap.size wr=>(q.h.cell (p:=⟨b,off+i*7+3,none⟩) AK).trans (hcell 3 (.string x.v.s) rfl)
 have k4:=λ q:Ext wr.heap.size wr=>(q.h.cell (p:=⟨b,off+i*7+4,none⟩) AK).trans (hcell 4 (.string x.name) rfl)
 have k5:=λ q:Ext wr.heap.size wr=>(q.h.cell (p:=⟨b,off+i*7+5,none⟩) AK).trans (hcell 5 (.int .i64 x.width) rfl)
 have k6:=λ q:Ext wr.heap.size wr=>(q.h.cell (p:=⟨b,off+i*7+6,none⟩) AK).trans (hcell 6 (.slice x.A x.n x.c) rfl)
 have m0:=λ q:Ext wr.heap.size wr=>(q.h.cell (p:=⟨b2,si+i*7,none⟩) uC).trans (iB 0 (.int .u8 u.op) rfl)
 have m1:=λ q:Ext wr.heap.size wr=>(q.h.cell (p:=⟨b2,si+i*7+1,none⟩) uC).trans (iB 1 (.int .u8 u.v.k) rfl)
 have m2:=λ q:Ext wr.heap.size wr=>(q.h.cell (p:=⟨b2,si+i*7+2,none⟩) uC).trans (iB 2 (.int .i64 u.v.n) rfl)
 have m3:=λ q:Ext wr.heap.size wr=>(q.h.cell (p:=⟨b2,si+i*7+3,none⟩) uC).trans (iB 3 (.string u.v.s) rfl)
 have m4:=λ q:Ext wr.heap.size wr=>(q.h.cell (p:=⟨b2,si+i*7+4,none⟩) uC).trans (iB 4 (.string u.name) rfl)
 have m5:=λ q:Ext wr.heap.size wr=>(q.h.cell (p:=⟨b2,si+i*7+5,none⟩) uC).trans (iB 5 (.int .i64 u.width) rfl)
 have m6:=λ q:Ext wr.heap.size wr=>(q.h.cell (p:=⟨b2,si+i*7+6,none⟩) uC).trans (iB 6 (.slice u.A u.n u.c) rfl)
 have VY:=λ q:Ext wr.heap.size wr=>hD q.w (hwr.trans (q.h.mono hwr.size))
 unfold dA aL at VY;clear hcell iB hc hc2 hx hu hwr hD;subst mr Q7;go_upto_region 10 with fail;refine gU 10 wr.heap.size wr (Below.refl _ _) Tab Tab Tab Tab ?_;open zgr in exact Zeg):p:=h
theorem Zaj(h:p:=by
 have k0:=λ y:Ext wr.heap.size wr=>(HP.out.later y.h).c0
 have k1:=λ y:Ext wr.heap.size wr=>(HP.out.later y.h).c1
 have m0:=λ y:Ext wr.heap.size wr=>(HP.out.later y.h).d0
 have m1:=λ y:Ext wr.heap.size wr=>(HP.out.later y.h).d1
 have m2:=λ y:Ext wr.heap.size wr=>(HP.out.later y.h).d2
 have m3:=λ y:Ext wr.heap.size wr=>(HP.out.later y.h).d3
 go_wp2_with fail;refine gU 13 wr.heap.size wr (Below.refl _ _) Tab Tab Tab Tab ?_;simp only[Uab];repeat (go_big_quiet_step (first
  |(go_at_call 182;exact iM (Nat.le_refl _) (TX _))))
 refine wpQuiet_nil ?_;rintro W2 ⟨y2,OB⟩;have hW:=y2.h;rw[<- OB] at hW;clear OB y2 k0 k1 m0 m1 m2 m3 c2;exact Kag):p:=h
theorem zdj.KaN(h:p:=by have bx:=aa wr (Ds x);refine(hDx _ (Below.trans hwr (bx.mono hwr.size))).mono ?_;rintro e w' ⟨rfl,b0⟩;have b':=af.then bx b0;exact ZgF):p:=h
theorem Zak(h:p:=by
 have x6:=HX.cell 6;simp only[Uaa] at x6;go_wp2_with fail;clear x6;generalize W.alloc _=W1 at*;have rY:=hid hb;have HW:=hid hW;clear hb;go_loopw [3,9] (λ m iv wr=>∃i:Nat,i<=ys.length/\iv=.int .i64 i/\m=.int .i64 (ia (ds.take i))/\Below W1.heap.size W1 wr) (λ _ iv _=>ys.length - (intOf iv).toNat);case atStart=>exact⟨0,Nat.zero_le _,rfl,rfl,Below.refl _ _⟩
 case round=>
  obtain⟨i,hi,rfl,rfl,qZ⟩:=hrel;have hml:=mP ds i;have Wb:=HM.out;by_cases hlt:i < ys.length
  ·open zdj in exact Zbd
  ·exact ZcZ):p:=h
theorem zgy.Kb0(h:p:=by go_enter Tryz.func181,Tryz.ntmps181;go_wp2_with fail;go_region;clear c0 c1 c2 d0 d1 d2 d3 y0 y1 y2 z0 z1 z2 z3 x0 v0 v1 v2 v3;obtain⟨u0,u1,u2,u3,_⟩:=aI HT;have HTB:=hid HT;clear HT;unfold bV at u0 u1 u2 u3 hb3 x1 x2 OZ HF HTB HD lL TZ;generalize World.drew _=W at*;exact Kah):p:=h
theorem zcu.Kaw(h:p:=by
 unfold uT at*;unfold bj.ptr;obtain⟨tk,pl,bd,hpl,hlt,hsm,yG,eY,hg,xY,uA,hp⟩:=h0.lp;obtain⟨r',rq⟩:=hg _ rfl;have htw:t=tk.w:=by injection rq
 have Ay:bd < 0:=by simpa [dO.nJ] using eY
 subst htw;have rp:=h0.left;have Xu:=hp.later (aa _ xh);have Q0:=hp.later ((aa _ (.cells (bV tk) 81)).drew);have hb3:=(aa (w.alloc (.cells #[.int .u8 0,.int .u8 0,.int .i64 0,.string ⟨#[]⟩,.string ⟨#[]⟩,.int .i64 0,.slice none 0 0] 36)) (.cells (bV tk) 81)).drew;have HT:=(av.new (w.alloc (.cells #[.int .u8 0,.int .u8 0,.int .i64 0,.string ⟨#[]⟩,.string ⟨#[]⟩,.int .i64 0,.slice none 0 0] 36)) 81 (bV tk)).drew;rw[hsz] at HT;have HF:=hid (h0.later hb3);have HD:=hid ((gP.aA h hb).later hb3);have lL:=hid (HQ.out.later hb3);have OZ:=(h0.later hb3).facts.2.2.2.2.1;have TZ:((w.alloc (.cells #[.int .u8 0,.int .u8 0,.int .i64 0,.string ⟨#[]⟩,.string ⟨#[]⟩,.int .i64 0,.slice none 0 0] 36)).alloc (.cells (bV tk) 81)).drew.heap.size=w.heap.size+2:=by simp
 have e1:(pl:Int)+1=(ρ.n:Int) - r.length:=by rw[hpl];simp only[dO.left,length_cons] at*;omega
 have Q1:=hid hpl;clear h hpl hg eY yG rq h0 hb HQ;open zgy in exact Zek):p:=h
theorem Zal(h:p:=by have aZ:=h.mE;have hb:=aa w uT;have h0:=h.later hb;open zcu in exact ZaO):p:=h
theorem Zam(h:p:=by have dy:=hid (show(Tryz.prog.info? 34).map (·.size)=some cs.size by rw[hcs];exact bT);have lD:=hid (show cF.size=cs.size by rw[hcs,br];exact br _);have jq:=hid (show cs.all (·.oneCell')=true by rw[hcs];exact cL _);exact Kai):p:=h
theorem zeG.Kbe(h:p:=by clear h2 d2 H1 TT x0;exact Kaj):p:=h
theorem Zan(h:p:=by
 have TR:=hid mb;clear mb hk;go_upto_region 38 with fail;have bN:w0.heap.size<=w.heap.size:=by rw[iW.out];exact dy.out
 refine cE 8 (tC b g1 y tt) (lK _ _ _ _) Tab Tab Tab ?_ ?_
 ·simp only[take_succ_cons,take_zero];refine⟨Zbp,ZaU,?_,?_,?_,?_,?_,?_,trivial⟩
  ·intro ρ w3 hc hL hr;exact Zcw
  ·intro ρ w3 hc hL hr;have h0:_=_:=hr.1;have Fj:w3.cell? ⟨g1,22,none⟩=some (.int .u8 y.aN.k):=(av.later H0.out.q hL).cell 22;have Fk:w3.cell? ⟨g1,23,none⟩=some (.int .i64 y.aN.n):=(av.later H0.out.q hL).cell 23;have Fl:w3.cell? ⟨g1,24,none⟩=some (.string y.aN.s):=(av.later H0.out.q hL).cell 24;exact Zc1
  ·intro ρ w3 hc hL hr;exact Zcw
  ·intro ρ w3 hc hL hr;have h0:_=_:=hr.1;have Pr:w3.cell? ⟨g1,25,none⟩=some (.int .u8 y.dH.k):=(av.later H0.out.q hL).cell 25;have Pt:w3.cell? ⟨g1,26,none⟩=some (.int .i64 y.dH.n):=(av.later H0.out.q hL).cell 26;have Pu:w3.cell? ⟨g1,27,none⟩=some (.string y.dH.s):=(av.later H0.out.q hL).cell 27;exact Zgz
  ·intro ρ w3 hc hL hr;have h0:_=_:=hr.1;have h1:_=_:=hr.2.1;exact ae (w':=w3) (gq rfl (by simp only[map_toArray,map_cons,map_nil,h0,h1];exact tB y)) ⟨af.refl _,rfl⟩
  ·intro ρ w3 hc hL hr;have h0:_=_:=hr.1;have h1:_=_:=hr.2.1;have e1:=hc.func 37;refine dB (f:=37) (args:= #[.agg (bI y).toArray,.agg (bI (eA y false false false false false false false false true)).toArray]) (w':=w3) Taq ?_;exact Zb3
 intro W2 hL;simp only[Uab];rintro _ rfl a1 - a2 - a3 - a4 - a5 - a6 - _ rfl;open zeG in exact Zcd):p:=h
theorem Zao(h:p:=by
 have HH:=hid h;have HK:=hid hk;have HP:=hid ho;have HA:=hid hA;have HO:=hid hO;have HN:=hid hn;have RV:=hid hm;have RX:=hid yV;have hsz:=h.size;obtain⟨ok,ay⟩:∃ok:Bool,ok=(decide (0 < os.length)&& decide (os.length<=64)):=⟨_,rfl⟩;rw[ho] at ay;have RY:=hid (show dt os=aq (bc ok) (dE os) by unfold dt;rw[ay,ho]);have iI:=hid ay;clear h hk ho hA hO hn ay hm yV;have iL:(decide ((0:Int)< k)=false/\decide (0 < k)=false/\ok=false)\/(decide ((0:Int)< k)=true/\decide (0 < k)=true/\decide ((k:Int)<=64)=true/\decide (k<=64)=true/\ok=true)\/(decide ((0:Int)< k)=true/\decide (0 < k)=true/\decide ((k:Int)<=64)=false/\decide (k<=64)=false/\ok=false):=by rw[iI.out];by_cases h1:0 < k <;> by_cases h2:k<=64 <;> simp[h1,h2] <;> omega
 exact Kak):p:=h
theorem Zap(h:p:=by intro ρ w3 hc hL hr;have h0:_=_:=hr.1;have k7:w3.cell? ⟨g1,7,none⟩=some (.slice y.query.items.A y.query.items.n y.query.items.c):=(av.later H0.out.q hL).cell 7;have k8:w3.cell? ⟨g1,8,none⟩=some (.string y.query.aN):=(av.later H0.out.q hL).cell 8;have k9:w3.cell? ⟨g1,9,none⟩=some (.bool y.query.only):=(av.later H0.out.q hL).cell 9;have Pm:w3.cell? ⟨g1,10,none⟩=some (.slice y.query.aP.A y.query.aP.n y.query.aP.c):=(av.later H0.out.q hL).cell 10;have Pn:w3.cell? ⟨g1,11,none⟩=some (.slice y.query.group.A y.query.group.n y.query.group.c):=(av.later H0.out.q hL).cell 11;have Po:w3.cell? ⟨g1,12,none⟩=some (.slice y.query.having.A y.query.having.n y.query.having.c):=(av.later H0.out.q hL).cell 12;have Pp:w3.cell? ⟨g1,13,none⟩=some (.slice y.query.order.A y.query.order.n y.query.order.c):=(av.later H0.out.q hL).cell 13;have Pq:w3.cell? ⟨g1,14,none⟩=some (.slice y.query.aQ.A y.query.aQ.n y.query.aQ.c):=(av.later H0.out.q hL).cell 14;exact ZfT):p:=h
theorem Zaq(h:p:=by exact Zcw):p:=h
theorem Zar(h:p:=by go_wp2_with fail;refine(MS.out _ _ jo.out HH.out).mono ?_;rintro e w5 ⟨rfl,h5⟩;go_wp2_with fail;go_meet;exact h5):p:=h
theorem Zas(h:p:=by rintro e w1 ⟨rfl,b1⟩;have H1:=hid (HH.out.later hsz b1);rw[vx];clear HH b1 x0 x1 x2 x3 x4 x5 x6 f0 f1;obtain⟨x0,x1,x2,x3,x4,x5,x6⟩:=H1.out.x.cells;dsimp only at x0 x1 x2 x3 x4 x5 x6;obtain⟨f0,f1⟩:=H1.out.ju;dsimp only at f0 f1;obtain⟨⟨sb,c2⟩,fz,hs2,wy⟩:=H1.out.st.vw;have rk:=hid hs2;have eC:=hid (H1.out.did.trans wy);exact Zgd):p:=h
theorem zcU.KaD(h:p:=by have:=qY.out.st.more (show n+3+1+1+1+1<=n+(13*Tr.aM s.exprs+4*s.aY.length+3*s.rows.length+80) by omega);have Ik:=VB.out;rw[HA.out.aN] at Ik;rw[Ik];rw[HA.out.name,wz.out,HA.out.dH] at this;exact ZfM):p:=h
theorem Zat(h:p:=by
 go_upto_region 45 with fail;clear x0 p0;have bN:w0.heap.size<=w.heap.size:=by rw[iW.out];exact dy.out
 obtain⟨vb,Ik⟩:∃vb,nB y.aN=vb:=⟨_,rfl⟩;have VB:=hid Ik;clear Ik;refine cE 5 (nv b g1 y vb) (Bc _ _ _ _) Tab Tab Tab ?_ ?_
 ·simp only[take_succ_cons,take_zero];refine⟨?_,?_,?_,?_,?_,trivial⟩
  ·intro ρ w3 hc hL hr;have h0:_=_:=hr.1;have k0:=(av.later H6.out.p hL).cell 0;exact ZdM
  ·intro ρ w3 hc hL hr;exact Zcw
  ·intro ρ w3 hc hL hr;have h0:_=_:=hr.1;have Fj:w3.cell? ⟨g1,22,none⟩=some (.int .u8 y.aN.k):=(av.later H6.out.q hL).cell 22;have Fk:w3.cell? ⟨g1,23,none⟩=some (.int .i64 y.aN.n):=(av.later H6.out.q hL).cell 23;have Fl:w3.cell? ⟨g1,24,none⟩=some (.string y.aN.s):=(av.later H6.out.q hL).cell 24;exact Zc1
  ·intro ρ w3 hc hL hr;exact ae (w':=w3) (gq rfl (by simpa using xr)) ⟨af.refl _,rfl⟩
  ·intro ρ w3 hc hL hr;have h0:_=_:=hr.1;have h1:_=_:=hr.2.1;have e:=VB.out;unfold nB at e;by_cases q1:y.aN.k=0
   ·by_cases q2:y.aN.n=0
    ·by_cases q3:y.aN.s.toList=[]
     ·have e2:vb=true:=by rw[<- e];simp[q1,q2,q3]
      exact Zfr
     ·have e2:vb=false:=by rw[<- e];simp[q1,q2,q3]
      exact Zfr
    ·have e2:vb=false:=by rw[<- e];simp[q1,q2]
     exact ae (v:=.bool vb) (w':=w3) (by rw[e2];simp[go_sem,h0,h1,q1,q2];done) ⟨af.refl _,rfl⟩
   ·have e2:vb=false:=by rw[<- e];simp[q1]
    exact ae (v:=.bool vb) (w':=w3) TaU ⟨af.refl _,rfl⟩
 intro W5 hL;simp only[Uab];rintro _ rfl a1 - a2 - a3 - _ rfl;simp only[cN,Act.put,Uac];have H7:=hid (H6.out.later bN hL);clear hL H6 bN;go_wp2_with fail;refine(aX vb W5 H7.out.st).mono ?_;rintro e w8 ⟨rfl,h2,d2⟩;have H8:=hid (H7.out.next hg0 hg1 h2 d2);clear h2 d2 H7;open zcU in exact ZaZ):p:=h
theorem Zau(h:p:=by rintro e w2 ⟨rfl,h2,d2⟩;have H2:=hid (H1.out.next hg0 hg1 h2 d2);clear h2 d2 H1 TT x0;have x7:w2.cell? ⟨g1,7,none⟩=some (.slice y.query.items.A y.query.items.n y.query.items.c):=H2.out.q.cell 7;have x8:w2.cell? ⟨g1,8,none⟩=some (.string y.query.aN):=H2.out.q.cell 8;have x9:w2.cell? ⟨g1,9,none⟩=some (.bool y.query.only):=H2.out.q.cell 9;have Wi:w2.cell? ⟨g1,10,none⟩=some (.slice y.query.aP.A y.query.aP.n y.query.aP.c):=H2.out.q.cell 10;have Wj:w2.cell? ⟨g1,11,none⟩=some (.slice y.query.group.A y.query.group.n y.query.group.c):=H2.out.q.cell 11;have Wk:w2.cell? ⟨g1,12,none⟩=some (.slice y.query.having.A y.query.having.n y.query.having.c):=H2.out.q.cell 12;have Wl:w2.cell? ⟨g1,13,none⟩=some (.slice y.query.order.A y.query.order.n y.query.order.c):=H2.out.q.cell 13;have Wm:w2.cell? ⟨g1,14,none⟩=some (.slice y.query.aQ.A y.query.aQ.n y.query.aQ.c):=H2.out.q.cell 14;have p0:w2.cell? ⟨g0,0,none⟩=some (.pointer (some ⟨b,0,none⟩)):=H2.out.p.cell 0;go_wp2_with fail;refine(qD hE hS HA.out.query HF.out.query hm w2 H2.out.st H2.out.hw (by unfold Qu.cost;omega)).mono ?_;rintro e w3 ⟨rfl,h2,d2⟩;unfold Qu.cost at h2;have H3:=hid (H2.out.next hg0 hg1 h2 d2);clear h2 d2 H2 p0 x7 x8 x9 Wi Wj Wk Wl Wm;exact Kal):p:=h
theorem Zav(h:p:=by
 go_upto_region 0 with fail;go_cut [16] (λ v wx=>eu w0.heap.size b (aq s (bc ok)) n wx/\ck w0.heap.size b w wx)
 case first=>
  rcases iL with ⟨t1,t2,hb⟩|⟨t1,t2,t3,t4,hb⟩|⟨t1,t2,t3,t4,hb⟩
  all_goals
   have HB:=hid hb;clear iI hb;go_wp2_with fail;refine(aX _ w HH.out).mono ?_;rintro e w1 ⟨rfl,h1,d1⟩;clear t1 t2;try clear t3 t4
   go_wp2_with fail;go_meet;exact⟨by rw[HB.out];exact h1,d1⟩
 case rest=>
 obtain⟨h1,d1⟩:=hcut;have H1:=hid h1;have D1:=hid d1;clear h1 d1 iL iI HH;go_wp2_with fail;exact Kam):p:=h
theorem Zaw(h:p:=by exact ZdM):p:=h
theorem zed.Ka6(h:p:=by exact Kan):p:=h
theorem Zax(h:p:=by have hsz:=Nat.le_trans hw.size (Nat.le_refl ws.heap.size);have HH:=hid h;clear h;have en:True:=trivial;open zed in exact ZbY):p:=h
theorem Zay(h:p:=by rintro e w4 ⟨rfl,h2,d2⟩;have H4:=hid (H3.out.next hg0 hg1 h2 d2);clear h2 d2 H3;have x1:w4.cell? ⟨g1,1,none⟩=some (.string y.name):=H4.out.q.cell 1;have p0:w4.cell? ⟨g0,0,none⟩=some (.pointer (some ⟨b,0,none⟩)):=H4.out.p.cell 0;go_wp2_with fail;refine(ee hE y.name w4 H4.out.st H4.out.hw Tan Taa).mono ?_;rintro e w5 ⟨rfl,h2,d2⟩;have H5:=hid (H4.out.next hg0 hg1 h2 d2);clear h2 d2 H4 p0 x1;have p0:w5.cell? ⟨g0,0,none⟩=some (.pointer (some ⟨b,0,none⟩)):=H5.out.p.cell 0;go_wp2_with fail;refine(cn ⟨#[44,32]⟩ w5 H5.out.st Tac Taa).mono ?_;rintro e w6 ⟨rfl,h2,d2⟩;have H6:=hid (H5.out.next hg0 hg1 h2 d2);clear h2 d2 H5 p0;have x0:w6.cell? ⟨g1,0,none⟩=some (.int .u8 y.kind):=H6.out.q.cell 0;have p0:w6.cell? ⟨g0,0,none⟩=some (.pointer (some ⟨b,0,none⟩)):=H6.out.p.cell 0;exact Kao):p:=h
theorem Zaz(h:p:=by
 obtain⟨z,hz⟩:∃z,ys[i]?=some z:=⟨_,getElem?_eq_getElem (by rw[HK.out];exact hlt)⟩;obtain⟨o,hoi⟩:∃o,os[i]?=some o:=⟨_,getElem?_eq_getElem (by rw[HP.out];exact hlt)⟩;have HM:=hid (RV.out i hlt);have HL:=hid (show n+m i+1+ci i<=50000000 by have:=HN.out;have:=HM.out;have:=RX.out (i+1) hlt;omega);have dx:=hid (HO.out i z o hz hoi);have hwr:Below w0.heap.size w0 wr:=hw.trans HD.out.below;rcases HA.out with h0 |⟨q,off,mr,lH,hc⟩
 ·rw[h0] at hz;cases hz
 exact Kap):p:=h
theorem ZaA(h:p:=by
 simp only[take_succ_cons,take_zero];refine⟨Zbp,ZaU,Zbz,Zap,ZbZ,Zbf,Zbz,?_,?_,?_,?_,trivial⟩
 ·intro ρ w3 hc hL hr;intro hg;have hg:ρ (.tmp 137)=.bool true:=hg;refine⟨λ _=>?_,λ hn=>absurd hg hn⟩;exact Zaq
 ·intro ρ w3 hc hL hr;intro hg;have hg:ρ (.tmp 137)=.bool true:=hg;refine⟨λ _=>?_,λ hn=>absurd hg hn⟩;have h0:_=_:=hr.1;have k1:w3.cell? ⟨g1,1,none⟩=some (.string y.name):=(av.later H0.out.q hL).cell 1;exact ae (w':=w3) (by simp[go_sem,h0,k1];done) ⟨af.refl _,rfl⟩
 ·intro ρ w3 hc hL hr;intro hg;have hg:ρ (.tmp 137)=.bool true:=hg;refine⟨λ _=>?_,λ hn=>absurd hg hn⟩;have h0:_=_:=hr.1;exact ae (w':=w3) (by simp[go_sem,hc.const,h0,NM.out];done) ⟨af.refl _,rfl⟩
 ·exact ZbO):p:=h
theorem ZaB(h:p:=by
 have p0:w2.cell? ⟨g0,0,none⟩=some (.pointer (some ⟨b,0,none⟩)):=H2.out.p.cell 0;have X0:=hid x0;go_upto_region 39 with fail
 refine wp_region_lit ?_;go_wp2_with (first
  |(refine eV rfl 92 rfl ?_
    have hM:=iy.new w2
    have jn:Below w2.heap.size w2 (w2.alloc (.map #[] 0)):=aa w2 (.map #[] 0)
    obtain⟨gm,ox⟩:∃gm,gm=w2.heap.size:=⟨_,rfl⟩
    rw[<- ox] at hM ⊢
    have hle:w2.heap.size<=gm:=Nat.le_of_eq ox.symm
    have hx0:=(jn.cell (p:=⟨g1,0,none⟩) (bY x0)).trans x0
    clear ox x0 p0
    generalize w2.alloc _=wm at*)
  |(refine fM Tryz.underlying92 Tryz.underlying5 rfl _ _ _ rfl gm rfl _ rfl _ rfl hM TaQ ?_
    clear hM hx0
    intro wm hM hgr
    replace jn:=jn.trans (aJ hgr jn.size hle)
    have hx0:=(jn.cell (p:=⟨g1,0,none⟩) (bY X0.out)).trans X0.out
    clear hgr))
 replace hM:iy _ gm yj:=hM;exact Kaq):p:=h
theorem ZaC(h:p:=by refine⟨λ _=>?_,λ hn=>absurd hg hn⟩;exact Zaf):p:=h
theorem ZaD(h:p:=by
 have hall:=dG h0
 have ha:a=fill (λ d=>a.eval (.tmp d)) l a0:=by
  have h1:a.tmps=(fill (λ d=>a.eval (.tmp d)) l a0).tmps:=by
   apply Array.ext_getElem?;intro t;by_cases ht:t < a0.tmps.size
   ·rw[rA _ _ _ _ ht];split
    ·simp[Act.eval,I.size,ht]
    ·rename_i hno;refine I.old t ?_;intro i o hi hd _;exact hno ⟨o,mem_of_getElem? hi,hd⟩
   ·rw[Array.getElem?_eq_none (by rw[I.size];omega),Array.getElem?_eq_none (by rw[oY];omega)]
  have h2:a.defers=(fill (λ d=>a.eval (.tmp d)) l a0).defers:=by rw[lT,I.defers]
  exact yM h1 h2
 exact Kar):p:=h
theorem ZaE(h:p:=by
 clear h2 d2 nE fw t5 t6;go_wp2_with fail;refine(dx.out w2 _ _ D2.out H2.out Ta0).mono ?_;rintro e w3 ⟨rfl,h3,d3⟩;have H3:=hid (h3.more (show n+m i+1+ci i<=n+m (i+1) by have:=HM.out;omega));have D3:=hid (D2.out.trans d3);clear h3 d3 D2 H2 dx;go_wp2_with fail;go_roundw;case rel=>refine⟨i+1,by omega,by go_num,?_,D3.out⟩;rw[HT.out];have:=H3.out;exact Zed
 case measure=>exact Zcj):p:=h
theorem ZaF(h:p:=by
 go_wp2_with fail;refine(dx.out W1 _ _ fw.out nE.out Ta0).mono ?_;rintro e w2 ⟨rfl,h2,d2⟩;have H2:=hid (h2.more (show n+m 0+ci 0<=n+m (0+1) by have:=HM.out;omega));have D2:=hid (fw.out.trans d2);clear h2 d2 nE fw dx;go_wp2_with fail;go_roundw;case rel=>refine⟨1,by omega,by go_num,?_,D2.out⟩;rw[HT.out];have:=H2.out;rwa [take_zero,show dE []=some [] from rfl,cX] at this
 case measure=>exact Zcj):p:=h
theorem ZaG(h:p:=by
 go_wp2_with fail;go_loopw [8] (λ u wr=>∃i:Nat,i<=k/\u=.int .i64 i/\eu B b (aq s (some (qh (ks.take i)))) (n+i) wr/\ck B b w wr) (λ u _=>k - (intOf u).toNat);case atStart=>exact⟨0,Nat.zero_le _,rfl,by simpa [qh,cX] using HH.out,.refl _⟩
 case round=>
  obtain⟨i,hi,rfl,hs,hd⟩:=hrel;have HS:=hid hs;have HD:=hid hd;clear hs hd;by_cases hlt:i < k
  ·obtain⟨x,hx⟩:∃x,ks[i]?=some x:=⟨_,getElem?_eq_getElem (by rw[HK.out];exact hlt)⟩;have hc:=CW (HD.out.blk HG.out hgb Tac) hx;have hxs:=HL.out x (mem_of_getElem? hx);have HT:=hid (CV hx);obtain⟨bad,l,h1,h2,h3⟩:=HS.out;have hw:=GG B b bad l x wr h1 Taa HS.out.size;have H3:=hid h3;clear h1 h3 hx;go_wp2_with fail;refine hw.mono ?_;rintro e w1 ⟨rfl,h4,b4,k4⟩;have HR:=hid (show eu B b (aq s (some (qh (ks.take (i+1))))) (n+(i+1)) w1 from⟨bad,_,.inr h4,by rw[length_append,xK];omega,by
    rw[HT.out,<- CT,<- aB,H3.out]
    cases bad <;> rfl⟩)
   have HE:=hid (HD.out.trans ⟨b4,k4⟩);clear h4 b4 k4 hw HS HD H3 hc;go_wp2_with fail;go_roundw;case rel=>exact⟨i+1,by omega,by go_num,HR.out,HE.out⟩
   case measure=>exact Zcj
  ·obtain rfl:i=k:=by omega
   rw[<- HK.out,take_length,HK.out] at HS;go_wp2_with fail;go_end0;exact⟨rfl,HS.out,HD.out⟩):p:=h
theorem ZaH(h:p:=by
 have Ci:∀(fn:Fn) (first cap:Array Value) (w:World),(Instr.makeFunc fn first cap).run Tryz.prog w=.ok (.func fn first cap) w:=λ _ _ _ _=>rfl
 exact Kas):p:=h
theorem zhf.Kcl(h:p:=by
 unfold uT at*;go_enter Tryz.func163,Tryz.ntmps163;go_wp2_with (first
  |(go_at_call 77;refine hm.mono ?_;rintro e w1 ⟨rfl,d1⟩)
  |(go_at_call 163;refine(H ρ w1 d1.at_).mono ?_;rintro e w2 ⟨y,rfl,ht,d2⟩;unfold dA aL;have D:=(gP.aA h hb).trans (d1.trans d2);have jw:=d2.blk (d1.blk HQ.out Taa) Taa;have hqs:=d2.size;have aeo:=d1.size;have lL:=jw.alloc (.cells #[.int .u8 y.op,.int .u8 y.v.k,.int .i64 y.v.n,.string y.v.s,.string y.name,.int .i64 y.width,.slice y.A y.n y.c] 36);obtain⟨z0,z1,z2,z3,z4,z5,z6⟩:=gI lL;obtain⟨y0,y1,y2,y3,y4,y5,y6⟩:=cf lL;obtain⟨x0,x1,x2,x3,x4,x5,x6⟩:=dV (av.new w2 36 (aL y).toArray);unfold aL at x0 x1 x2 x3 x4 x5 x6))
 have HP:=gJ lL y;have HR:=dV HP;unfold fZ at HR;obtain⟨r0,r1,r2,r3,r4,r5,r6⟩:=HR;refine bodyPost_ret (v:=dA y) Zb8 rfl ?_
 ·exact Nd.put aZ (Nat.le_refl _) (D.later (aa w2 _)) ((ht.later (aa w2 _)).more Taa)):p:=h
theorem ZaI(h:p:=by open zhf in exact ZfY):p:=h
theorem ZaJ(h:p:=by
 obtain⟨hk2,hp⟩:=hb2;rw[hk2] at hn
 obtain⟨z0,rfl⟩:∃z0,ys=[z0]:=by
  match ys,hn with
  | [z0],_=>exact⟨z0,rfl⟩
 obtain⟨a0,rfl⟩:∃a0,l=[a0]:=by
  match l,hl with
  | [a0],_=>exact⟨a0,rfl⟩
 obtain⟨c0,rfl⟩:∃c0,cs=[c0]:=by
  match cs,hc with
  | [c0],_=>exact⟨c0,rfl⟩
 have x0:=hx 0 z0 a0 rfl rfl;rcases hA with h0 |⟨q,off,mr,lH,hcell⟩
 ·cases h0
 have A0:=uo hS lH hcell (i:=0) (z:=z0) rfl;have i0:=nd x0.2;rw[<- x0.1] at i0;exact Kat):p:=h
theorem zdO.KaW(h:p:=by go_wp2_with fail;exact Kau):p:=h
theorem zev.Kba(h:p:=by have HH:=hid h;clear h;subst hk hA;have I0:=hid i0;have A0:=hid a0;clear i0 a0;open zdO in exact Zby):p:=h
theorem ZaK(h:p:=by open zev in exact Zb5):p:=h
theorem ZaL(h:p:=by generalize w1.alloc _=W1 at*;generalize w1.heap.size=tb at*;obtain⟨u0,u1,u2,u3,v0,v1,v2,v3⟩:=aI DL.out;have hm:=bk ρ W1 l lg dp fw.out.at_ ⟨#[116,114,117,101]⟩;rw[show(⟨#[116,114,117,101]⟩:ByteArray).data.toList=dZ from rfl,dM,bS dM] at hm;go_wp2_with fail;refine hm.mono ?_;clear hm;rintro e w2 ⟨rfl,d⟩;have eC:=hid (fw.out.trans d);have jw:=hid (d.blk oL.out Taa);clear d fw oL DL u0 u1 u2 u3 v0 v1 v2 v3;generalize hW2:w2=W2 at*;clear hW2;have hm:=bk ρ W2 l lg dp eC.out.at_ ⟨#[102,97,108,115,101]⟩;rw[show(⟨#[102,97,108,115,101]⟩:ByteArray).data.toList=dI from rfl,ej,bS ej] at hm;go_wp2_with fail;refine hm.mono ?_;clear hm;rintro e w3 ⟨rfl,d⟩;have jv:=hid (eC.out.trans d);have lL:=hid (d.blk jw.out Taa);clear d eC jw;generalize hW3:w3=W3 at*;clear hW3;have hm:=bk ρ W3 l lg dp jv.out.at_ ⟨#[110,117,108,108]⟩;rw[show(⟨#[110,117,108,108]⟩:ByteArray).data.toList=bE from rfl,iZ,bS iZ] at hm;go_wp2_with fail;refine hm.mono ?_;clear hm;rintro e w4 ⟨rfl,d⟩;have oF:=hid (jv.out.trans d);have Ct:=hid (d.blk lL.out Taa);clear d jv lL;generalize Fy:w4=W4 at*;clear Fy;have hm:=bk ρ W4 l lg dp oF.out.at_ ⟨#[40]⟩;exact Kav):p:=h
theorem ZaM(h:p:=by
 go_wp2_with fail;have Ek:=Em.out;refine bodyPost_ret (v:=.tuple #[.agg #[.int .u8 0,.string ⟨#[]⟩,.int .i64 0,.int .i64 0],.int .i64 30]) ?_ rfl ?_
 ·simp[results,Tryz.results106,go_sem,z0,z1,z2,z3]
 ·rw[Ek];exact⟨rfl,(((BN.out.far (Nat.le_refl _) hne 0 _).far (Nat.le_refl _) hne 1 _ |>.far (Nat.le_refl _) hne 2 _ |>.far (Nat.le_refl _) hne 3 _))⟩):p:=h
theorem ZaN(h:p:=by rw[c4] at HV;clear c4;go_wp2_with fail;refine HV.out.mono ?_;rintro e w4 ⟨rfl,b4⟩;have H4:=hid (HH.out.later hsz b4);clear x0 x1 x2 x3 x4 x5 x6;obtain⟨x0,x1,x2,x3,x4,x5,x6⟩:=H4.out.x.cells;dsimp only at x0 x1 x2 x3 x4 x5 x6;clear b4;go_wp2_with fail;refine(MS.out _ _ jo.out H4.out).mono ?_;rintro e w5 ⟨rfl,h5⟩;go_wp2_with fail;go_meet;exact h5):p:=h
theorem zhg.Kcl(h:p:=by exact Kaw):p:=h
theorem ZaO(h:p:=by open zhg in exact ZfY):p:=h
theorem ZaP(h:p:=by
 simp only[AH,Bool.and_eq_true,beq_iff_eq,Option.isNone_iff_eq_none] at rf;obtain⟨⟨⟨⟨⟨⟨⟨⟨⟨⟨⟨⟨⟨⟨⟨⟨⟨⟨⟨⟨⟨⟨⟨⟨⟨⟨⟨⟨t0,s0⟩,t1⟩,s1⟩,t2⟩,s2⟩,t3⟩,s3⟩,t4⟩,s4⟩,t5⟩,s5⟩,s5'⟩,t6⟩,s6⟩,e0⟩,e1⟩,e2⟩,e3⟩,e4⟩,e5⟩,e6⟩,g0⟩,g1⟩,g2⟩,g3⟩,g4⟩,g5⟩,g6⟩:=rf;have BO:qb < w0.heap.size:=(by rcases Nat.lt_or_ge qb w0.heap.size with h | h;exact h;exact absurd hcell (by unfold World.cell?;rw[Array.getElem?_eq_none h];simp))
 have vO:∀ {y w1 eD w},af w0 w1->Post y w1 eD->af eD w->w.cell? ⟨qb,k,none⟩=some lv/\cz f e size w base lv l/\w0.heap.size<=w.heap.size:=by
  intro y w1 eD w ha hb hc;have hg:=Q6 _ _ _ hb;have z1:qb < w1.heap.size:=Nat.lt_of_lt_of_le BO ha.size;have z2:qb < eD.heap.size:=Nat.lt_of_lt_of_le z1 hg.size;refine⟨?_,?_,Nat.le_trans ha.size (Nat.le_trans hg.size hc.size)⟩
  ·rw[hc.cell (p:=⟨qb,k,none⟩) z2,qA hg (p:=⟨qb,k,none⟩) z1 (λ e=>hqg Ta3),ha.cell (p:=⟨qb,k,none⟩) BO];exact hcell
  ·exact((hown.later ha).grown hg Co).later hc
 exact Kax):p:=h
theorem zh8.KcK(h:p:=by
 obtain⟨WD,XO⟩:∃WD:ByteArray,WD=(⟨#[68,82,79,80,32]⟩:ByteArray)++(⟨X.toArray⟩:ByteArray):=⟨_,rfl⟩;have Tt:=hid XO
 have hWl:WD.size<=1000:=by
  rw[XO,ByteArray.size_append];have e1:(⟨X.toArray⟩:ByteArray).size=X.length:=by show X.toArray.size=_;simp
  rw[e1];show 5+X.length<=1000;omega
 go_wp2_with fail;rw[<- XO];clear XO;refine(lu hE WD y.name w3 H3.out.st H3.out.hw hWl Tan Taa).mono ?_;rintro e w4 ⟨rfl,h2,d2⟩;have H4:=hid (H3.out.next hg0 hg1 h2 d2);clear h2 d2 H3 p0 x1;go_wp2_with fail;go_end0;refine⟨rfl,?_,H4.out.did⟩;have:=H4.out.st.more (show n+3<=n+(13*Tr.aM s.exprs+4*s.aY.length+3*s.rows.length+80) by omega);have hx:=HX.out;rw[HA.out.what] at hx;rw[<- hx,<- wz.out,HA.out.name.symm];rw[Tt.out] at this;exact Kay):p:=h
theorem ZaQ(h:p:=by rintro e w3 ⟨rfl,h2,d2⟩;have H3:=hid (H2.out.next hg0 hg1 h2 d2);clear h2 d2 H2 TT;open zh8 in exact ZgY):p:=h
theorem zhx.Kcs(h:p:=by exact Kaz):p:=h
theorem ZaR(h:p:=by have aZ:=h.mE;have b2:=af.then (aa w (.cells #[ρ.ptr] 77)) (aa _ (gi {}));have hP:=(av.new w 77 #[ρ.ptr]).alloc (gi {});have hR:=av.new (w.alloc (.cells #[ρ.ptr] 77)) 34 cF;rw[World.size_alloc] at hR;have HS:=hid (show yL ρ w (w.heap.size+1) [w.heap.size] lg dp ((w.alloc (.cells #[ρ.ptr] 77)).alloc (gi {})) l from⟨aU.aA h b2,hR,Nat.le_succ _,λ p hp=>by simp at hp;subst hp;exact⟨Nat.le_refl _,by omega,hP⟩⟩);open zhx in exact Zga):p:=h
theorem ZaS(h:p:=by refine wpList_nil ?_;simp only[Act.put,Uac];have qU:=hid (kI.out.row cs);clear tU kI jq;exact KaA):p:=h
theorem ZaT(h:p:=by
 go_wp2_with fail;refine(rI _ _ acc _ wG.out.buf hsz).mono ?_;rintro e w1 ⟨rfl,b1⟩;have hat:=wG.out.at_.under b1 Taa Taa;have BM:=hid (wG.out.res.below b1 Taa);have iO:=hid hat;go_wp2_with fail;refine(mY s g at_ (k+1) 3 ⟨acc.toArray⟩ 0 0 _ iO.out.1).mono ?_;rintro e w2 ⟨rfl,oK⟩;obtain⟨z0,z1,z2,z3,y0,y1,y2,y3⟩:=aI (oK.other BM.out hne);go_wp2_with fail;refine bodyPost_ret (v:=.tuple #[.agg #[.int .u8 3,.string ⟨acc.toArray⟩,.int .i64 0,.int .i64 at_],.int .i64 0]) ?_ rfl ?_
 ·simp[results,Tryz.results108,go_sem,z0,z1,z2,z3]
 ·rw[kh.out,HM.out,drop_at HB.out,HQ.out,rH JN.out];refine⟨rfl,?_⟩;show At s g w (s.size - _) _;have e:s.size - (s.data.toList.drop (k+1)).length=k+1:=by rw[length_drop,HLEN.out];omega
  rw[e];exact(((iO.out.trans oK).far (Nat.le_refl _) hne 0 _).far (Nat.le_refl _) hne 1 _ |>.far (Nat.le_refl _) hne 2 _ |>.far (Nat.le_refl _) hne 3 _)):p:=h
theorem ZaU(h:p:=by intro ρ w3 hc hL hr;have h0:_=_:=hr.1;exact ae (w':=w3) (ji rfl h0 (av.later H0.out.q hL) Tryz.underlying34 (kC y)) ⟨af.refl _,rfl⟩):p:=h
theorem ZaV(h:p:=by
 obtain rfl:i=k:=by omega
 have e:os.take i=os:=take_of_length_le (Nat.le_of_eq HP.out);rw[e] at HS;go_wp2_with fail;go_end0;refine⟨rfl,?_,HD.out⟩;rw[RY.out,<- aB];exact HS.out):p:=h
theorem ZaW(h:p:=by
 go_wp2
 all_goals
  go_ret;refine⟨?_,rfl⟩;first | rfl |(refine cP ?_;rw[Bool.eq_iff_iff];simp;omega)|(refine cP ?_;rw[Bool.eq_iff_iff];simp;done)):p:=h
theorem ZaX(h:p:=by
 obtain⟨t,r,pl,oa,hl,hlt,hsm,hpl,zo,xY,uA,hp⟩:=h.lp;have aZ:=h.mE;have hb0:=aa w (.cells dz 36);have eB:=gL ρ _ l lg dp (h.later hb0);rw[<- oa] at eB;have HQ:=hid (av.new w 36 dz);have HD:=hid (aU.aA h hb0);have HL:=hid hl;have rp:=h.left;have tS:r.length+1<=ρ.n:=by have:=rp.2;rw[hl] at this;simpa using this
 have PZ:=hid (show(l.length:Int)=(r.length:Int)+1 by rw[hl];rfl);have hsz:(w.alloc (.cells dz 36)).heap.size=w.heap.size+1:=by simp
 have hk:=hk t.w r hl;exact KaB):p:=h
theorem ZaY(h:p:=by unfold St.cost at hn ⊢;have Gk:=fG s;have yh:=hf.nodes;have hlt:=hst.lt;have hsz:=hst.size;obtain⟨tt,nN⟩:∃tt,tt=dv s false false false false false false false false true:=⟨_,rfl⟩;have TT:=hid (λ W=>fF h hf hm false false false false false false false false true W);rw[<- nN] at TT;unfold mC at TT;have wz:=hid nN;exact KaC):p:=h
theorem ZaZ(h:p:=by have U7:w8.cell? ⟨g1,25,none⟩=some (.int .u8 y.dH.k):=H8.out.q.cell 25;have U8:w8.cell? ⟨g1,26,none⟩=some (.int .i64 y.dH.n):=H8.out.q.cell 26;have U9:w8.cell? ⟨g1,27,none⟩=some (.string y.dH.s):=H8.out.q.cell 27;have p0:w8.cell? ⟨g0,0,none⟩=some (.pointer (some ⟨b,0,none⟩)):=H8.out.p.cell 0;go_wp2_with fail;refine(sj hE y.dH (by rw[HA.out.dH];exact HF.out.dH.1) (by rw[HA.out.dH];exact HF.out.dH.2) w8 H8.out.st H8.out.hw Taa).mono ?_;rintro e w9 ⟨rfl,h2,d2⟩;have H9:=hid (H8.out.next hg0 hg1 h2 d2);clear h2 d2 H8 p0 U7 U8 U9;have p0:w9.cell? ⟨g0,0,none⟩=some (.pointer (some ⟨b,0,none⟩)):=H9.out.p.cell 0;go_wp2_with fail;refine(cn ⟨#[41]⟩ w9 H9.out.st Tac Taa).mono ?_;rintro e uF ⟨rfl,h2,d2⟩;have qY:=hid (H9.out.next hg0 hg1 h2 d2);clear h2 d2 H9 p0;go_wp2_with fail;go_end0;refine⟨rfl,?_,qY.out.did⟩;exact KaD):p:=h
theorem zik.KcQ(h:p:=by
 clear hm;intro e Ij hp;rcases hp.cases with ⟨_,Nx,v9,ay,rfl,rfl,d⟩|⟨m,au,rfl,hg⟩;case inr=>have HF:=hid (show cZ l=.error m from HE.out.trans (ak (show must cd YP=.error m by rw[<- ax];exact au)));have HG:=hid HB.out.sa.did.grown;clear hp au;go_wp2_with fail;exact aj rfl (GP.err HF.out ⟨rfl,ai HG.out hg⟩)
 exact KaE):p:=h
theorem Za0(h:p:=by
 clear hX d HA;have HA:=eZ;clear eZ;unfold bI jE eU fg at hc;try unfold eU
 go_upto_region 14 with fail;clear hc hf;generalize uF.setCell _ _=W12 at*;have hb:=aa W12 (.cells (aK [cd]) 9);have HB:=hid (HA.out.later hb);have jR:=HA.out.blk.lt;have hm:=aR ρ _ YP _ _ HB.out.sa.did.at_ [cd] W12.heap.size 1 rfl (av.new W12 _ _) Taa Taa;open zik in exact Zhd):p:=h
theorem Za1(h:p:=by
 clear QP;go_wp2_with fail;refine(mG jK s at_ k g _ BN.out.1 hle hs).mono ?_;rintro e w' ⟨rfl,rfl⟩;rw[xJ.out];go_wp2_with fail;refine(mY s g at_ k 2 ⟨#[]⟩ (gh q) 0 _ BN.out.1).mono ?_;rintro e w2 ⟨rfl,hat⟩;clear z0 z1 z2 z3 y0 y1 y2 y3;obtain⟨z0,z1,z2,z3,y0,y1,y2,y3⟩:=aI (hat.other BM.out hne);go_wp2_with fail;refine bodyPost_ret (v:=.tuple #[.agg #[.int .u8 2,.string ⟨#[]⟩,.int .i64 (gh q),.int .i64 at_],.int .i64 0]) ?_ rfl ?_
 ·simp[results,Tryz.results106,go_sem,z0,z1,z2,z3]
 ·rw[Em.out];refine⟨rfl,?_⟩;show At s g w (s.size - _) _;rw[HR.out];exact(((BN.out.trans hat).far (Nat.le_refl _) hne 0 _).far (Nat.le_refl _) hne 1 _ |>.far (Nat.le_refl _) hne 2 _ |>.far (Nat.le_refl _) hne 3 _)):p:=h
theorem Za2(h:p:=by intro W hW;obtain⟨ZB,yv,yf,se,yA,yn,yc⟩:=y;have hn:yn=ys.length:=hn;subst hn;have HD:=hid hD;have HM:=hid hm;have ZC:=hid hd;have HA:=hid hA;clear hD hm hd hA;unfold dA aL;have HX:=av.new W 36 #[.int .u8 ZB,.int .u8 yv.k,.int .i64 yv.n,.string yv.s,.string yf,.int .i64 se,.slice yA ys.length yc];have hb:=aa W (.cells #[.int .u8 ZB,.int .u8 yv.k,.int .i64 yv.n,.string yv.s,.string yf,.int .i64 se,.slice yA ys.length yc] 36);exact KaF):p:=h
theorem Za3(h:p:=by
 refine(Da (s.extract at_ k) _ (by rw[ByteArray.size_extract];omega)).mono ?_;rintro e w1 ⟨rfl,b1⟩;have HE:=hid (show(s.extract at_ k).data.toList=(s.data.toList.drop at_).takeWhile cj by rw[<- xJ.out];exact jL cj s at_);obtain⟨z0,z1,z2,z3,y0,y1,y2,y3⟩:=aI (HZ.out.later b1);rw[HE.out];go_wp2_with fail;refine bodyPost_ret (v:=.tuple #[.agg #[.int .u8 1,.string ⟨(((s.data.toList.drop at_).takeWhile cj).map nY).toArray⟩,.int .i64 0,.int .i64 at_],.int .i64 k,.int .i64 0]) Zb2 rfl ?_
 ·rw[kh.out,xJ.out,if_pos Zn];unfold yB;simp only;rw[pk cj s Taa,xJ.out];exact⟨rfl,vI (bb.trans (b1.mono bb.size)) (Nat.le_refl _) _ _ _ _⟩):p:=h
theorem zgg.KbT(h:p:=by exact KaG):p:=h
theorem zeL.Kbf(h:p:=by obtain⟨x0,x1,x2,x3,x4,x5,x6,x7⟩:=p8 HB.out;have p0:=HP.out.cell 0;simp only[getElem?_toArray,getElem?_cons_zero] at p0;go_wp2_with fail;refine(HX.out W1 s n HS.out (hw.trans HD.out.below) Taa).mono ?_;open zgg in exact Zd9):p:=h
theorem Za4(h:p:=by open zeL in exact Zch):p:=h
theorem Za5(h:p:=by go_wp2_with fail;refine(MS.out _ jo.out).mono ?_;rintro e w5 ⟨rfl,h5,d5⟩;go_wp2_with fail;go_meet;exact⟨h5,d5⟩):p:=h
theorem Za6(h:p:=by
 clear HC;simp only at hk hv;subst hk;unfold bV at HS HT CD;unfold bV;go_upto_region 3 with fail
 change Code.wp _ _ _ _ (w1.alloc (.cells #[.int .u8 ((1:Nat):Int),.string ⟨s9.toArray⟩,.int .i64 n9,.int .i64 p9] 81));generalize hb:w1.heap.size=b at*;generalize hW:(World.alloc w1 _)=W1 at*;clear hW hb hs1 ox;have y0:W1.cell? ⟨b,0,none⟩=some (.int .u8 ((1:Nat):Int)):=(HT.out.cell 0).trans rfl;have y1:W1.cell? ⟨b,1,none⟩=some (.string ⟨s9.toArray⟩):=(HT.out.cell 1).trans rfl;go_upto_region 4 with (first
  |(refine fc Tryz.underlying122 Tryz.underlying9 rfl _ _ rfl W0.heap.size rfl (⟨s9.toArray⟩:ByteArray) rfl (l:=Bz) CD.out (z:=.nilFunc) Tryz.zeroValue121 ?_
    rw[show(⟨s9.toArray⟩:ByteArray).data.toList=s9 by simp]))
 clear CD HT;exact KaH):p:=h
theorem Za7(h:p:=by simp only[execOp,resolve,invoke,builtin,Sem.run_bind,Sem.run_pure,Result.andThen_ok,map_toArray,map_cons,map_nil,pV,mV,rq]):p:=h
theorem zf5.KbQ(h:p:=by
 obtain⟨G2,abV,e7,e8⟩:=k5 _ r0;rw[hc] at r1;injection r1 with r1;have hown:a.ownBlock=some G2:=by rw[e7];rfl
 rw[sJ] at hB;rw[sJ] at e6;have e6:cz aL 36 7 w γ.B a (ys++ [zeroE]):=e6;obtain⟨cur,UR⟩:=(e6.lt hown).2.2;obtain⟨G3,c3,ja,_,_,rv⟩:=e6.cell (f:=aL) (λ _=>rfl) (k:=acc.length) (x:=zeroE) (by rw[<- e3];simp);have hG3:G3=G2:=by rw[ja] at hown;simp[Value.ownBlock] at hown;exact hown
 subst hG3;subst e2;have hrun:=hst ρ w G3 y e8 r1.symm (λ j u hu=>rv j u (by have:(aL zeroE).toArray[j]?=some u:=hu;simpa using this)) (λ i=>av.frozen UR i);unfold wk;rw[hrun];exact KaI):p:=h
theorem Za8(h:p:=by open zf5 in exact Zd0):p:=h
theorem zeH.Kbe(h:p:=by clear h2 d2 H1 TT x0;have x1:w2.cell? ⟨g1,1,none⟩=some (.string y.name):=H2.out.q.cell 1;have p0:w2.cell? ⟨g0,0,none⟩=some (.pointer (some ⟨b,0,none⟩)):=H2.out.p.cell 0;go_wp2_with fail;exact KaJ):p:=h
theorem Za9(h:p:=by open zeH in exact Zcd):p:=h
theorem Zba(h:p:=by
 clear hk oa hpl zo hp hlt h hb0 hl rp;unfold dz at eB hsz;go_enter Tryz.func241,Tryz.ntmps241;go_wp2_with fail;refine eB.mono ?_;clear eB;rintro e w1 ⟨rfl,b1⟩;have hb1:=aa w1 (.cells (bV t) 81);have DL:=hid (av.new w1 81 (bV t));have fw:=hid ((HD.out.later b1).later hb1);have oL:=hid ((HQ.out.later b1).later hb1);have htq:w.heap.size+1<=w1.heap.size:=by have:=b1.size;omega
 clear b1 hb1 HD HQ hsz;unfold bV at*;go_upto_region 2 with fail;exact KaK):p:=h
theorem Zbb(h:p:=by
 go_enter_defers Tryz.func14,Tryz.ntmps14;go_upto_region 1 with fail;change Code.wp _ _ _ _ (((w.alloc (gi {})).alloc (.cells #[.int .i64 0] 3)).alloc (.cells #[.int .i64 0] 40));have hb3:Below w.heap.size w (((w.alloc (gi {})).alloc (.cells #[.int .i64 0] 3)).alloc (.cells #[.int .i64 0] 40)):=af.then (af.then (aa w _) (aa _ _)) (aa _ _)
 have hC:mS (((w.alloc (gi {})).alloc (.cells #[.int .i64 0] 3)).alloc (.cells #[.int .i64 0] 40)) w.heap.size cF (.int .i64 0) (.int .i64 0):=by
  refine⟨((av.new w _ _).alloc _).alloc _,?_,?_⟩
  ·have:=(av.new (w.alloc (gi {})) 3 #[.int .i64 0]).alloc (.cells #[.int .i64 0] 40);rwa [World.size_alloc] at this
  ·have:=av.new ((w.alloc (gi {})).alloc (.cells #[.int .i64 0] 3)) 40 #[.int .i64 0];rwa [World.size_alloc,World.size_alloc] at this
 generalize hW:World.alloc _ _=W0 at*;clear hW;exact KaL):p:=h
theorem zfq.Kby(h:p:=by have D2:=hid (fw.out.trans d2);have x0:=(d2.blk HX.out kG Tac).cell 0;have x1:=(d2.blk HX.out kG Tac).cell 1;exact KaM):p:=h
theorem Zbc(h:p:=by open zfq in exact Zc9):p:=h
theorem zfH.KbF(h:p:=by simp only[Nat.add_zero] at k0;clear hx hdd hcell hc;subst mr;go_wp2_with fail;exact KaN):p:=h
theorem Zbd(h:p:=by
 obtain⟨x,hx⟩:∃x,ys[i]?=some x:=⟨_,getElem?_eq_getElem hlt⟩;obtain⟨d,hdd⟩:∃d,ds[i]?=some d:=⟨_,getElem?_eq_getElem (by rw[ZC.out];exact hlt)⟩;have hDx:=HD.out i x d hx hdd;have hdm:=vP (mem_of_getElem? hdd);have ZE:=hid (xm hdd);have hwr:Below w.heap.size w wr:=hW.trans ((af.then rY.out qZ).mono hW.size);rcases HA.out with h0 |⟨b,off,mr,lH,hc⟩
 ·subst h0;simp at hlt
 have hcell:=λ j u hu=>(hwr.cell (p:=⟨b,off+i*7+j,none⟩) (hS b lH)).trans (hc i x j u hx hu)
 open zfH in exact Zdn):p:=h
theorem Zbe(h:p:=by
 clear hc hf CD;generalize wm.setCell _ _=WM at*;have hb:=aa WM (.cells (aK [fq]) 9);have HB:=hid (HA.out.later hb);have jR:=HA.out.blk.lt;have hm:=aR ρ _ l6 _ _ HB.out.sa.did.at_ [fq] WM.heap.size 1 rfl (av.new WM _ _) Taa Taa;clear hb HA;unfold aK strOf at hm HB;simp only[map_cons,map_nil] at hm HB;rw[show fq.toArray= #[97,102,116,101,114] from rfl] at hm HB;go_wp2_with fail;refine hm.mono ?_;clear hm;intro e w8 hp;rcases hp.cases with ⟨_,l9,v9,ay,rfl,rfl,d⟩|⟨m,au,rfl,hg⟩;case inr=>have HF:=hid (show cZ l=.error m from HE.out.trans (ak (show must fq l6=.error m by rw[<- ax];exact au)));have HG:=hid HB.out.sa.did.grown;clear hp au;go_wp2_with fail;exact aj rfl (GP.err HF.out ⟨rfl,ai HG.out hg⟩)
 exact KaO):p:=h
theorem Zbf(h:p:=by intro ρ w3 hc hL hr;have h0:_=_:=hr.1;have h1:_=_:=hr.2.1;have e1:=hc.func 37;refine dB (f:=37) (args:= #[.agg (bI y).toArray,.agg (bI (eA y false true false false false false false false false)).toArray]) (w':=w3) Taq ?_;exact Zb3):p:=h
theorem Zbg(h:p:=by have yr:=hid (show mS (w7.setRow q z0) q z0 (.int .i64 0) (.int .i64 0)from⟨JB.out.st.row z0,JB.out.at_.gu Taa z0,JB.out.er.gu Taa z0⟩);have K5:=hid (Wy.out.trans (aJ (cx w7 q z0) Taa (Nat.le_refl _)));have HS8:=hid (show w7.heap.size=(w7.setRow q z0).heap.size by rw[size_setRow]);have zu:=hid (St.at_.keep (ie w7 (show q < W3.heap.size by omega) z0) YH.out);generalize w7.setRow q z0=W8 at*;have e1:=yr.out.at_.cell 0;have e2:=yr.out.er.cell 0;simp only[getElem?_toArray,getElem?_cons_zero] at e1 e2;have f1:=yr.out.at_.frozen 0;have f2:=yr.out.er.frozen 0;simp only[Act.put];go_wp2_with fail;have g1:W8.grownBy (W8.setCell ⟨q+1,0,none⟩ (.int .i64 0)) (some (q+1)):=bn (az (Below.refl _ _)) 0 _;exact KaP):p:=h
theorem zh3.KcH(h:p:=by exact KaQ):p:=h
theorem zfI.KbF(h:p:=by have k7:=hcell 7 _ rfl;open zh3 in exact ZgJ):p:=h
theorem Zbh(h:p:=by
 have hcell:=λ j u hu=>(hwr.cell (p:=⟨q,off+i*8+j,none⟩) (hS q lH)).trans (hc i z j u hz hu)
 open zfI in exact Zdn):p:=h
theorem Zbi(h:p:=by simp only[Bool.and_false,Bool.false_and,Bool.true_and,Bool.and_true,Bool.and_self];go_wp2_with fail;go_ret;exact⟨rfl,HB.out⟩):p:=h
theorem Zbj(h:p:=by
 refine rC ay hz 0 zs rfl listed a w I.len ?_ hK;intro i hi;constructor
 ·intro hl;rcases Nat.lt_or_ge i l.length with h' | h'
  ·omega
  ·rw[I.tail i h'] at hl;cases hl
 ·intro hl;exact hall i Taa):p:=h
theorem Zbk(h:p:=by rintro e w2 ⟨rfl,h3,d3⟩;have H2:=hid (H1.out.next hx hf h3 d3);clear h3 d3 H1;obtain⟨x0,x1,x2,x3,x4,x5,x6⟩:=H2.out.x.cells;dsimp only at x0 x1 x2 x3 x4 x5 x6;have hw2:=hw.trans H2.out.did.below;obtain⟨k0,k1,k2,k3,k4,k5,k6⟩:=A0.out.later hw2;go_wp2_with fail;refine(I0.out w2 _ _ H2.out.st hw2 Taa).mono ?_;rintro e w3 ⟨rfl,h2,d2⟩;have H3:=hid (H2.out.next hx hf h2 d2);clear h2 d2 H2 hw2 k0 k1 k2 k3 k4 k5 k6 x0 x1 x2 x3 x4 x5 x6;go_wp2_with fail;go_end0;refine⟨rfl,?_,H3.out.did⟩;have:=H3.out.st.more (show n+1+c<=n+c+1 by omega);exact Ze6):p:=h
theorem Zbl(h:p:=by obtain⟨v,A⟩:=hs;have p0:=A.ptr;have HA:=hid A;have HD:=hid hd;have Wz:=hid (show∀G,v.ownBlock=some G->G < W.heap.size from λ G hG=>(A.ge hG).2);have WA:=A.sz;have aZ:=F.gg;have Y7:=F.q0;have hqB:=F.qB;have QM:=F.pq;have hp0:=F.p0;have hpB:=F.pB;clear Qn;exact KaR):p:=h
theorem Zbm(h:p:=by
 clear d HS pQ hcs;go_upto_region 3 with (first
  |(refine gO rfl 34 _ rfl (cs:=cs) ?hv ?_;rotate_left)
  |(refine wpList_store_row rfl 34 (.tmp 3) (.tmp 9) rfl w3.heap.size cs rfl rfl 34 cF (av.new w3 34 cF) dy.out lD.out jq.out ?_
    rw[jl]))
 case hv=>exact zy.out
 generalize hb:w3.heap.size=b at*;generalize hW:(World.alloc _ _)=WB at*;clear hW hb uG zy jq lD dy;exact KaS):p:=h
theorem Zbn(h:p:=by
 rw[<- hcs];have b1:=aa w (.cells #[.pointer (some ⟨b,0,none⟩)] 87);have b2:=aa (w.alloc (.cells #[.pointer (some ⟨b,0,none⟩)] 87)) (.cells cs 34);have b3:=af.then b1 b2;have hy:=av.new (w.alloc (.cells #[.pointer (some ⟨b,0,none⟩)] 87)) 34 cs;rw[World.size_alloc] at hy;have hP:PW w0 b s0 n w ((w.alloc (.cells #[.pointer (some ⟨b,0,none⟩)] 87)).alloc (.cells cs 34)) w.heap.size (w.heap.size+1) y:=⟨(av.new w _ _).alloc _,by rw[<- hcs];exact hy,hst.later b3,ck.aA b3 hsz,hw.trans (b3.mono hw.size)⟩;have H0:=hid hP;have dy:=hid hw.size;have hg0:w.heap.size≠b:=by omega
 have hg1:w.heap.size+1≠b:=by omega
 clear h hf hst hw b1 b2 b3 hy hP hcs;exact KaT):p:=h
theorem Zbo(h:p:=by
 intro vs w hl hG;have Tj:=AJ _ _ hG
 match vs,hl with
 | [a,s,v],_=>obtain⟨y,w1,eD,w2,ha,h2,h3,h4,h5,h6,h7,h8⟩:=hG;simp only[cN,e0,e1,e2,e3,e4,e5,e6];intro a0' p0 a1 p1 a2 p2 a3 p3 a4 p4 a5 p5 a6 p6;have z0:a0'=.pointer (some ⟨qb,k,none⟩):=p0;have z1:a1=lv:=p1;have z2:a2=ptr:=p2;have z3:some a=some a3:=p3;have z4:some s=some a4:=p4;have z5:some v=some a5:=p5;have z6:a6=.pointer (some ⟨qb,k,none⟩):=p6;injection z3 with z3;injection z4 with z4;injection z5 with z5;rw[z0,z1,z2,<- z3,<- z4,<- z5,z6,ha];exact rZ y s v w1 eD w2 w h2 h3 h4 h5 h6 h7 h8 Tj):p:=h
theorem Zbp(h:p:=by exact ZfV):p:=h
theorem Zbq(h:p:=by exact⟨0,Nat.zero_le _,rfl,by rw[take_zero];show eu _ _ (aq _ (some [])) _ _;rw[cX,m0];exact H1.out,D1.out⟩):p:=h
theorem Zbr(h:p:=by
 match l,hl with
 | [],_ | _::_::_,_=>rfl
 | [x],hl=>exact ZeA):p:=h
theorem Zbs(h:p:=by
 go_enter Tryz.func89,Tryz.ntmps89;go_wp2
 all_goals
  go_ret;refine⟨?_,by go_grown⟩;simp_all):p:=h
theorem Zbt(h:p:=by go_wp2_with fail;refine HK.out _ _ (HO.out _ _ ⟨rfl,rfl,rfl⟩ H2.out)):p:=h
theorem Zbu(h:p:=by clear HA HX hcs HE;refine wp_region_lit ?_;refine wpList_load_row rfl 34 (.tmp 3) rfl b rfl 34 cs (0,0) _ tU.out Tryz.underlying34 rfl dy.out ?_;exact KaU):p:=h
theorem Zbv(h:p:=by
 rw[h];have ix0:∀u:World,(Instr.index 188 (.agg #[.string ⟨#[70,65,76,83,69]⟩,.string ⟨#[84,82,85,69]⟩]) (.int .i64 0)).run Tryz.prog u=.ok (.string ⟨#[70,65,76,83,69]⟩) u:=λ u=>by kernel_rfl
 have ix1:∀u:World,(Instr.index 188 (.agg #[.string ⟨#[70,65,76,83,69]⟩,.string ⟨#[84,82,85,69]⟩]) (.int .i64 1)).run Tryz.prog u=.ok (.string ⟨#[84,82,85,69]⟩) u:=λ u=>by kernel_rfl
 go_enter Tryz.func168,Tryz.ntmps168;exact ZcO):p:=h
theorem Zbw(h:p:=by
 have HE:=hid (show(s.extract at_ k).data.toList=(s.data.toList.drop at_).takeWhile aH by rw[<- xJ.out];exact jL aH s at_);have hx1:0 <(s.extract at_ k).size:=by have h1:=acB.out;rw[<- HE.out] at h1;simpa only[ByteArray.size_data,Array.length_toList] using h1
 have hx2:(s.extract at_ k).size<=4294967280:=by rw[ByteArray.size_extract];omega
 have HN:=hid (xO (s.extract at_ k) W (by rw[HE.out];exact yO _) hx1 hx2);have MH:=hid (show(s.data.toList.drop at_).dropWhile aH=s.data.toList.drop k by rw[<- lU,xJ.out]);clear hx1 hx2;obtain⟨z0,z1,z2,z3,y0,y1,y2,y3⟩:=aI HZ.out;exact KaV):p:=h
theorem Zbx(h:p:=by go_wp2_with fail;go_end0;refine⟨rfl,?_,H3.out.did⟩;have:=H3.out.st.more (show n+(13*Tr.aM s.query.exprs+20)<=n+(13*Tr.aM s.exprs+4*s.aY.length+3*s.rows.length+80) by omega);rw[KR];exact Zb6):p:=h
theorem Zby(h:p:=by obtain⟨x0,x1,x2,x3,x4,x5,x6⟩:=HH.out.x.cells;dsimp only at x0 x1 x2 x3 x4 x5 x6;generalize hQ:bodyPost Tryz.prog Tryz.f60 _=Q;simp only[qX,iz,Tryz.f60,Option.getD_some];subst hQ;exact KaW):p:=h
theorem Zbz(h:p:=by exact ZeK):p:=h
theorem ZbA(h:p:=by
 unfold uT at*;unfold bj.ptr;go_enter Tryz.func163,Tryz.ntmps163;go_wp2_with (first
  |(go_at_call 163;refine(H1 ρ _ h0).mono ?_;rintro e w2 ⟨y,rfl,ht,d2⟩;unfold dA aL))
 have hA:QY ρ w w.heap.size w2.heap.size (w2.alloc (Ds y)) _ t y:=
  ⟨((gP.aA h hb).trans d2).later (aa _ _),av.new w2 _ _,(d2.blk HQ.out Taa).alloc _,Tr.at_.keep (wI _ (by rw[hsz];exact Nat.le_refl _)) _ _ ht⟩
 have Gd:w.heap.size+1<=w2.heap.size:=by have:=d2.size;omega
 unfold Ds aL at hA;generalize w2.alloc _=W at*;generalize w2.heap.size=qx at*;have A:=hA;clear hA ht d2 h0 hb HQ;exact KaX):p:=h
theorem ZbB(h:p:=by intro ρ w3 hc hL hr;intro hg;have hg:ρ (.tmp 50)=.bool false:=hg;exact Ze3):p:=h
theorem ZbC(h:p:=by obtain⟨kind,name,cs,time,every,space,parts,query,what,cI,a,b,rows,bF,aP,aN,dH⟩:=s;have l0:=no li.c;have l1:=no li.e;have l2:=no li.w;have l3:=no li.j;exact KaY):p:=h
theorem ZbD(h:p:=by clear hh;go_wp2_with fail;refine hm.mono ?_;clear hm;rintro e w4 ⟨rfl,d4⟩;have hb4:=aa w4 (.cells (aK [bE]) 9);have pT:=hid ((mf.out.go d4 Taa Taa).later hb4);have hw4:ρ.g < w4.heap.size:=(mf.out.go d4 Taa Taa).did.lt;clear mf d4 hb4;have hm:=aR ρ _ _ lg dp pT.out.did.at_ [bE] w4.heap.size 1 rfl (av.new w4 _ _) Taa Taa;unfold aK strOf at hm;simp only[map_cons,map_nil] at hm;have hwn:bE.toArray= #[110,117,108,108]:=rfl;rw[hwn] at hm;go_wp2_with fail;refine hm.mono ?_;clear hm;intro e w5 hp;exact KaZ):p:=h
theorem zhu.Kcr(h:p:=by refine(I0.out w1 _ _ H1.out.st yY Taa).mono ?_;rintro e w2 ⟨rfl,h2,d2⟩;have H2:=hid (H1.out.next hx hf h2 d2);clear h2 d2 H1 yY k0 k1 k2 k3 k4 k5 k6 x0 x1 x2 x3 x4 x5 x6;go_wp2_with fail;exact Ka0):p:=h
theorem zft.Kbz(h:p:=by open zhu in exact Zf7):p:=h
theorem ZbE(h:p:=by open zft in exact Zdd):p:=h
theorem ZbF(h:p:=by
 clear mb hk;have p0:ni.cell? ⟨g0,0,none⟩=some (.pointer (some ⟨b,0,none⟩)):=H0.out.p.cell 0;go_wp2_with (first
  |(refine wpList_load_row rfl 34 (.tmp 3) rfl g1 rfl 34 (bI y).toArray (0,0) _ H0.out.q Tryz.underlying34 rfl (kC y) ?_))
 refine(TB.out ni H0.out.st H0.out.hw).mono ?_;rintro e w1 ⟨rfl,h2,d2⟩;have H1:=hid (H0.out.next hg0 hg1 h2 d2);clear h2 d2 H0 x0 p0;go_wp2_with fail;go_end0;exact⟨rfl,H1.out.st,H1.out.did⟩):p:=h
theorem ZbG(h:p:=by
 go_wp2_with fail;refine bodyPost_ret (v:=.tuple #[.agg #[.int .u8 3,.string ⟨acc.toArray⟩,.int .i64 0,.int .i64 at_],.int .i64 ((k:Int)+1),.int .i64 0]) Zb2 rfl ?_
 ·rw[kh.out,HM.out,drop_at HB.out,HQ.out,rH JN.out];unfold yB;simp only;have e:s.size - (s.data.toList.drop (k+1)).length=k+1:=by rw[length_drop,HLEN.out];omega
  rw[e];exact ZdY):p:=h
theorem ZbH(h:p:=by exact bodyPost_ret (v:=.agg cs) (results_cell_row Tryz.results67 _ _ (w.heap.size+1) 34 cs (0,0) _ rfl qU.out Tryz.underlying34 rfl dy.out) rfl rT.out):p:=h
theorem ZbI(h:p:=by simp only[Result.andThen];rw[Oper.upon_value];unfold df;have H3:=hid (H2.out.later (by rw[iW.out];exact dy.out) jn);clear hM jn hx0 X0 hle H2;obtain⟨w3,yY⟩:∃x,x=wm:=⟨_,rfl⟩;subst yY;go_wp2_with fail;exact Ka1):p:=h
theorem ZbJ(h:p:=by
 cases hp:bu v name width
 ·simp
 ·rw[Bool.and_true,decide_eq_false_iff_not];intro e;exact hb2 ⟨by omega,hp⟩):p:=h
theorem ZbK(h:p:=by intro ρ w3 hc hL hr;exact Zaf):p:=h
theorem ZbL(h:p:=by
 have hv0:∀G,v.ownBlock=some G->G < w0.heap.size:=λ G hG=>(A.ge hG).2
 have hB0:=A.sz
 have dfr:∀(ls:List Oper) (k:Nat) (V:Nat->World->Value->Prop) (K:Act->World->Prop) (a:Act) (w:World),(∀a':Act,a'.defers=a.defers->K a' w)->cN V K ls k a w:=by
  intro ls
  induction ls with
  | nil=>intro k V K a w h;exact h a rfl
  | cons o ls ih=>
    intro k V K a w h;unfold cN
    cases o.dst with
    | none=>exact ih _ _ _ _ _ h
    | some d=>exact λ x _=>ih _ _ _ _ _ λ a' ha'=>h a' (ha'.trans rfl)
 exact Ka2):p:=h
theorem ZbM(h:p:=by
 intro vs w h
 match vs,h with
 | [],h=>rw[af.cell h (p:=⟨qb,k,none⟩) BO];exact hcell
 | [a],⟨y,w1,eD,_,h2,h3,h4⟩=>exact(vO h2 h3 h4).1
 | [a,s],⟨y,w1,eD,_,_,_,h2,h3,h4,_⟩=>exact(vO h2 h3 h4).1
 | [a,s,v],⟨y,w1,eD,w2,_,h2,h3,h4,_,h6,_,_⟩=>obtain⟨k1,_,k3⟩:=vO h2 h3 h4;rw[qA h6 (p:=⟨qb,k,none⟩) (Nat.lt_of_lt_of_le BO k3) (λ e=>hlq e.symm)];exact k1
 | _::_::_::_::_,h=>exact h.elim):p:=h
theorem ZbN(h:p:=by
 intro ρ w vs hc hG hr;rw[t4] at hr;have r0:=hr.1;simp only[s4] at r0;refine⟨g4,?_⟩;show vs.length=1->_;intro hl
 match vs,hl with
 | [a],_=>have r0:some a=some (ρ (.tmp d3)):=r0;injection r0 with r0;obtain⟨y,w1,eD,ha,h2,h3,h4⟩:=hG;refine ae (hbs ρ w y (r0.symm.trans ha)) ?_;exact⟨y,w1,eD,w.heap.size,ha,rfl,h2,h3,h4.trans ((Below.refl _ _).alloc (Nat.le_refl _) _),av.new w e _⟩):p:=h
theorem ZbO(h:p:=by intro ρ w3 hc hL hr;have h0:_=_:=hr.1;have h1:_=_:=hr.2.1;exact ae (w':=w3) (by simp[go_sem,hc.const,h0,h1];done) ⟨af.refl _,rfl⟩):p:=h
theorem ZbP(h:p:=by simp only[vY,Bool.and_eq_true,beq_iff_eq,Option.isNone_iff_eq_none] at rf;obtain⟨⟨⟨⟨⟨⟨⟨⟨⟨⟨⟨⟨⟨⟨⟨⟨⟨⟨⟨⟨⟨⟨⟨⟨⟨⟨⟨⟨⟨⟨⟨⟨⟨⟨⟨⟨⟨⟨⟨⟨⟨⟨t0,sD⟩,t1⟩,sF⟩,t2⟩,sG⟩,Y5⟩,t3⟩,sH⟩,t4⟩,Bk⟩,t5⟩,FM⟩,t6⟩,yK⟩,t7⟩,FN⟩,t8⟩,IL⟩,IM⟩,t9⟩,UC⟩,afb⟩,f0⟩,f1⟩,f2⟩,f3⟩,f4⟩,f5⟩,f6⟩,f7⟩,f8⟩,f9⟩,g0⟩,g1⟩,g2⟩,g3⟩,g4⟩,g5⟩,g6⟩,g7⟩,g8⟩,g9⟩:=rf;exact Ka3):p:=h
theorem ZbQ(h:p:=by
 go_roundw;case rel=>exact⟨i+1,hlt,by go_num,by(first | rw[Ww.out] | rw[<- map_take,Ww.out]);rw[<- append_assoc,PS.out];exact Wx.out,X9.out⟩
 case measure=>exact Zcj):p:=h
theorem ZbR(h:p:=by exact fin TaF Tat Tat TaR TaW):p:=h
theorem ZbS(h:p:=by
 have HA:=hid (HB.out.go aZ d);clear hp ay d HB HE jR;have HE:=bH;clear bH;go_upto_region 15 with fail;go_wp2_with fail;refine(dP ρ Ij Nx _ _ HA.out.sa.did.at_).mono ?_;intro e w15 hp;rcases hp.cases with ⟨every,l16,v9,ay,rfl,rfl,_,d⟩|⟨m,au,rfl,hg⟩;case inr=>have HF:=hid (show cZ l=.error m from HE.out.trans (ak au));have HG:=hid HA.out.sa.did.grown;clear hp au;go_wp2_with fail;exact aj rfl (GP.err HF.out ⟨rfl,ai HG.out hg⟩)
 exact Ka4):p:=h
theorem ZbT(h:p:=by have HG:=hid HD.out.grown;have HE:=hid au;clear hp HQ HD lW au;go_wp2_with fail;exact aj rfl (bl HE.out HG.out hg)):p:=h
theorem ZbU(h:p:=by go_wp2_with fail;exact bodyPost_ret (v:=.agg cs) (results_cell_row Tryz.results114 _ _ (w.heap.size) 34 cs (0,0) _ rfl qU.out Tryz.underlying34 rfl dy.out) rfl rT.out):p:=h
theorem ZbV(h:p:=by
 have hr:=EL _ _ s[i] (av.new wr 5 #[.int .u8 (s[i].toNat:Int)]);have Xf:=hid (Mt hc);clear hc;go_wp2_with fail;go_roundw;case rel=>refine⟨i+1,l++ [s[i]],by omega,by go_num,by rw[nH],by rw[length_append,HL.out];rfl,?_,hb.trans ((aa wr _).mono hb.size)⟩;rw[HM.out,HD.out];simp[Xf.out]
 case measure=>exact Zcj):p:=h
theorem ZbW(h:p:=by
 have eC:=hid (HD.out.trans (d1.trans d2));have jw:=hid (d2.blk (d1.blk HQ.out Taa) Taa);have iO:=hid (hat.more (by have:=d1.size;omega:w.heap.size+1<=w1.heap.size));have iI:=hid ay;clear hp d1 d2 hat ay IH HQ HD hsz;go_wp2_with (first
  |(refine wpList_store_row rfl 36 (.tmp 2) (.tmp 10) rfl w.heap.size (aL y).toArray rfl rfl 36 dz jw.out aC rfl (cD _) ?_
    have HR:=hid (jw.out.row (aL y).toArray)))
 exact Ka5):p:=h
theorem ZbX(h:p:=by intro ρ' w' hH hc h';simp[go_sem,h']):p:=h
theorem ZbY(h:p:=by obtain⟨x0,x1,x2,x3,x4,x5,x6⟩:=HH.out.x.cells;dsimp only at x0 x1 x2 x3 x4 x5 x6;obtain⟨f0,f1⟩:=HH.out.ju;dsimp only at f0 f1;generalize hQ:bodyPost Tryz.prog Tryz.f60 _=Q;simp only[qX,iz,Tryz.f60,Option.getD_some];subst hQ;exact Ka6):p:=h
theorem ZbZ(h:p:=by intro ρ w3 hc hL hr;have h0:_=_:=hr.1;exact ae (w':=w3) (gq rfl (by simp only[map_toArray,map_cons,map_nil,h0];exact qE y)) ⟨af.refl _,rfl⟩):p:=h
theorem Zb0(h:p:=by go_upto_region 1 with fail;change Code.wp _ _ _ _ (w.alloc (gi {}));generalize hW:(World.alloc _ _)=W0 at*;clear hW;have BO:w.heap.size < W0.heap.size:=HS.out.res.lt;exact Ka7):p:=h
theorem Zb1(h:p:=by intro W2 hL;simp only[Uab];rintro _ rfl a1 - a2 - a3 - a4 - a5 - a6 - a7 - a8 - a9 - _ rfl;simp only[cN,Act.put,Uac];have H1:=hid (H0.out.later bN hL);clear hL H0 bN;go_wp2_with fail;exact Ka8):p:=h
theorem Zb2(h:p:=by simp[results,Tryz.results125,go_sem,z0,z1,z2,z3]):p:=h
theorem Zb3(h:p:=by refine(TT.out w3).mono ?_;exact ZfU):p:=h
theorem Zb4(h:p:=by have x0:=hX.cell 0;have x1:=hX.cell 1;have x2:=hX.cell 2;have x3:=hX.cell 3;have x4:=hX.cell 4;have x5:=hX.cell 5;have x6:=hX.cell 6;simp only[Uaa] at x0 x1 x2 x3 x4 x5 x6;have z0:=hZ.cell 0;have z1:=hZ.cell 1;have z2:=hZ.cell 2;have z3:=hZ.cell 3;have z4:=hZ.cell 4;have z5:=hZ.cell 5;have z6:=hZ.cell 6;simp only[Uaa] at z0 z1 z2 z3 z4 z5 z6;exact Ka9):p:=h
theorem Zb5(h:p:=by simp only[sT,List.range,List.range.loop,List.map,h0,h3,h4,h5,h6,h7];clear hT h0 h3 h4 h5 h6 h7;have hsz:=Nat.le_trans hw.size (Nat.le_refl ws.heap.size);exact Kba):p:=h
theorem Zb6(h:p:=by simp only[aB,toList_toArray] at this ⊢;exact this):p:=h
theorem Zb7(h:p:=by
 have HA:=hid (HB.out.go aZ d);clear hp ay d HB HE jR;have HE:=bH;clear bH;go_upto_region 7 with fail;go_wp2_with fail;refine(dP ρ w8 l9 _ _ HA.out.sa.did.at_).mono ?_;intro e uF hp;rcases hp.cases with ⟨a,YP,v9,ay,rfl,rfl,_,d⟩|⟨m,au,rfl,hg⟩;case inr=>have HF:=hid (show cZ l=.error m from HE.out.trans (ak au));have HG:=hid HA.out.sa.did.grown;clear hp au;go_wp2_with fail;exact aj rfl (GP.err HF.out ⟨rfl,ai HG.out hg⟩)
 exact Kbb):p:=h
theorem Zb8(h:p:=by simp[results,Tryz.results163,go_sem,r0,r1,r2,r3,r4,r5,r6];rfl):p:=h
theorem Zb9(h:p:=by
 refine .inr λ ρ w hcs hG hr=>?_
 rw[t0] at hr;have r0:=hr.1;simp only[sD] at r0;exact⟨g0,ae (h0 ρ w (vX _ _ vW hG) hcs (r0.trans FL)) ⟨af.refl _,rfl⟩⟩):p:=h
theorem Zca(h:p:=by obtain⟨z0,hz0⟩:∃z,z=cF:=⟨_,rfl⟩;have HZ:=hid (show Tryz.prog.built 34 []=some z0 by rw[hz0];exact Bw);have HZ1:=hid (show z0.all (·.oneCell')=true by rw[hz0];exact cL {});have BV:=hid (show z0.size=28 by rw[hz0];rfl);exact Kbc):p:=h
theorem Zcb(h:p:=by clear hx;go_wp2_with fail;exact aj rfl (GP.err HF.out ⟨rfl,hg⟩)):p:=h
theorem Zcc(h:p:=by have aZ:=h.mE;have b1:=aa w (gi {});have HS:=hid (show yL ρ w w.heap.size [] lg dp (w.alloc (gi {})) l from⟨aU.aA h b1,av.new w _ _,Nat.le_refl _,λ p hp=>by simp at hp⟩);exact Kbd):p:=h
theorem Zcd(h:p:=by simp only[cN,Act.put,Uac];have H1:=hid (H0.out.later bN hL);clear hL H0 bN;go_wp2_with fail;refine(aX tt W2 H1.out.st).mono ?_;rintro e w2 ⟨rfl,h2,d2⟩;have H2:=hid (H1.out.next hg0 hg1 h2 d2);exact Kbe):p:=h
theorem Zce(h:p:=by
 refine HN.out.mono ?_;unfold lI;rw[HE.out,OU.out];rintro e w1 ⟨he,rfl⟩;rw[if_neg Tac] at he;subst he;go_wp2_with fail;refine bodyPost_ret (v:=.tuple #[.agg #[.int .u8 0,.string ⟨#[]⟩,.int .i64 0,.int .i64 0],.int .i64 0,.int .i64 30]) Zb2 rfl ?_
 ·rw[kh.out,OU.out];exact ZdY):p:=h
theorem Zcf(h:p:=by
 refine⟨h.at_.far Taa i u,h.grown.os,h.grown.tape,h.grown.output,?_,λ k hk WN=>?_⟩
 ·have:(w.setCell ⟨q,i,none⟩ u).heap.size=w.heap.size:=by simp[World.setCell]
  rw[this];exact h.grown.size
 ·rw[Below.heap_setCell w ⟨q,i,none⟩ u k Tad];exact h.grown.block k hk WN):p:=h
theorem Zcg(h:p:=by
 refine bodyPost_ret (v:=.tuple #[.agg #[.int .u8 2,.string ⟨#[]⟩,.int .i64 (gh ((s.data.toList.drop at_).takeWhile aH)),.int .i64 at_],.int .i64 k,.int .i64 0]) Zb2 rfl ?_
 ·rw[HR.out];unfold yB;simp only;rw[pk aH s Taa,xJ.out];exact ZdY):p:=h
theorem Zch(h:p:=by
 have HS:=hid (HH.out.later bx);have HD:=hid (ck.aA (b:=b) bx hsz);have HP:=hid (HD.out.blk hp Fo Tac);have kG:w.heap.size≠b:=by omega
 clear HH hp;go_upto_region 1 with fail;generalize w.alloc _=W1 at*;clear bx;exact Kbf):p:=h
theorem Zci(h:p:=by
 have hx:=A.blk.lt;have hs:(wr.setCell ⟨qx,6,none⟩ (.slice (some ⟨wr.heap.size,0,none⟩) 1 1)).heap.size=wr.heap.size:=by simp[World.setCell]
 have hb:=aa (wr.setCell ⟨qx,6,none⟩ (.slice (some ⟨wr.heap.size,0,none⟩) 1 1)) (.cells (aL y1).toArray 36);have hN:=av.new (wr.setCell ⟨qx,6,none⟩ (.slice (some ⟨wr.heap.size,0,none⟩) 1 1)) 36 (aL y1).toArray;rw[hs] at hN;exact Kbg):p:=h
theorem Zcj(h:p:=by simp[intOf];omega):p:=h
theorem Zck(h:p:=by intro ρ w vs hc hG hr;rw[t3] at hr;have r0:=hr.1;simp only[s3] at r0;refine⟨g3,?_⟩;show vs.length=0->_;intro hl;obtain rfl:=eq_nil_of_length_eq_zero hl;refine dB (gw ρ w hc r0) ((iH w hG).mono ?_);rintro e' w' ⟨y,rfl,hp⟩;exact⟨_,rfl,y,w,w',rfl,hG,hp,af.refl _⟩):p:=h
theorem Zcl(h:p:=by
 have e1:s.size - (s[a]::s.data.toList.drop (a+1)).length=a:=by rw[<- drop_at HB.out,length_drop,HLEN.out];omega
 rw[fV.out.more,Zu (by rw[length_drop,HLEN.out];omega) Tbf Tbj,e1,MJ,gQ,vJ,HQ.out]):p:=h
theorem Zcm(h:p:=by
 intro ρ w3 hc hL hr;intro hg;have hg:ρ (.tmp 77)=.bool b9:=hg;cases b9
 ·exact Zae
 ·exact ZaC):p:=h
theorem Zcn(h:p:=by
 intro ρ w3 hc hL hr;intro hg;have hg:ρ (.tmp 86)=.bool vQ:=hg;cases vQ
 ·exact Zae
 ·exact ZaC):p:=h
theorem Zco(h:p:=by
 intro ρ w3 hc hL hr;intro hg;have hg:ρ (.tmp 95)=.bool vR:=hg;cases vR
 ·exact Zae
 ·exact ZaC):p:=h
theorem Zcp(h:p:=by intro ρ' w' G y pV mV gw OZ;have q0:=gw 0 _ rfl;have q1:=gw 1 _ rfl;have q2:=gw 2 _ rfl;have q3:=gw 3 _ rfl;have q4:=gw 4 _ rfl;have q5:=gw 5 _ rfl;have q6:=gw 6 _ rfl;simp only[Nat.add_zero] at q0;unfold dA aL at mV;simp[go_sem,pV,mV,q0,q1,q2,q3,q4,q5,q6,OZ,oI]):p:=h
theorem Zcq(h:p:=by
 have eC:=hid (HD.out.trans d2);have jw:=hid (d2.blk HQ.out Taa);have iO:=hid (hat.more (show w.heap.size+1<=_ by omega));have iI:=hid ay;clear hp d2 hat ay HQ HD lW;go_wp2_with (first
  |(refine wpList_store_row rfl 36 (.tmp 2) (.tmp 8) rfl w.heap.size (aL y).toArray rfl rfl 36 dz jw.out aC rfl (cD _) ?_
    have HR:=hid (jw.out.row (aL y).toArray)))
 exact Kbh):p:=h
theorem Zcr(h:p:=by
 split at h
 ·cases h
 ·injection h with h;exact .inr h.symm):p:=h
theorem Zcs(h:p:=by
 have p0:=HS.out.ptr;go_wp2_with fail;refine(dN ρ w3 l4 _ _ HS.out.did.at_).mono ?_;clear p0;intro e w5 hp;rcases hp.cases with ⟨nm,l6,v9,ay,rfl,rfl,d⟩|⟨m,au,rfl,hg⟩;case inr=>have HF:=hid (show cK l=.error m from HE.out.trans (ak au));have HG:=hid HS.out.did.grown;clear hp au;go_wp2_with fail;exact aj rfl (GP.err HF.out ⟨rfl,ai HG.out hg⟩)
 exact Kbi):p:=h
theorem Zct(h:p:=by have HB:=hid (show wU (w.alloc (.cells #[.int .u8 op,.int .u8 v.k,.int .i64 v.n,.string v.s,.string name,.int .i64 width,.slice A k cp] 36)) w.heap.size ⟨op,v,name,width,A,k,cp⟩from av.new w _ _);have bx:=aa w (.cells #[.int .u8 op,.int .u8 v.k,.int .i64 v.n,.string v.s,.string name,.int .i64 width,.slice A k cp] 36);have HS:=hid (HH.out.later bx);exact Kbj):p:=h
theorem Zcu(h:p:=by
 intro w' hw';have WG:=hd.later hw';refine(jS γ.ρ w' l lg dp WG.at_).mono ?_;intro e w'' hp;rcases hp.cases with ⟨t3,r3,v,ay,_⟩|⟨m',au,rfl,hg⟩
 ·rw[hx] at ay;cases ay
 ·rw[hx] at au;injection au with au;subst au;exact⟨_,rfl,rfl,ai WG.grown hg⟩):p:=h
theorem Zcv(h:p:=by
 intro w' NI;refine(jS γ.ρ w' l lg dp NI).mono ?_;intro e w'' hp;rcases hp.cases with ⟨t3,r3,v3,ay,rfl,y,rfl,hat,d2⟩|⟨m,au,_⟩
 ·rw[hx] at ay;injection ay with ay;injection ay with h1 h2;subst h1 h2;exact⟨y,rfl,hat,d2⟩
 ·rw[hx] at au;cases au):p:=h
theorem Zcw(h:p:=by have h0:_=_:=hr.1;exact ae (w':=w3) (by simp[go_sem,hc.const,h0];done) ⟨af.refl _,rfl⟩):p:=h
theorem Zcx(h:p:=by
 clear hk hb
 rcases hlv with rfl | rfl | rfl | rfl;all_goals
  generalize vM _ t.w=R at*;go_enter Tryz.func182,Tryz.ntmps182;go_wp2_with fail;all_goals
   go_ret;rw[HR.out];refine⟨?_,aa w _⟩;refine jC ?_;simp[opsL,List.lookup,RP,GH,EA,dr,eK,yQ,sS, *]):p:=h
theorem Zcy(h:p:=by simp only[zr,Bool.and_eq_true,beq_iff_eq,Option.isNone_iff_eq_none] at rf;obtain⟨⟨⟨⟨⟨⟨⟨⟨⟨⟨⟨⟨⟨⟨⟨⟨⟨⟨⟨⟨⟨⟨⟨⟨⟨⟨⟨⟨⟨t0,sD⟩,t1⟩,sF⟩,t2⟩,sG⟩,t3⟩,sH⟩,t4⟩,Bk⟩,t5⟩,FM⟩,UB⟩,t6⟩,yK⟩,IK⟩,f0⟩,f1⟩,f2⟩,f3⟩,f4⟩,f5⟩,f6⟩,g0⟩,g1⟩,g2⟩,g3⟩,g4⟩,g5⟩,g6⟩:=rf;exact Kbk):p:=h
theorem Zcz(h:p:=by have h0:=(aw u (show 0 < 249 by decide)).symm.trans hT.t0;have h3:=(aw u (show 3 < 249 by decide)).symm.trans hT.t3;have h4:=(aw u (show 4 < 249 by decide)).symm.trans hT.t4;have h5:=(aw u (show 5 < 249 by decide)).symm.trans hT.t5;have h6:=(aw u (show 6 < 249 by decide)).symm.trans hT.t6;have h7:=(aw u (show 7 < 249 by decide)).symm.trans hT.t7;exact Kbl):p:=h
theorem ZcA(h:p:=by rintro e w3 ⟨rfl,h2,d2⟩;have H3:=hid (H2.out.next hg0 hg1 h2 d2);clear h2 d2 H2 p0 x1;have p0:w3.cell? ⟨g0,0,none⟩=some (.pointer (some ⟨b,0,none⟩)):=H3.out.p.cell 0;go_wp2_with fail;exact Kbm):p:=h
theorem ZcB(h:p:=by intro ρ w3 hc hL hr;intro hg;have hg:ρ (.tmp 137)=.bool false:=hg;exact Ze3):p:=h
theorem ZcC(h:p:=by go_upto_region 1 with fail;change Code.wp _ _ _ _ ((w.alloc (.cells #[.pointer (some ⟨b,0,none⟩)] 87)).alloc (.cells cs 34));generalize gK:w.heap.size=g0 at*;generalize jW:g0+1=g1 at*;generalize ((w.alloc _).alloc _)=xp at*;have iW:=hid gK;clear gK jW hlt hsz;obtain⟨ni,fQ⟩:∃x,x=xp:=⟨_,rfl⟩;rw[<- fQ] at H0 ⊢;clear fQ;exact Kbn):p:=h
theorem ZcD(h:p:=by clear HA HX hcs HE;refine wp_region_lit ?_;refine wpList_load_row rfl 34 (.tmp 4) rfl b rfl 34 cs (0,0) _ tU.out Tryz.underlying34 rfl dy.out ?_;exact Kbo):p:=h
theorem ZcE(h:p:=by unfold St.cost at hn ⊢;have Gk:=fG s;have yh:=hf.nodes;have hlt:=hst.lt;have hsz:=hst.size;obtain⟨tt,nN⟩:∃tt,tt=dv s false true false false false false false false false:=⟨_,rfl⟩;have TT:=hid (λ W=>fF h hf hm false true false false false false false false false W);rw[<- nN] at TT;unfold mC at TT;have wz:=hid nN;exact Kbp):p:=h
theorem ZcF(h:p:=by intro ρ' w' h';simp[go_sem,h']):p:=h
theorem ZcG(h:p:=by
 have t2:(((s[k+1].toNat:Nat):Int)==39)=false:=by rw[beq_eq_false_iff_ne];intro h;exact zM (UInt8.toNat_inj.1 (by simpa using(by omega:s[k+1].toNat=39)))
 have t3:(((s[k+1].toNat:Nat):Int) != 39)=true:=by simpa [bne] using t2
 have JN:=hid (show(s.data.toList.drop (k+1)).head?≠some 39 by rw[drop_at mn.out];simpa using zM);exact Kbq):p:=h
theorem ZcH(h:p:=by go_enter Tryz.func144,Tryz.ntmps144;go_wp2_with (first |(go_at_call 103;refine(pY c _).mono ?_;rintro e w' ⟨rfl,rfl⟩;rw[h])|(go_at_call 105;refine(mW c _).mono ?_;rintro e w' ⟨rfl,rfl⟩));go_ret;exact⟨by simp,rfl⟩):p:=h
theorem ZcI(h:p:=by
 refine⟨hB,v,?_,?_,hn,hz⟩
 ·simp[World.setCell,Array.getElem?_modify,hb]
 ·exact ho.kept (row:=some b) ⟨rfl,rfl,rfl,by simp[World.setCell],λ k _ hk=>Below.heap_setCell _ _ _ _ (λ e=>hk (by simp[e]))⟩ (Or.inr hn)):p:=h
theorem ZcJ(h:p:=by rintro e w3 ⟨rfl,h3,d3⟩;have H3:=hid (H2.out.next hx hf h3 d3);clear h3 d3 H2;go_wp2_with fail;go_end0;refine⟨rfl,?_,H3.out.did⟩;have:=H3.out.st.more (show n+c+1<=n+c+1 by omega);exact Ze6):p:=h
theorem zib.KcL(h:p:=by have TX:=HBZ.out tk;exact Kbr):p:=h
theorem ZcK(h:p:=by clear yu HA;have HA:=hid hA';clear hA';obtain⟨tk,pl,bd,hpl,hlt,V0,yG,eY,hg,xY,uA,hp⟩:=HA.out.did.at_.lp;have aes:=HA.out.did.at_.left;open zib in exact Zg6):p:=h
theorem ZcL(h:p:=by intro ρ' w' h' hc';simp[go_sem,h',hc']):p:=h
theorem ZcM(h:p:=by
 refine bodyPost_ret (v:=.tuple #[.agg #[.int .u8 0,.string ⟨#[]⟩,.int .i64 0,.int .i64 0],.int .i64 0,.int .i64 2]) Zb2 rfl ?_
 ·rw[kh.out,xJ.out,if_neg Zn];exact ZdY):p:=h
theorem ZcN(h:p:=by simp only[fD,length_cons,length_nil] at hb;show n+(c0+2)+1<=_;omega):p:=h
theorem ZcO(h:p:=by go_wp2_with fail;go_ret;exact⟨rfl,by go_grown⟩):p:=h
theorem ZcP(h:p:=by
 rcases Nat.lt_or_ge vs.length ch.length with h' | h'
 ·have hi:=getElem?_eq_getElem h';have hb:=of_decide_eq_true (List.all_eq_true.1 Mj _ (getElem_mem h'));have:=(gw _ _ hi).1 (hall _ hb);omega
 ·omega):p:=h
theorem ZcQ(h:p:=by
 have Rv:j < listed.size:=by rw[I.len];exact BL
 have Th:fuel=bz l.length (listed.setIfInBounds j true)+zs.length:=by have:=jX l.length listed j Rv JC wq;omega
 unfold wpOp;rw[nX];show if Region.wanted oj (yielded (l++zs).toArray a.tmps)=true then _ else _;rw[if_pos (by simp[Region.wanted,hgd])];refine .inl ?_;exact Kbs):p:=h
theorem ZcR(h:p:=by refine⟨i+1,by omega,by go_num,?_,qZ.trans (b'.mono qZ.size)⟩;first | rw[ZE.out,show(max ((ia (ds.take i):Nat):Int) (d:Int))=((max (ia (ds.take i)) d:Nat):Int) by omega] |(rw[ZE.out];congr 1;split <;> omega)):p:=h
theorem ZcS(h:p:=by
 intro e w'' hp;rcases hp.cases with ⟨t3,r3,v,ay,rfl,z,rfl,hat,d2⟩|⟨m,au,_⟩
 ·rw[Bn.out] at ay;injection ay with ay;injection ay with h1 h2;subst h1 h2;exact⟨z,rfl,hat,d2⟩
 ·rw[Bn.out] at au;cases au):p:=h
theorem ZcT(h:p:=by intro W2 hL;simp only[Uab];rintro _ rfl a1 - a2 - a3 - a4 - a5 - a6 - a7 - a8 - _ rfl;simp only[cN,Act.put,Uac];have H2:=hid (H1.out.later bN hL);clear hL H1 bN;go_wp2_with fail;exact Kbt):p:=h
theorem ZcU(h:p:=by
 simp only[od,hcv,hlv,k1,k2,k3,r1,Nat.reduceEqDiff,if_true,if_false,Option.isSome_some,Option.isSome_none];refine⟨trivial,trivial,?_,cv,rfl,hPB,?_⟩
 ·intro x e;exact k4 x (hlv.trans e)
 ·intro x e;cases e):p:=h
theorem ZcV(h:p:=by intro ρ w3 hc hL hr;have h0:_=_:=hr.1;have XA:w3.cell? ⟨g1,21,none⟩=some (.slice y.aP.A y.aP.n y.aP.c):=(av.later H0.out.q hL).cell 21;exact ZgU):p:=h
theorem ZcW(h:p:=by exact .inl Tac):p:=h
theorem ZcX(h:p:=by have hB:=av.cr h.blk 1 (.int .i64 ((ρ.n:Int) - l.length));refine⟨h.set hB (bn (az (Below.refl _ _)) 1 _) ⟨?_,h.of.2.tail ht⟩,bn (az (Below.refl _ _)) 1 _⟩;exact(suffix_cons _ _).trans h.of.1):p:=h
theorem ZcY(h:p:=by
 refine callsD_of_wpS Tryz.func26 rfl λ YN cs hu=>?_
 unfold qI;change Code.wpS Tryz.prog _ _ { tmps:= #[.pointer (some ⟨b0,0,none⟩),.pointer (some ⟨b1,0,none⟩),.pointer (some ⟨b2,0,none⟩),undef,undef,undef,undef,undef,undef,undef,undef,undef,undef,undef],defers:=[] } _ _;apply wpS_seq;exact Kbu):p:=h
theorem ZcZ(h:p:=by
 obtain rfl:i=ys.length:=by omega
 have xH:ds.take ys.length=ds:=take_of_length_le (Nat.le_of_eq ZC.out);rw[xH] at hml;simp only[xH];go_wp2_with fail;go_ret;exact⟨jC Taa,af.then rY.out qZ⟩):p:=h
theorem Zc0(h:p:=by obtain⟨k0,k1,k2,k3,k4,k5,k6⟩:=eH (oV.out).blk;obtain⟨f0,f1,f2,f3,f4,f5,f6⟩:=eM (oV.out).blk;unfold fx at k0 k1 k2 k3 k4 k5 k6;simp only at k0 k1 k2 k3 k4 k5 k6;go_wp2_with fail;refine hm.mono ?_;clear hm;rintro e w2 ⟨rfl,d⟩;have wu:=uy;have fV:=hid (oV.out.go d Taa Taa);exact Kbv):p:=h
theorem Zc1(h:p:=by exact ae (w':=w3) (by simp[go_sem,h0,Fj,Fk,Fl];done) ⟨af.refl _,rfl⟩):p:=h
theorem Zc2(h:p:=by
 induction h with
 | nil=>intro i x y h;simp at h
 | cons a _ ih=>
   intro i x y h k
   cases i with
   | zero=>simp at h k;subst h k;exact a
   | succ i=>exact ih Tam (by simpa using k)):p:=h
theorem Zc3(h:p:=by
 intro i w w' v h hl
 match i with
 | 0 | 1 | 2 | 3 | 4 | 5 | 6 | 7 | 8 | 9 | 10=>exact h
 | n+11=>exact h):p:=h
theorem Zc4(h:p:=by simp only[Uaa] at k7 k8 k9 Pm Pn Po Pp Pq;exact ZfT):p:=h
theorem Zc5(h:p:=by
 have HA:=hid (hL.alloc (.cells #[.int .u8 0,.string ⟨#[]⟩,.int .i64 0,.int .i64 0] 81));have bb:=aa w (.cells #[.int .u8 0,.string ⟨#[]⟩,.int .i64 0,.int .i64 0] 81);have HZ:=hid (av.new w 81 #[.int .u8 0,.string ⟨#[]⟩,.int .i64 0,.int .i64 0]);have hne:w.heap.size≠g:=by omega
 exact Kbw):p:=h
theorem Zc6(h:p:=by exact⟨(c _).trans h1,(c _).trans h2,(c _).trans h3,(c _).trans h4⟩):p:=h
theorem zf6.KbQ(h:p:=by
 rw[ha] at r1;injection r1 with r1;rw[sJ] at hB;have hcell:w.cell? ⟨γ.qb,γ.k,none⟩=some v:=by rw[hB.blk.cell];simp[Ft.kS]
 exact Kbx):p:=h
theorem Zc7(h:p:=by open zf6 in exact Zd0):p:=h
theorem Zc8(h:p:=by intro ρ' w' hc' h';simp[go_sem,h',hc'.const,hc'.func]):p:=h
theorem Zc9(h:p:=by have t5:decide ((0:Int)<(i:Int))=true:=decide_eq_true Taa;have t6:decide (0 < i)=true:=decide_eq_true mm;have HT:=hid (nc HJ.out mm);go_wp2_with fail;refine(cn ⟨#[44,32]⟩ W1 nE.out Tac Ta0).mono ?_;rintro e w2 ⟨rfl,h2,d2⟩;have H2:=hid h2;exact Kby):p:=h
theorem Zda(h:p:=by intro ρ' w' hH hc h';exact mR rfl h' hH.1 Tryz.underlying36 rfl aC):p:=h
theorem Zdb(h:p:=by obtain⟨⟨sb,c2⟩,fz,hs2,wy⟩:=HH.out.st.vw;have rk:=hid hs2;have eC:=hid (HH.out.did.trans wy);exact Zgd):p:=h
theorem Zdc(h:p:=by simp only[fD,length_cons,length_nil];omega):p:=h
theorem Zdd(h:p:=by rintro e w1 ⟨rfl,b1⟩;have H1:=hid (HH.out.later hsz b1);rw[show(decide (((1:Nat):Int)=1)&& bu v name width)=true by rw[hp];rfl];clear HH b1 x0 x1 x2 x3 x4 x5 x6;exact Kbz):p:=h
theorem Zde(h:p:=by simp only[Result.andThen];rw[Oper.upon_value];go_wp2_with fail;rw[run_callFunc_extern Tryz.func165 Tab Tab Tab (e:=Extern.AbiNoEscape.same) Tab];rw[Lib.run_noEscape];simp only[Result.andThen];rw[Oper.upon_value];go_wp2_with fail;exact KbA):p:=h
theorem Zdf(h:p:=by simp only[setIfInBounds_toArray,set_cons_zero,set_cons_succ] at this;exact this):p:=h
theorem Zdg(h:p:=by
 have HW:=hid hcut;clear hcut HH HC x0 x1 x2 x3 x4 x5 x6 f0 f1 tk;obtain⟨x0,x1,x2,x3,x4,x5,x6⟩:=HW.out.x.cells;dsimp only at x0 x1 x2 x3 x4 x5 x6;obtain⟨f0,f1⟩:=HW.out.ju;dsimp only at f0 f1;unfold df at*;have hN0:n+5<=50000000:=by have:=HN.out;omega
 go_wp2_with fail;exact KbB):p:=h
theorem Zdh(h:p:=by intro ρ w3 hc hL hr;intro hg;have hg:ρ (.tmp 50)=.bool true:=hg;refine⟨λ _=>?_,λ hn=>absurd hg hn⟩;have h0:_=_:=hr.1;exact KbC):p:=h
theorem Zdi(h:p:=by rintro e w' ⟨rfl,h1,h2⟩;refine⟨rfl,?_,(ck.aA bm h.size).trans h2⟩;simpa [qh] using h1):p:=h
theorem Zdj(h:p:=by
 have hK:=wD (V:=V) (λ d=>a.eval (.tmp d)) l 0 a0 (λ i o d hi hd=>by
  rw[Nat.zero_add]
  have Ea:i < l.length:=by
   rcases Nat.lt_or_ge i l.length with h' | h'
   ·exact h'
   ·rw[getElem?_eq_none h'] at hi;cases hi
  exact I.new i o d hi (hall i Ea) hd) (hf w I.r)
 exact KbD):p:=h
theorem Zdk(h:p:=by rw[dY.out];exact⟨rfl,(((xg.out.at_.trans iO.out).far (Nat.le_refl _) hne 0 _).far (Nat.le_refl _) hne 1 _ |>.far (Nat.le_refl _) hne 2 _ |>.far (Nat.le_refl _) hne 3 _)⟩):p:=h
theorem Zdl(h:p:=by rw[HA.out.name,HA.out.cI,HA.out.every,HA.out.a,HA.out.b] at this;simp only[aB,toList_toArray,append_assoc,cons_append,nil_append] at this ⊢;exact this):p:=h
theorem Zdm(h:p:=by
 go_wp2_with fail;go_ret3;unfold kz;rw[rT.out,fV.out.more,SY Tbf Tbj];have e1:s.size - (s[a]::s.data.toList.drop (a+1)).length=a:=by rw[<- drop_at HB.out,length_drop,HLEN.out];omega
 rw[e1];exact KbE):p:=h
theorem Zdn(h:p:=by have k0:=hcell 0 _ rfl;have k1:=hcell 1 _ rfl;have k2:=hcell 2 _ rfl;have k3:=hcell 3 _ rfl;have k4:=hcell 4 _ rfl;have k5:=hcell 5 _ rfl;have k6:=hcell 6 _ rfl;exact KbF):p:=h
theorem Zdo(h:p:=by go_wp2_with fail;refine HK.out _ _ (HO.out _ _ ⟨rfl,rfl,rfl⟩ (HH.out.more Taa))):p:=h
theorem Zdp(h:p:=by go_end0;exact ri.ok (HE.out.trans rfl) ⟨_,LY.out⟩ (by rw[Bool.or_false];exact LZ.out)):p:=h
theorem Zdq(h:p:=by go_wp2_with fail;exact bodyPost_ret (v:=.agg cs) (results_cell_row Tryz.results73 _ _ (w.heap.size) 34 cs (0,0) _ rfl qU.out Tryz.underlying34 rfl dy.out) rfl rT.out):p:=h
theorem Zdr(h:p:=by simp only[Uaa] at Pr Pt Pu;exact Zgz):p:=h
theorem Zds(h:p:=by go_wp2_with fail;go_end0;refine⟨rfl,?_,H5.out.did⟩;have:=H5.out.st;rwa [aB] at this):p:=h
theorem Zdt(h:p:=by intro ρ' w' h' hc';rw[<- UU] at h' hc';simp[go_sem,h',hc']):p:=h
theorem Zdu(h:p:=by have HG:=hid (ai HD.out.grown d1.grown);have HE:=hid au;clear hp d1 IH HQ HD hsz au;go_wp2_with fail;exact aj rfl (bl ((FJ uS.out).trans (ak HE.out)) HG.out hg)):p:=h
theorem Zdv(h:p:=by
 have eC:=hid ((HD.out.trans (d1.trans d2)).later (aa w2 (.cells (aL y).toArray 36)));have jw:=hid ((d2.blk (d1.blk HQ.out Taa) Taa).alloc (.cells (aL y).toArray 36));have hs2:w.heap.size+1<=w2.heap.size:=by have:=d1.size;have:=d2.size;omega
 exact KbG):p:=h
theorem Zdw(h:p:=by exact⟨Zr _ _ λ r=>rfl,⟨rfl,rfl,rfl⟩⟩):p:=h
theorem Zdx(h:p:=by rw[e] at hk;unfold bj.ws at hk;rw[getElem?_map,getElem?_eq_getElem hlt] at hk;simp only[Option.map_some] at hk;injection hk with hk;rw[hk];exact hl):p:=h
theorem Zdy(h:p:=by go_wp2_with fail;refine(DA w1 H1.out).mono ?_;rintro e w2 ⟨rfl,b2⟩;have B2:=hid (B1.out.trans b2);clear b2;go_wp2_with fail;go_ret2;exact⟨rfl,B2.out⟩):p:=h
theorem Zdz(h:p:=by simp only[Uaa] at k16;exact ae (w':=w3) (by simp[go_sem,h0,k16];done) ⟨af.refl _,rfl⟩):p:=h
theorem ZdA(h:p:=by simp only[Uaa] at k17;exact ae (w':=w3) (by simp[go_sem,h0,k17];done) ⟨af.refl _,rfl⟩):p:=h
theorem ZdB(h:p:=by simp only[Uaa] at k18;exact ae (w':=w3) (by simp[go_sem,h0,k18];done) ⟨af.refl _,rfl⟩):p:=h
theorem ZdC(h:p:=by have HG:=hid (ai HD.out.grown d1.grown);have HE:=hid au;clear hp d1 IH HQ HD hsz au;go_wp2_with fail;exact aj rfl (bl ((Nk uS.out).trans HE.out) HG.out hg)):p:=h
theorem ZdD(h:p:=by simp only[Uaa] at k2;exact ZgP):p:=h
theorem ZdE(h:p:=by simp only[Uaa] at k3;exact ZgQ):p:=h
theorem ZdF(h:p:=by simp only[Uaa] at k4;exact ZgR):p:=h
theorem ZdG(h:p:=by simp only[Uaa] at k5;exact ZgS):p:=h
theorem ZdH(h:p:=by simp only[Uaa] at k6;exact ZgT):p:=h
theorem ZdI(h:p:=by simp only[Uaa] at S5;exact ZgV):p:=h
theorem ZdJ(h:p:=by simp only[Uaa] at S6;exact ZgO):p:=h
theorem ZdK(h:p:=by simp only[Uaa] at S7;exact ZgN):p:=h
theorem ZdL(h:p:=by simp only[Uaa] at XA;exact ZgU):p:=h
theorem ZdM(h:p:=by simp only[Uaa] at k0;exact ae (w':=w3) (by simp[go_sem,h0,k0];done) ⟨af.refl _,rfl⟩):p:=h
theorem ZdN(h:p:=by
 generalize w1.alloc _=W1 at*;generalize w1.heap.size=tb at*;obtain⟨u0,u1,u2,u3,v0,v1,v2,v3⟩:=aI DL.out;obtain⟨c0,c1,c2,c3,f1,f2,f3⟩:=fw.out.at_.facts;rw[PZ.out] at c1;have e1:(ρ.n:Int) - ((r.length:Int)+1)+1=(ρ.n:Int) - r.length:=by omega
 exact KbH):p:=h
theorem ZdO(h:p:=by
 intro i w w' v h hl
 match i with
 | 0 | 1 | 2 | 3 | 4 | 5=>exact h
 | n+6=>exact h):p:=h
theorem zf7.KbQ(h:p:=by rw[ha] at r0;injection r0 with r0;refine ae (XK ρ w G cap (r0.symm.trans e1) r1) ?_;exact KbI):p:=h
theorem ZdP(h:p:=by open zf7 in exact Zd0):p:=h
theorem ZdQ(h:p:=by intro ρ w' vs hcs hG hr;refine⟨rfl,?_⟩;unfold execOp;simp only[Sem.run_bind,Array.map_empty,run_build w' 34 #[] z0 HZ.out,Result.andThen_ok];rfl):p:=h
theorem ZdR(h:p:=by have HS:=hid (HB.out.go aZ d);clear hp ay d HB HE jR;have HE:=bH;clear bH;go_upto_region 2 with fail;have HM:=kJ.new w1;have HG:=az (p:=w1.heap.size) (aa w1 (.map #[] 0));have zM:=HS.out.res.lt;refine wp_region_lit ?_;refine fH rfl 158 rfl ?_;exact KbJ):p:=h
theorem ZdS(h:p:=by rintro e w2 ⟨rfl,h2,d2⟩;have H2:=hid h2;have D2:=hid (D1.out.trans d2);have px:=hid (d2.blk mn.out kG Tac);have S9:=hid (d2.blk QX.out Fo Tac);clear h2 d2 H1 D1 mn QX x0 x1 x2 x3 x4 x5 x6 x7 p0;obtain⟨x0,x1,x2,x3,x4,x5,x6,x7⟩:=p8 px.out;have p0:=S9.out.cell 0;simp only[getElem?_toArray,getElem?_cons_zero] at p0;go_wp2_with fail;exact KbK):p:=h
theorem ZdT(h:p:=by
 have kh:=hid dx;have HL0:=hid hl;have RH:=hid P9;have HLEN:=hid (show s.data.toList.length=s.size by simp);clear dx hd hl P9 hq;go_enter Tryz.func125,Tryz.ntmps125;go_wp2_with (first
  |(go_at_call 92;refine(eW s[at_] _).mono ?_;rintro e w' ⟨rfl,rfl⟩;rw[HL0.out])
  |(go_at_call 93;refine(fU s[at_] _).mono ?_;rintro e w' ⟨rfl,rfl⟩;rw[RH.out]))
 exact KbL):p:=h
theorem ZdU(h:p:=by go_upto_region 1 with fail;change Code.wp _ _ _ _ ((w.alloc (.cells #[ρ.ptr] 77)).alloc (gi {}));generalize hW:(World.alloc _ _)=W0 at*;clear hW;have BO:w.heap.size+1 < W0.heap.size:=HS.out.res.lt;exact KbM):p:=h
theorem ZdV(h:p:=by intro ρ w1 hc hL hr;have h1:_=_:=hr.1;exact ae (w':=w1) (by simp[go_sem,h1]) ⟨vu.refl _,rfl,λ h=>by cases h⟩):p:=h
theorem ZdW(h:p:=by
 clear hX;go_wp2_with (first
  |(refine fM Tryz.underlying92 Tryz.underlying5 rfl _ _ _ rfl gm rfl _ rfl _ rfl hM TaQ ?_
    clear hM Lb
    intro wm hM hgr
    replace jn:=jn.trans (aJ hgr jn.size hle)
    have Lb:=(jn.cell (p:=⟨g1,15,none⟩) (bY U6.out)).trans U6.out
    clear hgr))
 exact KbN):p:=h
theorem ZdX(h:p:=by
 have Zw:rest <:+ s.data.toList:=(xX dY.out).trans (List.drop_suffix _ _);have hq:s.data.toList.drop (s.size - rest.length)=rest:=by have:=drop_suffix Zw;rwa [HLEN.out] at this
 have ahL:rest.length < s.size - a:=by have:=sL dY.out;rwa [length_drop,HLEN.out] at this
 have HQ:=hid hq;exact KbO):p:=h
theorem ZdY(h:p:=by exact⟨rfl,vI bb (Nat.le_refl _) _ _ _ _⟩):p:=h
theorem ZdZ(h:p:=by obtain⟨s,hs⟩:∃s,ks[i]?=some s:=⟨_,getElem?_eq_getElem Taa⟩;have hc:=xj (HD.out.blk HB.out (λ e=>hbg e.symm)) hs;have BX:=hid (rX hs);clear hs;exact KbP):p:=h
theorem Zd0(h:p:=by obtain⟨a,ha⟩:=Option.isSome_iff_exists.1 ha;rw[ha] at hG;obtain⟨k1,k2,k3,c,hc,hB,k5⟩:=hG;have hrow:=hB.row;obtain⟨G,cap,ys,y,e1,e2,e3,e4,e5,e6⟩:=hrow;exact KbQ):p:=h
theorem Zd1(h:p:=by show Qb _ _ _ _ _;unfold Qb;rw[hrun];exact iH w hG):p:=h
theorem Zd2(h:p:=by
 go_round;case rel=>exact⟨k+1,by omega,hlt,by go_num,xJ.out⟩
 case measure=>exact Zcj):p:=h
theorem Zd3(h:p:=by simp only[od,ha,hc,Nat.reduceEqDiff,if_true,if_false,Option.isSome_some];have hL:=hB.list Ft;rw[e1] at hL ⊢;exact⟨k1,k2,k3,c,rfl,hL,by rw[e1] at k5;exact k5⟩):p:=h
theorem Zd4(h:p:=by
 refine .inr λ ρ w hcs hG hr=>?_
 rw[t2] at hr;have r0:=hr.1;simp only[sG] at r0;exact⟨g2,ae (h2 ρ w (vX _ _ vW hG) hcs (r0.trans IJ)) ⟨af.refl _,rfl⟩⟩):p:=h
theorem Zd5(h:p:=by
 have n2:(z==2)=false:=by rw[beq_eq_false_iff_ne];omega
 have n6:(z==6)=false:=by rw[beq_eq_false_iff_ne];omega
 have n7:(z==7)=false:=by rw[beq_eq_false_iff_ne];omega
 have n3:(z==3)=false:=by rw[beq_eq_false_iff_ne];omega
 have hz5:0<=z/\z<=5:=by omega
 exact KbR):p:=h
theorem Zd6(h:p:=by intro ρ w vs hcs hG hr;rw[t0] at hr;have r0:=hr.1;simp only[sD] at r0;exact⟨g0,h0 ρ w (fo val e k cs bv Post w0 vW vX Rc _ _ hG) hcs (r0.trans FL)⟩):p:=h
theorem Zd7(h:p:=by
 refine .inr λ ρ w hcs hG hr=>?_
 rw[t1] at hr;have r0:=hr.1;simp only[sF] at r0;exact⟨g1,ae (h1 ρ w (vX _ _ vW hG) hcs r0) ⟨af.refl _,rfl⟩⟩):p:=h
theorem Zd8(h:p:=by simp only[Act.put,Uac];go_wp2_with fail;exact KbS):p:=h
theorem Zd9(h:p:=by rintro e w1 ⟨rfl,h1,d1⟩;have H1:=hid h1;have D1:=hid (HD.out.trans d1);have mn:=hid (d1.blk HB.out kG Tac);have QX:=hid (d1.blk HP.out Fo Tac);clear HS HD HB HP d1 h1 x0 x1 x2 x3 x4 x5 x6 x7 p0;obtain⟨x0,x1,x2,x3,x4,x5,x6,x7⟩:=p8 mn.out;have p0:=QX.out.cell 0;simp only[getElem?_toArray,getElem?_cons_zero] at p0;exact KbT):p:=h
theorem Zea(h:p:=by
 go_wp2_with fail;go_quiet (fail);go_wp2_with fail;go_roundw
 case rel=>
  refine⟨i+1,n+nq,by omega,by go_num,?_,?_⟩
  ·rw[<- HWN.out];exact uf W n nq
  ·rw[Zj.out,NV.out,gV,HP.out];rfl
 case measure=>exact Zcj):p:=h
theorem Zeb(h:p:=by
 have HO:=hid (hown.later bW);have hG:av ((w2.alloc (.cells (jz ⟨d,a⟩).toArray 81)).alloc (.cells (jz ⟨d,a⟩).toArray 81)) (w2.heap.size+1) 81 (jz ⟨d,a⟩).toArray:=by have:=av.new (w2.alloc (.cells (jz ⟨d,a⟩).toArray 81)) 81 (jz ⟨d,a⟩).toArray;simpa using this
 exact KbU):p:=h
theorem Zec(h:p:=by have HZ:=hid (av.new w 81 #[.int .u8 0,.string ⟨#[]⟩,.int .i64 0,.int .i64 0]);have bb:=aa w (.cells #[.int .u8 0,.string ⟨#[]⟩,.int .i64 0,.int .i64 0] 81);exact KbV):p:=h
theorem Zed(h:p:=by simp only[aB] at this ⊢;exact this):p:=h
theorem Zee(h:p:=by
 have d0:w2.cell? ⟨b,0,none⟩=some (.pointer (some ⟨b,0,none⟩)):=by rw[Lib.cell_of_heap hb2];rfl
 have d1:w2.cell? ⟨b,1,none⟩=some v:=by rw[Lib.cell_of_heap hb2];rfl
 have f1:w2.frozen? ⟨b,1,none⟩=false:=Lib.frozen_of_heap hb2 1;exact KbW):p:=h
theorem Zef(h:p:=by simp only[od,ha,hc,sJ,Nat.reduceEqDiff,if_true,if_false];exact⟨k1,k2,k3,c,rfl,hB,λ x e=>by injection e with e;exact⟨G,cap,e1,e.symm⟩⟩):p:=h
theorem Zeg(h:p:=by
 simp only[Uab];repeat (go_big_quiet_step (fail))
 exact KbX):p:=h
theorem Zeh(h:p:=by have Io:=HA.out.res.later hW;have ZU:=HA.out.blk.later hW;have hqb:=Io.lt;obtain⟨z0,z1,z2,z3,z4,z5,z6⟩:=gI Io;obtain⟨y0,y1,y2,y3,y4,y5,y6⟩:=cf Io;obtain⟨x0,x1,x2,x3,x4,x5,x6⟩:=dV ZU;have dY:=hid Io;clear Io ZU;go_wp2_with fail;exact KbY):p:=h
theorem Zei(h:p:=by simp only[od,ha,k1,k2,k3,Nat.reduceEqDiff,if_true,if_false];exact⟨trivial,trivial,trivial,λ x e=>by injection e with e;exact e.symm,hA⟩):p:=h
theorem Zej(h:p:=by
 intro i z oo hz ho Wr s' n' dW hW hc;obtain⟨x,hx,rfl⟩:∃x,l[i]?=some x/\Tr.whole x=oo:=by simpa [getElem?_map] using ho
 have hr:=oG HA.out hx hz;have yH:=HF.out x (mem_of_getElem? hx);have yh:=lr (mem_of_getElem? hx);exact KbZ):p:=h
theorem Zek(h:p:=by obtain⟨c0,c1,c2,d0,d1,d2,d3⟩:=hp;obtain⟨y0,y1,y2,z0,z1,z2,z3⟩:=Xu;obtain⟨x0,x1,x2,v0,v1,v2,v3⟩:=Q0;unfold xh at y0 y1 y2 z0 z1 z2 z3;exact Kb0):p:=h
theorem Zel(h:p:=by intro ρ w3 hc hL hr;have h0:_=_:=hr.1;exact ae (w':=w3) (by simp[go_sem,hc.const,h0,XE.out,ByteArray.toList_eq];done) ⟨af.refl _,rfl⟩):p:=h
theorem Zem(h:p:=by have x2:=(d2.blk HX.out kG Tac).cell 2;have x3:=(d2.blk HX.out kG Tac).cell 3;have x4:=(d2.blk HX.out kG Tac).cell 4;have x5:=(d2.blk HX.out kG Tac).cell 5;have x6:=(d2.blk HX.out kG Tac).cell 6;exact Kb1):p:=h
theorem Zen(h:p:=by have Mh:=hC'.out.later b1;have mn:=hid (af.then VJ.out b1);have e1:=Mh.at_.cell 0;have e2:=Mh.er.cell 0;simp only[getElem?_toArray,getElem?_cons_zero] at e1 e2;have f1:=Mh.at_.frozen 0;have f2:=Mh.er.frozen 0;have hlt:=Mh.lt;exact Kb2):p:=h
theorem Zeo(h:p:=by go_wp2_with fail;refine(cn ⟨#[41]⟩ w7 H7.out.st Tac TaZ).mono ?_;rintro e w8 ⟨rfl,h8,d8⟩;have H8:=hid (H7.out.next hx hf h8 d8);clear h8 d8 H7;go_wp2_with fail;go_end0;refine⟨rfl,?_,H8.out.did⟩;exact Kb3):p:=h
theorem Zep(h:p:=by simpa using this):p:=h
theorem Zeq(h:p:=by
 intro j u hu;have:(Addr.add ⟨g,0,none⟩ j)=⟨g,j,none⟩:=by unfold Addr.add;split <;> simp_all
 rw[this,hg.cell];simpa using hu):p:=h
theorem Zer(h:p:=by have dY:=hid (HC.out.2 m jx);have HG:=hid pT.out.did.grown;clear hp au jx pT HC;go_wp2_with fail;exact aj rfl (bl dY.out HG.out hg)):p:=h
theorem Zes(h:p:=by rcases hu with rfl | rfl | rfl | rfl | rfl | rfl | rfl | rfl <;> rfl):p:=h
theorem Zet(h:p:=by go_wp2_with fail;refine HF.out.mono ?_;rintro e w2 ⟨rfl,hg2⟩;exact aj rfl (GP.err HE.out ⟨rfl,ai HS.out.did.grown hg2⟩)):p:=h
theorem Zeu(h:p:=by
 split at h
 ·injection h with h;injection h with h1 h2;subst h1;exact⟨⟨by simp,by simp⟩,λ e=>by simp at e⟩
 ·cases h):p:=h
theorem Zev(h:p:=by
 have lx:=HD.out.size;have kG:wr.heap.size≠b:=by have:=HS.out.lt;omega
 have nE:=hid (HS.out.later bx);have fw:=hid (HD.out.later bx hsz);exact Kb4):p:=h
theorem Zew(h:p:=by
 have iI:=hid ay;have hgx:γ.ρ.g < w2.heap.size:=by have:=d2.lt;omega
 clear hp d2 ay HA HD p0;go_upto_region 1 with fail;generalize hW2:(w2.alloc _)=W2 at*;clear hW2;have p0:=(fV.out.grown F xB.out).ptr;have hx2:=oq.out.lt;exact Kb5):p:=h
theorem Zex(h:p:=by intro e w' hp;unfold kz at hp;rw[h] at hp;obtain⟨v,rfl,ho,hb⟩:=hp;obtain⟨A,c,rfl⟩:=ho.form;exact⟨A,c,rfl,ho,hb⟩):p:=h
theorem Zey(h:p:=by rw[mem_singleton] at hc;subst hc;simp only[aH,UInt8.le_iff_toNat_le,Bool.and_eq_true,decide_eq_true_eq,hb];simp;omega):p:=h
theorem Zez(h:p:=by
 have pQ:=hid (HS.out.Qz (w2:=wm) aZ HG Taa Taa (λ p hp=>by simp at hp));have ox:w1.heap.size < wm.heap.size:=by have:=Ns.out;unfold kJ at this;exact(Array.getElem?_eq_some_iff.mp this).1
 clear HM HG HS;exact Kb6):p:=h
theorem ZeA(h:p:=by
 have:bu v name width=false:=by
  cases hp:bu v name width
  ·rfl
  ·exact absurd ⟨hn.trans hl.symm,hp⟩ hb2
 simp[this]):p:=h
theorem ZeB(h:p:=by simp only[od,ha,k1,k2,k3,Nat.reduceEqDiff,if_true,if_false];exact⟨trivial,trivial,trivial,k4,hA.call Ft hB0 hat dd⟩):p:=h
theorem ZeC(h:p:=by
 by_cases e:ar s l=true
 ·simp only[e,if_true]
 ·simp only[e];rfl):p:=h
theorem ZeD(h:p:=by simp only[aD,aV,Bool.and_eq_true] at h;have li:=dU h.1;exact ZbR):p:=h
theorem ZeE(h:p:=by rw[ha,h8,h10] at hG;obtain⟨_,_,_,c,_,hB,_⟩:=hG;exact dfr _ _ _ _ _ _ λ a' ha'=>rZ a' w ha' ⟨a,hB.done⟩ hB.did):p:=h
theorem ZeF(h:p:=by
 rintro C a W' hdf ⟨rfl,hg⟩;have hE:ri γ.ρ γ.W0 (λ t=>decide (32 < t.depth)) ey (γ.acc eJ 36) acc lg dp l (.panicked [qH (γ.ρ.placeOf m)]) W':=ri.err hx ⟨rfl,hg⟩;try simp only[Exit.inBlock,Exit.then]
 exact Kb7):p:=h
theorem ZeG(h:p:=by have RH:=hid L9;clear L9;go_enter Tryz.func88,Tryz.ntmps88;go_wp2_with fail;refine HR.out.mono ?_;rintro e w1 ⟨rfl,b1⟩;go_wp2_with (go_at_call 105;refine(mW s[0] _).mono ?_;rintro e w' ⟨rfl,rfl⟩;rw[RH.out]);exact Kb8):p:=h
theorem ZeH(h:p:=by simp only[aD,aV,Bool.and_eq_true] at h;exact gX h.1 no no no no):p:=h
theorem ZeI(h:p:=by simp only[od,ha,hc,Nat.reduceEqDiff,if_true,if_false,Option.isSome_some];exact⟨k1,k2,k3,_,rfl,hB.elem Ft e7,k5⟩):p:=h
theorem ZeJ(h:p:=by rwa [show zs.length=fuel+1 by omega] at this):p:=h
theorem ZeK(h:p:=by intro ρ w3 hc hL hr;exact Zaq):p:=h
theorem ZeL(h:p:=by
 rcases Nat.lt_or_ge at_ s.size with h | h
 ·exact h
 ·rw[drop_eq_nil_of_le Tam] at hd;cases hd):p:=h
theorem ZeM(h:p:=by
 rcases Nat.lt_or_ge s.size at_ with h | h
 ·rw[drop_eq_nil_of_le Tad] at hd;cases hd
 ·exact h):p:=h
theorem ZeN(h:p:=by clear QP;go_wp2_with fail;refine(mG jK s at_ k g _ BN.out.1 hle hs).mono ?_;rintro e w' ⟨rfl,rfl⟩;exact ZaM):p:=h
theorem ZeO(h:p:=by clear hp ay HE;have HE:=bH;clear bH;have hX:=d.blk HA.out.blk Taf;have hc:uF.cell? ⟨b,17,none⟩=_:=hX.cell 17;have hf:uF.frozen? ⟨b,17,none⟩=_:=hX.frozen 17;exact Kb9):p:=h
theorem ZeP(h:p:=by clear hlb;go_wp2_with (go_at_call 93;refine(fU s[k] _).mono ?_;rintro e w' ⟨rfl,rfl⟩;rw[HD.out]);refine HN.out.mono ?_;unfold lI;rw[HE.out,OU.out];rintro e w1 ⟨he,rfl⟩;rw[if_pos rfl] at he;subst he;exact Kca):p:=h
theorem ZeQ(h:p:=by
 have Ed:l[k]?=some o:=by have:=congrArg (λ x=>x[0]?) hk;simpa using this
 have abO:k < l.length:=by
  rcases Nat.lt_or_ge k l.length with h' | h'
  ·exact h'
  ·rw[getElem?_eq_none h'] at Ed;cases Ed
 exact Kcb):p:=h
theorem ZeR(h:p:=by intro ρ' w' hH hc h';simp[go_sem,h',hH.2]):p:=h
theorem ZeS(h:p:=by intro ρ' w' hc';simp[go_sem,hc'.const,dz]):p:=h
theorem ZeT(h:p:=by intro ρ' w' h';rw[<- UU];simp[go_sem,h']):p:=h
theorem ZeU(h:p:=by clear hp ay HE;have HE:=bH;clear bH;have hX:=d.blk HA.out.blk Taf;have hc:w15.cell? ⟨b,4,none⟩=_:=hX.cell 4;have hf:w15.frozen? ⟨b,4,none⟩=_:=hX.frozen 4;exact Kcc):p:=h
theorem ZeV(h:p:=by simp only[od,ha,k1,k2,k3,Nat.reduceEqDiff,if_true,if_false];exact⟨trivial,trivial,trivial,k4,hA.F8 Ft⟩):p:=h
theorem ZeW(h:p:=by intro ρ w vs hc hG hr;rw[t1] at hr;have r0:=hr.1;simp only[s1] at r0;exact⟨g1,Pj ρ w r0 (AJ _ _ hG)⟩):p:=h
theorem ZeX(h:p:=by go_enter Tryz.func104,Tryz.ntmps104;go_wp2_with fail;refine(mG CM s at_ at_ g _ (hL.alloc _) ha hs).mono ?_;rintro e w' ⟨rfl,rfl⟩;generalize hk:dR cj s.data.toList at_=k at*;have HK:=hid hk;clear hk;exact Kcd):p:=h
theorem ZeY(h:p:=by intro ρ w vs hc hG hr;rw[t0] at hr;have r0:=hr.1;simp only[s0] at r0;exact⟨g0,Xx ρ w (r0.trans hq)⟩):p:=h
theorem ZeZ(h:p:=by intro ρ w vs hc hG hr;rw[t2] at hr;have r0:=hr.1;simp only[s2] at r0;exact⟨g2,Q5 ρ w (r0.trans h0)⟩):p:=h
theorem Ze0(h:p:=by intro ρ w vs hc hG hr;rw[t6] at hr;have r0:=hr.1;simp only[s6] at r0;exact⟨g6,Ti ρ w (r0.trans hq)⟩):p:=h
theorem Ze1(h:p:=by go_enter Tryz.func90,Tryz.ntmps90;go_wp2_with fail;generalize w.alloc (.cells #[.int .u8 v.k,.int .i64 v.n,.string v.s] 32)=W at*;refine(vd v W).mono ?_;rintro e w1 ⟨rfl,b1⟩;rw[hg];go_wp2_with fail;exact Kce):p:=h
theorem Ze2(h:p:=by unfold wk;rw[hrun];exact(iH w hG).mono λ e w' ⟨y,he,hp⟩=>⟨val y,he,y,w,w',rfl,hG,hp,af.refl _⟩):p:=h
theorem Ze3(h:p:=by exact⟨λ hn=>(by rw[hg] at hn;cases hn),λ _=>rfl⟩):p:=h
theorem Ze4(h:p:=by simp only[Uaa] at Fj Fk Fl;exact Zc1):p:=h
theorem Ze5(h:p:=by rw[HA.out.name,wz.out] at this;exact Zb6):p:=h
theorem Ze6(h:p:=by simp only[aB] at this;exact this):p:=h
theorem Ze7(h:p:=by
 have hx:=Hn hres;have dY:=hid hres;have n1:((x:Int)==0)=false:=by rcases hx with rfl | rfl <;> rfl
 have n2:((x:Int) != 0)=true:=by rcases hx with rfl | rfl <;> rfl
 have n3:¬((x:Int)=0):=by omega
 exact Kcf):p:=h
theorem Ze8(h:p:=by simp only[aB,ByteArray.data_append,Array.toList_append,toList_toArray] at this ⊢;exact this):p:=h
theorem Ze9(h:p:=by exact⟨rfl,rfl,rfl,rfl,rfl,[],.inl rfl,Tr.all_nil⟩):p:=h
theorem Zfa(h:p:=by
 intro i w w' v h hl
 match i with
 | 0 | 1 | 2 | 3 | 4 | 5 | 6 | 7 | 8 | 9=>exact h
 | n+10=>exact h):p:=h
theorem Zfb(h:p:=by
 intro ρ w3 hc hL hr;intro hg;have hg:ρ (.tmp 104)=.bool vS:=hg;cases vS
 ·exact Zae
 ·exact ZaC):p:=h
theorem Zfc(h:p:=by
 intro ρ w3 hc hL hr;intro hg;have hg:ρ (.tmp 111)=.bool AO:=hg;cases AO
 ·exact Zae
 ·exact ZaC):p:=h
theorem Zfd(h:p:=by exact ae (v:=.bool b1) (w':=w3) Tah ⟨af.refl _,rfl⟩):p:=h
theorem Zfe(h:p:=by exact ae (v:=.bool b2) (w':=w3) Tah ⟨af.refl _,rfl⟩):p:=h
theorem Zff(h:p:=by exact ae (v:=.bool b3) (w':=w3) Tah ⟨af.refl _,rfl⟩):p:=h
theorem Zfg(h:p:=by exact ae (v:=.bool b4) (w':=w3) Tah ⟨af.refl _,rfl⟩):p:=h
theorem Zfh(h:p:=by exact ae (v:=.bool b5) (w':=w3) Tah ⟨af.refl _,rfl⟩):p:=h
theorem Zfi(h:p:=by exact ae (v:=.bool b6) (w':=w3) Tah ⟨af.refl _,rfl⟩):p:=h
theorem Zfj(h:p:=by exact ae (v:=.bool b7) (w':=w3) Tah ⟨af.refl _,rfl⟩):p:=h
theorem Zfk(h:p:=by exact ae (v:=.bool b8) (w':=w3) Tah ⟨af.refl _,rfl⟩):p:=h
theorem Zfl(h:p:=by exact ae (v:=.bool b9) (w':=w3) Tah ⟨af.refl _,rfl⟩):p:=h
theorem Zfm(h:p:=by exact ae (v:=.bool vQ) (w':=w3) Tah ⟨af.refl _,rfl⟩):p:=h
theorem Zfn(h:p:=by exact ae (v:=.bool vR) (w':=w3) Tah ⟨af.refl _,rfl⟩):p:=h
theorem Zfo(h:p:=by exact ae (v:=.bool vS) (w':=w3) Tah ⟨af.refl _,rfl⟩):p:=h
theorem Zfp(h:p:=by exact ae (v:=.bool AO) (w':=w3) Tah ⟨af.refl _,rfl⟩):p:=h
theorem Zfq(h:p:=by exact ae (v:=.bool S1) (w':=w3) Tah ⟨af.refl _,rfl⟩):p:=h
theorem Zfr(h:p:=by exact ae (v:=.bool vb) (w':=w3) (by rw[e2];simp[go_sem,h0,h1,q1,q2,q3];done) ⟨af.refl _,rfl⟩):p:=h
theorem Zfs(h:p:=by rw[h0] at hz;exact absurd hz Tae):p:=h
theorem Zft(h:p:=by rintro e w2 ⟨rfl,h2,d2⟩;have H2:=hid (HH.out.next hg0 hg1 h2 d2);clear h2 d2 HH p0;exact Zbt):p:=h
theorem Zfu(h:p:=by
 intro ρ w3 hc hL hr;intro hg;have hg:ρ (.tmp 12)=.bool b0:=hg;cases b0
 ·exact Zae
 ·exact ZaC):p:=h
theorem Zfv(h:p:=by
 intro ρ w3 hc hL hr;intro hg;have hg:ρ (.tmp 19)=.bool b1:=hg;cases b1
 ·exact Zae
 ·exact ZaC):p:=h
theorem Zfw(h:p:=by
 intro ρ w3 hc hL hr;intro hg;have hg:ρ (.tmp 26)=.bool b2:=hg;cases b2
 ·exact Zae
 ·exact ZaC):p:=h
theorem Zfx(h:p:=by
 intro ρ w3 hc hL hr;intro hg;have hg:ρ (.tmp 33)=.bool b3:=hg;cases b3
 ·exact Zae
 ·exact ZaC):p:=h
theorem Zfy(h:p:=by
 intro ρ w3 hc hL hr;intro hg;have hg:ρ (.tmp 40)=.bool b4:=hg;cases b4
 ·exact Zae
 ·exact ZaC):p:=h
theorem Zfz(h:p:=by
 intro ρ w3 hc hL hr;intro hg;have hg:ρ (.tmp 49)=.bool b5:=hg;cases b5
 ·exact Zae
 ·exact ZaC):p:=h
theorem ZfA(h:p:=by
 intro ρ w3 hc hL hr;intro hg;have hg:ρ (.tmp 56)=.bool b6:=hg;cases b6
 ·exact Zae
 ·exact ZaC):p:=h
theorem ZfB(h:p:=by
 intro ρ w3 hc hL hr;intro hg;have hg:ρ (.tmp 63)=.bool b7:=hg;cases b7
 ·exact Zae
 ·exact ZaC):p:=h
theorem ZfC(h:p:=by
 intro ρ w3 hc hL hr;intro hg;have hg:ρ (.tmp 70)=.bool b8:=hg;cases b8
 ·exact Zae
 ·exact ZaC):p:=h
theorem ZfD(h:p:=by
 have uG:=HW9.out;rw[HA.out.what] at uG;have hx:=HX.out;have Lc:=HXE.out;rw[hx] at Lc;rw[HA.out.what] at hx Lc;have Wb:(!xe)= !(yz s.what== []):=by rw[<- Lc];cases yz s.what <;> rfl
 unfold Ce;exact Kcg):p:=h
theorem ZfE(h:p:=by exact ae (v:=.bool c13) (w':=w3) (by rw[e2];simp[go_sem,h0,h1,q3];done) ⟨af.refl _,rfl⟩):p:=h
theorem ZfF(h:p:=by exact ae (v:=.bool c14) (w':=w3) (by rw[e2];simp[go_sem,h0,h1,q3];done) ⟨af.refl _,rfl⟩):p:=h
theorem ZfG(h:p:=by unfold Instr.mapUpdate;simp only[Sem.run_bind,run_underlying hT,Result.andThen_ok,MapKept.run_getObj_map hg,hk,Instr.findKey,run_underlying hK,hf,Sem.run_pure,MapKept.run_setObj_map _ hg];exact Kch):p:=h
theorem ZfH(h:p:=by obtain⟨x,hx⟩:∃x,ys[i]?=some x:=⟨_,getElem?_eq_getElem TaZ⟩;obtain⟨u,hu⟩:∃u,zs[i]?=some u:=⟨_,getElem?_eq_getElem (by have:=xg.out;omega)⟩;exact Kci):p:=h
theorem ZfI(h:p:=by rw[hr] at hrun;injection hrun with _ hw;rw[<- hw];exact(af.drew w).alloc (Nat.le_refl _) _):p:=h
theorem ZfJ(h:p:=by have t1:decide ((0:Int)<(k:Int))=true:=decide_eq_true Taa;have t2:decide (0 < k)=true:=decide_eq_true Taa;exact Kcj):p:=h
theorem ZfK(h:p:=by exact⟨rfl,Below.refl _ _⟩):p:=h
theorem ZfL(h:p:=by exact⟨v',w',hrun,Cv,hx.far pP hq Tac⟩):p:=h
theorem ZfM(h:p:=by simp only[aB,toList_toArray,cons_append,nil_append] at this ⊢;exact this):p:=h
theorem ZfN(h:p:=by clear hz;go_enter Tryz.func157,Tryz.ntmps157;go_wp2_with fail;go_ret2;exact Km HB.out rfl):p:=h
theorem ZfO(h:p:=by simp only[Result.andThen];rw[Oper.upon_value];go_wp2_with fail;go_end0;exact⟨rfl,rfl⟩):p:=h
theorem ZfP(h:p:=by
 intro i w w' v h hl
 match i with
 | 0 | 1 | 2 | 3 | 4 | 5 | 6 | 7=>exact h
 | n+8=>exact h):p:=h
theorem ZfQ(h:p:=by rw[ha] at h;obtain⟨h1,h2,h3,c,h4,h5,h6⟩:=h;exact⟨h1,h2,h3,c,h4,h5.later F hb,h6⟩):p:=h
theorem ZfR(h:p:=by rw[append_assoc,append_assoc];show lG _=_;rw[<- append_assoc];exact this):p:=h
theorem ZfS(h:p:=by exact⟨y,w1,eD,h1,h2,h3,h4.trans (af.drew _)⟩):p:=h
theorem ZfT(h:p:=by exact ae (w':=w3) (by simp[go_sem,h0,k7,k8,k9,Pm,Pn,Po,Pp,Pq];done) ⟨af.refl _,rfl⟩):p:=h
theorem ZfU(h:p:=by rintro e w4 ⟨rfl,b4⟩;exact⟨_,rfl,b4,rfl⟩):p:=h
theorem ZfV(h:p:=by intro ρ w3 hc hL hr;have h0:_=_:=hr.1;have k0:=(av.later H0.out.p hL).cell 0;exact Zaw):p:=h
theorem ZfW(h:p:=by intro ρ w3 hc hL hr;have h0:_=_:=hr.1;have k0:=(av.later H1.out.p hL).cell 0;exact Zaw):p:=h
theorem ZfX(h:p:=by go_wp2_with fail;refine hm.mono ?_;clear hm;rintro e w5 ⟨rfl,d⟩;have BP:=hid (oF.out.trans d);have Yf:=hid (d.blk Ct.out Taa);clear d oF Ct;generalize Z6:w5=W5 at*;clear Z6;exact Kck):p:=h
theorem ZfY(h:p:=by
 have HQ:=hid (av.new w 36 #[.int .u8 0,.int .u8 0,.int .i64 0,.string ⟨#[]⟩,.string ⟨#[]⟩,.int .i64 0,.slice none 0 0]);have hsz:(w.alloc uT).heap.size=w.heap.size+1:=by simp
 exact Kcl):p:=h
theorem ZfZ(h:p:=by go_ret3;unfold kz;rw[rT.out,fV.out.more,JO.out,SX rfl];exact⟨v2,rfl,O2.out,B2.out⟩):p:=h
theorem Zf0(h:p:=by go_wp2_with fail;go_end0;refine⟨rfl,?_,D1.out⟩;rw[cX];exact H1.out.more Taa):p:=h
theorem Zf1(h:p:=by exact Nd.put aZ (Nat.le_refl _) (HA.out.did.later hW) (Tr.at_.keep (jF (Nat.le_refl _)) _ _ (Tr.at_.keep (gB hW) _ _ HA.out.tr))):p:=h
theorem Zf2(h:p:=by rintro e w2 ⟨rfl,h2,d2⟩;have H2:=hid (HW.out.next hx hf h2 d2);clear h2 d2 HW x0 x1 x2 x3 x4 x5 x6 f0 f1;obtain⟨x0,x1,x2,x3,x4,x5,x6⟩:=H2.out.x.cells;dsimp only at x0 x1 x2 x3 x4 x5 x6;go_wp2_with fail;exact Kcm):p:=h
theorem Zf3(h:p:=by subst mm;have HT:=hid (kX HJ.out);have x0:=HX.out.cell 0;have x1:=HX.out.cell 1;have x2:=HX.out.cell 2;have x3:=HX.out.cell 3;have x4:=HX.out.cell 4;have x5:=HX.out.cell 5;have x6:=HX.out.cell 6;exact Kcn):p:=h
theorem Zf4(h:p:=by rw[ha] at hG;obtain⟨k1,k2,k3,k4,hA⟩:=hG;rw[sJ] at hA;have hrun:=gw ρ w hcs r0;unfold wk;rw[hrun];refine(iH w (hA.no rfl).at_).mono ?_;rintro e w' ⟨y,rfl,hat,dd⟩;refine⟨dA y,rfl,?_⟩;exact Kco):p:=h
theorem Zf5(h:p:=by
 have HQ:=hid (av.new w 36 dz);have HD:=hid (aU.aA h hb);have hsz:(w.alloc (.cells dz 36)).heap.size=w.heap.size+1:=by simp
 exact Kcp):p:=h
theorem Zf6(h:p:=by simp only[Uaa] at x0 x1 x2 x3 x4 x5 x6;go_wp2_with fail;exact Kcq):p:=h
theorem Zf7(h:p:=by obtain⟨x0,x1,x2,x3,x4,x5,x6⟩:=H1.out.x.cells;dsimp only at x0 x1 x2 x3 x4 x5 x6;have yY:=hw.trans H1.out.did.below;obtain⟨k0,k1,k2,k3,k4,k5,k6⟩:=A0.out.later yY;go_wp2_with fail;exact Kcr):p:=h
theorem Zf8(h:p:=by go_end0;exact ri.ok HE.out ⟨_,LY.out⟩ LZ.out):p:=h
theorem Zf9(h:p:=by
 rw[HXL.out];by_cases hq:q=[48]
 ·exact hq
 ·exact absurd ⟨by rw[zI.out,QP],hq⟩ hb):p:=h
theorem Zga(h:p:=by
 have Ci:∀fn first cap w,(Instr.makeFunc fn first cap).run Tryz.prog w=.ok (.func fn first cap) w:=λ _ _ _ _=>rfl
 exact Kcs):p:=h
theorem Zgb(h:p:=by have HS:=hid (HB.out.go aZ d);clear hp ay d HB HE jR;have HE:=bH;clear bH;have p0:=HS.out.ptr;go_wp2_with fail;refine(dN ρ w1 l2 _ _ HS.out.did.at_).mono ?_;clear p0;intro e w3 hp;exact Kct):p:=h
theorem Zgc(h:p:=by
 have afP:=yr.out.lt;have KR:=(K5.out.trans (aJ g1 Taa Taa)).trans (aJ g2 TaI Taa);refine xD QV BV.out rfl rfl rfl λ w' hb=>?_
 unfold lM;exact Kcu):p:=h
theorem Zgd(h:p:=by clear hs2 wy;go_wp2_with fail;go_end0;exact⟨rfl,by rw[je];exact rk.out,eC.out⟩):p:=h
theorem Zge(h:p:=by unfold aL at*;simp only[cons_append,nil_append] at eC oq xB;go_upto_region 1 with fail;generalize hW2:(w2.alloc _)=W2 at*;clear hW2;have p0:=(fV.out.grown F xB.out).ptr;exact Kcv):p:=h
theorem Zgf(h:p:=by rw[bK];simp only[h,if_true]):p:=h
theorem Zgg(h:p:=by simp[Rows.uptoBulk]):p:=h
theorem Zgh(h:p:=by rw[bK];simp only[h];rfl):p:=h
theorem Zgi(h:p:=by intro ρ' w' G cap pV mV;simp[go_sem,pV,mV];intro hh;exact absurd hh Taa):p:=h
theorem Zgj(h:p:=by
 have tV:op=20\/op=22\/op=23\/op=24\/op=25\/op=26\/op=27\/op=28:=by unfold jV at hf;simp only[Bool.or_eq_true,Bool.and_eq_true,decide_eq_true_eq,beq_iff_eq] at hf;omega
 exact Kcw):p:=h
theorem Zgk(h:p:=by exact bM aZ eC.out iO.out iI.out):p:=h
theorem Zgl(h:p:=by rw[ha] at h;obtain⟨h1,h2,h3,h4,h5⟩:=h;exact⟨h1,h2,h3,h4,h5.later F hb⟩):p:=h
theorem Zgm(h:p:=by obtain⟨⟨l⟩⟩:=s;rw[ByteArray.toList_eq] at h;have h:l=[]:=h;subst h;rfl):p:=h
theorem Zgn(h:p:=by intro ρ w σ hcs hG hr he hno;rw[t6] at hr;have r0:=hr.1;simp only[yK] at r0;unfold lz at r0;rw[if_pos Tac] at r0;have r1:=hr.2.1;simp only[IK] at r1;unfold lz at r1;exact Kcx):p:=h
theorem Zgo(h:p:=by intro ρ w σ hcs hG hr he hno;rw[t7] at hr;have r0:=hr.1;simp only[FN] at r0;unfold lz at r0;rw[if_pos Tac] at r0;have r1:=hr.2.1;simp only[UT] at r1;unfold lz at r1;exact Kcy):p:=h
theorem Zgp(h:p:=by intro ρ' w' v' x' u' We pV mV rq;exact Za7):p:=h
theorem Zgq(h:p:=by
 have c0:w1.cell? ⟨b,0,none⟩=some (.pointer (some ⟨b,0,none⟩)):=by rw[Lib.cell_of_heap ub];rfl
 have c1:w1.cell? ⟨b,1,none⟩=some v:=by rw[Lib.cell_of_heap ub];rfl
 exact Kcz):p:=h
theorem Zgr(h:p:=by rw[hres] at hp;obtain⟨rfl,hat⟩:=hp;obtain⟨z0,z1,z2,z3,y0,y1,y2,y3⟩:=aI (hat.other xg.out.res hne);have iO:=hid hat;have dY:=hid hres;clear hres hat;go_wp2_with fail;exact KcA):p:=h
theorem Zgs(h:p:=by clear hb HA;unfold aK strOf at hm HB;simp only[map_cons,map_nil] at hm HB;rw[show aG.toArray= #[41] from rfl] at hm HB;go_wp2_with fail;refine hm.mono ?_;clear hm;exact KcB):p:=h
theorem Zgt(h:p:=by exact .zg (Dm _ Ky) (λ r hr=>by rw[hwd,e];exact l1 r hr) ⟨_,_,hwd,l2⟩):p:=h
theorem Zgu(h:p:=by rw[Array.getElem?_eq_none CE] at h;cases h):p:=h
theorem Zgv(h:p:=by simpa [Lit.wf,IntKind.min,IntKind.max,IntKind.signed,IntKind.bits] using h):p:=h
theorem Zgw(h:p:=by rintro e w3 ⟨rfl,h3,d3⟩;have H3:=hid h3;have D3:=hid (D2.out.trans d3);clear h3 d3 H2 D2 x0 x1 x2 x3 x4 x5 x6 x7 p0;go_wp2_with fail;go_end0;refine⟨rfl,?_,D3.out⟩;exact KcC):p:=h
theorem Zgx(h:p:=by rw[getElem?_eq_none h'] at h;cases h):p:=h
theorem Zgy(h:p:=by exact ae (Ky ρ w (r0.trans IJ) (A.later Ft hG).ptr) ⟨af.refl _,rfl⟩):p:=h
theorem Zgz(h:p:=by exact ae (w':=w3) (by simp[go_sem,h0,Pr,Pt,Pu];done) ⟨af.refl _,rfl⟩):p:=h
theorem ZgA(h:p:=by go_wp2_with fail;refine HK.out _ _ (HO.out _ _ ⟨rfl,rfl,rfl⟩ H3.out)):p:=h
theorem ZgB(h:p:=by refine wp_region_lit ?_;refine gO rfl 34 #[] rfl (cs:=z0) (by simpa using HZ.out) ?_;simp only[Act.put,Uac];exact KcD):p:=h
theorem ZgC(h:p:=by intro a' w' hdf nZ hdd;have hE:ri γ.ρ γ.W0 (λ t=>decide (32 < t.depth)) ey (γ.acc eJ 36) acc lg dp l (.returned (.tuple #[])) w':=ri.ok hx nZ hdd;go_wp2_with fail;exact KcE):p:=h
theorem ZgD(h:p:=by go_wp2_with fail;go_ret;refine⟨jC ?_,rfl⟩;rw[HS.out,sV hle];rw[HD.out,bG,HB.out,if_neg Tac,if_neg];exact KcF):p:=h
theorem ZgE(h:p:=by rw[vC];exact He hx (hE.e3 (Nat.le_refl _)).2 (hE.e3 (Nat.le_refl _)).1):p:=h
theorem ZgF(h:p:=by
 go_wp2_with fail;go_roundw;case rel=>exact ZcR
 case measure=>exact Zcj):p:=h
theorem ZgG(h:p:=by clear hl;go_wp2_with fail;go_ret2;exact⟨by rw[HR.out];rfl,B1.out⟩):p:=h
theorem ZgH(h:p:=by
 have HQ:=hid hq;have t1:(((s[k].toNat:Nat):Int)==39)=false:=by rw[beq_eq_false_iff_ne];intro h;exact hq (UInt8.toNat_inj.1 (by simpa using(by omega:s[k].toNat=39)))
 exact KcG):p:=h
theorem ZgI(h:p:=by skip;have jo:=hid (show false=C by rw[HC.out];simp[nB,c4]);exact Zar):p:=h
theorem ZgJ(h:p:=by simp only[Nat.add_zero] at k0;have HJ:=hid hoi;clear hcell hc hz hoi hwr;subst mr;go_upto_region 4 with fail;exact KcH):p:=h
theorem ZgK(h:p:=by go_ret;exact⟨by rw[HGM.out];rfl,by rw[<- HGM.out];exact hM,jn⟩):p:=h
theorem ZgL(h:p:=by unfold cz;rw[length_append,flatMap_append];simpa using h2):p:=h
theorem ZgM(h:p:=by go_wp2_with fail;have bb:=aa w (.cells #[.int .u8 v.k,.int .i64 v.n,.string v.s] 32);generalize w.alloc (.cells #[.int .u8 v.k,.int .i64 v.n,.string v.s] 32)=W at*;exact KcI):p:=h
theorem ZgN(h:p:=by exact ae (w':=w3) (by simp[go_sem,h0,S7];done) ⟨af.refl _,rfl⟩):p:=h
theorem ZgO(h:p:=by exact ae (w':=w3) (by simp[go_sem,h0,S6];done) ⟨af.refl _,rfl⟩):p:=h
theorem ZgP(h:p:=by exact ae (w':=w3) (by simp[go_sem,h0,k2];done) ⟨af.refl _,rfl⟩):p:=h
theorem ZgQ(h:p:=by exact ae (w':=w3) (by simp[go_sem,h0,k3];done) ⟨af.refl _,rfl⟩):p:=h
theorem ZgR(h:p:=by exact ae (w':=w3) (by simp[go_sem,h0,k4];done) ⟨af.refl _,rfl⟩):p:=h
theorem ZgS(h:p:=by exact ae (w':=w3) (by simp[go_sem,h0,k5];done) ⟨af.refl _,rfl⟩):p:=h
theorem ZgT(h:p:=by exact ae (w':=w3) (by simp[go_sem,h0,k6];done) ⟨af.refl _,rfl⟩):p:=h
theorem ZgU(h:p:=by exact ae (w':=w3) (by simp[go_sem,h0,XA];done) ⟨af.refl _,rfl⟩):p:=h
theorem ZgV(h:p:=by exact ae (w':=w3) (by simp[go_sem,h0,S5];done) ⟨af.refl _,rfl⟩):p:=h
theorem ZgW(h:p:=by
 intro l;have h:=this l
 match l with
 | []=>exact h
 | t::r=>exact h):p:=h
theorem ZgX(h:p:=by rintro e w1 ⟨rfl,b1⟩;have nE:=hid (HS.out.later b1);have fw:=hid (HD.out.later b1 hsz);have mn:=hid (HB.out.later b1);clear HS HD HB b1 x0 x1 x2 x3 x4 x5 x6;exact KcJ):p:=h
theorem ZgY(h:p:=by have x1:w3.cell? ⟨g1,1,none⟩=some (.string y.name):=H3.out.q.cell 1;have p0:w3.cell? ⟨g0,0,none⟩=some (.pointer (some ⟨b,0,none⟩)):=H3.out.p.cell 0;exact KcK):p:=h
theorem ZgZ(h:p:=by have jo:=hid (show false=C by rw[HC.out];simp[nB,c3]);exact Zar):p:=h
theorem Zg0(h:p:=by have jo:=hid (show false=C by rw[HC.out];simp[nB,c2]);exact Zar):p:=h
theorem Zg1(h:p:=by rw[ha] at hG;obtain⟨_,_,_,c,hc,_⟩:=hG;rw[sJ] at hc;cases hc):p:=h
theorem Zg2(h:p:=by exact⟨y,w1,eD,g0,h1,h2,h3,h4,h5.trans (af.drew _),h6.drew⟩):p:=h
theorem Zg3(h:p:=by rcases hu with rfl | rfl | rfl | rfl | rfl | rfl | rfl <;> rfl):p:=h
theorem Zg4(h:p:=by intro ρ' w' A1 n1 c1 pV mV hc' hf';simp[go_sem,pV,mV,hc',hf']):p:=h
theorem Zg5(h:p:=by rw[ha] at hG;obtain⟨_,_,_,c,_,hB,_⟩:=hG;exact hB.tF.cell 0):p:=h
theorem Zg6(h:p:=by
 obtain⟨r',rq⟩:=hg _ rfl;injection rq with hu hr2;subst hu;have Ay:bd < 0:=by simpa [dO.nJ] using eY
 have HP:=hid hp;have c2:=hp.c2;have aer:=HA.out.blk.lt;exact KcL):p:=h
theorem Zg7(h:p:=by have HZ:=hid ((av.new w 81 #[.int .u8 0,.string ⟨#[]⟩,.int .i64 0,.int .i64 0]).alloc (.cells (signs.map λ l=>Value.string ⟨l.toArray⟩).toArray 9));exact KcM):p:=h
theorem Zg8(h:p:=by unfold Oper.wp execOp;simp only[ho,resolve,invoke,builtin,Sem.run_bind,Sem.run_pure,Result.andThen_ok,map_toArray,map_cons,map_nil,hs,hx,hrun];exact KcN):p:=h
theorem Zg9(h:p:=by simp[results,Tryz.results181,go_sem,r0,r1,r2,r3,r4,r5,r6];rfl):p:=h
theorem Zha(h:p:=by unfold aK strOf at hm HB;simp only[map_cons,map_nil] at hm HB;rw[show mJ.toArray= #[98,121] from rfl] at hm HB;go_wp2_with fail;refine hm.mono ?_;clear hm p0;exact KcO):p:=h
theorem Zhb(h:p:=by exact⟨rfl,hq▸KR.trans (hb.mono (by have:=QV.lt;omega))⟩):p:=h
theorem Zhc(h:p:=by unfold aK strOf at hm HB;simp only[map_cons,map_nil] at hm HB;rw[show bZ.toArray= #[102,114,111,109] from rfl] at hm HB;go_wp2_with fail;refine hm.mono ?_;exact KcP):p:=h
theorem Zhd(h:p:=by clear hb HA;unfold aK strOf at hm HB;simp only[map_cons,map_nil] at hm HB;rw[show cd.toArray= #[101,118,101,114,121] from rfl] at hm HB;go_wp2_with fail;refine hm.mono ?_;exact KcQ):p:=h
theorem Zhe(h:p:=by
 clear hX d HA;have HA:=eZ;clear eZ;unfold bI jE eU fg at hc;try unfold eU
 go_upto_region 16 with fail;clear hc hf;exact KcR):p:=h
end Go.Proofs.YtehhdlgjfdnafaaGreatDoor
