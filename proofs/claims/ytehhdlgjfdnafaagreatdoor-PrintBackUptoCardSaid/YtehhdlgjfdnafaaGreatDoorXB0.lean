/- Scripts that several proofs use. -/
import Derived.Below
import Derived.BigQuiet
import Derived.Shelf.Strings.OnBuilder
import Derived.Shelf.Small.Utf8
import Derived.Shelf.Strings.BuilderK
import Derived.Shelf.Strconv.Itoa4
import Derived.Shelf.Strconv.ErrVarParseInt
import Derived.Shelf.Strings.Shaped
import Derived.Shelf.Strings.Prefix
import Derived.Shelf.Strings.SplitShaped
import Derived.Shelf.Unicode.DecodeSlow
import Derived.Shelf.Unicode.IsSpaceAny
import Derived.Shelf.Unicode.CaseLaid
import Derived.Shelf.Unicode.ExclAny
import Derived.Deep.AppendLies
import Derived.Handy
import Derived.WalkLawsBesides
import Derived.Laws.EntriesVeiled
import Derived.Deep.DeepCutAuto
import Derived.Lib.BufferKept
import Derived.Lib.ItoaLen
import Derived.Deep.Strs
import Derived.Laws.CopyOwn
import Derived.Lay
import Derived.LaidMore
import Derived.Stop.LaidErr
import Derived.HandedShaped
import Derived.Deep.DeepHandedRow
namespace Go.Proofs.YtehhdlgjfdnafaaGreatDoor
open List
set_option linter.unusedVariables false
theorem Uaa:(∀{α:Type}(l:List α)(i:Nat),l.toArray[i]?=l[i]?)/\(∀{α:Type}(a:α)(l:List α),(a::l)[0]?=some a)/\∀{α:Type}(a:α)(l:List α)(i:Nat),(a::l)[i+1]?=l[i]?:=by refine⟨?_,?_,?_⟩<;>simp
theorem Uab:(∀{α:Type}(a:α)(l:List α)(i:Nat),(a::l).take (i+1)=a::l.take i)/\(∀{α:Type}(l:List α),l.take 0=[])/\(∀{α:Type}(a:α)(l:List α)(i:Nat),(a::l).drop (i+1)=l.drop i)/\∀{α:Type}(l:List α),l.drop 0=l:=by refine⟨?_,?_,?_,?_⟩<;>simp
theorem Uac:(∀{α:Type}(l:List α)(i:Nat)(a:α),l.toArray.setIfInBounds i a=(l.set i a).toArray)/\(∀{α:Type}(x:α)(l:List α)(i:Nat)(a:α),(x::l).set (i+1) a=x::l.set i a)/\∀{α:Type}(x:α)(l:List α)(a:α),(x::l).set 0 a=a::l:=by refine⟨?_,?_,?_⟩<;>simp
variable{p:Prop}
theorem Taa(h:p:=by omega):p:=h
theorem Tab(h:p:=by decide):p:=h
theorem Tac(h:p:=by kernel_rfl):p:=h
theorem Tad(h:p:=by simp;omega):p:=h
theorem Tae(h:p:=by simp):p:=h
theorem Taf(h:p:=by have:=HA.out.qb;have:=HA.out.sa.qw;omega):p:=h
theorem Tah(h:p:=by rw[e2];simp[go_sem,hc.const,h0,h1];done):p:=h
theorem Tai(h:p:=by simp[St.exprs,Qu.exprs,cZ,any_append,any_map,any_flatten,Function.comp_def,Bool.or_assoc]):p:=h
theorem Taj(h:p:=by rw[<- e];simp[go_sem,h0,h1];done):p:=h
theorem Tak(h:p:=by simp[Qu.exprs,cZ,any_append,any_map,Function.comp_def,Bool.or_assoc]):p:=h
theorem Tal(h:p:=by simp[St.long,Qu.long]):p:=h
theorem Tam(h:p:=by simpa using h):p:=h
theorem Tan(h:p:=by rw[HA.out.name];exact HF.out.names.1):p:=h
theorem Tao(h:p:=by rw[HLEN.out];omega):p:=h
theorem Tap(h:p:=by rw[CL.out];exact hi):p:=h
theorem Taq(h:p:=by simp[go_sem,e1,h0,h1];done):p:=h
theorem Tar(h:p:=by simp[St.exprs,Qu.exprs,cZ]):p:=h
theorem Tas(h:p:=by rw[length_map,HL.out]):p:=h
theorem Tat(h:p:=by rw[no li.r];simp):p:=h
theorem Tau(h:p:=by simp[St.long,Qu.long,Bool.or_assoc]):p:=h
theorem Tav(h:p:=by simp only[length_cons];omega):p:=h
theorem Taw(h:p:=by simp[MapKept.IsKey]):p:=h
theorem Tax(h:p:=by simp[Qu.long,Bool.or_assoc]):p:=h
theorem Tay(h:p:=by simpa using hv):p:=h
theorem Taz(h:p:=by simp only[length_append,hA,length_cons,length_nil,show(aT y).length=7 from rfl];omega):p:=h
theorem TaA(h:p:=by have:=HK.out;omega):p:=h
theorem TaB(h:p:=by simpa using hk):p:=h
theorem TaC(h:p:=by rw[hk];decide):p:=h
theorem TaD(h:p:=by have:=Z0.out;have:=YO.out;have:=Uc.out;have:=HN.out;simp only[length_append];omega):p:=h
theorem TaE(h:p:=by rw[(no li.c).1];simp):p:=h
theorem TaF(h:p:=by rw[rE];exact rF):p:=h
theorem TaG(h:p:=by unfold maxLen;omega):p:=h
theorem TaH(h:p:=by have:=g1.size;omega):p:=h
theorem TaI(h:p:=by simpa using hx):p:=h
theorem TaJ(h:p:=by simpa using ha):p:=h
theorem TaK(h:p:=by rw[I.len];exact Ef):p:=h
theorem TaL(h:p:=by rw[HA.out.every];exact HF.out.every.2):p:=h
theorem TaM(h:p:=by rw[HA.out.every];exact HF.out.every.1):p:=h
theorem TaN(h:p:=by rw[hl];exact ht.1):p:=h
theorem TaO(h:p:=by simp[jZ,Value.oneCell']):p:=h
theorem TaP(h:p:=by rw[HO.out,HK.out];omega):p:=h
theorem TaQ(h:p:=by rfl):p:=h
theorem TaR(h:p:=by rw[no li.u];simp):p:=h
theorem TaS(h:p:=by rw[take_append_drop];exact hz):p:=h
theorem TaT(h:p:=by rw[HL.out];omega):p:=h
theorem TaU(h:p:=by rw[e2];simp[go_sem,h0,h1,q1];done):p:=h
theorem TaV(h:p:=by rw[HL.out];simp):p:=h
theorem TaW(h:p:=by rw[no li.q];exact q0):p:=h
theorem TaX(h:p:=by simpa using A0):p:=h
theorem TaY(h:p:=by rw[JG.out];exact cm):p:=h
theorem TaZ(h:p:=by have:=HN.out;omega):p:=h
theorem Ta0(h:p:=by have:=HL.out;omega):p:=h
theorem Ta1(h:p:=by rw[jk];exact hlt):p:=h
theorem Ta2(h:p:=by rw[HC.out];omega):p:=h
theorem Ta3(h:p:=by injection e):p:=h
theorem Ta4(h:p:=by simp[Region.wanted,hg]):p:=h
theorem Ta5(h:p:=by have:=fT.out.at_;rw[HL.out] at this;exact this):p:=h
theorem Ta6(h:p:=by rw[hwd];exact DI ra _):p:=h
theorem Ta7(h:p:=by have:=hb.1;simp;omega):p:=h
theorem Ta8(h:p:=by decide+kernel):p:=h
theorem Ta9(h:p:=by rw[hn,hl]):p:=h
theorem Tba(h:p:=by rw[om.out];exact cm):p:=h
theorem Tbb(h:p:=by rw[length_map];have:=HL.out;omega):p:=h
theorem Tbc(h:p:=by show w.heap.size≠w1.heap.size;omega):p:=h
theorem Tbd(h:p:=by rw[length_map];exact HL.out.symm):p:=h
theorem Tbe(h:p:=by rw[gP.out.skip];exact drop_at HB.out):p:=h
theorem Tbf(h:p:=by rw[HY.out,HL.out]):p:=h
theorem Tbg(h:p:=by simpa using(by omega:x[0].toNat=48)):p:=h
theorem Tbh(h:p:=by simpa using(by omega:s[0].toNat=48)):p:=h
theorem Tbi(h:p:=by rw[<- drop_at HB.out];exact et.out):p:=h
theorem zfz.Kbv(h:p:=by exact Kaa):p:=h
theorem zdX.KaZ(h:p:=by go_enter Tryz.func19,Tryz.ntmps19;open zfz in exact ZcO):p:=h
theorem Zaa(h:p:=by have HA:=hid h;have HF:=hid hf;obtain⟨cs,hcs⟩:∃cs,cs=(bD y).toArray:=⟨_,rfl⟩;show Calls Tryz.prog 19 #[.pointer (some ⟨b,0,none⟩),.agg (bD y).toArray] w _;open zdX in exact Zbu):p:=h
theorem Zab(h:p:=by
 obtain⟨i0,nd,Wt⟩:=kV h0;obtain⟨i,⟨hi,hu⟩,GX⟩:=least (p:=λ i=>i < l.length/\listed.getD i false=false) i0 ⟨nd,Wt⟩
 have dE:∀j,j < i->listed.getD j false=true:=λ j hj=>by
  cases hc:listed.getD j false with
  | true=>rfl
  | false=>exact absurd ⟨by omega,hc⟩ (GX j hj)
 have Eo:l[i]?=some l[i]:=getElem?_eq_getElem hi;have pP:=cG az i _ Eo;simp only[mI,Bool.and_eq_true,Nat.zero_add] at pP
 have jm:i∈Region.ready .any (l++zs).toArray listed:=by
  refine pO (nX Eo) ?_ λ j hj=>dE j (of_decide_eq_true (List.all_eq_true.1 pP.1.1.1 j hj))
  rw[eo (by rw[I.len];simp;omega)];exact hu
 refine⟨(λ hnil=>by rw[hnil] at jm;cases jm),λ j hj=>?_⟩;obtain⟨yH,oj,oT,hall⟩:=mem_ready.1 hj
 have Ef:j <(l++zs).length:=by
  rcases Nat.lt_or_ge j (l++zs).length with h' | h'
  ·exact h'
  ·rw[Array.getElem?_eq_none (by simpa using h')] at oT;cases oT
 rw[eo TaK] at yH;have eY:∀k∈fV oj,listed.getD k false=true:=λ k hk=>by obtain⟨e,he,hb,rfl⟩:=kz.1 hk;exact hall e he hb
 have MT:j < l.length:=by
  rcases Nat.lt_or_ge j l.length with h' | h'
  ·exact h'
  ·exfalso
   have Wp:zs[j - l.length]?=some oj:=by
    have:(l++zs)[j]?=some oj:=by simpa using oT
    rw[getElem?_append_right Taa] at this;exact this
   have JP:=jA hz (j - l.length) oj Wp;rw[show l.length+(j - l.length)=j by omega] at JP;have hc:=jl (L:=l++zs) (λ k=>listed.getD k false=true) (by
    intro k ok hk hd e he
    rcases Nat.lt_or_ge k l.length with GY | GY
    ·rw[getElem?_append_left GY] at hk
     exact I.closed k ok hk hd e he
    ·rw[I.tail k GY] at hd;cases hd) j (fV oj) JP.2 eY i Taa
   rw[hu] at hc;cases hc
 have yN:l[j]?=some oj:=by
  have:(l++zs)[j]?=some oj:=by simpa using oT
  rw[getElem?_append_left MT] at this;exact this
 exact Kab):p:=h
theorem zfu.Kbt(h:p:=by exact Kac):p:=h
theorem Zac(h:p:=by obtain⟨u,rfl⟩:=dQ T hT.sz;open zfu in exact ZcL):p:=h
theorem zhe.Kcc(h:p:=by have x7:=(d2.blk HX.out lO Tab).cell 7;simp only[Uaa] at x0 x1 x2 x3 x4 x5 x6 x7;exact ZaG):p:=h
theorem zdz.KaQ(h:p:=by open zhe in exact ZeC):p:=h
theorem zhY.Kcy(h:p:=by have x7:=HX.out.cell 7;simp only[Uaa] at x0 x1 x2 x3 x4 x5 x6 x7;exact ZaH):p:=h
theorem zhk.Kcf(h:p:=by
 clear k0 k1 k2 k3 k4 k5 k6 k7 HS HD;generalize wr.alloc _=W1 at*;clear bx lx;rcases Nat.eq_zero_or_pos i with nd | nd
 ·open zhY in exact Zgj
 ·open zdz in exact Zbi):p:=h
theorem Zad(h:p:=by open zhk in exact ZeK):p:=h
theorem Zae(h:p:=by exact Zfi):p:=h
theorem Zaf(h:p:=by have h0:_=_:=hr.1;exact ae (w':=w3) (by simp[go_sem,h0];done) ⟨af.refl _,rfl⟩):p:=h
theorem zdw.KaO(h:p:=by exact Kad):p:=h
theorem zc6.KaE(h:p:=by
 have g2:((t.w.k:Int)==2)=false:=by simp;omega
 have g3:((t.w.k:Int)==3)=false:=by simp;omega
 open zdw in exact Zbg):p:=h
theorem Zag(h:p:=by open zc6 in exact Za1):p:=h
theorem zeb.Ka2(h:p:=by
 have x2:(w.alloc (.cells cs 34)).cell? ⟨w.heap.size,2,none⟩=some (.slice y.aJ.A y.aJ.n y.aJ.c):=by rw[hcs];exact k1.cell 2
 have wj:(w.alloc (.cells cs 34)).cell? ⟨w.heap.size,19,none⟩=some (.slice y.rows.A y.rows.n y.rows.c):=by rw[hcs];exact k1.cell 19
 have AW:(w.alloc (.cells cs 34)).cell? ⟨w.heap.size,20,none⟩=some (.slice y.aS.A y.aS.n y.aS.c):=by rw[hcs];exact k1.cell 20
 exact Kae):p:=h
theorem Zah(h:p:=by open zeb in exact ZbE):p:=h
theorem Zai(h:p:=by obtain⟨u,rfl⟩:=dQ T hT.sz;have h2:=(aw u (show 2 < 83 by decide)).symm.trans hT.t2;have h3:=(aw u (show 3 < 83 by decide)).symm.trans hT.t3;simp only[uC,List.range,List.range.loop,List.map,h2,h3];clear hT h2 h3;have HH:=hid h;clear h;simp only[uM,ja,Tryz.f40,Option.getD_some] at hO ⊢;have HO:=hid hO;clear hO;obtain⟨p0,q0,q1,q2,q3,q4,q5,q6,q7⟩:=HH.out.cells;exact Kaf):p:=h
theorem Zaj(h:p:=by
 have k0:=λ y:Ext wr.heap.size wr=>(HP.out.later y.h).c0
 have k1:=λ y:Ext wr.heap.size wr=>(HP.out.later y.h).c1
 have m0:=λ y:Ext wr.heap.size wr=>(HP.out.later y.h).d0
 have m1:=λ y:Ext wr.heap.size wr=>(HP.out.later y.h).d1
 have m2:=λ y:Ext wr.heap.size wr=>(HP.out.later y.h).d2
 have m3:=λ y:Ext wr.heap.size wr=>(HP.out.later y.h).d3
 go_wp2_with fail;refine ep 13 wr.heap.size wr (Below.refl _ _) Tac Tac Tac Tac ?_;simp only[Uab];repeat (go_big_quiet_step (first
  |(go_at_call 182;exact ft (Nat.le_refl _) (Ys _))))
 refine wpQuiet_nil ?_;rintro W2 ⟨y2,OE⟩;have hW:=y2.h;rw[<- OE] at hW;clear OE y2 k0 k1 m0 m1 m2 m3 c2;exact Kag):p:=h
theorem zdC.KaR(h:p:=by have bx:=aa wr (FH x);refine(hDx _ (Below.trans hwr (bx.mono hwr.size))).mono ?_;rintro e w' ⟨rfl,b0⟩;have b':=af.then bx b0;exact ZgX):p:=h
theorem Zak(h:p:=by
 have x6:=HX.cell 6;simp only[Uaa] at x6;go_wp2_with fail;clear x6;generalize W.alloc _=W1 at*;have mR:=hid hb;have HW:=hid hW;clear hb;go_loopw [3,9] (λ m iv wr=>∃i:Nat,i<=ys.length/\iv=.int .i64 i/\m=.int .i64 (iH (ds.take i))/\Below W1.heap.size W1 wr) (λ _ iv _=>ys.length - (intOf iv).toNat);case atStart=>exact⟨0,Nat.zero_le _,rfl,rfl,Below.refl _ _⟩
 case round=>
  obtain⟨i,hi,rfl,rfl,iE⟩:=hrel;have hml:=nE ds i;have N8:=HM.out;by_cases hlt:i < ys.length
  ·open zdC in exact Zbj
  ·exact Zde):p:=h
theorem zhb.Kca(h:p:=by go_enter Tryz.func181,Tryz.ntmps181;go_wp2_with fail;go_region;clear c0 c1 c2 d0 d1 d2 d3 y0 y1 y2 z0 z1 z2 z3 x0 v0 v1 v2 v3;obtain⟨u0,u1,u2,u3,_⟩:=aN HT;have HTB:=hid HT;clear HT;unfold cn at u0 u1 u2 u3 hb3 x1 x2 Qx HF HTB HD mD Yu;generalize World.drew _=W at*;exact Kah):p:=h
theorem zcH.Kay(h:p:=by
 unfold wR at*;unfold bp.ptr;obtain⟨tk,pl,bd,hpl,hlt,hsm,AP,fA,hg,Ai,vv,hp⟩:=h0.mh;obtain⟨r',sF⟩:=hg _ rfl;have htw:t=tk.w:=by injection sF
 have vX:bd < 0:=by simpa [dX.ou] using fA
 subst htw;have sD:=h0.left;have U3:=hp.later (aa _ zg);have hp3:=hp.later ((aa _ (.cells (cn tk) 81)).drew);have hb3:=(aa (w.alloc (.cells #[.int .u8 0,.int .u8 0,.int .i64 0,.string ⟨#[]⟩,.string ⟨#[]⟩,.int .i64 0,.slice none 0 0] 36)) (.cells (cn tk) 81)).drew;have HT:=(av.new (w.alloc (.cells #[.int .u8 0,.int .u8 0,.int .i64 0,.string ⟨#[]⟩,.string ⟨#[]⟩,.int .i64 0,.slice none 0 0] 36)) 81 (cn tk)).drew;rw[hsz] at HT;have HF:=hid (h0.later hb3);have HD:=hid ((iq.aC h hb).later hb3);have mD:=hid (HQ.out.later hb3);have Qx:=(h0.later hb3).facts.2.2.2.2.1;have Yu:((w.alloc (.cells #[.int .u8 0,.int .u8 0,.int .i64 0,.string ⟨#[]⟩,.string ⟨#[]⟩,.int .i64 0,.slice none 0 0] 36)).alloc (.cells (cn tk) 81)).drew.heap.size=w.heap.size+2:=by simp
 have e1:(pl:Int)+1=(ρ.n:Int) - r.length:=by rw[hpl];simp only[dX.left,length_cons] at*;omega
 have HPL:=hid hpl;clear h hpl hg fA AP sF h0 hb HQ;open zhb in exact Zey):p:=h
theorem Zal(h:p:=by have bj:=h.nt;have hb:=aa w wR;have h0:=h.later hb;open zcH in exact ZaR):p:=h
theorem Zam(h:p:=by have dK:=hid (show(Tryz.prog.info? 34).map (·.size)=some cs.size by rw[hcs];exact cm);have mo:=hid (show cN.size=cs.size by rw[hcs,bB];exact bB _);have jM:=hid (show cs.all (·.oneCell')=true by rw[hcs];exact cS _);exact Kai):p:=h
theorem ze8.Kbl(h:p:=by clear h2 d2 H1 TT x0;exact Kaj):p:=h
theorem Zan(h:p:=by
 have Yn:=hid mS;clear mS hk;go_upto_region 38 with fail;have bX:w0.heap.size<=w.heap.size:=by rw[jv.out];exact dK.out
 refine cM 8 (uP b g1 y tt) (mC _ _ _ _) Tac Tac Tac ?_ ?_
 ·simp only[take_succ_cons,take_zero];refine⟨Zbw,ZaX,?_,?_,?_,?_,?_,?_,trivial⟩
  ·intro ρ w3 hc hL hr;exact ZcI
  ·intro ρ w3 hc hL hr;have h0:_=_:=hr.1;have Hz:w3.cell? ⟨g1,22,none⟩=some (.int .u8 y.aK.k):=(av.later H0.out.q hL).cell 22;have Ia:w3.cell? ⟨g1,23,none⟩=some (.int .i64 y.aK.n):=(av.later H0.out.q hL).cell 23;have Ib:w3.cell? ⟨g1,24,none⟩=some (.string y.aK.s):=(av.later H0.out.q hL).cell 24;exact Zdg
  ·intro ρ w3 hc hL hr;exact ZcI
  ·intro ρ w3 hc hL hr;have h0:_=_:=hr.1;have SU:w3.cell? ⟨g1,25,none⟩=some (.int .u8 y.cP.k):=(av.later H0.out.q hL).cell 25;have SV:w3.cell? ⟨g1,26,none⟩=some (.int .i64 y.cP.n):=(av.later H0.out.q hL).cell 26;have SX:w3.cell? ⟨g1,27,none⟩=some (.string y.cP.s):=(av.later H0.out.q hL).cell 27;exact ZgR
  ·intro ρ w3 hc hL hr;have h0:_=_:=hr.1;have h1:_=_:=hr.2.1;exact ae (w':=w3) (gT rfl (by simp only[map_toArray,map_cons,map_nil,h0,h1];exact uO y)) ⟨af.refl _,rfl⟩
  ·intro ρ w3 hc hL hr;have h0:_=_:=hr.1;have h1:_=_:=hr.2.1;have e1:=hc.func 37;refine dG (f:=37) (args:= #[.agg (bD y).toArray,.agg (bD (eM y false false false false false false false false true)).toArray]) (w':=w3) Taq ?_;exact Zce
 intro W2 hL;simp only[Uab];rintro _ rfl a1 - a2 - a3 - a4 - a5 - a6 - _ rfl;open ze8 in exact Zcn):p:=h
theorem Zao(h:p:=by
 have HH:=hid h;have HK:=hid hk;have HP:=hid ho;have HA:=hid hA;have HO:=hid hO;have HN:=hid hn;have Xe:=hid hm;have Xf:=hid Bl;have hsz:=h.size;obtain⟨ok,az⟩:∃ok:Bool,ok=(decide (0 < os.length)&& decide (os.length<=64)):=⟨_,rfl⟩;rw[ho] at az;have Xg:=hid (show dC os=aq (bg ok) (dM os) by unfold dC;rw[az,ho]);have jh:=hid az;clear h hk ho hA hO hn az hm Bl;have jn:(decide ((0:Int)< k)=false/\decide (0 < k)=false/\ok=false)\/(decide ((0:Int)< k)=true/\decide (0 < k)=true/\decide ((k:Int)<=64)=true/\decide (k<=64)=true/\ok=true)\/(decide ((0:Int)< k)=true/\decide (0 < k)=true/\decide ((k:Int)<=64)=false/\decide (k<=64)=false/\ok=false):=by rw[jh.out];by_cases h1:0 < k <;> by_cases h2:k<=64 <;> simp[h1,h2] <;> omega
 exact Kak):p:=h
theorem Zap(h:p:=by intro ρ w3 hc hL hr;have h0:_=_:=hr.1;have k7:w3.cell? ⟨g1,7,none⟩=some (.slice y.query.items.A y.query.items.n y.query.items.c):=(av.later H0.out.q hL).cell 7;have k8:w3.cell? ⟨g1,8,none⟩=some (.string y.query.aK):=(av.later H0.out.q hL).cell 8;have k9:w3.cell? ⟨g1,9,none⟩=some (.bool y.query.only):=(av.later H0.out.q hL).cell 9;have MH:w3.cell? ⟨g1,10,none⟩=some (.slice y.query.aR.A y.query.aR.n y.query.aR.c):=(av.later H0.out.q hL).cell 10;have MI:w3.cell? ⟨g1,11,none⟩=some (.slice y.query.group.A y.query.group.n y.query.group.c):=(av.later H0.out.q hL).cell 11;have SQ:w3.cell? ⟨g1,12,none⟩=some (.slice y.query.having.A y.query.having.n y.query.having.c):=(av.later H0.out.q hL).cell 12;have SR:w3.cell? ⟨g1,13,none⟩=some (.slice y.query.order.A y.query.order.n y.query.order.c):=(av.later H0.out.q hL).cell 13;have SS:w3.cell? ⟨g1,14,none⟩=some (.slice y.query.aG.A y.query.aG.n y.query.aG.c):=(av.later H0.out.q hL).cell 14;exact Zga):p:=h
theorem Zaq(h:p:=by exact ZcI):p:=h
theorem ziK.KcT(h:p:=by have t6:decide ((200:Int)<(y.query.aG.n:Int))=false:=decide_eq_false Taa;exact Kal):p:=h
theorem zd8.Ka1(h:p:=by open ziK in exact Zg0):p:=h
theorem zbM.Kao(h:p:=by rw[<- Aw] at FP x2 wj AW x7 AV CT x1 x3 x5 QE x8 Wa JL ⊢;open zd8 in exact ZbC):p:=h
theorem zfL.KbA(h:p:=by
 have CT:(w.alloc (.cells cs 34)).cell? ⟨w.heap.size,14,none⟩=some (.slice y.query.aG.A y.query.aG.n y.query.aG.c):=by rw[hcs];exact k1.cell 14
 have x1:(w.alloc (.cells cs 34)).cell? ⟨w.heap.size,1,none⟩=some (.string y.name):=by rw[hcs];exact k1.cell 1
 have x3:(w.alloc (.cells cs 34)).cell? ⟨w.heap.size,3,none⟩=some (.string y.time):=by rw[hcs];exact k1.cell 3
 have x5:(w.alloc (.cells cs 34)).cell? ⟨w.heap.size,5,none⟩=some (.string y.space):=by rw[hcs];exact k1.cell 5
 have QE:(w.alloc (.cells cs 34)).cell? ⟨w.heap.size,16,none⟩=some (.string y.cr):=by rw[hcs];exact k1.cell 16
 have x8:(w.alloc (.cells cs 34)).cell? ⟨w.heap.size,8,none⟩=some (.string y.query.aK):=by rw[hcs];exact k1.cell 8
 have Wa:(w.alloc (.cells cs 34)).cell? ⟨w.heap.size,24,none⟩=some (.string y.aK.s):=by rw[hcs];exact k1.cell 24
 have JL:(w.alloc (.cells cs 34)).cell? ⟨w.heap.size,27,none⟩=some (.string y.cP.s):=by rw[hcs];exact k1.cell 27
 open zbM in exact Zay):p:=h
theorem Zar(h:p:=by open zfL in exact Zc2):p:=h
theorem Zas(h:p:=by go_wp2_with fail;refine(MS.out _ _ jL.out HH.out).mono ?_;rintro e w5 ⟨rfl,h5⟩;go_wp2_with fail;go_meet;exact h5):p:=h
theorem Zat(h:p:=by rintro e w1 ⟨rfl,b1⟩;have H1:=hid (HH.out.later hsz b1);rw[xu];clear HH b1 x0 x1 x2 x3 x4 x5 x6 f0 f1;obtain⟨x0,x1,x2,x3,x4,x5,x6⟩:=H1.out.x.cells;dsimp only at x0 x1 x2 x3 x4 x5 x6;obtain⟨f0,f1⟩:=H1.out.jQ;dsimp only at f0 f1;obtain⟨⟨sb,c2⟩,fz,hs2,yJ⟩:=H1.out.st.xt;have uD:=hid hs2;have eP:=hid (H1.out.did.trans yJ);exact Zgt):p:=h
theorem zdb.KaG(h:p:=by have:=sq.out.st.more (show n+3+1+1+1+1<=n+(13*Tr.aQ s.exprs+4*s.aJ.length+3*s.rows.length+80) by omega);have KT:=VB.out;rw[HA.out.aK] at KT;rw[KT];rw[HA.out.name,yK.out,HA.out.cP] at this;exact Zf2):p:=h
theorem Zau(h:p:=by
 go_upto_region 45 with fail;clear x0 p0;have bX:w0.heap.size<=w.heap.size:=by rw[jv.out];exact dK.out
 obtain⟨vb,KT⟩:∃vb,oP y.aK=vb:=⟨_,rfl⟩;have VB:=hid KT;clear KT;refine cM 5 (nv b g1 y vb) (CU _ _ _ _) Tac Tac Tac ?_ ?_
 ·simp only[take_succ_cons,take_zero];refine⟨?_,?_,?_,?_,?_,trivial⟩
  ·intro ρ w3 hc hL hr;have h0:_=_:=hr.1;have k0:=(av.later H6.out.p hL).cell 0;exact Zd1
  ·intro ρ w3 hc hL hr;exact ZcI
  ·intro ρ w3 hc hL hr;have h0:_=_:=hr.1;have Hz:w3.cell? ⟨g1,22,none⟩=some (.int .u8 y.aK.k):=(av.later H6.out.q hL).cell 22;have Ia:w3.cell? ⟨g1,23,none⟩=some (.int .i64 y.aK.n):=(av.later H6.out.q hL).cell 23;have Ib:w3.cell? ⟨g1,24,none⟩=some (.string y.aK.s):=(av.later H6.out.q hL).cell 24;exact Zdg
  ·intro ρ w3 hc hL hr;exact ae (w':=w3) (gT rfl (by simpa using zt)) ⟨af.refl _,rfl⟩
  ·intro ρ w3 hc hL hr;have h0:_=_:=hr.1;have h1:_=_:=hr.2.1;have e:=VB.out;unfold oP at e;by_cases q1:y.aK.k=0
   ·by_cases q2:y.aK.n=0
    ·by_cases q3:y.aK.s.toList=[]
     ·have e2:vb=true:=by rw[<- e];simp[q1,q2,q3]
      exact ZfH
     ·have e2:vb=false:=by rw[<- e];simp[q1,q2,q3]
      exact ZfH
    ·have e2:vb=false:=by rw[<- e];simp[q1,q2]
     exact ae (v:=.bool vb) (w':=w3) (by rw[e2];simp[go_sem,h0,h1,q1,q2];done) ⟨af.refl _,rfl⟩
   ·have e2:vb=false:=by rw[<- e];simp[q1]
    exact ae (v:=.bool vb) (w':=w3) TaU ⟨af.refl _,rfl⟩
 intro W5 hL;simp only[Uab];rintro _ rfl a1 - a2 - a3 - _ rfl;simp only[cU,Act.put,Uac];have H7:=hid (H6.out.later bX hL);clear hL H6 bX;go_wp2_with fail;refine(bh vb W5 H7.out.st).mono ?_;rintro e w8 ⟨rfl,h2,d2⟩;have H8:=hid (H7.out.next hg0 hg1 h2 d2);clear h2 d2 H7;open zdb in exact Za3):p:=h
theorem Zav(h:p:=by rintro e w2 ⟨rfl,h2,d2⟩;have H2:=hid (H1.out.next hg0 hg1 h2 d2);clear h2 d2 H1 TT x0;have x7:w2.cell? ⟨g1,7,none⟩=some (.slice y.query.items.A y.query.items.n y.query.items.c):=H2.out.q.cell 7;have x8:w2.cell? ⟨g1,8,none⟩=some (.string y.query.aK):=H2.out.q.cell 8;have x9:w2.cell? ⟨g1,9,none⟩=some (.bool y.query.only):=H2.out.q.cell 9;have MK:w2.cell? ⟨g1,10,none⟩=some (.slice y.query.aR.A y.query.aR.n y.query.aR.c):=H2.out.q.cell 10;have ML:w2.cell? ⟨g1,11,none⟩=some (.slice y.query.group.A y.query.group.n y.query.group.c):=H2.out.q.cell 11;have MM:w2.cell? ⟨g1,12,none⟩=some (.slice y.query.having.A y.query.having.n y.query.having.c):=H2.out.q.cell 12;have AV:w2.cell? ⟨g1,13,none⟩=some (.slice y.query.order.A y.query.order.n y.query.order.c):=H2.out.q.cell 13;have CT:w2.cell? ⟨g1,14,none⟩=some (.slice y.query.aG.A y.query.aG.n y.query.aG.c):=H2.out.q.cell 14;have p0:w2.cell? ⟨g0,0,none⟩=some (.pointer (some ⟨b,0,none⟩)):=H2.out.p.cell 0;go_wp2_with fail;refine(rC hE hS HA.out.query HF.out.query hm w2 H2.out.st H2.out.hw (by unfold Qu.cost;omega)).mono ?_;rintro e w3 ⟨rfl,h2,d2⟩;unfold Qu.cost at h2;have H3:=hid (H2.out.next hg0 hg1 h2 d2);clear h2 d2 H2 p0 x7 x8 x9 MK ML MM AV CT;exact Kam):p:=h
theorem Zaw(h:p:=by
 go_upto_region 0 with fail;go_cut [16] (λ v wx=>eI w0.heap.size b (aq s (bg ok)) n wx/\cy w0.heap.size b w wx)
 case first=>
  rcases jn with ⟨t1,t2,hb⟩|⟨t1,t2,t3,t4,hb⟩|⟨t1,t2,t3,t4,hb⟩
  all_goals
   have HB:=hid hb;clear jh hb;go_wp2_with fail;refine(bh _ w HH.out).mono ?_;rintro e w1 ⟨rfl,h1,d1⟩;clear t1 t2;try clear t3 t4
   go_wp2_with fail;go_meet;exact⟨by rw[HB.out];exact h1,d1⟩
 case rest=>
 obtain⟨h1,d1⟩:=hcut;have H1:=hid h1;have D1:=hid d1;clear h1 d1 jn jh HH;go_wp2_with fail;exact Kan):p:=h
theorem Zax(h:p:=by exact Zd1):p:=h
theorem Zay(h:p:=by have YES:=hid (show∀w2,Below w.heap.size w w2->na w (.returned (.bool true)) w2 from λ w2 h=>⟨true,rfl,h⟩);unfold ji;rw[<- hcs];clear b1 k1 hcs;go_enter Tryz.func7,Tryz.ntmps7;go_upto_region 1 with fail;change Code.wp _ _ _ _ (w.alloc (.cells cs 34));generalize w.alloc _=W1 at*;obtain⟨gs,Aw⟩:∃gs,gs=w.heap.size:=⟨_,rfl⟩;exact Kao):p:=h
theorem zeH.Kbe(h:p:=by exact Kap):p:=h
theorem Zaz(h:p:=by have hsz:=Nat.le_trans hw.size (Nat.le_refl ws.heap.size);have HH:=hid h;clear h;have en:True:=trivial;open zeH in exact Zb9):p:=h
theorem ZaA(h:p:=by rintro e w4 ⟨rfl,h2,d2⟩;have H4:=hid (H3.out.next hg0 hg1 h2 d2);clear h2 d2 H3;have x1:w4.cell? ⟨g1,1,none⟩=some (.string y.name):=H4.out.q.cell 1;have p0:w4.cell? ⟨g0,0,none⟩=some (.pointer (some ⟨b,0,none⟩)):=H4.out.p.cell 0;go_wp2_with fail;refine(ey hE y.name w4 H4.out.st H4.out.hw Tan Taa).mono ?_;rintro e w5 ⟨rfl,h2,d2⟩;have H5:=hid (H4.out.next hg0 hg1 h2 d2);clear h2 d2 H4 p0 x1;have p0:w5.cell? ⟨g0,0,none⟩=some (.pointer (some ⟨b,0,none⟩)):=H5.out.p.cell 0;go_wp2_with fail;refine(cA ⟨#[44,32]⟩ w5 H5.out.st Tab Taa).mono ?_;rintro e w6 ⟨rfl,h2,d2⟩;have H6:=hid (H5.out.next hg0 hg1 h2 d2);clear h2 d2 H5 p0;have x0:w6.cell? ⟨g1,0,none⟩=some (.int .u8 y.kind):=H6.out.q.cell 0;have p0:w6.cell? ⟨g0,0,none⟩=some (.pointer (some ⟨b,0,none⟩)):=H6.out.p.cell 0;exact Kaq):p:=h
theorem ZaB(h:p:=by
 obtain⟨z,hz⟩:∃z,ys[i]?=some z:=⟨_,getElem?_eq_getElem (by rw[HK.out];exact hlt)⟩;obtain⟨o,hoi⟩:∃o,os[i]?=some o:=⟨_,getElem?_eq_getElem (by rw[HP.out];exact hlt)⟩;have HM:=hid (Xe.out i hlt);have HL:=hid (show n+m i+1+ci i<=50000000 by have:=HN.out;have:=HM.out;have:=Xf.out (i+1) hlt;omega);have dE:=hid (HO.out i z o hz hoi);have hwr:Below w0.heap.size w0 wr:=hw.trans HD.out.below;rcases HA.out with h0 |⟨q,off,kR,jP,hc⟩
 ·rw[h0] at hz;cases hz
 exact Kar):p:=h
theorem ZaC(h:p:=by
 simp only[take_succ_cons,take_zero];refine⟨Zbw,ZaX,ZbI,Zap,Zca,Zbn,ZbI,?_,?_,?_,?_,trivial⟩
 ·intro ρ w3 hc hL hr;intro hg;have hg:ρ (.tmp 137)=.bool true:=hg;refine⟨λ _=>?_,λ hn=>absurd hg hn⟩;exact Zaq
 ·intro ρ w3 hc hL hr;intro hg;have hg:ρ (.tmp 137)=.bool true:=hg;refine⟨λ _=>?_,λ hn=>absurd hg hn⟩;have h0:_=_:=hr.1;have k1:w3.cell? ⟨g1,1,none⟩=some (.string y.name):=(av.later H0.out.q hL).cell 1;exact ae (w':=w3) (by simp[go_sem,h0,k1];done) ⟨af.refl _,rfl⟩
 ·intro ρ w3 hc hL hr;intro hg;have hg:ρ (.tmp 137)=.bool true:=hg;refine⟨λ _=>?_,λ hn=>absurd hg hn⟩;have h0:_=_:=hr.1;exact ae (w':=w3) (by simp[go_sem,hc.const,h0,NM.out];done) ⟨af.refl _,rfl⟩
 ·exact ZbY):p:=h
theorem ZaD(h:p:=by
 have p0:w2.cell? ⟨g0,0,none⟩=some (.pointer (some ⟨b,0,none⟩)):=H2.out.p.cell 0;have X0:=hid x0;go_upto_region 39 with fail
 refine wp_region_lit ?_;go_wp2_with (first
  |(refine fu rfl 92 rfl ?_
    have hM:=iZ.new w2
    have jK:Below w2.heap.size w2 (w2.alloc (.map #[] 0)):=aa w2 (.map #[] 0)
    obtain⟨gm,pg⟩:∃gm,gm=w2.heap.size:=⟨_,rfl⟩
    rw[<- pg] at hM ⊢
    have hle:w2.heap.size<=gm:=Nat.le_of_eq pg.symm
    have hx0:=(jK.cell (p:=⟨g1,0,none⟩) (ax x0)).trans x0
    clear pg x0 p0
    generalize w2.alloc _=wm at*)
  |(refine gB Tryz.underlying92 Tryz.underlying5 rfl _ _ _ rfl gm rfl _ rfl _ rfl hM TaQ ?_
    clear hM hx0
    intro wm hM hgr
    replace jK:=jK.trans (aO hgr jK.size hle)
    have hx0:=(jK.cell (p:=⟨g1,0,none⟩) (ax X0.out)).trans X0.out
    clear hgr))
 replace hM:iZ _ gm Am:=hM;exact Kas):p:=h
theorem ZaE(h:p:=by refine⟨λ _=>?_,λ hn=>absurd hg hn⟩;exact Zaf):p:=h
theorem ZaF(h:p:=by
 have hall:=dO h0
 have ha:a=fill (λ d=>a.eval (.tmp d)) l a0:=by
  have h1:a.tmps=(fill (λ d=>a.eval (.tmp d)) l a0).tmps:=by
   apply Array.ext_getElem?;intro t;by_cases ht:t < a0.tmps.size
   ·rw[sJ _ _ _ _ ht];split
    ·simp[Act.eval,I.size,ht]
    ·rename_i hno;refine I.old t ?_;intro i o hi hd _;exact hno ⟨o,mem_of_getElem? hi,hd⟩
   ·rw[Array.getElem?_eq_none (by rw[I.size];omega),Array.getElem?_eq_none (by rw[pN];omega)]
  have h2:a.defers=(fill (λ d=>a.eval (.tmp d)) l a0).defers:=by rw[mL,I.defers]
  exact Bb h1 h2
 exact Kat):p:=h
theorem ZaG(h:p:=by
 clear h2 d2 om fT t5 t6;go_wp2_with fail;refine(dE.out w2 _ _ D2.out H2.out Ta0).mono ?_;rintro e w3 ⟨rfl,h3,d3⟩;have H3:=hid (h3.more (show n+m i+1+ci i<=n+m (i+1) by have:=HM.out;omega));have D3:=hid (D2.out.trans d3);clear h3 d3 D2 H2 dE;go_wp2_with fail;go_roundw;case rel=>refine⟨i+1,by omega,by go_num,?_,D3.out⟩;rw[HT.out];have:=H3.out;exact Zeu
 case measure=>exact Zcu):p:=h
theorem ZaH(h:p:=by
 go_wp2_with fail;refine(dE.out W1 _ _ fT.out om.out Ta0).mono ?_;rintro e w2 ⟨rfl,h2,d2⟩;have H2:=hid (h2.more (show n+m 0+ci 0<=n+m (0+1) by have:=HM.out;omega));have D2:=hid (fT.out.trans d2);clear h2 d2 om fT dE;go_wp2_with fail;go_roundw;case rel=>refine⟨1,by omega,by go_num,?_,D2.out⟩;rw[HT.out];have:=H2.out;rwa [take_zero,show dM []=some [] from rfl,dm] at this
 case measure=>exact Zcu):p:=h
theorem ZaI(h:p:=by
 go_wp2_with fail;go_loopw [8] (λ u wr=>∃i:Nat,i<=k/\u=.int .i64 i/\eI B b (aq s (some (rq (ks.take i)))) (n+i) wr/\cy B b w wr) (λ u _=>k - (intOf u).toNat);case atStart=>exact⟨0,Nat.zero_le _,rfl,by simpa [rq,dm] using HH.out,.refl _⟩
 case round=>
  obtain⟨i,hi,rfl,hs,hd⟩:=hrel;have HS:=hid hs;have HD:=hid hd;clear hs hd;by_cases hlt:i < k
  ·obtain⟨x,hx⟩:∃x,ks[i]?=some x:=⟨_,getElem?_eq_getElem (by rw[HK.out];exact hlt)⟩;have hc:=Fs (HD.out.blk HG.out hgb Tab) hx;have hxs:=HL.out x (mem_of_getElem? hx);have HT:=hid (Fq hx);obtain⟨bad,l,h1,h2,h3⟩:=HS.out;have hw:=Kl B b bad l x wr h1 Taa HS.out.size;have H3:=hid h3;clear h1 h3 hx;go_wp2_with fail;refine hw.mono ?_;rintro e w1 ⟨rfl,h4,b4,k4⟩;have HR:=hid (show eI B b (aq s (some (rq (ks.take (i+1))))) (n+(i+1)) w1 from⟨bad,_,.inr h4,by rw[length_append,zX];omega,by
    rw[HT.out,<- Fo,<- aD,H3.out]
    cases bad <;> rfl⟩)
   have HE:=hid (HD.out.trans ⟨b4,k4⟩);clear h4 b4 k4 hw HS HD H3 hc;go_wp2_with fail;go_roundw;case rel=>exact⟨i+1,by omega,by go_num,HR.out,HE.out⟩
   case measure=>exact Zcu
  ·obtain rfl:i=k:=by omega
   rw[<- HK.out,take_length,HK.out] at HS;go_wp2_with fail;go_end0;exact⟨rfl,HS.out,HD.out⟩):p:=h
theorem ZaJ(h:p:=by
 have Ey:∀(fn:Fn) (first cap:Array Value) (w:World),(Instr.makeFunc fn first cap).run Tryz.prog w=.ok (.func fn first cap) w:=λ _ _ _ _=>rfl
 exact Kau):p:=h
theorem zil.KcI(h:p:=by have hb1:=af.then mR.out vw;clear CM x9 k0 m0 k1 m1 k2 m2 k3 m3 k4 m4 k5 m5 k6 m6 k7 m7 p2 p3 vw Bc f0;exact ZbW):p:=h
theorem zgw.KbV(h:p:=by open zil in exact Zgx):p:=h
theorem ZaK(h:p:=by refine ep 29 wr.heap.size wr (Below.refl _ _) Tac Tac Tac Tac ?_;open zgw in exact Zd8):p:=h
theorem zhU.Kcw(h:p:=by
 unfold wR at*;go_enter Tryz.func163,Tryz.ntmps163;go_wp2_with (first
  |(go_at_call 77;refine hm.mono ?_;rintro e w1 ⟨rfl,d1⟩)
  |(go_at_call 163;refine(H ρ w1 d1.at_).mono ?_;rintro e w2 ⟨y,rfl,ht,d2⟩;unfold dN aT;have D:=(iq.aC h hb).trans (d1.trans d2);have jS:=d2.blk (d1.blk HQ.out Taa) Taa;have hqs:=d2.size;have akd:=d1.size;have mD:=jS.alloc (.cells #[.int .u8 y.op,.int .u8 y.v.k,.int .i64 y.v.n,.string y.v.s,.string y.name,.int .i64 y.width,.slice y.A y.n y.c] 36);obtain⟨z0,z1,z2,z3,z4,z5,z6⟩:=gZ mD;obtain⟨y0,y1,y2,y3,y4,y5,y6⟩:=eL mD;obtain⟨x0,x1,x2,x3,x4,x5,x6⟩:=ej (av.new w2 36 (aT y).toArray);unfold aT at x0 x1 x2 x3 x4 x5 x6))
 have HP:=ia mD y;have HR:=ej HP;unfold gL at HR;obtain⟨r0,r1,r2,r3,r4,r5,r6⟩:=HR;refine bodyPost_ret (v:=dN y) Zci rfl ?_
 ·exact QH.put bj (Nat.le_refl _) (D.later (aa w2 _)) ((ht.later (aa w2 _)).more Taa)):p:=h
theorem ZaL(h:p:=by open zhU in exact Zge):p:=h
theorem ZaM(h:p:=by
 obtain⟨hk2,hp⟩:=hb2;rw[hk2] at hn
 obtain⟨z0,rfl⟩:∃z0,ys=[z0]:=by
  match ys,hn with
  | [z0],_=>exact⟨z0,rfl⟩
 obtain⟨a0,rfl⟩:∃a0,l=[a0]:=by
  match l,hl with
  | [a0],_=>exact⟨a0,rfl⟩
 obtain⟨c0,rfl⟩:∃c0,cs=[c0]:=by
  match cs,hc with
  | [c0],_=>exact⟨c0,rfl⟩
 have x0:=hx 0 z0 a0 rfl rfl;rcases hA with h0 |⟨q,off,kR,jP,hcell⟩
 ·cases h0
 have A0:=vR hS jP hcell (i:=0) (z:=z0) rfl;have i0:=nQ x0.2;rw[<- x0.1] at i0;exact Kav):p:=h
theorem zei.Ka4(h:p:=by go_wp2_with fail;exact Kaw):p:=h
theorem zeX.Kbh(h:p:=by have HH:=hid h;clear h;subst hk hA;have I0:=hid i0;have A0:=hid a0;clear i0 a0;open zei in exact ZbH):p:=h
theorem ZaN(h:p:=by open zeX in exact Zcf):p:=h
theorem ZaO(h:p:=by generalize w1.alloc _=W1 at*;generalize w1.heap.size=tb at*;obtain⟨u0,u1,u2,u3,v0,v1,v2,v3⟩:=aN Ga.out;have hm:=br ρ W1 l lg dp fT.out.at_ ⟨#[116,114,117,101]⟩;rw[show(⟨#[116,114,117,101]⟩:ByteArray).data.toList=eu from rfl,dT,ck dT] at hm;go_wp2_with fail;refine hm.mono ?_;clear hm;rintro e w2 ⟨rfl,d⟩;have eP:=hid (fT.out.trans d);have jS:=hid (d.blk pF.out Taa);clear d fT pF Ga u0 u1 u2 u3 v0 v1 v2 v3;generalize hW2:w2=W2 at*;clear hW2;have hm:=br ρ W2 l lg dp eP.out.at_ ⟨#[102,97,108,115,101]⟩;rw[show(⟨#[102,97,108,115,101]⟩:ByteArray).data.toList=dP from rfl,ez,ck ez] at hm;go_wp2_with fail;refine hm.mono ?_;clear hm;rintro e w3 ⟨rfl,d⟩;have jR:=hid (eP.out.trans d);have mD:=hid (d.blk jS.out Taa);clear d eP jS;generalize hW3:w3=W3 at*;clear hW3;have hm:=br ρ W3 l lg dp jR.out.at_ ⟨#[110,117,108,108]⟩;rw[show(⟨#[110,117,108,108]⟩:ByteArray).data.toList=bK from rfl,jy,ck jy] at hm;go_wp2_with fail;refine hm.mono ?_;clear hm;rintro e w4 ⟨rfl,d⟩;have pj:=hid (jR.out.trans d);have EH:=hid (d.blk mD.out Taa);clear d jR mD;generalize IB:w4=W4 at*;clear IB;have hm:=br ρ W4 l lg dp pj.out.at_ ⟨#[40]⟩;exact Kax):p:=h
theorem ZaP(h:p:=by
 go_wp2_with fail;have Hg:=Hh.out;refine bodyPost_ret (v:=.tuple #[.agg #[.int .u8 0,.string ⟨#[]⟩,.int .i64 0,.int .i64 0],.int .i64 30]) ?_ rfl ?_
 ·simp[results,Tryz.results106,go_sem,z0,z1,z2,z3]
 ·rw[Hg];exact⟨rfl,(((Eg.out.far (Nat.le_refl _) hne 0 _).far (Nat.le_refl _) hne 1 _ |>.far (Nat.le_refl _) hne 2 _ |>.far (Nat.le_refl _) hne 3 _))⟩):p:=h
theorem ZaQ(h:p:=by rw[c4] at HV;clear c4;go_wp2_with fail;refine HV.out.mono ?_;rintro e w4 ⟨rfl,b4⟩;have H4:=hid (HH.out.later hsz b4);clear x0 x1 x2 x3 x4 x5 x6;obtain⟨x0,x1,x2,x3,x4,x5,x6⟩:=H4.out.x.cells;dsimp only at x0 x1 x2 x3 x4 x5 x6;clear b4;go_wp2_with fail;refine(MS.out _ _ jL.out H4.out).mono ?_;rintro e w5 ⟨rfl,h5⟩;go_wp2_with fail;go_meet;exact h5):p:=h
theorem zhV.Kcw(h:p:=by exact Kay):p:=h
theorem ZaR(h:p:=by open zhV in exact Zge):p:=h
theorem ZaS(h:p:=by
 simp only[CH,Bool.and_eq_true,beq_iff_eq,Option.isNone_iff_eq_none] at sr;obtain⟨⟨⟨⟨⟨⟨⟨⟨⟨⟨⟨⟨⟨⟨⟨⟨⟨⟨⟨⟨⟨⟨⟨⟨⟨⟨⟨⟨t0,s0⟩,t1⟩,s1⟩,t2⟩,s2⟩,t3⟩,s3⟩,t4⟩,s4⟩,t5⟩,s5⟩,s5'⟩,t6⟩,s6⟩,e0⟩,e1⟩,e2⟩,e3⟩,e4⟩,e5⟩,e6⟩,g0⟩,g1⟩,g2⟩,g3⟩,g4⟩,g5⟩,g6⟩:=sr;have Ei:qb < w0.heap.size:=(by rcases Nat.lt_or_ge qb w0.heap.size with h | h;exact h;exact absurd hcell (by unfold World.cell?;rw[Array.getElem?_eq_none h];simp))
 have xJ:∀ {y w1 eQ w},af w0 w1->Post y w1 eQ->af eQ w->w.cell? ⟨qb,k,none⟩=some lv/\cJ f e size w base lv l/\w0.heap.size<=w.heap.size:=by
  intro y w1 eQ w ha hb hc;have hg:=hpg _ _ _ hb;have z1:qb < w1.heap.size:=Nat.lt_of_lt_of_le Ei ha.size;have z2:qb < eQ.heap.size:=Nat.lt_of_lt_of_le z1 hg.size;refine⟨?_,?_,Nat.le_trans ha.size (Nat.le_trans hg.size hc.size)⟩
  ·rw[hc.cell (p:=⟨qb,k,none⟩) z2,rA hg (p:=⟨qb,k,none⟩) z1 (λ e=>hqg Ta3),ha.cell (p:=⟨qb,k,none⟩) Ei];exact hcell
  ·exact((hown.later ha).grown hg EC).later hc
 exact Kaz):p:=h
theorem ziU.KcY(h:p:=by
 obtain⟨WD,X8⟩:∃WD:ByteArray,WD=(⟨#[68,82,79,80,32]⟩:ByteArray)++(⟨X.toArray⟩:ByteArray):=⟨_,rfl⟩;have Xh:=hid X8
 have hWl:WD.size<=1000:=by
  rw[X8,ByteArray.size_append];have e1:(⟨X.toArray⟩:ByteArray).size=X.length:=by show X.toArray.size=_;simp
  rw[e1];show 5+X.length<=1000;omega
 go_wp2_with fail;rw[<- X8];clear X8;refine(mj hE WD y.name w3 H3.out.st H3.out.hw hWl Tan Taa).mono ?_;rintro e w4 ⟨rfl,h2,d2⟩;have H4:=hid (H3.out.next hg0 hg1 h2 d2);clear h2 d2 H3 p0 x1;go_wp2_with fail;go_end0;refine⟨rfl,?_,H4.out.did⟩;have:=H4.out.st.more (show n+3<=n+(13*Tr.aQ s.exprs+4*s.aJ.length+3*s.rows.length+80) by omega);have hx:=HX.out;rw[HA.out.what] at hx;rw[<- hx,<- yK.out,HA.out.name.symm];rw[Xh.out] at this;exact KaA):p:=h
theorem ZaT(h:p:=by rintro e w3 ⟨rfl,h2,d2⟩;have H3:=hid (H2.out.next hg0 hg1 h2 d2);clear h2 d2 H2 TT;open ziU in exact Zhk):p:=h
theorem zic.KcD(h:p:=by exact KaB):p:=h
theorem ZaU(h:p:=by have bj:=h.nt;have b2:=af.then (aa w (.cells #[ρ.ptr] 77)) (aa _ (gQ {}));have hP:=(av.new w 77 #[ρ.ptr]).alloc (gQ {});have hR:=av.new (w.alloc (.cells #[ρ.ptr] 77)) 34 cN;rw[World.size_alloc] at hR;have HS:=hid (show Ba ρ w (w.heap.size+1) [w.heap.size] lg dp ((w.alloc (.cells #[ρ.ptr] 77)).alloc (gQ {})) l from⟨aY.aC h b2,hR,Nat.le_succ _,λ p hp=>by simp at hp;subst hp;exact⟨Nat.le_refl _,by omega,hP⟩⟩);open zic in exact Zgq):p:=h
theorem ZaV(h:p:=by refine wpList_nil ?_;simp only[Act.put,Uac];have sf:=hid (lS.out.row cs);clear vz lS jM;exact KaC):p:=h
theorem ZaW(h:p:=by
 go_wp2_with fail;refine(sR _ _ acc _ yP.out.buf hsz).mono ?_;rintro e w1 ⟨rfl,b1⟩;have hat:=yP.out.at_.under b1 Taa Taa;have JH:=hid (yP.out.res.below b1 Taa);have jg:=hid hat;go_wp2_with fail;refine(nN s g at_ (k+1) 3 ⟨acc.toArray⟩ 0 0 _ jg.out.1).mono ?_;rintro e w2 ⟨rfl,pD⟩;obtain⟨z0,z1,z2,z3,y0,y1,y2,y3⟩:=aN (pD.other JH.out hne);go_wp2_with fail;refine bodyPost_ret (v:=.tuple #[.agg #[.int .u8 3,.string ⟨acc.toArray⟩,.int .i64 0,.int .i64 at_],.int .i64 0]) ?_ rfl ?_
 ·simp[results,Tryz.results108,go_sem,z0,z1,z2,z3]
 ·rw[kY.out,HM.out,drop_at HB.out,HQ.out,sQ Nh.out];refine⟨rfl,?_⟩;show At s g w (s.size - _) _;have e:s.size - (s.data.toList.drop (k+1)).length=k+1:=by rw[length_drop,HLEN.out];omega
  rw[e];exact(((jg.out.trans pD).far (Nat.le_refl _) hne 0 _).far (Nat.le_refl _) hne 1 _ |>.far (Nat.le_refl _) hne 2 _ |>.far (Nat.le_refl _) hne 3 _)):p:=h
theorem ZaX(h:p:=by intro ρ w3 hc hL hr;have h0:_=_:=hr.1;exact ae (w':=w3) (jG rfl h0 (av.later H0.out.q hL) Tryz.underlying34 (kg y)) ⟨af.refl _,rfl⟩):p:=h
theorem ZaY(h:p:=by
 obtain rfl:i=k:=by omega
 have e:os.take i=os:=take_of_length_le (Nat.le_of_eq HP.out);rw[e] at HS;go_wp2_with fail;go_end0;refine⟨rfl,?_,HD.out⟩;rw[Xg.out,<- aD];exact HS.out):p:=h
theorem ZaZ(h:p:=by
 simp only[drop_succ_cons,drop_zero,take_succ_cons,take_zero] at t0 t1;have eb:Rows.uptoBulk (DataW.agg (List.map (λ x=>x.1) [y0,y1]))=Rows.uptoBulk y0.1+(Rows.uptoBulk y1.1+(0))+1:=by simp only[map_cons,map_nil,Rows.uptoBulk,Rows.uptoBulkAll]
 dsimp only at hw ⊢;rw[eb] at hw ⊢;have hb0:=bw y0.1;have hb1:=bw y1.1;exact KaD):p:=h
theorem Za0(h:p:=by
 go_wp2
 all_goals
  go_ret;refine⟨?_,rfl⟩;first | rfl |(refine cW ?_;rw[Bool.eq_iff_iff];simp;omega)|(refine cW ?_;rw[Bool.eq_iff_iff];simp;done)):p:=h
theorem Za1(h:p:=by
 obtain⟨t,r,pl,qD,hl,hlt,hsm,hpl,Bw,Ai,vv,hp⟩:=h.mh;have bj:=h.nt;have hb0:=aa w (.cells dF 36);have eN:=ie ρ _ l lg dp (h.later hb0);rw[<- qD] at eN;have HQ:=hid (av.new w 36 dF);have HD:=hid (aY.aC h hb0);have HL:=hid hl;have sD:=h.left;have vx:r.length+1<=ρ.n:=by have:=sD.2;rw[hl] at this;simpa using this
 have Uh:=hid (show(l.length:Int)=(r.length:Int)+1 by rw[hl];rfl);have hsz:(w.alloc (.cells dF 36)).heap.size=w.heap.size+1:=by simp
 have hk:=hk t.w r hl;exact KaE):p:=h
theorem Za2(h:p:=by unfold St.cost at hn ⊢;have JS:=gj s;have zZ:=hf.nodes;have hlt:=hst.lt;have hsz:=hst.size;obtain⟨tt,oy⟩:∃tt,tt=dJ s false false false false false false false false true:=⟨_,rfl⟩;have TT:=hid (λ W=>gi h hf hm false false false false false false false false true W);rw[<- oy] at TT;unfold ji at TT;have yK:=hid oy;exact KaF):p:=h
theorem Za3(h:p:=by have TS:w8.cell? ⟨g1,25,none⟩=some (.int .u8 y.cP.k):=H8.out.q.cell 25;have TU:w8.cell? ⟨g1,26,none⟩=some (.int .i64 y.cP.n):=H8.out.q.cell 26;have JL:w8.cell? ⟨g1,27,none⟩=some (.string y.cP.s):=H8.out.q.cell 27;have p0:w8.cell? ⟨g0,0,none⟩=some (.pointer (some ⟨b,0,none⟩)):=H8.out.p.cell 0;go_wp2_with fail;refine(tu hE y.cP (by rw[HA.out.cP];exact HF.out.cP.1) (by rw[HA.out.cP];exact HF.out.cP.2) w8 H8.out.st H8.out.hw Taa).mono ?_;rintro e w9 ⟨rfl,h2,d2⟩;have H9:=hid (H8.out.next hg0 hg1 h2 d2);clear h2 d2 H8 p0 TS TU JL;have p0:w9.cell? ⟨g0,0,none⟩=some (.pointer (some ⟨b,0,none⟩)):=H9.out.p.cell 0;go_wp2_with fail;refine(cA ⟨#[41]⟩ w9 H9.out.st Tab Taa).mono ?_;rintro e wa ⟨rfl,h2,d2⟩;have sq:=hid (H9.out.next hg0 hg1 h2 d2);clear h2 d2 H9 p0;go_wp2_with fail;go_end0;refine⟨rfl,?_,sq.out.did⟩;exact KaG):p:=h
theorem Za4(h:p:=by
 clear hA fW;by_cases h5:100 < Ov.size
 ·have t9:decide ((100:Int)<(Ov.size:Int))=true:=decide_eq_true Taa;exact ZcA
 ·have t9:decide ((100:Int)<(Ov.size:Int))=false:=decide_eq_false Taa;go_wp2_with fail;go_roundw;case rel=>first | exact⟨k+1,hlt,by go_num,trivial⟩| exact⟨k+1,hlt,by go_num,rfl⟩
  case measure=>exact Zcu):p:=h
theorem zi8.Kc5(h:p:=by
 clear hm;intro e KS hp;rcases hp.cases with ⟨_,LI,v9,az,rfl,rfl,d⟩|⟨m,au,rfl,hg⟩;case inr=>have HF:=hid (show dr l=.error m from HE.out.trans (ak (show must cj l11=.error m by rw[<- ay];exact au)));have HG:=hid HB.out.sa.did.grown;clear hp au;go_wp2_with fail;exact aj rfl (GP.err HF.out ⟨rfl,ai HG.out hg⟩)
 exact KaH):p:=h
theorem Za5(h:p:=by
 clear hX d HA;have HA:=fB;clear fB;unfold bD jX fF fp at hc;try unfold fF
 go_upto_region 14 with fail;clear hc hf;generalize wa.setCell _ _=W12 at*;have hb:=aa W12 (.cells (aP [cj]) 9);have HB:=hid (HA.out.later hb);have kJ:=HA.out.blk.lt;have hm:=aW ρ _ l11 _ _ HB.out.sa.did.at_ [cj] W12.heap.size 1 rfl (av.new W12 _ _) Taa Taa;open zi8 in exact ZhA):p:=h
theorem Za6(h:p:=by intro W hW;obtain⟨yop,yv,Ak,tF,yA,yn,yc⟩:=y;have hn:yn=ys.length:=hn;subst hn;have HD:=hid hD;have HM:=hid hm;have HDL:=hid hd;have HA:=hid hA;clear hD hm hd hA;unfold dN aT;have HX:=av.new W 36 #[.int .u8 yop,.int .u8 yv.k,.int .i64 yv.n,.string yv.s,.string Ak,.int .i64 tF,.slice yA ys.length yc];have hb:=aa W (.cells #[.int .u8 yop,.int .u8 yv.k,.int .i64 yv.n,.string yv.s,.string Ak,.int .i64 tF,.slice yA ys.length yc] 36);exact KaI):p:=h
theorem Za7(h:p:=by
 clear VR;go_wp2_with fail;refine(nw kB s at_ k g _ Eg.out.1 hle hs).mono ?_;rintro e w' ⟨rfl,rfl⟩;rw[zW.out];go_wp2_with fail;refine(nN s g at_ k 2 ⟨#[]⟩ (gO q) 0 _ Eg.out.1).mono ?_;rintro e w2 ⟨rfl,hat⟩;clear z0 z1 z2 z3 y0 y1 y2 y3;obtain⟨z0,z1,z2,z3,y0,y1,y2,y3⟩:=aN (hat.other JH.out hne);go_wp2_with fail;refine bodyPost_ret (v:=.tuple #[.agg #[.int .u8 2,.string ⟨#[]⟩,.int .i64 (gO q),.int .i64 at_],.int .i64 0]) ?_ rfl ?_
 ·simp[results,Tryz.results106,go_sem,z0,z1,z2,z3]
 ·rw[Hh.out];refine⟨rfl,?_⟩;show At s g w (s.size - _) _;rw[HR.out];exact(((Eg.out.trans hat).far (Nat.le_refl _) hne 0 _).far (Nat.le_refl _) hne 1 _ |>.far (Nat.le_refl _) hne 2 _ |>.far (Nat.le_refl _) hne 3 _)):p:=h
theorem Za8(h:p:=by
 refine(FC (s.extract at_ k) _ (by rw[ByteArray.size_extract];omega)).mono ?_;rintro e w1 ⟨rfl,b1⟩;have HE:=hid (show(s.extract at_ k).data.toList=(s.data.toList.drop at_).takeWhile cx by rw[<- zW.out];exact kC cx s at_);obtain⟨z0,z1,z2,z3,y0,y1,y2,y3⟩:=aN (HZ.out.later b1);rw[HE.out];go_wp2_with fail;refine bodyPost_ret (v:=.tuple #[.agg #[.int .u8 1,.string ⟨(((s.data.toList.drop at_).takeWhile cx).map oU).toArray⟩,.int .i64 0,.int .i64 at_],.int .i64 k,.int .i64 0]) Zcd rfl ?_
 ·rw[kY.out,zW.out,if_pos h32];unfold AG;simp only;rw[pT cx s Taa,zW.out];exact⟨rfl,xD (bb.trans (b1.mono bb.size)) (Nat.le_refl _) _ _ _ _⟩):p:=h
theorem zgZ.Kb5(h:p:=by exact KaJ):p:=h
theorem zfi.Kbn(h:p:=by obtain⟨x0,x1,x2,x3,x4,x5,x6,x7⟩:=p8 HB.out;have p0:=HP.out.cell 0;simp only[getElem?_toArray,getElem?_cons_zero] at p0;go_wp2_with fail;refine(HX.out W1 s n HS.out (hw.trans HD.out.below) Taa).mono ?_;open zgZ in exact Zeq):p:=h
theorem Za9(h:p:=by open zfi in exact Zcs):p:=h
theorem Zba(h:p:=by go_wp2_with fail;refine(MS.out _ jL.out).mono ?_;rintro e w5 ⟨rfl,h5,d5⟩;go_wp2_with fail;go_meet;exact⟨h5,d5⟩):p:=h
theorem Zbb(h:p:=by
 clear HC;simp only at hk hv;subst hk;unfold cn at HS HT ES;unfold cn;go_upto_region 3 with fail
 change Code.wp _ _ _ _ (w1.alloc (.cells #[.int .u8 ((1:Nat):Int),.string ⟨s9.toArray⟩,.int .i64 n9,.int .i64 p9] 81));generalize hb:w1.heap.size=b at*;generalize hW:(World.alloc w1 _)=W1 at*;clear hW hb hs1 pg;have y0:W1.cell? ⟨b,0,none⟩=some (.int .u8 ((1:Nat):Int)):=(HT.out.cell 0).trans rfl;have y1:W1.cell? ⟨b,1,none⟩=some (.string ⟨s9.toArray⟩):=(HT.out.cell 1).trans rfl;go_upto_region 4 with (first
  |(refine fC Tryz.underlying122 Tryz.underlying9 rfl _ _ rfl W0.heap.size rfl (⟨s9.toArray⟩:ByteArray) rfl (l:=Dn) ES.out (z:=.nilFunc) Tryz.zeroValue121 ?_
    rw[show(⟨s9.toArray⟩:ByteArray).data.toList=s9 by simp]))
 clear ES HT;exact KaK):p:=h
theorem Zbc(h:p:=by simp only[execOp,resolve,invoke,builtin,Sem.run_bind,Sem.run_pure,Result.andThen_ok,map_toArray,map_cons,map_nil,qZ,nK,sF]):p:=h
theorem zgO.Kb2(h:p:=by
 obtain⟨G2,aii,e7,e8⟩:=k5 _ r0;rw[hc] at r1;injection r1 with r1;have hown:a.ownBlock=some G2:=by rw[e7];rfl
 rw[tR] at hB;rw[tR] at e6;have e6:cJ aT 36 7 w γ.B a (ys++ [zeroE]):=e6;obtain⟨cur,Zl⟩:=(e6.lt hown).2.2;obtain⟨G3,c3,jk,_,_,sG⟩:=e6.cell (f:=aT) (λ _=>rfl) (k:=acc.length) (x:=zeroE) (by rw[<- e3];simp);have hG3:G3=G2:=by rw[jk] at hown;simp[Value.ownBlock] at hown;exact hown
 subst hG3;subst e2;have hrun:=hst ρ w G3 y e8 r1.symm (λ j u hu=>sG j u (by have:(aT zeroE).toArray[j]?=some u:=hu;simpa using this)) (λ i=>av.frozen Zl i);unfold yG;rw[hrun];exact KaL):p:=h
theorem Zbd(h:p:=by open zgO in exact Zeh):p:=h
theorem ze9.Kbl(h:p:=by clear h2 d2 H1 TT x0;have x1:w2.cell? ⟨g1,1,none⟩=some (.string y.name):=H2.out.q.cell 1;have p0:w2.cell? ⟨g0,0,none⟩=some (.pointer (some ⟨b,0,none⟩)):=H2.out.p.cell 0;go_wp2_with fail;exact KaM):p:=h
theorem Zbe(h:p:=by open ze9 in exact Zcn):p:=h
theorem zhJ.Kcr(h:p:=by
 have k0:=λ q:Ext wr.heap.size wr=>(q.h.cell (p:=⟨b,off+i*8,none⟩) nj).trans (hcell 0 (.int .u8 x.1.op) rfl)
 have k1:=λ q:Ext wr.heap.size wr=>(q.h.cell (p:=⟨b,off+i*8+1,none⟩) nj).trans (hcell 1 (.int .u8 x.1.v.k) rfl)
 have k2:=λ q:Ext wr.heap.size wr=>(q.h.cell (p:=⟨b,off+i*8+2,none⟩) nj).trans (hcell 2 (.int .i64 x.1.v.n) rfl)
 have k3:=λ q:Ext wr.heap.size wr=>(q.h.cell (p:=⟨b,off+i*8+3,none⟩) nj).trans (hcell 3 (.string x.1.v.s) rfl)
 have k4:=λ q:Ext wr.heap.size wr=>(q.h.cell (p:=⟨b,off+i*8+4,none⟩) nj).trans (hcell 4 (.string x.1.name) rfl)
 have k5:=λ q:Ext wr.heap.size wr=>(q.h.cell (p:=⟨b,off+i*8+5,none⟩) nj).trans (hcell 5 (.int .i64 x.1.width) rfl)
 have k6:=λ q:Ext wr.heap.size wr=>(q.h.cell (p:=⟨b,off+i*8+6,none⟩) nj).trans (hcell 6 (.slice x.1.A x.1.n x.1.c) rfl)
 exact KaN):p:=h
theorem zfc.Kbm(h:p:=by open zhJ in exact Zfo):p:=h
theorem Zbf(h:p:=by open zfc in exact Zcp):p:=h
theorem Zbg(h:p:=by
 clear hk qD hpl Bw hp hlt h hb0 hl sD;unfold dF at eN hsz;go_enter Tryz.func241,Tryz.ntmps241;go_wp2_with fail;refine eN.mono ?_;clear eN;rintro e w1 ⟨rfl,b1⟩;have hb1:=aa w1 (.cells (cn t) 81);have Ga:=hid (av.new w1 81 (cn t));have fT:=hid ((HD.out.later b1).later hb1);have pF:=hid ((HQ.out.later b1).later hb1);have htq:w.heap.size+1<=w1.heap.size:=by have:=b1.size;omega
 clear b1 hb1 HD HQ hsz;unfold cn at*;go_upto_region 2 with fail;exact KaO):p:=h
theorem Zbh(h:p:=by
 go_enter_defers Tryz.func14,Tryz.ntmps14;go_upto_region 1 with fail;change Code.wp _ _ _ _ (((w.alloc (gQ {})).alloc (.cells #[.int .i64 0] 3)).alloc (.cells #[.int .i64 0] 40));have hb3:Below w.heap.size w (((w.alloc (gQ {})).alloc (.cells #[.int .i64 0] 3)).alloc (.cells #[.int .i64 0] 40)):=af.then (af.then (aa w _) (aa _ _)) (aa _ _)
 have hC:nI (((w.alloc (gQ {})).alloc (.cells #[.int .i64 0] 3)).alloc (.cells #[.int .i64 0] 40)) w.heap.size cN (.int .i64 0) (.int .i64 0):=by
  refine⟨((av.new w _ _).alloc _).alloc _,?_,?_⟩
  ·have:=(av.new (w.alloc (gQ {})) 3 #[.int .i64 0]).alloc (.cells #[.int .i64 0] 40);rwa [World.size_alloc] at this
  ·have:=av.new ((w.alloc (gQ {})).alloc (.cells #[.int .i64 0] 3)) 40 #[.int .i64 0];rwa [World.size_alloc,World.size_alloc] at this
 generalize hW:World.alloc _ _=W0 at*;clear hW;exact KaP):p:=h
theorem zf1.KbI(h:p:=by have D2:=hid (fT.out.trans d2);have x0:=(d2.blk HX.out lO Tab).cell 0;have x1:=(d2.blk HX.out lO Tab).cell 1;exact KaQ):p:=h
theorem Zbi(h:p:=by open zf1 in exact Zdn):p:=h
theorem zgi.KbP(h:p:=by simp only[Nat.add_zero] at k0;clear hx hdd hcell hc;subst kR;go_wp2_with fail;exact KaR):p:=h
theorem Zbj(h:p:=by
 obtain⟨x,hx⟩:∃x,ys[i]?=some x:=⟨_,getElem?_eq_getElem hlt⟩;obtain⟨d,hdd⟩:∃d,ds[i]?=some d:=⟨_,getElem?_eq_getElem (by rw[HDL.out];exact hlt)⟩;have hDx:=HD.out i x d hx hdd;have hdm:=xK (mem_of_getElem? hdd);have HMT:=hid (zk hdd);have hwr:Below w.heap.size w wr:=hW.trans ((af.then mR.out iE).mono hW.size);rcases HA.out with h0 |⟨b,off,kR,jP,hc⟩
 ·subst h0;simp at hlt
 have hcell:=λ j u hu=>(hwr.cell (p:=⟨b,off+i*7+j,none⟩) (hS b jP)).trans (hc i x j u hx hu)
 open zgi in exact ZdB):p:=h
theorem Zbk(h:p:=by have EW:=hid (hW.trans (hB.mono hW.size));generalize hQX:W.heap.size=QX at*;generalize hQZ:QX+1=QZ at*;generalize hW1:((W.alloc _).alloc _)=W1 at*;have HX:=hid hX;have HZ:=hid hZ;have HB:=hid hB;have TW:=hid hQX;clear hX hZ hB hQX hQZ hW1;go_wp2_with fail;refine(HWH.out _ EW.out).mono ?_;rintro e V1 ⟨rfl,b1⟩;have hb1:=b1;replace x0:=(b1.cell (ax x0)).trans x0;replace z0:=(b1.cell (ax z0)).trans z0;replace x1:=(b1.cell (ax x1)).trans x1;replace z1:=(b1.cell (ax z1)).trans z1;replace x2:=(b1.cell (ax x2)).trans x2;replace z2:=(b1.cell (ax z2)).trans z2;replace x3:=(b1.cell (ax x3)).trans x3;replace z3:=(b1.cell (ax z3)).trans z3;replace x4:=(b1.cell (ax x4)).trans x4;replace z4:=(b1.cell (ax z4)).trans z4;replace x5:=(b1.cell (ax x5)).trans x5;replace z5:=(b1.cell (ax z5)).trans z5;replace x6:=(b1.cell (ax x6)).trans x6;replace z6:=(b1.cell (ax z6)).trans z6;replace x7:=(b1.cell (ax x7)).trans x7;replace z7:=(b1.cell (ax z7)).trans z7;exact KaS):p:=h
theorem Zbl(h:p:=by
 have m0:=λ q:Ext wr.heap.size wr=>(q.h.cell (p:=⟨b2,fG+i*8,none⟩) il).trans (bY 0 (.int .u8 u.1.op) rfl)
 have m1:=λ q:Ext wr.heap.size wr=>(q.h.cell (p:=⟨b2,fG+i*8+1,none⟩) il).trans (bY 1 (.int .u8 u.1.v.k) rfl)
 have m2:=λ q:Ext wr.heap.size wr=>(q.h.cell (p:=⟨b2,fG+i*8+2,none⟩) il).trans (bY 2 (.int .i64 u.1.v.n) rfl)
 have m3:=λ q:Ext wr.heap.size wr=>(q.h.cell (p:=⟨b2,fG+i*8+3,none⟩) il).trans (bY 3 (.string u.1.v.s) rfl)
 have m4:=λ q:Ext wr.heap.size wr=>(q.h.cell (p:=⟨b2,fG+i*8+4,none⟩) il).trans (bY 4 (.string u.1.name) rfl)
 have m5:=λ q:Ext wr.heap.size wr=>(q.h.cell (p:=⟨b2,fG+i*8+5,none⟩) il).trans (bY 5 (.int .i64 u.1.width) rfl)
 have m6:=λ q:Ext wr.heap.size wr=>(q.h.cell (p:=⟨b2,fG+i*8+6,none⟩) il).trans (bY 6 (.slice u.1.A u.1.n u.1.c) rfl)
 exact KaT):p:=h
theorem Zbm(h:p:=by
 clear hc hf ES;generalize wm.setCell _ _=WM at*;have hb:=aa WM (.cells (aP [eV]) 9);have HB:=hid (HA.out.later hb);have kJ:=HA.out.blk.lt;have hm:=aW ρ _ l6 _ _ HB.out.sa.did.at_ [eV] WM.heap.size 1 rfl (av.new WM _ _) Taa Taa;clear hb HA;unfold aP strOf at hm HB;simp only[map_cons,map_nil] at hm HB;rw[show eV.toArray= #[97,102,116,101,114] from rfl] at hm HB;go_wp2_with fail;refine hm.mono ?_;clear hm;intro e w8 hp;rcases hp.cases with ⟨_,l9,v9,az,rfl,rfl,d⟩|⟨m,au,rfl,hg⟩;case inr=>have HF:=hid (show dr l=.error m from HE.out.trans (ak (show must eV l6=.error m by rw[<- ay];exact au)));have HG:=hid HB.out.sa.did.grown;clear hp au;go_wp2_with fail;exact aj rfl (GP.err HF.out ⟨rfl,ai HG.out hg⟩)
 exact KaU):p:=h
theorem Zbn(h:p:=by intro ρ w3 hc hL hr;have h0:_=_:=hr.1;have h1:_=_:=hr.2.1;have e1:=hc.func 37;refine dG (f:=37) (args:= #[.agg (bD y).toArray,.agg (bD (eM y false true false false false false false false false)).toArray]) (w':=w3) Taq ?_;exact Zce):p:=h
theorem Zbo(h:p:=by have Av:=hid (show nI (w7.setRow q z0) q z0 (.int .i64 0) (.int .i64 0)from⟨MQ.out.st.row z0,MQ.out.at_.gU Taa z0,MQ.out.er.gU Taa z0⟩);have HB8:=hid (Wf.out.trans (aO (cH w7 q z0) Taa (Nat.le_refl _)));have HS8:=hid (show w7.heap.size=(w7.setRow q z0).heap.size by rw[size_setRow]);have Ej:=hid (St.at_.keep (iI w7 (show q < W3.heap.size by omega) z0) HA7.out);generalize w7.setRow q z0=W8 at*;have e1:=Av.out.at_.cell 0;have e2:=Av.out.er.cell 0;simp only[getElem?_toArray,getElem?_cons_zero] at e1 e2;have f1:=Av.out.at_.frozen 0;have f2:=Av.out.er.frozen 0;simp only[Act.put];go_wp2_with fail;have g1:W8.grownBy (W8.setCell ⟨q+1,0,none⟩ (.int .i64 0)) (some (q+1)):=bu (aB (Below.refl _ _)) 0 _;exact KaV):p:=h
theorem ziP.KcV(h:p:=by exact KaW):p:=h
theorem zgj.KbP(h:p:=by have k7:=hcell 7 _ rfl;open ziP in exact Zg4):p:=h
theorem Zbp(h:p:=by
 have hcell:=λ j u hu=>(hwr.cell (p:=⟨q,off+i*8+j,none⟩) (hS q jP)).trans (hc i z j u hz hu)
 open zgj in exact ZdB):p:=h
theorem Zbq(h:p:=by
 refine sL az hz 0 zs rfl listed a w I.len ?_ hK;intro i hi;constructor
 ·intro hl;rcases Nat.lt_or_ge i l.length with h' | h'
  ·omega
  ·rw[I.tail i h'] at hl;cases hl
 ·intro hl;exact hall i Taa):p:=h
theorem Zbr(h:p:=by rintro e w2 ⟨rfl,h3,d3⟩;have H2:=hid (H1.out.next hx hf h3 d3);clear h3 d3 H1;obtain⟨x0,x1,x2,x3,x4,x5,x6⟩:=H2.out.x.cells;dsimp only at x0 x1 x2 x3 x4 x5 x6;have hw2:=hw.trans H2.out.did.below;obtain⟨k0,k1,k2,k3,k4,k5,k6⟩:=A0.out.later hw2;go_wp2_with fail;refine(I0.out w2 _ _ H2.out.st hw2 Taa).mono ?_;rintro e w3 ⟨rfl,h2,d2⟩;have H3:=hid (H2.out.next hx hf h2 d2);clear h2 d2 H2 hw2 k0 k1 k2 k3 k4 k5 k6 x0 x1 x2 x3 x4 x5 x6;go_wp2_with fail;go_end0;refine⟨rfl,?_,H3.out.did⟩;have:=H3.out.st.more (show n+1+c<=n+c+1 by omega);exact Zfl):p:=h
theorem Zbs(h:p:=by obtain⟨v,A⟩:=hs;have p0:=A.ptr;have HA:=hid A;have HD:=hid hd;have P3:=hid (show∀G,v.ownBlock=some G->G < W.heap.size from λ G hG=>(A.ge hG).2);have P4:=A.sz;have bj:=F.gg;have hq0:=F.q0;have hqB:=F.qB;have VO:=F.pq;have hp0:=F.p0;have hpB:=F.pB;clear Uv;exact KaX):p:=h
theorem Zbt(h:p:=by
 clear d HS qC hcs;go_upto_region 3 with (first
  |(refine ij rfl 34 _ rfl (cs:=cs) ?hv ?_;rotate_left)
  |(refine wpList_store_row rfl 34 (.tmp 3) (.tmp 9) rfl w3.heap.size cs rfl rfl 34 cN (av.new w3 34 cN) dK.out mo.out jM.out ?_
    rw[jI]))
 case hv=>exact BD.out
 generalize hb:w3.heap.size=b at*;generalize hW:(World.alloc _ _)=WB at*;clear hW hb wb BD jM mo dK;exact KaY):p:=h
theorem Zbu(h:p:=by
 rw[<- hcs];have b1:=aa w (.cells #[.pointer (some ⟨b,0,none⟩)] 87);have b2:=aa (w.alloc (.cells #[.pointer (some ⟨b,0,none⟩)] 87)) (.cells cs 34);have b3:=af.then b1 b2;have hy:=av.new (w.alloc (.cells #[.pointer (some ⟨b,0,none⟩)] 87)) 34 cs;rw[World.size_alloc] at hy;have hP:PW w0 b s0 n w ((w.alloc (.cells #[.pointer (some ⟨b,0,none⟩)] 87)).alloc (.cells cs 34)) w.heap.size (w.heap.size+1) y:=⟨(av.new w _ _).alloc _,by rw[<- hcs];exact hy,hst.later b3,cy.aC b3 hsz,hw.trans (b3.mono hw.size)⟩;have H0:=hid hP;have dK:=hid hw.size;have hg0:w.heap.size≠b:=by omega
 have hg1:w.heap.size+1≠b:=by omega
 clear h hf hst hw b1 b2 b3 hy hP hcs;exact KaZ):p:=h
theorem Zbv(h:p:=by
 intro vs w hl hG;have XP:=CI _ _ hG
 match vs,hl with
 | [a,s,v],_=>obtain⟨y,w1,eQ,w2,ha,h2,h3,h4,h5,h6,h7,h8⟩:=hG;simp only[cU,e0,e1,e2,e3,e4,e5,e6];intro a0' p0 a1 p1 a2 p2 a3 p3 a4 p4 a5 p5 a6 p6;have z0:a0'=.pointer (some ⟨qb,k,none⟩):=p0;have z1:a1=lv:=p1;have z2:a2=ptr:=p2;have z3:some a=some a3:=p3;have z4:some s=some a4:=p4;have z5:some v=some a5:=p5;have z6:a6=.pointer (some ⟨qb,k,none⟩):=p6;injection z3 with z3;injection z4 with z4;injection z5 with z5;rw[z0,z1,z2,<- z3,<- z4,<- z5,z6,ha];exact tE y s v w1 eQ w2 w h2 h3 h4 h5 h6 h7 h8 XP):p:=h
theorem Zbw(h:p:=by exact Zgc):p:=h
theorem Zbx(h:p:=by exact⟨0,Nat.zero_le _,rfl,by rw[take_zero];show eI _ _ (aq _ (some [])) _ _;rw[dm,m0];exact H1.out,D1.out⟩):p:=h
theorem Zby(h:p:=by
 match l,hl with
 | [],_ | _::_::_,_=>rfl
 | [x],hl=>exact ZeP):p:=h
theorem Zbz(h:p:=by
 go_enter Tryz.func89,Tryz.ntmps89;go_wp2
 all_goals
  go_ret;refine⟨?_,by go_grown⟩;simp_all):p:=h
theorem ZbA(h:p:=by go_wp2_with fail;refine HK.out _ _ (HO.out _ _ ⟨rfl,rfl,rfl⟩ H2.out)):p:=h
theorem ZbB(h:p:=by clear HA HX hcs HE;refine wp_region_lit ?_;refine wpList_load_row rfl 34 (.tmp 3) rfl b rfl 34 cs (0,0) _ vz.out Tryz.underlying34 rfl dK.out ?_;exact Ka0):p:=h
theorem ziX.KcZ(h:p:=by have t3:decide ((200:Int)<(y.aS.n:Int))=false:=decide_eq_false Taa;exact Ka1):p:=h
theorem ZbC(h:p:=by open ziX in exact Zhr):p:=h
theorem ZbD(h:p:=by
 rw[h];have ix0:∀u:World,(Instr.index 188 (.agg #[.string ⟨#[70,65,76,83,69]⟩,.string ⟨#[84,82,85,69]⟩]) (.int .i64 0)).run Tryz.prog u=.ok (.string ⟨#[70,65,76,83,69]⟩) u:=λ u=>by kernel_rfl
 have ix1:∀u:World,(Instr.index 188 (.agg #[.string ⟨#[70,65,76,83,69]⟩,.string ⟨#[84,82,85,69]⟩]) (.int .i64 1)).run Tryz.prog u=.ok (.string ⟨#[84,82,85,69]⟩) u:=λ u=>by kernel_rfl
 go_enter Tryz.func168,Tryz.ntmps168;exact Zc1):p:=h
theorem ZbE(h:p:=by obtain⟨vv,TC,hn3,hn4,hn5,hn6⟩:=hn;obtain⟨hs1,hs2,hs3,MN,hs5,O6,hs7⟩:=hs;obtain⟨cs,hcs⟩:∃cs,cs=(bD y).toArray:=⟨_,rfl⟩;have b1:=aa w (.cells cs 34);have k1:=av.new w 34 (bD y).toArray;have jB:=hid b1;have FP:=hid (show av (w.alloc (.cells cs 34)) w.heap.size 34 (bD y).toArray by rw[hcs];exact k1);exact Ka2):p:=h
theorem ZbF(h:p:=by
 have HE:=hid (show(s.extract at_ k).data.toList=(s.data.toList.drop at_).takeWhile aL by rw[<- zW.out];exact kC aL s at_);have hx1:0 <(s.extract at_ k).size:=by have h1:=ajJ.out;rw[<- HE.out] at h1;simpa only[ByteArray.size_data,Array.length_toList] using h1
 have hx2:(s.extract at_ k).size<=4294967280:=by rw[ByteArray.size_extract];omega
 have HN:=hid (Af (s.extract at_ k) W (by rw[HE.out];exact Be _) hx1 hx2);have Qo:=hid (show(s.data.toList.drop at_).dropWhile aL=s.data.toList.drop k by rw[<- mM,zW.out]);clear hx1 hx2;obtain⟨z0,z1,z2,z3,y0,y1,y2,y3⟩:=aN HZ.out;exact Ka3):p:=h
theorem ZbG(h:p:=by go_wp2_with fail;go_end0;refine⟨rfl,?_,H3.out.did⟩;have:=H3.out.st.more (show n+(13*Tr.aQ s.query.exprs+20)<=n+(13*Tr.aQ s.exprs+4*s.aJ.length+3*s.rows.length+80) by omega);rw[MG];exact Zcg):p:=h
theorem ZbH(h:p:=by obtain⟨x0,x1,x2,x3,x4,x5,x6⟩:=HH.out.x.cells;dsimp only at x0 x1 x2 x3 x4 x5 x6;generalize hQ:bodyPost Tryz.prog Tryz.f60 _=Q;simp only[sk,ja,Tryz.f60,Option.getD_some];subst hQ;exact Ka4):p:=h
theorem ZbI(h:p:=by exact ZeZ):p:=h
theorem ZbJ(h:p:=by
 unfold wR at*;unfold bp.ptr;go_enter Tryz.func163,Tryz.ntmps163;go_wp2_with (first
  |(go_at_call 163;refine(H1 ρ _ h0).mono ?_;rintro e w2 ⟨y,rfl,ht,d2⟩;unfold dN aT))
 have hA:Wb ρ w w.heap.size w2.heap.size (w2.alloc (FH y)) _ t y:=
  ⟨((iq.aC h hb).trans d2).later (aa _ _),av.new w2 _ _,(d2.blk HQ.out Taa).alloc _,Tr.at_.keep (yR _ (by rw[hsz];exact Nat.le_refl _)) _ _ ht⟩
 have JM:w.heap.size+1<=w2.heap.size:=by have:=d2.size;omega
 unfold FH aT at hA;generalize w2.alloc _=W at*;generalize w2.heap.size=qx at*;have A:=hA;clear hA ht d2 h0 hb HQ;exact Ka5):p:=h
theorem ZbK(h:p:=by intro ρ w3 hc hL hr;intro hg;have hg:ρ (.tmp 50)=.bool false:=hg;exact Zfi):p:=h
theorem ZbL(h:p:=by obtain⟨kind,name,cs,time,every,space,parts,query,what,cr,a,b,rows,aS,aR,aK,cP⟩:=s;have l0:=no li.c;have l1:=no li.e;have l2:=no li.w;have l3:=no li.j;exact Ka6):p:=h
theorem ZbM(h:p:=by clear hh;go_wp2_with fail;refine hm.mono ?_;clear hm;rintro e w4 ⟨rfl,d4⟩;have hb4:=aa w4 (.cells (aP [bK]) 9);have qX:=hid ((mU.out.go d4 Taa Taa).later hb4);have hw4:ρ.g < w4.heap.size:=(mU.out.go d4 Taa Taa).did.lt;clear mU d4 hb4;have hm:=aW ρ _ _ lg dp qX.out.did.at_ [bK] w4.heap.size 1 rfl (av.new w4 _ _) Taa Taa;unfold aP strOf at hm;simp only[map_cons,map_nil] at hm;have hwn:bK.toArray= #[110,117,108,108]:=rfl;rw[hwn] at hm;go_wp2_with fail;refine hm.mono ?_;clear hm;intro e w5 hp;exact Ka7):p:=h
theorem zh9.KcC(h:p:=by refine(I0.out w1 _ _ H1.out.st Bn Taa).mono ?_;rintro e w2 ⟨rfl,h2,d2⟩;have H2:=hid (H1.out.next hx hf h2 d2);clear h2 d2 H1 Bn k0 k1 k2 k3 k4 k5 k6 x0 x1 x2 x3 x4 x5 x6;go_wp2_with fail;exact Ka8):p:=h
theorem zf4.KbJ(h:p:=by open zh9 in exact Zgn):p:=h
theorem ZbN(h:p:=by open zf4 in exact Zdr):p:=h
theorem ZbO(h:p:=by
 clear mS hk;have p0:nR.cell? ⟨g0,0,none⟩=some (.pointer (some ⟨b,0,none⟩)):=H0.out.p.cell 0;go_wp2_with (first
  |(refine wpList_load_row rfl 34 (.tmp 3) rfl g1 rfl 34 (bD y).toArray (0,0) _ H0.out.q Tryz.underlying34 rfl (kg y) ?_))
 refine(TB.out nR H0.out.st H0.out.hw).mono ?_;rintro e w1 ⟨rfl,h2,d2⟩;have H1:=hid (H0.out.next hg0 hg1 h2 d2);clear h2 d2 H0 x0 p0;go_wp2_with fail;go_end0;exact⟨rfl,H1.out.st,H1.out.did⟩):p:=h
theorem ZbP(h:p:=by
 go_wp2_with fail;refine bodyPost_ret (v:=.tuple #[.agg #[.int .u8 3,.string ⟨acc.toArray⟩,.int .i64 0,.int .i64 at_],.int .i64 ((k:Int)+1),.int .i64 0]) Zcd rfl ?_
 ·rw[kY.out,HM.out,drop_at HB.out,HQ.out,sQ Nh.out];unfold AG;simp only;have e:s.size - (s.data.toList.drop (k+1)).length=k+1:=by rw[length_drop,HLEN.out];omega
  rw[e];exact Zef):p:=h
theorem ZbQ(h:p:=by exact bodyPost_ret (v:=.agg cs) (results_cell_row Tryz.results67 _ _ (w.heap.size+1) 34 cs (0,0) _ rfl sf.out Tryz.underlying34 rfl dK.out) rfl tz.out):p:=h
theorem ZbR(h:p:=by simp only[Result.andThen];rw[Oper.upon_value];unfold dv;have H3:=hid (H2.out.later (by rw[jv.out];exact dK.out) jK);clear hM jK hx0 X0 hle H2;obtain⟨w3,Bn⟩:∃x,x=wm:=⟨_,rfl⟩;subst Bn;go_wp2_with fail;exact Ka9):p:=h
theorem ZbS(h:p:=by
 cases hp:bF v name width
 ·simp
 ·rw[Bool.and_true,decide_eq_false_iff_not];intro e;exact hb2 ⟨by omega,hp⟩):p:=h
theorem ZbT(h:p:=by intro ρ w3 hc hL hr;exact Zaf):p:=h
theorem ZbU(h:p:=by
 have hv0:∀G,v.ownBlock=some G->G < w0.heap.size:=λ G hG=>(A.ge hG).2
 have hB0:=A.sz
 have dfr:∀(ls:List Oper) (k:Nat) (V:Nat->World->Value->Prop) (K:Act->World->Prop) (a:Act) (w:World),(∀a':Act,a'.defers=a.defers->K a' w)->cU V K ls k a w:=by
  intro ls
  induction ls with
  | nil=>intro k V K a w h;exact h a rfl
  | cons o ls ih=>
    intro k V K a w h;unfold cU
    cases o.dst with
    | none=>exact ih _ _ _ _ _ h
    | some d=>exact λ x _=>ih _ _ _ _ _ λ a' ha'=>h a' (ha'.trans rfl)
 exact Kba):p:=h
theorem ZbV(h:p:=by
 intro vs w h
 match vs,h with
 | [],h=>rw[af.cell h (p:=⟨qb,k,none⟩) Ei];exact hcell
 | [a],⟨y,w1,eQ,_,h2,h3,h4⟩=>exact(xJ h2 h3 h4).1
 | [a,s],⟨y,w1,eQ,_,_,_,h2,h3,h4,_⟩=>exact(xJ h2 h3 h4).1
 | [a,s,v],⟨y,w1,eQ,w2,_,h2,h3,h4,_,h6,_,_⟩=>obtain⟨k1,_,k3⟩:=xJ h2 h3 h4;rw[rA h6 (p:=⟨qb,k,none⟩) (Nat.lt_of_lt_of_le Ei k3) (λ e=>hlq e.symm)];exact k1
 | _::_::_::_::_,h=>exact h.elim):p:=h
theorem ZbW(h:p:=by
 go_wp2_with fail;go_roundw;case rel=>exact⟨i+1,by omega,by go_num,hb1⟩
 case measure=>exact Zcu):p:=h
theorem ZbX(h:p:=by
 intro ρ w vs hc hG hr;rw[t4] at hr;have r0:=hr.1;simp only[s4] at r0;refine⟨g4,?_⟩;show vs.length=1->_;intro hl
 match vs,hl with
 | [a],_=>have r0:some a=some (ρ (.tmp d3)):=r0;injection r0 with r0;obtain⟨y,w1,eQ,ha,h2,h3,h4⟩:=hG;refine ae (hbs ρ w y (r0.symm.trans ha)) ?_;exact⟨y,w1,eQ,w.heap.size,ha,rfl,h2,h3,h4.trans ((Below.refl _ _).alloc (Nat.le_refl _) _),av.new w e _⟩):p:=h
theorem ZbY(h:p:=by intro ρ w3 hc hL hr;have h0:_=_:=hr.1;have h1:_=_:=hr.2.1;exact ae (w':=w3) (by simp[go_sem,hc.const,h0,h1];done) ⟨af.refl _,rfl⟩):p:=h
theorem ZbZ(h:p:=by
 induction h with
 | nil=>intro i x y h;simp at h
 | cons a _ ih=>
   intro i x y h k
   cases i with
   | zero=>simp at h k;subst h k;exact a
   | succ i=>exact ih Tam (by simpa using k)):p:=h
theorem Zb0(h:p:=by simp only[xQ,Bool.and_eq_true,beq_iff_eq,Option.isNone_iff_eq_none] at sr;obtain⟨⟨⟨⟨⟨⟨⟨⟨⟨⟨⟨⟨⟨⟨⟨⟨⟨⟨⟨⟨⟨⟨⟨⟨⟨⟨⟨⟨⟨⟨⟨⟨⟨⟨⟨⟨⟨⟨⟨⟨⟨⟨t0,tM⟩,t1⟩,tN⟩,t2⟩,tO⟩,afe⟩,t3⟩,tP⟩,t4⟩,Db⟩,t5⟩,IV⟩,t6⟩,AZ⟩,t7⟩,IW⟩,t8⟩,Lm⟩,Ln⟩,t9⟩,YX⟩,akQ⟩,f0⟩,f1⟩,f2⟩,f3⟩,f4⟩,f5⟩,f6⟩,f7⟩,f8⟩,f9⟩,g0⟩,g1⟩,g2⟩,g3⟩,g4⟩,g5⟩,g6⟩,g7⟩,g8⟩,g9⟩:=sr;exact Kbb):p:=h
theorem Zb1(h:p:=by
 go_roundw;case rel=>exact⟨i+1,hlt,by go_num,by(first | rw[P1.out] | rw[<- map_take,P1.out]);rw[<- append_assoc,Ub.out];exact P2.out,HB'.out⟩
 case measure=>exact Zcu):p:=h
theorem Zb2(h:p:=by exact fin TaE Tat Tat TaR TaW):p:=h
theorem Zb3(h:p:=by
 have HA:=hid (HB.out.go bj d);clear hp az d HB HE kJ;have HE:=bN;clear bN;go_upto_region 15 with fail;go_wp2_with fail;refine(dY ρ KS LI _ _ HA.out.sa.did.at_).mono ?_;intro e w15 hp;rcases hp.cases with ⟨every,l16,v9,az,rfl,rfl,_,d⟩|⟨m,au,rfl,hg⟩;case inr=>have HF:=hid (show dr l=.error m from HE.out.trans (ak au));have HG:=hid HA.out.sa.did.grown;clear hp au;go_wp2_with fail;exact aj rfl (GP.err HF.out ⟨rfl,ai HG.out hg⟩)
 exact Kbc):p:=h
theorem Zb4(h:p:=by have HG:=hid HD.out.grown;have HE:=hid au;clear hp HQ HD kZ au;go_wp2_with fail;exact aj rfl (bt HE.out HG.out hg)):p:=h
theorem Zb5(h:p:=by go_wp2_with fail;exact bodyPost_ret (v:=.agg cs) (results_cell_row Tryz.results114 _ _ (w.heap.size) 34 cs (0,0) _ rfl sf.out Tryz.underlying34 rfl dK.out) rfl tz.out):p:=h
theorem Zb6(h:p:=by
 have hr:=Im _ _ s[i] (av.new wr 5 #[.int .u8 (s[i].toNat:Int)]);have T9:=hid (Qn hc);clear hc;go_wp2_with fail;go_roundw;case rel=>refine⟨i+1,l++ [s[i]],by omega,by go_num,by rw[ow],by rw[length_append,HL.out];rfl,?_,hb.trans ((aa wr _).mono hb.size)⟩;rw[HM.out,HD.out];simp[T9.out]
 case measure=>exact Zcu):p:=h
theorem Zb7(h:p:=by
 have eP:=hid (HD.out.trans (d1.trans d2));have jS:=hid (d2.blk (d1.blk HQ.out Taa) Taa);have jg:=hid (hat.more (by have:=d1.size;omega:w.heap.size+1<=w1.heap.size));have jh:=hid az;clear hp d1 d2 hat az IH HQ HD hsz;go_wp2_with (first
  |(refine wpList_store_row rfl 36 (.tmp 2) (.tmp 10) rfl w.heap.size (aT y).toArray rfl rfl 36 dF jS.out aF rfl (cL _) ?_
    have HR:=hid (jS.out.row (aT y).toArray)))
 exact Kbd):p:=h
theorem Zb8(h:p:=by intro ρ' w' hH hc h';simp[go_sem,h']):p:=h
theorem Zb9(h:p:=by obtain⟨x0,x1,x2,x3,x4,x5,x6⟩:=HH.out.x.cells;dsimp only at x0 x1 x2 x3 x4 x5 x6;obtain⟨f0,f1⟩:=HH.out.jQ;dsimp only at f0 f1;generalize hQ:bodyPost Tryz.prog Tryz.f60 _=Q;simp only[sk,ja,Tryz.f60,Option.getD_some];subst hQ;exact Kbe):p:=h
theorem Zca(h:p:=by intro ρ w3 hc hL hr;have h0:_=_:=hr.1;exact ae (w':=w3) (gT rfl (by simp only[map_toArray,map_cons,map_nil,h0];exact rD y)) ⟨af.refl _,rfl⟩):p:=h
theorem Zcb(h:p:=by go_upto_region 1 with fail;change Code.wp _ _ _ _ (w.alloc (gQ {}));generalize hW:(World.alloc _ _)=W0 at*;clear hW;have Ei:w.heap.size < W0.heap.size:=HS.out.res.lt;exact Kbf):p:=h
theorem Zcc(h:p:=by intro W2 hL;simp only[Uab];rintro _ rfl a1 - a2 - a3 - a4 - a5 - a6 - a7 - a8 - a9 - _ rfl;simp only[cU,Act.put,Uac];have H1:=hid (H0.out.later bX hL);clear hL H0 bX;go_wp2_with fail;exact Kbg):p:=h
theorem Zcd(h:p:=by simp[results,Tryz.results125,go_sem,z0,z1,z2,z3]):p:=h
theorem Zce(h:p:=by refine(TT.out w3).mono ?_;exact Zgb):p:=h
theorem Zcf(h:p:=by simp only[uC,List.range,List.range.loop,List.map,h0,h3,h4,h5,h6,h7];clear hT h0 h3 h4 h5 h6 h7;have hsz:=Nat.le_trans hw.size (Nat.le_refl ws.heap.size);exact Kbh):p:=h
theorem Zcg(h:p:=by simp only[aD,toList_toArray] at this ⊢;exact this):p:=h
theorem Zch(h:p:=by
 have HA:=hid (HB.out.go bj d);clear hp az d HB HE kJ;have HE:=bN;clear bN;go_upto_region 7 with fail;go_wp2_with fail;refine(dY ρ w8 l9 _ _ HA.out.sa.did.at_).mono ?_;intro e wa hp;rcases hp.cases with ⟨a,l11,v9,az,rfl,rfl,_,d⟩|⟨m,au,rfl,hg⟩;case inr=>have HF:=hid (show dr l=.error m from HE.out.trans (ak au));have HG:=hid HA.out.sa.did.grown;clear hp au;go_wp2_with fail;exact aj rfl (GP.err HF.out ⟨rfl,ai HG.out hg⟩)
 exact Kbi):p:=h
theorem Zci(h:p:=by simp[results,Tryz.results163,go_sem,r0,r1,r2,r3,r4,r5,r6];rfl):p:=h
theorem Zcj(h:p:=by
 refine .inr λ ρ w hcs hG hr=>?_
 rw[t0] at hr;have r0:=hr.1;simp only[tM] at r0;exact⟨g0,ae (h0 ρ w (xP _ _ xO hG) hcs (r0.trans IU)) ⟨af.refl _,rfl⟩⟩):p:=h
theorem Zck(h:p:=by obtain⟨z0,hz0⟩:∃z,z=cN:=⟨_,rfl⟩;have HZ:=hid (show Tryz.prog.built 34 []=some z0 by rw[hz0];exact Dm);have HZ1:=hid (show z0.all (·.oneCell')=true by rw[hz0];exact cS {});have JG:=hid (show z0.size=28 by rw[hz0];rfl);exact Kbj):p:=h
theorem Zcl(h:p:=by clear hx;go_wp2_with fail;exact aj rfl (GP.err HF.out ⟨rfl,hg⟩)):p:=h
theorem Zcm(h:p:=by have bj:=h.nt;have b1:=aa w (gQ {});have HS:=hid (show Ba ρ w w.heap.size [] lg dp (w.alloc (gQ {})) l from⟨aY.aC h b1,av.new w _ _,Nat.le_refl _,λ p hp=>by simp at hp⟩);exact Kbk):p:=h
theorem Zcn(h:p:=by simp only[cU,Act.put,Uac];have H1:=hid (H0.out.later bX hL);clear hL H0 bX;go_wp2_with fail;refine(bh tt W2 H1.out.st).mono ?_;rintro e w2 ⟨rfl,h2,d2⟩;have H2:=hid (H1.out.next hg0 hg1 h2 d2);exact Kbl):p:=h
theorem Zco(h:p:=by
 refine HN.out.mono ?_;unfold mB;rw[HE.out,Tm.out];rintro e w1 ⟨he,rfl⟩;rw[if_neg Tab] at he;subst he;go_wp2_with fail;refine bodyPost_ret (v:=.tuple #[.agg #[.int .u8 0,.string ⟨#[]⟩,.int .i64 0,.int .i64 0],.int .i64 0,.int .i64 30]) Zcd rfl ?_
 ·rw[kY.out,Tm.out];exact Zef):p:=h
theorem Zcp(h:p:=by have nj:b < wr.heap.size:=Nat.lt_of_lt_of_le (hS b jP) hwr.size;have il:b2 < wr.heap.size:=Nat.lt_of_lt_of_le (uZ b2 qO) hwr.size;exact Kbm):p:=h
theorem Zcq(h:p:=by
 refine⟨h.at_.far Taa i u,h.grown.os,h.grown.tape,h.grown.output,?_,λ k hk Q5=>?_⟩
 ·have:(w.setCell ⟨q,i,none⟩ u).heap.size=w.heap.size:=by simp[World.setCell]
  rw[this];exact h.grown.size
 ·rw[Below.heap_setCell w ⟨q,i,none⟩ u k Tad];exact h.grown.block k hk Q5):p:=h
theorem Zcr(h:p:=by
 refine bodyPost_ret (v:=.tuple #[.agg #[.int .u8 2,.string ⟨#[]⟩,.int .i64 (gO ((s.data.toList.drop at_).takeWhile aL)),.int .i64 at_],.int .i64 k,.int .i64 0]) Zcd rfl ?_
 ·rw[HR.out];unfold AG;simp only;rw[pT aL s Taa,zW.out];exact Zef):p:=h
theorem Zcs(h:p:=by
 have HS:=hid (HH.out.later bx);have HD:=hid (cy.aC (b:=b) bx hsz);have HP:=hid (HD.out.blk hp Ie Tab);have lO:w.heap.size≠b:=by omega
 clear HH hp;go_upto_region 1 with fail;generalize w.alloc _=W1 at*;clear bx;exact Kbn):p:=h
theorem Zct(h:p:=by
 have hx:=A.blk.lt;have hs:(wr.setCell ⟨qx,6,none⟩ (.slice (some ⟨wr.heap.size,0,none⟩) 1 1)).heap.size=wr.heap.size:=by simp[World.setCell]
 have hb:=aa (wr.setCell ⟨qx,6,none⟩ (.slice (some ⟨wr.heap.size,0,none⟩) 1 1)) (.cells (aT y1).toArray 36);have hN:=av.new (wr.setCell ⟨qx,6,none⟩ (.slice (some ⟨wr.heap.size,0,none⟩) 1 1)) 36 (aT y1).toArray;rw[hs] at hN;exact Kbo):p:=h
theorem Zcu(h:p:=by simp[intOf];omega):p:=h
theorem Zcv(h:p:=by
 have e1:s.size - (s[a]::s.data.toList.drop (a+1)).length=a:=by rw[<- drop_at HB.out,length_drop,HLEN.out];omega
 rw[gP.out.more,abY (by rw[length_drop,HLEN.out];omega) Tbe Tbi,e1,Qq,ir,xE,HQ.out]):p:=h
theorem Zcw(h:p:=by intro ρ w vs hc hG hr;rw[t3] at hr;have r0:=hr.1;simp only[s3] at r0;refine⟨g3,?_⟩;show vs.length=0->_;intro hl;obtain rfl:=eq_nil_of_length_eq_zero hl;refine dG (fW ρ w hc r0) ((jf w hG).mono ?_);rintro e' w' ⟨y,rfl,hp⟩;exact⟨_,rfl,y,w,w',rfl,hG,hp,af.refl _⟩):p:=h
theorem Zcx(h:p:=by
 intro ρ w3 hc hL hr;intro hg;have hg:ρ (.tmp 77)=.bool b9:=hg;cases b9
 ·exact Zae
 ·exact ZaE):p:=h
theorem Zcy(h:p:=by
 intro ρ w3 hc hL hr;intro hg;have hg:ρ (.tmp 86)=.bool xo:=hg;cases xo
 ·exact Zae
 ·exact ZaE):p:=h
theorem Zcz(h:p:=by
 intro ρ w3 hc hL hr;intro hg;have hg:ρ (.tmp 95)=.bool xp:=hg;cases xp
 ·exact Zae
 ·exact ZaE):p:=h
theorem ZcA(h:p:=by go_wp2_with fail;go_ret;exact YES.out _ jB.out):p:=h
theorem ZcB(h:p:=by intro ρ' w' G y qZ nK fW Qx;have q0:=fW 0 _ rfl;have q1:=fW 1 _ rfl;have q2:=fW 2 _ rfl;have q3:=fW 3 _ rfl;have q4:=fW 4 _ rfl;have q5:=fW 5 _ rfl;have q6:=fW 6 _ rfl;simp only[Nat.add_zero] at q0;unfold dN aT at nK;simp[go_sem,qZ,nK,q0,q1,q2,q3,q4,q5,q6,Qx,py]):p:=h
theorem ZcC(h:p:=by
 have eP:=hid (HD.out.trans d2);have jS:=hid (d2.blk HQ.out Taa);have jg:=hid (hat.more (show w.heap.size+1<=_ by omega));have jh:=hid az;clear hp d2 hat az HQ HD kZ;go_wp2_with (first
  |(refine wpList_store_row rfl 36 (.tmp 2) (.tmp 8) rfl w.heap.size (aT y).toArray rfl rfl 36 dF jS.out aF rfl (cL _) ?_
    have HR:=hid (jS.out.row (aT y).toArray)))
 exact Kbp):p:=h
theorem ZcD(h:p:=by
 split at h
 ·cases h
 ·injection h with h;exact .inr h.symm):p:=h
theorem ZcE(h:p:=by
 have p0:=HS.out.ptr;go_wp2_with fail;refine(dU ρ w3 l4 _ _ HS.out.did.at_).mono ?_;clear p0;intro e w5 hp;rcases hp.cases with ⟨nm,l6,v9,az,rfl,rfl,d⟩|⟨m,au,rfl,hg⟩;case inr=>have HF:=hid (show cR l=.error m from HE.out.trans (ak au));have HG:=hid HS.out.did.grown;clear hp au;go_wp2_with fail;exact aj rfl (GP.err HF.out ⟨rfl,ai HG.out hg⟩)
 exact Kbq):p:=h
theorem ZcF(h:p:=by have HB:=hid (show zb (w.alloc (.cells #[.int .u8 op,.int .u8 v.k,.int .i64 v.n,.string v.s,.string name,.int .i64 width,.slice A k cp] 36)) w.heap.size ⟨op,v,name,width,A,k,cp⟩from av.new w _ _);have bx:=aa w (.cells #[.int .u8 op,.int .u8 v.k,.int .i64 v.n,.string v.s,.string name,.int .i64 width,.slice A k cp] 36);have HS:=hid (HH.out.later bx);exact Kbr):p:=h
theorem ZcG(h:p:=by
 intro w' hw';have P9:=hd.later hw';refine(kK γ.ρ w' l lg dp P9.at_).mono ?_;intro e w'' hp;rcases hp.cases with ⟨t3,r3,v,az,_⟩|⟨m',au,rfl,hg⟩
 ·rw[hx] at az;cases az
 ·rw[hx] at au;injection au with au;subst au;exact⟨_,rfl,rfl,ai P9.grown hg⟩):p:=h
theorem ZcH(h:p:=by
 intro w' Sj;refine(kK γ.ρ w' l lg dp Sj).mono ?_;intro e w'' hp;rcases hp.cases with ⟨t3,r3,v3,az,rfl,y,rfl,hat,d2⟩|⟨m,au,_⟩
 ·rw[hx] at az;injection az with az;injection az with h1 h2;subst h1 h2;exact⟨y,rfl,hat,d2⟩
 ·rw[hx] at au;cases au):p:=h
theorem ZcI(h:p:=by have h0:_=_:=hr.1;exact ae (w':=w3) (by simp[go_sem,hc.const,h0];done) ⟨af.refl _,rfl⟩):p:=h
theorem ZcJ(h:p:=by
 clear hk hb
 rcases hlv with rfl | rfl | rfl | rfl;all_goals
  generalize xH _ t.w=R at*;go_enter Tryz.func182,Tryz.ntmps182;go_wp2_with fail;all_goals
   go_ret;rw[HR.out];refine⟨?_,aa w _⟩;refine kr ?_;simp[opsL,List.lookup,WX,Km,Hs,dB,fe,Bg,uB, *]):p:=h
theorem ZcK(h:p:=by simp only[BA,Bool.and_eq_true,beq_iff_eq,Option.isNone_iff_eq_none] at sr;obtain⟨⟨⟨⟨⟨⟨⟨⟨⟨⟨⟨⟨⟨⟨⟨⟨⟨⟨⟨⟨⟨⟨⟨⟨⟨⟨⟨⟨⟨t0,tM⟩,t1⟩,tN⟩,t2⟩,tO⟩,t3⟩,tP⟩,t4⟩,Db⟩,t5⟩,IV⟩,YW⟩,t6⟩,AZ⟩,Ll⟩,f0⟩,f1⟩,f2⟩,f3⟩,f4⟩,f5⟩,f6⟩,g0⟩,g1⟩,g2⟩,g3⟩,g4⟩,g5⟩,g6⟩:=sr;exact Kbs):p:=h
theorem ZcL(h:p:=by have h0:=(aw u (show 0 < 249 by decide)).symm.trans hT.t0;have h3:=(aw u (show 3 < 249 by decide)).symm.trans hT.t3;have h4:=(aw u (show 4 < 249 by decide)).symm.trans hT.t4;have h5:=(aw u (show 5 < 249 by decide)).symm.trans hT.t5;have h6:=(aw u (show 6 < 249 by decide)).symm.trans hT.t6;have h7:=(aw u (show 7 < 249 by decide)).symm.trans hT.t7;exact Kbt):p:=h
theorem ZcM(h:p:=by rintro e w3 ⟨rfl,h2,d2⟩;have H3:=hid (H2.out.next hg0 hg1 h2 d2);clear h2 d2 H2 p0 x1;have p0:w3.cell? ⟨g0,0,none⟩=some (.pointer (some ⟨b,0,none⟩)):=H3.out.p.cell 0;go_wp2_with fail;exact Kbu):p:=h
theorem ZcN(h:p:=by intro ρ w3 hc hL hr;intro hg;have hg:ρ (.tmp 137)=.bool false:=hg;exact Zfi):p:=h
theorem ZcO(h:p:=by go_upto_region 1 with fail;change Code.wp _ _ _ _ ((w.alloc (.cells #[.pointer (some ⟨b,0,none⟩)] 87)).alloc (.cells cs 34));generalize ib:w.heap.size=g0 at*;generalize kT:g0+1=g1 at*;generalize ((w.alloc _).alloc _)=zq at*;have jv:=hid ib;clear ib kT hlt hsz;obtain⟨nR,gG⟩:∃x,x=zq:=⟨_,rfl⟩;rw[<- gG] at H0 ⊢;clear gG;exact Kbv):p:=h
theorem ZcP(h:p:=by rw[ht];unfold OB strOf;dsimp only;clear ht;go_wp2_with fail;refine(pz w3 (PX.out w3 tq.out)).mono ?_;rintro e w4 ⟨rfl,b4⟩;have VT:=hid (Below.trans tq.out (b4.mono tq.out.size));clear b4;go_wp2_with fail;go_ret;exact⟨rfl,VT.out⟩):p:=h
theorem ZcQ(h:p:=by clear HA HX hcs HE;refine wp_region_lit ?_;refine wpList_load_row rfl 34 (.tmp 4) rfl b rfl 34 cs (0,0) _ vz.out Tryz.underlying34 rfl dK.out ?_;exact Kbw):p:=h
theorem ZcR(h:p:=by unfold St.cost at hn ⊢;have JS:=gj s;have zZ:=hf.nodes;have hlt:=hst.lt;have hsz:=hst.size;obtain⟨tt,oy⟩:∃tt,tt=dJ s false true false false false false false false false:=⟨_,rfl⟩;have TT:=hid (λ W=>gi h hf hm false true false false false false false false false W);rw[<- oy] at TT;unfold ji at TT;have yK:=hid oy;exact Kbx):p:=h
theorem ZcS(h:p:=by intro ρ' w' h';simp[go_sem,h']):p:=h
theorem ZcT(h:p:=by
 have t2:(((s[k+1].toNat:Nat):Int)==39)=false:=by rw[beq_eq_false_iff_ne];intro h;exact BX (UInt8.toNat_inj.1 (by simpa using(by omega:s[k+1].toNat=39)))
 have t3:(((s[k+1].toNat:Nat):Int) != 39)=true:=by simpa [bne] using t2
 have Nh:=hid (show(s.data.toList.drop (k+1)).head?≠some 39 by rw[drop_at jB.out];simpa using BX);exact Kby):p:=h
theorem ZcU(h:p:=by go_enter Tryz.func144,Tryz.ntmps144;go_wp2_with (first |(go_at_call 103;refine(ri c _).mono ?_;rintro e w' ⟨rfl,rfl⟩;rw[h])|(go_at_call 105;refine(nL c _).mono ?_;rintro e w' ⟨rfl,rfl⟩));go_ret;exact⟨by simp,rfl⟩):p:=h
theorem ZcV(h:p:=by
 refine⟨hB,v,?_,?_,hn,hz⟩
 ·simp[World.setCell,Array.getElem?_modify,hb]
 ·exact ho.kept (row:=some b) ⟨rfl,rfl,rfl,by simp[World.setCell],λ k _ hk=>Below.heap_setCell _ _ _ _ (λ e=>hk (by simp[e]))⟩ (Or.inr hn)):p:=h
theorem ziZ.Kc0(h:p:=by have Ys:=HBZ.out tk;exact Kbz):p:=h
theorem ZcW(h:p:=by clear AB HA;have HA:=hid hA';clear hA';obtain⟨tk,pl,bd,hpl,hlt,aeP,AP,fA,hg,Ai,vv,hp⟩:=HA.out.did.at_.mh;have akh:=HA.out.did.at_.left;open ziZ in exact Zht):p:=h
theorem ZcX(h:p:=by rintro e w3 ⟨rfl,h3,d3⟩;have H3:=hid (H2.out.next hx hf h3 d3);clear h3 d3 H2;go_wp2_with fail;go_end0;refine⟨rfl,?_,H3.out.did⟩;have:=H3.out.st.more (show n+c+1<=n+c+1 by omega);exact Zfl):p:=h
theorem ZcY(h:p:=by intro ρ' w' h' hc';simp[go_sem,h',hc']):p:=h
theorem ZcZ(h:p:=by
 refine bodyPost_ret (v:=.tuple #[.agg #[.int .u8 0,.string ⟨#[]⟩,.int .i64 0,.int .i64 0],.int .i64 0,.int .i64 2]) Zcd rfl ?_
 ·rw[kY.out,zW.out,if_neg h32];exact Zef):p:=h
theorem Zc0(h:p:=by simp only[gb,length_cons,length_nil] at hb;show n+(c0+2)+1<=_;omega):p:=h
theorem Zc1(h:p:=by go_wp2_with fail;go_ret;exact⟨rfl,by go_grown⟩):p:=h
theorem Zc2(h:p:=by
 have x7:(w.alloc (.cells cs 34)).cell? ⟨w.heap.size,7,none⟩=some (.slice y.query.items.A y.query.items.n y.query.items.c):=by rw[hcs];exact k1.cell 7
 have AV:(w.alloc (.cells cs 34)).cell? ⟨w.heap.size,13,none⟩=some (.slice y.query.order.A y.query.order.n y.query.order.c):=by rw[hcs];exact k1.cell 13
 exact KbA):p:=h
theorem Zc3(h:p:=by refine⟨i+1,by omega,by go_num,?_,iE.trans (b'.mono iE.size)⟩;first | rw[HMT.out,show(max ((iH (ds.take i):Nat):Int) (d:Int))=((max (iH (ds.take i)) d:Nat):Int) by omega] |(rw[HMT.out];congr 1;split <;> omega)):p:=h
theorem Zc4(h:p:=by
 rcases Nat.lt_or_ge vs.length ch.length with h' | h'
 ·have hi:=getElem?_eq_getElem h';have hb:=of_decide_eq_true (List.all_eq_true.1 Qb _ (getElem_mem h'));have:=(fW _ _ hi).1 (hall _ hb);omega
 ·omega):p:=h
theorem Zc5(h:p:=by
 have WC:j < listed.size:=by rw[I.len];exact Ef
 have XN:fuel=bH l.length (listed.setIfInBounds j true)+zs.length:=by have:=kU l.length listed j WC MT yH;omega
 unfold wpOp;rw[oT];show if Region.wanted oj (yielded (l++zs).toArray a.tmps)=true then _ else _;rw[if_pos (by simp[Region.wanted,hgd])];refine .inl ?_;exact KbB):p:=h
theorem Zc6(h:p:=by
 intro e w'' hp;rcases hp.cases with ⟨t3,r3,v,az,rfl,z,rfl,hat,d2⟩|⟨m,au,_⟩
 ·rw[Dd.out] at az;injection az with az;injection az with h1 h2;subst h1 h2;exact⟨z,rfl,hat,d2⟩
 ·rw[Dd.out] at au;cases au):p:=h
theorem Zc7(h:p:=by intro W2 hL;simp only[Uab];rintro _ rfl a1 - a2 - a3 - a4 - a5 - a6 - a7 - a8 - _ rfl;simp only[cU,Act.put,Uac];have H2:=hid (H1.out.later bX hL);clear hL H1 bX;go_wp2_with fail;exact KbC):p:=h
theorem Zc8(h:p:=by
 simp only[oW,hcv,hlv,k1,k2,k3,r1,Nat.reduceEqDiff,if_true,if_false,Option.isSome_some,Option.isSome_none];refine⟨trivial,trivial,?_,cv,rfl,hPB,?_⟩
 ·intro x e;exact k4 x (hlv.trans e)
 ·intro x e;cases e):p:=h
theorem Zc9(h:p:=by have x0:=hX.cell 0;have z0:=hZ.cell 0;have x1:=hX.cell 1;have z1:=hZ.cell 1;have x2:=hX.cell 2;have z2:=hZ.cell 2;have x3:=hX.cell 3;have z3:=hZ.cell 3;have x4:=hX.cell 4;have z4:=hZ.cell 4;have x5:=hX.cell 5;have z5:=hZ.cell 5;have x6:=hX.cell 6;have z6:=hZ.cell 6;have x7:=hX.cell 7;have z7:=hZ.cell 7;exact KbD):p:=h
theorem Zda(h:p:=by intro ρ w3 hc hL hr;have h0:_=_:=hr.1;have S4:w3.cell? ⟨g1,21,none⟩=some (.slice y.aR.A y.aR.n y.aR.c):=(av.later H0.out.q hL).cell 21;exact Zhf):p:=h
theorem Zdb(h:p:=by exact .inl Tab):p:=h
theorem Zdc(h:p:=by have hB:=av.cC h.blk 1 (.int .i64 ((ρ.n:Int) - l.length));refine⟨h.set hB (bu (aB (Below.refl _ _)) 1 _) ⟨?_,h.of.2.tail ht⟩,bu (aB (Below.refl _ _)) 1 _⟩;exact(suffix_cons _ _).trans h.of.1):p:=h
theorem Zdd(h:p:=by
 refine callsD_of_wpS Tryz.func26 rfl λ aaD cs hu=>?_
 unfold rH;change Code.wpS Tryz.prog _ _ { tmps:= #[.pointer (some ⟨b0,0,none⟩),.pointer (some ⟨b1,0,none⟩),.pointer (some ⟨b2,0,none⟩),undef,undef,undef,undef,undef,undef,undef,undef,undef,undef,undef],defers:=[] } _ _;apply wpS_seq;exact KbE):p:=h
theorem Zde(h:p:=by
 obtain rfl:i=ys.length:=by omega
 have zU:ds.take ys.length=ds:=take_of_length_le (Nat.le_of_eq HDL.out);rw[zU] at hml;simp only[zU];go_wp2_with fail;go_ret;exact⟨kr Taa,af.then mR.out iE⟩):p:=h
theorem Zdf(h:p:=by obtain⟨k0,k1,k2,k3,k4,k5,k6⟩:=eX (pK.out).blk;obtain⟨f0,f1,f2,f3,f4,f5,f6⟩:=fh (pK.out).blk;unfold fx at k0 k1 k2 k3 k4 k5 k6;simp only at k0 k1 k2 k3 k4 k5 k6;go_wp2_with fail;refine hm.mono ?_;clear hm;rintro e w2 ⟨rfl,d⟩;have yI:=vU;have gP:=hid (pK.out.go d Taa Taa);exact KbF):p:=h
theorem Zdg(h:p:=by exact ae (w':=w3) (by simp[go_sem,h0,Hz,Ia,Ib];done) ⟨af.refl _,rfl⟩):p:=h
theorem Zdh(h:p:=by
 intro i w w' v h hl
 match i with
 | 0 | 1 | 2 | 3 | 4 | 5 | 6 | 7 | 8 | 9 | 10=>exact h
 | n+11=>exact h):p:=h
theorem Zdi(h:p:=by simp only[Uaa] at k7 k8 k9 MH MI SQ SR SS;exact Zga):p:=h
theorem Zdj(h:p:=by
 have HA:=hid (hL.alloc (.cells #[.int .u8 0,.string ⟨#[]⟩,.int .i64 0,.int .i64 0] 81));have bb:=aa w (.cells #[.int .u8 0,.string ⟨#[]⟩,.int .i64 0,.int .i64 0] 81);have HZ:=hid (av.new w 81 #[.int .u8 0,.string ⟨#[]⟩,.int .i64 0,.int .i64 0]);have hne:w.heap.size≠g:=by omega
 exact KbG):p:=h
theorem Zdk(h:p:=by exact⟨(c _).trans h1,(c _).trans h2,(c _).trans h3,(c _).trans h4⟩):p:=h
theorem zgP.Kb2(h:p:=by
 rw[ha] at r1;injection r1 with r1;rw[tR] at hB;have hcell:w.cell? ⟨γ.qb,γ.k,none⟩=some v:=by rw[hB.blk.cell];simp[Ft.kS]
 exact KbH):p:=h
theorem Zdl(h:p:=by open zgP in exact Zeh):p:=h
theorem Zdm(h:p:=by intro ρ' w' hc' h';simp[go_sem,h',hc'.const,hc'.func]):p:=h
theorem Zdn(h:p:=by have t5:decide ((0:Int)<(i:Int))=true:=decide_eq_true Taa;have t6:decide (0 < i)=true:=decide_eq_true nd;have HT:=hid (nP HJ.out nd);go_wp2_with fail;refine(cA ⟨#[44,32]⟩ W1 om.out Tab Ta0).mono ?_;rintro e w2 ⟨rfl,h2,d2⟩;have H2:=hid h2;exact KbI):p:=h
theorem Zdo(h:p:=by intro ρ' w' hH hc h';exact nH rfl h' hH.1 Tryz.underlying36 rfl aF):p:=h
theorem Zdp(h:p:=by obtain⟨⟨sb,c2⟩,fz,hs2,yJ⟩:=HH.out.st.xt;have uD:=hid hs2;have eP:=hid (HH.out.did.trans yJ);exact Zgt):p:=h
theorem Zdq(h:p:=by simp only[gb,length_cons,length_nil];omega):p:=h
theorem Zdr(h:p:=by rintro e w1 ⟨rfl,b1⟩;have H1:=hid (HH.out.later hsz b1);rw[show(decide (((1:Nat):Int)=1)&& bF v name width)=true by rw[hp];rfl];clear HH b1 x0 x1 x2 x3 x4 x5 x6;exact KbJ):p:=h
theorem Zds(h:p:=by simp only[Result.andThen];rw[Oper.upon_value];go_wp2_with fail;rw[run_callFunc_extern Tryz.func165 Tac Tac Tac (e:=Extern.AbiNoEscape.same) Tac];rw[Lib.run_noEscape];simp only[Result.andThen];rw[Oper.upon_value];go_wp2_with fail;exact KbK):p:=h
theorem Zdt(h:p:=by simp only[setIfInBounds_toArray,set_cons_zero,set_cons_succ] at this;exact this):p:=h
theorem Zdu(h:p:=by
 have HW:=hid hcut;clear hcut HH HC x0 x1 x2 x3 x4 x5 x6 f0 f1 tk;obtain⟨x0,x1,x2,x3,x4,x5,x6⟩:=HW.out.x.cells;dsimp only at x0 x1 x2 x3 x4 x5 x6;obtain⟨f0,f1⟩:=HW.out.jQ;dsimp only at f0 f1;unfold dv at*;have hN0:n+5<=50000000:=by have:=HN.out;omega
 go_wp2_with fail;exact KbL):p:=h
theorem Zdv(h:p:=by intro ρ w3 hc hL hr;intro hg;have hg:ρ (.tmp 50)=.bool true:=hg;refine⟨λ _=>?_,λ hn=>absurd hg hn⟩;have h0:_=_:=hr.1;exact KbM):p:=h
theorem Zdw(h:p:=by rintro e w' ⟨rfl,h1,h2⟩;refine⟨rfl,?_,(cy.aC bm h.size).trans h2⟩;simpa [rq] using h1):p:=h
theorem Zdx(h:p:=by
 have hK:=yM (V:=V) (λ d=>a.eval (.tmp d)) l 0 a0 (λ i o d hi hd=>by
  rw[Nat.zero_add]
  have GV:i < l.length:=by
   rcases Nat.lt_or_ge i l.length with h' | h'
   ·exact h'
   ·rw[getElem?_eq_none h'] at hi;cases hi
  exact I.new i o d hi (hall i GV) hd) (hf w I.r)
 exact KbN):p:=h
theorem Zdy(h:p:=by rw[et.out];exact⟨rfl,(((AJ.out.at_.trans jg.out).far (Nat.le_refl _) hne 0 _).far (Nat.le_refl _) hne 1 _ |>.far (Nat.le_refl _) hne 2 _ |>.far (Nat.le_refl _) hne 3 _)⟩):p:=h
theorem Zdz(h:p:=by rw[HA.out.name,HA.out.cr,HA.out.every,HA.out.a,HA.out.b] at this;simp only[aD,toList_toArray,append_assoc,cons_append,nil_append] at this ⊢;exact this):p:=h
theorem ZdA(h:p:=by
 go_wp2_with fail;go_ret3;unfold lG;rw[tz.out,gP.out.more,XD Tbe Tbi];have e1:s.size - (s[a]::s.data.toList.drop (a+1)).length=a:=by rw[<- drop_at HB.out,length_drop,HLEN.out];omega
 rw[e1];exact KbO):p:=h
theorem ZdB(h:p:=by have k0:=hcell 0 _ rfl;have k1:=hcell 1 _ rfl;have k2:=hcell 2 _ rfl;have k3:=hcell 3 _ rfl;have k4:=hcell 4 _ rfl;have k5:=hcell 5 _ rfl;have k6:=hcell 6 _ rfl;exact KbP):p:=h
theorem ZdC(h:p:=by go_wp2_with fail;refine HK.out _ _ (HO.out _ _ ⟨rfl,rfl,rfl⟩ (HH.out.more Taa))):p:=h
theorem ZdD(h:p:=by go_end0;exact sy.ok (HE.out.trans rfl) ⟨_,Pt.out⟩ (by rw[Bool.or_false];exact Pu.out)):p:=h
theorem ZdE(h:p:=by
 have Bc:=λ q:Ext wr.heap.size wr=>Tr.BG hS uZ t.1 x.1 u.1 r1.1 r2.1 E2.out q.w (hwr.trans (q.h.mono hwr.size))
 have heq:u.2=x.2:=by rw[r1.2,r2.2]
 obtain⟨x,xa⟩:=x;obtain⟨u,ua⟩:=u;simp only at heq Bc k0 m0 k1 m1 k2 m2 k3 m3 k4 m4 k5 m5 k6 m6 k7 m7;subst heq;exact KbQ):p:=h
theorem ZdF(h:p:=by go_wp2_with fail;exact bodyPost_ret (v:=.agg cs) (results_cell_row Tryz.results73 _ _ (w.heap.size) 34 cs (0,0) _ rfl sf.out Tryz.underlying34 rfl dK.out) rfl tz.out):p:=h
theorem ZdG(h:p:=by simp only[Uaa] at SU SV SX;exact ZgR):p:=h
theorem ZdH(h:p:=by go_wp2_with fail;go_end0;refine⟨rfl,?_,H5.out.did⟩;have:=H5.out.st;rwa [aD] at this):p:=h
theorem ZdI(h:p:=by intro ρ' w' h' hc';rw[<- Zn] at h' hc';simp[go_sem,h',hc']):p:=h
theorem ZdJ(h:p:=by exact⟨at7 _ _ λ r=>rfl,⟨rfl,rfl,rfl⟩⟩):p:=h
theorem ZdK(h:p:=by have HG:=hid (ai HD.out.grown d1.grown);have HE:=hid au;clear hp d1 IH HQ HD hsz au;go_wp2_with fail;exact aj rfl (bt ((IM wQ.out).trans (ak HE.out)) HG.out hg)):p:=h
theorem ZdL(h:p:=by
 have eP:=hid ((HD.out.trans (d1.trans d2)).later (aa w2 (.cells (aT y).toArray 36)));have jS:=hid ((d2.blk (d1.blk HQ.out Taa) Taa).alloc (.cells (aT y).toArray 36));have hs2:w.heap.size+1<=w2.heap.size:=by have:=d1.size;have:=d2.size;omega
 exact KbR):p:=h
theorem ZdM(h:p:=by rw[e] at hk;unfold bp.ws at hk;rw[getElem?_map,getElem?_eq_getElem hlt] at hk;simp only[Option.map_some] at hk;injection hk with hk;rw[hk];exact hl):p:=h
theorem ZdN(h:p:=by go_wp2_with fail;refine(FO w1 H1.out).mono ?_;rintro e w2 ⟨rfl,b2⟩;have B2:=hid (B1.out.trans b2);clear b2;go_wp2_with fail;go_ret2;exact⟨rfl,B2.out⟩):p:=h
theorem ZdO(h:p:=by simp only[Uaa] at k17;exact ae (w':=w3) (by simp[go_sem,h0,k17];done) ⟨af.refl _,rfl⟩):p:=h
theorem ZdP(h:p:=by simp only[Uaa] at k18;exact ae (w':=w3) (by simp[go_sem,h0,k18];done) ⟨af.refl _,rfl⟩):p:=h
theorem ZdQ(h:p:=by simp only[Uaa] at k19;exact Zg6):p:=h
theorem ZdR(h:p:=by simp only[Uaa] at k20;exact Zg5):p:=h
theorem ZdS(h:p:=by have HG:=hid (ai HD.out.grown d1.grown);have HE:=hid au;clear hp d1 IH HQ HD hsz au;go_wp2_with fail;exact aj rfl (bt ((QO wQ.out).trans HE.out) HG.out hg)):p:=h
theorem ZdT(h:p:=by simp only[Uaa] at k2;exact Zha):p:=h
theorem ZdU(h:p:=by simp only[Uaa] at k3;exact Zhb):p:=h
theorem ZdV(h:p:=by simp only[Uaa] at k4;exact Zhc):p:=h
theorem ZdW(h:p:=by simp only[Uaa] at k5;exact Zhd):p:=h
theorem ZdX(h:p:=by simp only[Uaa] at k6;exact Zhe):p:=h
theorem ZdY(h:p:=by simp only[Uaa] at VW;exact Zhg):p:=h
theorem ZdZ(h:p:=by simp only[Uaa] at O3;exact ae (w':=w3) (by simp[go_sem,h0,O3];done) ⟨af.refl _,rfl⟩):p:=h
theorem Zd0(h:p:=by simp only[Uaa] at S4;exact Zhf):p:=h
theorem Zd1(h:p:=by simp only[Uaa] at k0;exact ae (w':=w3) (by simp[go_sem,h0,k0];done) ⟨af.refl _,rfl⟩):p:=h
theorem Zd2(h:p:=by
 generalize w1.alloc _=W1 at*;generalize w1.heap.size=tb at*;obtain⟨u0,u1,u2,u3,v0,v1,v2,v3⟩:=aN Ga.out;obtain⟨c0,c1,c2,c3,f1,f2,f3⟩:=fT.out.at_.facts;rw[Uh.out] at c1;have e1:(ρ.n:Int) - ((r.length:Int)+1)+1=(ρ.n:Int) - r.length:=by omega
 exact KbS):p:=h
theorem Zd3(h:p:=by
 intro i w w' v h hl
 match i with
 | 0 | 1 | 2 | 3 | 4 | 5=>exact h
 | n+6=>exact h):p:=h
theorem zgQ.Kb2(h:p:=by rw[ha] at r0;injection r0 with r0;refine ae (V9 ρ w G cap (r0.symm.trans e1) r1) ?_;exact KbT):p:=h
theorem Zd4(h:p:=by open zgQ in exact Zeh):p:=h
theorem Zd5(h:p:=by simpa using this):p:=h
theorem Zd6(h:p:=by intro ρ w' vs hcs hG hr;refine⟨rfl,?_⟩;unfold execOp;simp only[Sem.run_bind,Array.map_empty,run_build w' 34 #[] z0 HZ.out,Result.andThen_ok];rfl):p:=h
theorem Zd7(h:p:=by have HS:=hid (HB.out.go bj d);clear hp az d HB HE kJ;have HE:=bN;clear bN;go_upto_region 2 with fail;have HM:=lT.new w1;have HG:=aB (p:=w1.heap.size) (aa w1 (.map #[] 0));have BX:=HS.out.res.lt;refine wp_region_lit ?_;refine gp rfl 158 rfl ?_;exact KbU):p:=h
theorem Zd8(h:p:=by
 simp only[Uab];repeat (go_big_quiet_step (fail))
 exact KbV):p:=h
theorem Zd9(h:p:=by rintro e w2 ⟨rfl,h2,d2⟩;have H2:=hid h2;have D2:=hid (D1.out.trans d2);have qc:=hid (d2.blk jB.out lO Tab);have HP2:=hid (d2.blk VZ.out Ie Tab);clear h2 d2 H1 D1 jB VZ x0 x1 x2 x3 x4 x5 x6 x7 p0;obtain⟨x0,x1,x2,x3,x4,x5,x6,x7⟩:=p8 qc.out;have p0:=HP2.out.cell 0;simp only[getElem?_toArray,getElem?_cons_zero] at p0;go_wp2_with fail;exact KbW):p:=h
theorem Zea(h:p:=by
 have kY:=hid dE;have HL0:=hid hl;have WR:=hid hdg;have HLEN:=hid (show s.data.toList.length=s.size by simp);clear dE hd hl hdg hq;go_enter Tryz.func125,Tryz.ntmps125;go_wp2_with (first
  |(go_at_call 92;refine(fy s[at_] _).mono ?_;rintro e w' ⟨rfl,rfl⟩;rw[HL0.out])
  |(go_at_call 93;refine(gI s[at_] _).mono ?_;rintro e w' ⟨rfl,rfl⟩;rw[WR.out]))
 exact KbX):p:=h
theorem Zeb(h:p:=by go_upto_region 1 with fail;change Code.wp _ _ _ _ ((w.alloc (.cells #[ρ.ptr] 77)).alloc (gQ {}));generalize hW:(World.alloc _ _)=W0 at*;clear hW;have Ei:w.heap.size+1 < W0.heap.size:=HS.out.res.lt;exact KbY):p:=h
theorem Zec(h:p:=by intro ρ w1 hc hL hr;have h1:_=_:=hr.1;exact ae (w':=w1) (by simp[go_sem,h1]) ⟨xn.refl _,rfl,λ h=>by cases h⟩):p:=h
theorem Zed(h:p:=by
 clear hX;go_wp2_with (first
  |(refine gB Tryz.underlying92 Tryz.underlying5 rfl _ _ _ rfl gm rfl _ rfl _ rfl hM TaQ ?_
    clear hM Om
    intro wm hM hgr
    replace jK:=jK.trans (aO hgr jK.size hle)
    have Om:=(jK.cell (p:=⟨g1,15,none⟩) (ax X15.out)).trans X15.out
    clear hgr))
 exact KbZ):p:=h
theorem Zee(h:p:=by
 have hrs:rest <:+ s.data.toList:=(Ah et.out).trans (List.drop_suffix _ _);have hq:s.data.toList.drop (s.size - rest.length)=rest:=by have:=drop_suffix hrs;rwa [HLEN.out] at this
 have aoP:rest.length < s.size - a:=by have:=uv et.out;rwa [length_drop,HLEN.out] at this
 have HQ:=hid hq;exact Kb0):p:=h
theorem Zef(h:p:=by exact⟨rfl,xD bb (Nat.le_refl _) _ _ _ _⟩):p:=h
theorem Zeg(h:p:=by obtain⟨s,hs⟩:∃s,ks[i]?=some s:=⟨_,getElem?_eq_getElem Taa⟩;have hc:=zi (HD.out.blk HB.out (λ e=>hbg e.symm)) hs;have Er:=hid (tD hs);clear hs;exact Kb1):p:=h
theorem Zeh(h:p:=by obtain⟨a,ha⟩:=Option.isSome_iff_exists.1 ha;rw[ha] at hG;obtain⟨k1,k2,k3,c,hc,hB,k5⟩:=hG;have hrow:=hB.row;obtain⟨G,cap,ys,y,e1,e2,e3,e4,e5,e6⟩:=hrow;exact Kb2):p:=h
theorem Zei(h:p:=by show Uj _ _ _ _ _;unfold Uj;rw[hrun];exact jf w hG):p:=h
theorem Zej(h:p:=by
 go_round;case rel=>exact⟨k+1,by omega,hlt,by go_num,zW.out⟩
 case measure=>exact Zcu):p:=h
theorem Zek(h:p:=by simp only[oW,ha,hc,Nat.reduceEqDiff,if_true,if_false,Option.isSome_some];have hL:=hB.list Ft;rw[e1] at hL ⊢;exact⟨k1,k2,k3,c,rfl,hL,by rw[e1] at k5;exact k5⟩):p:=h
theorem Zel(h:p:=by
 refine .inr λ ρ w hcs hG hr=>?_
 rw[t2] at hr;have r0:=hr.1;simp only[tO] at r0;exact⟨g2,ae (h2 ρ w (xP _ _ xO hG) hcs (r0.trans Lk)) ⟨af.refl _,rfl⟩⟩):p:=h
theorem Zem(h:p:=by
 have n2:(z==2)=false:=by rw[beq_eq_false_iff_ne];omega
 have n6:(z==6)=false:=by rw[beq_eq_false_iff_ne];omega
 have n7:(z==7)=false:=by rw[beq_eq_false_iff_ne];omega
 have n3:(z==3)=false:=by rw[beq_eq_false_iff_ne];omega
 have hz5:0<=z/\z<=5:=by omega
 exact Kb3):p:=h
theorem Zen(h:p:=by intro ρ w vs hcs hG hr;rw[t0] at hr;have r0:=hr.1;simp only[tM] at r0;exact⟨g0,h0 ρ w (fL val e k cs bv Post w0 xO xP Wi _ _ hG) hcs (r0.trans IU)⟩):p:=h
theorem Zeo(h:p:=by
 refine .inr λ ρ w hcs hG hr=>?_
 rw[t1] at hr;have r0:=hr.1;simp only[tN] at r0;exact⟨g1,ae (h1 ρ w (xP _ _ xO hG) hcs r0) ⟨af.refl _,rfl⟩⟩):p:=h
theorem Zep(h:p:=by simp only[Act.put,Uac];go_wp2_with fail;exact Kb4):p:=h
theorem Zeq(h:p:=by rintro e w1 ⟨rfl,h1,d1⟩;have H1:=hid h1;have D1:=hid (HD.out.trans d1);have jB:=hid (d1.blk HB.out lO Tab);have VZ:=hid (d1.blk HP.out Ie Tab);clear HS HD HB HP d1 h1 x0 x1 x2 x3 x4 x5 x6 x7 p0;obtain⟨x0,x1,x2,x3,x4,x5,x6,x7⟩:=p8 jB.out;have p0:=VZ.out.cell 0;simp only[getElem?_toArray,getElem?_cons_zero] at p0;exact Kb5):p:=h
theorem Zer(h:p:=by
 go_wp2_with fail;go_quiet (fail);go_wp2_with fail;go_roundw
 case rel=>
  refine⟨i+1,n+nq,by omega,by go_num,?_,?_⟩
  ·rw[<- HWN.out];exact vK W n nq
  ·rw[HSG.out,Sx.out,gV,HP.out];rfl
 case measure=>exact Zcu):p:=h
theorem Zes(h:p:=by
 have HO:=hid (hown.later bW);have hG:av ((w2.alloc (.cells (jZ ⟨d,a⟩).toArray 81)).alloc (.cells (jZ ⟨d,a⟩).toArray 81)) (w2.heap.size+1) 81 (jZ ⟨d,a⟩).toArray:=by have:=av.new (w2.alloc (.cells (jZ ⟨d,a⟩).toArray 81)) 81 (jZ ⟨d,a⟩).toArray;simpa using this
 exact Kb6):p:=h
theorem Zet(h:p:=by have HZ:=hid (av.new w 81 #[.int .u8 0,.string ⟨#[]⟩,.int .i64 0,.int .i64 0]);have bb:=aa w (.cells #[.int .u8 0,.string ⟨#[]⟩,.int .i64 0,.int .i64 0] 81);exact Kb7):p:=h
theorem Zeu(h:p:=by simp only[aD] at this ⊢;exact this):p:=h
theorem Zev(h:p:=by have KV:=HA.out.res.later hW;have HXW:=HA.out.blk.later hW;have hqb:=KV.lt;obtain⟨z0,z1,z2,z3,z4,z5,z6⟩:=gZ KV;obtain⟨y0,y1,y2,y3,y4,y5,y6⟩:=eL KV;obtain⟨x0,x1,x2,x3,x4,x5,x6⟩:=ej HXW;have et:=hid KV;clear KV HXW;go_wp2_with fail;exact Kb8):p:=h
theorem Zew(h:p:=by
 have d0:w2.cell? ⟨b,0,none⟩=some (.pointer (some ⟨b,0,none⟩)):=by rw[Lib.cell_of_heap hb2];rfl
 have d1:w2.cell? ⟨b,1,none⟩=some v:=by rw[Lib.cell_of_heap hb2];rfl
 have f1:w2.frozen? ⟨b,1,none⟩=false:=Lib.frozen_of_heap hb2 1;exact Kb9):p:=h
theorem Zex(h:p:=by simp only[oW,ha,hc,tR,Nat.reduceEqDiff,if_true,if_false];exact⟨k1,k2,k3,c,rfl,hB,λ x e=>by injection e with e;exact⟨G,cap,e1,e.symm⟩⟩):p:=h
theorem Zey(h:p:=by obtain⟨c0,c1,c2,d0,d1,d2,d3⟩:=hp;obtain⟨y0,y1,y2,z0,z1,z2,z3⟩:=U3;obtain⟨x0,x1,x2,v0,v1,v2,v3⟩:=hp3;unfold zg at y0 y1 y2 z0 z1 z2 z3;exact Kca):p:=h
theorem Zez(h:p:=by simp only[oW,ha,k1,k2,k3,Nat.reduceEqDiff,if_true,if_false];exact⟨trivial,trivial,trivial,λ x e=>by injection e with e;exact e.symm,hA⟩):p:=h
theorem ZeA(h:p:=by
 intro i z oo hz ho Wr s' n' dW hW hc;obtain⟨x,hx,rfl⟩:∃x,l[i]?=some x/\Tr.whole x=oo:=by simpa [getElem?_map] using ho
 have hr:=pw HA.out hx hz;have AQ:=HF.out x (mem_of_getElem? hx);have zZ:=mi (mem_of_getElem? hx);exact Kcb):p:=h
theorem ZeB(h:p:=by intro ρ w3 hc hL hr;have h0:_=_:=hr.1;exact ae (w':=w3) (by simp[go_sem,hc.const,h0,XE.out,ByteArray.toList_eq];done) ⟨af.refl _,rfl⟩):p:=h
theorem ZeC(h:p:=by have x2:=(d2.blk HX.out lO Tab).cell 2;have x3:=(d2.blk HX.out lO Tab).cell 3;have x4:=(d2.blk HX.out lO Tab).cell 4;have x5:=(d2.blk HX.out lO Tab).cell 5;have x6:=(d2.blk HX.out lO Tab).cell 6;exact Kcc):p:=h
theorem ZeD(h:p:=by have PC:=hC'.out.later b1;have jB:=hid (af.then D8.out b1);have e1:=PC.at_.cell 0;have e2:=PC.er.cell 0;simp only[getElem?_toArray,getElem?_cons_zero] at e1 e2;have f1:=PC.at_.frozen 0;have f2:=PC.er.frozen 0;have hlt:=PC.lt;exact Kcd):p:=h
theorem ZeE(h:p:=by go_wp2_with fail;refine(cA ⟨#[41]⟩ w7 H7.out.st Tab TaZ).mono ?_;rintro e w8 ⟨rfl,h8,d8⟩;have H8:=hid (H7.out.next hx hf h8 d8);clear h8 d8 H7;go_wp2_with fail;go_end0;refine⟨rfl,?_,H8.out.did⟩;exact Kce):p:=h
theorem ZeF(h:p:=by
 intro j u hu;have:(Addr.add ⟨g,0,none⟩ j)=⟨g,j,none⟩:=by unfold Addr.add;split <;> simp_all
 rw[this,hg.cell];simpa using hu):p:=h
theorem ZeG(h:p:=by have et:=hid (HC.out.2 m jW);have HG:=hid qX.out.did.grown;clear hp au jW qX HC;go_wp2_with fail;exact aj rfl (bt et.out HG.out hg)):p:=h
theorem ZeH(h:p:=by rcases hu with rfl | rfl | rfl | rfl | rfl | rfl | rfl | rfl <;> rfl):p:=h
theorem ZeI(h:p:=by go_wp2_with fail;refine HF.out.mono ?_;rintro e w2 ⟨rfl,hg2⟩;exact aj rfl (GP.err HE.out ⟨rfl,ai HS.out.did.grown hg2⟩)):p:=h
theorem ZeJ(h:p:=by
 split at h
 ·injection h with h;injection h with h1 h2;subst h1;exact⟨⟨by simp,by simp⟩,λ e=>by simp at e⟩
 ·cases h):p:=h
theorem ZeK(h:p:=by
 have lx:=HD.out.size;have lO:wr.heap.size≠b:=by have:=HS.out.lt;omega
 have om:=hid (HS.out.later bx);have fT:=hid (HD.out.later bx hsz);exact Kcf):p:=h
theorem ZeL(h:p:=by
 have jh:=hid az;have hgx:γ.ρ.g < w2.heap.size:=by have:=d2.lt;omega
 clear hp d2 az HA HD p0;go_upto_region 1 with fail;generalize hW2:(w2.alloc _)=W2 at*;clear hW2;have p0:=(gP.out.grown F zE.out).ptr;have hx2:=qW.out.lt;exact Kcg):p:=h
theorem ZeM(h:p:=by intro e w' hp;unfold lG at hp;rw[h] at hp;obtain⟨v,rfl,ho,hb⟩:=hp;obtain⟨A,c,rfl⟩:=ho.form;exact⟨A,c,rfl,ho,hb⟩):p:=h
theorem ZeN(h:p:=by rw[mem_singleton] at hc;subst hc;simp only[aL,UInt8.le_iff_toNat_le,Bool.and_eq_true,decide_eq_true_eq,hb];simp;omega):p:=h
theorem ZeO(h:p:=by
 have qC:=hid (HS.out.UG (w2:=wm) bj HG Taa Taa (λ p hp=>by simp at hp));have pg:w1.heap.size < wm.heap.size:=by have:=QV.out;unfold lT at this;exact(Array.getElem?_eq_some_iff.mp this).1
 clear HM HG HS;exact Kch):p:=h
theorem ZeP(h:p:=by
 have:bF v name width=false:=by
  cases hp:bF v name width
  ·rfl
  ·exact absurd ⟨hn.trans hl.symm,hp⟩ hb2
 simp[this]):p:=h
theorem ZeQ(h:p:=by have WR:=hid hd0;clear hd0;go_enter Tryz.func88,Tryz.ntmps88;go_wp2_with fail;refine HR.out.mono ?_;rintro e w1 ⟨rfl,b1⟩;go_wp2_with (go_at_call 105;refine(nL s[0] _).mono ?_;rintro e w' ⟨rfl,rfl⟩;rw[WR.out]);exact Kci):p:=h
theorem ZeR(h:p:=by simp only[oW,ha,k1,k2,k3,Nat.reduceEqDiff,if_true,if_false];exact⟨trivial,trivial,trivial,k4,hA.call Ft hB0 hat dd⟩):p:=h
theorem ZeS(h:p:=by
 by_cases e:ar s l=true
 ·simp only[e,if_true]
 ·simp only[e];rfl):p:=h
theorem ZeT(h:p:=by simp only[aH,aZ,Bool.and_eq_true] at h;have li:=ek h.1;exact Zb2):p:=h
theorem ZeU(h:p:=by rw[ha,h8,h10] at hG;obtain⟨_,_,_,c,_,hB,_⟩:=hG;exact dfr _ _ _ _ _ _ λ a' ha'=>tE a' w ha' ⟨a,hB.done⟩ hB.did):p:=h
theorem ZeV(h:p:=by
 rintro C a W' hdf ⟨rfl,hg⟩;have hE:sy γ.ρ γ.W0 (λ t=>decide (32 < t.depth)) eJ (γ.acc eE 36) acc lg dp l (.panicked [rG (γ.ρ.placeOf m)]) W':=sy.err hx ⟨rfl,hg⟩;try simp only[Exit.inBlock,Exit.then]
 exact Kcj):p:=h
theorem ZeW(h:p:=by simp only[aH,aZ,Bool.and_eq_true] at h;exact iL h.1 no no no no):p:=h
theorem ZeX(h:p:=by simp only[oW,ha,hc,Nat.reduceEqDiff,if_true,if_false,Option.isSome_some];exact⟨k1,k2,k3,_,rfl,hB.elem Ft e7,k5⟩):p:=h
theorem ZeY(h:p:=by rwa [show zs.length=fuel+1 by omega] at this):p:=h
theorem ZeZ(h:p:=by intro ρ w3 hc hL hr;exact Zaq):p:=h
theorem Ze0(h:p:=by
 rcases Nat.lt_or_ge at_ s.size with h | h
 ·exact h
 ·rw[drop_eq_nil_of_le Tam] at hd;cases hd):p:=h
theorem Ze1(h:p:=by
 rcases Nat.lt_or_ge s.size at_ with h | h
 ·rw[drop_eq_nil_of_le Tad] at hd;cases hd
 ·exact h):p:=h
theorem Ze2(h:p:=by clear VR;go_wp2_with fail;refine(nw kB s at_ k g _ Eg.out.1 hle hs).mono ?_;rintro e w' ⟨rfl,rfl⟩;exact ZaP):p:=h
theorem Ze3(h:p:=by clear hp az HE;have HE:=bN;clear bN;have hX:=d.blk HA.out.blk Taf;have hc:wa.cell? ⟨b,17,none⟩=_:=hX.cell 17;have hf:wa.frozen? ⟨b,17,none⟩=_:=hX.frozen 17;exact Kck):p:=h
theorem Ze4(h:p:=by clear hlb;go_wp2_with (go_at_call 93;refine(gI s[k] _).mono ?_;rintro e w' ⟨rfl,rfl⟩;rw[HD.out]);refine HN.out.mono ?_;unfold mB;rw[HE.out,Tm.out];rintro e w1 ⟨he,rfl⟩;rw[if_pos rfl] at he;subst he;exact Kcl):p:=h
theorem Ze5(h:p:=by
 have GZ:l[k]?=some o:=by have:=congrArg (λ x=>x[0]?) hk;simpa using this
 have aia:k < l.length:=by
  rcases Nat.lt_or_ge k l.length with h' | h'
  ·exact h'
  ·rw[getElem?_eq_none h'] at GZ;cases GZ
 exact Kcm):p:=h
theorem Ze6(h:p:=by intro ρ' w' hH hc h';simp[go_sem,h',hH.2]):p:=h
theorem Ze7(h:p:=by intro ρ' w' hc';simp[go_sem,hc'.const,dF]):p:=h
theorem Ze8(h:p:=by intro ρ' w' h';rw[<- Zn];simp[go_sem,h']):p:=h
theorem Ze9(h:p:=by simp only[oW,ha,k1,k2,k3,Nat.reduceEqDiff,if_true,if_false];exact⟨trivial,trivial,trivial,k4,hA.acX Ft⟩):p:=h
theorem Zfa(h:p:=by clear hp az HE;have HE:=bN;clear bN;have hX:=d.blk HA.out.blk Taf;have hc:w15.cell? ⟨b,4,none⟩=_:=hX.cell 4;have hf:w15.frozen? ⟨b,4,none⟩=_:=hX.frozen 4;exact Kcn):p:=h
theorem Zfb(h:p:=by intro ρ w vs hc hG hr;rw[t1] at hr;have r0:=hr.1;simp only[s1] at r0;exact⟨g1,Tz ρ w r0 (CI _ _ hG)⟩):p:=h
theorem Zfc(h:p:=by intro ρ w vs hc hG hr;rw[t2] at hr;have r0:=hr.1;simp only[s2] at r0;exact⟨g2,hmv ρ w (r0.trans h0)⟩):p:=h
theorem Zfd(h:p:=by go_enter Tryz.func104,Tryz.ntmps104;go_wp2_with fail;refine(nw Fg s at_ at_ g _ (hL.alloc _) ha hs).mono ?_;rintro e w' ⟨rfl,rfl⟩;generalize hk:ee cx s.data.toList at_=k at*;have HK:=hid hk;clear hk;exact Kco):p:=h
theorem Zfe(h:p:=by intro ρ w vs hc hG hr;rw[t0] at hr;have r0:=hr.1;simp only[s0] at r0;exact⟨g0,U6 ρ w (r0.trans hq)⟩):p:=h
theorem Zff(h:p:=by intro ρ w vs hc hG hr;rw[t6] at hr;have r0:=hr.1;simp only[s6] at r0;exact⟨g6,XO ρ w (r0.trans hq)⟩):p:=h
theorem Zfg(h:p:=by go_enter Tryz.func90,Tryz.ntmps90;go_wp2_with fail;generalize w.alloc (.cells #[.int .u8 v.k,.int .i64 v.n,.string v.s] 32)=W at*;refine(xc v W).mono ?_;rintro e w1 ⟨rfl,b1⟩;rw[hg];go_wp2_with fail;exact Kcp):p:=h
theorem Zfh(h:p:=by unfold yG;rw[hrun];exact(jf w hG).mono λ e w' ⟨y,he,hp⟩=>⟨val y,he,y,w,w',rfl,hG,hp,af.refl _⟩):p:=h
theorem Zfi(h:p:=by exact⟨λ hn=>(by rw[hg] at hn;cases hn),λ _=>rfl⟩):p:=h
theorem Zfj(h:p:=by simp only[Uaa] at Hz Ia Ib;exact Zdg):p:=h
theorem Zfk(h:p:=by rw[HA.out.name,yK.out] at this;exact Zcg):p:=h
theorem Zfl(h:p:=by simp only[aD] at this;exact this):p:=h
theorem Zfm(h:p:=by
 have hx:=KD hres;have et:=hid hres;have n1:((x:Int)==0)=false:=by rcases hx with rfl | rfl <;> rfl
 have n2:((x:Int) != 0)=true:=by rcases hx with rfl | rfl <;> rfl
 have n3:¬((x:Int)=0):=by omega
 exact Kcq):p:=h
theorem Zfn(h:p:=by simp only[aD,ByteArray.data_append,Array.toList_append,toList_toArray] at this ⊢;exact this):p:=h
theorem Zfo(h:p:=by
 have hcell:=λ j v hv=>(hwr.cell (p:=⟨b,off+i*8+j,none⟩) (hS b jP)).trans (hc i x j v hx hv)
 have bY:=λ j v hv=>(hwr.cell (p:=⟨b2,fG+i*8+j,none⟩) (uZ b2 qO)).trans (hc2 i u j v hu hv)
 exact Kcr):p:=h
theorem Zfp(h:p:=by exact⟨rfl,rfl,rfl,rfl,rfl,[],.inl rfl,Tr.all_nil⟩):p:=h
theorem Zfq(h:p:=by
 intro i w w' v h hl
 match i with
 | 0 | 1 | 2 | 3 | 4 | 5 | 6 | 7 | 8 | 9=>exact h
 | n+10=>exact h):p:=h
theorem Zfr(h:p:=by
 intro ρ w3 hc hL hr;intro hg;have hg:ρ (.tmp 104)=.bool xq:=hg;cases xq
 ·exact Zae
 ·exact ZaE):p:=h
theorem Zfs(h:p:=by
 intro ρ w3 hc hL hr;intro hg;have hg:ρ (.tmp 111)=.bool Ct:=hg;cases Ct
 ·exact Zae
 ·exact ZaE):p:=h
theorem Zft(h:p:=by exact ae (v:=.bool b1) (w':=w3) Tah ⟨af.refl _,rfl⟩):p:=h
theorem Zfu(h:p:=by exact ae (v:=.bool b2) (w':=w3) Tah ⟨af.refl _,rfl⟩):p:=h
theorem Zfv(h:p:=by exact ae (v:=.bool b3) (w':=w3) Tah ⟨af.refl _,rfl⟩):p:=h
theorem Zfw(h:p:=by exact ae (v:=.bool b4) (w':=w3) Tah ⟨af.refl _,rfl⟩):p:=h
theorem Zfx(h:p:=by exact ae (v:=.bool b5) (w':=w3) Tah ⟨af.refl _,rfl⟩):p:=h
theorem Zfy(h:p:=by exact ae (v:=.bool b6) (w':=w3) Tah ⟨af.refl _,rfl⟩):p:=h
theorem Zfz(h:p:=by exact ae (v:=.bool b7) (w':=w3) Tah ⟨af.refl _,rfl⟩):p:=h
theorem ZfA(h:p:=by exact ae (v:=.bool b8) (w':=w3) Tah ⟨af.refl _,rfl⟩):p:=h
theorem ZfB(h:p:=by exact ae (v:=.bool b9) (w':=w3) Tah ⟨af.refl _,rfl⟩):p:=h
theorem ZfC(h:p:=by exact ae (v:=.bool xo) (w':=w3) Tah ⟨af.refl _,rfl⟩):p:=h
theorem ZfD(h:p:=by exact ae (v:=.bool xp) (w':=w3) Tah ⟨af.refl _,rfl⟩):p:=h
theorem ZfE(h:p:=by exact ae (v:=.bool xq) (w':=w3) Tah ⟨af.refl _,rfl⟩):p:=h
theorem ZfF(h:p:=by exact ae (v:=.bool Ct) (w':=w3) Tah ⟨af.refl _,rfl⟩):p:=h
theorem ZfG(h:p:=by exact ae (v:=.bool S1) (w':=w3) Tah ⟨af.refl _,rfl⟩):p:=h
theorem ZfH(h:p:=by exact ae (v:=.bool vb) (w':=w3) (by rw[e2];simp[go_sem,h0,h1,q1,q2,q3];done) ⟨af.refl _,rfl⟩):p:=h
theorem ZfI(h:p:=by rw[h0] at hz;exact absurd hz Tae):p:=h
theorem ZfJ(h:p:=by rintro e w2 ⟨rfl,h2,d2⟩;have H2:=hid (HH.out.next hg0 hg1 h2 d2);clear h2 d2 HH p0;exact ZbA):p:=h
theorem ZfK(h:p:=by
 intro ρ w3 hc hL hr;intro hg;have hg:ρ (.tmp 12)=.bool b0:=hg;cases b0
 ·exact Zae
 ·exact ZaE):p:=h
theorem ZfL(h:p:=by
 intro ρ w3 hc hL hr;intro hg;have hg:ρ (.tmp 19)=.bool b1:=hg;cases b1
 ·exact Zae
 ·exact ZaE):p:=h
theorem ZfM(h:p:=by
 intro ρ w3 hc hL hr;intro hg;have hg:ρ (.tmp 26)=.bool b2:=hg;cases b2
 ·exact Zae
 ·exact ZaE):p:=h
theorem ZfN(h:p:=by
 intro ρ w3 hc hL hr;intro hg;have hg:ρ (.tmp 33)=.bool b3:=hg;cases b3
 ·exact Zae
 ·exact ZaE):p:=h
theorem ZfO(h:p:=by
 intro ρ w3 hc hL hr;intro hg;have hg:ρ (.tmp 40)=.bool b4:=hg;cases b4
 ·exact Zae
 ·exact ZaE):p:=h
theorem ZfP(h:p:=by
 intro ρ w3 hc hL hr;intro hg;have hg:ρ (.tmp 49)=.bool b5:=hg;cases b5
 ·exact Zae
 ·exact ZaE):p:=h
theorem ZfQ(h:p:=by
 intro ρ w3 hc hL hr;intro hg;have hg:ρ (.tmp 56)=.bool b6:=hg;cases b6
 ·exact Zae
 ·exact ZaE):p:=h
theorem ZfR(h:p:=by
 intro ρ w3 hc hL hr;intro hg;have hg:ρ (.tmp 63)=.bool b7:=hg;cases b7
 ·exact Zae
 ·exact ZaE):p:=h
theorem ZfS(h:p:=by
 intro ρ w3 hc hL hr;intro hg;have hg:ρ (.tmp 70)=.bool b8:=hg;cases b8
 ·exact Zae
 ·exact ZaE):p:=h
theorem ZfT(h:p:=by
 have wb:=HW9.out;rw[HA.out.what] at wb;have hx:=HX.out;have Oo:=HXE.out;rw[hx] at Oo;rw[HA.out.what] at hx Oo;have N8:(!xe)= !(xj s.what== []):=by rw[<- Oo];cases xj s.what <;> rfl
 unfold Co;exact Kcs):p:=h
theorem ZfU(h:p:=by exact⟨0,Nat.zero_le _,rfl,mR.out⟩):p:=h
theorem ZfV(h:p:=by go_wp2_with fail;go_ret;have h1:=HB.out;rw[<- TW.out] at h1;exact⟨rfl,af.then h1 mR.out⟩):p:=h
theorem ZfW(h:p:=by exact ae (v:=.bool c13) (w':=w3) (by rw[e2];simp[go_sem,h0,h1,q3];done) ⟨af.refl _,rfl⟩):p:=h
theorem ZfX(h:p:=by exact ae (v:=.bool c14) (w':=w3) (by rw[e2];simp[go_sem,h0,h1,q3];done) ⟨af.refl _,rfl⟩):p:=h
theorem ZfY(h:p:=by unfold Instr.mapUpdate;simp only[Sem.run_bind,run_underlying hT,Result.andThen_ok,MapKept.run_getObj_map hg,hk,Instr.findKey,run_underlying hK,hf,Sem.run_pure,MapKept.run_setObj_map _ hg];exact Kct):p:=h
theorem ZfZ(h:p:=by rw[hr] at hrun;injection hrun with _ hw;rw[<- hw];exact(af.drew w).alloc (Nat.le_refl _) _):p:=h
theorem Zf0(h:p:=by have t1:decide ((0:Int)<(k:Int))=true:=decide_eq_true Taa;have t2:decide (0 < k)=true:=decide_eq_true Taa;exact Kcu):p:=h
theorem Zf1(h:p:=by exact⟨v',w',hrun,EJ,hx.far qA hq Tab⟩):p:=h
theorem Zf2(h:p:=by simp only[aD,toList_toArray,cons_append,nil_append] at this ⊢;exact this):p:=h
theorem Zf3(h:p:=by clear hz;go_enter Tryz.func157,Tryz.ntmps157;go_wp2_with fail;go_ret2;exact NT HB.out rfl):p:=h
theorem Zf4(h:p:=by simp only[Result.andThen];rw[Oper.upon_value];go_wp2_with fail;go_end0;exact⟨rfl,rfl⟩):p:=h
theorem Zf5(h:p:=by go_wp2_with fail;refine hm.mono ?_;clear hm;rintro e w5 ⟨rfl,d⟩;have Eh:=hid (pj.out.trans d);have Z3:=hid (d.blk EH.out Taa);clear d pj EH;generalize hW5:w5=W5 at*;clear hW5;exact Kcv):p:=h
theorem Zf6(h:p:=by
 intro i w w' v h hl
 match i with
 | 0 | 1 | 2 | 3 | 4 | 5 | 6 | 7=>exact h
 | n+8=>exact h):p:=h
theorem Zf7(h:p:=by rw[ha] at h;obtain⟨h1,h2,h3,c,h4,h5,h6⟩:=h;exact⟨h1,h2,h3,c,h4,h5.later F hb,h6⟩):p:=h
theorem Zf8(h:p:=by rw[append_assoc,append_assoc];show mA _=_;rw[<- append_assoc];exact this):p:=h
theorem Zf9(h:p:=by exact⟨y,w1,eQ,h1,h2,h3,h4.trans (af.drew _)⟩):p:=h
theorem Zga(h:p:=by exact ae (w':=w3) (by simp[go_sem,h0,k7,k8,k9,MH,MI,SQ,SR,SS];done) ⟨af.refl _,rfl⟩):p:=h
theorem Zgb(h:p:=by rintro e w4 ⟨rfl,b4⟩;exact⟨_,rfl,b4,rfl⟩):p:=h
theorem Zgc(h:p:=by intro ρ w3 hc hL hr;have h0:_=_:=hr.1;have k0:=(av.later H0.out.p hL).cell 0;exact Zax):p:=h
theorem Zgd(h:p:=by intro ρ w3 hc hL hr;have h0:_=_:=hr.1;have k0:=(av.later H1.out.p hL).cell 0;exact Zax):p:=h
theorem Zge(h:p:=by
 have HQ:=hid (av.new w 36 #[.int .u8 0,.int .u8 0,.int .i64 0,.string ⟨#[]⟩,.string ⟨#[]⟩,.int .i64 0,.slice none 0 0]);have hsz:(w.alloc wR).heap.size=w.heap.size+1:=by simp
 exact Kcw):p:=h
theorem Zgf(h:p:=by go_ret3;unfold lG;rw[tz.out,gP.out.more,Ni.out,XC rfl];exact⟨v2,rfl,O2.out,B2.out⟩):p:=h
theorem Zgg(h:p:=by go_wp2_with fail;go_end0;refine⟨rfl,?_,D1.out⟩;rw[dm];exact H1.out.more Taa):p:=h
theorem Zgh(h:p:=by exact QH.put bj (Nat.le_refl _) (HA.out.did.later hW) (Tr.at_.keep (ku (Nat.le_refl _)) _ _ (Tr.at_.keep (gX hW) _ _ HA.out.tr))):p:=h
theorem Zgi(h:p:=by rintro e w2 ⟨rfl,h2,d2⟩;have H2:=hid (HW.out.next hx hf h2 d2);clear h2 d2 HW x0 x1 x2 x3 x4 x5 x6 f0 f1;obtain⟨x0,x1,x2,x3,x4,x5,x6⟩:=H2.out.x.cells;dsimp only at x0 x1 x2 x3 x4 x5 x6;go_wp2_with fail;exact Kcx):p:=h
theorem Zgj(h:p:=by subst nd;have HT:=hid (mf HJ.out);have x0:=HX.out.cell 0;have x1:=HX.out.cell 1;have x2:=HX.out.cell 2;have x3:=HX.out.cell 3;have x4:=HX.out.cell 4;have x5:=HX.out.cell 5;have x6:=HX.out.cell 6;exact Kcy):p:=h
theorem Zgk(h:p:=by rw[ha] at hG;obtain⟨k1,k2,k3,k4,hA⟩:=hG;rw[tR] at hA;have hrun:=fW ρ w hcs r0;unfold yG;rw[hrun];refine(jf w (hA.no rfl).at_).mono ?_;rintro e w' ⟨y,rfl,hat,dd⟩;refine⟨dN y,rfl,?_⟩;exact Kcz):p:=h
theorem Zgl(h:p:=by
 have HQ:=hid (av.new w 36 dF);have HD:=hid (aY.aC h hb);have hsz:(w.alloc (.cells dF 36)).heap.size=w.heap.size+1:=by simp
 exact KcA):p:=h
theorem Zgm(h:p:=by simp only[Uaa] at x0 x1 x2 x3 x4 x5 x6;go_wp2_with fail;exact KcB):p:=h
theorem Zgn(h:p:=by obtain⟨x0,x1,x2,x3,x4,x5,x6⟩:=H1.out.x.cells;dsimp only at x0 x1 x2 x3 x4 x5 x6;have Bn:=hw.trans H1.out.did.below;obtain⟨k0,k1,k2,k3,k4,k5,k6⟩:=A0.out.later Bn;go_wp2_with fail;exact KcC):p:=h
theorem Zgo(h:p:=by go_end0;exact sy.ok HE.out ⟨_,Pt.out⟩ Pu.out):p:=h
theorem Zgp(h:p:=by
 rw[HXL.out];by_cases hq:q=[48]
 ·exact hq
 ·exact absurd ⟨by rw[BS.out,VR],hq⟩ hb):p:=h
theorem Zgq(h:p:=by
 have Ey:∀fn first cap w,(Instr.makeFunc fn first cap).run Tryz.prog w=.ok (.func fn first cap) w:=λ _ _ _ _=>rfl
 exact KcD):p:=h
theorem Zgr(h:p:=by
 have alK:=Av.out.lt;have MG:=(HB8.out.trans (aO g1 Taa Taa)).trans (aO g2 TaH Taa);refine zG VV JG.out rfl rfl rfl λ w' hb=>?_
 unfold mE;exact KcE):p:=h
theorem Zgs(h:p:=by have HS:=hid (HB.out.go bj d);clear hp az d HB HE kJ;have HE:=bN;clear bN;have p0:=HS.out.ptr;go_wp2_with fail;refine(dU ρ w1 l2 _ _ HS.out.did.at_).mono ?_;clear p0;intro e w3 hp;exact KcF):p:=h
theorem Zgt(h:p:=by clear hs2 yJ;go_wp2_with fail;go_end0;exact⟨rfl,by rw[jC];exact uD.out,eP.out⟩):p:=h
theorem Zgu(h:p:=by unfold aT at*;simp only[cons_append,nil_append] at eP qW zE;go_upto_region 1 with fail;generalize hW2:(w2.alloc _)=W2 at*;clear hW2;have p0:=(gP.out.grown F zE.out).ptr;exact KcG):p:=h
theorem Zgv(h:p:=by dsimp only at hw ⊢;rw[eb] at hw ⊢;have hb0:=bw y0.1;have hb1:=bw y1.1;have hb2:=bw y2.1;have hb3:=bw y3.1;have hb4:=bw y4.1;have Xj:=bw y5.1;have SP:=bw y6.1;have Xk:=bw y7.1;exact KcH):p:=h
theorem Zgw(h:p:=by rw[bQ];simp only[h,if_true]):p:=h
theorem Zgx(h:p:=by
 go_big_quiet_step ((go_at_call 16;exact ft (Nat.le_refl _) (Bc _)));repeat (go_big_quiet_step (fail))
 refine wpQuiet_nil ?_;rintro V4 ⟨x9,CM⟩;have vw:=x9.h;rw[<- CM] at vw;exact KcI):p:=h
theorem Zgy(h:p:=by simp[Rows.uptoBulk]):p:=h
theorem Zgz(h:p:=by rw[bQ];simp only[h];rfl):p:=h
theorem ZgA(h:p:=by intro ρ' w' G cap qZ nK;simp[go_sem,qZ,nK];intro hh;exact absurd hh Taa):p:=h
theorem ZgB(h:p:=by
 have vB:op=20\/op=22\/op=23\/op=24\/op=25\/op=26\/op=27\/op=28:=by unfold kQ at hf;simp only[Bool.or_eq_true,Bool.and_eq_true,decide_eq_true_eq,beq_iff_eq] at hf;omega
 exact KcJ):p:=h
theorem ZgC(h:p:=by exact bV bj eP.out jg.out jh.out):p:=h
theorem ZgD(h:p:=by rw[ha] at h;obtain⟨h1,h2,h3,h4,h5⟩:=h;exact⟨h1,h2,h3,h4,h5.later F hb⟩):p:=h
theorem ZgE(h:p:=by obtain⟨⟨l⟩⟩:=s;rw[ByteArray.toList_eq] at h;have h:l=[]:=h;subst h;rfl):p:=h
theorem ZgF(h:p:=by intro ρ w σ hcs hG hr he hno;rw[t6] at hr;have r0:=hr.1;simp only[AZ] at r0;unfold mm at r0;rw[if_pos Tab] at r0;have r1:=hr.2.1;simp only[Ll] at r1;unfold mm at r1;exact KcK):p:=h
theorem ZgG(h:p:=by intro ρ w σ hcs hG hr he hno;rw[t7] at hr;have r0:=hr.1;simp only[IW] at r0;unfold mm at r0;rw[if_pos Tab] at r0;have r1:=hr.2.1;simp only[Zm] at r1;unfold mm at r1;exact KcL):p:=h
theorem ZgH(h:p:=by intro ρ' w' v' x' u' O4 qZ nK sF;exact Zbc):p:=h
theorem ZgI(h:p:=by
 have c0:w1.cell? ⟨b,0,none⟩=some (.pointer (some ⟨b,0,none⟩)):=by rw[Lib.cell_of_heap vH];rfl
 have c1:w1.cell? ⟨b,1,none⟩=some v:=by rw[Lib.cell_of_heap vH];rfl
 exact KcM):p:=h
theorem ZgJ(h:p:=by rw[hres] at hp;obtain⟨rfl,hat⟩:=hp;obtain⟨z0,z1,z2,z3,y0,y1,y2,y3⟩:=aN (hat.other AJ.out.res hne);have jg:=hid hat;have et:=hid hres;clear hres hat;go_wp2_with fail;exact KcN):p:=h
theorem ZgK(h:p:=by clear hb HA;unfold aP strOf at hm HB;simp only[map_cons,map_nil] at hm HB;rw[show aM.toArray= #[41] from rfl] at hm HB;go_wp2_with fail;refine hm.mono ?_;clear hm;exact KcO):p:=h
theorem ZgL(h:p:=by exact .BF (Gq _ Pm) (λ r hr=>by rw[hwd,e];exact l1 r hr) ⟨_,_,hwd,l2⟩):p:=h
theorem ZgM(h:p:=by rw[Array.getElem?_eq_none EX] at h;cases h):p:=h
theorem ZgN(h:p:=by simpa [Lit.wf,IntKind.min,IntKind.max,IntKind.signed,IntKind.bits] using h):p:=h
theorem ZgO(h:p:=by rintro e w3 ⟨rfl,h3,d3⟩;have H3:=hid h3;have D3:=hid (D2.out.trans d3);clear h3 d3 H2 D2 x0 x1 x2 x3 x4 x5 x6 x7 p0;go_wp2_with fail;go_end0;refine⟨rfl,?_,D3.out⟩;exact KcP):p:=h
theorem ZgP(h:p:=by rw[getElem?_eq_none h'] at h;cases h):p:=h
theorem ZgQ(h:p:=by exact ae (Pm ρ w (r0.trans Lk) (A.later Ft hG).ptr) ⟨af.refl _,rfl⟩):p:=h
theorem ZgR(h:p:=by exact ae (w':=w3) (by simp[go_sem,h0,SU,SV,SX];done) ⟨af.refl _,rfl⟩):p:=h
theorem ZgS(h:p:=by go_wp2_with fail;refine HK.out _ _ (HO.out _ _ ⟨rfl,rfl,rfl⟩ H3.out)):p:=h
theorem ZgT(h:p:=by refine wp_region_lit ?_;refine ij rfl 34 #[] rfl (cs:=z0) (by simpa using HZ.out) ?_;simp only[Act.put,Uac];exact KcQ):p:=h
theorem ZgU(h:p:=by intro a' w' hdf oV hdd;have hE:sy γ.ρ γ.W0 (λ t=>decide (32 < t.depth)) eJ (γ.acc eE 36) acc lg dp l (.returned (.tuple #[])) w':=sy.ok hx oV hdd;go_wp2_with fail;exact KcR):p:=h
theorem ZgV(h:p:=by go_wp2_with fail;go_ret;refine⟨kr ?_,rfl⟩;rw[HS.out,uH hle];rw[HD.out,bM,HB.out,if_neg Tab,if_neg];exact KcS):p:=h
theorem ZgW(h:p:=by rw[xy];exact Md hx (hE.e3 (Nat.le_refl _)).2 (hE.e3 (Nat.le_refl _)).1):p:=h
theorem ZgX(h:p:=by
 go_wp2_with fail;go_roundw;case rel=>exact Zc3
 case measure=>exact Zcu):p:=h
theorem ZgY(h:p:=by subst h0;simp at hx):p:=h
theorem ZgZ(h:p:=by subst h0;simp at hu):p:=h
theorem Zg0(h:p:=by have t4:decide ((200:Int)<(y.query.items.n:Int))=false:=decide_eq_false Taa;have t5:decide ((200:Int)<(y.query.order.n:Int))=false:=decide_eq_false Taa;exact KcT):p:=h
theorem Zg1(h:p:=by clear hl;go_wp2_with fail;go_ret2;exact⟨by rw[HR.out];rfl,B1.out⟩):p:=h
theorem Zg2(h:p:=by
 have HQ:=hid hq;have t1:(((s[k].toNat:Nat):Int)==39)=false:=by rw[beq_eq_false_iff_ne];intro h;exact hq (UInt8.toNat_inj.1 (by simpa using(by omega:s[k].toNat=39)))
 exact KcU):p:=h
theorem Zg3(h:p:=by skip;have jL:=hid (show false=C by rw[HC.out];simp[oP,c4]);exact Zas):p:=h
theorem Zg4(h:p:=by simp only[Nat.add_zero] at k0;have HJ:=hid hoi;clear hcell hc hz hoi hwr;subst kR;go_upto_region 4 with fail;exact KcV):p:=h
theorem Zg5(h:p:=by exact ae (w':=w3) (by simp[go_sem,h0,k20];done) ⟨af.refl _,rfl⟩):p:=h
theorem Zg6(h:p:=by exact ae (w':=w3) (by simp[go_sem,h0,k19];done) ⟨af.refl _,rfl⟩):p:=h
theorem Zg7(h:p:=by go_ret;exact⟨by rw[HGM.out];rfl,by rw[<- HGM.out];exact hM,jK⟩):p:=h
theorem Zg8(h:p:=by unfold cJ;rw[length_append,flatMap_append];simpa using h2):p:=h
theorem Zg9(h:p:=by go_wp2_with fail;have bb:=aa w (.cells #[.int .u8 v.k,.int .i64 v.n,.string v.s] 32);generalize w.alloc (.cells #[.int .u8 v.k,.int .i64 v.n,.string v.s] 32)=W at*;exact KcW):p:=h
theorem Zha(h:p:=by exact ae (w':=w3) (by simp[go_sem,h0,k2];done) ⟨af.refl _,rfl⟩):p:=h
theorem Zhb(h:p:=by exact ae (w':=w3) (by simp[go_sem,h0,k3];done) ⟨af.refl _,rfl⟩):p:=h
theorem Zhc(h:p:=by exact ae (w':=w3) (by simp[go_sem,h0,k4];done) ⟨af.refl _,rfl⟩):p:=h
theorem Zhd(h:p:=by exact ae (w':=w3) (by simp[go_sem,h0,k5];done) ⟨af.refl _,rfl⟩):p:=h
theorem Zhe(h:p:=by exact ae (w':=w3) (by simp[go_sem,h0,k6];done) ⟨af.refl _,rfl⟩):p:=h
theorem Zhf(h:p:=by exact ae (w':=w3) (by simp[go_sem,h0,S4];done) ⟨af.refl _,rfl⟩):p:=h
theorem Zhg(h:p:=by exact ae (w':=w3) (by simp[go_sem,h0,VW];done) ⟨af.refl _,rfl⟩):p:=h
theorem Zhh(h:p:=by
 intro l;have h:=this l
 match l with
 | []=>exact h
 | t::r=>exact h):p:=h
theorem Zhi(h:p:=by rintro e w1 ⟨rfl,b1⟩;have om:=hid (HS.out.later b1);have fT:=hid (HD.out.later b1 hsz);have jB:=hid (HB.out.later b1);clear HS HD HB b1 x0 x1 x2 x3 x4 x5 x6;exact KcX):p:=h
theorem Zhj(h:p:=by kernel_rfl):p:=h
theorem Zhk(h:p:=by have x1:w3.cell? ⟨g1,1,none⟩=some (.string y.name):=H3.out.q.cell 1;have p0:w3.cell? ⟨g0,0,none⟩=some (.pointer (some ⟨b,0,none⟩)):=H3.out.p.cell 0;exact KcY):p:=h
theorem Zhl(h:p:=by have jL:=hid (show false=C by rw[HC.out];simp[oP,c3]);exact Zas):p:=h
theorem Zhm(h:p:=by have jL:=hid (show false=C by rw[HC.out];simp[oP,c2]);exact Zas):p:=h
theorem Zhn(h:p:=by rw[ha] at hG;obtain⟨_,_,_,c,hc,_⟩:=hG;rw[tR] at hc;cases hc):p:=h
theorem Zho(h:p:=by exact⟨y,w1,eQ,g0,h1,h2,h3,h4,h5.trans (af.drew _),h6.drew⟩):p:=h
theorem Zhp(h:p:=by rcases hu with rfl | rfl | rfl | rfl | rfl | rfl | rfl <;> rfl):p:=h
theorem Zhq(h:p:=by intro ρ' w' A1 n1 c1 qZ nK hc' hf';simp[go_sem,qZ,nK,hc',hf']):p:=h
theorem Zhr(h:p:=by clear Aw;have t1:decide ((200:Int)<(y.aJ.n:Int))=false:=decide_eq_false Taa;have t2:decide ((200:Int)<(y.rows.n:Int))=false:=decide_eq_false Taa;exact KcZ):p:=h
theorem Zhs(h:p:=by rw[ha] at hG;obtain⟨_,_,_,c,_,hB,_⟩:=hG;exact hB.uS.cell 0):p:=h
theorem Zht(h:p:=by
 obtain⟨r',sF⟩:=hg _ rfl;injection sF with hu hr2;subst hu;have vX:bd < 0:=by simpa [dX.ou] using fA
 have HP:=hid hp;have c2:=hp.c2;have akg:=HA.out.blk.lt;exact Kc0):p:=h
theorem Zhu(h:p:=by have HZ:=hid ((av.new w 81 #[.int .u8 0,.string ⟨#[]⟩,.int .i64 0,.int .i64 0]).alloc (.cells (signs.map λ l=>Value.string ⟨l.toArray⟩).toArray 9));exact Kc1):p:=h
theorem Zhv(h:p:=by unfold Oper.wp execOp;simp only[ho,resolve,invoke,builtin,Sem.run_bind,Sem.run_pure,Result.andThen_ok,map_toArray,map_cons,map_nil,hs,hx,hrun];exact Kc2):p:=h
theorem Zhw(h:p:=by simp[results,Tryz.results181,go_sem,r0,r1,r2,r3,r4,r5,r6];rfl):p:=h
theorem Zhx(h:p:=by unfold aP strOf at hm HB;simp only[map_cons,map_nil] at hm HB;rw[show mO.toArray= #[98,121] from rfl] at hm HB;go_wp2_with fail;refine hm.mono ?_;clear hm p0;exact Kc3):p:=h
theorem Zhy(h:p:=by exact⟨rfl,hq▸MG.trans (hb.mono (by have:=VV.lt;omega))⟩):p:=h
theorem Zhz(h:p:=by unfold aP strOf at hm HB;simp only[map_cons,map_nil] at hm HB;rw[show cu.toArray= #[102,114,111,109] from rfl] at hm HB;go_wp2_with fail;refine hm.mono ?_;exact Kc4):p:=h
theorem ZhA(h:p:=by clear hb HA;unfold aP strOf at hm HB;simp only[map_cons,map_nil] at hm HB;rw[show cj.toArray= #[101,118,101,114,121] from rfl] at hm HB;go_wp2_with fail;refine hm.mono ?_;exact Kc5):p:=h
theorem ZhB(h:p:=by
 clear hX d HA;have HA:=fB;clear fB;unfold bD jX fF fp at hc;try unfold fF
 go_upto_region 16 with fail;clear hc hf;exact Kc6):p:=h
end Go.Proofs.YtehhdlgjfdnafaaGreatDoor
