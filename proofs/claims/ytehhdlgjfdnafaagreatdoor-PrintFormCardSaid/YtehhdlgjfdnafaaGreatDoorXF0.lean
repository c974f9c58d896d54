/- Scripts that several proofs use. -/
import Derived.Below
import Derived.BigQuiet
import Derived.Shelf.Strings.OnBuilder
import Derived.Shelf.Small.Utf8
import Derived.Shelf.Strings.BuilderK
import Derived.Shelf.Strconv.Itoa4
import Derived.Shelf.Strconv.ErrVarParseInt
import Derived.Shelf.Strings.Shaped
import Derived.Shelf.Strings.Prefix
import Derived.Shelf.Strings.SplitShaped
import Derived.Shelf.Unicode.DecodeSlow
import Derived.Shelf.Unicode.IsSpaceAny
import Derived.Shelf.Unicode.CaseLaid
import Derived.Shelf.Unicode.ExclAny
import Derived.Deep.AppendLies
import Derived.Handy
import Derived.WalkLawsBesides
import Derived.Laws.EntriesVeiled
import Derived.Deep.DeepCutAuto
import Derived.Lib.BufferKept
import Derived.Lib.ItoaLen
import Derived.Lay
import Derived.LaidMore
import Derived.Stop.LaidErr
import Derived.HandedShaped
import Derived.Deep.DeepHandedRow
import Derived.Deep.Strs
import Derived.Laws.CopyOwn
namespace Go.Proofs.YtehhdlgjfdnafaaGreatDoor
open List
set_option linter.unusedVariables false
theorem Uaa:(∀{α:Type}(l:List α)(i:Nat),l.toArray[i]?=l[i]?)/\(∀{α:Type}(a:α)(l:List α),(a::l)[0]?=some a)/\∀{α:Type}(a:α)(l:List α)(i:Nat),(a::l)[i+1]?=l[i]?:=by refine⟨?_,?_,?_⟩<;>simp
theorem Uab:(∀{α:Type}(a:α)(l:List α)(i:Nat),(a::l).take (i+1)=a::l.take i)/\(∀{α:Type}(l:List α),l.take 0=[])/\(∀{α:Type}(a:α)(l:List α)(i:Nat),(a::l).drop (i+1)=l.drop i)/\∀{α:Type}(l:List α),l.drop 0=l:=by refine⟨?_,?_,?_,?_⟩<;>simp
theorem Uac:(∀{α:Type}(l:List α)(i:Nat)(a:α),l.toArray.setIfInBounds i a=(l.set i a).toArray)/\(∀{α:Type}(x:α)(l:List α)(i:Nat)(a:α),(x::l).set (i+1) a=x::l.set i a)/\∀{α:Type}(x:α)(l:List α)(a:α),(x::l).set 0 a=a::l:=by refine⟨?_,?_,?_⟩<;>simp
variable{p:Prop}
theorem Taa(h:p:=by omega):p:=h
theorem Tab(h:p:=by decide):p:=h
theorem Tac(h:p:=by kernel_rfl):p:=h
theorem Tad(h:p:=by simp):p:=h
theorem Tae(h:p:=by simp;omega):p:=h
theorem Taf(h:p:=by have:=HA.out.qb;have:=HA.out.sa.qw;omega):p:=h
theorem Tah(h:p:=by rw[e2];simp[go_sem,hc.const,h0,h1];done):p:=h
theorem Tai(h:p:=by simp[St.exprs,Qu.exprs,di,any_append,any_map,any_flatten,Function.comp_def,Bool.or_assoc]):p:=h
theorem Taj(h:p:=by rw[<- e];simp[go_sem,h0,h1];done):p:=h
theorem Tak(h:p:=by simp[Qu.exprs,di,any_append,any_map,Function.comp_def,Bool.or_assoc]):p:=h
theorem Tal(h:p:=by simp[St.long,Qu.long]):p:=h
theorem Tam(h:p:=by simpa using h):p:=h
theorem Tan(h:p:=by rw[HA.out.name];exact HF.out.names.1):p:=h
theorem Tao(h:p:=by rw[HLEN.out];omega):p:=h
theorem Tap(h:p:=by rw[Ds.out];exact hi):p:=h
theorem Taq(h:p:=by simp only[length_cons];omega):p:=h
theorem Tar(h:p:=by simp[go_sem,e1,h0,h1];done):p:=h
theorem Tas(h:p:=by simp[St.exprs,Qu.exprs,di]):p:=h
theorem Tat(h:p:=by rw[length_map,HL.out]):p:=h
theorem Tau(h:p:=by rw[no li.r];simp):p:=h
theorem Tav(h:p:=by simp[St.long,Qu.long,Bool.or_assoc]):p:=h
theorem Taw(h:p:=by simp[MapKept.IsKey]):p:=h
theorem Tax(h:p:=by unfold St.exprs;simp only[mem_append];exact .inr ht):p:=h
theorem Tay(h:p:=by simp[Qu.long,Bool.or_assoc]):p:=h
theorem Taz(h:p:=by simpa using hv):p:=h
theorem TaA(h:p:=by simp only[length_append,hA,length_cons,length_nil,show(aU y).length=7 from rfl];omega):p:=h
theorem TaB(h:p:=by have:=HK.out;omega):p:=h
theorem TaC(h:p:=by simpa using hk):p:=h
theorem TaD(h:p:=by rw[hk];decide):p:=h
theorem TaE(h:p:=by have:=aaW.out;have:=ZL.out;have:=UU.out;have:=HN.out;simp only[length_append];omega):p:=h
theorem TaF(h:p:=by rw[(no li.c).1];simp):p:=h
theorem TaG(h:p:=by rw[sr];exact su):p:=h
theorem TaH(h:p:=by unfold maxLen;omega):p:=h
theorem TaI(h:p:=by have:=g1.size;omega):p:=h
theorem TaJ(h:p:=by rw[I.len];exact EU):p:=h
theorem TaK(h:p:=by rw[HA.out.every];exact HF.out.every.2):p:=h
theorem TaL(h:p:=by rw[HA.out.every];exact HF.out.every.1):p:=h
theorem TaM(h:p:=by simp[kC,Value.oneCell']):p:=h
theorem TaN(h:p:=by rw[HO.out,HK.out];omega):p:=h
theorem TaO(h:p:=by rfl):p:=h
theorem TaP(h:p:=by decide+kernel):p:=h
theorem TaQ(h:p:=by rw[no li.u];simp):p:=h
theorem TaR(h:p:=by rw[take_append_drop];exact hz):p:=h
theorem TaS(h:p:=by rw[HL.out];omega):p:=h
theorem TaT(h:p:=by simp[hw]):p:=h
theorem TaU(h:p:=by rw[e2];simp[go_sem,h0,h1,q1];done):p:=h
theorem TaV(h:p:=by rw[HL.out];simp):p:=h
theorem TaW(h:p:=by rw[no li.q];exact q0):p:=h
theorem TaX(h:p:=by unfold St.exprs;simp only[mem_append];exact .inl (.inr ht)):p:=h
theorem TaY(h:p:=by simpa using hx):p:=h
theorem TaZ(h:p:=by simpa using ha):p:=h
theorem Ta0(h:p:=by simpa using A0):p:=h
theorem Ta1(h:p:=by rw[Ku.out];exact cz):p:=h
theorem Ta2(h:p:=by have:=HN.out;omega):p:=h
theorem Ta3(h:p:=by have:=HL.out;omega):p:=h
theorem Ta4(h:p:=by rw[hl];exact ht.1):p:=h
theorem Ta5(h:p:=by rw[ki];exact hlt):p:=h
theorem Ta6(h:p:=by rw[HC.out];omega):p:=h
theorem Ta7(h:p:=by dsimp only;omega):p:=h
theorem Ta8(h:p:=by injection e):p:=h
theorem Ta9(h:p:=by simp[Region.wanted,hg]):p:=h
theorem Tba(h:p:=by have:=gb.out.at_;rw[HL.out] at this;exact this):p:=h
theorem Tbb(h:p:=by rw[hwd];exact Er ra _):p:=h
theorem Tbc(h:p:=by have:=hb.1;simp;omega):p:=h
theorem Tbd(h:p:=by rw[pg.out];exact cz):p:=h
theorem Tbe(h:p:=by simp[hx]):p:=h
theorem Tbf(h:p:=by rw[length_map];have:=HL.out;omega):p:=h
theorem Tbg(h:p:=by show w.heap.size≠w1.heap.size;omega):p:=h
theorem Tbh(h:p:=by rw[length_map];exact HL.out.symm):p:=h
theorem Tbi(h:p:=by rw[ia.out.skip];exact drop_at HB.out):p:=h
theorem Tbj(h:p:=by rw[HY.out,HL.out]):p:=h
theorem Tbk(h:p:=by simpa using(by omega:x[0].toNat=48)):p:=h
theorem Tbl(h:p:=by simpa using(by omega:s[0].toNat=48)):p:=h
theorem Tbm(h:p:=by simp only[map_nil,Tr.aG];omega):p:=h
theorem Tbn(h:p:=by rw[<- drop_at HB.out];exact eH.out):p:=h
theorem ze9.Kbp(h:p:=by exact Kaa):p:=h
theorem zdE.KaV(h:p:=by go_enter Tryz.func19,Tryz.ntmps19;open ze9 in exact ZcG):p:=h
theorem Zaa(h:p:=by have HA:=hid h;have HF:=hid hf;obtain⟨cs,hcs⟩:∃cs,cs=(cd y).toArray:=⟨_,rfl⟩;show Calls Tryz.prog 19 #[.pointer (some ⟨b,0,none⟩),.agg (cd y).toArray] w _;open zdE in exact Zbp):p:=h
theorem Zab(h:p:=by
 obtain⟨i0,nR,Z1⟩:=lS h0;obtain⟨i,⟨hi,hu⟩,Im⟩:=least (p:=λ i=>i < l.length/\listed.getD i false=false) i0 ⟨nR,Z1⟩
 have dR:∀j,j < i->listed.getD j false=true:=λ j hj=>by
  cases hc:listed.getD j false with
  | true=>rfl
  | false=>exact absurd ⟨by omega,hc⟩ (Im j hj)
 have Fg:l[i]?=some l[i]:=getElem?_eq_getElem hi;have qQ:=cO aC i _ Fg;simp only[np,Bool.and_eq_true,Nat.zero_add] at qQ
 have jA:i∈Region.ready .any (l++zs).toArray listed:=by
  refine qP (oX Fg) ?_ λ j hj=>dR j (of_decide_eq_true (List.all_eq_true.1 qQ.1.1.1 j hj))
  rw[eG (by rw[I.len];simp;omega)];exact hu
 refine⟨(λ hnil=>by rw[hnil] at jA;cases jA),λ j hj=>?_⟩;obtain⟨zo,oj,pO,hall⟩:=mem_ready.1 hj
 have EU:j <(l++zs).length:=by
  rcases Nat.lt_or_ge j (l++zs).length with h' | h'
  ·exact h'
  ·rw[Array.getElem?_eq_none (by simpa using h')] at pO;cases pO
 rw[eG TaJ] at zo;have fl:∀k∈gi oj,listed.getD k false=true:=λ k hk=>by obtain⟨e,he,hb,rfl⟩:=lr.1 hk;exact hall e he hb
 have NK:j < l.length:=by
  rcases Nat.lt_or_ge j l.length with h' | h'
  ·exact h'
  ·exfalso
   have Xv:zs[j - l.length]?=some oj:=by
    have:(l++zs)[j]?=some oj:=by simpa using pO
    rw[getElem?_append_right Taa] at this;exact this
   have KC:=jP hz (j - l.length) oj Xv;rw[show l.length+(j - l.length)=j by omega] at KC;have hc:=jz (L:=l++zs) (λ k=>listed.getD k false=true) (by
    intro k ok hk hd e he
    rcases Nat.lt_or_ge k l.length with Io | Io
    ·rw[getElem?_append_left Io] at hk
     exact I.closed k ok hk hd e he
    ·rw[I.tail k Io] at hd;cases hd) j (gi oj) KC.2 fl i Taa
   rw[hu] at hc;cases hc
 have zy:l[j]?=some oj:=by
  have:(l++zs)[j]?=some oj:=by simpa using pO
  rw[getElem?_append_left NK] at this;exact this
 exact Kab):p:=h
theorem ze4.Kbn(h:p:=by exact Kac):p:=h
theorem Zac(h:p:=by obtain⟨u,rfl⟩:=ei T hT.sz;open ze4 in exact ZcD):p:=h
theorem zgL.Kb5(h:p:=by have x7:=(d2.blk HX.out my Tab).cell 7;simp only[Uaa] at x0 x1 x2 x3 x4 x5 x6 x7;exact ZaD):p:=h
theorem zdg.KaM(h:p:=by open zgL in exact Zes):p:=h
theorem zhv.Kcr(h:p:=by have x7:=HX.out.cell 7;simp only[Uaa] at x0 x1 x2 x3 x4 x5 x6 x7;exact ZaE):p:=h
theorem zgR.Kb8(h:p:=by
 clear k0 k1 k2 k3 k4 k5 k6 k7 HS HD;generalize wr.alloc _=W1 at*;clear bx lx;rcases Nat.eq_zero_or_pos i with nR | nR
 ·open zhv in exact Zgb
 ·open zdg in exact Zbd):p:=h
theorem Zad(h:p:=by open zgR in exact ZeA):p:=h
theorem Zae(h:p:=by exact Ze9):p:=h
theorem Zaf(h:p:=by have h0:_=_:=hr.1;exact ae (w':=w3) (by simp[go_sem,h0];done) ⟨af.refl _,rfl⟩):p:=h
theorem zdd.KaK(h:p:=by exact Kad):p:=h
theorem zcN.KaA(h:p:=by
 have g2:((t.w.k:Int)==2)=false:=by simp;omega
 have g3:((t.w.k:Int)==3)=false:=by simp;omega
 open zdd in exact Zbb):p:=h
theorem Zag(h:p:=by open zcN in exact ZaX):p:=h
theorem Zah(h:p:=by obtain⟨u,rfl⟩:=ei T hT.sz;have h2:=(aw u (show 2 < 83 by decide)).symm.trans hT.t2;have h3:=(aw u (show 3 < 83 by decide)).symm.trans hT.t3;simp only[vo,List.range,List.range.loop,List.map,h2,h3];clear hT h2 h3;have HH:=hid h;clear h;simp only[vz,jq,Tryz.f40,Option.getD_some] at hO ⊢;have HO:=hid hO;clear hO;obtain⟨p0,q0,q1,q2,q3,q4,q5,q6,q7⟩:=HH.out.cells;exact Kae):p:=h
theorem Zai(h:p:=by
 have k0:=λ y:Ext wr.heap.size wr=>(HP.out.later y.h).c0
 have k1:=λ y:Ext wr.heap.size wr=>(HP.out.later y.h).c1
 have m0:=λ y:Ext wr.heap.size wr=>(HP.out.later y.h).d0
 have m1:=λ y:Ext wr.heap.size wr=>(HP.out.later y.h).d1
 have m2:=λ y:Ext wr.heap.size wr=>(HP.out.later y.h).d2
 have m3:=λ y:Ext wr.heap.size wr=>(HP.out.later y.h).d3
 go_wp2_with fail;refine fo 13 wr.heap.size wr (Below.refl _ _) Tac Tac Tac Tac ?_;simp only[Uab];repeat (go_big_quiet_step (first
  |(go_at_call 182;exact gI (Nat.le_refl _) (Zo _))))
 refine wpQuiet_nil ?_;rintro W2 ⟨y2,Pw⟩;have hW:=y2.h;rw[<- Pw] at hW;clear Pw y2 k0 k1 m0 m1 m2 m3 c2;exact Kaf):p:=h
theorem zdj.KaN(h:p:=by have bx:=aa wr (Gw x);refine(hDx _ (Below.trans hwr (bx.mono hwr.size))).mono ?_;rintro e w' ⟨rfl,b0⟩;have b':=af.then bx b0;exact Zcm):p:=h
theorem Zaj(h:p:=by
 have x6:=HX.cell 6;simp only[Uaa] at x6;go_wp2_with fail;clear x6;generalize W.alloc _=W1 at*;have nI:=hid hb;have HW:=hid hW;clear hb;go_loopw [3,9] (λ m iv wr=>∃i:Nat,i<=ys.length/\iv=.int .i64 i/\m=.int .i64 (iY (ds.take i))/\Below W1.heap.size W1 wr) (λ _ iv _=>ys.length - (intOf iv).toNat);case atStart=>exact⟨0,Nat.zero_le _,rfl,rfl,Below.refl _ _⟩
 case round=>
  obtain⟨i,hi,rfl,rfl,iV⟩:=hrel;have hml:=oy ds i;have V6:=HM.out;by_cases hlt:i < ys.length
  ·open zdj in exact Zbe
  ·exact Zc3):p:=h
theorem zgI.Kb3(h:p:=by go_enter Tryz.func181,Tryz.ntmps181;go_wp2_with fail;go_region;clear c0 c1 c2 d0 d1 d2 d3 y0 y1 y2 z0 z1 z2 z3 x0 v0 v1 v2 v3;obtain⟨u0,u1,u2,u3,_⟩:=aO HT;have HTB:=hid HT;clear HT;unfold cA at u0 u1 u2 u3 hb3 x1 x2 Ul HF HTB HD nh Zq;generalize World.drew _=W at*;exact Kag):p:=h
theorem zcs.Kav(h:p:=by
 unfold xB at*;unfold bw.ptr;obtain⟨tk,pl,bd,hpl,hlt,hsm,BH,fG,hg,Bd,Cf,hp⟩:=h0.mN;obtain⟨r',tE⟩:=hg _ rfl;have htw:t=tk.w:=by injection tE
 have xc:bd < 0:=by simpa [eu.pn] using fG
 subst htw;have tD:=h0.left;have hp2:=hp.later (aa _ zM);have hp3:=hp.later ((aa _ (.cells (cA tk) 81)).drew);have hb3:=(aa (w.alloc (.cells #[.int .u8 0,.int .u8 0,.int .i64 0,.string ⟨#[]⟩,.string ⟨#[]⟩,.int .i64 0,.slice none 0 0] 36)) (.cells (cA tk) 81)).drew;have HT:=(av.new (w.alloc (.cells #[.int .u8 0,.int .u8 0,.int .i64 0,.string ⟨#[]⟩,.string ⟨#[]⟩,.int .i64 0,.slice none 0 0] 36)) 81 (cA tk)).drew;rw[hsz] at HT;have HF:=hid (h0.later hb3);have HD:=hid ((iJ.aF h hb).later hb3);have nh:=hid (HQ.out.later hb3);have Ul:=(h0.later hb3).facts.2.2.2.2.1;have Zq:((w.alloc (.cells #[.int .u8 0,.int .u8 0,.int .i64 0,.string ⟨#[]⟩,.string ⟨#[]⟩,.int .i64 0,.slice none 0 0] 36)).alloc (.cells (cA tk) 81)).drew.heap.size=w.heap.size+2:=by simp
 have e1:(pl:Int)+1=(ρ.n:Int) - r.length:=by rw[hpl];simp only[eu.left,length_cons] at*;omega
 have HPL:=hid hpl;clear h hpl hg fG BH tE h0 hb HQ;open zgI in exact Zen):p:=h
theorem Zak(h:p:=by have br:=h.od;have hb:=aa w xB;have h0:=h.later hb;open zcs in exact ZaO):p:=h
theorem Zal(h:p:=by have dS:=hid (show(Tryz.prog.info? 34).map (·.size)=some cs.size by rw[hcs];exact cz);have mF:=hid (show cK.size=cs.size by rw[hcs,bB];exact bB _);have jN:=hid (show cs.all (·.oneCell')=true by rw[hcs];exact cW _);exact Kah):p:=h
theorem zeI.Kbf(h:p:=by clear h2 d2 H1 TT x0;exact Kai):p:=h
theorem Zam(h:p:=by
 have Zj:=hid nJ;clear nJ hk;go_upto_region 38 with fail;have cn:w0.heap.size<=w.heap.size:=by rw[jJ.out];exact dS.out
 refine cX 8 (vC b g1 y tt) (nd _ _ _ _) Tac Tac Tac ?_ ?_
 ·simp only[take_succ_cons,take_zero];refine⟨Zbr,ZaU,?_,?_,?_,?_,?_,?_,trivial⟩
  ·intro ρ w3 hc hL hr;exact ZcA
  ·intro ρ w3 hc hL hr;have h0:_=_:=hr.1;have IZ:w3.cell? ⟨g1,22,none⟩=some (.int .u8 y.aP.k):=(av.later H0.out.q hL).cell 22;have Ja:w3.cell? ⟨g1,23,none⟩=some (.int .i64 y.aP.n):=(av.later H0.out.q hL).cell 23;have Jb:w3.cell? ⟨g1,24,none⟩=some (.string y.aP.s):=(av.later H0.out.q hL).cell 24;exact Zc5
  ·intro ρ w3 hc hL hr;exact ZcA
  ·intro ρ w3 hc hL hr;have h0:_=_:=hr.1;have TN:w3.cell? ⟨g1,25,none⟩=some (.int .u8 y.dx.k):=(av.later H0.out.q hL).cell 25;have TP:w3.cell? ⟨g1,26,none⟩=some (.int .i64 y.dx.n):=(av.later H0.out.q hL).cell 26;have TR:w3.cell? ⟨g1,27,none⟩=some (.string y.dx.s):=(av.later H0.out.q hL).cell 27;exact ZgH
  ·intro ρ w3 hc hL hr;have h0:_=_:=hr.1;have h1:_=_:=hr.2.1;exact ae (w':=w3) (ie rfl (by simp only[map_toArray,map_cons,map_nil,h0,h1];exact vB y)) ⟨af.refl _,rfl⟩
  ·intro ρ w3 hc hL hr;have h0:_=_:=hr.1;have h1:_=_:=hr.2.1;have e1:=hc.func 37;refine dU (f:=37) (args:= #[.agg (cd y).toArray,.agg (cd (eW y false false false false false false false false true)).toArray]) (w':=w3) Tar ?_;exact Zb6
 intro W2 hL;simp only[Uab];rintro _ rfl a1 - a2 - a3 - a4 - a5 - a6 - _ rfl;open zeI in exact Zcf):p:=h
theorem Zan(h:p:=by
 have HH:=hid h;have HK:=hid hk;have HP:=hid ho;have HA:=hid hA;have HO:=hid hO;have HN:=hid hn;have Yc:=hid hm;have Yd:=hid BW;have hsz:=h.size;obtain⟨ok,aC⟩:∃ok:Bool,ok=(decide (0 < os.length)&& decide (os.length<=64)):=⟨_,rfl⟩;rw[ho] at aC;have Ye:=hid (show dL os=aq (bl ok) (dV os) by unfold dL;rw[aC,ho]);have jy:=hid aC;clear h hk ho hA hO hn aC hm BW;have jB:(decide ((0:Int)< k)=false/\decide (0 < k)=false/\ok=false)\/(decide ((0:Int)< k)=true/\decide (0 < k)=true/\decide ((k:Int)<=64)=true/\decide (k<=64)=true/\ok=true)\/(decide ((0:Int)< k)=true/\decide (0 < k)=true/\decide ((k:Int)<=64)=false/\decide (k<=64)=false/\ok=false):=by rw[jy.out];by_cases h1:0 < k <;> by_cases h2:k<=64 <;> simp[h1,h2] <;> omega
 exact Kaj):p:=h
theorem Zao(h:p:=by intro ρ w3 hc hL hr;have h0:_=_:=hr.1;have k7:w3.cell? ⟨g1,7,none⟩=some (.slice y.query.items.A y.query.items.n y.query.items.c):=(av.later H0.out.q hL).cell 7;have k8:w3.cell? ⟨g1,8,none⟩=some (.string y.query.aP):=(av.later H0.out.q hL).cell 8;have k9:w3.cell? ⟨g1,9,none⟩=some (.bool y.query.only):=(av.later H0.out.q hL).cell 9;have TI:w3.cell? ⟨g1,10,none⟩=some (.slice y.query.aS.A y.query.aS.n y.query.aS.c):=(av.later H0.out.q hL).cell 10;have TJ:w3.cell? ⟨g1,11,none⟩=some (.slice y.query.group.A y.query.group.n y.query.group.c):=(av.later H0.out.q hL).cell 11;have TK:w3.cell? ⟨g1,12,none⟩=some (.slice y.query.having.A y.query.having.n y.query.having.c):=(av.later H0.out.q hL).cell 12;have TL:w3.cell? ⟨g1,13,none⟩=some (.slice y.query.order.A y.query.order.n y.query.order.c):=(av.later H0.out.q hL).cell 13;have TM:w3.cell? ⟨g1,14,none⟩=some (.slice y.query.aN.A y.query.aN.n y.query.aN.c):=(av.later H0.out.q hL).cell 14;exact Zf2):p:=h
theorem Zap(h:p:=by exact ZcA):p:=h
theorem Zaq(h:p:=by go_wp2_with fail;refine(MS.out _ _ kh.out HH.out).mono ?_;rintro e w5 ⟨rfl,h5⟩;go_wp2_with fail;go_meet;exact h5):p:=h
theorem Zar(h:p:=by rintro e w1 ⟨rfl,b1⟩;have H1:=hid (HH.out.later hsz b1);rw[xX];clear HH b1 x0 x1 x2 x3 x4 x5 x6 f0 f1;obtain⟨x0,x1,x2,x3,x4,x5,x6⟩:=H1.out.x.cells;dsimp only at x0 x1 x2 x3 x4 x5 x6;obtain⟨f0,f1⟩:=H1.out.kr;dsimp only at f0 f1;obtain⟨⟨sb,c2⟩,fz,hs2,zr⟩:=H1.out.st.xW;have vp:=hid hs2;have eZ:=hid (H1.out.did.trans zr);exact Zgl):p:=h
theorem zcS.KaC(h:p:=by have:=tz.out.st.more (show n+3+1+1+1+1<=n+(13*Tr.aG s.exprs+4*s.bg.length+3*s.rows.length+80) by omega);have LI:=VB.out;rw[HA.out.aP] at LI;rw[LI];rw[HA.out.name,zt.out,HA.out.dx] at this;exact ZfV):p:=h
theorem Zas(h:p:=by
 go_upto_region 45 with fail;clear x0 p0;have cn:w0.heap.size<=w.heap.size:=by rw[jJ.out];exact dS.out
 obtain⟨vb,LI⟩:∃vb,kX y.aP=vb:=⟨_,rfl⟩;have VB:=hid LI;clear LI;refine cX 5 (nv b g1 y vb) (DA _ _ _ _) Tac Tac Tac ?_ ?_
 ·simp only[take_succ_cons,take_zero];refine⟨?_,?_,?_,?_,?_,trivial⟩
  ·intro ρ w3 hc hL hr;have h0:_=_:=hr.1;have k0:=(av.later H6.out.p hL).cell 0;exact ZdS
  ·intro ρ w3 hc hL hr;exact ZcA
  ·intro ρ w3 hc hL hr;have h0:_=_:=hr.1;have IZ:w3.cell? ⟨g1,22,none⟩=some (.int .u8 y.aP.k):=(av.later H6.out.q hL).cell 22;have Ja:w3.cell? ⟨g1,23,none⟩=some (.int .i64 y.aP.n):=(av.later H6.out.q hL).cell 23;have Jb:w3.cell? ⟨g1,24,none⟩=some (.string y.aP.s):=(av.later H6.out.q hL).cell 24;exact Zc5
  ·intro ρ w3 hc hL hr;exact ae (w':=w3) (ie rfl (by simpa using zV)) ⟨af.refl _,rfl⟩
  ·intro ρ w3 hc hL hr;have h0:_=_:=hr.1;have h1:_=_:=hr.2.1;have e:=VB.out;unfold kX at e;by_cases q1:y.aP.k=0
   ·by_cases q2:y.aP.n=0
    ·by_cases q3:y.aP.s.toList=[]
     ·have e2:vb=true:=by rw[<- e];simp[q1,q2,q3]
      exact Zfz
     ·have e2:vb=false:=by rw[<- e];simp[q1,q2,q3]
      exact Zfz
    ·have e2:vb=false:=by rw[<- e];simp[q1,q2]
     exact ae (v:=.bool vb) (w':=w3) (by rw[e2];simp[go_sem,h0,h1,q1,q2];done) ⟨af.refl _,rfl⟩
   ·have e2:vb=false:=by rw[<- e];simp[q1]
    exact ae (v:=.bool vb) (w':=w3) TaU ⟨af.refl _,rfl⟩
 intro W5 hL;simp only[Uab];rintro _ rfl a1 - a2 - a3 - _ rfl;simp only[dr,Act.put,Uac];have H7:=hid (H6.out.later cn hL);clear hL H6 cn;go_wp2_with fail;refine(bp vb W5 H7.out.st).mono ?_;rintro e w8 ⟨rfl,h2,d2⟩;have H8:=hid (H7.out.next hg0 hg1 h2 d2);clear h2 d2 H7;open zcS in exact ZaZ):p:=h
theorem Zat(h:p:=by rintro e w2 ⟨rfl,h2,d2⟩;have H2:=hid (H1.out.next hg0 hg1 h2 d2);clear h2 d2 H1 TT x0;have x7:w2.cell? ⟨g1,7,none⟩=some (.slice y.query.items.A y.query.items.n y.query.items.c):=H2.out.q.cell 7;have x8:w2.cell? ⟨g1,8,none⟩=some (.string y.query.aP):=H2.out.q.cell 8;have x9:w2.cell? ⟨g1,9,none⟩=some (.bool y.query.only):=H2.out.q.cell 9;have NB:w2.cell? ⟨g1,10,none⟩=some (.slice y.query.aS.A y.query.aS.n y.query.aS.c):=H2.out.q.cell 10;have NC:w2.cell? ⟨g1,11,none⟩=some (.slice y.query.group.A y.query.group.n y.query.group.c):=H2.out.q.cell 11;have ND:w2.cell? ⟨g1,12,none⟩=some (.slice y.query.having.A y.query.having.n y.query.having.c):=H2.out.q.cell 12;have NF:w2.cell? ⟨g1,13,none⟩=some (.slice y.query.order.A y.query.order.n y.query.order.c):=H2.out.q.cell 13;have NG:w2.cell? ⟨g1,14,none⟩=some (.slice y.query.aN.A y.query.aN.n y.query.aN.c):=H2.out.q.cell 14;have p0:w2.cell? ⟨g0,0,none⟩=some (.pointer (some ⟨b,0,none⟩)):=H2.out.p.cell 0;go_wp2_with fail;refine(sk hE hS HA.out.query HF.out.query hm w2 H2.out.st H2.out.hw (by unfold Qu.cost;omega)).mono ?_;rintro e w3 ⟨rfl,h2,d2⟩;unfold Qu.cost at h2;have H3:=hid (H2.out.next hg0 hg1 h2 d2);clear h2 d2 H2 p0 x7 x8 x9 NB NC ND NF NG;exact Kak):p:=h
theorem Zau(h:p:=by
 go_upto_region 0 with fail;go_cut [16] (λ v wx=>eR w0.heap.size b (aq s (bl ok)) n wx/\cF w0.heap.size b w wx)
 case first=>
  rcases jB with ⟨t1,t2,hb⟩|⟨t1,t2,t3,t4,hb⟩|⟨t1,t2,t3,t4,hb⟩
  all_goals
   have HB:=hid hb;clear jy hb;go_wp2_with fail;refine(bp _ w HH.out).mono ?_;rintro e w1 ⟨rfl,h1,d1⟩;clear t1 t2;try clear t3 t4
   go_wp2_with fail;go_meet;exact⟨by rw[HB.out];exact h1,d1⟩
 case rest=>
 obtain⟨h1,d1⟩:=hcut;have H1:=hid h1;have D1:=hid d1;clear h1 d1 jB jy HH;go_wp2_with fail;exact Kal):p:=h
theorem Zav(h:p:=by exact ZdS):p:=h
theorem zeh.Ka8(h:p:=by exact Kam):p:=h
theorem Zaw(h:p:=by have hsz:=Nat.le_trans hw.size (Nat.le_refl ws.heap.size);have HH:=hid h;clear h;have en:True:=trivial;open zeh in exact Zb1):p:=h
theorem Zax(h:p:=by rintro e w4 ⟨rfl,h2,d2⟩;have H4:=hid (H3.out.next hg0 hg1 h2 d2);clear h2 d2 H3;have x1:w4.cell? ⟨g1,1,none⟩=some (.string y.name):=H4.out.q.cell 1;have p0:w4.cell? ⟨g0,0,none⟩=some (.pointer (some ⟨b,0,none⟩)):=H4.out.p.cell 0;go_wp2_with fail;refine(eL hE y.name w4 H4.out.st H4.out.hw Tan Taa).mono ?_;rintro e w5 ⟨rfl,h2,d2⟩;have H5:=hid (H4.out.next hg0 hg1 h2 d2);clear h2 d2 H4 p0 x1;have p0:w5.cell? ⟨g0,0,none⟩=some (.pointer (some ⟨b,0,none⟩)):=H5.out.p.cell 0;go_wp2_with fail;refine(cH ⟨#[44,32]⟩ w5 H5.out.st Tab Taa).mono ?_;rintro e w6 ⟨rfl,h2,d2⟩;have H6:=hid (H5.out.next hg0 hg1 h2 d2);clear h2 d2 H5 p0;have x0:w6.cell? ⟨g1,0,none⟩=some (.int .u8 y.kind):=H6.out.q.cell 0;have p0:w6.cell? ⟨g0,0,none⟩=some (.pointer (some ⟨b,0,none⟩)):=H6.out.p.cell 0;exact Kan):p:=h
theorem Zay(h:p:=by
 obtain⟨z,hz⟩:∃z,ys[i]?=some z:=⟨_,getElem?_eq_getElem (by rw[HK.out];exact hlt)⟩;obtain⟨o,hoi⟩:∃o,os[i]?=some o:=⟨_,getElem?_eq_getElem (by rw[HP.out];exact hlt)⟩;have HM:=hid (Yc.out i hlt);have HL:=hid (show n+m i+1+ci i<=50000000 by have:=HN.out;have:=HM.out;have:=Yd.out (i+1) hlt;omega);have dR:=hid (HO.out i z o hz hoi);have hwr:Below w0.heap.size w0 wr:=hw.trans HD.out.below;rcases HA.out with h0 |⟨q,off,mg,kM,hc⟩
 ·rw[h0] at hz;cases hz
 exact Kao):p:=h
theorem Zaz(h:p:=by
 simp only[take_succ_cons,take_zero];refine⟨Zbr,ZaU,ZbB,Zao,Zb2,Zbi,ZbB,?_,?_,?_,?_,trivial⟩
 ·intro ρ w3 hc hL hr;intro hg;have hg:ρ (.tmp 137)=.bool true:=hg;refine⟨λ _=>?_,λ hn=>absurd hg hn⟩;exact Zap
 ·intro ρ w3 hc hL hr;intro hg;have hg:ρ (.tmp 137)=.bool true:=hg;refine⟨λ _=>?_,λ hn=>absurd hg hn⟩;have h0:_=_:=hr.1;have k1:w3.cell? ⟨g1,1,none⟩=some (.string y.name):=(av.later H0.out.q hL).cell 1;exact ae (w':=w3) (by simp[go_sem,h0,k1];done) ⟨af.refl _,rfl⟩
 ·intro ρ w3 hc hL hr;intro hg;have hg:ρ (.tmp 137)=.bool true:=hg;refine⟨λ _=>?_,λ hn=>absurd hg hn⟩;have h0:_=_:=hr.1;exact ae (w':=w3) (by simp[go_sem,hc.const,h0,NM.out];done) ⟨af.refl _,rfl⟩
 ·exact ZbR):p:=h
theorem ZaA(h:p:=by
 have p0:w2.cell? ⟨g0,0,none⟩=some (.pointer (some ⟨b,0,none⟩)):=H2.out.p.cell 0;have X0:=hid x0;go_upto_region 39 with fail
 refine wp_region_lit ?_;go_wp2_with (first
  |(refine fD rfl 92 rfl ?_
    have hM:=jo.new w2
    have kg:Below w2.heap.size w2 (w2.alloc (.map #[] 0)):=aa w2 (.map #[] 0)
    obtain⟨gm,qg⟩:∃gm,gm=w2.heap.size:=⟨_,rfl⟩
    rw[<- qg] at hM ⊢
    have hle:w2.heap.size<=gm:=Nat.le_of_eq qg.symm
    have hx0:=(kg.cell (p:=⟨g1,0,none⟩) (ax x0)).trans x0
    clear qg x0 p0
    generalize w2.alloc _=wm at*)
  |(refine gM Tryz.underlying92 Tryz.underlying5 rfl _ _ _ rfl gm rfl _ rfl _ rfl hM TaO ?_
    clear hM hx0
    intro wm hM hgr
    replace kg:=kg.trans (aQ hgr kg.size hle)
    have hx0:=(kg.cell (p:=⟨g1,0,none⟩) (ax X0.out)).trans X0.out
    clear hgr))
 replace hM:jo _ gm Bh:=hM;exact Kap):p:=h
theorem ZaB(h:p:=by refine⟨λ _=>?_,λ hn=>absurd hg hn⟩;exact Zaf):p:=h
theorem ZaC(h:p:=by
 have hall:=ee h0
 have ha:a=fill (λ d=>a.eval (.tmp d)) l a0:=by
  have h1:a.tmps=(fill (λ d=>a.eval (.tmp d)) l a0).tmps:=by
   apply Array.ext_getElem?;intro t;by_cases ht:t < a0.tmps.size
   ·rw[tH _ _ _ _ ht];split
    ·simp[Act.eval,I.size,ht]
    ·rename_i hno;refine I.old t ?_;intro i o hi hd _;exact hno ⟨o,mem_of_getElem? hi,hd⟩
   ·rw[Array.getElem?_eq_none (by rw[I.size];omega),Array.getElem?_eq_none (by rw[qO];omega)]
  have h2:a.defers=(fill (λ d=>a.eval (.tmp d)) l a0).defers:=by rw[nu,I.defers]
  exact BN h1 h2
 exact Kaq):p:=h
theorem ZaD(h:p:=by
 clear h2 d2 pg gb t5 t6;go_wp2_with fail;refine(dR.out w2 _ _ D2.out H2.out Ta3).mono ?_;rintro e w3 ⟨rfl,h3,d3⟩;have H3:=hid (h3.more (show n+m i+1+ci i<=n+m (i+1) by have:=HM.out;omega));have D3:=hid (D2.out.trans d3);clear h3 d3 D2 H2 dR;go_wp2_with fail;go_roundw;case rel=>refine⟨i+1,by omega,by go_num,?_,D3.out⟩;rw[HT.out];have:=H3.out;exact Zek
 case measure=>exact Zcs):p:=h
theorem ZaE(h:p:=by
 go_wp2_with fail;refine(dR.out W1 _ _ gb.out pg.out Ta3).mono ?_;rintro e w2 ⟨rfl,h2,d2⟩;have H2:=hid (h2.more (show n+m 0+ci 0<=n+m (0+1) by have:=HM.out;omega));have D2:=hid (gb.out.trans d2);clear h2 d2 pg gb dR;go_wp2_with fail;go_roundw;case rel=>refine⟨1,by omega,by go_num,?_,D2.out⟩;rw[HT.out];have:=H2.out;rwa [take_zero,show dV []=some [] from rfl,dD] at this
 case measure=>exact Zcs):p:=h
theorem ZaF(h:p:=by
 go_wp2_with fail;go_loopw [8] (λ u wr=>∃i:Nat,i<=k/\u=.int .i64 i/\eR B b (aq s (some (rX (ks.take i)))) (n+i) wr/\cF B b w wr) (λ u _=>k - (intOf u).toNat);case atStart=>exact⟨0,Nat.zero_le _,rfl,by simpa [rX,dD] using HH.out,.refl _⟩
 case round=>
  obtain⟨i,hi,rfl,hs,hd⟩:=hrel;have HS:=hid hs;have HD:=hid hd;clear hs hd;by_cases hlt:i < k
  ·obtain⟨x,hx⟩:∃x,ks[i]?=some x:=⟨_,getElem?_eq_getElem (by rw[HK.out];exact hlt)⟩;have hc:=Gh (HD.out.blk HG.out hgb Tab) hx;have hxs:=HL.out x (mem_of_getElem? hx);have HT:=hid (Gg hx);obtain⟨bad,l,h1,h2,h3⟩:=HS.out;have hw:=KZ B b bad l x wr h1 Taa HS.out.size;have H3:=hid h3;clear h1 h3 hx;go_wp2_with fail;refine hw.mono ?_;rintro e w1 ⟨rfl,h4,b4,k4⟩;have HR:=hid (show eR B b (aq s (some (rX (ks.take (i+1))))) (n+(i+1)) w1 from⟨bad,_,.inr h4,by rw[length_append,AH];omega,by
    rw[HT.out,<- Ge,<- aH,H3.out]
    cases bad <;> rfl⟩)
   have HE:=hid (HD.out.trans ⟨b4,k4⟩);clear h4 b4 k4 hw HS HD H3 hc;go_wp2_with fail;go_roundw;case rel=>exact⟨i+1,by omega,by go_num,HR.out,HE.out⟩
   case measure=>exact Zcs
  ·obtain rfl:i=k:=by omega
   rw[<- HK.out,take_length,HK.out] at HS;go_wp2_with fail;go_end0;exact⟨rfl,HS.out,HD.out⟩):p:=h
theorem ZaG(h:p:=by
 have Fo:∀(fn:Fn) (first cap:Array Value) (w:World),(Instr.makeFunc fn first cap).run Tryz.prog w=.ok (.func fn first cap) w:=λ _ _ _ _=>rfl
 exact Kar):p:=h
theorem zhQ.KcA(h:p:=by have hb1:=af.then nI.out wk;clear Dt x9 k0 m0 k1 m1 k2 m2 k3 m3 k4 m4 k5 m5 k6 m6 k7 m7 p2 p3 wk BO f0;exact ZbP):p:=h
theorem zf5.KbP(h:p:=by open zhQ in exact Zgo):p:=h
theorem ZaH(h:p:=by refine fo 29 wr.heap.size wr (Below.refl _ _) Tac Tac Tac Tac ?_;open zf5 in exact ZdZ):p:=h
theorem zhr.Kcp(h:p:=by
 unfold xB at*;go_enter Tryz.func163,Tryz.ntmps163;go_wp2_with (first
  |(go_at_call 77;refine hm.mono ?_;rintro e w1 ⟨rfl,d1⟩)
  |(go_at_call 163;refine(H ρ w1 d1.at_).mono ?_;rintro e w2 ⟨y,rfl,ht,d2⟩;unfold eb aU;have D:=(iJ.aF h hb).trans (d1.trans d2);have ku:=d2.blk (d1.blk HQ.out Taa) Taa;have hqs:=d2.size;have alw:=d1.size;have nh:=ku.alloc (.cells #[.int .u8 y.op,.int .u8 y.v.k,.int .i64 y.v.n,.string y.v.s,.string y.name,.int .i64 y.width,.slice y.A y.n y.c] 36);obtain⟨z0,z1,z2,z3,z4,z5,z6⟩:=iy nh;obtain⟨y0,y1,y2,y3,y4,y5,y6⟩:=eV nh;obtain⟨x0,x1,x2,x3,x4,x5,x6⟩:=eE (av.new w2 36 (aU y).toArray);unfold aU at x0 x1 x2 x3 x4 x5 x6))
 have HP:=iz nh y;have HR:=eE HP;unfold gX at HR;obtain⟨r0,r1,r2,r3,r4,r5,r6⟩:=HR;refine bodyPost_ret (v:=eb y) Zca rfl ?_
 ·exact Rx.put br (Nat.le_refl _) (D.later (aa w2 _)) ((ht.later (aa w2 _)).more Taa)):p:=h
theorem ZaI(h:p:=by open zhr in exact Zf6):p:=h
theorem ZaJ(h:p:=by
 obtain⟨hk2,hp⟩:=hb2;rw[hk2] at hn
 obtain⟨z0,rfl⟩:∃z0,ys=[z0]:=by
  match ys,hn with
  | [z0],_=>exact⟨z0,rfl⟩
 obtain⟨a0,rfl⟩:∃a0,l=[a0]:=by
  match l,hl with
  | [a0],_=>exact⟨a0,rfl⟩
 obtain⟨c0,rfl⟩:∃c0,cs=[c0]:=by
  match cs,hc with
  | [c0],_=>exact⟨c0,rfl⟩
 have x0:=hx 0 z0 a0 rfl rfl;rcases hA with h0 |⟨q,off,mg,kM,hcell⟩
 ·cases h0
 have A0:=wT hS kM hcell (i:=0) (z:=z0) rfl;have i0:=oO x0.2;rw[<- x0.1] at i0;exact Kas):p:=h
theorem zdS.KaY(h:p:=by go_wp2_with fail;exact Kat):p:=h
theorem zex.Kbb(h:p:=by have HH:=hid h;clear h;subst hk hA;have I0:=hid i0;have A0:=hid a0;clear i0 a0;open zdS in exact ZbA):p:=h
theorem ZaK(h:p:=by open zex in exact Zb7):p:=h
theorem ZaL(h:p:=by generalize w1.alloc _=W1 at*;generalize w1.heap.size=tb at*;obtain⟨u0,u1,u2,u3,v0,v1,v2,v3⟩:=aO GV.out;have hm:=bz ρ W1 l lg dp gb.out.at_ ⟨#[116,114,117,101]⟩;rw[show(⟨#[116,114,117,101]⟩:ByteArray).data.toList=eK from rfl,eo,cy eo] at hm;go_wp2_with fail;refine hm.mono ?_;clear hm;rintro e w2 ⟨rfl,d⟩;have eZ:=hid (gb.out.trans d);have ku:=hid (d.blk qF.out Taa);clear d gb qF GV u0 u1 u2 u3 v0 v1 v2 v3;generalize hW2:w2=W2 at*;clear hW2;have hm:=bz ρ W2 l lg dp eZ.out.at_ ⟨#[102,97,108,115,101]⟩;rw[show(⟨#[102,97,108,115,101]⟩:ByteArray).data.toList=eh from rfl,eM,cy eM] at hm;go_wp2_with fail;refine hm.mono ?_;clear hm;rintro e w3 ⟨rfl,d⟩;have kt:=hid (eZ.out.trans d);have nh:=hid (d.blk ku.out Taa);clear d eZ ku;generalize hW3:w3=W3 at*;clear hW3;have hm:=bz ρ W3 l lg dp kt.out.at_ ⟨#[110,117,108,108]⟩;rw[show(⟨#[110,117,108,108]⟩:ByteArray).data.toList=bT from rfl,jM,cy jM] at hm;go_wp2_with fail;refine hm.mono ?_;clear hm;rintro e w4 ⟨rfl,d⟩;have qh:=hid (kt.out.trans d);have Fy:=hid (d.blk nh.out Taa);clear d kt nh;generalize Jw:w4=W4 at*;clear Jw;have hm:=bz ρ W4 l lg dp qh.out.at_ ⟨#[40]⟩;exact Kau):p:=h
theorem ZaM(h:p:=by
 go_wp2_with fail;have Iy:=Iz.out;refine bodyPost_ret (v:=.tuple #[.agg #[.int .u8 0,.string ⟨#[]⟩,.int .i64 0,.int .i64 0],.int .i64 30]) ?_ rfl ?_
 ·simp[results,Tryz.results106,go_sem,z0,z1,z2,z3]
 ·rw[Iy];exact⟨rfl,(((EY.out.far (Nat.le_refl _) hne 0 _).far (Nat.le_refl _) hne 1 _ |>.far (Nat.le_refl _) hne 2 _ |>.far (Nat.le_refl _) hne 3 _))⟩):p:=h
theorem ZaN(h:p:=by rw[c4] at HV;clear c4;go_wp2_with fail;refine HV.out.mono ?_;rintro e w4 ⟨rfl,b4⟩;have H4:=hid (HH.out.later hsz b4);clear x0 x1 x2 x3 x4 x5 x6;obtain⟨x0,x1,x2,x3,x4,x5,x6⟩:=H4.out.x.cells;dsimp only at x0 x1 x2 x3 x4 x5 x6;clear b4;go_wp2_with fail;refine(MS.out _ _ kh.out H4.out).mono ?_;rintro e w5 ⟨rfl,h5⟩;go_wp2_with fail;go_meet;exact h5):p:=h
theorem zhs.Kcp(h:p:=by exact Kav):p:=h
theorem ZaO(h:p:=by open zhs in exact Zf6):p:=h
theorem ZaP(h:p:=by
 simp only[Dm,Bool.and_eq_true,beq_iff_eq,Option.isNone_iff_eq_none] at tA;obtain⟨⟨⟨⟨⟨⟨⟨⟨⟨⟨⟨⟨⟨⟨⟨⟨⟨⟨⟨⟨⟨⟨⟨⟨⟨⟨⟨⟨t0,s0⟩,t1⟩,s1⟩,t2⟩,s2⟩,t3⟩,s3⟩,t4⟩,s4⟩,t5⟩,s5⟩,s5'⟩,t6⟩,s6⟩,e0⟩,e1⟩,e2⟩,e3⟩,e4⟩,e5⟩,e6⟩,g0⟩,g1⟩,g2⟩,g3⟩,g4⟩,g5⟩,g6⟩:=tA;have Fa:qb < w0.heap.size:=(by rcases Nat.lt_or_ge qb w0.heap.size with h | h;exact h;exact absurd hcell (by unfold World.cell?;rw[Array.getElem?_eq_none h];simp))
 have yu:∀ {y w1 fc w},af w0 w1->Post y w1 fc->af fc w->w.cell? ⟨qb,k,none⟩=some lv/\cT f e size w base lv l/\w0.heap.size<=w.heap.size:=by
  intro y w1 fc w ha hb hc;have hg:=hpg _ _ _ hb;have z1:qb < w1.heap.size:=Nat.lt_of_lt_of_le Fa ha.size;have z2:qb < fc.heap.size:=Nat.lt_of_lt_of_le z1 hg.size;refine⟨?_,?_,Nat.le_trans ha.size (Nat.le_trans hg.size hc.size)⟩
  ·rw[hc.cell (p:=⟨qb,k,none⟩) z2,si hg (p:=⟨qb,k,none⟩) z1 (λ e=>hqg Ta8),ha.cell (p:=⟨qb,k,none⟩) Fa];exact hcell
  ·exact((hown.later ha).grown hg Dn).later hc
 exact Kaw):p:=h
theorem zim.KcP(h:p:=by
 obtain⟨WD,hWD⟩:∃WD:ByteArray,WD=(⟨#[68,82,79,80,32]⟩:ByteArray)++(⟨X.toArray⟩:ByteArray):=⟨_,rfl⟩;have Yf:=hid hWD
 have hWl:WD.size<=1000:=by
  rw[hWD,ByteArray.size_append];have e1:(⟨X.toArray⟩:ByteArray).size=X.length:=by show X.toArray.size=_;simp
  rw[e1];show 5+X.length<=1000;omega
 go_wp2_with fail;rw[<- hWD];clear hWD;refine(mP hE WD y.name w3 H3.out.st H3.out.hw hWl Tan Taa).mono ?_;rintro e w4 ⟨rfl,h2,d2⟩;have H4:=hid (H3.out.next hg0 hg1 h2 d2);clear h2 d2 H3 p0 x1;go_wp2_with fail;go_end0;refine⟨rfl,?_,H4.out.did⟩;have:=H4.out.st.more (show n+3<=n+(13*Tr.aG s.exprs+4*s.bg.length+3*s.rows.length+80) by omega);have hx:=HX.out;rw[HA.out.what] at hx;rw[<- hx,<- zt.out,HA.out.name.symm];rw[Yf.out] at this;exact Kax):p:=h
theorem ZaQ(h:p:=by rintro e w3 ⟨rfl,h2,d2⟩;have H3:=hid (H2.out.next hg0 hg1 h2 d2);clear h2 d2 H2 TT;open zim in exact Zg7):p:=h
theorem zhJ.Kcw(h:p:=by exact Kay):p:=h
theorem ZaR(h:p:=by have br:=h.od;have b2:=af.then (aa w (.cells #[ρ.ptr] 77)) (aa _ (ib {}));have hP:=(av.new w 77 #[ρ.ptr]).alloc (ib {});have hR:=av.new (w.alloc (.cells #[ρ.ptr] 77)) 34 cK;rw[World.size_alloc] at hR;have HS:=hid (show BM ρ w (w.heap.size+1) [w.heap.size] lg dp ((w.alloc (.cells #[ρ.ptr] 77)).alloc (ib {})) l from⟨bh.aF h b2,hR,Nat.le_succ _,λ p hp=>by simp at hp;subst hp;exact⟨Nat.le_refl _,by omega,hP⟩⟩);open zhJ in exact Zgi):p:=h
theorem ZaS(h:p:=by refine wpList_nil ?_;simp only[Act.put,Uac];have tu:=hid (mC.out.row cs);clear wy mC jN;exact Kaz):p:=h
theorem ZaT(h:p:=by
 go_wp2_with fail;refine(tO _ _ acc _ zz.out.buf hsz).mono ?_;rintro e w1 ⟨rfl,b1⟩;have hat:=zz.out.at_.under b1 Taa Taa;have Kv:=hid (zz.out.res.below b1 Taa);have jx:=hid hat;go_wp2_with fail;refine(oK s g at_ (k+1) 3 ⟨acc.toArray⟩ 0 0 _ jx.out.1).mono ?_;rintro e w2 ⟨rfl,qE⟩;obtain⟨z0,z1,z2,z3,y0,y1,y2,y3⟩:=aO (qE.other Kv.out hne);go_wp2_with fail;refine bodyPost_ret (v:=.tuple #[.agg #[.int .u8 3,.string ⟨acc.toArray⟩,.int .i64 0,.int .i64 at_],.int .i64 0]) ?_ rfl ?_
 ·simp[results,Tryz.results108,go_sem,z0,z1,z2,z3]
 ·rw[lV.out,HM.out,drop_at HB.out,HQ.out,tN Oc.out];refine⟨rfl,?_⟩;show At s g w (s.size - _) _;have e:s.size - (s.data.toList.drop (k+1)).length=k+1:=by rw[length_drop,HLEN.out];omega
  rw[e];exact(((jx.out.trans qE).far (Nat.le_refl _) hne 0 _).far (Nat.le_refl _) hne 1 _ |>.far (Nat.le_refl _) hne 2 _ |>.far (Nat.le_refl _) hne 3 _)):p:=h
theorem ZaU(h:p:=by intro ρ w3 hc hL hr;have h0:_=_:=hr.1;exact ae (w':=w3) (jW rfl h0 (av.later H0.out.q hL) Tryz.underlying34 (kD y)) ⟨af.refl _,rfl⟩):p:=h
theorem ZaV(h:p:=by
 obtain rfl:i=k:=by omega
 have e:os.take i=os:=take_of_length_le (Nat.le_of_eq HP.out);rw[e] at HS;go_wp2_with fail;go_end0;refine⟨rfl,?_,HD.out⟩;rw[Ye.out,<- aH];exact HS.out):p:=h
theorem ZaW(h:p:=by
 go_wp2
 all_goals
  go_ret;refine⟨?_,rfl⟩;first | rfl |(refine dv ?_;rw[Bool.eq_iff_iff];simp;omega)|(refine dv ?_;rw[Bool.eq_iff_iff];simp;done)):p:=h
theorem ZaX(h:p:=by
 obtain⟨t,r,pl,rv,hl,hlt,hsm,hpl,Ch,Bd,Cf,hp⟩:=h.mN;have br:=h.od;have hb0:=aa w (.cells dT 36);have eX:=iD ρ _ l lg dp (h.later hb0);rw[<- rv] at eX;have HQ:=hid (av.new w 36 dT);have HD:=hid (bh.aF h hb0);have HL:=hid hl;have tD:=h.left;have wq:r.length+1<=ρ.n:=by have:=tD.2;rw[hl] at this;simpa using this
 have Vb:=hid (show(l.length:Int)=(r.length:Int)+1 by rw[hl];rfl);have hsz:(w.alloc (.cells dT 36)).heap.size=w.heap.size+1:=by simp
 have hk:=hk t.w r hl;exact KaA):p:=h
theorem ZaY(h:p:=by unfold St.cost at hn ⊢;have KF:=gF s;have AQ:=hf.nodes;have hlt:=hst.lt;have hsz:=hst.size;obtain⟨tt,py⟩:∃tt,tt=cY s false false false false false false false false true:=⟨_,rfl⟩;have TT:=hid (λ W=>gD h hf hm false false false false false false false false true W);rw[<- py] at TT;unfold mK at TT;have zt:=hid py;exact KaB):p:=h
theorem ZaZ(h:p:=by have UH:w8.cell? ⟨g1,25,none⟩=some (.int .u8 y.dx.k):=H8.out.q.cell 25;have UI:w8.cell? ⟨g1,26,none⟩=some (.int .i64 y.dx.n):=H8.out.q.cell 26;have UJ:w8.cell? ⟨g1,27,none⟩=some (.string y.dx.s):=H8.out.q.cell 27;have p0:w8.cell? ⟨g0,0,none⟩=some (.pointer (some ⟨b,0,none⟩)):=H8.out.p.cell 0;go_wp2_with fail;refine(tW hE y.dx (by rw[HA.out.dx];exact HF.out.dx.1) (by rw[HA.out.dx];exact HF.out.dx.2) w8 H8.out.st H8.out.hw Taa).mono ?_;rintro e w9 ⟨rfl,h2,d2⟩;have H9:=hid (H8.out.next hg0 hg1 h2 d2);clear h2 d2 H8 p0 UH UI UJ;have p0:w9.cell? ⟨g0,0,none⟩=some (.pointer (some ⟨b,0,none⟩)):=H9.out.p.cell 0;go_wp2_with fail;refine(cH ⟨#[41]⟩ w9 H9.out.st Tab Taa).mono ?_;rintro e xg ⟨rfl,h2,d2⟩;have tz:=hid (H9.out.next hg0 hg1 h2 d2);clear h2 d2 H9 p0;go_wp2_with fail;go_end0;refine⟨rfl,?_,tz.out.did⟩;exact KaC):p:=h
theorem ziz.KcV(h:p:=by
 clear hm;intro e LH hp;rcases hp.cases with ⟨_,RT,v9,aC,rfl,rfl,d⟩|⟨m,au,rfl,hg⟩;case inr=>have HF:=hid (show dF l=.error m from HE.out.trans (ak (show must cx l11=.error m by rw[<- aB];exact au)));have HG:=hid HB.out.sa.did.grown;clear hp au;go_wp2_with fail;exact aj rfl (GP.err HF.out ⟨rfl,ai HG.out hg⟩)
 exact KaD):p:=h
theorem Za0(h:p:=by
 clear hX d HA;have HA:=fH;clear fH;unfold cd kL fN fZ at hc;try unfold fN
 go_upto_region 14 with fail;clear hc hf;generalize xg.setCell _ _=W12 at*;have hb:=aa W12 (.cells (aR [cx]) 9);have HB:=hid (HA.out.later hb);have lH:=HA.out.blk.lt;have hm:=aY ρ _ l11 _ _ HB.out.sa.did.at_ [cx] W12.heap.size 1 rfl (av.new W12 _ _) Taa Taa;open ziz in exact Zhm):p:=h
theorem Za1(h:p:=by intro W hW;obtain⟨yop,yv,Bf,ug,yA,yn,yc⟩:=y;have hn:yn=ys.length:=hn;subst hn;have HD:=hid hD;have HM:=hid hm;have HDL:=hid hd;have HA:=hid hA;clear hD hm hd hA;unfold eb aU;have HX:=av.new W 36 #[.int .u8 yop,.int .u8 yv.k,.int .i64 yv.n,.string yv.s,.string Bf,.int .i64 ug,.slice yA ys.length yc];have hb:=aa W (.cells #[.int .u8 yop,.int .u8 yv.k,.int .i64 yv.n,.string yv.s,.string Bf,.int .i64 ug,.slice yA ys.length yc] 36);exact KaE):p:=h
theorem Za2(h:p:=by
 clear Xb;go_wp2_with fail;refine(oh ly s at_ k g _ EY.out.1 hle hs).mono ?_;rintro e w' ⟨rfl,rfl⟩;rw[AG.out];go_wp2_with fail;refine(oK s g at_ k 2 ⟨#[]⟩ (gZ q) 0 _ EY.out.1).mono ?_;rintro e w2 ⟨rfl,hat⟩;clear z0 z1 z2 z3 y0 y1 y2 y3;obtain⟨z0,z1,z2,z3,y0,y1,y2,y3⟩:=aO (hat.other Kv.out hne);go_wp2_with fail;refine bodyPost_ret (v:=.tuple #[.agg #[.int .u8 2,.string ⟨#[]⟩,.int .i64 (gZ q),.int .i64 at_],.int .i64 0]) ?_ rfl ?_
 ·simp[results,Tryz.results106,go_sem,z0,z1,z2,z3]
 ·rw[Iz.out];refine⟨rfl,?_⟩;show At s g w (s.size - _) _;rw[HR.out];exact(((EY.out.trans hat).far (Nat.le_refl _) hne 0 _).far (Nat.le_refl _) hne 1 _ |>.far (Nat.le_refl _) hne 2 _ |>.far (Nat.le_refl _) hne 3 _)):p:=h
theorem Za3(h:p:=by
 refine(Gt (s.extract at_ k) _ (by rw[ByteArray.size_extract];omega)).mono ?_;rintro e w1 ⟨rfl,b1⟩;have HE:=hid (show(s.extract at_ k).data.toList=(s.data.toList.drop at_).takeWhile cq by rw[<- AG.out];exact lz cq s at_);obtain⟨z0,z1,z2,z3,y0,y1,y2,y3⟩:=aO (HZ.out.later b1);rw[HE.out];go_wp2_with fail;refine bodyPost_ret (v:=.tuple #[.agg #[.int .u8 1,.string ⟨(((s.data.toList.drop at_).takeWhile cq).map kN).toArray⟩,.int .i64 0,.int .i64 at_],.int .i64 k,.int .i64 0]) Zb5 rfl ?_
 ·rw[lV.out,AG.out,if_pos h32];unfold BB;simp only;rw[qT cq s Taa,AG.out];exact⟨rfl,yj (bb.trans (b1.mono bb.size)) (Nat.le_refl _) _ _ _ _⟩):p:=h
theorem zgw.KbY(h:p:=by exact KaF):p:=h
theorem zeS.Kbh(h:p:=by obtain⟨x0,x1,x2,x3,x4,x5,x6,x7⟩:=p8 HB.out;have p0:=HP.out.cell 0;simp only[getElem?_toArray,getElem?_cons_zero] at p0;go_wp2_with fail;refine(HX.out W1 s n HS.out (hw.trans HD.out.below) Taa).mono ?_;open zgw in exact Zeg):p:=h
theorem Za4(h:p:=by open zeS in exact Zck):p:=h
theorem Za5(h:p:=by go_wp2_with fail;refine(MS.out _ kh.out).mono ?_;rintro e w5 ⟨rfl,h5,d5⟩;go_wp2_with fail;go_meet;exact⟨h5,d5⟩):p:=h
theorem Za6(h:p:=by
 clear HC;simp only at hk hv;subst hk;unfold cA at HS HT FK;unfold cA;go_upto_region 3 with fail
 change Code.wp _ _ _ _ (w1.alloc (.cells #[.int .u8 ((1:Nat):Int),.string ⟨s9.toArray⟩,.int .i64 n9,.int .i64 p9] 81));generalize hb:w1.heap.size=b at*;generalize hW:(World.alloc w1 _)=W1 at*;clear hW hb hs1 qg;have y0:W1.cell? ⟨b,0,none⟩=some (.int .u8 ((1:Nat):Int)):=(HT.out.cell 0).trans rfl;have y1:W1.cell? ⟨b,1,none⟩=some (.string ⟨s9.toArray⟩):=(HT.out.cell 1).trans rfl;go_upto_region 4 with (first
  |(refine fI Tryz.underlying122 Tryz.underlying9 rfl _ _ rfl W0.heap.size rfl (⟨s9.toArray⟩:ByteArray) rfl (l:=DZ) FK.out (z:=.nilFunc) Tryz.zeroValue121 ?_
    rw[show(⟨s9.toArray⟩:ByteArray).data.toList=s9 by simp]))
 clear FK HT;exact KaG):p:=h
theorem Za7(h:p:=by simp only[execOp,resolve,invoke,builtin,Sem.run_bind,Sem.run_pure,Result.andThen_ok,map_toArray,map_cons,map_nil,rQ,oH,tE]):p:=h
theorem zgl.KbV(h:p:=by
 obtain⟨G2,ajz,e7,e8⟩:=k5 _ r0;rw[hc] at r1;injection r1 with r1;have hown:a.ownBlock=some G2:=by rw[e7];rfl
 rw[ux] at hB;rw[ux] at e6;have e6:cT aU 36 7 w γ.B a (ys++ [zeroE]):=e6;obtain⟨cur,E5⟩:=(e6.lt hown).2.2;obtain⟨G3,c3,ki,_,_,Cw⟩:=e6.cell (f:=aU) (λ _=>rfl) (k:=acc.length) (x:=zeroE) (by rw[<- e3];simp);have hG3:G3=G2:=by rw[ki] at hown;simp[Value.ownBlock] at hown;exact hown
 subst hG3;subst e2;have hrun:=hst ρ w G3 y e8 r1.symm (λ j u hu=>Cw j u (by have:(aU zeroE).toArray[j]?=some u:=hu;simpa using this)) (λ i=>av.frozen E5 i);unfold zm;rw[hrun];exact KaH):p:=h
theorem Za8(h:p:=by open zgl in exact Zd7):p:=h
theorem zeJ.Kbf(h:p:=by clear h2 d2 H1 TT x0;have x1:w2.cell? ⟨g1,1,none⟩=some (.string y.name):=H2.out.q.cell 1;have p0:w2.cell? ⟨g0,0,none⟩=some (.pointer (some ⟨b,0,none⟩)):=H2.out.p.cell 0;go_wp2_with fail;exact KaI):p:=h
theorem Za9(h:p:=by open zeJ in exact Zcf):p:=h
theorem zhg.Kck(h:p:=by
 have k0:=λ q:Ext wr.heap.size wr=>(q.h.cell (p:=⟨b,off+i*8,none⟩) rI).trans (hcell 0 (.int .u8 x.1.op) rfl)
 have k1:=λ q:Ext wr.heap.size wr=>(q.h.cell (p:=⟨b,off+i*8+1,none⟩) rI).trans (hcell 1 (.int .u8 x.1.v.k) rfl)
 have k2:=λ q:Ext wr.heap.size wr=>(q.h.cell (p:=⟨b,off+i*8+2,none⟩) rI).trans (hcell 2 (.int .i64 x.1.v.n) rfl)
 have k3:=λ q:Ext wr.heap.size wr=>(q.h.cell (p:=⟨b,off+i*8+3,none⟩) rI).trans (hcell 3 (.string x.1.v.s) rfl)
 have k4:=λ q:Ext wr.heap.size wr=>(q.h.cell (p:=⟨b,off+i*8+4,none⟩) rI).trans (hcell 4 (.string x.1.name) rfl)
 have k5:=λ q:Ext wr.heap.size wr=>(q.h.cell (p:=⟨b,off+i*8+5,none⟩) rI).trans (hcell 5 (.int .i64 x.1.width) rfl)
 have k6:=λ q:Ext wr.heap.size wr=>(q.h.cell (p:=⟨b,off+i*8+6,none⟩) rI).trans (hcell 6 (.slice x.1.A x.1.n x.1.c) rfl)
 exact KaJ):p:=h
theorem zeM.Kbg(h:p:=by open zhg in exact Zfg):p:=h
theorem Zba(h:p:=by open zeM in exact Zch):p:=h
theorem Zbb(h:p:=by
 clear hk rv hpl Ch hp hlt h hb0 hl tD;unfold dT at eX hsz;go_enter Tryz.func241,Tryz.ntmps241;go_wp2_with fail;refine eX.mono ?_;clear eX;rintro e w1 ⟨rfl,b1⟩;have hb1:=aa w1 (.cells (cA t) 81);have GV:=hid (av.new w1 81 (cA t));have gb:=hid ((HD.out.later b1).later hb1);have qF:=hid ((HQ.out.later b1).later hb1);have htq:w.heap.size+1<=w1.heap.size:=by have:=b1.size;omega
 clear b1 hb1 HD HQ hsz;unfold cA at*;go_upto_region 2 with fail;exact KaK):p:=h
theorem Zbc(h:p:=by
 go_enter_defers Tryz.func14,Tryz.ntmps14;go_upto_region 1 with fail;change Code.wp _ _ _ _ (((w.alloc (ib {})).alloc (.cells #[.int .i64 0] 3)).alloc (.cells #[.int .i64 0] 40));have hb3:Below w.heap.size w (((w.alloc (ib {})).alloc (.cells #[.int .i64 0] 3)).alloc (.cells #[.int .i64 0] 40)):=af.then (af.then (aa w _) (aa _ _)) (aa _ _)
 have hC:oD (((w.alloc (ib {})).alloc (.cells #[.int .i64 0] 3)).alloc (.cells #[.int .i64 0] 40)) w.heap.size cK (.int .i64 0) (.int .i64 0):=by
  refine⟨((av.new w _ _).alloc _).alloc _,?_,?_⟩
  ·have:=(av.new (w.alloc (ib {})) 3 #[.int .i64 0]).alloc (.cells #[.int .i64 0] 40);rwa [World.size_alloc] at this
  ·have:=av.new ((w.alloc (ib {})).alloc (.cells #[.int .i64 0] 3)) 40 #[.int .i64 0];rwa [World.size_alloc,World.size_alloc] at this
 generalize hW:World.alloc _ _=W0 at*;clear hW;exact KaL):p:=h
theorem zfz.KbB(h:p:=by have D2:=hid (gb.out.trans d2);have x0:=(d2.blk HX.out my Tab).cell 0;have x1:=(d2.blk HX.out my Tab).cell 1;exact KaM):p:=h
theorem Zbd(h:p:=by open zfz in exact Zdd):p:=h
theorem zfQ.KbI(h:p:=by simp only[Nat.add_zero] at k0;clear hx hdd hcell hc;subst mg;go_wp2_with fail;exact KaN):p:=h
theorem Zbe(h:p:=by
 obtain⟨x,hx⟩:∃x,ys[i]?=some x:=⟨_,getElem?_eq_getElem hlt⟩;obtain⟨d,hdd⟩:∃d,ds[i]?=some d:=⟨_,getElem?_eq_getElem (by rw[HDL.out];exact hlt)⟩;have hDx:=HD.out i x d hx hdd;have hdm:=yw (mem_of_getElem? hdd);have HMT:=hid (zQ hdd);have hwr:Below w.heap.size w wr:=hW.trans ((af.then nI.out iV).mono hW.size);rcases HA.out with h0 |⟨b,off,mg,kM,hc⟩
 ·subst h0;simp at hlt
 have hcell:=λ j u hu=>(hwr.cell (p:=⟨b,off+i*7+j,none⟩) (hS b kM)).trans (hc i x j u hx hu)
 open zfQ in exact Zdr):p:=h
theorem Zbf(h:p:=by have FN:=hid (hW.trans (hB.mono hW.size));generalize hQX:W.heap.size=QX at*;generalize hQZ:QX+1=QZ at*;generalize hW1:((W.alloc _).alloc _)=W1 at*;have HX:=hid hX;have HZ:=hid hZ;have HB:=hid hB;have UM:=hid hQX;clear hX hZ hB hQX hQZ hW1;go_wp2_with fail;refine(HWH.out _ FN.out).mono ?_;rintro e V1 ⟨rfl,b1⟩;have hb1:=b1;replace x0:=(b1.cell (ax x0)).trans x0;replace z0:=(b1.cell (ax z0)).trans z0;replace x1:=(b1.cell (ax x1)).trans x1;replace z1:=(b1.cell (ax z1)).trans z1;replace x2:=(b1.cell (ax x2)).trans x2;replace z2:=(b1.cell (ax z2)).trans z2;replace x3:=(b1.cell (ax x3)).trans x3;replace z3:=(b1.cell (ax z3)).trans z3;replace x4:=(b1.cell (ax x4)).trans x4;replace z4:=(b1.cell (ax z4)).trans z4;replace x5:=(b1.cell (ax x5)).trans x5;replace z5:=(b1.cell (ax z5)).trans z5;replace x6:=(b1.cell (ax x6)).trans x6;replace z6:=(b1.cell (ax z6)).trans z6;replace x7:=(b1.cell (ax x7)).trans x7;replace z7:=(b1.cell (ax z7)).trans z7;exact KaO):p:=h
theorem Zbg(h:p:=by
 have m0:=λ q:Ext wr.heap.size wr=>(q.h.cell (p:=⟨b2,fL+i*8,none⟩) iI).trans (cr 0 (.int .u8 u.1.op) rfl)
 have m1:=λ q:Ext wr.heap.size wr=>(q.h.cell (p:=⟨b2,fL+i*8+1,none⟩) iI).trans (cr 1 (.int .u8 u.1.v.k) rfl)
 have m2:=λ q:Ext wr.heap.size wr=>(q.h.cell (p:=⟨b2,fL+i*8+2,none⟩) iI).trans (cr 2 (.int .i64 u.1.v.n) rfl)
 have m3:=λ q:Ext wr.heap.size wr=>(q.h.cell (p:=⟨b2,fL+i*8+3,none⟩) iI).trans (cr 3 (.string u.1.v.s) rfl)
 have m4:=λ q:Ext wr.heap.size wr=>(q.h.cell (p:=⟨b2,fL+i*8+4,none⟩) iI).trans (cr 4 (.string u.1.name) rfl)
 have m5:=λ q:Ext wr.heap.size wr=>(q.h.cell (p:=⟨b2,fL+i*8+5,none⟩) iI).trans (cr 5 (.int .i64 u.1.width) rfl)
 have m6:=λ q:Ext wr.heap.size wr=>(q.h.cell (p:=⟨b2,fL+i*8+6,none⟩) iI).trans (cr 6 (.slice u.1.A u.1.n u.1.c) rfl)
 exact KaP):p:=h
theorem Zbh(h:p:=by
 clear hc hf FK;generalize wm.setCell _ _=WM at*;have hb:=aa WM (.cells (aR [fg]) 9);have HB:=hid (HA.out.later hb);have lH:=HA.out.blk.lt;have hm:=aY ρ _ l6 _ _ HB.out.sa.did.at_ [fg] WM.heap.size 1 rfl (av.new WM _ _) Taa Taa;clear hb HA;unfold aR strOf at hm HB;simp only[map_cons,map_nil] at hm HB;rw[show fg.toArray= #[97,102,116,101,114] from rfl] at hm HB;go_wp2_with fail;refine hm.mono ?_;clear hm;intro e w8 hp;rcases hp.cases with ⟨_,l9,v9,aC,rfl,rfl,d⟩|⟨m,au,rfl,hg⟩;case inr=>have HF:=hid (show dF l=.error m from HE.out.trans (ak (show must fg l6=.error m by rw[<- aB];exact au)));have HG:=hid HB.out.sa.did.grown;clear hp au;go_wp2_with fail;exact aj rfl (GP.err HF.out ⟨rfl,ai HG.out hg⟩)
 exact KaQ):p:=h
theorem Zbi(h:p:=by intro ρ w3 hc hL hr;have h0:_=_:=hr.1;have h1:_=_:=hr.2.1;have e1:=hc.func 37;refine dU (f:=37) (args:= #[.agg (cd y).toArray,.agg (cd (eW y false true false false false false false false false)).toArray]) (w':=w3) Tar ?_;exact Zb6):p:=h
theorem Zbj(h:p:=by have Bn:=hid (show oD (w7.setRow q z0) q z0 (.int .i64 0) (.int .i64 0)from⟨NJ.out.st.row z0,NJ.out.at_.ig Taa z0,NJ.out.er.ig Taa z0⟩);have HB8:=hid (UX.out.trans (aQ (cP w7 q z0) Taa (Nat.le_refl _)));have HS8:=hid (show w7.heap.size=(w7.setRow q z0).heap.size by rw[size_setRow]);have Fb:=hid (St.at_.keep (iZ w7 (show q < W3.heap.size by omega) z0) HA7.out);generalize w7.setRow q z0=W8 at*;have e1:=Bn.out.at_.cell 0;have e2:=Bn.out.er.cell 0;simp only[getElem?_toArray,getElem?_cons_zero] at e1 e2;have f1:=Bn.out.at_.frozen 0;have f2:=Bn.out.er.frozen 0;simp only[Act.put];go_wp2_with fail;have g1:W8.grownBy (W8.setCell ⟨q+1,0,none⟩ (.int .i64 0)) (some (q+1)):=bE (aD (Below.refl _ _)) 0 _;exact KaR):p:=h
theorem zih.KcM(h:p:=by exact KaS):p:=h
theorem zfR.KbI(h:p:=by have k7:=hcell 7 _ rfl;open zih in exact ZgS):p:=h
theorem Zbk(h:p:=by
 have hcell:=λ j u hu=>(hwr.cell (p:=⟨q,off+i*8+j,none⟩) (hS q kM)).trans (hc i z j u hz hu)
 open zfR in exact Zdr):p:=h
theorem Zbl(h:p:=by
 refine tJ aC hz 0 zs rfl listed a w I.len ?_ hK;intro i hi;constructor
 ·intro hl;rcases Nat.lt_or_ge i l.length with h' | h'
  ·omega
  ·rw[I.tail i h'] at hl;cases hl
 ·intro hl;exact hall i Taa):p:=h
theorem Zbm(h:p:=by rintro e w2 ⟨rfl,h3,d3⟩;have H2:=hid (H1.out.next hx hf h3 d3);clear h3 d3 H1;obtain⟨x0,x1,x2,x3,x4,x5,x6⟩:=H2.out.x.cells;dsimp only at x0 x1 x2 x3 x4 x5 x6;have hw2:=hw.trans H2.out.did.below;obtain⟨k0,k1,k2,k3,k4,k5,k6⟩:=A0.out.later hw2;go_wp2_with fail;refine(I0.out w2 _ _ H2.out.st hw2 Taa).mono ?_;rintro e w3 ⟨rfl,h2,d2⟩;have H3:=hid (H2.out.next hx hf h2 d2);clear h2 d2 H2 hw2 k0 k1 k2 k3 k4 k5 k6 x0 x1 x2 x3 x4 x5 x6;go_wp2_with fail;go_end0;refine⟨rfl,?_,H3.out.did⟩;have:=H3.out.st.more (show n+1+c<=n+c+1 by omega);exact Zfc):p:=h
theorem Zbn(h:p:=by obtain⟨v,A⟩:=hs;have p0:=A.ptr;have HA:=hid A;have HD:=hid hd;have Y3:=hid (show∀G,v.ownBlock=some G->G < W.heap.size from λ G hG=>(A.ge hG).2);have Y4:=A.sz;have br:=F.gg;have hq0:=F.q0;have hqB:=F.qB;have WX:=F.pq;have hp0:=F.p0;have hpB:=F.pB;clear Vp;exact KaT):p:=h
theorem Zbo(h:p:=by
 clear d HS ru hcs;go_upto_region 3 with (first
  |(refine iF rfl 34 _ rfl (cs:=cs) ?hv ?_;rotate_left)
  |(refine wpList_store_row rfl 34 (.tmp 3) (.tmp 9) rfl w3.heap.size cs rfl rfl 34 cK (av.new w3 34 cK) dS.out mF.out jN.out ?_
    rw[iG]))
 case hv=>exact Cm.out
 generalize hb:w3.heap.size=b at*;generalize hW:(World.alloc _ _)=WB at*;clear hW hb xh Cm jN mF dS;exact KaU):p:=h
theorem Zbp(h:p:=by
 rw[<- hcs];have b1:=aa w (.cells #[.pointer (some ⟨b,0,none⟩)] 87);have b2:=aa (w.alloc (.cells #[.pointer (some ⟨b,0,none⟩)] 87)) (.cells cs 34);have b3:=af.then b1 b2;have hy:=av.new (w.alloc (.cells #[.pointer (some ⟨b,0,none⟩)] 87)) 34 cs;rw[World.size_alloc] at hy;have hP:PW w0 b s0 n w ((w.alloc (.cells #[.pointer (some ⟨b,0,none⟩)] 87)).alloc (.cells cs 34)) w.heap.size (w.heap.size+1) y:=⟨(av.new w _ _).alloc _,by rw[<- hcs];exact hy,hst.later b3,cF.aF b3 hsz,hw.trans (b3.mono hw.size)⟩;have H0:=hid hP;have dS:=hid hw.size;have hg0:w.heap.size≠b:=by omega
 have hg1:w.heap.size+1≠b:=by omega
 clear h hf hst hw b1 b2 b3 hy hP hcs;exact KaV):p:=h
theorem Zbq(h:p:=by
 intro vs w hl hG;have YK:=Dp _ _ hG
 match vs,hl with
 | [a,s,v],_=>obtain⟨y,w1,fc,w2,ha,h2,h3,h4,h5,h6,h7,h8⟩:=hG;simp only[dr,e0,e1,e2,e3,e4,e5,e6];intro a0' p0 a1 p1 a2 p2 a3 p3 a4 p4 a5 p5 a6 p6;have z0:a0'=.pointer (some ⟨qb,k,none⟩):=p0;have z1:a1=lv:=p1;have z2:a2=ptr:=p2;have z3:some a=some a3:=p3;have z4:some s=some a4:=p4;have z5:some v=some a5:=p5;have z6:a6=.pointer (some ⟨qb,k,none⟩):=p6;injection z3 with z3;injection z4 with z4;injection z5 with z5;rw[z0,z1,z2,<- z3,<- z4,<- z5,z6,ha];exact uf y s v w1 fc w2 w h2 h3 h4 h5 h6 h7 h8 YK):p:=h
theorem Zbr(h:p:=by exact Zf4):p:=h
theorem Zbs(h:p:=by exact⟨0,Nat.zero_le _,rfl,by rw[take_zero];show eR _ _ (aq _ (some [])) _ _;rw[dD,m0];exact H1.out,D1.out⟩):p:=h
theorem Zbt(h:p:=by
 match l,hl with
 | [],_ | _::_::_,_=>rfl
 | [x],hl=>exact ZeF):p:=h
theorem Zbu(h:p:=by
 go_enter Tryz.func89,Tryz.ntmps89;go_wp2
 all_goals
  go_ret;refine⟨?_,by go_grown⟩;simp_all):p:=h
theorem Zbv(h:p:=by go_wp2_with fail;refine HK.out _ _ (HO.out _ _ ⟨rfl,rfl,rfl⟩ H2.out)):p:=h
theorem Zbw(h:p:=by clear HA HX hcs HE;refine wp_region_lit ?_;refine wpList_load_row rfl 34 (.tmp 3) rfl b rfl 34 cs (0,0) _ wy.out Tryz.underlying34 rfl dS.out ?_;exact KaW):p:=h
theorem Zbx(h:p:=by
 rw[h];have ix0:∀u:World,(Instr.index 188 (.agg #[.string ⟨#[70,65,76,83,69]⟩,.string ⟨#[84,82,85,69]⟩]) (.int .i64 0)).run Tryz.prog u=.ok (.string ⟨#[70,65,76,83,69]⟩) u:=λ u=>by kernel_rfl
 have ix1:∀u:World,(Instr.index 188 (.agg #[.string ⟨#[70,65,76,83,69]⟩,.string ⟨#[84,82,85,69]⟩]) (.int .i64 1)).run Tryz.prog u=.ok (.string ⟨#[84,82,85,69]⟩) u:=λ u=>by kernel_rfl
 go_enter Tryz.func168,Tryz.ntmps168;exact ZcS):p:=h
theorem Zby(h:p:=by
 have HE:=hid (show(s.extract at_ k).data.toList=(s.data.toList.drop at_).takeWhile aL by rw[<- AG.out];exact lz aL s at_);have hx1:0 <(s.extract at_ k).size:=by have h1:=ala.out;rw[<- HE.out] at h1;simpa only[ByteArray.size_data,Array.length_toList] using h1
 have hx2:(s.extract at_ k).size<=4294967280:=by rw[ByteArray.size_extract];omega
 have HN:=hid (Ba (s.extract at_ k) W (by rw[HE.out];exact BQ _) hx1 hx2);have Rc:=hid (show(s.data.toList.drop at_).dropWhile aL=s.data.toList.drop k by rw[<- nw,AG.out]);clear hx1 hx2;obtain⟨z0,z1,z2,z3,y0,y1,y2,y3⟩:=aO HZ.out;exact KaX):p:=h
theorem Zbz(h:p:=by go_wp2_with fail;go_end0;refine⟨rfl,?_,H3.out.did⟩;have:=H3.out.st.more (show n+(13*Tr.aG s.query.exprs+20)<=n+(13*Tr.aG s.exprs+4*s.bg.length+3*s.rows.length+80) by omega);rw[OB];exact Zb8):p:=h
theorem ZbA(h:p:=by obtain⟨x0,x1,x2,x3,x4,x5,x6⟩:=HH.out.x.cells;dsimp only at x0 x1 x2 x3 x4 x5 x6;generalize hQ:bodyPost Tryz.prog Tryz.f60 _=Q;simp only[tx,jq,Tryz.f60,Option.getD_some];subst hQ;exact KaY):p:=h
theorem ZbB(h:p:=by exact ZeP):p:=h
theorem ZbC(h:p:=by
 unfold xB at*;unfold bw.ptr;go_enter Tryz.func163,Tryz.ntmps163;go_wp2_with (first
  |(go_at_call 163;refine(H1 ρ _ h0).mono ?_;rintro e w2 ⟨y,rfl,ht,d2⟩;unfold eb aU))
 have hA:Xi ρ w w.heap.size w2.heap.size (w2.alloc (Gw y)) _ t y:=
  ⟨((iJ.aF h hb).trans d2).later (aa _ _),av.new w2 _ _,(d2.blk HQ.out Taa).alloc _,Tr.at_.keep (zC _ (by rw[hsz];exact Nat.le_refl _)) _ _ ht⟩
 have Kz:w.heap.size+1<=w2.heap.size:=by have:=d2.size;omega
 unfold Gw aU at hA;generalize w2.alloc _=W at*;generalize w2.heap.size=qx at*;have A:=hA;clear hA ht d2 h0 hb HQ;exact KaZ):p:=h
theorem ZbD(h:p:=by intro ρ w3 hc hL hr;intro hg;have hg:ρ (.tmp 50)=.bool false:=hg;exact Ze9):p:=h
theorem ZbE(h:p:=by obtain⟨kind,name,cs,time,every,space,parts,query,what,cM,a,b,rows,bF,aS,aP,dx⟩:=s;have l0:=no li.c;have l1:=no li.e;have l2:=no li.w;have l3:=no li.j;exact Ka0):p:=h
theorem ZbF(h:p:=by clear hh;go_wp2_with fail;refine hm.mono ?_;clear hm;rintro e w4 ⟨rfl,d4⟩;have hb4:=aa w4 (.cells (aR [bT]) 9);have rO:=hid ((nK.out.go d4 Taa Taa).later hb4);have hw4:ρ.g < w4.heap.size:=(nK.out.go d4 Taa Taa).did.lt;clear nK d4 hb4;have hm:=aY ρ _ _ lg dp rO.out.did.at_ [bT] w4.heap.size 1 rfl (av.new w4 _ _) Taa Taa;unfold aR strOf at hm;simp only[map_cons,map_nil] at hm;have hwn:bT.toArray= #[110,117,108,108]:=rfl;rw[hwn] at hm;go_wp2_with fail;refine hm.mono ?_;clear hm;intro e w5 hp;exact Ka1):p:=h
theorem zhG.Kcv(h:p:=by refine(I0.out w1 _ _ H1.out.st BX Taa).mono ?_;rintro e w2 ⟨rfl,h2,d2⟩;have H2:=hid (H1.out.next hx hf h2 d2);clear h2 d2 H1 BX k0 k1 k2 k3 k4 k5 k6 x0 x1 x2 x3 x4 x5 x6;go_wp2_with fail;exact Ka2):p:=h
theorem zfC.KbC(h:p:=by open zhG in exact Zgf):p:=h
theorem ZbG(h:p:=by open zfC in exact Zdh):p:=h
theorem ZbH(h:p:=by
 clear nJ hk;have p0:oQ.cell? ⟨g0,0,none⟩=some (.pointer (some ⟨b,0,none⟩)):=H0.out.p.cell 0;go_wp2_with (first
  |(refine wpList_load_row rfl 34 (.tmp 3) rfl g1 rfl 34 (cd y).toArray (0,0) _ H0.out.q Tryz.underlying34 rfl (kD y) ?_))
 refine(TB.out oQ H0.out.st H0.out.hw).mono ?_;rintro e w1 ⟨rfl,h2,d2⟩;have H1:=hid (H0.out.next hg0 hg1 h2 d2);clear h2 d2 H0 x0 p0;go_wp2_with fail;go_end0;exact⟨rfl,H1.out.st,H1.out.did⟩):p:=h
theorem ZbI(h:p:=by
 go_wp2_with fail;refine bodyPost_ret (v:=.tuple #[.agg #[.int .u8 3,.string ⟨acc.toArray⟩,.int .i64 0,.int .i64 at_],.int .i64 ((k:Int)+1),.int .i64 0]) Zb5 rfl ?_
 ·rw[lV.out,HM.out,drop_at HB.out,HQ.out,tN Oc.out];unfold BB;simp only;have e:s.size - (s.data.toList.drop (k+1)).length=k+1:=by rw[length_drop,HLEN.out];omega
  rw[e];exact Zd5):p:=h
theorem ZbJ(h:p:=by exact bodyPost_ret (v:=.agg cs) (results_cell_row Tryz.results67 _ _ (w.heap.size+1) 34 cs (0,0) _ rfl tu.out Tryz.underlying34 rfl dS.out) rfl tX.out):p:=h
theorem ZbK(h:p:=by simp only[Result.andThen];rw[Oper.upon_value];unfold dI;have H3:=hid (H2.out.later (by rw[jJ.out];exact dS.out) kg);clear hM kg hx0 X0 hle H2;obtain⟨w3,BX⟩:∃x,x=wm:=⟨_,rfl⟩;subst BX;go_wp2_with fail;exact Ka3):p:=h
theorem ZbL(h:p:=by
 cases hp:bJ v name width
 ·simp
 ·rw[Bool.and_true,decide_eq_false_iff_not];intro e;exact hb2 ⟨by omega,hp⟩):p:=h
theorem ZbM(h:p:=by intro ρ w3 hc hL hr;exact Zaf):p:=h
theorem ZbN(h:p:=by
 have hv0:∀G,v.ownBlock=some G->G < w0.heap.size:=λ G hG=>(A.ge hG).2
 have hB0:=A.sz
 have dfr:∀(ls:List Oper) (k:Nat) (V:Nat->World->Value->Prop) (K:Act->World->Prop) (a:Act) (w:World),(∀a':Act,a'.defers=a.defers->K a' w)->dr V K ls k a w:=by
  intro ls
  induction ls with
  | nil=>intro k V K a w h;exact h a rfl
  | cons o ls ih=>
    intro k V K a w h;unfold dr
    cases o.dst with
    | none=>exact ih _ _ _ _ _ h
    | some d=>exact λ x _=>ih _ _ _ _ _ λ a' ha'=>h a' (ha'.trans rfl)
 exact Ka4):p:=h
theorem ZbO(h:p:=by
 intro vs w h
 match vs,h with
 | [],h=>rw[af.cell h (p:=⟨qb,k,none⟩) Fa];exact hcell
 | [a],⟨y,w1,fc,_,h2,h3,h4⟩=>exact(yu h2 h3 h4).1
 | [a,s],⟨y,w1,fc,_,_,_,h2,h3,h4,_⟩=>exact(yu h2 h3 h4).1
 | [a,s,v],⟨y,w1,fc,w2,_,h2,h3,h4,_,h6,_,_⟩=>obtain⟨k1,_,k3⟩:=yu h2 h3 h4;rw[si h6 (p:=⟨qb,k,none⟩) (Nat.lt_of_lt_of_le Fa k3) (λ e=>hlq e.symm)];exact k1
 | _::_::_::_::_,h=>exact h.elim):p:=h
theorem ZbP(h:p:=by
 go_wp2_with fail;go_roundw;case rel=>exact⟨i+1,by omega,by go_num,hb1⟩
 case measure=>exact Zcs):p:=h
theorem ZbQ(h:p:=by
 intro ρ w vs hc hG hr;rw[t4] at hr;have r0:=hr.1;simp only[s4] at r0;refine⟨g4,?_⟩;show vs.length=1->_;intro hl
 match vs,hl with
 | [a],_=>have r0:some a=some (ρ (.tmp d3)):=r0;injection r0 with r0;obtain⟨y,w1,fc,ha,h2,h3,h4⟩:=hG;refine ae (hbs ρ w y (r0.symm.trans ha)) ?_;exact⟨y,w1,fc,w.heap.size,ha,rfl,h2,h3,h4.trans ((Below.refl _ _).alloc (Nat.le_refl _) _),av.new w e _⟩):p:=h
theorem ZbR(h:p:=by intro ρ w3 hc hL hr;have h0:_=_:=hr.1;have h1:_=_:=hr.2.1;exact ae (w':=w3) (by simp[go_sem,hc.const,h0,h1];done) ⟨af.refl _,rfl⟩):p:=h
theorem ZbS(h:p:=by simp only[yF,Bool.and_eq_true,beq_iff_eq,Option.isNone_iff_eq_none] at tA;obtain⟨⟨⟨⟨⟨⟨⟨⟨⟨⟨⟨⟨⟨⟨⟨⟨⟨⟨⟨⟨⟨⟨⟨⟨⟨⟨⟨⟨⟨⟨⟨⟨⟨⟨⟨⟨⟨⟨⟨⟨⟨⟨t0,uq⟩,t1⟩,ur⟩,t2⟩,uu⟩,agA⟩,t3⟩,uv⟩,t4⟩,DK⟩,t5⟩,JI⟩,t6⟩,BL⟩,t7⟩,JJ⟩,t8⟩,Mg⟩,Mh⟩,t9⟩,ZV⟩,amm⟩,f0⟩,f1⟩,f2⟩,f3⟩,f4⟩,f5⟩,f6⟩,f7⟩,f8⟩,f9⟩,g0⟩,g1⟩,g2⟩,g3⟩,g4⟩,g5⟩,g6⟩,g7⟩,g8⟩,g9⟩:=tA;exact Ka5):p:=h
theorem ZbT(h:p:=by
 go_roundw;case rel=>exact⟨i+1,hlt,by go_num,by(first | rw[Y1.out] | rw[<- map_take,Y1.out]);rw[<- append_assoc,UT.out];exact Y2.out,HB'.out⟩
 case measure=>exact Zcs):p:=h
theorem ZbU(h:p:=by exact fin TaF Tau Tau TaQ TaW):p:=h
theorem ZbV(h:p:=by
 have HA:=hid (HB.out.go br d);clear hp aC d HB HE lH;have HE:=cf;clear cf;go_upto_region 15 with fail;go_wp2_with fail;refine(ey ρ LH RT _ _ HA.out.sa.did.at_).mono ?_;intro e w15 hp;rcases hp.cases with ⟨every,l16,v9,aC,rfl,rfl,_,d⟩|⟨m,au,rfl,hg⟩;case inr=>have HF:=hid (show dF l=.error m from HE.out.trans (ak au));have HG:=hid HA.out.sa.did.grown;clear hp au;go_wp2_with fail;exact aj rfl (GP.err HF.out ⟨rfl,ai HG.out hg⟩)
 exact Ka6):p:=h
theorem ZbW(h:p:=by
 have hr:=Jl _ _ s[i] (av.new wr 5 #[.int .u8 (s[i].toNat:Int)]);have aap:=hid (Rb hc);clear hc;go_wp2_with fail;go_roundw;case rel=>refine⟨i+1,l++ [s[i]],by omega,by go_num,by rw[po],by rw[length_append,HL.out];rfl,?_,hb.trans ((aa wr _).mono hb.size)⟩;rw[HM.out,HD.out];simp[aap.out]
 case measure=>exact Zcs):p:=h
theorem ZbX(h:p:=by have HG:=hid HD.out.grown;have HE:=hid au;clear hp HQ HD nA au;go_wp2_with fail;exact aj rfl (bD HE.out HG.out hg)):p:=h
theorem ZbY(h:p:=by go_wp2_with fail;exact bodyPost_ret (v:=.agg cs) (results_cell_row Tryz.results114 _ _ (w.heap.size) 34 cs (0,0) _ rfl tu.out Tryz.underlying34 rfl dS.out) rfl tX.out):p:=h
theorem ZbZ(h:p:=by
 have eZ:=hid (HD.out.trans (d1.trans d2));have ku:=hid (d2.blk (d1.blk HQ.out Taa) Taa);have jx:=hid (hat.more (by have:=d1.size;omega:w.heap.size+1<=w1.heap.size));have jy:=hid aC;clear hp d1 d2 hat aC IH HQ HD hsz;go_wp2_with (first
  |(refine wpList_store_row rfl 36 (.tmp 2) (.tmp 10) rfl w.heap.size (aU y).toArray rfl rfl 36 dT ku.out aI rfl (cV _) ?_
    have HR:=hid (ku.out.row (aU y).toArray)))
 exact Ka7):p:=h
theorem Zb0(h:p:=by intro ρ' w' hH hc h';simp[go_sem,h']):p:=h
theorem Zb1(h:p:=by obtain⟨x0,x1,x2,x3,x4,x5,x6⟩:=HH.out.x.cells;dsimp only at x0 x1 x2 x3 x4 x5 x6;obtain⟨f0,f1⟩:=HH.out.kr;dsimp only at f0 f1;generalize hQ:bodyPost Tryz.prog Tryz.f60 _=Q;simp only[tx,jq,Tryz.f60,Option.getD_some];subst hQ;exact Ka8):p:=h
theorem Zb2(h:p:=by intro ρ w3 hc hL hr;have h0:_=_:=hr.1;exact ae (w':=w3) (ie rfl (by simp only[map_toArray,map_cons,map_nil,h0];exact sq y)) ⟨af.refl _,rfl⟩):p:=h
theorem Zb3(h:p:=by go_upto_region 1 with fail;change Code.wp _ _ _ _ (w.alloc (ib {}));generalize hW:(World.alloc _ _)=W0 at*;clear hW;have Fa:w.heap.size < W0.heap.size:=HS.out.res.lt;exact Ka9):p:=h
theorem Zb4(h:p:=by intro W2 hL;simp only[Uab];rintro _ rfl a1 - a2 - a3 - a4 - a5 - a6 - a7 - a8 - a9 - _ rfl;simp only[dr,Act.put,Uac];have H1:=hid (H0.out.later cn hL);clear hL H0 cn;go_wp2_with fail;exact Kba):p:=h
theorem Zb5(h:p:=by simp[results,Tryz.results125,go_sem,z0,z1,z2,z3]):p:=h
theorem Zb6(h:p:=by refine(TT.out w3).mono ?_;exact Zf3):p:=h
theorem Zb7(h:p:=by simp only[vo,List.range,List.range.loop,List.map,h0,h3,h4,h5,h6,h7];clear hT h0 h3 h4 h5 h6 h7;have hsz:=Nat.le_trans hw.size (Nat.le_refl ws.heap.size);exact Kbb):p:=h
theorem Zb8(h:p:=by simp only[aH,toList_toArray] at this ⊢;exact this):p:=h
theorem Zb9(h:p:=by
 have HA:=hid (HB.out.go br d);clear hp aC d HB HE lH;have HE:=cf;clear cf;go_upto_region 7 with fail;go_wp2_with fail;refine(ey ρ w8 l9 _ _ HA.out.sa.did.at_).mono ?_;intro e xg hp;rcases hp.cases with ⟨a,l11,v9,aC,rfl,rfl,_,d⟩|⟨m,au,rfl,hg⟩;case inr=>have HF:=hid (show dF l=.error m from HE.out.trans (ak au));have HG:=hid HA.out.sa.did.grown;clear hp au;go_wp2_with fail;exact aj rfl (GP.err HF.out ⟨rfl,ai HG.out hg⟩)
 exact Kbc):p:=h
theorem Zca(h:p:=by simp[results,Tryz.results163,go_sem,r0,r1,r2,r3,r4,r5,r6];rfl):p:=h
theorem Zcb(h:p:=by
 refine .inr λ ρ w hcs hG hr=>?_
 rw[t0] at hr;have r0:=hr.1;simp only[uq] at r0;exact⟨g0,ae (h0 ρ w (yE _ _ yD hG) hcs (r0.trans JH)) ⟨af.refl _,rfl⟩⟩):p:=h
theorem Zcc(h:p:=by obtain⟨z0,hz0⟩:∃z,z=cK:=⟨_,rfl⟩;have HZ:=hid (show Tryz.prog.built 34 []=some z0 by rw[hz0];exact DY);have HZ1:=hid (show z0.all (·.oneCell')=true by rw[hz0];exact cW {});have Ku:=hid (show z0.size=28 by rw[hz0];rfl);exact Kbd):p:=h
theorem Zcd(h:p:=by clear hx;go_wp2_with fail;exact aj rfl (GP.err HF.out ⟨rfl,hg⟩)):p:=h
theorem Zce(h:p:=by have br:=h.od;have b1:=aa w (ib {});have HS:=hid (show BM ρ w w.heap.size [] lg dp (w.alloc (ib {})) l from⟨bh.aF h b1,av.new w _ _,Nat.le_refl _,λ p hp=>by simp at hp⟩);exact Kbe):p:=h
theorem Zcf(h:p:=by simp only[dr,Act.put,Uac];have H1:=hid (H0.out.later cn hL);clear hL H0 cn;go_wp2_with fail;refine(bp tt W2 H1.out.st).mono ?_;rintro e w2 ⟨rfl,h2,d2⟩;have H2:=hid (H1.out.next hg0 hg1 h2 d2);exact Kbf):p:=h
theorem Zcg(h:p:=by
 refine HN.out.mono ?_;unfold nc;rw[HE.out,Ug.out];rintro e w1 ⟨he,rfl⟩;rw[if_neg Tab] at he;subst he;go_wp2_with fail;refine bodyPost_ret (v:=.tuple #[.agg #[.int .u8 0,.string ⟨#[]⟩,.int .i64 0,.int .i64 0],.int .i64 0,.int .i64 30]) Zb5 rfl ?_
 ·rw[lV.out,Ug.out];exact Zd5):p:=h
theorem Zch(h:p:=by have rI:b < wr.heap.size:=Nat.lt_of_lt_of_le (hS b kM) hwr.size;have iI:b2 < wr.heap.size:=Nat.lt_of_lt_of_le (vM b2 rH) hwr.size;exact Kbg):p:=h
theorem Zci(h:p:=by
 refine⟨h.at_.far Taa i u,h.grown.os,h.grown.tape,h.grown.output,?_,λ k hk Z6=>?_⟩
 ·have:(w.setCell ⟨q,i,none⟩ u).heap.size=w.heap.size:=by simp[World.setCell]
  rw[this];exact h.grown.size
 ·rw[Below.heap_setCell w ⟨q,i,none⟩ u k Tae];exact h.grown.block k hk Z6):p:=h
theorem Zcj(h:p:=by
 refine bodyPost_ret (v:=.tuple #[.agg #[.int .u8 2,.string ⟨#[]⟩,.int .i64 (gZ ((s.data.toList.drop at_).takeWhile aL)),.int .i64 at_],.int .i64 k,.int .i64 0]) Zb5 rfl ?_
 ·rw[HR.out];unfold BB;simp only;rw[qT aL s Taa,AG.out];exact Zd5):p:=h
theorem Zck(h:p:=by
 have HS:=hid (HH.out.later bx);have HD:=hid (cF.aF (b:=b) bx hsz);have HP:=hid (HD.out.blk hp Jd Tab);have my:w.heap.size≠b:=by omega
 clear HH hp;go_upto_region 1 with fail;generalize w.alloc _=W1 at*;clear bx;exact Kbh):p:=h
theorem Zcl(h:p:=by
 have hx:=A.blk.lt;have hs:(wr.setCell ⟨qx,6,none⟩ (.slice (some ⟨wr.heap.size,0,none⟩) 1 1)).heap.size=wr.heap.size:=by simp[World.setCell]
 have hb:=aa (wr.setCell ⟨qx,6,none⟩ (.slice (some ⟨wr.heap.size,0,none⟩) 1 1)) (.cells (aU y1).toArray 36);have hN:=av.new (wr.setCell ⟨qx,6,none⟩ (.slice (some ⟨wr.heap.size,0,none⟩) 1 1)) 36 (aU y1).toArray;rw[hs] at hN;exact Kbi):p:=h
theorem Zcm(h:p:=by
 go_wp2_with fail;go_roundw;case rel=>refine⟨i+1,by omega,by go_num,?_,iV.trans (b'.mono iV.size)⟩;first | rw[HMT.out,show(max ((iY (ds.take i):Nat):Int) (d:Int))=((max (iY (ds.take i)) d:Nat):Int) by omega] |(rw[HMT.out];congr 1;split <;> omega)
 case measure=>simp[intOf];omega):p:=h
theorem Zcn(h:p:=by
 have e1:s.size - (s[a]::s.data.toList.drop (a+1)).length=a:=by rw[<- drop_at HB.out,length_drop,HLEN.out];omega
 rw[ia.out.more,adp (by rw[length_drop,HLEN.out];omega) Tbi Tbn,e1,Rf,iL,yl,HQ.out]):p:=h
theorem Zco(h:p:=by intro ρ w vs hc hG hr;rw[t3] at hr;have r0:=hr.1;simp only[s3] at r0;refine⟨g3,?_⟩;show vs.length=0->_;intro hl;obtain rfl:=eq_nil_of_length_eq_zero hl;refine dU (iq ρ w hc r0) ((jw w hG).mono ?_);rintro e' w' ⟨y,rfl,hp⟩;exact⟨_,rfl,y,w,w',rfl,hG,hp,af.refl _⟩):p:=h
theorem Zcp(h:p:=by
 intro ρ w3 hc hL hr;intro hg;have hg:ρ (.tmp 77)=.bool b9:=hg;cases b9
 ·exact Zae
 ·exact ZaB):p:=h
theorem Zcq(h:p:=by
 intro ρ w3 hc hL hr;intro hg;have hg:ρ (.tmp 86)=.bool xS:=hg;cases xS
 ·exact Zae
 ·exact ZaB):p:=h
theorem Zcr(h:p:=by
 intro ρ w3 hc hL hr;intro hg;have hg:ρ (.tmp 95)=.bool xT:=hg;cases xT
 ·exact Zae
 ·exact ZaB):p:=h
theorem Zcs(h:p:=by simp[intOf];omega):p:=h
theorem Zct(h:p:=by intro ρ' w' G y rQ oH iq Ul;have q0:=iq 0 _ rfl;have q1:=iq 1 _ rfl;have q2:=iq 2 _ rfl;have q3:=iq 3 _ rfl;have q4:=iq 4 _ rfl;have q5:=iq 5 _ rfl;have q6:=iq 6 _ rfl;simp only[Nat.add_zero] at q0;unfold eb aU at oH;simp[go_sem,rQ,oH,q0,q1,q2,q3,q4,q5,q6,Ul,qs]):p:=h
theorem Zcu(h:p:=by
 have eZ:=hid (HD.out.trans d2);have ku:=hid (d2.blk HQ.out Taa);have jx:=hid (hat.more (show w.heap.size+1<=_ by omega));have jy:=hid aC;clear hp d2 hat aC HQ HD nA;go_wp2_with (first
  |(refine wpList_store_row rfl 36 (.tmp 2) (.tmp 8) rfl w.heap.size (aU y).toArray rfl rfl 36 dT ku.out aI rfl (cV _) ?_
    have HR:=hid (ku.out.row (aU y).toArray)))
 exact Kbj):p:=h
theorem Zcv(h:p:=by
 split at h
 ·cases h
 ·injection h with h;exact .inr h.symm):p:=h
theorem Zcw(h:p:=by
 have p0:=HS.out.ptr;go_wp2_with fail;refine(ep ρ w3 l4 _ _ HS.out.did.at_).mono ?_;clear p0;intro e w5 hp;rcases hp.cases with ⟨nm,l6,v9,aC,rfl,rfl,d⟩|⟨m,au,rfl,hg⟩;case inr=>have HF:=hid (show dm l=.error m from HE.out.trans (ak au));have HG:=hid HS.out.did.grown;clear hp au;go_wp2_with fail;exact aj rfl (GP.err HF.out ⟨rfl,ai HG.out hg⟩)
 exact Kbk):p:=h
theorem Zcx(h:p:=by have HB:=hid (show zJ (w.alloc (.cells #[.int .u8 op,.int .u8 v.k,.int .i64 v.n,.string v.s,.string name,.int .i64 width,.slice A k cp] 36)) w.heap.size ⟨op,v,name,width,A,k,cp⟩from av.new w _ _);have bx:=aa w (.cells #[.int .u8 op,.int .u8 v.k,.int .i64 v.n,.string v.s,.string name,.int .i64 width,.slice A k cp] 36);have HS:=hid (HH.out.later bx);exact Kbl):p:=h
theorem Zcy(h:p:=by
 intro w' hw';have Y9:=hd.later hw';refine(lI γ.ρ w' l lg dp Y9.at_).mono ?_;intro e w'' hp;rcases hp.cases with ⟨t3,r3,v,aC,_⟩|⟨m',au,rfl,hg⟩
 ·rw[hx] at aC;cases aC
 ·rw[hx] at au;injection au with au;subst au;exact⟨_,rfl,rfl,ai Y9.grown hg⟩):p:=h
theorem Zcz(h:p:=by
 intro w' Td;refine(lI γ.ρ w' l lg dp Td).mono ?_;intro e w'' hp;rcases hp.cases with ⟨t3,r3,v3,aC,rfl,y,rfl,hat,d2⟩|⟨m,au,_⟩
 ·rw[hx] at aC;injection aC with aC;injection aC with h1 h2;subst h1 h2;exact⟨y,rfl,hat,d2⟩
 ·rw[hx] at au;cases au):p:=h
theorem ZcA(h:p:=by have h0:_=_:=hr.1;exact ae (w':=w3) (by simp[go_sem,hc.const,h0];done) ⟨af.refl _,rfl⟩):p:=h
theorem ZcB(h:p:=by
 clear hk hb
 rcases hlv with rfl | rfl | rfl | rfl;all_goals
  generalize yr _ t.w=R at*;go_enter Tryz.func182,Tryz.ntmps182;go_wp2_with fail;all_goals
   go_ret;rw[HR.out];refine⟨?_,aa w _⟩;refine kJ ?_;simp[opsL,List.lookup,XU,La,IM,dP,fq,BV,vh, *]):p:=h
theorem ZcC(h:p:=by simp only[Cj,Bool.and_eq_true,beq_iff_eq,Option.isNone_iff_eq_none] at tA;obtain⟨⟨⟨⟨⟨⟨⟨⟨⟨⟨⟨⟨⟨⟨⟨⟨⟨⟨⟨⟨⟨⟨⟨⟨⟨⟨⟨⟨⟨t0,uq⟩,t1⟩,ur⟩,t2⟩,uu⟩,t3⟩,uv⟩,t4⟩,DK⟩,t5⟩,JI⟩,ZU⟩,t6⟩,BL⟩,Mf⟩,f0⟩,f1⟩,f2⟩,f3⟩,f4⟩,f5⟩,f6⟩,g0⟩,g1⟩,g2⟩,g3⟩,g4⟩,g5⟩,g6⟩:=tA;exact Kbm):p:=h
theorem ZcD(h:p:=by have h0:=(aw u (show 0 < 249 by decide)).symm.trans hT.t0;have h3:=(aw u (show 3 < 249 by decide)).symm.trans hT.t3;have h4:=(aw u (show 4 < 249 by decide)).symm.trans hT.t4;have h5:=(aw u (show 5 < 249 by decide)).symm.trans hT.t5;have h6:=(aw u (show 6 < 249 by decide)).symm.trans hT.t6;have h7:=(aw u (show 7 < 249 by decide)).symm.trans hT.t7;exact Kbn):p:=h
theorem ZcE(h:p:=by rintro e w3 ⟨rfl,h2,d2⟩;have H3:=hid (H2.out.next hg0 hg1 h2 d2);clear h2 d2 H2 p0 x1;have p0:w3.cell? ⟨g0,0,none⟩=some (.pointer (some ⟨b,0,none⟩)):=H3.out.p.cell 0;go_wp2_with fail;exact Kbo):p:=h
theorem ZcF(h:p:=by intro ρ w3 hc hL hr;intro hg;have hg:ρ (.tmp 137)=.bool false:=hg;exact Ze9):p:=h
theorem ZcG(h:p:=by go_upto_region 1 with fail;change Code.wp _ _ _ _ ((w.alloc (.cells #[.pointer (some ⟨b,0,none⟩)] 87)).alloc (.cells cs 34));generalize iB:w.heap.size=g0 at*;generalize lQ:g0+1=g1 at*;generalize ((w.alloc _).alloc _)=zT at*;have jJ:=hid iB;clear iB lQ hlt hsz;obtain⟨oQ,gR⟩:∃x,x=zT:=⟨_,rfl⟩;rw[<- gR] at H0 ⊢;clear gR;exact Kbp):p:=h
theorem ZcH(h:p:=by clear HA HX hcs HE;refine wp_region_lit ?_;refine wpList_load_row rfl 34 (.tmp 4) rfl b rfl 34 cs (0,0) _ wy.out Tryz.underlying34 rfl dS.out ?_;exact Kbq):p:=h
theorem ZcI(h:p:=by unfold St.cost at hn ⊢;have KF:=gF s;have AQ:=hf.nodes;have hlt:=hst.lt;have hsz:=hst.size;obtain⟨tt,py⟩:∃tt,tt=cY s false true false false false false false false false:=⟨_,rfl⟩;have TT:=hid (λ W=>gD h hf hm false true false false false false false false false W);rw[<- py] at TT;unfold mK at TT;have zt:=hid py;exact Kbr):p:=h
theorem ZcJ(h:p:=by intro ρ' w' h';simp[go_sem,h']):p:=h
theorem ZcK(h:p:=by
 have t2:(((s[k+1].toNat:Nat):Int)==39)=false:=by rw[beq_eq_false_iff_ne];intro h;exact CJ (UInt8.toNat_inj.1 (by simpa using(by omega:s[k+1].toNat=39)))
 have t3:(((s[k+1].toNat:Nat):Int) != 39)=true:=by simpa [bne] using t2
 have Oc:=hid (show(s.data.toList.drop (k+1)).head?≠some 39 by rw[drop_at pQ.out];simpa using CJ);exact Kbs):p:=h
theorem ZcL(h:p:=by go_enter Tryz.func144,Tryz.ntmps144;go_wp2_with (first |(go_at_call 103;refine(rT c _).mono ?_;rintro e w' ⟨rfl,rfl⟩;rw[h])|(go_at_call 105;refine(oI c _).mono ?_;rintro e w' ⟨rfl,rfl⟩));go_ret;exact⟨by simp,rfl⟩):p:=h
theorem ZcM(h:p:=by
 refine⟨hB,v,?_,?_,hn,hz⟩
 ·simp[World.setCell,Array.getElem?_modify,hb]
 ·exact ho.kept (row:=some b) ⟨rfl,rfl,rfl,by simp[World.setCell],λ k _ hk=>Below.heap_setCell _ _ _ _ (λ e=>hk (by simp[e]))⟩ (Or.inr hn)):p:=h
theorem ziq.KcQ(h:p:=by have Zo:=HBZ.out tk;exact Kbt):p:=h
theorem ZcN(h:p:=by clear BR HA;have HA:=hid hA';clear hA';obtain⟨tk,pl,bd,hpl,hlt,agl,BH,fG,hg,Bd,Cf,hp⟩:=HA.out.did.at_.mN;have alA:=HA.out.did.at_.left;open ziq in exact Zhf):p:=h
theorem ZcO(h:p:=by rintro e w3 ⟨rfl,h3,d3⟩;have H3:=hid (H2.out.next hx hf h3 d3);clear h3 d3 H2;go_wp2_with fail;go_end0;refine⟨rfl,?_,H3.out.did⟩;have:=H3.out.st.more (show n+c+1<=n+c+1 by omega);exact Zfc):p:=h
theorem ZcP(h:p:=by intro ρ' w' h' hc';simp[go_sem,h',hc']):p:=h
theorem ZcQ(h:p:=by
 refine bodyPost_ret (v:=.tuple #[.agg #[.int .u8 0,.string ⟨#[]⟩,.int .i64 0,.int .i64 0],.int .i64 0,.int .i64 2]) Zb5 rfl ?_
 ·rw[lV.out,AG.out,if_neg h32];exact Zd5):p:=h
theorem ZcR(h:p:=by simp only[gB,length_cons,length_nil] at hb;show n+(c0+2)+1<=_;omega):p:=h
theorem ZcS(h:p:=by go_wp2_with fail;go_ret;exact⟨rfl,by go_grown⟩):p:=h
theorem ZcT(h:p:=by
 rcases Nat.lt_or_ge vs.length ch.length with h' | h'
 ·have hi:=getElem?_eq_getElem h';have hb:=of_decide_eq_true (List.all_eq_true.1 QM _ (getElem_mem h'));have:=(iq _ _ hi).1 (hall _ hb);omega
 ·omega):p:=h
theorem ZcU(h:p:=by
 have XD:j < listed.size:=by rw[I.len];exact EU
 have YI:fuel=bP l.length (listed.setIfInBounds j true)+zs.length:=by have:=lR l.length listed j XD NK zo;omega
 unfold wpOp;rw[pO];show if Region.wanted oj (yielded (l++zs).toArray a.tmps)=true then _ else _;rw[if_pos (by simp[Region.wanted,hgd])];refine .inl ?_;exact Kbu):p:=h
theorem ZcV(h:p:=by
 intro e w'' hp;rcases hp.cases with ⟨t3,r3,v,aC,rfl,z,rfl,hat,d2⟩|⟨m,au,_⟩
 ·rw[DM.out] at aC;injection aC with aC;injection aC with h1 h2;subst h1 h2;exact⟨z,rfl,hat,d2⟩
 ·rw[DM.out] at au;cases au):p:=h
theorem ZcW(h:p:=by intro ρ w3 hc hL hr;have h0:_=_:=hr.1;have k21:w3.cell? ⟨g1,21,none⟩=some (.slice y.aS.A y.aS.n y.aS.c):=(av.later H0.out.q hL).cell 21;exact ZgV):p:=h
theorem ZcX(h:p:=by intro W2 hL;simp only[Uab];rintro _ rfl a1 - a2 - a3 - a4 - a5 - a6 - a7 - a8 - _ rfl;simp only[dr,Act.put,Uac];have H2:=hid (H1.out.later cn hL);clear hL H1 cn;go_wp2_with fail;exact Kbv):p:=h
theorem ZcY(h:p:=by
 simp only[pR,hcv,hlv,k1,k2,k3,r1,Nat.reduceEqDiff,if_true,if_false,Option.isSome_some,Option.isSome_none];refine⟨trivial,trivial,?_,cv,rfl,hPB,?_⟩
 ·intro x e;exact k4 x (hlv.trans e)
 ·intro x e;cases e):p:=h
theorem ZcZ(h:p:=by have x0:=hX.cell 0;have z0:=hZ.cell 0;have x1:=hX.cell 1;have z1:=hZ.cell 1;have x2:=hX.cell 2;have z2:=hZ.cell 2;have x3:=hX.cell 3;have z3:=hZ.cell 3;have x4:=hX.cell 4;have z4:=hZ.cell 4;have x5:=hX.cell 5;have z5:=hZ.cell 5;have x6:=hX.cell 6;have z6:=hZ.cell 6;have x7:=hX.cell 7;have z7:=hZ.cell 7;exact Kbw):p:=h
theorem Zc0(h:p:=by exact .inl Tab):p:=h
theorem Zc1(h:p:=by have hB:=av.cJ h.blk 1 (.int .i64 ((ρ.n:Int) - l.length));refine⟨h.set hB (bE (aD (Below.refl _ _)) 1 _) ⟨?_,h.of.2.tail ht⟩,bE (aD (Below.refl _ _)) 1 _⟩;exact(suffix_cons _ _).trans h.of.1):p:=h
theorem Zc2(h:p:=by
 refine callsD_of_wpS Tryz.func26 rfl λ abK cs hu=>?_
 unfold sB;change Code.wpS Tryz.prog _ _ { tmps:= #[.pointer (some ⟨b0,0,none⟩),.pointer (some ⟨b1,0,none⟩),.pointer (some ⟨b2,0,none⟩),undef,undef,undef,undef,undef,undef,undef,undef,undef,undef,undef],defers:=[] } _ _;apply wpS_seq;exact Kbx):p:=h
theorem Zc3(h:p:=by
 obtain rfl:i=ys.length:=by omega
 have AD:ds.take ys.length=ds:=take_of_length_le (Nat.le_of_eq HDL.out);rw[AD] at hml;simp only[AD];go_wp2_with fail;go_ret;exact⟨kJ Taa,af.then nI.out iV⟩):p:=h
theorem Zc4(h:p:=by obtain⟨k0,k1,k2,k3,k4,k5,k6⟩:=fj (qL.out).blk;obtain⟨f0,f1,f2,f3,f4,f5,f6⟩:=fu (qL.out).blk;unfold fx at k0 k1 k2 k3 k4 k5 k6;simp only at k0 k1 k2 k3 k4 k5 k6;go_wp2_with fail;refine hm.mono ?_;clear hm;rintro e w2 ⟨rfl,d⟩;have zq:=wX;have ia:=hid (qL.out.go d Taa Taa);exact Kby):p:=h
theorem Zc5(h:p:=by exact ae (w':=w3) (by simp[go_sem,h0,IZ,Ja,Jb];done) ⟨af.refl _,rfl⟩):p:=h
theorem Zc6(h:p:=by
 induction h with
 | nil=>intro i x y h;simp at h
 | cons a _ ih=>
   intro i x y h k
   cases i with
   | zero=>simp at h k;subst h k;exact a
   | succ i=>exact ih Tam (by simpa using k)):p:=h
theorem Zc7(h:p:=by
 intro i w w' v h hl
 match i with
 | 0 | 1 | 2 | 3 | 4 | 5 | 6 | 7 | 8 | 9 | 10=>exact h
 | n+11=>exact h):p:=h
theorem Zc8(h:p:=by simp only[Uaa] at k7 k8 k9 TI TJ TK TL TM;exact Zf2):p:=h
theorem Zc9(h:p:=by
 have HA:=hid (hL.alloc (.cells #[.int .u8 0,.string ⟨#[]⟩,.int .i64 0,.int .i64 0] 81));have bb:=aa w (.cells #[.int .u8 0,.string ⟨#[]⟩,.int .i64 0,.int .i64 0] 81);have HZ:=hid (av.new w 81 #[.int .u8 0,.string ⟨#[]⟩,.int .i64 0,.int .i64 0]);have hne:w.heap.size≠g:=by omega
 exact Kbz):p:=h
theorem Zda(h:p:=by exact⟨(c _).trans h1,(c _).trans h2,(c _).trans h3,(c _).trans h4⟩):p:=h
theorem zgm.KbV(h:p:=by
 rw[ha] at r1;injection r1 with r1;rw[ux] at hB;have hcell:w.cell? ⟨γ.qb,γ.k,none⟩=some v:=by rw[hB.blk.cell];simp[Ft.kS]
 exact KbA):p:=h
theorem Zdb(h:p:=by open zgm in exact Zd7):p:=h
theorem Zdc(h:p:=by intro ρ' w' hc' h';simp[go_sem,h',hc'.const,hc'.func]):p:=h
theorem Zdd(h:p:=by have t5:decide ((0:Int)<(i:Int))=true:=decide_eq_true Taa;have t6:decide (0 < i)=true:=decide_eq_true nR;have HT:=hid (oM HJ.out nR);go_wp2_with fail;refine(cH ⟨#[44,32]⟩ W1 pg.out Tab Ta3).mono ?_;rintro e w2 ⟨rfl,h2,d2⟩;have H2:=hid h2;exact KbB):p:=h
theorem Zde(h:p:=by intro ρ' w' hH hc h';exact oB rfl h' hH.1 Tryz.underlying36 rfl aI):p:=h
theorem Zdf(h:p:=by obtain⟨⟨sb,c2⟩,fz,hs2,zr⟩:=HH.out.st.xW;have vp:=hid hs2;have eZ:=hid (HH.out.did.trans zr);exact Zgl):p:=h
theorem Zdg(h:p:=by simp only[gB,length_cons,length_nil];omega):p:=h
theorem Zdh(h:p:=by rintro e w1 ⟨rfl,b1⟩;have H1:=hid (HH.out.later hsz b1);rw[show(decide (((1:Nat):Int)=1)&& bJ v name width)=true by rw[hp];rfl];clear HH b1 x0 x1 x2 x3 x4 x5 x6;exact KbC):p:=h
theorem Zdi(h:p:=by simp only[Result.andThen];rw[Oper.upon_value];go_wp2_with fail;rw[run_callFunc_extern Tryz.func165 Tac Tac Tac (e:=Extern.AbiNoEscape.same) Tac];rw[Lib.run_noEscape];simp only[Result.andThen];rw[Oper.upon_value];go_wp2_with fail;exact KbD):p:=h
theorem Zdj(h:p:=by simp only[setIfInBounds_toArray,set_cons_zero,set_cons_succ] at this;exact this):p:=h
theorem Zdk(h:p:=by
 have HW:=hid hcut;clear hcut HH HC x0 x1 x2 x3 x4 x5 x6 f0 f1 tk;obtain⟨x0,x1,x2,x3,x4,x5,x6⟩:=HW.out.x.cells;dsimp only at x0 x1 x2 x3 x4 x5 x6;obtain⟨f0,f1⟩:=HW.out.kr;dsimp only at f0 f1;unfold dI at*;have hN0:n+5<=50000000:=by have:=HN.out;omega
 go_wp2_with fail;exact KbE):p:=h
theorem Zdl(h:p:=by intro ρ w3 hc hL hr;intro hg;have hg:ρ (.tmp 50)=.bool true:=hg;refine⟨λ _=>?_,λ hn=>absurd hg hn⟩;have h0:_=_:=hr.1;exact KbF):p:=h
theorem Zdm(h:p:=by rintro e w' ⟨rfl,h1,h2⟩;refine⟨rfl,?_,(cF.aF bm h.size).trans h2⟩;simpa [rX] using h1):p:=h
theorem Zdn(h:p:=by
 have hK:=zx (V:=V) (λ d=>a.eval (.tmp d)) l 0 a0 (λ i o d hi hd=>by
  rw[Nat.zero_add]
  have Il:i < l.length:=by
   rcases Nat.lt_or_ge i l.length with h' | h'
   ·exact h'
   ·rw[getElem?_eq_none h'] at hi;cases hi
  exact I.new i o d hi (hall i Il) hd) (hf w I.r)
 exact KbG):p:=h
theorem Zdo(h:p:=by rw[eH.out];exact⟨rfl,(((BD.out.at_.trans jx.out).far (Nat.le_refl _) hne 0 _).far (Nat.le_refl _) hne 1 _ |>.far (Nat.le_refl _) hne 2 _ |>.far (Nat.le_refl _) hne 3 _)⟩):p:=h
theorem Zdp(h:p:=by rw[HA.out.name,HA.out.cM,HA.out.every,HA.out.a,HA.out.b] at this;simp only[aH,toList_toArray,append_assoc,cons_append,nil_append] at this ⊢;exact this):p:=h
theorem Zdq(h:p:=by
 go_wp2_with fail;go_ret3;unfold mi;rw[tX.out,ia.out.more,YA Tbi Tbn];have e1:s.size - (s[a]::s.data.toList.drop (a+1)).length=a:=by rw[<- drop_at HB.out,length_drop,HLEN.out];omega
 rw[e1];exact KbH):p:=h
theorem Zdr(h:p:=by have k0:=hcell 0 _ rfl;have k1:=hcell 1 _ rfl;have k2:=hcell 2 _ rfl;have k3:=hcell 3 _ rfl;have k4:=hcell 4 _ rfl;have k5:=hcell 5 _ rfl;have k6:=hcell 6 _ rfl;exact KbI):p:=h
theorem Zds(h:p:=by go_wp2_with fail;refine HK.out _ _ (HO.out _ _ ⟨rfl,rfl,rfl⟩ (HH.out.more Taa))):p:=h
theorem Zdt(h:p:=by simpa using this):p:=h
theorem Zdu(h:p:=by
 have BO:=λ q:Ext wr.heap.size wr=>Tr.Co hS vM t.1 x.1 u.1 r1.1 r2.1 HTH.out q.w (hwr.trans (q.h.mono hwr.size))
 have heq:u.2=x.2:=by rw[r1.2,r2.2]
 obtain⟨x,xa⟩:=x;obtain⟨u,ua⟩:=u;simp only at heq BO k0 m0 k1 m1 k2 m2 k3 m3 k4 m4 k5 m5 k6 m6 k7 m7;subst heq;exact KbJ):p:=h
theorem Zdv(h:p:=by go_end0;exact tC.ok (HE.out.trans rfl) ⟨_,Qf.out⟩ (by rw[Bool.or_false];exact Qg.out)):p:=h
theorem Zdw(h:p:=by go_wp2_with fail;exact bodyPost_ret (v:=.agg cs) (results_cell_row Tryz.results73 _ _ (w.heap.size) 34 cs (0,0) _ rfl tu.out Tryz.underlying34 rfl dS.out) rfl tX.out):p:=h
theorem Zdx(h:p:=by simp only[Uaa] at TN TP TR;exact ZgH):p:=h
theorem Zdy(h:p:=by go_wp2_with fail;go_end0;refine⟨rfl,?_,H5.out.did⟩;have:=H5.out.st;rwa [aH] at this):p:=h
theorem Zdz(h:p:=by intro ρ' w' h' hc';rw[<- E7] at h' hc';simp[go_sem,h',hc']):p:=h
theorem ZdA(h:p:=by exact⟨at7 _ _ λ r=>rfl,⟨rfl,rfl,rfl⟩⟩):p:=h
theorem ZdB(h:p:=by have HG:=hid (ai HD.out.grown d1.grown);have HE:=hid au;clear hp d1 IH HQ HD hsz au;go_wp2_with fail;exact aj rfl (bD ((JF xA.out).trans (ak HE.out)) HG.out hg)):p:=h
theorem ZdC(h:p:=by
 have eZ:=hid ((HD.out.trans (d1.trans d2)).later (aa w2 (.cells (aU y).toArray 36)));have ku:=hid ((d2.blk (d1.blk HQ.out Taa) Taa).alloc (.cells (aU y).toArray 36));have hs2:w.heap.size+1<=w2.heap.size:=by have:=d1.size;have:=d2.size;omega
 exact KbK):p:=h
theorem ZdD(h:p:=by rw[e] at hk;unfold bw.ws at hk;rw[getElem?_map,getElem?_eq_getElem hlt] at hk;simp only[Option.map_some] at hk;injection hk with hk;rw[hk];exact hl):p:=h
theorem ZdE(h:p:=by go_wp2_with fail;refine(GF w1 H1.out).mono ?_;rintro e w2 ⟨rfl,b2⟩;have B2:=hid (B1.out.trans b2);clear b2;go_wp2_with fail;go_ret2;exact⟨rfl,B2.out⟩):p:=h
theorem ZdF(h:p:=by simp only[Uaa] at k15;exact ZgW):p:=h
theorem ZdG(h:p:=by simp only[Uaa] at k16;exact ae (w':=w3) (by simp[go_sem,h0,k16];done) ⟨af.refl _,rfl⟩):p:=h
theorem ZdH(h:p:=by simp only[Uaa] at k17;exact ae (w':=w3) (by simp[go_sem,h0,k17];done) ⟨af.refl _,rfl⟩):p:=h
theorem ZdI(h:p:=by simp only[Uaa] at k18;exact ae (w':=w3) (by simp[go_sem,h0,k18];done) ⟨af.refl _,rfl⟩):p:=h
theorem ZdJ(h:p:=by simp only[Uaa] at k19;exact ZgU):p:=h
theorem ZdK(h:p:=by simp only[Uaa] at k20;exact ZgT):p:=h
theorem ZdL(h:p:=by simp only[Uaa] at k21;exact ZgV):p:=h
theorem ZdM(h:p:=by have HG:=hid (ai HD.out.grown d1.grown);have HE:=hid au;clear hp d1 IH HQ HD hsz au;go_wp2_with fail;exact aj rfl (bD ((RG xA.out).trans HE.out) HG.out hg)):p:=h
theorem ZdN(h:p:=by simp only[Uaa] at k2;exact Zg0):p:=h
theorem ZdO(h:p:=by simp only[Uaa] at k3;exact Zg1):p:=h
theorem ZdP(h:p:=by simp only[Uaa] at k4;exact Zg2):p:=h
theorem ZdQ(h:p:=by simp only[Uaa] at k5;exact Zg3):p:=h
theorem ZdR(h:p:=by simp only[Uaa] at k6;exact Zg4):p:=h
theorem ZdS(h:p:=by simp only[Uaa] at k0;exact ae (w':=w3) (by simp[go_sem,h0,k0];done) ⟨af.refl _,rfl⟩):p:=h
theorem ZdT(h:p:=by
 generalize w1.alloc _=W1 at*;generalize w1.heap.size=tb at*;obtain⟨u0,u1,u2,u3,v0,v1,v2,v3⟩:=aO GV.out;obtain⟨c0,c1,c2,c3,f1,f2,f3⟩:=gb.out.at_.facts;rw[Vb.out] at c1;have e1:(ρ.n:Int) - ((r.length:Int)+1)+1=(ρ.n:Int) - r.length:=by omega
 exact KbL):p:=h
theorem ZdU(h:p:=by
 intro i w w' v h hl
 match i with
 | 0 | 1 | 2 | 3 | 4 | 5=>exact h
 | n+6=>exact h):p:=h
theorem zgn.KbV(h:p:=by rw[ha] at r0;injection r0 with r0;refine ae (hix ρ w G cap (r0.symm.trans e1) r1) ?_;exact KbM):p:=h
theorem ZdV(h:p:=by open zgn in exact Zd7):p:=h
theorem ZdW(h:p:=by intro ρ w' vs hcs hG hr;refine⟨rfl,?_⟩;unfold execOp;simp only[Sem.run_bind,Array.map_empty,run_build w' 34 #[] z0 HZ.out,Result.andThen_ok];rfl):p:=h
theorem ZdX(h:p:=by have HS:=hid (HB.out.go br d);clear hp aC d HB HE lH;have HE:=cf;clear cf;go_upto_region 2 with fail;have HM:=mD.new w1;have HG:=aD (p:=w1.heap.size) (aa w1 (.map #[] 0));have CJ:=HS.out.res.lt;refine wp_region_lit ?_;refine gG rfl 158 rfl ?_;exact KbN):p:=h
theorem ZdY(h:p:=by rintro e w2 ⟨rfl,h2,d2⟩;have H2:=hid h2;have D2:=hid (D1.out.trans d2);have vT:=hid (d2.blk pQ.out my Tab);have HP2:=hid (d2.blk Xh.out Jd Tab);clear h2 d2 H1 D1 pQ Xh x0 x1 x2 x3 x4 x5 x6 x7 p0;obtain⟨x0,x1,x2,x3,x4,x5,x6,x7⟩:=p8 vT.out;have p0:=HP2.out.cell 0;simp only[getElem?_toArray,getElem?_cons_zero] at p0;go_wp2_with fail;exact KbO):p:=h
theorem ZdZ(h:p:=by
 simp only[Uab];repeat (go_big_quiet_step (fail))
 exact KbP):p:=h
theorem Zd0(h:p:=by
 have lV:=hid dR;have HL0:=hid hl;have XO:=hid hdg;have HLEN:=hid (show s.data.toList.length=s.size by simp);clear dR hd hl hdg hq;go_enter Tryz.func125,Tryz.ntmps125;go_wp2_with (first
  |(go_at_call 92;refine(fF s[at_] _).mono ?_;rintro e w' ⟨rfl,rfl⟩;rw[HL0.out])
  |(go_at_call 93;refine(gU s[at_] _).mono ?_;rintro e w' ⟨rfl,rfl⟩;rw[XO.out]))
 exact KbQ):p:=h
theorem Zd1(h:p:=by go_upto_region 1 with fail;change Code.wp _ _ _ _ ((w.alloc (.cells #[ρ.ptr] 77)).alloc (ib {}));generalize hW:(World.alloc _ _)=W0 at*;clear hW;have Fa:w.heap.size+1 < W0.heap.size:=HS.out.res.lt;exact KbR):p:=h
theorem Zd2(h:p:=by intro ρ w1 hc hL hr;have h1:_=_:=hr.1;exact ae (w':=w1) (by simp[go_sem,h1]) ⟨xR.refl _,rfl,λ h=>by cases h⟩):p:=h
theorem Zd3(h:p:=by
 clear hX;go_wp2_with (first
  |(refine gM Tryz.underlying92 Tryz.underlying5 rfl _ _ _ rfl gm rfl _ rfl _ rfl hM TaO ?_
    clear hM Pj
    intro wm hM hgr
    replace kg:=kg.trans (aQ hgr kg.size hle)
    have Pj:=(kg.cell (p:=⟨g1,15,none⟩) (ax X15.out)).trans X15.out
    clear hgr))
 exact KbS):p:=h
theorem Zd4(h:p:=by
 have Rk:rest <:+ s.data.toList:=(Bc eH.out).trans (List.drop_suffix _ _);have hq:s.data.toList.drop (s.size - rest.length)=rest:=by have:=drop_suffix Rk;rwa [HLEN.out] at this
 have aqf:rest.length < s.size - a:=by have:=rR eH.out;rwa [length_drop,HLEN.out] at this
 have HQ:=hid hq;exact KbT):p:=h
theorem Zd5(h:p:=by exact⟨rfl,yj bb (Nat.le_refl _) _ _ _ _⟩):p:=h
theorem Zd6(h:p:=by obtain⟨s,hs⟩:∃s,ks[i]?=some s:=⟨_,getElem?_eq_getElem Taa⟩;have hc:=zO (HD.out.blk HB.out (λ e=>hbg e.symm)) hs;have Fh:=hid (ue hs);clear hs;exact KbU):p:=h
theorem Zd7(h:p:=by obtain⟨a,ha⟩:=Option.isSome_iff_exists.1 ha;rw[ha] at hG;obtain⟨k1,k2,k3,c,hc,hB,k5⟩:=hG;have hrow:=hB.row;obtain⟨G,cap,ys,y,e1,e2,e3,e4,e5,e6⟩:=hrow;exact KbV):p:=h
theorem Zd8(h:p:=by show Vd _ _ _ _ _;unfold Vd;rw[hrun];exact jw w hG):p:=h
theorem Zd9(h:p:=by
 go_round;case rel=>exact⟨k+1,by omega,hlt,by go_num,AG.out⟩
 case measure=>exact Zcs):p:=h
theorem Zea(h:p:=by simp only[pR,ha,hc,Nat.reduceEqDiff,if_true,if_false,Option.isSome_some];have hL:=hB.list Ft;rw[e1] at hL ⊢;exact⟨k1,k2,k3,c,rfl,hL,by rw[e1] at k5;exact k5⟩):p:=h
theorem Zeb(h:p:=by
 refine .inr λ ρ w hcs hG hr=>?_
 rw[t2] at hr;have r0:=hr.1;simp only[uu] at r0;exact⟨g2,ae (h2 ρ w (yE _ _ yD hG) hcs (r0.trans Me)) ⟨af.refl _,rfl⟩⟩):p:=h
theorem Zec(h:p:=by
 have n2:(z==2)=false:=by rw[beq_eq_false_iff_ne];omega
 have n6:(z==6)=false:=by rw[beq_eq_false_iff_ne];omega
 have n7:(z==7)=false:=by rw[beq_eq_false_iff_ne];omega
 have n3:(z==3)=false:=by rw[beq_eq_false_iff_ne];omega
 have hz5:0<=z/\z<=5:=by omega
 exact KbW):p:=h
theorem Zed(h:p:=by intro ρ w vs hcs hG hr;rw[t0] at hr;have r0:=hr.1;simp only[uq] at r0;exact⟨g0,h0 ρ w (fQ val e k cs bv Post w0 yD yE Xm _ _ hG) hcs (r0.trans JH)⟩):p:=h
theorem Zee(h:p:=by
 refine .inr λ ρ w hcs hG hr=>?_
 rw[t1] at hr;have r0:=hr.1;simp only[ur] at r0;exact⟨g1,ae (h1 ρ w (yE _ _ yD hG) hcs r0) ⟨af.refl _,rfl⟩⟩):p:=h
theorem Zef(h:p:=by simp only[Act.put,Uac];go_wp2_with fail;exact KbX):p:=h
theorem Zeg(h:p:=by rintro e w1 ⟨rfl,h1,d1⟩;have H1:=hid h1;have D1:=hid (HD.out.trans d1);have pQ:=hid (d1.blk HB.out my Tab);have Xh:=hid (d1.blk HP.out Jd Tab);clear HS HD HB HP d1 h1 x0 x1 x2 x3 x4 x5 x6 x7 p0;obtain⟨x0,x1,x2,x3,x4,x5,x6,x7⟩:=p8 pQ.out;have p0:=Xh.out.cell 0;simp only[getElem?_toArray,getElem?_cons_zero] at p0;exact KbY):p:=h
theorem Zeh(h:p:=by
 go_wp2_with fail;go_quiet (fail);go_wp2_with fail;go_roundw
 case rel=>
  refine⟨i+1,n+nq,by omega,by go_num,?_,?_⟩
  ·rw[<- HWN.out];exact wL W n nq
  ·rw[HSG.out,Tq.out,gp,HP.out];rfl
 case measure=>exact Zcs):p:=h
theorem Zei(h:p:=by
 have HO:=hid (hown.later bW);have hG:av ((w2.alloc (.cells (kC ⟨d,a⟩).toArray 81)).alloc (.cells (kC ⟨d,a⟩).toArray 81)) (w2.heap.size+1) 81 (kC ⟨d,a⟩).toArray:=by have:=av.new (w2.alloc (.cells (kC ⟨d,a⟩).toArray 81)) 81 (kC ⟨d,a⟩).toArray;simpa using this
 exact KbZ):p:=h
theorem Zej(h:p:=by have HZ:=hid (av.new w 81 #[.int .u8 0,.string ⟨#[]⟩,.int .i64 0,.int .i64 0]);have bb:=aa w (.cells #[.int .u8 0,.string ⟨#[]⟩,.int .i64 0,.int .i64 0] 81);exact Kb0):p:=h
theorem Zek(h:p:=by simp only[aH] at this ⊢;exact this):p:=h
theorem Zel(h:p:=by have LK:=HA.out.res.later hW;have HXW:=HA.out.blk.later hW;have hqb:=LK.lt;obtain⟨z0,z1,z2,z3,z4,z5,z6⟩:=iy LK;obtain⟨y0,y1,y2,y3,y4,y5,y6⟩:=eV LK;obtain⟨x0,x1,x2,x3,x4,x5,x6⟩:=eE HXW;have eH:=hid LK;clear LK HXW;go_wp2_with fail;exact Kb1):p:=h
theorem Zem(h:p:=by
 have d0:w2.cell? ⟨b,0,none⟩=some (.pointer (some ⟨b,0,none⟩)):=by rw[Lib.cell_of_heap hb2];rfl
 have d1:w2.cell? ⟨b,1,none⟩=some v:=by rw[Lib.cell_of_heap hb2];rfl
 have f1:w2.frozen? ⟨b,1,none⟩=false:=Lib.frozen_of_heap hb2 1;exact Kb2):p:=h
theorem Zen(h:p:=by obtain⟨c0,c1,c2,d0,d1,d2,d3⟩:=hp;obtain⟨y0,y1,y2,z0,z1,z2,z3⟩:=hp2;obtain⟨x0,x1,x2,v0,v1,v2,v3⟩:=hp3;unfold zM at y0 y1 y2 z0 z1 z2 z3;exact Kb3):p:=h
theorem Zeo(h:p:=by simp only[pR,ha,hc,ux,Nat.reduceEqDiff,if_true,if_false];exact⟨k1,k2,k3,c,rfl,hB,λ x e=>by injection e with e;exact⟨G,cap,e1,e.symm⟩⟩):p:=h
theorem Zep(h:p:=by simp only[pR,ha,k1,k2,k3,Nat.reduceEqDiff,if_true,if_false];exact⟨trivial,trivial,trivial,λ x e=>by injection e with e;exact e.symm,hA⟩):p:=h
theorem Zeq(h:p:=by
 intro i z oo hz ho Wr s' n' dW hW hc;obtain⟨x,hx,rfl⟩:∃x,l[i]?=some x/\Tr.whole x=oo:=by simpa [getElem?_map] using ho
 have hr:=qm HA.out hx hz;have BI:=HF.out x (mem_of_getElem? hx);have AQ:=mO (mem_of_getElem? hx);exact Kb4):p:=h
theorem Zer(h:p:=by intro ρ w3 hc hL hr;have h0:_=_:=hr.1;exact ae (w':=w3) (by simp[go_sem,hc.const,h0,XE.out,ByteArray.toList_eq];done) ⟨af.refl _,rfl⟩):p:=h
theorem Zes(h:p:=by have x2:=(d2.blk HX.out my Tab).cell 2;have x3:=(d2.blk HX.out my Tab).cell 3;have x4:=(d2.blk HX.out my Tab).cell 4;have x5:=(d2.blk HX.out my Tab).cell 5;have x6:=(d2.blk HX.out my Tab).cell 6;exact Kb5):p:=h
theorem Zet(h:p:=by have Qp:=hC'.out.later b1;have pQ:=hid (af.then K6.out b1);have e1:=Qp.at_.cell 0;have e2:=Qp.er.cell 0;simp only[getElem?_toArray,getElem?_cons_zero] at e1 e2;have f1:=Qp.at_.frozen 0;have f2:=Qp.er.frozen 0;have hlt:=Qp.lt;exact Kb6):p:=h
theorem Zeu(h:p:=by go_wp2_with fail;refine(cH ⟨#[41]⟩ w7 H7.out.st Tab Ta2).mono ?_;rintro e w8 ⟨rfl,h8,d8⟩;have H8:=hid (H7.out.next hx hf h8 d8);clear h8 d8 H7;go_wp2_with fail;go_end0;refine⟨rfl,?_,H8.out.did⟩;exact Kb7):p:=h
theorem Zev(h:p:=by
 intro j u hu;have:(Addr.add ⟨g,0,none⟩ j)=⟨g,j,none⟩:=by unfold Addr.add;split <;> simp_all
 rw[this,hg.cell];simpa using hu):p:=h
theorem Zew(h:p:=by have eH:=hid (HC.out.2 m kA);have HG:=hid rO.out.did.grown;clear hp au kA rO HC;go_wp2_with fail;exact aj rfl (bD eH.out HG.out hg)):p:=h
theorem Zex(h:p:=by rcases hu with rfl | rfl | rfl | rfl | rfl | rfl | rfl | rfl <;> rfl):p:=h
theorem Zey(h:p:=by go_wp2_with fail;refine HF.out.mono ?_;rintro e w2 ⟨rfl,hg2⟩;exact aj rfl (GP.err HE.out ⟨rfl,ai HS.out.did.grown hg2⟩)):p:=h
theorem Zez(h:p:=by
 split at h
 ·injection h with h;injection h with h1 h2;subst h1;exact⟨⟨by simp,by simp⟩,λ e=>by simp at e⟩
 ·cases h):p:=h
theorem ZeA(h:p:=by
 have lx:=HD.out.size;have my:wr.heap.size≠b:=by have:=HS.out.lt;omega
 have pg:=hid (HS.out.later bx);have gb:=hid (HD.out.later bx hsz);exact Kb8):p:=h
theorem ZeB(h:p:=by
 have jy:=hid aC;have hgx:γ.ρ.g < w2.heap.size:=by have:=d2.lt;omega
 clear hp d2 aC HA HD p0;go_upto_region 1 with fail;generalize hW2:(w2.alloc _)=W2 at*;clear hW2;have p0:=(ia.out.grown F Ad.out).ptr;have hx2:=rN.out.lt;exact Kb9):p:=h
theorem ZeC(h:p:=by intro e w' hp;unfold mi at hp;rw[h] at hp;obtain⟨v,rfl,ho,hb⟩:=hp;obtain⟨A,c,rfl⟩:=ho.form;exact⟨A,c,rfl,ho,hb⟩):p:=h
theorem ZeD(h:p:=by rw[mem_singleton] at hc;subst hc;simp only[aL,UInt8.le_iff_toNat_le,Bool.and_eq_true,decide_eq_true_eq,hb];simp;omega):p:=h
theorem ZeE(h:p:=by
 have ru:=hid (HS.out.VA (w2:=wm) br HG Taa Taa (λ p hp=>by simp at hp));have qg:w1.heap.size < wm.heap.size:=by have:=RO.out;unfold mD at this;exact(Array.getElem?_eq_some_iff.mp this).1
 clear HM HG HS;exact Kca):p:=h
theorem ZeF(h:p:=by
 have:bJ v name width=false:=by
  cases hp:bJ v name width
  ·rfl
  ·exact absurd ⟨hn.trans hl.symm,hp⟩ hb2
 simp[this]):p:=h
theorem ZeG(h:p:=by have XO:=hid hd0;clear hd0;go_enter Tryz.func88,Tryz.ntmps88;go_wp2_with fail;refine HR.out.mono ?_;rintro e w1 ⟨rfl,b1⟩;go_wp2_with (go_at_call 105;refine(oI s[0] _).mono ?_;rintro e w' ⟨rfl,rfl⟩;rw[XO.out]);exact Kcb):p:=h
theorem ZeH(h:p:=by simp only[pR,ha,k1,k2,k3,Nat.reduceEqDiff,if_true,if_false];exact⟨trivial,trivial,trivial,k4,hA.call Ft hB0 hat dd⟩):p:=h
theorem ZeI(h:p:=by
 by_cases e:ar s l=true
 ·simp only[e,if_true]
 ·simp only[e];rfl):p:=h
theorem ZeJ(h:p:=by simp only[aJ,bj,Bool.and_eq_true] at h;have li:=eF h.1;exact ZbU):p:=h
theorem ZeK(h:p:=by rw[ha,h8,h10] at hG;obtain⟨_,_,_,c,_,hB,_⟩:=hG;exact dfr _ _ _ _ _ _ λ a' ha'=>uf a' w ha' ⟨a,hB.done⟩ hB.did):p:=h
theorem ZeL(h:p:=by
 rintro C a W' hdf ⟨rfl,hg⟩;have hE:tC γ.ρ γ.W0 (λ t=>decide (32 < t.depth)) eD (γ.acc fy 36) acc lg dp l (.panicked [sy (γ.ρ.placeOf m)]) W':=tC.err hx ⟨rfl,hg⟩;try simp only[Exit.inBlock,Exit.then]
 exact Kcc):p:=h
theorem ZeM(h:p:=by simp only[aJ,bj,Bool.and_eq_true] at h;exact jc h.1 no no no no):p:=h
theorem ZeN(h:p:=by simp only[pR,ha,hc,Nat.reduceEqDiff,if_true,if_false,Option.isSome_some];exact⟨k1,k2,k3,_,rfl,hB.elem Ft e7,k5⟩):p:=h
theorem ZeO(h:p:=by rwa [show zs.length=fuel+1 by omega] at this):p:=h
theorem ZeP(h:p:=by intro ρ w3 hc hL hr;exact Zap):p:=h
theorem ZeQ(h:p:=by
 rcases Nat.lt_or_ge at_ s.size with h | h
 ·exact h
 ·rw[drop_eq_nil_of_le Tam] at hd;cases hd):p:=h
theorem ZeR(h:p:=by
 rcases Nat.lt_or_ge s.size at_ with h | h
 ·rw[drop_eq_nil_of_le Tae] at hd;cases hd
 ·exact h):p:=h
theorem ZeS(h:p:=by clear Xb;go_wp2_with fail;refine(oh ly s at_ k g _ EY.out.1 hle hs).mono ?_;rintro e w' ⟨rfl,rfl⟩;exact ZaM):p:=h
theorem ZeT(h:p:=by clear hp aC HE;have HE:=cf;clear cf;have hX:=d.blk HA.out.blk Taf;have hc:xg.cell? ⟨b,17,none⟩=_:=hX.cell 17;have hf:xg.frozen? ⟨b,17,none⟩=_:=hX.frozen 17;exact Kcd):p:=h
theorem ZeU(h:p:=by clear hlb;go_wp2_with (go_at_call 93;refine(gU s[k] _).mono ?_;rintro e w' ⟨rfl,rfl⟩;rw[HD.out]);refine HN.out.mono ?_;unfold nc;rw[HE.out,Ug.out];rintro e w1 ⟨he,rfl⟩;rw[if_pos rfl] at he;subst he;exact Kce):p:=h
theorem ZeV(h:p:=by
 have Ip:l[k]?=some o:=by have:=congrArg (λ x=>x[0]?) hk;simpa using this
 have ajs:k < l.length:=by
  rcases Nat.lt_or_ge k l.length with h' | h'
  ·exact h'
  ·rw[getElem?_eq_none h'] at Ip;cases Ip
 exact Kcf):p:=h
theorem ZeW(h:p:=by intro ρ' w' hH hc h';simp[go_sem,h',hH.2]):p:=h
theorem ZeX(h:p:=by intro ρ' w' hc';simp[go_sem,hc'.const,dT]):p:=h
theorem ZeY(h:p:=by intro ρ' w' h';rw[<- E7];simp[go_sem,h']):p:=h
theorem ZeZ(h:p:=by simp only[pR,ha,k1,k2,k3,Nat.reduceEqDiff,if_true,if_false];exact⟨trivial,trivial,trivial,k4,hA.aei Ft⟩):p:=h
theorem Ze0(h:p:=by injection e with e;injection e with e1 e2;subst e1 e2;exact⟨hl2,uT (by simp[good,kQ]) (.inl Tad)⟩):p:=h
theorem Ze1(h:p:=by clear hp aC HE;have HE:=cf;clear cf;have hX:=d.blk HA.out.blk Taf;have hc:w15.cell? ⟨b,4,none⟩=_:=hX.cell 4;have hf:w15.frozen? ⟨b,4,none⟩=_:=hX.frozen 4;exact Kcg):p:=h
theorem Ze2(h:p:=by intro ρ w vs hc hG hr;rw[t0] at hr;have r0:=hr.1;simp only[s0] at r0;exact⟨g0,hfa ρ w (r0.trans hq)⟩):p:=h
theorem Ze3(h:p:=by intro ρ w vs hc hG hr;rw[t1] at hr;have r0:=hr.1;simp only[s1] at r0;exact⟨g1,Us ρ w r0 (Dp _ _ hG)⟩):p:=h
theorem Ze4(h:p:=by intro ρ w vs hc hG hr;rw[t2] at hr;have r0:=hr.1;simp only[s2] at r0;exact⟨g2,hmv ρ w (r0.trans h0)⟩):p:=h
theorem Ze5(h:p:=by go_enter Tryz.func104,Tryz.ntmps104;go_wp2_with fail;refine(oh FX s at_ at_ g _ (hL.alloc _) ha hs).mono ?_;rintro e w' ⟨rfl,rfl⟩;generalize hk:eA cq s.data.toList at_=k at*;have HK:=hid hk;clear hk;exact Kch):p:=h
theorem Ze6(h:p:=by intro ρ w vs hc hG hr;rw[t6] at hr;have r0:=hr.1;simp only[s6] at r0;exact⟨g6,YJ ρ w (r0.trans hq)⟩):p:=h
theorem Ze7(h:p:=by go_enter Tryz.func90,Tryz.ntmps90;go_wp2_with fail;generalize w.alloc (.cells #[.int .u8 v.k,.int .i64 v.n,.string v.s] 32)=W at*;refine(xJ v W).mono ?_;rintro e w1 ⟨rfl,b1⟩;rw[hg];go_wp2_with fail;exact Kci):p:=h
theorem Ze8(h:p:=by unfold zm;rw[hrun];exact(jw w hG).mono λ e w' ⟨y,he,hp⟩=>⟨val y,he,y,w,w',rfl,hG,hp,af.refl _⟩):p:=h
theorem Ze9(h:p:=by exact⟨λ hn=>(by rw[hg] at hn;cases hn),λ _=>rfl⟩):p:=h
theorem Zfa(h:p:=by simp only[Uaa] at IZ Ja Jb;exact Zc5):p:=h
theorem Zfb(h:p:=by rw[HA.out.name,zt.out] at this;exact Zb8):p:=h
theorem Zfc(h:p:=by simp only[aH] at this;exact this):p:=h
theorem Zfd(h:p:=by injection h with h;injection h with h1 h2;subst h2;rfl):p:=h
theorem Zfe(h:p:=by
 have hx:=Lp hres;have eH:=hid hres;have n1:((x:Int)==0)=false:=by rcases hx with rfl | rfl <;> rfl
 have n2:((x:Int) != 0)=true:=by rcases hx with rfl | rfl <;> rfl
 have n3:¬((x:Int)=0):=by omega
 exact Kcj):p:=h
theorem Zff(h:p:=by simp only[aH,ByteArray.data_append,Array.toList_append,toList_toArray] at this ⊢;exact this):p:=h
theorem Zfg(h:p:=by
 have hcell:=λ j v hv=>(hwr.cell (p:=⟨b,off+i*8+j,none⟩) (hS b kM)).trans (hc i x j v hx hv)
 have cr:=λ j v hv=>(hwr.cell (p:=⟨b2,fL+i*8+j,none⟩) (vM b2 rH)).trans (hc2 i u j v hu hv)
 exact Kck):p:=h
theorem Zfh(h:p:=by exact⟨rfl,rfl,rfl,rfl,rfl,[],.inl rfl,Tr.all_nil⟩):p:=h
theorem Zfi(h:p:=by exact ae (v:=.bool b14) (w':=w3) Tah ⟨af.refl _,rfl⟩):p:=h
theorem Zfj(h:p:=by
 intro i w w' v h hl
 match i with
 | 0 | 1 | 2 | 3 | 4 | 5 | 6 | 7 | 8 | 9=>exact h
 | n+10=>exact h):p:=h
theorem Zfk(h:p:=by
 intro ρ w3 hc hL hr;intro hg;have hg:ρ (.tmp 104)=.bool xU:=hg;cases xU
 ·exact Zae
 ·exact ZaB):p:=h
theorem Zfl(h:p:=by
 intro ρ w3 hc hL hr;intro hg;have hg:ρ (.tmp 111)=.bool CY:=hg;cases CY
 ·exact Zae
 ·exact ZaB):p:=h
theorem Zfm(h:p:=by exact ae (v:=.bool b1) (w':=w3) Tah ⟨af.refl _,rfl⟩):p:=h
theorem Zfn(h:p:=by exact ae (v:=.bool b2) (w':=w3) Tah ⟨af.refl _,rfl⟩):p:=h
theorem Zfo(h:p:=by exact ae (v:=.bool b3) (w':=w3) Tah ⟨af.refl _,rfl⟩):p:=h
theorem Zfp(h:p:=by exact ae (v:=.bool b4) (w':=w3) Tah ⟨af.refl _,rfl⟩):p:=h
theorem Zfq(h:p:=by exact ae (v:=.bool b5) (w':=w3) Tah ⟨af.refl _,rfl⟩):p:=h
theorem Zfr(h:p:=by exact ae (v:=.bool b6) (w':=w3) Tah ⟨af.refl _,rfl⟩):p:=h
theorem Zfs(h:p:=by exact ae (v:=.bool b7) (w':=w3) Tah ⟨af.refl _,rfl⟩):p:=h
theorem Zft(h:p:=by exact ae (v:=.bool b8) (w':=w3) Tah ⟨af.refl _,rfl⟩):p:=h
theorem Zfu(h:p:=by exact ae (v:=.bool b9) (w':=w3) Tah ⟨af.refl _,rfl⟩):p:=h
theorem Zfv(h:p:=by exact ae (v:=.bool xS) (w':=w3) Tah ⟨af.refl _,rfl⟩):p:=h
theorem Zfw(h:p:=by exact ae (v:=.bool xT) (w':=w3) Tah ⟨af.refl _,rfl⟩):p:=h
theorem Zfx(h:p:=by exact ae (v:=.bool xU) (w':=w3) Tah ⟨af.refl _,rfl⟩):p:=h
theorem Zfy(h:p:=by exact ae (v:=.bool CY) (w':=w3) Tah ⟨af.refl _,rfl⟩):p:=h
theorem Zfz(h:p:=by exact ae (v:=.bool vb) (w':=w3) (by rw[e2];simp[go_sem,h0,h1,q1,q2,q3];done) ⟨af.refl _,rfl⟩):p:=h
theorem ZfA(h:p:=by rw[h0] at hz;exact absurd hz Tad):p:=h
theorem ZfB(h:p:=by rintro e w2 ⟨rfl,h2,d2⟩;have H2:=hid (HH.out.next hg0 hg1 h2 d2);clear h2 d2 HH p0;exact Zbv):p:=h
theorem ZfC(h:p:=by
 intro ρ w3 hc hL hr;intro hg;have hg:ρ (.tmp 12)=.bool b0:=hg;cases b0
 ·exact Zae
 ·exact ZaB):p:=h
theorem ZfD(h:p:=by
 intro ρ w3 hc hL hr;intro hg;have hg:ρ (.tmp 19)=.bool b1:=hg;cases b1
 ·exact Zae
 ·exact ZaB):p:=h
theorem ZfE(h:p:=by
 intro ρ w3 hc hL hr;intro hg;have hg:ρ (.tmp 26)=.bool b2:=hg;cases b2
 ·exact Zae
 ·exact ZaB):p:=h
theorem ZfF(h:p:=by
 intro ρ w3 hc hL hr;intro hg;have hg:ρ (.tmp 33)=.bool b3:=hg;cases b3
 ·exact Zae
 ·exact ZaB):p:=h
theorem ZfG(h:p:=by
 intro ρ w3 hc hL hr;intro hg;have hg:ρ (.tmp 40)=.bool b4:=hg;cases b4
 ·exact Zae
 ·exact ZaB):p:=h
theorem ZfH(h:p:=by
 intro ρ w3 hc hL hr;intro hg;have hg:ρ (.tmp 49)=.bool b5:=hg;cases b5
 ·exact Zae
 ·exact ZaB):p:=h
theorem ZfI(h:p:=by
 intro ρ w3 hc hL hr;intro hg;have hg:ρ (.tmp 56)=.bool b6:=hg;cases b6
 ·exact Zae
 ·exact ZaB):p:=h
theorem ZfJ(h:p:=by
 intro ρ w3 hc hL hr;intro hg;have hg:ρ (.tmp 63)=.bool b7:=hg;cases b7
 ·exact Zae
 ·exact ZaB):p:=h
theorem ZfK(h:p:=by
 intro ρ w3 hc hL hr;intro hg;have hg:ρ (.tmp 70)=.bool b8:=hg;cases b8
 ·exact Zae
 ·exact ZaB):p:=h
theorem ZfL(h:p:=by
 have xh:=HW9.out;rw[HA.out.what] at xh;have hx:=HX.out;have Pk:=HXE.out;rw[hx] at Pk;rw[HA.out.what] at hx Pk;have V6:(!xe)= !(xO s.what== []):=by rw[<- Pk];cases xO s.what <;> rfl
 unfold BA;exact Kcl):p:=h
theorem ZfM(h:p:=by exact⟨0,Nat.zero_le _,rfl,nI.out⟩):p:=h
theorem ZfN(h:p:=by go_wp2_with fail;go_ret;have h1:=HB.out;rw[<- UM.out] at h1;exact⟨rfl,af.then h1 nI.out⟩):p:=h
theorem ZfO(h:p:=by exact ae (v:=.bool c13) (w':=w3) (by rw[e2];simp[go_sem,h0,h1,q3];done) ⟨af.refl _,rfl⟩):p:=h
theorem ZfP(h:p:=by exact ae (v:=.bool c14) (w':=w3) (by rw[e2];simp[go_sem,h0,h1,q3];done) ⟨af.refl _,rfl⟩):p:=h
theorem ZfQ(h:p:=by unfold Instr.mapUpdate;simp only[Sem.run_bind,run_underlying hT,Result.andThen_ok,MapKept.run_getObj_map hg,hk,Instr.findKey,run_underlying hK,hf,Sem.run_pure,MapKept.run_setObj_map _ hg];exact Kcm):p:=h
theorem ZfR(h:p:=by rw[hr] at hrun;injection hrun with _ hw;rw[<- hw];exact(af.drew w).alloc (Nat.le_refl _) _):p:=h
theorem ZfS(h:p:=by have t1:decide ((0:Int)<(k:Int))=true:=decide_eq_true Taa;have t2:decide (0 < k)=true:=decide_eq_true Taa;exact Kcn):p:=h
theorem ZfT(h:p:=by go_wp2_with fail;refine hm.mono ?_;clear hm;rintro e w5 ⟨rfl,d⟩;have EZ:=hid (qh.out.trans d);have HQ5:=hid (d.blk Fy.out Taa);clear d qh Fy;generalize hW5:w5=W5 at*;clear hW5;exact Kco):p:=h
theorem ZfU(h:p:=by exact⟨v',w',hrun,FB,hx.far rq hq Tab⟩):p:=h
theorem ZfV(h:p:=by simp only[aH,toList_toArray,cons_append,nil_append] at this ⊢;exact this):p:=h
theorem ZfW(h:p:=by clear hz;go_enter Tryz.func157,Tryz.ntmps157;go_wp2_with fail;go_ret2;exact OQ HB.out rfl):p:=h
theorem ZfX(h:p:=by simp only[Result.andThen];rw[Oper.upon_value];go_wp2_with fail;go_end0;exact⟨rfl,rfl⟩):p:=h
theorem ZfY(h:p:=by
 intro i w w' v h hl
 match i with
 | 0 | 1 | 2 | 3 | 4 | 5 | 6 | 7=>exact h
 | n+8=>exact h):p:=h
theorem ZfZ(h:p:=by rw[ha] at h;obtain⟨h1,h2,h3,c,h4,h5,h6⟩:=h;exact⟨h1,h2,h3,c,h4,h5.later F hb,h6⟩):p:=h
theorem Zf0(h:p:=by rw[append_assoc,append_assoc];show kK _=_;rw[<- append_assoc];exact this):p:=h
theorem Zf1(h:p:=by exact⟨y,w1,fc,h1,h2,h3,h4.trans (af.drew _)⟩):p:=h
theorem Zf2(h:p:=by exact ae (w':=w3) (by simp[go_sem,h0,k7,k8,k9,TI,TJ,TK,TL,TM];done) ⟨af.refl _,rfl⟩):p:=h
theorem Zf3(h:p:=by rintro e w4 ⟨rfl,b4⟩;exact⟨_,rfl,b4,rfl⟩):p:=h
theorem Zf4(h:p:=by intro ρ w3 hc hL hr;have h0:_=_:=hr.1;have k0:=(av.later H0.out.p hL).cell 0;exact Zav):p:=h
theorem Zf5(h:p:=by intro ρ w3 hc hL hr;have h0:_=_:=hr.1;have k0:=(av.later H1.out.p hL).cell 0;exact Zav):p:=h
theorem Zf6(h:p:=by
 have HQ:=hid (av.new w 36 #[.int .u8 0,.int .u8 0,.int .i64 0,.string ⟨#[]⟩,.string ⟨#[]⟩,.int .i64 0,.slice none 0 0]);have hsz:(w.alloc xB).heap.size=w.heap.size+1:=by simp
 exact Kcp):p:=h
theorem Zf7(h:p:=by go_ret3;unfold mi;rw[tX.out,ia.out.more,Od.out,Yz rfl];exact⟨v2,rfl,O2.out,B2.out⟩):p:=h
theorem Zf8(h:p:=by go_wp2_with fail;go_end0;refine⟨rfl,?_,D1.out⟩;rw[dD];exact H1.out.more Taa):p:=h
theorem Zf9(h:p:=by exact Rx.put br (Nat.le_refl _) (HA.out.did.later hW) (Tr.at_.keep (kT (Nat.le_refl _)) _ _ (Tr.at_.keep (iu hW) _ _ HA.out.tr))):p:=h
theorem Zga(h:p:=by rintro e w2 ⟨rfl,h2,d2⟩;have H2:=hid (HW.out.next hx hf h2 d2);clear h2 d2 HW x0 x1 x2 x3 x4 x5 x6 f0 f1;obtain⟨x0,x1,x2,x3,x4,x5,x6⟩:=H2.out.x.cells;dsimp only at x0 x1 x2 x3 x4 x5 x6;go_wp2_with fail;exact Kcq):p:=h
theorem Zgb(h:p:=by subst nR;have HT:=hid (mL HJ.out);have x0:=HX.out.cell 0;have x1:=HX.out.cell 1;have x2:=HX.out.cell 2;have x3:=HX.out.cell 3;have x4:=HX.out.cell 4;have x5:=HX.out.cell 5;have x6:=HX.out.cell 6;exact Kcr):p:=h
theorem Zgc(h:p:=by rw[ha] at hG;obtain⟨k1,k2,k3,k4,hA⟩:=hG;rw[ux] at hA;have hrun:=iq ρ w hcs r0;unfold zm;rw[hrun];refine(jw w (hA.no rfl).at_).mono ?_;rintro e w' ⟨y,rfl,hat,dd⟩;refine⟨eb y,rfl,?_⟩;exact Kcs):p:=h
theorem Zgd(h:p:=by
 have HQ:=hid (av.new w 36 dT);have HD:=hid (bh.aF h hb);have hsz:(w.alloc (.cells dT 36)).heap.size=w.heap.size+1:=by simp
 exact Kct):p:=h
theorem Zge(h:p:=by simp only[Uaa] at x0 x1 x2 x3 x4 x5 x6;go_wp2_with fail;exact Kcu):p:=h
theorem Zgf(h:p:=by obtain⟨x0,x1,x2,x3,x4,x5,x6⟩:=H1.out.x.cells;dsimp only at x0 x1 x2 x3 x4 x5 x6;have BX:=hw.trans H1.out.did.below;obtain⟨k0,k1,k2,k3,k4,k5,k6⟩:=A0.out.later BX;go_wp2_with fail;exact Kcv):p:=h
theorem Zgg(h:p:=by go_end0;exact tC.ok HE.out ⟨_,Qf.out⟩ Qg.out):p:=h
theorem Zgh(h:p:=by
 rw[HXL.out];by_cases hq:q=[48]
 ·exact hq
 ·exact absurd ⟨by rw[CF.out,Xb],hq⟩ hb):p:=h
theorem Zgi(h:p:=by
 have Fo:∀fn first cap w,(Instr.makeFunc fn first cap).run Tryz.prog w=.ok (.func fn first cap) w:=λ _ _ _ _=>rfl
 exact Kcw):p:=h
theorem Zgj(h:p:=by
 have anc:=Bn.out.lt;have OB:=(HB8.out.trans (aQ g1 Taa Taa)).trans (aQ g2 TaI Taa);refine Af Xe Ku.out rfl rfl rfl λ w' hb=>?_
 unfold mn;exact Kcx):p:=h
theorem Zgk(h:p:=by have HS:=hid (HB.out.go br d);clear hp aC d HB HE lH;have HE:=cf;clear cf;have p0:=HS.out.ptr;go_wp2_with fail;refine(ep ρ w1 l2 _ _ HS.out.did.at_).mono ?_;clear p0;intro e w3 hp;exact Kcy):p:=h
theorem Zgl(h:p:=by clear hs2 zr;go_wp2_with fail;go_end0;exact⟨rfl,by rw[jQ];exact vp.out,eZ.out⟩):p:=h
theorem Zgm(h:p:=by unfold aU at*;simp only[cons_append,nil_append] at eZ rN Ad;go_upto_region 1 with fail;generalize hW2:(w2.alloc _)=W2 at*;clear hW2;have p0:=(ia.out.grown F Ad.out).ptr;exact Kcz):p:=h
theorem Zgn(h:p:=by rw[cg];simp only[h,if_true]):p:=h
theorem Zgo(h:p:=by
 go_big_quiet_step ((go_at_call 16;exact gI (Nat.le_refl _) (BO _)));repeat (go_big_quiet_step (fail))
 refine wpQuiet_nil ?_;rintro V4 ⟨x9,Dt⟩;have wk:=x9.h;rw[<- Dt] at wk;exact KcA):p:=h
theorem Zgp(h:p:=by rw[cg];simp only[h];rfl):p:=h
theorem Zgq(h:p:=by intro ρ' w' G cap rQ oH;simp[go_sem,rQ,oH];intro hh;exact absurd hh Taa):p:=h
theorem Zgr(h:p:=by
 have wB:op=20\/op=22\/op=23\/op=24\/op=25\/op=26\/op=27\/op=28:=by unfold ko at hf;simp only[Bool.or_eq_true,Bool.and_eq_true,decide_eq_true_eq,beq_iff_eq] at hf;omega
 exact KcB):p:=h
theorem Zgs(h:p:=by exact cm br eZ.out jx.out jy.out):p:=h
theorem Zgt(h:p:=by rw[ha] at h;obtain⟨h1,h2,h3,h4,h5⟩:=h;exact⟨h1,h2,h3,h4,h5.later F hb⟩):p:=h
theorem Zgu(h:p:=by injection e with e;injection e with e1 e2;subst e1 e2;exact⟨sN hl,trivial⟩):p:=h
theorem Zgv(h:p:=by obtain⟨⟨l⟩⟩:=s;rw[ByteArray.toList_eq] at h;have h:l=[]:=h;subst h;rfl):p:=h
theorem Zgw(h:p:=by intro ρ w σ hcs hG hr he hno;rw[t6] at hr;have r0:=hr.1;simp only[BL] at r0;unfold mR at r0;rw[if_pos Tab] at r0;have r1:=hr.2.1;simp only[Mf] at r1;unfold mR at r1;exact KcC):p:=h
theorem Zgx(h:p:=by intro ρ w σ hcs hG hr he hno;rw[t7] at hr;have r0:=hr.1;simp only[JJ] at r0;unfold mR at r0;rw[if_pos Tab] at r0;have r1:=hr.2.1;simp only[E6] at r1;unfold mR at r1;exact KcD):p:=h
theorem Zgy(h:p:=by intro ρ' w' v' x' u' X5 rQ oH tE;exact Za7):p:=h
theorem Zgz(h:p:=by
 have c0:w1.cell? ⟨b,0,none⟩=some (.pointer (some ⟨b,0,none⟩)):=by rw[Lib.cell_of_heap xG];rfl
 have c1:w1.cell? ⟨b,1,none⟩=some v:=by rw[Lib.cell_of_heap xG];rfl
 exact KcE):p:=h
theorem ZgA(h:p:=by rw[hres] at hp;obtain⟨rfl,hat⟩:=hp;obtain⟨z0,z1,z2,z3,y0,y1,y2,y3⟩:=aO (hat.other BD.out.res hne);have jx:=hid hat;have eH:=hid hres;clear hres hat;go_wp2_with fail;exact KcF):p:=h
theorem ZgB(h:p:=by clear hb HA;unfold aR strOf at hm HB;simp only[map_cons,map_nil] at hm HB;rw[show aM.toArray= #[41] from rfl] at hm HB;go_wp2_with fail;refine hm.mono ?_;clear hm;exact KcG):p:=h
theorem ZgC(h:p:=by exact .Cn (Hk _ PZ) (λ r hr=>by rw[hwd,e];exact l1 r hr) ⟨_,_,hwd,l2⟩):p:=h
theorem ZgD(h:p:=by rw[Array.getElem?_eq_none FO] at h;cases h):p:=h
theorem ZgE(h:p:=by rintro e w3 ⟨rfl,h3,d3⟩;have H3:=hid h3;have D3:=hid (D2.out.trans d3);clear h3 d3 H2 D2 x0 x1 x2 x3 x4 x5 x6 x7 p0;go_wp2_with fail;go_end0;refine⟨rfl,?_,D3.out⟩;exact KcH):p:=h
theorem ZgF(h:p:=by rw[getElem?_eq_none h'] at h;cases h):p:=h
theorem ZgG(h:p:=by exact ae (PZ ρ w (r0.trans Me) (A.later Ft hG).ptr) ⟨af.refl _,rfl⟩):p:=h
theorem ZgH(h:p:=by exact ae (w':=w3) (by simp[go_sem,h0,TN,TP,TR];done) ⟨af.refl _,rfl⟩):p:=h
theorem ZgI(h:p:=by go_wp2_with fail;refine HK.out _ _ (HO.out _ _ ⟨rfl,rfl,rfl⟩ H3.out)):p:=h
theorem ZgJ(h:p:=by refine wp_region_lit ?_;refine iF rfl 34 #[] rfl (cs:=z0) (by simpa using HZ.out) ?_;simp only[Act.put,Uac];exact KcI):p:=h
theorem ZgK(h:p:=by intro a' w' hdf pP hdd;have hE:tC γ.ρ γ.W0 (λ t=>decide (32 < t.depth)) eD (γ.acc fy 36) acc lg dp l (.returned (.tuple #[])) w':=tC.ok hx pP hdd;go_wp2_with fail;exact KcJ):p:=h
theorem ZgL(h:p:=by go_wp2_with fail;go_ret;refine⟨kJ ?_,rfl⟩;rw[HS.out,vu hle];rw[HD.out,bU,HB.out,if_neg Tab,if_neg];exact KcK):p:=h
theorem ZgM(h:p:=by rw[ye];exact MN hx (hE.e3 (Nat.le_refl _)).2 (hE.e3 (Nat.le_refl _)).1):p:=h
theorem ZgN(h:p:=by subst h0;simp at hx):p:=h
theorem ZgO(h:p:=by subst h0;simp at hu):p:=h
theorem ZgP(h:p:=by clear hl;go_wp2_with fail;go_ret2;exact⟨by rw[HR.out];rfl,B1.out⟩):p:=h
theorem ZgQ(h:p:=by
 have HQ:=hid hq;have t1:(((s[k].toNat:Nat):Int)==39)=false:=by rw[beq_eq_false_iff_ne];intro h;exact hq (UInt8.toNat_inj.1 (by simpa using(by omega:s[k].toNat=39)))
 exact KcL):p:=h
theorem ZgR(h:p:=by skip;have kh:=hid (show false=C by rw[HC.out];simp[kX,c4]);exact Zaq):p:=h
theorem ZgS(h:p:=by simp only[Nat.add_zero] at k0;have HJ:=hid hoi;clear hcell hc hz hoi hwr;subst mg;go_upto_region 4 with fail;exact KcM):p:=h
theorem ZgT(h:p:=by exact ae (w':=w3) (by simp[go_sem,h0,k20];done) ⟨af.refl _,rfl⟩):p:=h
theorem ZgU(h:p:=by exact ae (w':=w3) (by simp[go_sem,h0,k19];done) ⟨af.refl _,rfl⟩):p:=h
theorem ZgV(h:p:=by exact ae (w':=w3) (by simp[go_sem,h0,k21];done) ⟨af.refl _,rfl⟩):p:=h
theorem ZgW(h:p:=by exact ae (w':=w3) (by simp[go_sem,h0,k15];done) ⟨af.refl _,rfl⟩):p:=h
theorem ZgX(h:p:=by go_ret;exact⟨by rw[HGM.out];rfl,by rw[<- HGM.out];exact hM,kg⟩):p:=h
theorem ZgY(h:p:=by unfold cT;rw[length_append,flatMap_append];simpa using h2):p:=h
theorem ZgZ(h:p:=by go_wp2_with fail;have bb:=aa w (.cells #[.int .u8 v.k,.int .i64 v.n,.string v.s] 32);generalize w.alloc (.cells #[.int .u8 v.k,.int .i64 v.n,.string v.s] 32)=W at*;exact KcN):p:=h
theorem Zg0(h:p:=by exact ae (w':=w3) (by simp[go_sem,h0,k2];done) ⟨af.refl _,rfl⟩):p:=h
theorem Zg1(h:p:=by exact ae (w':=w3) (by simp[go_sem,h0,k3];done) ⟨af.refl _,rfl⟩):p:=h
theorem Zg2(h:p:=by exact ae (w':=w3) (by simp[go_sem,h0,k4];done) ⟨af.refl _,rfl⟩):p:=h
theorem Zg3(h:p:=by exact ae (w':=w3) (by simp[go_sem,h0,k5];done) ⟨af.refl _,rfl⟩):p:=h
theorem Zg4(h:p:=by exact ae (w':=w3) (by simp[go_sem,h0,k6];done) ⟨af.refl _,rfl⟩):p:=h
theorem Zg5(h:p:=by
 intro l;have h:=this l
 match l with
 | []=>exact h
 | t::r=>exact h):p:=h
theorem Zg6(h:p:=by rintro e w1 ⟨rfl,b1⟩;have pg:=hid (HS.out.later b1);have gb:=hid (HD.out.later b1 hsz);have pQ:=hid (HB.out.later b1);clear HS HD HB b1 x0 x1 x2 x3 x4 x5 x6;exact KcO):p:=h
theorem Zg7(h:p:=by have x1:w3.cell? ⟨g1,1,none⟩=some (.string y.name):=H3.out.q.cell 1;have p0:w3.cell? ⟨g0,0,none⟩=some (.pointer (some ⟨b,0,none⟩)):=H3.out.p.cell 0;exact KcP):p:=h
theorem Zg8(h:p:=by have kh:=hid (show false=C by rw[HC.out];simp[kX,c3]);exact Zaq):p:=h
theorem Zg9(h:p:=by have kh:=hid (show false=C by rw[HC.out];simp[kX,c2]);exact Zaq):p:=h
theorem Zha(h:p:=by rw[ha] at hG;obtain⟨_,_,_,c,hc,_⟩:=hG;rw[ux] at hc;cases hc):p:=h
theorem Zhb(h:p:=by exact⟨y,w1,fc,g0,h1,h2,h3,h4,h5.trans (af.drew _),h6.drew⟩):p:=h
theorem Zhc(h:p:=by rcases hu with rfl | rfl | rfl | rfl | rfl | rfl | rfl <;> rfl):p:=h
theorem Zhd(h:p:=by intro ρ' w' A1 n1 c1 rQ oH hc' hf';simp[go_sem,rQ,oH,hc',hf']):p:=h
theorem Zhe(h:p:=by rw[ha] at hG;obtain⟨_,_,_,c,_,hB,_⟩:=hG;exact hB.vF.cell 0):p:=h
theorem Zhf(h:p:=by
 obtain⟨r',tE⟩:=hg _ rfl;injection tE with hu hr2;subst hu;have xc:bd < 0:=by simpa [eu.pn] using fG
 have HP:=hid hp;have c2:=hp.c2;have alz:=HA.out.blk.lt;exact KcQ):p:=h
theorem Zhg(h:p:=by have HZ:=hid ((av.new w 81 #[.int .u8 0,.string ⟨#[]⟩,.int .i64 0,.int .i64 0]).alloc (.cells (signs.map λ l=>Value.string ⟨l.toArray⟩).toArray 9));exact KcR):p:=h
theorem Zhh(h:p:=by unfold Oper.wp execOp;simp only[ho,resolve,invoke,builtin,Sem.run_bind,Sem.run_pure,Result.andThen_ok,map_toArray,map_cons,map_nil,hs,hx,hrun];exact KcS):p:=h
theorem Zhi(h:p:=by simp[results,Tryz.results181,go_sem,r0,r1,r2,r3,r4,r5,r6];rfl):p:=h
theorem Zhj(h:p:=by unfold aR strOf at hm HB;simp only[map_cons,map_nil] at hm HB;rw[show nB.toArray= #[98,121] from rfl] at hm HB;go_wp2_with fail;refine hm.mono ?_;clear hm p0;exact KcT):p:=h
theorem Zhk(h:p:=by exact⟨rfl,hq▸OB.trans (hb.mono (by have:=Xe.lt;omega))⟩):p:=h
theorem Zhl(h:p:=by unfold aR strOf at hm HB;simp only[map_cons,map_nil] at hm HB;rw[show cD.toArray= #[102,114,111,109] from rfl] at hm HB;go_wp2_with fail;refine hm.mono ?_;exact KcU):p:=h
theorem Zhm(h:p:=by clear hb HA;unfold aR strOf at hm HB;simp only[map_cons,map_nil] at hm HB;rw[show cx.toArray= #[101,118,101,114,121] from rfl] at hm HB;go_wp2_with fail;refine hm.mono ?_;exact KcV):p:=h
theorem Zhn(h:p:=by
 clear hX d HA;have HA:=fH;clear fH;unfold cd kL fN fZ at hc;try unfold fN
 go_upto_region 16 with fail;clear hc hf;exact KcW):p:=h
end Go.Proofs.YtehhdlgjfdnafaaGreatDoor
