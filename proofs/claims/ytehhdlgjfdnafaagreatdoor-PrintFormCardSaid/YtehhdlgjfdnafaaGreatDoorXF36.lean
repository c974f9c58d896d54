/- Parts of the proof. -/
import Derived.Test.YtehhdlgjfdnafaaGreatDoorXF34
namespace Go.Proofs.YtehhdlgjfdnafaaGreatDoor
variable{p:Prop}
set_option maxHeartbeats 90000000
set_option maxRecDepth 100000
open Go.Lib (hid)
open Go.ChangeShapes Go.WideShapes Go.ChangeAt Go.RowKit Go.Shelf List
set_option linter.unusedVariables false
set_option linter.unusedSimpArgs false
variable{w0:World}{b n m:Nat}{s0:Option aX}{S:Nat->Prop}{s:St}{y:gT}
theorem zb6.Kar(h:p:=by
 have en:∀args w,(callFunc 45 args).run Tryz.prog w=.ok (.enter 45 args) w:=enters_of Tryz.func45 Tac rfl;have EN:=hid en;have HL:=hid vU;have HY:=hid hlen;have HR:=hid hR;have HC:=hid YY;clear en vU hlen hR YY;have hrc:=Dq (·.2) s.bF;have iq:(s.bF.map λ x=>x.2.cost).length=y.bF.n:=by rw[length_map,HL.out]
 rw[iq] at hrc;have hcn:=jI (s.bF.map (·.2));have HRC:=hid hrc;have Ds:=hid iq;have ki:=ft (s.bF.map (·.2));rw[length_map] at ki;clear hrc iq;have Zf:w4.cell? ⟨g1,20,none⟩=some (.slice y.bF.A y.bF.n y.bF.c):=H4.out.q.cell 20;have p0:w4.cell? ⟨g0,0,none⟩=some (.pointer (some ⟨b,0,none⟩)):=H4.out.p.cell 0;go_wp2_with fail;refine(Uv (λ i=>(s.bF.map λ x=>x.2.cost).getD i 0+2) (gB (s.bF.map λ x=>x.2.cost)) 45 #[] #[.pointer (some ⟨g0,0,none⟩)] EN.out y.bF.A y.bF.c y.bF.n ys (s.bF.map Bz) S hS Tbj Tat HR.out w4 H4.out.st H4.out.hw (jU _) (λ i hi=>vA _ 2 Tab i Tap) (λ i hi=>by have:=rk (s.bF.map λ x=>x.2.cost) i Tap;rw[Ds.out] at this;exact this) (by rw[HRC.out];omega) TaS (λ i z oo hz ho Wr s' n' dW hW hc=>by
  obtain⟨x,hx,rfl⟩:∃x,s.bF[i]?=some x/\Bz x=oo:=by simpa [getElem?_map] using ho
  have hr:=qm HC.out hx hz
  have X6:=mem_of_getElem? hx
  have BI:=HF.out.bF x X6
  have hnr:=mO (List.mem_map.2 ⟨x,X6,rfl⟩:x.2∈s.bF.map (·.2))
  rw[Dr (·.2) hx] at hc ⊢
  have zP:Bz x=aq (dz z.1) (aq (some [32,61,32]) x.2.whole):=by unfold Bz;rw[hr.1]
  rw[zP,<- Nat.add_assoc]
  exact YS hE z (by rw[hr.1];exact BI.2.2) (Tr.xf hE hS x.2 z.2 hr.2 BI.1 BI.2.1 Taa) Wr hW (H4.out.hw.trans dW.below) (dW.blk H4.out.p hg0 Tab) hg0 Taa)).mono ?_
 rintro e w5 ⟨rfl,h2,d2⟩;rw[HRC.out] at h2;have H5:=hid (H4.out.next hg0 hg1 h2 d2);clear h2 d2 H4 p0 Zf;have Zg:w5.cell? ⟨g1,21,none⟩=some (.slice y.aS.A y.aS.n y.aS.c):=H5.out.q.cell 21;have p0:w5.cell? ⟨g0,0,none⟩=some (.pointer (some ⟨b,0,none⟩)):=H5.out.p.cell 0;go_wp2_with fail;refine(qp hE hS ⟨#[87,72,69,82,69]⟩ y.aS s.aS HA.out.aS HF.out.aS Taa Tab w5 H5.out.st H5.out.hw (by have:=rp s.aS;omega)).mono ?_;rintro e w6 ⟨rfl,h2,d2⟩;have H6:=hid (H5.out.next hg0 hg1 h2 d2);clear h2 d2 H5 p0 Zg;have iq:=rp s.aS;go_wp2_with fail;go_end0;refine⟨rfl,?_,H6.out.did⟩;have:=H6.out.st.more (show n+3+1+Tr.costs (s.bF.map (·.2))+3+sX s.aS<=n+(13*Tr.aG s.exprs+4*s.bg.length+3*s.rows.length+80) by omega);exact Zfb):p:=h
theorem ze5.Kbo(h:p:=by refine(cH ⟨#[32,83,69,84,32]⟩ w3 H3.out.st Tab Taa).mono ?_;rintro e w4 ⟨rfl,h2,d2⟩;have H4:=hid (H3.out.next hg0 hg1 h2 d2);clear h2 d2 H3 p0;obtain⟨vU,ys,hR,YY⟩:=HA.out.bF;have hlen:List.length (α:=ByteArray×Ex) ys=s.bF.length:=YY.len;open zb6 in exact ZaG):p:=h
theorem zc5.KaI(h:p:=by refine(mP hE ⟨#[85,80,68,65,84,69]⟩ y.name w2 H2.out.st H2.out.hw Tab Tan Taa).mono ?_;open ze5 in exact ZcE):p:=h
theorem zaf.Kaa(h:p:=by
 have x0:oQ.cell? ⟨g1,0,none⟩=some (.int .u8 6):=by have:=H0.out.q.cell 0;rw[show(cd y).toArray[0]?=some (.int .u8 y.kind)from rfl,nJ] at this;exact this
 clear nJ hk;go_upto_region 22 with fail;have cn:w0.heap.size<=w.heap.size:=by rw[jJ.out];exact dS.out
 refine cX 8 (zS b g1 y tt) (BJ _ _ _ _) Tac Tac Tac ?_ ?_
 ·simp only[take_succ_cons,take_zero];refine⟨Zbr,ZaU,ZbB,?_,ZbB,ZcW,?_,?_,trivial⟩
  ·intro ρ w3 hc hL hr;have h0:_=_:=hr.1;have k20:w3.cell? ⟨g1,20,none⟩=some (.slice y.bF.A y.bF.n y.bF.c):=(av.later H0.out.q hL).cell 20;exact ZgT
  ·intro ρ w3 hc hL hr;have h0:_=_:=hr.1;have h1:_=_:=hr.2.1;exact ae (w':=w3) (ie rfl (by simp only[map_toArray,map_cons,map_nil,h0,h1];exact LG y)) ⟨af.refl _,rfl⟩
  ·intro ρ w3 hc hL hr;have h0:_=_:=hr.1;have h1:_=_:=hr.2.1;have e1:=hc.func 37;refine dU (f:=37) (args:= #[.agg (cd y).toArray,.agg (cd (eW y false false false false false false true true false)).toArray]) (w':=w3) Tar ?_;exact Zb6
 intro W2 hL;simp only[Uab];rintro _ rfl a1 - a2 - a3 - a4 - a5 - a6 - _ rfl;open zc5 in exact Za9):p:=h
theorem Pm(hE:dM w0) (hS:∀b,S b->b < w0.heap.size)  (h:s.at_ w0 S y)(hf:s.mB m)(hm:m<=1048576)(w:World)(hst:eR w0.heap.size b s0 n w)(hw:Below w0.heap.size w0 w)(hk:s.kind=6)(hn:n+s.cost<=49999000):
  Calls Tryz.prog 19 #[.pointer (some ⟨b,0,none⟩),mK y] w (bk w0.heap.size b (aq s0 (ct s)) (n+s.cost) w):=by
 rw[show ct s=aq (bl (cY s false false false false false false true true false)) (aq (some [85,80,68,65,84,69,32]) (aq (dz s.name) (aq (some [32,83,69,84,32]) (aq (dL (s.bF.map Bz)) (dX [87,72,69,82,69] s.aS))))) by unfold ct;rw[hk];rfl];have nJ:y.kind=6:=by rw[h.kind,hk]
 unfold St.cost at hn ⊢;have KF:=gF s;have AQ:=hf.nodes;have hlt:=hst.lt;have hsz:=hst.size;obtain⟨tt,py⟩:∃tt,tt=cY s false false false false false false true true false:=⟨_,rfl⟩;have TT:=hid (λ W=>gD h hf hm false false false false false false true true false W);rw[<- py] at TT;unfold mK at TT;have zt:=hid py;clear py;open zaf in exact Zaa
theorem zc6.KaI(h:p:=by refine(mP hE ⟨#[68,69,76,69,84,69,32,70,82,79,77]⟩ y.name w2 H2.out.st H2.out.hw Tab Tan Taa).mono ?_;rintro e w3 ⟨rfl,h2,d2⟩;have H3:=hid (H2.out.next hg0 hg1 h2 d2);clear h2 d2 H2 p0 x1;have Zg:w3.cell? ⟨g1,21,none⟩=some (.slice y.aS.A y.aS.n y.aS.c):=H3.out.q.cell 21;have p0:w3.cell? ⟨g0,0,none⟩=some (.pointer (some ⟨b,0,none⟩)):=H3.out.p.cell 0;go_wp2_with fail;refine(qp hE hS ⟨#[87,72,69,82,69]⟩ y.aS s.aS HA.out.aS HF.out.aS Taa Tab w3 H3.out.st H3.out.hw (by have:=rp s.aS;omega)).mono ?_;rintro e w4 ⟨rfl,h2,d2⟩;have H4:=hid (H3.out.next hg0 hg1 h2 d2);clear h2 d2 H3 p0 Zg;have iq:=rp s.aS;go_wp2_with fail;go_end0;refine⟨rfl,?_,H4.out.did⟩;have:=H4.out.st.more (show n+3+3+sX s.aS<=n+(13*Tr.aG s.exprs+4*s.bg.length+3*s.rows.length+80) by omega);exact Zfb):p:=h
theorem zag.Kaa(h:p:=by
 have x0:oQ.cell? ⟨g1,0,none⟩=some (.int .u8 7):=by have:=H0.out.q.cell 0;rw[show(cd y).toArray[0]?=some (.int .u8 y.kind)from rfl,nJ] at this;exact this
 clear nJ hk;go_upto_region 28 with fail;have cn:w0.heap.size<=w.heap.size:=by rw[jJ.out];exact dS.out
 refine cX 6 (Dy b g1 y tt) (Dz _ _ _ _) Tac Tac Tac ?_ ?_
 ·simp only[take_succ_cons,take_zero];refine⟨Zbr,ZaU,ZbB,ZcW,?_,?_,trivial⟩
  ·intro ρ w3 hc hL hr;have h0:_=_:=hr.1;exact ae (w':=w3) (ie rfl (by simp only[map_toArray,map_cons,map_nil,h0];exact Pf y)) ⟨af.refl _,rfl⟩
  ·intro ρ w3 hc hL hr;have h0:_=_:=hr.1;have h1:_=_:=hr.2.1;have e1:=hc.func 37;refine dU (f:=37) (args:= #[.agg (cd y).toArray,.agg (cd (eW y false false false false false false false true false)).toArray]) (w':=w3) Tar ?_;exact Zb6
 intro W2 hL;simp only[Uab];rintro _ rfl a1 - a2 - a3 - a4 - _ rfl;open zc6 in exact Za9):p:=h
theorem Pn(hE:dM w0) (hS:∀b,S b->b < w0.heap.size)  (h:s.at_ w0 S y)(hf:s.mB m)(hm:m<=1048576)(w:World)(hst:eR w0.heap.size b s0 n w)(hw:Below w0.heap.size w0 w)(hk:s.kind=7)(hn:n+s.cost<=49999000):
  Calls Tryz.prog 19 #[.pointer (some ⟨b,0,none⟩),mK y] w (bk w0.heap.size b (aq s0 (ct s)) (n+s.cost) w):=by
 rw[show ct s=aq (bl (cY s false false false false false false false true false)) (aq (some [68,69,76,69,84,69,32,70,82,79,77,32]) (aq (dz s.name) (dX [87,72,69,82,69] s.aS))) by unfold ct;rw[hk];rfl];have nJ:y.kind=7:=by rw[h.kind,hk]
 unfold St.cost at hn ⊢;have KF:=gF s;have AQ:=hf.nodes;have hlt:=hst.lt;have hsz:=hst.size;obtain⟨tt,py⟩:∃tt,tt=cY s false false false false false false false true false:=⟨_,rfl⟩;have TT:=hid (λ W=>gD h hf hm false false false false false false false true false W);rw[<- py] at TT;unfold mK at TT;have zt:=hid py;clear py;open zag in exact Zaa
def Rw:List (Int×Value):=[(1,dI [84,65,66,76,69]),(2,dI [86,73,69,87]),(3,dI [74,79,66])]
theorem Pp (k:Int):(Rw.lookup k).getD (dI [])=dI (oa k):=by
 by_cases h:k=1
 ·subst h;rfl
 by_cases h2:k=2
 ·subst h2;rfl
 by_cases h3:k=3
 ·subst h3;rfl
 rw[xP Rw k (by intro x hx;simp[Rw] at hx;rcases hx with rfl | rfl | rfl <;>(dsimp only;omega))];unfold oa;rw[if_neg h,if_neg h2,if_neg h3];rfl
theorem Zh (k:Int):(oa k).length<=5:=by
 unfold oa;split
 ·decide
 split
 ·decide
 split <;> decide
def dv0 (b g:Nat)(y:gT)(X:List UInt8):Nat->World->Value->Prop
 | 0,_,v=>v=.pointer (some ⟨b,0,none⟩)
 | 1,_,v=>v=.string ⟨X.toArray⟩
 | 2,_,v=>v=.bool false
 | 3,_,v=>v=.bool false
 | 4,_,v=>v=undef
 | 5,_,v=>v=undef
 | 6,_,v=>v=undef
 | 7,_,v=>v=undef
 | 8,_,v=>v=undef
 | 9,_,v=>v=.bool false
 | _,_,_=>False
theorem UE (b g:Nat)(y:gT)(X:List UInt8):∀i w w' v,dv0 b g y X i w v->af w w'->dv0 b g y X i w' v:=by exact Zfj
def dv1 (b g:Nat)(y:gT)(X:List UInt8)(tt:Bool):Nat->World->Value->Prop
 | 0,_,v=>v=.pointer (some ⟨b,0,none⟩)
 | 1,_,v=>v=.string ⟨X.toArray⟩
 | 2,_,v=>v=.bool true
 | 3,_,v=>v=.bool true
 | 4,_,v=>v=.agg (cd y).toArray
 | 5,_,v=>v=.pointer (some ⟨g,15,none⟩)
 | 6,_,v=>v=.int .u8 y.what
 | 7,_,v=>v=.agg (cd (eW y false false false true false false false false false)).toArray
 | 8,_,v=>v=.bool tt
 | 9,_,v=>v=.bool tt
 | _,_,_=>False
theorem UF (b g:Nat)(y:gT)(X:List UInt8)(tt:Bool):∀i w w' v,dv1 b g y X tt i w v->af w w'->dv1 b g y X tt i w' v:=by exact Zfj
theorem zcv.Kax(h:p:=by rw[show(!(X== [])&& tt)=false by rw[XE.out];rfl];exact Zff):p:=h
theorem zcw.Kax(h:p:=by rw[show(!(X== [])&& tt)=tt by cases X with | nil=>exact absurd rfl XE.out | cons a l=>rfl];exact Zff):p:=h
theorem zfm.Kbv(h:p:=by refine(bp false W2 H2.out.st).mono ?_;open zcv in exact ZaQ):p:=h
theorem zfn.Kbv(h:p:=by refine(bp tt W2 H2.out.st).mono ?_;open zcw in exact ZaQ):p:=h
theorem zfH.KbF(h:p:=by exact ae (w':=w3) (jW rfl h0 (av.later H1.out.q hL) Tryz.underlying34 (kD y)) ⟨af.refl _,rfl⟩):p:=h
theorem zfI.KbF(h:p:=by have k15:w3.cell? ⟨g1,15,none⟩=some (.int .u8 y.what):=(av.later H1.out.q hL).cell 15;exact ZgW):p:=h
theorem zfJ.KbF(h:p:=by exact ae (w':=w3) (ie rfl (by simp only[map_toArray,map_cons,map_nil,h0];exact Ux y)) ⟨af.refl _,rfl⟩):p:=h
theorem zfK.KbF(h:p:=by have h1:_=_:=hr.2.1;have e1:=hc.func 37;refine dU (f:=37) (args:= #[.agg (cd y).toArray,.agg (cd (eW y false false false true false false false false false)).toArray]) (w':=w3) Tar ?_;exact Zb6):p:=h
theorem zgf.KbS(h:p:=by
 replace hM:jo _ gm Rw:=hM;rw[kZ Tryz.underlying92 Tryz.underlying5 hM y.what (z:=dI []) (λ w=>by kernel_rfl),Pp,<- HX.out];simp only[Result.andThen];rw[Oper.upon_value];unfold dI;have H1:=hid (H0.out.later (by rw[jJ.out];exact dS.out) kg);clear hM kg Pj X15 hle H0;obtain⟨w1,BX⟩:∃x,x=wm:=⟨_,rfl⟩;subst BX;go_upto_region 14 with fail;by_cases Pk:X=[]
 ·have XE:=hid Pk;clear Pk;have cn:w0.heap.size<=w.heap.size:=by rw[jJ.out];exact dS.out
  refine cX 10 (dv0 b g1 y X) (UE _ _ _ _) Tac Tac Tac ?_ ?_
  ·simp only[take_succ_cons,take_zero];refine⟨Zf5,ZbB,Zer,ZbB,ZbD,ZbD,ZbD,ZbD,ZbD,ZbR,trivial⟩
  open zfm in exact ZcX
 ·have XE:=hid Pk;clear Pk;have cn:w0.heap.size<=w.heap.size:=by rw[jJ.out];exact dS.out
  refine cX 10 (dv1 b g1 y X tt) (UF _ _ _ _ _) Tac Tac Tac ?_ ?_
  ·simp only[take_succ_cons,take_zero];refine⟨Zf5,ZbB,Zer,ZbB,?_,?_,?_,?_,?_,ZbR,trivial⟩
   ·open zfH in exact Zdl
   ·intro ρ w3 hc hL hr;intro hg;have hg:ρ (.tmp 50)=.bool true:=hg;refine⟨λ _=>?_,λ hn=>absurd hg hn⟩;exact Zap
   ·open zfI in exact Zdl
   ·open zfJ in exact Zdl
   ·open zfK in exact Zdl
  open zfn in exact ZcX):p:=h
theorem zah.Kaa(h:p:=by
 have x0:oQ.cell? ⟨g1,0,none⟩=some (.int .u8 4):=by have:=H0.out.q.cell 0;rw[show(cd y).toArray[0]?=some (.int .u8 y.kind)from rfl,nJ] at this;exact this
 clear nJ hk;have Fw:oQ.cell? ⟨g1,15,none⟩=some (.int .u8 y.what):=H0.out.q.cell 15;go_upto_region 13 with fail;refine wp_region_lit ?_;refine fD rfl 92 rfl ?_;have hM:=jo.new oQ;have kg:Below oQ.heap.size oQ (oQ.alloc (.map #[] 0)):=aa oQ (.map #[] 0);obtain⟨gm,qg⟩:∃gm,gm=oQ.heap.size:=⟨_,rfl⟩;rw[<- qg] at hM ⊢;have hle:oQ.heap.size<=gm:=Nat.le_of_eq qg.symm;have Pj:=(kg.cell (p:=⟨g1,15,none⟩) (ax Fw)).trans Fw;have X15:=hid Fw;clear qg Fw x0;generalize oQ.alloc _=W0 at*;obtain⟨X,hX⟩:∃X,X=oa y.what:=⟨_,rfl⟩;have HX:=hid hX;have hXl:X.length<=5:=by rw[hX];exact Zh _
 open zgf in exact Zd3):p:=h
theorem Zi(hE:dM w0) (hS:∀b,S b->b < w0.heap.size)  (h:s.at_ w0 S y)(hf:s.mB m)(hm:m<=1048576)(w:World)(hst:eR w0.heap.size b s0 n w)(hw:Below w0.heap.size w0 w)(hk:s.kind=4)(hn:n+s.cost<=49999000):
  Calls Tryz.prog 19 #[.pointer (some ⟨b,0,none⟩),mK y] w (bk w0.heap.size b (aq s0 (ct s)) (n+s.cost) w):=by
 rw[show ct s=aq (bl (!(oa s.what== [])&& cY s false false false true false false false false false)) (aq (some ([68,82,79,80,32]++oa s.what++ [32])) (dz s.name)) by unfold ct;rw[hk];rfl];have nJ:y.kind=4:=by rw[h.kind,hk]
 unfold St.cost at hn ⊢;have KF:=gF s;have AQ:=hf.nodes;have hlt:=hst.lt;have hsz:=hst.size;obtain⟨tt,py⟩:∃tt,tt=cY s false false false true false false false false false:=⟨_,rfl⟩;have TT:=hid (λ W=>gD h hf hm false false false true false false false false false W);rw[<- py] at TT;unfold mK at TT;have zt:=hid py;clear py;open zah in exact Zaa
theorem GC:∀rs:List (List Tr),gB (rs.map Tr.costs) (rs.map Tr.costs).length<=13*Tr.aG rs.flatten+3*rs.length
 | []=>by simp[gB]
 | r::rs=>by have ih:=GC rs;have h:=jI r;simp only[map_cons,length_cons,gB,flatten_cons,dy] at ih ⊢;omega
variable{r:List Tr}
theorem GD:∀ {rs:List (List Tr)},r∈rs->Tr.aG r<=Tr.aG rs.flatten
 | q::rs,h=>by
   simp only[flatten_cons,dy];rcases List.mem_cons.1 h with rfl | h
   ·omega
   ·have:=GD h;omega
theorem zb7.Kar(h:p:=by
 have en:∀args w,(callFunc 42 args).run Tryz.prog w=.ok (.enter 42 args) w:=enters_of Tryz.func42 Tac rfl;have EN:=hid en;have HL:=hid vU;have HY:=hid hlen;have HR:=hid hR;have HC:=hid YY;clear en vU hlen hR YY;have hrc:=GC s.rows;have iq:(s.rows.map Tr.costs).length=y.rows.n:=by rw[length_map,HL.out]
 rw[iq] at hrc;have HRC:=hid hrc;have Ds:=hid iq;clear hrc iq;have NH:w4.cell? ⟨g1,19,none⟩=some (.slice y.rows.A y.rows.n y.rows.c):=H4.out.q.cell 19;have p0:w4.cell? ⟨g0,0,none⟩=some (.pointer (some ⟨b,0,none⟩)):=H4.out.p.cell 0;go_wp2_with fail;refine(Uw (λ i=>(s.rows.map Tr.costs).getD i 0+2) (gB (s.rows.map Tr.costs)) 42 #[] #[.pointer (some ⟨g0,0,none⟩)] EN.out y.rows.A y.rows.c y.rows.n ys (s.rows.map zH) S hS Tbj Tat HR.out w4 H4.out.st H4.out.hw (jU _) (λ i hi=>vA _ 2 Tab i Tap) (λ i hi=>by have:=rk (s.rows.map Tr.costs) i Tap;rw[Ds.out] at this;exact this) (by have:=HRC.out;omega) TaS (λ i z oo hz ho Wr s' n' dW hW hc=>by
  obtain⟨x,hx,rfl⟩:∃x,s.rows[i]?=some x/\zH x=oo:=by simpa [getElem?_map] using ho
  have hr:=qm HC.out hx hz
  have X6:=mem_of_getElem? hx
  have BI:=HF.out.rows x X6
  have hnr:=GD X6
  have hcg:(s.rows.map Tr.costs).getD i 0=Tr.costs x:=by simp[List.getD,hx]
  rw[hcg] at hc ⊢
  exact YR hE hS z x hr BI.1 Taa Wr hW (H4.out.hw.trans dW.below) (dW.blk H4.out.p hg0 Tab) hg0 Taa)).mono ?_
 rintro e w5 ⟨rfl,h2,d2⟩;have H5:=hid (H4.out.next hg0 hg1 h2 d2);clear h2 d2 H4 p0 NH;have hrc:=HRC.out;go_wp2_with fail;go_end0;refine⟨rfl,?_,H5.out.did⟩;have:=H5.out.st.more (show n+3+1+gB (s.rows.map Tr.costs) y.rows.n<=n+(13*Tr.aG s.exprs+4*s.bg.length+3*s.rows.length+80) by omega);exact Zfb):p:=h
theorem ze6.Kbo(h:p:=by refine(cH ⟨#[32,86,65,76,85,69,83,32]⟩ w3 H3.out.st Tab Taa).mono ?_;rintro e w4 ⟨rfl,h2,d2⟩;have H4:=hid (H3.out.next hg0 hg1 h2 d2);clear h2 d2 H3 p0;obtain⟨vU,ys,hR,YY⟩:=HA.out.rows;have hlen:List.length (α:=Sl) ys=s.rows.length:=YY.len;open zb7 in exact ZaG):p:=h
theorem zc7.KaI(h:p:=by refine(mP hE ⟨#[73,78,83,69,82,84,32,73,78,84,79]⟩ y.name w2 H2.out.st H2.out.hw Tab Tan Taa).mono ?_;open ze6 in exact ZcE):p:=h
theorem zai.Kaa(h:p:=by
 have x0:oQ.cell? ⟨g1,0,none⟩=some (.int .u8 5):=by have:=H0.out.q.cell 0;rw[show(cd y).toArray[0]?=some (.int .u8 y.kind)from rfl,nJ] at this;exact this
 clear nJ hk;go_upto_region 17 with fail;have cn:w0.heap.size<=w.heap.size:=by rw[jJ.out];exact dS.out
 refine cX 6 (Jp b g1 y tt) (Fv _ _ _ _) Tac Tac Tac ?_ ?_
 ·simp only[take_succ_cons,take_zero];refine⟨Zbr,ZaU,ZbB,?_,?_,?_,trivial⟩
  ·intro ρ w3 hc hL hr;have h0:_=_:=hr.1;have k19:w3.cell? ⟨g1,19,none⟩=some (.slice y.rows.A y.rows.n y.rows.c):=(av.later H0.out.q hL).cell 19;exact ZgU
  ·intro ρ w3 hc hL hr;have h0:_=_:=hr.1;exact ae (w':=w3) (ie rfl (by simp only[map_toArray,map_cons,map_nil,h0];exact Uy y)) ⟨af.refl _,rfl⟩
  ·intro ρ w3 hc hL hr;have h0:_=_:=hr.1;have h1:_=_:=hr.2.1;have e1:=hc.func 37;refine dU (f:=37) (args:= #[.agg (cd y).toArray,.agg (cd (eW y false false false false false true false false false)).toArray]) (w':=w3) Tar ?_;exact Zb6
 intro W2 hL;simp only[Uab];rintro _ rfl a1 - a2 - a3 - a4 - _ rfl;open zc7 in exact Za9):p:=h
theorem Pl(hE:dM w0) (hS:∀b,S b->b < w0.heap.size)  (h:s.at_ w0 S y)(hf:s.mB m)(hm:m<=1048576)(w:World)(hst:eR w0.heap.size b s0 n w)(hw:Below w0.heap.size w0 w)(hk:s.kind=5)(hn:n+s.cost<=49999000):
  Calls Tryz.prog 19 #[.pointer (some ⟨b,0,none⟩),mK y] w (bk w0.heap.size b (aq s0 (ct s)) (n+s.cost) w):=by
 rw[show ct s=aq (bl (cY s false false false false false true false false false)) (aq (some [73,78,83,69,82,84,32,73,78,84,79,32]) (aq (dz s.name) (aq (some [32,86,65,76,85,69,83,32]) (dL (s.rows.map zH))))) by unfold ct;rw[hk];rfl];have nJ:y.kind=5:=by rw[h.kind,hk]
 unfold St.cost at hn ⊢;have KF:=gF s;have AQ:=hf.nodes;have hlt:=hst.lt;have hsz:=hst.size;obtain⟨tt,py⟩:∃tt,tt=cY s false false false false false true false false false:=⟨_,rfl⟩;have TT:=hid (λ W=>gD h hf hm false false false false false true false false false W);rw[<- py] at TT;unfold mK at TT;have zt:=hid py;clear py;open zai in exact Zaa
theorem ze7.Kbo(h:p:=by refine(cH ⟨#[32,65,83,32]⟩ w3 H3.out.st Tab Taa).mono ?_;rintro e w4 ⟨rfl,h2,d2⟩;have H4:=hid (H3.out.next hg0 hg1 h2 d2);clear h2 d2 H3 p0;have x7:w4.cell? ⟨g1,7,none⟩=some (.slice y.query.items.A y.query.items.n y.query.items.c):=H4.out.q.cell 7;have x8:w4.cell? ⟨g1,8,none⟩=some (.string y.query.aP):=H4.out.q.cell 8;have x9:w4.cell? ⟨g1,9,none⟩=some (.bool y.query.only):=H4.out.q.cell 9;have NB:w4.cell? ⟨g1,10,none⟩=some (.slice y.query.aS.A y.query.aS.n y.query.aS.c):=H4.out.q.cell 10;have NC:w4.cell? ⟨g1,11,none⟩=some (.slice y.query.group.A y.query.group.n y.query.group.c):=H4.out.q.cell 11;have ND:w4.cell? ⟨g1,12,none⟩=some (.slice y.query.having.A y.query.having.n y.query.having.c):=H4.out.q.cell 12;have NF:w4.cell? ⟨g1,13,none⟩=some (.slice y.query.order.A y.query.order.n y.query.order.c):=H4.out.q.cell 13;have NG:w4.cell? ⟨g1,14,none⟩=some (.slice y.query.aN.A y.query.aN.n y.query.aN.c):=H4.out.q.cell 14;have p0:w4.cell? ⟨g0,0,none⟩=some (.pointer (some ⟨b,0,none⟩)):=H4.out.p.cell 0;go_wp2_with fail;refine(sk hE hS HA.out.query HF.out.query hm w4 H4.out.st H4.out.hw (by unfold Qu.cost;omega)).mono ?_;rintro e w5 ⟨rfl,h2,d2⟩;unfold Qu.cost at h2;have H5:=hid (H4.out.next hg0 hg1 h2 d2);clear h2 d2 H4 p0 x7 x8 x9 NB NC ND NF NG;go_wp2_with fail;go_end0;refine⟨rfl,?_,H5.out.did⟩;have:=H5.out.st.more (show n+3+1+(13*Tr.aG s.query.exprs+20)<=n+(13*Tr.aG s.exprs+4*s.bg.length+3*s.rows.length+80) by omega);exact Zfb):p:=h
theorem zc8.KaI(h:p:=by refine(mP hE ⟨#[67,82,69,65,84,69,32,86,73,69,87]⟩ y.name w2 H2.out.st H2.out.hw Tab Tan Taa).mono ?_;open ze7 in exact ZcE):p:=h
theorem zaj.Kaa(h:p:=by
 have x0:oQ.cell? ⟨g1,0,none⟩=some (.int .u8 2):=by have:=H0.out.q.cell 0;rw[show(cd y).toArray[0]?=some (.int .u8 y.kind)from rfl,nJ] at this;exact this
 clear nJ hk;go_upto_region 8 with fail;have cn:w0.heap.size<=w.heap.size:=by rw[jJ.out];exact dS.out
 refine cX 6 (Dw b g1 y tt) (Dx _ _ _ _) Tac Tac Tac ?_ ?_
 ·simp only[take_succ_cons,take_zero];refine⟨Zbr,ZaU,ZbB,Zao,Zb2,Zbi,trivial⟩
 intro W2 hL;simp only[Uab];rintro _ rfl a1 - a2 - a3 - a4 - _ rfl;open zc8 in exact Za9):p:=h
theorem zff.Kbr(h:p:=by clear py;open zaj in exact Zaa):p:=h
theorem Ze(hE:dM w0) (hS:∀b,S b->b < w0.heap.size)  (h:s.at_ w0 S y)(hf:s.mB m)(hm:m<=1048576)(w:World)(hst:eR w0.heap.size b s0 n w)(hw:Below w0.heap.size w0 w)(hk:s.kind=2)(hn:n+s.cost<=49999000):
  Calls Tryz.prog 19 #[.pointer (some ⟨b,0,none⟩),mK y] w (bk w0.heap.size b (aq s0 (ct s)) (n+s.cost) w):=by
 rw[show ct s=aq (bl (cY s false true false false false false false false false)) (aq (some [67,82,69,65,84,69,32,86,73,69,87,32]) (aq (dz s.name) (aq (some [32,65,83,32]) (iU s.query)))) by unfold ct;rw[hk];rfl];have nJ:y.kind=2:=by rw[h.kind,hk]
 open zff in exact ZcI
theorem zak.Kaa(h:p:=by
 have x0:oQ.cell? ⟨g1,0,none⟩=some (.int .u8 1):=by have:=H0.out.q.cell 0;rw[show(cd y).toArray[0]?=some (.int .u8 y.kind)from rfl,nJ] at this;exact this
 exact ZbH):p:=h
theorem UA(hE:dM w0) (hS:∀b,S b->b < w0.heap.size)  (h:s.at_ w0 S y)(hf:s.mB m)(hm:m<=1048576)(w:World)(hst:eR w0.heap.size b s0 n w)(hw:Below w0.heap.size w0 w)(hk:s.kind=1)(hn:n+s.cost<=49999000):
  Calls Tryz.prog 19 #[.pointer (some ⟨b,0,none⟩),mK y] w (bk w0.heap.size b (aq s0 (ct s)) (n+s.cost) w):=by
 have Zd:∀W,eR w0.heap.size b s0 n W->Below w0.heap.size w0 W->Calls Tryz.prog 34 #[.pointer (some ⟨b,0,none⟩),.agg (cd y).toArray] W (bk w0.heap.size b (aq s0 (nU s)) (n+s.cost) W):=λ W h1 h2=>Pg hE hS h hf hm W h1 h2 hn
 have TB:=hid Zd;clear Zd;rw[show ct s=nU s by unfold ct;rw[hk];rfl];have nJ:y.kind=1:=by rw[h.kind,hk]
 unfold St.cost at hn ⊢;have KF:=gF s;have AQ:=hf.nodes;have hlt:=hst.lt;have hsz:=hst.size;open zak in exact Zaa
theorem zal.Kaa(h:p:=by
 have x0:oQ.cell? ⟨g1,0,none⟩=some (.int .u8 3):=by have:=H0.out.q.cell 0;rw[show(cd y).toArray[0]?=some (.int .u8 y.kind)from rfl,nJ] at this;exact this
 exact ZbH):p:=h
theorem aaJ(hE:dM w0) (hS:∀b,S b->b < w0.heap.size)  (h:s.at_ w0 S y)(hf:s.mB m)(hm:m<=1048576)(w:World)(hst:eR w0.heap.size b s0 n w)(hw:Below w0.heap.size w0 w)(hk:s.kind=3)(hn:n+s.cost<=49999000):
  Calls Tryz.prog 19 #[.pointer (some ⟨b,0,none⟩),mK y] w (bk w0.heap.size b (aq s0 (ct s)) (n+s.cost) w):=by
 have Zd:∀W,eR w0.heap.size b s0 n W->Below w0.heap.size w0 W->Calls Tryz.prog 35 #[.pointer (some ⟨b,0,none⟩),.agg (cd y).toArray] W (bk w0.heap.size b (aq s0 (BA s)) (n+s.cost) W):=λ W h1 h2=>Za hE hS h hf hm W h1 h2 hn
 have TB:=hid Zd;clear Zd;rw[show ct s=BA s by unfold ct;rw[hk];rfl];have nJ:y.kind=3:=by rw[h.kind,hk]
 unfold St.cost at hn ⊢;have KF:=gF s;have AQ:=hf.nodes;have hlt:=hst.lt;have hsz:=hst.size;open zal in exact Zaa
end Go.Proofs.YtehhdlgjfdnafaaGreatDoor
