/- Parts of the proof. -/
import Derived.Test.YtehhdlgjfdnafaaGreatDoorXE32
namespace Go.Proofs.YtehhdlgjfdnafaaGreatDoor
variable{p:Prop}
set_option maxHeartbeats 90000000
set_option maxRecDepth 100000
open Go.Lib (hid)
open Go.ChangeShapes Go.WideShapes Go.ChangeAt Go.RowKit Go.Shelf List
set_option linter.unusedVariables false
set_option linter.unusedSimpArgs false
variable{w0:World}{b n m:Nat}{s0:Option aT}{S:Nat->Prop}{s:St}{y:fX}
theorem zb8.Kas(h:p:=by
 have en:∀args w,(callFunc 45 args).run Tryz.prog w=.ok (.enter 45 args) w:=enters_of Tryz.func45 Tab rfl;have EN:=hid en;have HL:=hid qN;have HY:=hid hlen;have HR:=hid hR;have HC:=hid TI;clear en qN hlen hR TI;have ZP:=AP (·.2) s.bF;have gw:(s.bF.map λ x=>x.2.cost).length=y.bF.n:=by rw[length_map,HL.out]
 rw[gw] at ZP;have hcn:=iV (s.bF.map (·.2));have HRC:=hid ZP;have AU:=hid gw;have ja:=eL (s.bF.map (·.2));rw[length_map] at ja;clear ZP gw;have x20:w4.cell? ⟨g1,20,none⟩=some (.slice y.bF.A y.bF.n y.bF.c):=H4.out.q.cell 20;have p0:w4.cell? ⟨g0,0,none⟩=some (.pointer (some ⟨b,0,none⟩)):=H4.out.p.cell 0;go_wp2_with fail;refine(PA (λ i=>(s.bF.map λ x=>x.2.cost).getD i 0+2) (fD (s.bF.map λ x=>x.2.cost)) 45 #[] #[.pointer (some ⟨g0,0,none⟩)] EN.out y.bF.A y.bF.c y.bF.n ys (s.bF.map EE) S hS Tbg Tas HR.out w4 H4.out.st H4.out.hw (jg _) (λ i hi=>tA _ 2 Tac i Tap) (λ i hi=>by have:=pN (s.bF.map λ x=>x.2.cost) i Tap;rw[AU.out] at this;exact this) (by rw[HRC.out];omega) TaT (λ i z oo hz ho Wr s' n' dW hW hc=>by
  obtain⟨x,hx,rfl⟩:∃x,s.bF[i]?=some x/\EE x=oo:=by simpa [getElem?_map] using ho
  have hr:=oG HC.out hx hz
  have Wo:=mem_of_getElem? hx
  have yH:=HF.out.bF x Wo
  have hnr:=lr (List.mem_map.2 ⟨x,Wo,rfl⟩:x.2∈s.bF.map (·.2))
  rw[AQ (·.2) hx] at hc ⊢
  have xk:EE x=aq (cS z.1) (aq (some [32,61,32]) x.2.whole):=by unfold EE;rw[hr.1]
  rw[xk,<- Nat.add_assoc]
  exact TC hE z (by rw[hr.1];exact yH.2.2) (Tr.uE hE hS x.2 z.2 hr.2 yH.1 yH.2.1 Taa) Wr hW (H4.out.hw.trans dW.below) (dW.blk H4.out.p hg0 Tac) hg0 Taa)).mono ?_
 rintro e w5 ⟨rfl,h2,d2⟩;rw[HRC.out] at h2;have H5:=hid (H4.out.next hg0 hg1 h2 d2);clear h2 d2 H4 p0 x20;have x21:w5.cell? ⟨g1,21,none⟩=some (.slice y.aP.A y.aP.n y.aP.c):=H5.out.q.cell 21;have p0:w5.cell? ⟨g0,0,none⟩=some (.pointer (some ⟨b,0,none⟩)):=H5.out.p.cell 0;go_wp2_with fail;refine(oH hE hS ⟨#[87,72,69,82,69]⟩ y.aP s.aP HA.out.aP HF.out.aP Taa Tac w5 H5.out.st H5.out.hw (by have:=pO s.aP;omega)).mono ?_;rintro e w6 ⟨rfl,h2,d2⟩;have H6:=hid (H5.out.next hg0 hg1 h2 d2);clear h2 d2 H5 p0 x21;have gw:=pO s.aP;go_wp2_with fail;go_end0;refine⟨rfl,?_,H6.out.did⟩;have:=H6.out.st.more (show n+3+1+Tr.costs (s.bF.map (·.2))+3+qO s.aP<=n+(13*Tr.aM s.exprs+4*s.aY.length+3*s.rows.length+80) by omega);exact Ze5):p:=h
theorem zeY.Kbm(h:p:=by refine(cn ⟨#[32,83,69,84,32]⟩ w3 H3.out.st Tac Taa).mono ?_;rintro e w4 ⟨rfl,h2,d2⟩;have H4:=hid (H3.out.next hg0 hg1 h2 d2);clear h2 d2 H3 p0;obtain⟨qN,ys,hR,TI⟩:=HA.out.bF;have hlen:List.length (α:=ByteArray×Ex) ys=s.bF.length:=TI.len;open zb8 in exact ZaH):p:=h
theorem zc7.KaJ(h:p:=by refine(lu hE ⟨#[85,80,68,65,84,69]⟩ y.name w2 H2.out.st H2.out.hw Tac Tan Taa).mono ?_;open zeY in exact ZcA):p:=h
theorem zaf.Kaa(h:p:=by
 have x0:ni.cell? ⟨g1,0,none⟩=some (.int .u8 6):=by have:=H0.out.q.cell 0;rw[show(bI y).toArray[0]?=some (.int .u8 y.kind)from rfl,mb] at this;exact this
 clear mb hk;go_upto_region 22 with fail;have bN:w0.heap.size<=w.heap.size:=by rw[iW.out];exact dy.out
 refine cE 8 (xo b g1 y tt) (yI _ _ _ _) Tab Tab Tab ?_ ?_
 ·simp only[take_succ_cons,take_zero];refine⟨Zbp,ZaU,Zbz,?_,Zbz,ZcV,?_,?_,trivial⟩
  ·intro ρ w3 hc hL hr;have h0:_=_:=hr.1;have S7:w3.cell? ⟨g1,20,none⟩=some (.slice y.bF.A y.bF.n y.bF.c):=(av.later H0.out.q hL).cell 20;exact ZgN
  ·intro ρ w3 hc hL hr;have h0:_=_:=hr.1;have h1:_=_:=hr.2.1;exact ae (w':=w3) (gq rfl (by simp only[map_toArray,map_cons,map_nil,h0,h1];exact Ii y)) ⟨af.refl _,rfl⟩
  ·intro ρ w3 hc hL hr;have h0:_=_:=hr.1;have h1:_=_:=hr.2.1;have e1:=hc.func 37;refine dB (f:=37) (args:= #[.agg (bI y).toArray,.agg (bI (eA y false false false false false false true true false)).toArray]) (w':=w3) Taq ?_;exact Zb3
 intro W2 hL;simp only[Uab];rintro _ rfl a1 - a2 - a3 - a4 - a5 - a6 - _ rfl;open zc7 in exact Za9):p:=h
theorem Le(hE:di w0) (hS:∀b,S b->b < w0.heap.size)  (h:s.at_ w0 S y)(hf:s.my m)(hm:m<=1048576)(w:World)(hst:eu w0.heap.size b s0 n w)(hw:Below w0.heap.size w0 w)(hk:s.kind=6)(hn:n+s.cost<=49999000):
  Calls Tryz.prog 19 #[.pointer (some ⟨b,0,none⟩),mC y] w (aW w0.heap.size b (aq s0 (cB s)) (n+s.cost) w):=by
 rw[show cB s=aq (bc (dv s false false false false false false true true false)) (aq (some [85,80,68,65,84,69,32]) (aq (cS s.name) (aq (some [32,83,69,84,32]) (aq (dt (s.bF.map EE)) (eQ [87,72,69,82,69] s.aP))))) by unfold cB;rw[hk];rfl];have mb:y.kind=6:=by rw[h.kind,hk]
 unfold St.cost at hn ⊢;have Gk:=fG s;have yh:=hf.nodes;have hlt:=hst.lt;have hsz:=hst.size;obtain⟨tt,nN⟩:∃tt,tt=dv s false false false false false false true true false:=⟨_,rfl⟩;have TT:=hid (λ W=>fF h hf hm false false false false false false true true false W);rw[<- nN] at TT;unfold mC at TT;have wz:=hid nN;clear nN;open zaf in exact Zaa
theorem zc8.KaJ(h:p:=by refine(lu hE ⟨#[68,69,76,69,84,69,32,70,82,79,77]⟩ y.name w2 H2.out.st H2.out.hw Tac Tan Taa).mono ?_;rintro e w3 ⟨rfl,h2,d2⟩;have H3:=hid (H2.out.next hg0 hg1 h2 d2);clear h2 d2 H2 p0 x1;have x21:w3.cell? ⟨g1,21,none⟩=some (.slice y.aP.A y.aP.n y.aP.c):=H3.out.q.cell 21;have p0:w3.cell? ⟨g0,0,none⟩=some (.pointer (some ⟨b,0,none⟩)):=H3.out.p.cell 0;go_wp2_with fail;refine(oH hE hS ⟨#[87,72,69,82,69]⟩ y.aP s.aP HA.out.aP HF.out.aP Taa Tac w3 H3.out.st H3.out.hw (by have:=pO s.aP;omega)).mono ?_;rintro e w4 ⟨rfl,h2,d2⟩;have H4:=hid (H3.out.next hg0 hg1 h2 d2);clear h2 d2 H3 p0 x21;have gw:=pO s.aP;go_wp2_with fail;go_end0;refine⟨rfl,?_,H4.out.did⟩;have:=H4.out.st.more (show n+3+3+qO s.aP<=n+(13*Tr.aM s.exprs+4*s.aY.length+3*s.rows.length+80) by omega);exact Ze5):p:=h
theorem zag.Kaa(h:p:=by
 have x0:ni.cell? ⟨g1,0,none⟩=some (.int .u8 7):=by have:=H0.out.q.cell 0;rw[show(bI y).toArray[0]?=some (.int .u8 y.kind)from rfl,mb] at this;exact this
 clear mb hk;go_upto_region 28 with fail;have bN:w0.heap.size<=w.heap.size:=by rw[iW.out];exact dy.out
 refine cE 6 (Ba b g1 y tt) (Bb _ _ _ _) Tab Tab Tab ?_ ?_
 ·simp only[take_succ_cons,take_zero];refine⟨Zbp,ZaU,Zbz,ZcV,?_,?_,trivial⟩
  ·intro ρ w3 hc hL hr;have h0:_=_:=hr.1;exact ae (w':=w3) (gq rfl (by simp only[map_toArray,map_cons,map_nil,h0];exact KX y)) ⟨af.refl _,rfl⟩
  ·intro ρ w3 hc hL hr;have h0:_=_:=hr.1;have h1:_=_:=hr.2.1;have e1:=hc.func 37;refine dB (f:=37) (args:= #[.agg (bI y).toArray,.agg (bI (eA y false false false false false false false true false)).toArray]) (w':=w3) Taq ?_;exact Zb3
 intro W2 hL;simp only[Uab];rintro _ rfl a1 - a2 - a3 - a4 - _ rfl;open zc8 in exact Za9):p:=h
theorem Lf(hE:di w0) (hS:∀b,S b->b < w0.heap.size)  (h:s.at_ w0 S y)(hf:s.my m)(hm:m<=1048576)(w:World)(hst:eu w0.heap.size b s0 n w)(hw:Below w0.heap.size w0 w)(hk:s.kind=7)(hn:n+s.cost<=49999000):
  Calls Tryz.prog 19 #[.pointer (some ⟨b,0,none⟩),mC y] w (aW w0.heap.size b (aq s0 (cB s)) (n+s.cost) w):=by
 rw[show cB s=aq (bc (dv s false false false false false false false true false)) (aq (some [68,69,76,69,84,69,32,70,82,79,77,32]) (aq (cS s.name) (eQ [87,72,69,82,69] s.aP))) by unfold cB;rw[hk];rfl];have mb:y.kind=7:=by rw[h.kind,hk]
 unfold St.cost at hn ⊢;have Gk:=fG s;have yh:=hf.nodes;have hlt:=hst.lt;have hsz:=hst.size;obtain⟨tt,nN⟩:∃tt,tt=dv s false false false false false false false true false:=⟨_,rfl⟩;have TT:=hid (λ W=>fF h hf hm false false false false false false false true false W);rw[<- nN] at TT;unfold mC at TT;have wz:=hid nN;clear nN;open zag in exact Zaa
def Nc:List (Int×Value):=[(1,df [84,65,66,76,69]),(2,df [86,73,69,87]),(3,df [74,79,66])]
theorem Lh (k:Int):(Nc.lookup k).getD (df [])=df (tP k):=by
 by_cases h:k=1
 ·subst h;rfl
 by_cases h2:k=2
 ·subst h2;rfl
 by_cases h3:k=3
 ·subst h3;rfl
 rw[vr Nc k (by intro x hx;simp[Nc] at hx;rcases hx with rfl | rfl | rfl <;>(dsimp only;omega))];unfold tP;rw[if_neg h,if_neg h2,if_neg h3];rfl
theorem TN (k:Int):(tP k).length<=5:=by
 unfold tP;split
 ·decide
 split
 ·decide
 split <;> decide
def dv0 (b g:Nat)(y:fX)(X:List UInt8):Nat->World->Value->Prop
 | 0,_,v=>v=.pointer (some ⟨b,0,none⟩)
 | 1,_,v=>v=.string ⟨X.toArray⟩
 | 2,_,v=>v=.bool false
 | 3,_,v=>v=.bool false
 | 4,_,v=>v=undef
 | 5,_,v=>v=undef
 | 6,_,v=>v=undef
 | 7,_,v=>v=undef
 | 8,_,v=>v=undef
 | 9,_,v=>v=.bool false
 | _,_,_=>False
theorem PJ (b g:Nat)(y:fX)(X:List UInt8):∀i w w' v,dv0 b g y X i w v->af w w'->dv0 b g y X i w' v:=by exact Zfa
def dv1 (b g:Nat)(y:fX)(X:List UInt8)(tt:Bool):Nat->World->Value->Prop
 | 0,_,v=>v=.pointer (some ⟨b,0,none⟩)
 | 1,_,v=>v=.string ⟨X.toArray⟩
 | 2,_,v=>v=.bool true
 | 3,_,v=>v=.bool true
 | 4,_,v=>v=.agg (bI y).toArray
 | 5,_,v=>v=.pointer (some ⟨g,15,none⟩)
 | 6,_,v=>v=.int .u8 y.what
 | 7,_,v=>v=.agg (bI (eA y false false false true false false false false false)).toArray
 | 8,_,v=>v=.bool tt
 | 9,_,v=>v=.bool tt
 | _,_,_=>False
theorem PK (b g:Nat)(y:fX)(X:List UInt8)(tt:Bool):∀i w w' v,dv1 b g y X tt i w v->af w w'->dv1 b g y X tt i w' v:=by exact Zfa
theorem zcx.Kay(h:p:=by rw[show(!(X== [])&& tt)=false by rw[XE.out];rfl];exact Ze8):p:=h
theorem zcy.Kay(h:p:=by rw[show(!(X== [])&& tt)=tt by cases X with | nil=>exact absurd rfl XE.out | cons a l=>rfl];exact Ze8):p:=h
theorem zff.Kbt(h:p:=by refine(aX false W2 H2.out.st).mono ?_;open zcx in exact ZaQ):p:=h
theorem zfg.Kbt(h:p:=by refine(aX tt W2 H2.out.st).mono ?_;open zcy in exact ZaQ):p:=h
theorem zfy.KbC(h:p:=by exact ae (w':=w3) (ji rfl h0 (av.later H1.out.q hL) Tryz.underlying34 (kC y)) ⟨af.refl _,rfl⟩):p:=h
theorem zfz.KbC(h:p:=by have S5:w3.cell? ⟨g1,15,none⟩=some (.int .u8 y.what):=(av.later H1.out.q hL).cell 15;exact ZgV):p:=h
theorem zfA.KbC(h:p:=by exact ae (w':=w3) (gq rfl (by simp only[map_toArray,map_cons,map_nil,h0];exact PC y)) ⟨af.refl _,rfl⟩):p:=h
theorem zfB.KbC(h:p:=by have h1:_=_:=hr.2.1;have e1:=hc.func 37;refine dB (f:=37) (args:= #[.agg (bI y).toArray,.agg (bI (eA y false false false true false false false false false)).toArray]) (w':=w3) Taq ?_;exact Zb3):p:=h
theorem zfZ.KbN(h:p:=by
 replace hM:iy _ gm Nc:=hM;rw[jH Tryz.underlying92 Tryz.underlying5 hM y.what (z:=df []) (λ w=>by kernel_rfl),Lh,<- HX.out];simp only[Result.andThen];rw[Oper.upon_value];unfold df;have H1:=hid (H0.out.later (by rw[iW.out];exact dy.out) jn);clear hM jn Lb U6 hle H0;obtain⟨w1,yY⟩:∃x,x=wm:=⟨_,rfl⟩;subst yY;go_upto_region 14 with fail;by_cases Lc:X=[]
 ·have XE:=hid Lc;clear Lc;have bN:w0.heap.size<=w.heap.size:=by rw[iW.out];exact dy.out
  refine cE 10 (dv0 b g1 y X) (PJ _ _ _ _) Tab Tab Tab ?_ ?_
  ·simp only[take_succ_cons,take_zero];refine⟨ZfW,Zbz,Zel,Zbz,ZbB,ZbB,ZbB,ZbB,ZbB,ZbO,trivial⟩
  open zff in exact ZcT
 ·have XE:=hid Lc;clear Lc;have bN:w0.heap.size<=w.heap.size:=by rw[iW.out];exact dy.out
  refine cE 10 (dv1 b g1 y X tt) (PK _ _ _ _ _) Tab Tab Tab ?_ ?_
  ·simp only[take_succ_cons,take_zero];refine⟨ZfW,Zbz,Zel,Zbz,?_,?_,?_,?_,?_,ZbO,trivial⟩
   ·open zfy in exact Zdh
   ·intro ρ w3 hc hL hr;intro hg;have hg:ρ (.tmp 50)=.bool true:=hg;refine⟨λ _=>?_,λ hn=>absurd hg hn⟩;exact Zaq
   ·open zfz in exact Zdh
   ·open zfA in exact Zdh
   ·open zfB in exact Zdh
  open zfg in exact ZcT):p:=h
theorem zah.Kaa(h:p:=by
 have x0:ni.cell? ⟨g1,0,none⟩=some (.int .u8 4):=by have:=H0.out.q.cell 0;rw[show(bI y).toArray[0]?=some (.int .u8 y.kind)from rfl,mb] at this;exact this
 clear mb hk;have La:ni.cell? ⟨g1,15,none⟩=some (.int .u8 y.what):=H0.out.q.cell 15;go_upto_region 13 with fail;refine wp_region_lit ?_;refine eV rfl 92 rfl ?_;have hM:=iy.new ni;have jn:Below ni.heap.size ni (ni.alloc (.map #[] 0)):=aa ni (.map #[] 0);obtain⟨gm,ox⟩:∃gm,gm=ni.heap.size:=⟨_,rfl⟩;rw[<- ox] at hM ⊢;have hle:ni.heap.size<=gm:=Nat.le_of_eq ox.symm;have Lb:=(jn.cell (p:=⟨g1,15,none⟩) (bY La)).trans La;have U6:=hid La;clear ox La x0;generalize ni.alloc _=W0 at*;obtain⟨X,hX⟩:∃X,X=tP y.what:=⟨_,rfl⟩;have HX:=hid hX;have hXl:X.length<=5:=by rw[hX];exact TN _
 open zfZ in exact ZdW):p:=h
theorem TP(hE:di w0) (hS:∀b,S b->b < w0.heap.size)  (h:s.at_ w0 S y)(hf:s.my m)(hm:m<=1048576)(w:World)(hst:eu w0.heap.size b s0 n w)(hw:Below w0.heap.size w0 w)(hk:s.kind=4)(hn:n+s.cost<=49999000):
  Calls Tryz.prog 19 #[.pointer (some ⟨b,0,none⟩),mC y] w (aW w0.heap.size b (aq s0 (cB s)) (n+s.cost) w):=by
 rw[show cB s=aq (bc (!(tP s.what== [])&& dv s false false false true false false false false false)) (aq (some ([68,82,79,80,32]++tP s.what++ [32])) (cS s.name)) by unfold cB;rw[hk];rfl];have mb:y.kind=4:=by rw[h.kind,hk]
 unfold St.cost at hn ⊢;have Gk:=fG s;have yh:=hf.nodes;have hlt:=hst.lt;have hsz:=hst.size;obtain⟨tt,nN⟩:∃tt,tt=dv s false false false true false false false false false:=⟨_,rfl⟩;have TT:=hid (λ W=>fF h hf hm false false false true false false false false false W);rw[<- nN] at TT;unfold mC at TT;have wz:=hid nN;clear nN;open zah in exact Zaa
theorem Dy:∀rs:List (List Tr),fD (rs.map Tr.costs) (rs.map Tr.costs).length<=13*Tr.aM rs.flatten+3*rs.length
 | []=>by simp[fD]
 | r::rs=>by have ih:=Dy rs;have h:=iV r;simp only[map_cons,length_cons,fD,flatten_cons,iw] at ih ⊢;omega
variable{r:List Tr}
theorem Dz:∀ {rs:List (List Tr)},r∈rs->Tr.aM r<=Tr.aM rs.flatten
 | q::rs,h=>by
   simp only[flatten_cons,iw];rcases List.mem_cons.1 h with rfl | h
   ·omega
   ·have:=Dz h;omega
theorem zb9.Kas(h:p:=by
 have en:∀args w,(callFunc 42 args).run Tryz.prog w=.ok (.enter 42 args) w:=enters_of Tryz.func42 Tab rfl;have EN:=hid en;have HL:=hid qN;have HY:=hid hlen;have HR:=hid hR;have HC:=hid TI;clear en qN hlen hR TI;have ZP:=Dy s.rows;have gw:(s.rows.map Tr.costs).length=y.rows.n:=by rw[length_map,HL.out]
 rw[gw] at ZP;have HRC:=hid ZP;have AU:=hid gw;clear ZP gw;have x19:w4.cell? ⟨g1,19,none⟩=some (.slice y.rows.A y.rows.n y.rows.c):=H4.out.q.cell 19;have p0:w4.cell? ⟨g0,0,none⟩=some (.pointer (some ⟨b,0,none⟩)):=H4.out.p.cell 0;go_wp2_with fail;refine(PB (λ i=>(s.rows.map Tr.costs).getD i 0+2) (fD (s.rows.map Tr.costs)) 42 #[] #[.pointer (some ⟨g0,0,none⟩)] EN.out y.rows.A y.rows.c y.rows.n ys (s.rows.map Cc) S hS Tbg Tas HR.out w4 H4.out.st H4.out.hw (jg _) (λ i hi=>tA _ 2 Tac i Tap) (λ i hi=>by have:=pN (s.rows.map Tr.costs) i Tap;rw[AU.out] at this;exact this) (by have:=HRC.out;omega) TaT (λ i z oo hz ho Wr s' n' dW hW hc=>by
  obtain⟨x,hx,rfl⟩:∃x,s.rows[i]?=some x/\Cc x=oo:=by simpa [getElem?_map] using ho
  have hr:=oG HC.out hx hz
  have Wo:=mem_of_getElem? hx
  have yH:=HF.out.rows x Wo
  have hnr:=Dz Wo
  have hcg:(s.rows.map Tr.costs).getD i 0=Tr.costs x:=by simp[List.getD,hx]
  rw[hcg] at hc ⊢
  exact TA hE hS z x hr yH.1 Taa Wr hW (H4.out.hw.trans dW.below) (dW.blk H4.out.p hg0 Tac) hg0 Taa)).mono ?_
 rintro e w5 ⟨rfl,h2,d2⟩;have H5:=hid (H4.out.next hg0 hg1 h2 d2);clear h2 d2 H4 p0 x19;have ZP:=HRC.out;go_wp2_with fail;go_end0;refine⟨rfl,?_,H5.out.did⟩;have:=H5.out.st.more (show n+3+1+fD (s.rows.map Tr.costs) y.rows.n<=n+(13*Tr.aM s.exprs+4*s.aY.length+3*s.rows.length+80) by omega);exact Ze5):p:=h
theorem zeZ.Kbm(h:p:=by refine(cn ⟨#[32,86,65,76,85,69,83,32]⟩ w3 H3.out.st Tac Taa).mono ?_;rintro e w4 ⟨rfl,h2,d2⟩;have H4:=hid (H3.out.next hg0 hg1 h2 d2);clear h2 d2 H3 p0;obtain⟨qN,ys,hR,TI⟩:=HA.out.rows;have hlen:List.length (α:=Sl) ys=s.rows.length:=TI.len;open zb9 in exact ZaH):p:=h
theorem zc9.KaJ(h:p:=by refine(lu hE ⟨#[73,78,83,69,82,84,32,73,78,84,79]⟩ y.name w2 H2.out.st H2.out.hw Tac Tan Taa).mono ?_;open zeZ in exact ZcA):p:=h
theorem zai.Kaa(h:p:=by
 have x0:ni.cell? ⟨g1,0,none⟩=some (.int .u8 5):=by have:=H0.out.q.cell 0;rw[show(bI y).toArray[0]?=some (.int .u8 y.kind)from rfl,mb] at this;exact this
 clear mb hk;go_upto_region 17 with fail;have bN:w0.heap.size<=w.heap.size:=by rw[iW.out];exact dy.out
 refine cE 6 (Fp b g1 y tt) (Cr _ _ _ _) Tab Tab Tab ?_ ?_
 ·simp only[take_succ_cons,take_zero];refine⟨Zbp,ZaU,Zbz,?_,?_,?_,trivial⟩
  ·intro ρ w3 hc hL hr;have h0:_=_:=hr.1;have S6:w3.cell? ⟨g1,19,none⟩=some (.slice y.rows.A y.rows.n y.rows.c):=(av.later H0.out.q hL).cell 19;exact ZgO
  ·intro ρ w3 hc hL hr;have h0:_=_:=hr.1;exact ae (w':=w3) (gq rfl (by simp only[map_toArray,map_cons,map_nil,h0];exact PD y)) ⟨af.refl _,rfl⟩
  ·intro ρ w3 hc hL hr;have h0:_=_:=hr.1;have h1:_=_:=hr.2.1;have e1:=hc.func 37;refine dB (f:=37) (args:= #[.agg (bI y).toArray,.agg (bI (eA y false false false false false true false false false)).toArray]) (w':=w3) Taq ?_;exact Zb3
 intro W2 hL;simp only[Uab];rintro _ rfl a1 - a2 - a3 - a4 - _ rfl;open zc9 in exact Za9):p:=h
theorem Ld(hE:di w0) (hS:∀b,S b->b < w0.heap.size)  (h:s.at_ w0 S y)(hf:s.my m)(hm:m<=1048576)(w:World)(hst:eu w0.heap.size b s0 n w)(hw:Below w0.heap.size w0 w)(hk:s.kind=5)(hn:n+s.cost<=49999000):
  Calls Tryz.prog 19 #[.pointer (some ⟨b,0,none⟩),mC y] w (aW w0.heap.size b (aq s0 (cB s)) (n+s.cost) w):=by
 rw[show cB s=aq (bc (dv s false false false false false true false false false)) (aq (some [73,78,83,69,82,84,32,73,78,84,79,32]) (aq (cS s.name) (aq (some [32,86,65,76,85,69,83,32]) (dt (s.rows.map Cc))))) by unfold cB;rw[hk];rfl];have mb:y.kind=5:=by rw[h.kind,hk]
 unfold St.cost at hn ⊢;have Gk:=fG s;have yh:=hf.nodes;have hlt:=hst.lt;have hsz:=hst.size;obtain⟨tt,nN⟩:∃tt,tt=dv s false false false false false true false false false:=⟨_,rfl⟩;have TT:=hid (λ W=>fF h hf hm false false false false false true false false false W);rw[<- nN] at TT;unfold mC at TT;have wz:=hid nN;clear nN;open zai in exact Zaa
theorem ze0.Kbm(h:p:=by refine(cn ⟨#[32,65,83,32]⟩ w3 H3.out.st Tac Taa).mono ?_;rintro e w4 ⟨rfl,h2,d2⟩;have H4:=hid (H3.out.next hg0 hg1 h2 d2);clear h2 d2 H3 p0;have x7:w4.cell? ⟨g1,7,none⟩=some (.slice y.query.items.A y.query.items.n y.query.items.c):=H4.out.q.cell 7;have x8:w4.cell? ⟨g1,8,none⟩=some (.string y.query.aN):=H4.out.q.cell 8;have x9:w4.cell? ⟨g1,9,none⟩=some (.bool y.query.only):=H4.out.q.cell 9;have Wi:w4.cell? ⟨g1,10,none⟩=some (.slice y.query.aP.A y.query.aP.n y.query.aP.c):=H4.out.q.cell 10;have Wj:w4.cell? ⟨g1,11,none⟩=some (.slice y.query.group.A y.query.group.n y.query.group.c):=H4.out.q.cell 11;have Wk:w4.cell? ⟨g1,12,none⟩=some (.slice y.query.having.A y.query.having.n y.query.having.c):=H4.out.q.cell 12;have Wl:w4.cell? ⟨g1,13,none⟩=some (.slice y.query.order.A y.query.order.n y.query.order.c):=H4.out.q.cell 13;have Wm:w4.cell? ⟨g1,14,none⟩=some (.slice y.query.aQ.A y.query.aQ.n y.query.aQ.c):=H4.out.q.cell 14;have p0:w4.cell? ⟨g0,0,none⟩=some (.pointer (some ⟨b,0,none⟩)):=H4.out.p.cell 0;go_wp2_with fail;refine(qD hE hS HA.out.query HF.out.query hm w4 H4.out.st H4.out.hw (by unfold Qu.cost;omega)).mono ?_;rintro e w5 ⟨rfl,h2,d2⟩;unfold Qu.cost at h2;have H5:=hid (H4.out.next hg0 hg1 h2 d2);clear h2 d2 H4 p0 x7 x8 x9 Wi Wj Wk Wl Wm;go_wp2_with fail;go_end0;refine⟨rfl,?_,H5.out.did⟩;have:=H5.out.st.more (show n+3+1+(13*Tr.aM s.query.exprs+20)<=n+(13*Tr.aM s.exprs+4*s.aY.length+3*s.rows.length+80) by omega);exact Ze5):p:=h
theorem zda.KaJ(h:p:=by refine(lu hE ⟨#[67,82,69,65,84,69,32,86,73,69,87]⟩ y.name w2 H2.out.st H2.out.hw Tac Tan Taa).mono ?_;open ze0 in exact ZcA):p:=h
theorem zaj.Kaa(h:p:=by
 have x0:ni.cell? ⟨g1,0,none⟩=some (.int .u8 2):=by have:=H0.out.q.cell 0;rw[show(bI y).toArray[0]?=some (.int .u8 y.kind)from rfl,mb] at this;exact this
 clear mb hk;go_upto_region 8 with fail;have bN:w0.heap.size<=w.heap.size:=by rw[iW.out];exact dy.out
 refine cE 6 (AY b g1 y tt) (AZ _ _ _ _) Tab Tab Tab ?_ ?_
 ·simp only[take_succ_cons,take_zero];refine⟨Zbp,ZaU,Zbz,Zap,ZbZ,Zbf,trivial⟩
 intro W2 hL;simp only[Uab];rintro _ rfl a1 - a2 - a3 - a4 - _ rfl;open zda in exact Za9):p:=h
theorem ze8.Kbp(h:p:=by clear nN;open zaj in exact Zaa):p:=h
theorem TM(hE:di w0) (hS:∀b,S b->b < w0.heap.size)  (h:s.at_ w0 S y)(hf:s.my m)(hm:m<=1048576)(w:World)(hst:eu w0.heap.size b s0 n w)(hw:Below w0.heap.size w0 w)(hk:s.kind=2)(hn:n+s.cost<=49999000):
  Calls Tryz.prog 19 #[.pointer (some ⟨b,0,none⟩),mC y] w (aW w0.heap.size b (aq s0 (cB s)) (n+s.cost) w):=by
 rw[show cB s=aq (bc (dv s false true false false false false false false false)) (aq (some [67,82,69,65,84,69,32,86,73,69,87,32]) (aq (cS s.name) (aq (some [32,65,83,32]) (jG s.query)))) by unfold cB;rw[hk];rfl];have mb:y.kind=2:=by rw[h.kind,hk]
 open ze8 in exact ZcE
theorem zak.Kaa(h:p:=by
 have x0:ni.cell? ⟨g1,0,none⟩=some (.int .u8 1):=by have:=H0.out.q.cell 0;rw[show(bI y).toArray[0]?=some (.int .u8 y.kind)from rfl,mb] at this;exact this
 exact ZbF):p:=h
theorem PF(hE:di w0) (hS:∀b,S b->b < w0.heap.size)  (h:s.at_ w0 S y)(hf:s.my m)(hm:m<=1048576)(w:World)(hst:eu w0.heap.size b s0 n w)(hw:Below w0.heap.size w0 w)(hk:s.kind=1)(hn:n+s.cost<=49999000):
  Calls Tryz.prog 19 #[.pointer (some ⟨b,0,none⟩),mC y] w (aW w0.heap.size b (aq s0 (cB s)) (n+s.cost) w):=by
 have TL:∀W,eu w0.heap.size b s0 n W->Below w0.heap.size w0 W->Calls Tryz.prog 34 #[.pointer (some ⟨b,0,none⟩),.agg (bI y).toArray] W (aW w0.heap.size b (aq s0 (oP s)) (n+s.cost) W):=λ W h1 h2=>KY hE hS h hf hm W h1 h2 hn
 have TB:=hid TL;clear TL;rw[show cB s=oP s by unfold cB;rw[hk];rfl];have mb:y.kind=1:=by rw[h.kind,hk]
 unfold St.cost at hn ⊢;have Gk:=fG s;have yh:=hf.nodes;have hlt:=hst.lt;have hsz:=hst.size;open zak in exact Zaa
theorem zal.Kaa(h:p:=by
 have x0:ni.cell? ⟨g1,0,none⟩=some (.int .u8 3):=by have:=H0.out.q.cell 0;rw[show(bI y).toArray[0]?=some (.int .u8 y.kind)from rfl,mb] at this;exact this
 exact ZbF):p:=h
theorem XN(hE:di w0) (hS:∀b,S b->b < w0.heap.size)  (h:s.at_ w0 S y)(hf:s.my m)(hm:m<=1048576)(w:World)(hst:eu w0.heap.size b s0 n w)(hw:Below w0.heap.size w0 w)(hk:s.kind=3)(hn:n+s.cost<=49999000):
  Calls Tryz.prog 19 #[.pointer (some ⟨b,0,none⟩),mC y] w (aW w0.heap.size b (aq s0 (cB s)) (n+s.cost) w):=by
 have TL:∀W,eu w0.heap.size b s0 n W->Below w0.heap.size w0 W->Calls Tryz.prog 35 #[.pointer (some ⟨b,0,none⟩),.agg (bI y).toArray] W (aW w0.heap.size b (aq s0 (Ce s)) (n+s.cost) W):=λ W h1 h2=>TK hE hS h hf hm W h1 h2 hn
 have TB:=hid TL;clear TL;rw[show cB s=Ce s by unfold cB;rw[hk];rfl];have mb:y.kind=3:=by rw[h.kind,hk]
 unfold St.cost at hn ⊢;have Gk:=fG s;have yh:=hf.nodes;have hlt:=hst.lt;have hsz:=hst.size;open zal in exact Zaa
end Go.Proofs.YtehhdlgjfdnafaaGreatDoor
