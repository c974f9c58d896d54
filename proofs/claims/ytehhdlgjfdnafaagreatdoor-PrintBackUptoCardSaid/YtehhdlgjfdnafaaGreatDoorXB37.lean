/- Parts of the proof. -/
import Derived.Test.YtehhdlgjfdnafaaGreatDoorXB32
import Derived.Test.YtehhdlgjfdnafaaGreatDoorXB36
namespace Go.Proofs.YtehhdlgjfdnafaaGreatDoor
variable{p:Prop}
set_option maxHeartbeats 90000000
set_option maxRecDepth 100000
open Go.Lib (hid)
open Go.ChangeShapes Go.WideShapes Go.ChangeAt Go.RowKit Go.Shelf List
set_option linter.unusedVariables false
set_option linter.unusedSimpArgs false
def QG:List (Int×Value):=[(1,dv [84,65,66,76,69]),(2,dv [86,73,69,87]),(3,dv [74,79,66])]
theorem Ox (k:Int):(QG.lookup k).getD (dv [])=dv (pY k):=by
 by_cases h:k=1
 ·subst h;rfl
 by_cases h2:k=2
 ·subst h2;rfl
 by_cases h3:k=3
 ·subst h3;rfl
 rw[xk QG k (by intro x hx;simp[QG] at hx;rcases hx with rfl | rfl | rfl <;>(dsimp only;omega))];unfold pY;rw[if_neg h,if_neg h2,if_neg h3];rfl
theorem Yl (k:Int):(pY k).length<=5:=by
 unfold pY;split
 ·decide
 split
 ·decide
 split <;> decide
def dv0 (b g:Nat)(y:fl)(X:List UInt8):Nat->World->Value->Prop
 | 0,_,v=>v=.pointer (some ⟨b,0,none⟩)
 | 1,_,v=>v=.string ⟨X.toArray⟩
 | 2,_,v=>v=.bool false
 | 3,_,v=>v=.bool false
 | 4,_,v=>v=undef
 | 5,_,v=>v=undef
 | 6,_,v=>v=undef
 | 7,_,v=>v=undef
 | 8,_,v=>v=undef
 | 9,_,v=>v=.bool false
 | _,_,_=>False
theorem TN (b g:Nat)(y:fl)(X:List UInt8):∀i w w' v,dv0 b g y X i w v->af w w'->dv0 b g y X i w' v:=by exact Zfq
def dv1 (b g:Nat)(y:fl)(X:List UInt8)(tt:Bool):Nat->World->Value->Prop
 | 0,_,v=>v=.pointer (some ⟨b,0,none⟩)
 | 1,_,v=>v=.string ⟨X.toArray⟩
 | 2,_,v=>v=.bool true
 | 3,_,v=>v=.bool true
 | 4,_,v=>v=.agg (bD y).toArray
 | 5,_,v=>v=.pointer (some ⟨g,15,none⟩)
 | 6,_,v=>v=.int .u8 y.what
 | 7,_,v=>v=.agg (bD (eM y false false false true false false false false false)).toArray
 | 8,_,v=>v=.bool tt
 | 9,_,v=>v=.bool tt
 | _,_,_=>False
theorem TP (b g:Nat)(y:fl)(X:List UInt8)(tt:Bool):∀i w w' v,dv1 b g y X tt i w v->af w w'->dv1 b g y X tt i w' v:=by exact Zfq
variable{w0:World}{b n m:Nat}{s0:Option aV}{S:Nat->Prop}{s:St}{y:fl}
theorem zcK.KaA(h:p:=by rw[show(!(X== [])&& tt)=false by rw[XE.out];rfl];exact Zfn):p:=h
theorem zcL.KaA(h:p:=by rw[show(!(X== [])&& tt)=tt by cases X with | nil=>exact absurd rfl XE.out | cons a l=>rfl];exact Zfn):p:=h
theorem zfO.KbC(h:p:=by refine(bh false W2 H2.out.st).mono ?_;open zcK in exact ZaT):p:=h
theorem zfP.KbC(h:p:=by refine(bh tt W2 H2.out.st).mono ?_;open zcL in exact ZaT):p:=h
theorem zf9.KbM(h:p:=by exact ae (w':=w3) (jG rfl h0 (av.later H1.out.q hL) Tryz.underlying34 (kg y)) ⟨af.refl _,rfl⟩):p:=h
theorem zga.KbM(h:p:=by have VW:w3.cell? ⟨g1,15,none⟩=some (.int .u8 y.what):=(av.later H1.out.q hL).cell 15;exact Zhg):p:=h
theorem zgb.KbM(h:p:=by exact ae (w':=w3) (gT rfl (by simp only[map_toArray,map_cons,map_nil,h0];exact TG y)) ⟨af.refl _,rfl⟩):p:=h
theorem zgc.KbM(h:p:=by have h1:_=_:=hr.2.1;have e1:=hc.func 37;refine dG (f:=37) (args:= #[.agg (bD y).toArray,.agg (bD (eM y false false false true false false false false false)).toArray]) (w':=w3) Taq ?_;exact Zce):p:=h
theorem zgI.KbZ(h:p:=by
 replace hM:iZ _ gm QG:=hM;rw[ky Tryz.underlying92 Tryz.underlying5 hM y.what (z:=dv []) (λ w=>by kernel_rfl),Ox,<- HX.out];simp only[Result.andThen];rw[Oper.upon_value];unfold dv;have H1:=hid (H0.out.later (by rw[jv.out];exact dK.out) jK);clear hM jK Om X15 hle H0;obtain⟨w1,Bn⟩:∃x,x=wm:=⟨_,rfl⟩;subst Bn;go_upto_region 14 with fail;by_cases Oo:X=[]
 ·have XE:=hid Oo;clear Oo;have bX:w0.heap.size<=w.heap.size:=by rw[jv.out];exact dK.out
  refine cM 10 (dv0 b g1 y X) (TN _ _ _ _) Tac Tac Tac ?_ ?_
  ·simp only[take_succ_cons,take_zero];refine⟨Zgd,ZbI,ZeB,ZbI,ZbK,ZbK,ZbK,ZbK,ZbK,ZbY,trivial⟩
  open zfO in exact Zc7
 ·have XE:=hid Oo;clear Oo;have bX:w0.heap.size<=w.heap.size:=by rw[jv.out];exact dK.out
  refine cM 10 (dv1 b g1 y X tt) (TP _ _ _ _ _) Tac Tac Tac ?_ ?_
  ·simp only[take_succ_cons,take_zero];refine⟨Zgd,ZbI,ZeB,ZbI,?_,?_,?_,?_,?_,ZbY,trivial⟩
   ·open zf9 in exact Zdv
   ·intro ρ w3 hc hL hr;intro hg;have hg:ρ (.tmp 50)=.bool true:=hg;refine⟨λ _=>?_,λ hn=>absurd hg hn⟩;exact Zaq
   ·open zga in exact Zdv
   ·open zgb in exact Zdv
   ·open zgc in exact Zdv
  open zfP in exact Zc7):p:=h
theorem zah.Kaa(h:p:=by
 have x0:nR.cell? ⟨g1,0,none⟩=some (.int .u8 4):=by have:=H0.out.q.cell 0;rw[show(bD y).toArray[0]?=some (.int .u8 y.kind)from rfl,mS] at this;exact this
 clear mS hk;have EF:nR.cell? ⟨g1,15,none⟩=some (.int .u8 y.what):=H0.out.q.cell 15;go_upto_region 13 with fail;refine wp_region_lit ?_;refine fu rfl 92 rfl ?_;have hM:=iZ.new nR;have jK:Below nR.heap.size nR (nR.alloc (.map #[] 0)):=aa nR (.map #[] 0);obtain⟨gm,pg⟩:∃gm,gm=nR.heap.size:=⟨_,rfl⟩;rw[<- pg] at hM ⊢;have hle:nR.heap.size<=gm:=Nat.le_of_eq pg.symm;have Om:=(jK.cell (p:=⟨g1,15,none⟩) (ax EF)).trans EF;have X15:=hid EF;clear pg EF x0;generalize nR.alloc _=W0 at*;obtain⟨X,hX⟩:∃X,X=pY y.what:=⟨_,rfl⟩;have HX:=hid hX;have hXl:X.length<=5:=by rw[hX];exact Yl _
 open zgI in exact Zed):p:=h
theorem Ym(hE:dy w0) (hS:∀b,S b->b < w0.heap.size)  (h:s.at_ w0 S y)(hf:s.jb m)(hm:m<=1048576)(w:World)(hst:eI w0.heap.size b s0 n w)(hw:Below w0.heap.size w0 w)(hk:s.kind=4)(hn:n+s.cost<=49999000):
  Calls Tryz.prog 19 #[.pointer (some ⟨b,0,none⟩),ji y] w (ba w0.heap.size b (aq s0 (cF s)) (n+s.cost) w):=by
 rw[show cF s=aq (bg (!(pY s.what== [])&& dJ s false false false true false false false false false)) (aq (some ([68,82,79,80,32]++pY s.what++ [32])) (dx s.name)) by unfold cF;rw[hk];rfl];have mS:y.kind=4:=by rw[h.kind,hk]
 unfold St.cost at hn ⊢;have JS:=gj s;have zZ:=hf.nodes;have hlt:=hst.lt;have hsz:=hst.size;obtain⟨tt,oy⟩:∃tt,tt=dJ s false false false true false false false false false:=⟨_,rfl⟩;have TT:=hid (λ W=>gi h hf hm false false false true false false false false false W);rw[<- oy] at TT;unfold ji at TT;have yK:=hid oy;clear oy;open zah in exact Zaa
theorem FM:∀rs:List (List Tr),gb (rs.map Tr.costs) (rs.map Tr.costs).length<=13*Tr.aQ rs.flatten+3*rs.length
 | []=>by simp[gb]
 | r::rs=>by have ih:=FM rs;have h:=ju r;simp only[map_cons,length_cons,gb,flatten_cons,eG] at ih ⊢;omega
variable{r:List Tr}
theorem FN:∀ {rs:List (List Tr)},r∈rs->Tr.aQ r<=Tr.aQ rs.flatten
 | q::rs,h=>by
   simp only[flatten_cons,eG];rcases List.mem_cons.1 h with rfl | h
   ·omega
   ·have:=FN h;omega
theorem zcm.Kau(h:p:=by
 have en:∀args w,(callFunc 42 args).run Tryz.prog w=.ok (.enter 42 args) w:=enters_of Tryz.func42 Tac rfl;have EN:=hid en;have HL:=hid vg;have HY:=hid hlen;have HR:=hid hR;have HC:=hid Yd;clear en vg hlen hR Yd;have hrc:=FM s.rows;have fW:(s.rows.map Tr.costs).length=y.rows.n:=by rw[length_map,HL.out]
 rw[fW] at hrc;have HRC:=hid hrc;have CL:=hid fW;clear hrc fW;have wj:w4.cell? ⟨g1,19,none⟩=some (.slice y.rows.A y.rows.n y.rows.c):=H4.out.q.cell 19;have p0:w4.cell? ⟨g0,0,none⟩=some (.pointer (some ⟨b,0,none⟩)):=H4.out.p.cell 0;go_wp2_with fail;refine(TF (λ i=>(s.rows.map Tr.costs).getD i 0+2) (gb (s.rows.map Tr.costs)) 42 #[] #[.pointer (some ⟨g0,0,none⟩)] EN.out y.rows.A y.rows.c y.rows.n ys (s.rows.map AE) S hS Tbf Tas HR.out w4 H4.out.st H4.out.hw (jE _) (λ i hi=>uN _ 2 Tab i Tap) (λ i hi=>by have:=qu (s.rows.map Tr.costs) i Tap;rw[CL.out] at this;exact this) (by have:=HRC.out;omega) TaT (λ i z oo hz ho Wr s' n' dW hW hc=>by
  obtain⟨x,hx,rfl⟩:∃x,s.rows[i]?=some x/\AE x=oo:=by simpa [getElem?_map] using ho
  have hr:=pw HC.out hx hz
  have O5:=mem_of_getElem? hx
  have AQ:=HF.out.rows x O5
  have hnr:=FN O5
  have hcg:(s.rows.map Tr.costs).getD i 0=Tr.costs x:=by simp[List.getD,hx]
  rw[hcg] at hc ⊢
  exact XW hE hS z x hr AQ.1 Taa Wr hW (H4.out.hw.trans dW.below) (dW.blk H4.out.p hg0 Tab) hg0 Taa)).mono ?_
 rintro e w5 ⟨rfl,h2,d2⟩;have H5:=hid (H4.out.next hg0 hg1 h2 d2);clear h2 d2 H4 p0 wj;have hrc:=HRC.out;go_wp2_with fail;go_end0;refine⟨rfl,?_,H5.out.did⟩;have:=H5.out.st.more (show n+3+1+gb (s.rows.map Tr.costs) y.rows.n<=n+(13*Tr.aQ s.exprs+4*s.aJ.length+3*s.rows.length+80) by omega);exact Zfk):p:=h
theorem zfw.Kbu(h:p:=by refine(cA ⟨#[32,86,65,76,85,69,83,32]⟩ w3 H3.out.st Tab Taa).mono ?_;rintro e w4 ⟨rfl,h2,d2⟩;have H4:=hid (H3.out.next hg0 hg1 h2 d2);clear h2 d2 H3 p0;obtain⟨vg,ys,hR,Yd⟩:=HA.out.rows;have hlen:List.length (α:=Sl) ys=s.rows.length:=Yd.len;open zcm in exact ZaJ):p:=h
theorem zdq.KaM(h:p:=by refine(mj hE ⟨#[73,78,83,69,82,84,32,73,78,84,79]⟩ y.name w2 H2.out.st H2.out.hw Tab Tan Taa).mono ?_;open zfw in exact ZcM):p:=h
theorem zai.Kaa(h:p:=by
 have x0:nR.cell? ⟨g1,0,none⟩=some (.int .u8 5):=by have:=H0.out.q.cell 0;rw[show(bD y).toArray[0]?=some (.int .u8 y.kind)from rfl,mS] at this;exact this
 clear mS hk;go_upto_region 17 with fail;have bX:w0.heap.size<=w.heap.size:=by rw[jv.out];exact dK.out
 refine cM 6 (Ir b g1 y tt) (EE _ _ _ _) Tac Tac Tac ?_ ?_
 ·simp only[take_succ_cons,take_zero];refine⟨Zbw,ZaX,ZbI,?_,?_,?_,trivial⟩
  ·intro ρ w3 hc hL hr;have h0:_=_:=hr.1;have k19:w3.cell? ⟨g1,19,none⟩=some (.slice y.rows.A y.rows.n y.rows.c):=(av.later H0.out.q hL).cell 19;exact Zg6
  ·intro ρ w3 hc hL hr;have h0:_=_:=hr.1;exact ae (w':=w3) (gT rfl (by simp only[map_toArray,map_cons,map_nil,h0];exact TH y)) ⟨af.refl _,rfl⟩
  ·intro ρ w3 hc hL hr;have h0:_=_:=hr.1;have h1:_=_:=hr.2.1;have e1:=hc.func 37;refine dG (f:=37) (args:= #[.agg (bD y).toArray,.agg (bD (eM y false false false false false true false false false)).toArray]) (w':=w3) Taq ?_;exact Zce
 intro W2 hL;simp only[Uab];rintro _ rfl a1 - a2 - a3 - a4 - _ rfl;open zdq in exact Zbe):p:=h
theorem Oq(hE:dy w0) (hS:∀b,S b->b < w0.heap.size)  (h:s.at_ w0 S y)(hf:s.jb m)(hm:m<=1048576)(w:World)(hst:eI w0.heap.size b s0 n w)(hw:Below w0.heap.size w0 w)(hk:s.kind=5)(hn:n+s.cost<=49999000):
  Calls Tryz.prog 19 #[.pointer (some ⟨b,0,none⟩),ji y] w (ba w0.heap.size b (aq s0 (cF s)) (n+s.cost) w):=by
 rw[show cF s=aq (bg (dJ s false false false false false true false false false)) (aq (some [73,78,83,69,82,84,32,73,78,84,79,32]) (aq (dx s.name) (aq (some [32,86,65,76,85,69,83,32]) (dC (s.rows.map AE))))) by unfold cF;rw[hk];rfl];have mS:y.kind=5:=by rw[h.kind,hk]
 unfold St.cost at hn ⊢;have JS:=gj s;have zZ:=hf.nodes;have hlt:=hst.lt;have hsz:=hst.size;obtain⟨tt,oy⟩:∃tt,tt=dJ s false false false false false true false false false:=⟨_,rfl⟩;have TT:=hid (λ W=>gi h hf hm false false false false false true false false false W);rw[<- oy] at TT;unfold ji at TT;have yK:=hid oy;clear oy;open zai in exact Zaa
theorem zfx.Kbu(h:p:=by refine(cA ⟨#[32,65,83,32]⟩ w3 H3.out.st Tab Taa).mono ?_;rintro e w4 ⟨rfl,h2,d2⟩;have H4:=hid (H3.out.next hg0 hg1 h2 d2);clear h2 d2 H3 p0;have x7:w4.cell? ⟨g1,7,none⟩=some (.slice y.query.items.A y.query.items.n y.query.items.c):=H4.out.q.cell 7;have x8:w4.cell? ⟨g1,8,none⟩=some (.string y.query.aK):=H4.out.q.cell 8;have x9:w4.cell? ⟨g1,9,none⟩=some (.bool y.query.only):=H4.out.q.cell 9;have MK:w4.cell? ⟨g1,10,none⟩=some (.slice y.query.aR.A y.query.aR.n y.query.aR.c):=H4.out.q.cell 10;have ML:w4.cell? ⟨g1,11,none⟩=some (.slice y.query.group.A y.query.group.n y.query.group.c):=H4.out.q.cell 11;have MM:w4.cell? ⟨g1,12,none⟩=some (.slice y.query.having.A y.query.having.n y.query.having.c):=H4.out.q.cell 12;have AV:w4.cell? ⟨g1,13,none⟩=some (.slice y.query.order.A y.query.order.n y.query.order.c):=H4.out.q.cell 13;have CT:w4.cell? ⟨g1,14,none⟩=some (.slice y.query.aG.A y.query.aG.n y.query.aG.c):=H4.out.q.cell 14;have p0:w4.cell? ⟨g0,0,none⟩=some (.pointer (some ⟨b,0,none⟩)):=H4.out.p.cell 0;go_wp2_with fail;refine(rC hE hS HA.out.query HF.out.query hm w4 H4.out.st H4.out.hw (by unfold Qu.cost;omega)).mono ?_;rintro e w5 ⟨rfl,h2,d2⟩;unfold Qu.cost at h2;have H5:=hid (H4.out.next hg0 hg1 h2 d2);clear h2 d2 H4 p0 x7 x8 x9 MK ML MM AV CT;go_wp2_with fail;go_end0;refine⟨rfl,?_,H5.out.did⟩;have:=H5.out.st.more (show n+3+1+(13*Tr.aQ s.query.exprs+20)<=n+(13*Tr.aQ s.exprs+4*s.aJ.length+3*s.rows.length+80) by omega);exact Zfk):p:=h
theorem zdr.KaM(h:p:=by refine(mj hE ⟨#[67,82,69,65,84,69,32,86,73,69,87]⟩ y.name w2 H2.out.st H2.out.hw Tab Tan Taa).mono ?_;open zfx in exact ZcM):p:=h
theorem zaj.Kaa(h:p:=by
 have x0:nR.cell? ⟨g1,0,none⟩=some (.int .u8 2):=by have:=H0.out.q.cell 0;rw[show(bD y).toArray[0]?=some (.int .u8 y.kind)from rfl,mS] at this;exact this
 clear mS hk;go_upto_region 8 with fail;have bX:w0.heap.size<=w.heap.size:=by rw[jv.out];exact dK.out
 refine cM 6 (CP b g1 y tt) (CQ _ _ _ _) Tac Tac Tac ?_ ?_
 ·simp only[take_succ_cons,take_zero];refine⟨Zbw,ZaX,ZbI,Zap,Zca,Zbn,trivial⟩
 intro W2 hL;simp only[Uab];rintro _ rfl a1 - a2 - a3 - a4 - _ rfl;open zdr in exact Zbe):p:=h
theorem zfF.Kbx(h:p:=by clear oy;open zaj in exact Zaa):p:=h
theorem Yj(hE:dy w0) (hS:∀b,S b->b < w0.heap.size)  (h:s.at_ w0 S y)(hf:s.jb m)(hm:m<=1048576)(w:World)(hst:eI w0.heap.size b s0 n w)(hw:Below w0.heap.size w0 w)(hk:s.kind=2)(hn:n+s.cost<=49999000):
  Calls Tryz.prog 19 #[.pointer (some ⟨b,0,none⟩),ji y] w (ba w0.heap.size b (aq s0 (cF s)) (n+s.cost) w):=by
 rw[show cF s=aq (bg (dJ s false true false false false false false false false)) (aq (some [67,82,69,65,84,69,32,86,73,69,87,32]) (aq (dx s.name) (aq (some [32,65,83,32]) (jr s.query)))) by unfold cF;rw[hk];rfl];have mS:y.kind=2:=by rw[h.kind,hk]
 open zfF in exact ZcR
theorem zak.Kaa(h:p:=by
 have x0:nR.cell? ⟨g1,0,none⟩=some (.int .u8 1):=by have:=H0.out.q.cell 0;rw[show(bD y).toArray[0]?=some (.int .u8 y.kind)from rfl,mS] at this;exact this
 exact ZbO):p:=h
theorem TJ(hE:dy w0) (hS:∀b,S b->b < w0.heap.size)  (h:s.at_ w0 S y)(hf:s.jb m)(hm:m<=1048576)(w:World)(hst:eI w0.heap.size b s0 n w)(hw:Below w0.heap.size w0 w)(hk:s.kind=1)(hn:n+s.cost<=49999000):
  Calls Tryz.prog 19 #[.pointer (some ⟨b,0,none⟩),ji y] w (ba w0.heap.size b (aq s0 (cF s)) (n+s.cost) w):=by
 have Yi:∀W,eI w0.heap.size b s0 n W->Below w0.heap.size w0 W->Calls Tryz.prog 34 #[.pointer (some ⟨b,0,none⟩),.agg (bD y).toArray] W (ba w0.heap.size b (aq s0 (og s)) (n+s.cost) W):=λ W h1 h2=>Oj hE hS h hf hm W h1 h2 hn
 have TB:=hid Yi;clear Yi;rw[show cF s=og s by unfold cF;rw[hk];rfl];have mS:y.kind=1:=by rw[h.kind,hk]
 unfold St.cost at hn ⊢;have JS:=gj s;have zZ:=hf.nodes;have hlt:=hst.lt;have hsz:=hst.size;open zak in exact Zaa
theorem zal.Kaa(h:p:=by
 have x0:nR.cell? ⟨g1,0,none⟩=some (.int .u8 3):=by have:=H0.out.q.cell 0;rw[show(bD y).toArray[0]?=some (.int .u8 y.kind)from rfl,mS] at this;exact this
 exact ZbO):p:=h
theorem X7(hE:dy w0) (hS:∀b,S b->b < w0.heap.size)  (h:s.at_ w0 S y)(hf:s.jb m)(hm:m<=1048576)(w:World)(hst:eI w0.heap.size b s0 n w)(hw:Below w0.heap.size w0 w)(hk:s.kind=3)(hn:n+s.cost<=49999000):
  Calls Tryz.prog 19 #[.pointer (some ⟨b,0,none⟩),ji y] w (ba w0.heap.size b (aq s0 (cF s)) (n+s.cost) w):=by
 have Yi:∀W,eI w0.heap.size b s0 n W->Below w0.heap.size w0 W->Calls Tryz.prog 35 #[.pointer (some ⟨b,0,none⟩),.agg (bD y).toArray] W (ba w0.heap.size b (aq s0 (Co s)) (n+s.cost) W):=λ W h1 h2=>Yf hE hS h hf hm W h1 h2 hn
 have TB:=hid Yi;clear Yi;rw[show cF s=Co s by unfold cF;rw[hk];rfl];have mS:y.kind=3:=by rw[h.kind,hk]
 unfold St.cost at hn ⊢;have JS:=gj s;have zZ:=hf.nodes;have hlt:=hst.lt;have hsz:=hst.size;open zal in exact Zaa
theorem zam.Kaa(h:p:=by have x0:nR.cell? ⟨g1,0,none⟩=some (.int .u8 y.kind):=H0.out.q.cell 0;have p0:nR.cell? ⟨g0,0,none⟩=some (.pointer (some ⟨b,0,none⟩)):=H0.out.p.cell 0;obtain⟨⟨sb,c2⟩,fz,hs2,yJ⟩:=H0.out.st.xt;have uD:=hid hs2;have eP:=hid (H0.out.did.trans yJ);clear hs2 yJ Yo;go_wp2_with fail;go_end0;exact⟨rfl,uD.out.more Taa,eP.out⟩):p:=h
theorem X9(hE:dy w0) (hS:∀b,S b->b < w0.heap.size)  (h:s.at_ w0 S y)(hf:s.jb m)(hm:m<=1048576)(w:World)(hst:eI w0.heap.size b s0 n w)(hw:Below w0.heap.size w0 w)(hk:s.kind=s.kind)(Yo:¬(1<=s.kind/\s.kind<=12))(hn:n+s.cost<=49999000):
  Calls Tryz.prog 19 #[.pointer (some ⟨b,0,none⟩),ji y] w (ba w0.heap.size b (aq s0 (cF s)) (n+s.cost) w):=by
 clear hk;have hno:cF s=none:=by unfold cF;rw[if_neg Taa,if_neg Taa,if_neg Taa,if_neg Taa,if_neg Taa,if_neg Taa,if_neg Taa,if_neg Taa,if_neg Taa]
 rw[hno,jC];clear hno;unfold St.cost at hn ⊢;have mS:=h.kind;have t1:(y.kind==1)=false:=by rw[mS];simp;omega
 have t2:(y.kind==2)=false:=by rw[mS];simp;omega
 have t3:(y.kind==3)=false:=by rw[mS];simp;omega
 have t4:(y.kind==4)=false:=by rw[mS];simp;omega
 have t5:(y.kind==5)=false:=by rw[mS];simp;omega
 have t6:(y.kind==6)=false:=by rw[mS];simp;omega
 have t7:(y.kind==7)=false:=by rw[mS];simp;omega
 have t8:(y.kind==8)=false:=by rw[mS];simp;omega
 have t9:(y.kind==9)=false:=by rw[mS];simp;omega
 have t10:(y.kind==10)=false:=by rw[mS];simp;omega
 have t11:(y.kind==11)=false:=by rw[mS];simp;omega
 have t12:(y.kind==12)=false:=by rw[mS];simp;omega
 clear mS;have hlt:=hst.lt;have hsz:=hst.size;open zam in exact Zaa
theorem TV(hE:dy w0) (hS:∀b,S b->b < w0.heap.size)  (h:s.at_ w0 S y)(hf:s.jb m)(hm:m<=1048576)(w:World)(hst:eI w0.heap.size b s0 n w)(hw:Below w0.heap.size w0 w)(hn:n+s.cost<=49999000):
  Calls Tryz.prog 19 #[.pointer (some ⟨b,0,none⟩),ji y] w (ba w0.heap.size b (aq s0 (cF s)) (n+s.cost) w):=by
 by_cases hk:1<=s.kind/\s.kind<=12
 ·have hc:s.kind=1\/s.kind=2\/s.kind=3\/s.kind=4\/s.kind=5\/s.kind=6\/s.kind=7\/s.kind=8\/s.kind=9\/s.kind=10\/s.kind=11\/s.kind=12:=by omega
  rcases hc with e | e | e | e | e | e | e | e | e | e | e | e
  ·exact TJ hE hS h hf hm w hst hw e hn
  ·exact Yj hE hS h hf hm w hst hw e hn
  ·exact X7 hE hS h hf hm w hst hw e hn
  ·exact Ym hE hS h hf hm w hst hw e hn
  ·exact Oq hE hS h hf hm w hst hw e hn
  ·exact Ot hE hS h hf hm w hst hw e hn
  ·exact Ou hE hS h hf hm w hst hw e hn
  ·exact Ow hE hS h hf hm w hst hw e hn
  ·exact TR hE hS h hf hm w hst hw e hn
  ·exact Oy hE hS h hf hm w hst hw e hn
  ·exact Oz hE hS h hf hm w hst hw e hn
  ·exact OA hE hS h hf hm w hst hw e hn
 ·exact X9 hE hS h hf hm w hst hw rfl hk hn
variable{B:Nat}{o:Option aV}
theorem FO(w:World)(h:eI B b o n w):Calls Tryz.prog 20 #[.pointer (some ⟨b,0,none⟩)] w λ e w'=>e=.returned (.tuple #[strOf (pZ o).1,.int .i64 (pZ o).2])/\Below B w w':=by
 obtain⟨bad,l,h1,h2,rfl⟩:=h;have jf:=SE B b bad l w h1;obtain⟨p,v,hb⟩:=h1.cells;have HC:=hid jf;have HB:=hid hb;clear jf h1 h2 hb;go_enter Tryz.func20,Tryz.ntmps20;go_wp2_with fail;refine HC.out.mono ?_;rintro e w1 ⟨rfl,b1,k1⟩;have c2:w1.cell? ⟨b,2,none⟩=some (.bool bad):=by rw[Lib.cell_of_heap (k1.trans HB.out)];rfl
 have B1:=hid b1;clear b1 k1 HC HB;cases bad
 ·by_cases hl:4096 < l.length
  ·have t1:decide ((4096:Int)<(l.length:Int))=true:=decide_eq_true Taa;have t2:decide (4096 < l.length)=true:=decide_eq_true hl;have HR:=hid (show pZ (some l)=([],2) by unfold pZ;exact if_pos hl);exact Zg1
  ·have t1:decide ((4096:Int)<(l.length:Int))=false:=decide_eq_false Taa;have t2:decide (4096 < l.length)=false:=decide_eq_false hl;have HR:=hid (show pZ (some l)=(l,0) by unfold pZ;exact if_neg hl);exact Zg1
 ·go_wp2_with fail;go_ret2;exact⟨rfl,B1.out⟩
def OB (x:aV×Int):Value:=.tuple #[strOf x.1,.int .i64 x.2]
theorem Yp(w:World)(hB:B<=w.heap.size):eI B w.heap.size (some []) 0 (w.alloc (.cells #[.pointer none,.slice none 0 0,.bool false] 63)):=
 ⟨false,[],.inl ⟨hB,.slice none 0 0,heap_alloc_new w _,⟨rfl,.inl ⟨rfl,rfl⟩⟩,by simp[Value.ownBlock],λ _=>rfl⟩,Nat.zero_le _,rfl⟩
theorem KU (o:Option aV):aq (some []) o=o:=by cases o <;> simp[aq]
theorem Yq(hf:s.jb m)(hm:m<=1048576):0+s.cost<=49999000:=by have:=hf.nodes;unfold St.cost;omega
variable{w:World}
theorem wk(hE:dy w) (hS:∀b,S b->b < w.heap.size)  (h:s.at_ w S y) (hf:s.jb m)(hm:m<=1048576):
  Calls Tryz.prog 10 #[ji y] w λ e w'=>e=.returned (OB (vQ s))/\Below w.heap.size w w':=by
 obtain⟨cs,hcs⟩:∃cs,cs=(bD y).toArray:=⟨_,rfl⟩;have Ty:(Tryz.prog.info? 34).map (·.size)=some cs.size:=by rw[hcs];exact kg y
 have Yi:∀W b,eI w.heap.size b (some []) 0 W->Below w.heap.size w W->Calls Tryz.prog 19 #[.pointer (some ⟨b,0,none⟩),.agg cs] W (ba w.heap.size b (cF s) (0+s.cost) W):=λ W b h1 h2=>by have:=TV hE hS h hf hm W h1 h2 (Yq hf hm);rw[KU] at this;rw[hcs];exact this
 have TB:=hid Yi;have HCI:=hid Ty;show Calls Tryz.prog 10 #[.agg (bD y).toArray] w _;rw[<- hcs];clear Yi Ty hcs h hf hm;have b1:=aa w (.cells cs 34);have b2:=aa (w.alloc (.cells cs 34)) (.cells #[.pointer none,.slice none 0 0,.bool false] 63);have hq:=(av.new w 34 cs).alloc (.cells #[.pointer none,.slice none 0 0,.bool false] 63);have hwr:=Yp (B:=w.heap.size) (w.alloc (.cells cs 34)) b1.size;have hB:=af.then b1 b2;rw[World.size_alloc] at hwr;have HQ:=hid hq;have HW:=hid hwr;have HB:=hid hB;clear b1 b2 hq hwr hB;go_enter Tryz.func10,Tryz.ntmps10;go_upto_region 2 with fail
 change Code.wp _ _ _ _ ((w.alloc (.cells cs 34)).alloc (.cells #[.pointer none,.slice none 0 0,.bool false] 63));generalize ((w.alloc _).alloc _)=W at*;have hq:=HQ.out;go_wp2_with (first
  |(refine wpList_load_row rfl 34 (.tmp 1) rfl w.heap.size rfl 34 cs (0,0) _ hq Tryz.underlying34 rfl HCI.out ?_))
 refine(TB.out W _ HW.out HB.out).mono ?_;rintro e w1 ⟨rfl,h1,d1⟩;have H1:=hid h1;have B1:=hid (HB.out.trans d1.below);clear h1 d1 hq HQ HW HB TB;exact ZdN
variable{t:Tr}
theorem zh7.KcB(h:p:=by refine(TB.out W _ HW.out HB.out).mono ?_;rintro e w1 ⟨rfl,h1,d1⟩;have H1:=hid h1;have B1:=hid (HB.out.trans d1.below);clear h1 d1 HQ HW HB TB x0 x1 x2 x3 x4 x5 x6;exact ZdN):p:=h
theorem OC(hE:dy w) (hS:∀b,S b->b < w.heap.size)  {y:Ex}(h:t.at_ w S y)(hf:t.fine)(ht:t.thin)(hn:t.nodes<=1000000):
  Calls Tryz.prog 12 #[dN y] w λ e w'=>e=.returned (OB (ait t))/\Below w.heap.size w w':=by
 have hc:=vY t;have Yi:∀W b,eI w.heap.size b (some []) 0 W->Below w.heap.size w W->Calls Tryz.prog 23 #[.pointer (some ⟨b,0,none⟩),dN y] W (ba w.heap.size b t.whole (0+t.cost) W):=λ W b h1 h2=>by have:=Tr.vZ (b:=b) hE hS t y h hf ht hn W (some []) 0 h1 h2 Taa;rw[KU] at this;exact this
 obtain⟨op,v,name,width,A,k,cp⟩:=y;unfold dN aT at*;have TB:=hid Yi;clear Yi h hf ht hn hc;have b1:=aa w (.cells #[.int .u8 op,.int .u8 v.k,.int .i64 v.n,.string v.s,.string name,.int .i64 width,.slice A k cp] 36);have b2:=aa (w.alloc (.cells #[.int .u8 op,.int .u8 v.k,.int .i64 v.n,.string v.s,.string name,.int .i64 width,.slice A k cp] 36)) (.cells #[.pointer none,.slice none 0 0,.bool false] 63);have hq:=(av.new w 36 #[.int .u8 op,.int .u8 v.k,.int .i64 v.n,.string v.s,.string name,.int .i64 width,.slice A k cp]).alloc (.cells #[.pointer none,.slice none 0 0,.bool false] 63);have hwr:=Yp (B:=w.heap.size) (w.alloc (.cells #[.int .u8 op,.int .u8 v.k,.int .i64 v.n,.string v.s,.string name,.int .i64 width,.slice A k cp] 36)) b1.size;have hB:=af.then b1 b2;rw[World.size_alloc] at hwr;have HQ:=hid hq;have HW:=hid hwr;have HB:=hid hB;clear b1 b2 hq hwr hB;go_enter Tryz.func12,Tryz.ntmps12;go_upto_region 2 with fail;generalize ((w.alloc _).alloc _)=W at*;have x0:=HQ.out.cell 0;have x1:=HQ.out.cell 1;have x2:=HQ.out.cell 2;have x3:=HQ.out.cell 3;have x4:=HQ.out.cell 4;have x5:=HQ.out.cell 5;have x6:=HQ.out.cell 6;open zh7 in exact Zgm
end Go.Proofs.YtehhdlgjfdnafaaGreatDoor
