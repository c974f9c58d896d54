/- Parts of the proof. -/
import Derived.Test.YtehhdlgjfdnafaaGreatDoorXB29
namespace Go.Proofs.YtehhdlgjfdnafaaGreatDoor
variable{p:Prop}
set_option maxHeartbeats 90000000
set_option maxRecDepth 100000
open Go.Lib (hid)
open Go.ChangeShapes Go.WideShapes Go.ChangeAt Go.RowKit Go.Shelf List
set_option linter.unusedVariables false
set_option linter.unusedSimpArgs false
variable{t r:Int}
theorem ajY(nm:ByteArray) (h0:0<=t)(hr:t.tmod 4=r)(X:ByteArray)(hX:1<=t->t<=3->X.data.toList=WZ t):Eu (nm,t)=aq (dx nm) (aq (bg (decide (1<=t)&& decide (t<=3))) (some (32::X.data.toList))):=by
 unfold Eu;dsimp only;by_cases h1:1<=t
 ·by_cases h2:t<=3
  ·rw[hX h1 h2]
  ·rw[decide_eq_false h2,Bool.and_false];rfl
 ·rw[decide_eq_false h1,Bool.false_and];rfl
theorem aeI (t:Int)(h0:0<=t):∃(r:Int) (X:ByteArray),t.tmod 4=r/\X.size<=100/\(1<=t->t<=3->X.data.toList=WZ t)/\∀u:World,(Instr.index 127 (.agg #[.string ⟨#[]⟩,.string ⟨#[66,79,79,76]⟩,.string ⟨#[73,78,84]⟩,.string ⟨#[84,69,88,84]⟩]) (.int .u8 r)).run Tryz.prog u=.ok (.string X) u:=by
 have hk:∀k:Int,t.tmod 4=k->1<=t->t<=3->t=k:=by intro k h a b;rw[Int.tmod_eq_emod_of_nonneg h0] at h;omega
 rcases V7 t h0 with h | h | h | h
 ·exact⟨0,⟨#[]⟩,h,by decide,λ a b=>by have:=hk 0 h a b;omega,λ u=>by kernel_rfl⟩
 ·exact⟨1,⟨#[66,79,79,76]⟩,h,by decide,λ a b=>by rw[hk 1 h a b];rfl,λ u=>by kernel_rfl⟩
 ·exact⟨2,⟨#[73,78,84]⟩,h,by decide,λ a b=>by rw[hk 2 h a b];rfl,λ u=>by kernel_rfl⟩
 ·exact⟨3,⟨#[84,69,88,84]⟩,h,by decide,λ a b=>by rw[hk 3 h a b];rfl,λ u=>by kernel_rfl⟩
variable{w0:World}{b n:Nat}
theorem zfh.Kbn(h:p:=by
 have x0:=HB.out.cell 0;have p0:=HP.out.cell 0;simp only[getElem?_toArray,getElem?_cons_zero] at x0 p0;go_wp2_with fail;refine(ey hE nm W1 HS.out (hw.trans HD.out.below) hl Taa).mono ?_;rintro e w1 ⟨rfl,h2,d2⟩;have H1:=hid h2;have D1:=hid (HD.out.trans d2);have jB:=hid (d2.blk HB.out lO Tab);have VZ:=hid (d2.blk HP.out Ie Tab);clear HS HD HB HP d2 h2 x0 p0;have x1:=jB.out.cell 1;have p0:=VZ.out.cell 0;simp only[Uaa] at x1 p0;go_upto_region 2 with fail;go_cut [] (λ wx=>eI w0.heap.size b (aq (aq s (dx nm)) (bg ok)) (n+1) wx/\cy w0.heap.size b w1 wx)
 case first=>
  have Kr:∀(q:Bool),q=ok->Calls Tryz.prog 36 #[.pointer (some ⟨b,0,none⟩),.bool q] w1 λ e w'=>e=.returned (.tuple #[])/\eI w0.heap.size b (aq (aq s (dx nm)) (bg ok)) (n+1) w'/\cy w0.heap.size b w1 w':=λ q hq=>(bh q w1 H1.out).mono λ e w' h2=>by subst hq;exact h2
  have MS:=hid Kr;clear Kr;by_cases c1:1<=t
  ·have t1:decide ((1:Int)<=t)=true:=decide_eq_true c1;by_cases c2:t<=3
   ·have t2:decide (t<=(3:Int))=true:=decide_eq_true c2;have jL:=hid (show true=ok by rw[jh.out,t1,t2];rfl);clear c1 c2;exact Zba
   ·have t2:decide (t<=(3:Int))=false:=decide_eq_false c2;have jL:=hid (show false=ok by rw[jh.out,t1,t2];rfl);clear c1 c2;exact Zba
  ·have t1:decide ((1:Int)<=t)=false:=decide_eq_false c1;have jL:=hid (show false=ok by rw[jh.out,t1];rfl);clear c1;exact Zba
 case rest=>
 obtain⟨h5,d5⟩:=hcut;have:=KEY.out wc _ (n+1) Taa _ h5 (D1.out.trans d5) (d5.blk VZ.out Ie Tab) (d5.blk jB.out lO Tab);rw[aD,aD] at this;go_upto_region 3 with fail;exact this _ rfl rfl rfl):p:=h
theorem XY{p:Nat} {s:Option aV}(hE:dy w0)(z:ByteArray×Int)(hl:z.1.size<=1048576)(h0:0<=z.2)(h1:z.2<=255)(w:World)(h:eI w0.heap.size b s n w)(hw:Below w0.heap.size w0 w)(hp:av w p 87 #[.pointer (some ⟨b,0,none⟩)])(Ie:p≠b)(hn:n+3<=50000000):
  Calls Tryz.prog 80 #[.agg #[.string z.1,.int .u8 z.2],.pointer (some ⟨p,0,none⟩)] w (ba w0.heap.size b (aq s (Eu z)) (n+3) w):=by
 obtain⟨nm,t⟩:=z;dsimp only at hl h0 h1;obtain⟨r,X,hr,hX,hXt,V9⟩:=aeI t h0;rw[ajY nm h0 hr X hXt];have key:=λ(W:World) (st:Option aV) (m:Nat) (hm:m+2<=50000000) (g:Nat) (qZ:eI w0.heap.size b st m W) (nK:cy w0.heap.size b w W) (h3':av W p 87 #[.pointer (some ⟨b,0,none⟩)]) (h4':av W g 53 #[.string nm,.int .u8 t]) (T:Array Value) (hT:T.size=25) (t1:T.getD 1 undef=.pointer (some ⟨p,0,none⟩)) (t2:T.getD 2 undef=.pointer (some ⟨g,0,none⟩))=>V8 h0 h1 hr hX V9 W w qZ nK hm hw.size h3' h4' hT t1 t2
 simp only[ja,Tryz.f80,Option.getD_some] at key;have KEY:=hid key;have HH:=hid h;have hsz:=h.size;have hlt:=h.lt;obtain⟨ok,az⟩:∃ok,ok=(decide (1<=t)&& decide (t<=3)):=⟨_,rfl⟩;rw[<- az];have jh:=hid az;clear key h hXt V9 hr az;go_enter Tryz.func80,Tryz.ntmps80;have bx:=aa w (.cells #[.string nm,.int .u8 t] 53);have HB:=hid (av.new w 53 #[.string nm,.int .u8 t]);open zfh in exact Zcs
variable{m:Nat}{s0:Option aV}{S:Nat->Prop}{s:St}{y:fl}
theorem zci.Kau(h:p:=by
 have en:∀args w,(callFunc 80 args).run Tryz.prog w=.ok (.enter 80 args) w:=enters_of Tryz.func80 Tac rfl;have EN:=hid en;have HL:=hid vg;have HY:=hid hlen;have HR:=hid hR;have HC:=hid Yd;have AB:s.aJ.length<=1048576:=by have:=HF.out.nodes;omega
 clear en vg hlen hR Yd;have x2:w5.cell? ⟨g1,2,none⟩=some (.slice y.aJ.A y.aJ.n y.aJ.c):=H5.out.q.cell 2;have p0:w5.cell? ⟨g0,0,none⟩=some (.pointer (some ⟨b,0,none⟩)):=H5.out.p.cell 0;go_wp2_with fail;refine(TD (λ _=>3) (λ i=>4*i) 80 #[] #[.pointer (some ⟨g0,0,none⟩)] EN.out y.aJ.A y.aJ.c y.aJ.n ys (s.aJ.map Eu) S hS Tbf Tas HR.out w5 H5.out.st H5.out.hw rfl (λ i _=>by omega) (λ i hi=>by omega) TaT TaT (λ i z oo hz ho Wr s' n' dW hW hc=>by
  obtain⟨x,hx,rfl⟩:∃x,s.aJ[i]?=some x/\Eu x=oo:=by simpa [getElem?_map] using ho
  have hr:z=x:=pw HC.out hx hz
  subst hr
  have AQ:=HF.out.aJ z (mem_of_getElem? hx)
  exact XY hE z AQ.1 AQ.2.1 AQ.2.2 Wr hW (H5.out.hw.trans dW.below) (dW.blk H5.out.p hg0 Tab) hg0 Taa)).mono ?_
 rintro e w6 ⟨rfl,h2,d2⟩;rw[HL.out] at h2;have H6:=hid (H5.out.next hg0 hg1 h2 d2);clear h2 d2 H5 p0 x2;have p0:w6.cell? ⟨g0,0,none⟩=some (.pointer (some ⟨b,0,none⟩)):=H6.out.p.cell 0;go_wp2_with fail;refine(cA ⟨#[41,32,84,73,77,69,32]⟩ w6 H6.out.st Tab Taa).mono ?_;rintro e w7 ⟨rfl,h2,d2⟩;have H7:=hid (H6.out.next hg0 hg1 h2 d2);clear h2 d2 H6 p0;have x3:w7.cell? ⟨g1,3,none⟩=some (.string y.time):=H7.out.q.cell 3;have p0:w7.cell? ⟨g0,0,none⟩=some (.pointer (some ⟨b,0,none⟩)):=H7.out.p.cell 0;go_wp2_with fail;refine(ey hE y.time w7 H7.out.st H7.out.hw (by rw[HA.out.time];exact HF.out.names.2.1) Taa).mono ?_;rintro e w8 ⟨rfl,h2,d2⟩;have H8:=hid (H7.out.next hg0 hg1 h2 d2);clear h2 d2 H7 p0 x3;have p0:w8.cell? ⟨g0,0,none⟩=some (.pointer (some ⟨b,0,none⟩)):=H8.out.p.cell 0;go_wp2_with fail;refine(cA ⟨#[32,69,86,69,82,89,32]⟩ w8 H8.out.st Tab Taa).mono ?_;rintro e w9 ⟨rfl,h2,d2⟩;have H9:=hid (H8.out.next hg0 hg1 h2 d2);clear h2 d2 H8 p0;have x4:w9.cell? ⟨g1,4,none⟩=some (.int .i64 y.every):=H9.out.q.cell 4;have p0:w9.cell? ⟨g0,0,none⟩=some (.pointer (some ⟨b,0,none⟩)):=H9.out.p.cell 0;go_wp2_with fail;refine(gD hE y.every TaM TaL w9 H9.out.st H9.out.hw Taa).mono ?_;rintro e wa ⟨rfl,h2,d2⟩;have sq:=hid (H9.out.next hg0 hg1 h2 d2);clear h2 d2 H9 p0 x4;by_cases hsp:y.space.toList=[]
 ·have t0:y.space.toList.isEmpty=true:=by rw[hsp];rfl
  have HSP:=hid hsp;obtain⟨qq,hqq⟩:∃qq:Bool,qq=(y.parts==0):=⟨_,rfl⟩;have HQ:=hid hqq;clear hsp hqq;have x5:wa.cell? ⟨g1,5,none⟩=some (.string y.space):=sq.out.q.cell 5;have x6:wa.cell? ⟨g1,6,none⟩=some (.int .i64 y.parts):=sq.out.q.cell 6;have p0:wa.cell? ⟨g0,0,none⟩=some (.pointer (some ⟨b,0,none⟩)):=sq.out.p.cell 0;go_wp2_with fail;refine(bh _ wa sq.out.st).mono ?_;rintro e FL ⟨rfl,h2,d2⟩;have Iu:=hid (sq.out.next hg0 hg1 h2 d2);clear h2 d2 sq p0 x5 x6;go_wp2_with fail;go_end0;refine⟨rfl,?_,Iu.out.did⟩;have:=Iu.out.st.more (show n+1+1+1+4*s.aJ.length+1+1+1+1<=n+(13*Tr.aQ s.exprs+4*s.aJ.length+3*s.rows.length+80) by omega);have hs:=HSP.out;rw[HA.out.space] at hs;unfold og;rw[yK.out.symm,if_pos hs];rw[HA.out.name,HA.out.time,HA.out.every] at this;rw[HA.out.parts] at this;exact Zcg
 ·have t1:y.space.toList.isEmpty=false:=by cases hq:y.space.toList with | nil=>exact absurd hq hsp | cons a l=>rfl
  have HSP:=hid hsp;clear hsp;have x5:wa.cell? ⟨g1,5,none⟩=some (.string y.space):=sq.out.q.cell 5;have p0:wa.cell? ⟨g0,0,none⟩=some (.pointer (some ⟨b,0,none⟩)):=sq.out.p.cell 0;go_wp2_with fail;refine(cA ⟨#[32,83,80,65,67,69,32]⟩ wa sq.out.st Tab Taa).mono ?_;rintro e FL ⟨rfl,h2,d2⟩;have Iu:=hid (sq.out.next hg0 hg1 h2 d2);clear h2 d2 sq p0 x5;have x5:FL.cell? ⟨g1,5,none⟩=some (.string y.space):=Iu.out.q.cell 5;have p0:FL.cell? ⟨g0,0,none⟩=some (.pointer (some ⟨b,0,none⟩)):=Iu.out.p.cell 0;go_wp2_with fail;refine(ey hE y.space FL Iu.out.st Iu.out.hw (by rw[HA.out.space];exact HF.out.names.2.2.1) Taa).mono ?_;rintro e TI ⟨rfl,h2,d2⟩;have QD:=hid (Iu.out.next hg0 hg1 h2 d2);clear h2 d2 Iu p0 x5;have p0:TI.cell? ⟨g0,0,none⟩=some (.pointer (some ⟨b,0,none⟩)):=QD.out.p.cell 0;go_wp2_with fail;refine(cA ⟨#[32,73,78,84,79,32]⟩ TI QD.out.st Tab Taa).mono ?_;rintro e KS ⟨rfl,h2,d2⟩;have Ol:=hid (QD.out.next hg0 hg1 h2 d2);clear h2 d2 QD p0;have x6:KS.cell? ⟨g1,6,none⟩=some (.int .i64 y.parts):=Ol.out.q.cell 6;have p0:KS.cell? ⟨g0,0,none⟩=some (.pointer (some ⟨b,0,none⟩)):=Ol.out.p.cell 0;go_wp2_with fail;refine(gD hE y.parts (by rw[HA.out.parts];exact HF.out.parts.1) (by rw[HA.out.parts];exact HF.out.parts.2) KS Ol.out.st Ol.out.hw Taa).mono ?_;rintro e Iw ⟨rfl,h2,d2⟩;have H14:=hid (Ol.out.next hg0 hg1 h2 d2);clear h2 d2 Ol p0 x6;go_wp2_with fail;go_end0;refine⟨rfl,?_,H14.out.did⟩;have:=H14.out.st.more (show n+1+1+1+4*s.aJ.length+1+1+1+1+1+1+1+1<=n+(13*Tr.aQ s.exprs+4*s.aJ.length+3*s.rows.length+80) by omega)
  have hs:=HSP.out;rw[HA.out.space] at hs;unfold og;rw[yK.out.symm,if_neg hs];rw[HA.out.name,HA.out.time,HA.out.every] at this;rw[HA.out.space,HA.out.parts] at this;exact Zcg):p:=h
theorem ziV.KcY(h:p:=by go_wp2_with fail;refine(ey hE y.name w3 H3.out.st H3.out.hw Tan Taa).mono ?_;rintro e w4 ⟨rfl,h2,d2⟩;have H4:=hid (H3.out.next hg0 hg1 h2 d2);clear h2 d2 H3 p0 x1;have p0:w4.cell? ⟨g0,0,none⟩=some (.pointer (some ⟨b,0,none⟩)):=H4.out.p.cell 0;go_wp2_with fail;refine(cA ⟨#[32,40]⟩ w4 H4.out.st Tab Taa).mono ?_;rintro e w5 ⟨rfl,h2,d2⟩;have H5:=hid (H4.out.next hg0 hg1 h2 d2);clear h2 d2 H4 p0;obtain⟨vg,ys,hR,Yd⟩:=HA.out.aJ;have hlen:List.length (α:=ByteArray×Int) ys=s.aJ.length:=Yd.len;open zci in exact ZaJ):p:=h
theorem zfa.Kbl(h:p:=by clear h2 d2 H1 TT;have p0:w2.cell? ⟨g0,0,none⟩=some (.pointer (some ⟨b,0,none⟩)):=H2.out.p.cell 0;go_wp2_with fail;refine(cA ⟨#[67,82,69,65,84,69,32,84,65,66,76,69,32]⟩ w2 H2.out.st Tab Taa).mono ?_;rintro e w3 ⟨rfl,h2,d2⟩;have H3:=hid (H2.out.next hg0 hg1 h2 d2);clear h2 d2 H2 p0;open ziV in exact Zhk):p:=h
theorem zfy.Kbv(h:p:=by
 have bX:w0.heap.size<=w.heap.size:=by rw[jv.out];exact dK.out
 refine cM 14 (CN b g1 y tt) (CO _ _ _ _) Tac Tac Tac ?_ ?_
 ·simp only[take_succ_cons,take_zero];refine⟨Zgc,ZaX,ZeZ,?_,ZeZ,?_,ZeZ,?_,ZeZ,?_,ZeZ,?_,?_,?_,trivial⟩
  ·intro ρ w3 hc hL hr;have h0:_=_:=hr.1;have k2:w3.cell? ⟨g1,2,none⟩=some (.slice y.aJ.A y.aJ.n y.aJ.c):=(av.later H0.out.q hL).cell 2;exact Zha
  ·intro ρ w3 hc hL hr;have h0:_=_:=hr.1;have k3:w3.cell? ⟨g1,3,none⟩=some (.string y.time):=(av.later H0.out.q hL).cell 3;exact Zhb
  ·intro ρ w3 hc hL hr;have h0:_=_:=hr.1;have k4:w3.cell? ⟨g1,4,none⟩=some (.int .i64 y.every):=(av.later H0.out.q hL).cell 4;exact Zhc
  ·intro ρ w3 hc hL hr;have h0:_=_:=hr.1;have k5:w3.cell? ⟨g1,5,none⟩=some (.string y.space):=(av.later H0.out.q hL).cell 5;exact Zhd
  ·intro ρ w3 hc hL hr;have h0:_=_:=hr.1;have k6:w3.cell? ⟨g1,6,none⟩=some (.int .i64 y.parts):=(av.later H0.out.q hL).cell 6;exact Zhe
  ·intro ρ w3 hc hL hr;have h0:_=_:=hr.1;have h1:_=_:=hr.2.1;have h2:_=_:=hr.2.2.1;have h3:_=_:=hr.2.2.2.1;have h4:_=_:=hr.2.2.2.2.1;exact ae (w':=w3) (gT rfl (by simp only[map_toArray,map_cons,map_nil,h0,h1,h2,h3,h4];exact Oh y)) ⟨af.refl _,rfl⟩
  ·intro ρ w3 hc hL hr;have h0:_=_:=hr.1;have h1:_=_:=hr.2.1;have e1:=hc.func 37;refine dG (f:=37) (args:= #[.agg (bD y).toArray,.agg (bD (eM y true false false false true false false false false)).toArray]) (w':=w3) Taq ?_;exact Zce
 intro W2 hL;simp only[Uab];rintro _ rfl a1 - a2 - a3 - a4 - a5 - a6 - a7 - a8 - a9 - a10 - a11 - a12 - _ rfl;open zfa in exact Zcn):p:=h
theorem zdW.KaZ(h:p:=by go_enter Tryz.func34,Tryz.ntmps34;open zfy in exact ZcO):p:=h
theorem Oj(hE:dy w0) (hS:∀b,S b->b < w0.heap.size)  (h:s.at_ w0 S y)(hf:s.jb m)(hm:m<=1048576)(w:World)(hst:eI w0.heap.size b s0 n w)(hw:Below w0.heap.size w0 w)(hn:n+s.cost<=49999000):
  Calls Tryz.prog 34 #[.pointer (some ⟨b,0,none⟩),ji y] w (ba w0.heap.size b (aq s0 (og s)) (n+s.cost) w):=by unfold St.cost at hn ⊢;have hlt:=hst.lt;have hsz:=hst.size;obtain⟨tt,oy⟩:∃tt,tt=dJ s true false false false true false false false false:=⟨_,rfl⟩;have TT:=hid (λ W=>gi h hf hm true false false false true false false false false W);rw[<- oy] at TT;unfold ji at TT;have yK:=hid oy;clear oy;have HA:=hid h;have HF:=hid hf;obtain⟨cs,hcs⟩:∃cs,cs=(bD y).toArray:=⟨_,rfl⟩;show Calls Tryz.prog 34 #[.pointer (some ⟨b,0,none⟩),.agg (bD y).toArray] w _;open zdW in exact Zbu
def sv0 (b g:Nat)(y:fl):Nat->World->Value->Prop
 | 0,_,v=>v=.pointer (some ⟨b,0,none⟩)
 | 1,_,v=>v=.agg (bD y).toArray
 | 2,_,v=>v=.pointer (some ⟨g,7,none⟩)
 | 3,_,v=>v=.agg #[.slice y.query.items.A y.query.items.n y.query.items.c,.string y.query.aK,.bool y.query.only,.slice y.query.aR.A y.query.aR.n y.query.aR.c,.slice y.query.group.A y.query.group.n y.query.group.c,.slice y.query.having.A y.query.having.n y.query.having.c,.slice y.query.order.A y.query.order.n y.query.order.c,.slice y.query.aG.A y.query.aG.n y.query.aG.c]
 | 4,_,v=>v=.agg (bD (eM y false true false false false false false false false)).toArray
 | 5,_,v=>v=.bool false
 | 6,_,v=>v=.bool false
 | 7,_,v=>v=undef
 | 8,_,v=>v=undef
 | 9,_,v=>v=undef
 | 10,_,v=>v=.bool false
 | _,_,_=>False
theorem TK (b g:Nat)(y:fl):∀i w w' v,sv0 b g y i w v->af w w'->sv0 b g y i w' v:=by exact Zdh
def sv1 (b g:Nat)(y:fl):Nat->World->Value->Prop
 | 0,_,v=>v=.pointer (some ⟨b,0,none⟩)
 | 1,_,v=>v=.agg (bD y).toArray
 | 2,_,v=>v=.pointer (some ⟨g,7,none⟩)
 | 3,_,v=>v=.agg #[.slice y.query.items.A y.query.items.n y.query.items.c,.string y.query.aK,.bool y.query.only,.slice y.query.aR.A y.query.aR.n y.query.aR.c,.slice y.query.group.A y.query.group.n y.query.group.c,.slice y.query.having.A y.query.having.n y.query.having.c,.slice y.query.order.A y.query.order.n y.query.order.c,.slice y.query.aG.A y.query.aG.n y.query.aG.c]
 | 4,_,v=>v=.agg (bD (eM y false true false false false false false false false)).toArray
 | 5,_,v=>v=.bool true
 | 6,_,v=>v=.bool true
 | 7,_,v=>v=.pointer (some ⟨g,1,none⟩)
 | 8,_,v=>v=.string y.name
 | 9,_,v=>v=.bool false
 | 10,_,v=>v=.bool false
 | _,_,_=>False
theorem TL (b g:Nat)(y:fl):∀i w w' v,sv1 b g y i w v->af w w'->sv1 b g y i w' v:=by exact Zdh
def Ov (b g:Nat)(y:fl):Nat->World->Value->Prop
 | 0,_,v=>v=.pointer (some ⟨b,0,none⟩)
 | 1,_,v=>v=.agg (bD y).toArray
 | 2,_,v=>v=.pointer (some ⟨g,7,none⟩)
 | 3,_,v=>v=.agg #[.slice y.query.items.A y.query.items.n y.query.items.c,.string y.query.aK,.bool y.query.only,.slice y.query.aR.A y.query.aR.n y.query.aR.c,.slice y.query.group.A y.query.group.n y.query.group.c,.slice y.query.having.A y.query.having.n y.query.having.c,.slice y.query.order.A y.query.order.n y.query.order.c,.slice y.query.aG.A y.query.aG.n y.query.aG.c]
 | 4,_,v=>v=.agg (bD (eM y false true false false false false false false false)).toArray
 | 5,_,v=>v=.bool true
 | 6,_,v=>v=.bool true
 | 7,_,v=>v=.pointer (some ⟨g,1,none⟩)
 | 8,_,v=>v=.string y.name
 | 9,_,v=>v=.bool true
 | 10,_,v=>v=.bool true
 | _,_,_=>False
theorem TM (b g:Nat)(y:fl):∀i w w' v,Ov b g y i w v->af w w'->Ov b g y i w' v:=by exact Zdh
theorem zbx.Kam(h:p:=by
 have MG:(dJ s false true false false false false false false false && s.name.toList== [])=false:=by rw[<- yK.out];rfl
 exact ZbG):p:=h
theorem zby.Kam(h:p:=by
 have MG:(dJ s false true false false false false false false false && s.name.toList== [])=true:=by rw[<- yK.out,<- HA.out.name];simp[NM.out]
 exact ZbG):p:=h
theorem zbz.Kam(h:p:=by
 have MG:(dJ s false true false false false false false false false && s.name.toList== [])=false:=by rw[<- yK.out,<- HA.out.name];simp[NM.out]
 exact ZbG):p:=h
theorem zeQ.Kbg(h:p:=by refine(bh false W2 H1.out.st).mono ?_;open zbx in exact Zav):p:=h
theorem zeR.Kbg(h:p:=by refine(bh true W2 H1.out.st).mono ?_;open zby in exact Zav):p:=h
theorem zeS.Kbg(h:p:=by refine(bh false W2 H1.out.st).mono ?_;open zbz in exact Zav):p:=h
theorem zae.Kaa(h:p:=by
 have x0:nR.cell? ⟨g1,0,none⟩=some (.int .u8 8):=by have:=H0.out.q.cell 0;rw[show(bD y).toArray[0]?=some (.int .u8 y.kind)from rfl,mS] at this;exact this
 clear mS hk;go_upto_region 32 with fail;cases tt
 ·have bX:w0.heap.size<=w.heap.size:=by rw[jv.out];exact dK.out
  refine cM 11 (sv0 b g1 y) (TK _ _ _) Tac Tac Tac ?_ ?_
  ·simp only[take_succ_cons,take_zero];refine⟨Zbw,ZaX,ZbI,Zap,Zca,Zbn,ZbI,ZcN,ZcN,ZcN,ZbY,trivial⟩
  open zeQ in exact Zcc
 ·by_cases QF:y.name.toList=[]
  ·have NM:=hid QF;clear QF;have bX:w0.heap.size<=w.heap.size:=by rw[jv.out];exact dK.out
   refine cM 11 (Ov b g1 y) (TM _ _ _) Tac Tac Tac ?_ ?_
   ·exact ZaC
   open zeR in exact Zcc
  ·have NM:=hid QF;clear QF;have bX:w0.heap.size<=w.heap.size:=by rw[jv.out];exact dK.out
   refine cM 11 (sv1 b g1 y) (TL _ _ _) Tac Tac Tac ?_ ?_
   ·exact ZaC
   open zeS in exact Zcc):p:=h
theorem zfE.Kbx(h:p:=by clear oy;open zae in exact Zaa):p:=h
theorem Ow(hE:dy w0) (hS:∀b,S b->b < w0.heap.size)  (h:s.at_ w0 S y)(hf:s.jb m)(hm:m<=1048576)(w:World)(hst:eI w0.heap.size b s0 n w)(hw:Below w0.heap.size w0 w)(hk:s.kind=8)(hn:n+s.cost<=49999000):
  Calls Tryz.prog 19 #[.pointer (some ⟨b,0,none⟩),ji y] w (ba w0.heap.size b (aq s0 (cF s)) (n+s.cost) w):=by
 rw[show cF s=aq (bg (dJ s false true false false false false false false false && s.name.toList== [])) (jr s.query) by unfold cF;rw[hk];rfl];have mS:y.kind=8:=by rw[h.kind,hk]
 open zfE in exact ZcR
variable{P:Program}{ops:Array Oper}{rest:List Oper}{o:Oper}{a:Act}{w:World}{Q:Exit->Act->World->Prop}{cs:Array Value}
theorem zr(hg:o.guard=none)(t:TypeId)(parts:Array (Nat×Operand))(ho:o.op=.build t parts) 
  (hv:P.built t (parts.map λ(i,x)=>(i,a.eval x)).toList=some cs) (h:wpList P ops Q rest (a.put o.dst (.agg cs)) w):wpList P ops Q (o::rest) a w:=
 wpList_build hg t parts ho (by rw[hv];rfl) (by rw[hv];exact h)
def X6:List (Int×Value):=[(9,dv [82,69,70,82,69,83,72]),(10,dv [67,79,77,80,82,69,83,83]),(12,dv [68,82,79,80])]
theorem Ye (k:Int):(X6.lookup k).getD (dv [])=dv (xj k):=by
 by_cases h:k=9
 ·subst h;rfl
 by_cases h2:k=10
 ·subst h2;rfl
 by_cases h3:k=12
 ·subst h3;rfl
 rw[xk X6 k (by intro x hx;simp[X6] at hx;rcases hx with rfl | rfl | rfl <;>(dsimp only;omega))];unfold xj;rw[if_neg h,if_neg h2,if_neg h3];rfl
theorem aeL (k:Int):(xj k).length<=8:=by
 unfold xj;split
 ·decide
 split
 ·decide
 split <;> decide
theorem zhL.Kcs(h:p:=by rw[yK.out.symm,if_pos wb,<- N8,<- hx];exact Zdz):p:=h
theorem zhM.Kcs(h:p:=by rw[yK.out.symm,if_neg wb,<- N8,<- hx];exact Zdz):p:=h
theorem zgH.KbZ(h:p:=by
 replace hM:iZ _ gm X6:=hM;rw[ky Tryz.underlying92 Tryz.underlying5 hM y.what (z:=dv []) (λ w=>by kernel_rfl),Ye,<- HX.out];simp only[Result.andThen];rw[Oper.upon_value];unfold dv;have H5:=hid (H4.out.later (by rw[akb.out];exact dK.out) jK);obtain⟨xe,Oo⟩:∃xe,X.isEmpty=xe:=⟨_,rfl⟩;have HXE:=hid Oo;clear hM jK Om X15 hle H4;obtain⟨w5,hw5⟩:∃x,x=wm:=⟨_,rfl⟩;subst hw5;go_wp2_with fail;refine(bh (!xe) w5 H5.out.st).mono ?_;rintro e w6 ⟨rfl,h2,d2⟩;clear Oo;have H6:=hid (H5.out.next hg1 h2 d2);clear h2 d2 H5;go_wp2_with fail;refine(Cs ⟨#[32]⟩ ⟨X.toArray⟩ ⟨#[32]⟩ w6 H6.out.st Tab (by show X.toArray.size<=_;simp;omega) Tab Taa).mono ?_;rintro e w7 ⟨rfl,h2,d2⟩;have H7:=hid (H6.out.next hg1 h2 d2);clear h2 d2 H6;have QE:w7.cell? ⟨g1,16,none⟩=some (.string y.cr):=H7.out.q.cell 16;go_wp2_with fail;refine(ey hE y.cr w7 H7.out.st H7.out.hw (by rw[HA.out.cr];exact HF.out.names.2.2.2) Taa).mono ?_;rintro e w8 ⟨rfl,h2,d2⟩;have H8:=hid (H7.out.next hg1 h2 d2);clear h2 d2 H7 QE;by_cases wb:y.what=9
 ·have t9:(y.what==9)=true:=by rw[wb];rfl
  have HW9:=hid wb;clear wb;have EF:w8.cell? ⟨g1,15,none⟩=some (.int .u8 y.what):=H8.out.q.cell 15;go_wp2_with fail;refine(cA ⟨#[32,70,82,79,77,32]⟩ w8 H8.out.st Tab Taa).mono ?_;rintro e w9 ⟨rfl,h2,d2⟩;have H9:=hid (H8.out.next hg1 h2 d2);clear h2 d2 H8 EF;have Yg:w9.cell? ⟨g1,17,none⟩=some (.int .i64 y.a):=H9.out.q.cell 17;go_wp2_with fail;refine(gD hE y.a (by rw[HA.out.a];exact HF.out.a.1) (by rw[HA.out.a];exact HF.out.a.2) w9 H9.out.st H9.out.hw Taa).mono ?_;rintro e wa ⟨rfl,h2,d2⟩;have sq:=hid (H9.out.next hg1 h2 d2);clear h2 d2 H9 Yg;go_wp2_with fail;refine(cA ⟨#[32,84,79,32]⟩ wa sq.out.st Tab Taa).mono ?_;rintro e FL ⟨rfl,h2,d2⟩;have Iu:=hid (sq.out.next hg1 h2 d2);clear h2 d2 sq;have Yh:FL.cell? ⟨g1,18,none⟩=some (.int .i64 y.b):=Iu.out.q.cell 18;go_wp2_with fail;refine(gD hE y.b (by rw[HA.out.b];exact HF.out.b.1) (by rw[HA.out.b];exact HF.out.b.2) FL Iu.out.st Iu.out.hw Taa).mono ?_;rintro e TI ⟨rfl,h2,d2⟩;have QD:=hid (Iu.out.next hg1 h2 d2);clear h2 d2 Iu Yh;go_wp2_with fail;refine(cA ⟨#[32,69,86,69,82,89,32]⟩ TI QD.out.st Tab Taa).mono ?_;rintro e KS ⟨rfl,h2,d2⟩;have Ol:=hid (QD.out.next hg1 h2 d2);clear h2 d2 QD;have x4:KS.cell? ⟨g1,4,none⟩=some (.int .i64 y.every):=Ol.out.q.cell 4;go_wp2_with fail;refine(gD hE y.every TaM TaL KS Ol.out.st Ol.out.hw Taa).mono ?_;rintro e Iw ⟨rfl,h2,d2⟩;have H14:=hid (Ol.out.next hg1 h2 d2);clear h2 d2 Ol x4
  go_wp2_with fail;go_end0;refine⟨rfl,?_,H14.out.did⟩;have:=H14.out.st.more (show n+1+1+3+1+1+1+1+1+1+1<=n+(13*Tr.aQ s.exprs+4*s.aJ.length+3*s.rows.length+80) by omega);open zhL in exact ZfT
 ·have t9:(y.what==9)=false:=by simpa using wb
  have HW9:=hid wb;clear wb;have EF:w8.cell? ⟨g1,15,none⟩=some (.int .u8 y.what):=H8.out.q.cell 15;have Yh:w8.cell? ⟨g1,18,none⟩=some (.int .i64 y.b):=H8.out.q.cell 18;go_wp2_with fail;refine(bh (y.b==0) w8 H8.out.st).mono ?_;rintro e w9 ⟨rfl,h2,d2⟩;have H9:=hid (H8.out.next hg1 h2 d2);clear h2 d2 H8 EF Yh;go_wp2_with fail;refine(cA ⟨#[32,65,70,84,69,82,32]⟩ w9 H9.out.st Tab Taa).mono ?_;rintro e wa ⟨rfl,h2,d2⟩;have sq:=hid (H9.out.next hg1 h2 d2);clear h2 d2 H9;have Yg:wa.cell? ⟨g1,17,none⟩=some (.int .i64 y.a):=sq.out.q.cell 17;go_wp2_with fail;refine(gD hE y.a (by rw[HA.out.a];exact HF.out.a.1) (by rw[HA.out.a];exact HF.out.a.2) wa sq.out.st sq.out.hw Taa).mono ?_;rintro e FL ⟨rfl,h2,d2⟩;have Iu:=hid (sq.out.next hg1 h2 d2);clear h2 d2 sq Yg;go_wp2_with fail;refine(cA ⟨#[32,69,86,69,82,89,32]⟩ FL Iu.out.st Tab Taa).mono ?_;rintro e TI ⟨rfl,h2,d2⟩;have QD:=hid (Iu.out.next hg1 h2 d2);clear h2 d2 Iu;have x4:TI.cell? ⟨g1,4,none⟩=some (.int .i64 y.every):=QD.out.q.cell 4;go_wp2_with fail;refine(gD hE y.every TaM TaL TI QD.out.st QD.out.hw Taa).mono ?_;rintro e KS ⟨rfl,h2,d2⟩;have Ol:=hid (QD.out.next hg1 h2 d2);clear h2 d2 QD x4;go_wp2_with fail;go_end0;refine⟨rfl,?_,Ol.out.did⟩;have:=Ol.out.st.more (show n+1+1+3+1+1+1+1+1<=n+(13*Tr.aQ s.exprs+4*s.aJ.length+3*s.rows.length+80) by omega);open zhM in exact ZfT):p:=h
theorem Yf(hE:dy w0) (hS:∀b,S b->b < w0.heap.size)  (h:s.at_ w0 S y)(hf:s.jb m)(hm:m<=1048576)(w:World)(hst:eI w0.heap.size b s0 n w)(hw:Below w0.heap.size w0 w)(hn:n+s.cost<=49999000):
  Calls Tryz.prog 35 #[.pointer (some ⟨b,0,none⟩),ji y] w (ba w0.heap.size b (aq s0 (Co s)) (n+s.cost) w):=by
 unfold St.cost at hn ⊢;have hlt:=hst.lt;have hsz:=hst.size;obtain⟨tt,oy⟩:∃tt,tt=dJ s false false true true true false false false false:=⟨_,rfl⟩;obtain⟨cs,hcs⟩:∃cs,cs=(bD y).toArray:=⟨_,rfl⟩;have hTT:∀W,Calls Tryz.prog 37 #[.agg cs,.agg (bD (eM y false false true true true false false false false)).toArray] W λ e' w'=>e'=.returned (.bool tt)/\Below W.heap.size W w':=λ W=>by rw[oy,hcs];exact gi h hf hm false false true true true false false false false W
 have TT:=hid hTT;have yK:=hid oy;have Ty:(Tryz.prog.info? 34).map (·.size)=some cs.size:=by rw[hcs];exact kg y
 have HA:=hid h;have HF:=hid hf;show Calls Tryz.prog 35 #[.pointer (some ⟨b,0,none⟩),.agg (bD y).toArray] w _;rw[<- hcs];have b2:=aa w (.cells cs 34);have hy:=av.new w 34 cs;have hP:SW w0 b s0 n w (w.alloc (.cells cs 34)) w.heap.size y:=⟨by rw[<- hcs];exact hy,hst.later b2,cy.aC b2 hsz,hw.trans (b2.mono hw.size)⟩;have H0:=hid hP;have dK:=hid hw.size;have HCS:=hid hcs;have HCI:=hid Ty;have hg1:w.heap.size≠b:=by omega
 clear h hf hst hw b2 hy hP hcs oy Ty hTT;go_enter Tryz.func35,Tryz.ntmps35;go_upto_region 1 with fail;change Code.wp _ _ _ _ (w.alloc (.cells cs 34));generalize kT:w.heap.size=g1 at*;have akb:=hid kT;clear kT hlt hsz;obtain⟨nR,gG⟩:∃x,x=w.alloc (.cells cs 34):=⟨_,rfl⟩;rw[<- gG] at H0 ⊢;clear gG;have EF:nR.cell? ⟨g1,15,none⟩=some (.int .u8 y.what):=H0.out.q.cell 15;have QE:nR.cell? ⟨g1,16,none⟩=some (.string y.cr):=H0.out.q.cell 16;have Yg:nR.cell? ⟨g1,17,none⟩=some (.int .i64 y.a):=H0.out.q.cell 17;have Yh:nR.cell? ⟨g1,18,none⟩=some (.int .i64 y.b):=H0.out.q.cell 18;have x4:nR.cell? ⟨g1,4,none⟩=some (.int .i64 y.every):=H0.out.q.cell 4;have hq:av nR g1 34 cs:=by rw[HCS.out];exact H0.out.q
 go_wp2_with (first
  |(refine wpList_load_row rfl 34 (.tmp 3) rfl g1 rfl 34 cs (0,0) _ hq Tryz.underlying34 rfl HCI.out ?_))
 refine(TT.out nR).mono ?_;rintro e w1 ⟨rfl,b4⟩;have H1:=hid (H0.out.later (by rw[akb.out];exact dK.out) b4);clear b4 H0 hq TT EF QE Yg Yh x4;go_wp2_with fail;refine(bh tt w1 H1.out.st).mono ?_;rintro e w2 ⟨rfl,h2,d2⟩;have H2:=hid (H1.out.next hg1 h2 d2);clear h2 d2 H1;go_wp2_with fail;refine(cA ⟨#[67,82,69,65,84,69,32,74,79,66,32]⟩ w2 H2.out.st Tab Taa).mono ?_;rintro e w3 ⟨rfl,h2,d2⟩;have H3:=hid (H2.out.next hg1 h2 d2);clear h2 d2 H2;have x1:w3.cell? ⟨g1,1,none⟩=some (.string y.name):=H3.out.q.cell 1;go_wp2_with fail;refine(ey hE y.name w3 H3.out.st H3.out.hw Tan Taa).mono ?_;rintro e w4 ⟨rfl,h2,d2⟩;have H4:=hid (H3.out.next hg1 h2 d2);clear h2 d2 H3 x1;have EF:w4.cell? ⟨g1,15,none⟩=some (.int .u8 y.what):=H4.out.q.cell 15;go_upto_region 4 with fail;refine wp_region_lit ?_;refine fu rfl 92 rfl ?_;have hM:=iZ.new w4;have jK:Below w4.heap.size w4 (w4.alloc (.map #[] 0)):=aa w4 (.map #[] 0);obtain⟨gm,pg⟩:∃gm,gm=w4.heap.size:=⟨_,rfl⟩;rw[<- pg] at hM ⊢;have hle:w4.heap.size<=gm:=Nat.le_of_eq pg.symm;have Om:=(jK.cell (p:=⟨g1,15,none⟩) (ax EF)).trans EF;have X15:=hid EF;clear pg EF;generalize w4.alloc _=W0 at*;obtain⟨X,hX⟩:∃X,X=xj y.what:=⟨_,rfl⟩;have HX:=hid hX;have hXl:X.length<=8:=by rw[hX];exact aeL _
 open zgH in exact Zed
end Go.Proofs.YtehhdlgjfdnafaaGreatDoor
