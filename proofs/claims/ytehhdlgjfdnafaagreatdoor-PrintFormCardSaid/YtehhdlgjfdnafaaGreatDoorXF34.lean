/- Parts of the proof. -/
import Derived.Test.YtehhdlgjfdnafaaGreatDoorXF30
namespace Go.Proofs.YtehhdlgjfdnafaaGreatDoor
variable{p:Prop}
set_option maxHeartbeats 90000000
set_option maxRecDepth 100000
open Go.Lib (hid)
open Go.ChangeShapes Go.WideShapes Go.ChangeAt Go.RowKit Go.Shelf List
set_option linter.unusedVariables false
set_option linter.unusedSimpArgs false
variable{t r:Int}
theorem alr(nm:ByteArray) (h0:0<=t)(hr:t.tmod 4=r)(X:ByteArray)(hX:1<=t->t<=3->X.data.toList=XX t):Bw (nm,t)=aq (dz nm) (aq (bl (decide (1<=t)&& decide (t<=3))) (some (32::X.data.toList))):=by
 unfold Bw;dsimp only;by_cases h1:1<=t
 ·by_cases h2:t<=3
  ·rw[hX h1 h2]
  ·rw[decide_eq_false h2,Bool.and_false];rfl
 ·rw[decide_eq_false h1,Bool.false_and];rfl
theorem agc (t:Int)(h0:0<=t):∃(r:Int) (X:ByteArray),t.tmod 4=r/\X.size<=100/\(1<=t->t<=3->X.data.toList=XX t)/\∀u:World,(Instr.index 127 (.agg #[.string ⟨#[]⟩,.string ⟨#[66,79,79,76]⟩,.string ⟨#[73,78,84]⟩,.string ⟨#[84,69,88,84]⟩]) (.int .u8 r)).run Tryz.prog u=.ok (.string X) u:=by
 have hk:∀k:Int,t.tmod 4=k->1<=t->t<=3->t=k:=by intro k h a b;rw[Int.tmod_eq_emod_of_nonneg h0] at h;omega
 rcases aaD t h0 with h | h | h | h
 ·exact⟨0,⟨#[]⟩,h,by decide,λ a b=>by have:=hk 0 h a b;omega,λ u=>by kernel_rfl⟩
 ·exact⟨1,⟨#[66,79,79,76]⟩,h,by decide,λ a b=>by rw[hk 1 h a b];rfl,λ u=>by kernel_rfl⟩
 ·exact⟨2,⟨#[73,78,84]⟩,h,by decide,λ a b=>by rw[hk 2 h a b];rfl,λ u=>by kernel_rfl⟩
 ·exact⟨3,⟨#[84,69,88,84]⟩,h,by decide,λ a b=>by rw[hk 3 h a b];rfl,λ u=>by kernel_rfl⟩
variable{w0:World}{b n:Nat}
theorem zeR.Kbh(h:p:=by
 have x0:=HB.out.cell 0;have p0:=HP.out.cell 0;simp only[getElem?_toArray,getElem?_cons_zero] at x0 p0;go_wp2_with fail;refine(eL hE nm W1 HS.out (hw.trans HD.out.below) hl Taa).mono ?_;rintro e w1 ⟨rfl,h2,d2⟩;have H1:=hid h2;have D1:=hid (HD.out.trans d2);have pQ:=hid (d2.blk HB.out my Tab);have Xh:=hid (d2.blk HP.out Jd Tab);clear HS HD HB HP d2 h2 x0 p0;have x1:=pQ.out.cell 1;have p0:=Xh.out.cell 0;simp only[Uaa] at x1 p0;go_upto_region 2 with fail;go_cut [] (λ wx=>eR w0.heap.size b (aq (aq s (dz nm)) (bl ok)) (n+1) wx/\cF w0.heap.size b w1 wx)
 case first=>
  have Ld:∀(q:Bool),q=ok->Calls Tryz.prog 36 #[.pointer (some ⟨b,0,none⟩),.bool q] w1 λ e w'=>e=.returned (.tuple #[])/\eR w0.heap.size b (aq (aq s (dz nm)) (bl ok)) (n+1) w'/\cF w0.heap.size b w1 w':=λ q hq=>(bp q w1 H1.out).mono λ e w' h2=>by subst hq;exact h2
  have MS:=hid Ld;clear Ld;by_cases c1:1<=t
  ·have t1:decide ((1:Int)<=t)=true:=decide_eq_true c1;by_cases c2:t<=3
   ·have t2:decide (t<=(3:Int))=true:=decide_eq_true c2;have kh:=hid (show true=ok by rw[jy.out,t1,t2];rfl);clear c1 c2;exact Za5
   ·have t2:decide (t<=(3:Int))=false:=decide_eq_false c2;have kh:=hid (show false=ok by rw[jy.out,t1,t2];rfl);clear c1 c2;exact Za5
  ·have t1:decide ((1:Int)<=t)=false:=decide_eq_false c1;have kh:=hid (show false=ok by rw[jy.out,t1];rfl);clear c1;exact Za5
 case rest=>
 obtain⟨h5,d5⟩:=hcut;have:=KEY.out wc _ (n+1) Taa _ h5 (D1.out.trans d5) (d5.blk Xh.out Jd Tab) (d5.blk pQ.out my Tab);rw[aH,aH] at this;go_upto_region 3 with fail;exact this _ rfl rfl rfl):p:=h
theorem YT{p:Nat} {s:Option aX}(hE:dM w0)(z:ByteArray×Int)(hl:z.1.size<=1048576)(h0:0<=z.2)(h1:z.2<=255)(w:World)(h:eR w0.heap.size b s n w)(hw:Below w0.heap.size w0 w)(hp:av w p 87 #[.pointer (some ⟨b,0,none⟩)])(Jd:p≠b)(hn:n+3<=50000000):
  Calls Tryz.prog 80 #[.agg #[.string z.1,.int .u8 z.2],.pointer (some ⟨p,0,none⟩)] w (bk w0.heap.size b (aq s (Bw z)) (n+3) w):=by
 obtain⟨nm,t⟩:=z;dsimp only at hl h0 h1;obtain⟨r,X,hr,hX,hXt,hix⟩:=agc t h0;rw[alr nm h0 hr X hXt];have key:=λ(W:World) (st:Option aX) (m:Nat) (hm:m+2<=50000000) (g:Nat) (rQ:eR w0.heap.size b st m W) (oH:cF w0.heap.size b w W) (h3':av W p 87 #[.pointer (some ⟨b,0,none⟩)]) (h4':av W g 53 #[.string nm,.int .u8 t]) (T:Array Value) (hT:T.size=25) (t1:T.getD 1 undef=.pointer (some ⟨p,0,none⟩)) (t2:T.getD 2 undef=.pointer (some ⟨g,0,none⟩))=>aaE h0 h1 hr hX hix W w rQ oH hm hw.size h3' h4' hT t1 t2
 simp only[jq,Tryz.f80,Option.getD_some] at key;have KEY:=hid key;have HH:=hid h;have hsz:=h.size;have hlt:=h.lt;obtain⟨ok,aC⟩:∃ok,ok=(decide (1<=t)&& decide (t<=3)):=⟨_,rfl⟩;rw[<- aC];have jy:=hid aC;clear key h hXt hix hr aC;go_enter Tryz.func80,Tryz.ntmps80;have bx:=aa w (.cells #[.string nm,.int .u8 t] 53);have HB:=hid (av.new w 53 #[.string nm,.int .u8 t]);open zeR in exact Zck
variable{m:Nat}{s0:Option aX}{S:Nat->Prop}{s:St}{y:gT}
theorem zb3.Kar(h:p:=by
 have en:∀args w,(callFunc 80 args).run Tryz.prog w=.ok (.enter 80 args) w:=enters_of Tryz.func80 Tac rfl;have EN:=hid en;have HL:=hid vU;have HY:=hid hlen;have HR:=hid hR;have HC:=hid YY;have BR:s.bg.length<=1048576:=by have:=HF.out.nodes;omega
 clear en vU hlen hR YY;have x2:w5.cell? ⟨g1,2,none⟩=some (.slice y.bg.A y.bg.n y.bg.c):=H5.out.q.cell 2;have p0:w5.cell? ⟨g0,0,none⟩=some (.pointer (some ⟨b,0,none⟩)):=H5.out.p.cell 0;go_wp2_with fail;refine(Uu (λ _=>3) (λ i=>4*i) 80 #[] #[.pointer (some ⟨g0,0,none⟩)] EN.out y.bg.A y.bg.c y.bg.n ys (s.bg.map Bw) S hS Tbj Tat HR.out w5 H5.out.st H5.out.hw rfl (λ i _=>by omega) (λ i hi=>by omega) TaS TaS (λ i z oo hz ho Wr s' n' dW hW hc=>by
  obtain⟨x,hx,rfl⟩:∃x,s.bg[i]?=some x/\Bw x=oo:=by simpa [getElem?_map] using ho
  have hr:z=x:=qm HC.out hx hz
  subst hr
  have BI:=HF.out.bg z (mem_of_getElem? hx)
  exact YT hE z BI.1 BI.2.1 BI.2.2 Wr hW (H5.out.hw.trans dW.below) (dW.blk H5.out.p hg0 Tab) hg0 Taa)).mono ?_
 rintro e w6 ⟨rfl,h2,d2⟩;rw[HL.out] at h2;have H6:=hid (H5.out.next hg0 hg1 h2 d2);clear h2 d2 H5 p0 x2;have p0:w6.cell? ⟨g0,0,none⟩=some (.pointer (some ⟨b,0,none⟩)):=H6.out.p.cell 0;go_wp2_with fail;refine(cH ⟨#[41,32,84,73,77,69,32]⟩ w6 H6.out.st Tab Taa).mono ?_;rintro e w7 ⟨rfl,h2,d2⟩;have H7:=hid (H6.out.next hg0 hg1 h2 d2);clear h2 d2 H6 p0;have x3:w7.cell? ⟨g1,3,none⟩=some (.string y.time):=H7.out.q.cell 3;have p0:w7.cell? ⟨g0,0,none⟩=some (.pointer (some ⟨b,0,none⟩)):=H7.out.p.cell 0;go_wp2_with fail;refine(eL hE y.time w7 H7.out.st H7.out.hw (by rw[HA.out.time];exact HF.out.names.2.1) Taa).mono ?_;rintro e w8 ⟨rfl,h2,d2⟩;have H8:=hid (H7.out.next hg0 hg1 h2 d2);clear h2 d2 H7 p0 x3;have p0:w8.cell? ⟨g0,0,none⟩=some (.pointer (some ⟨b,0,none⟩)):=H8.out.p.cell 0;go_wp2_with fail;refine(cH ⟨#[32,69,86,69,82,89,32]⟩ w8 H8.out.st Tab Taa).mono ?_;rintro e w9 ⟨rfl,h2,d2⟩;have H9:=hid (H8.out.next hg0 hg1 h2 d2);clear h2 d2 H8 p0;have x4:w9.cell? ⟨g1,4,none⟩=some (.int .i64 y.every):=H9.out.q.cell 4;have p0:w9.cell? ⟨g0,0,none⟩=some (.pointer (some ⟨b,0,none⟩)):=H9.out.p.cell 0;go_wp2_with fail;refine(gO hE y.every TaL TaK w9 H9.out.st H9.out.hw Taa).mono ?_;rintro e xg ⟨rfl,h2,d2⟩;have tz:=hid (H9.out.next hg0 hg1 h2 d2);clear h2 d2 H9 p0 x4;by_cases hsp:y.space.toList=[]
 ·have t0:y.space.toList.isEmpty=true:=by rw[hsp];rfl
  have HSP:=hid hsp;obtain⟨qq,hqq⟩:∃qq:Bool,qq=(y.parts==0):=⟨_,rfl⟩;have HQ:=hid hqq;clear hsp hqq;have x5:xg.cell? ⟨g1,5,none⟩=some (.string y.space):=tz.out.q.cell 5;have x6:xg.cell? ⟨g1,6,none⟩=some (.int .i64 y.parts):=tz.out.q.cell 6;have p0:xg.cell? ⟨g0,0,none⟩=some (.pointer (some ⟨b,0,none⟩)):=tz.out.p.cell 0;go_wp2_with fail;refine(bp _ xg tz.out.st).mono ?_;rintro e GA ⟨rfl,h2,d2⟩;have Jq:=hid (tz.out.next hg0 hg1 h2 d2);clear h2 d2 tz p0 x5 x6;go_wp2_with fail;go_end0;refine⟨rfl,?_,Jq.out.did⟩;have:=Jq.out.st.more (show n+1+1+1+4*s.bg.length+1+1+1+1<=n+(13*Tr.aG s.exprs+4*s.bg.length+3*s.rows.length+80) by omega);have hs:=HSP.out;rw[HA.out.space] at hs;unfold nU;rw[zt.out.symm,if_pos hs];rw[HA.out.name,HA.out.time,HA.out.every] at this;rw[HA.out.parts] at this;exact Zb8
 ·have t1:y.space.toList.isEmpty=false:=by cases hq:y.space.toList with | nil=>exact absurd hq hsp | cons a l=>rfl
  have HSP:=hid hsp;clear hsp;have x5:xg.cell? ⟨g1,5,none⟩=some (.string y.space):=tz.out.q.cell 5;have p0:xg.cell? ⟨g0,0,none⟩=some (.pointer (some ⟨b,0,none⟩)):=tz.out.p.cell 0;go_wp2_with fail;refine(cH ⟨#[32,83,80,65,67,69,32]⟩ xg tz.out.st Tab Taa).mono ?_;rintro e GA ⟨rfl,h2,d2⟩;have Jq:=hid (tz.out.next hg0 hg1 h2 d2);clear h2 d2 tz p0 x5;have x5:GA.cell? ⟨g1,5,none⟩=some (.string y.space):=Jq.out.q.cell 5;have p0:GA.cell? ⟨g0,0,none⟩=some (.pointer (some ⟨b,0,none⟩)):=Jq.out.p.cell 0;go_wp2_with fail;refine(eL hE y.space GA Jq.out.st Jq.out.hw (by rw[HA.out.space];exact HF.out.names.2.2.1) Taa).mono ?_;rintro e Uz ⟨rfl,h2,d2⟩;have Ru:=hid (Jq.out.next hg0 hg1 h2 d2);clear h2 d2 Jq p0 x5;have p0:Uz.cell? ⟨g0,0,none⟩=some (.pointer (some ⟨b,0,none⟩)):=Ru.out.p.cell 0;go_wp2_with fail;refine(cH ⟨#[32,73,78,84,79,32]⟩ Uz Ru.out.st Tab Taa).mono ?_;rintro e LH ⟨rfl,h2,d2⟩;have Ph:=hid (Ru.out.next hg0 hg1 h2 d2);clear h2 d2 Ru p0;have x6:LH.cell? ⟨g1,6,none⟩=some (.int .i64 y.parts):=Ph.out.q.cell 6;have p0:LH.cell? ⟨g0,0,none⟩=some (.pointer (some ⟨b,0,none⟩)):=Ph.out.p.cell 0;go_wp2_with fail;refine(gO hE y.parts (by rw[HA.out.parts];exact HF.out.parts.1) (by rw[HA.out.parts];exact HF.out.parts.2) LH Ph.out.st Ph.out.hw Taa).mono ?_;rintro e Jr ⟨rfl,h2,d2⟩;have H14:=hid (Ph.out.next hg0 hg1 h2 d2);clear h2 d2 Ph p0 x6;go_wp2_with fail;go_end0;refine⟨rfl,?_,H14.out.did⟩;have:=H14.out.st.more (show n+1+1+1+4*s.bg.length+1+1+1+1+1+1+1+1<=n+(13*Tr.aG s.exprs+4*s.bg.length+3*s.rows.length+80) by omega)
  have hs:=HSP.out;rw[HA.out.space] at hs;unfold nU;rw[zt.out.symm,if_neg hs];rw[HA.out.name,HA.out.time,HA.out.every] at this;rw[HA.out.space,HA.out.parts] at this;exact Zb8):p:=h
theorem zin.KcP(h:p:=by go_wp2_with fail;refine(eL hE y.name w3 H3.out.st H3.out.hw Tan Taa).mono ?_;rintro e w4 ⟨rfl,h2,d2⟩;have H4:=hid (H3.out.next hg0 hg1 h2 d2);clear h2 d2 H3 p0 x1;have p0:w4.cell? ⟨g0,0,none⟩=some (.pointer (some ⟨b,0,none⟩)):=H4.out.p.cell 0;go_wp2_with fail;refine(cH ⟨#[32,40]⟩ w4 H4.out.st Tab Taa).mono ?_;rintro e w5 ⟨rfl,h2,d2⟩;have H5:=hid (H4.out.next hg0 hg1 h2 d2);clear h2 d2 H4 p0;obtain⟨vU,ys,hR,YY⟩:=HA.out.bg;have hlen:List.length (α:=ByteArray×Int) ys=s.bg.length:=YY.len;open zb3 in exact ZaG):p:=h
theorem zeK.Kbf(h:p:=by clear h2 d2 H1 TT;have p0:w2.cell? ⟨g0,0,none⟩=some (.pointer (some ⟨b,0,none⟩)):=H2.out.p.cell 0;go_wp2_with fail;refine(cH ⟨#[67,82,69,65,84,69,32,84,65,66,76,69,32]⟩ w2 H2.out.st Tab Taa).mono ?_;rintro e w3 ⟨rfl,h2,d2⟩;have H3:=hid (H2.out.next hg0 hg1 h2 d2);clear h2 d2 H2 p0;open zin in exact Zg7):p:=h
theorem ze8.Kbp(h:p:=by
 have cn:w0.heap.size<=w.heap.size:=by rw[jJ.out];exact dS.out
 refine cX 14 (Du b g1 y tt) (Dv _ _ _ _) Tac Tac Tac ?_ ?_
 ·simp only[take_succ_cons,take_zero];refine⟨Zf4,ZaU,ZeP,?_,ZeP,?_,ZeP,?_,ZeP,?_,ZeP,?_,?_,?_,trivial⟩
  ·intro ρ w3 hc hL hr;have h0:_=_:=hr.1;have k2:w3.cell? ⟨g1,2,none⟩=some (.slice y.bg.A y.bg.n y.bg.c):=(av.later H0.out.q hL).cell 2;exact Zg0
  ·intro ρ w3 hc hL hr;have h0:_=_:=hr.1;have k3:w3.cell? ⟨g1,3,none⟩=some (.string y.time):=(av.later H0.out.q hL).cell 3;exact Zg1
  ·intro ρ w3 hc hL hr;have h0:_=_:=hr.1;have k4:w3.cell? ⟨g1,4,none⟩=some (.int .i64 y.every):=(av.later H0.out.q hL).cell 4;exact Zg2
  ·intro ρ w3 hc hL hr;have h0:_=_:=hr.1;have k5:w3.cell? ⟨g1,5,none⟩=some (.string y.space):=(av.later H0.out.q hL).cell 5;exact Zg3
  ·intro ρ w3 hc hL hr;have h0:_=_:=hr.1;have k6:w3.cell? ⟨g1,6,none⟩=some (.int .i64 y.parts):=(av.later H0.out.q hL).cell 6;exact Zg4
  ·intro ρ w3 hc hL hr;have h0:_=_:=hr.1;have h1:_=_:=hr.2.1;have h2:_=_:=hr.2.2.1;have h3:_=_:=hr.2.2.2.1;have h4:_=_:=hr.2.2.2.2.1;exact ae (w':=w3) (ie rfl (by simp only[map_toArray,map_cons,map_nil,h0,h1,h2,h3,h4];exact Pc y)) ⟨af.refl _,rfl⟩
  ·intro ρ w3 hc hL hr;have h0:_=_:=hr.1;have h1:_=_:=hr.2.1;have e1:=hc.func 37;refine dU (f:=37) (args:= #[.agg (cd y).toArray,.agg (cd (eW y true false false false true false false false false)).toArray]) (w':=w3) Tar ?_;exact Zb6
 intro W2 hL;simp only[Uab];rintro _ rfl a1 - a2 - a3 - a4 - a5 - a6 - a7 - a8 - a9 - a10 - a11 - a12 - _ rfl;open zeK in exact Zcf):p:=h
theorem zdD.KaV(h:p:=by go_enter Tryz.func34,Tryz.ntmps34;open ze8 in exact ZcG):p:=h
theorem Pg(hE:dM w0) (hS:∀b,S b->b < w0.heap.size)  (h:s.at_ w0 S y)(hf:s.mB m)(hm:m<=1048576)(w:World)(hst:eR w0.heap.size b s0 n w)(hw:Below w0.heap.size w0 w)(hn:n+s.cost<=49999000):
  Calls Tryz.prog 34 #[.pointer (some ⟨b,0,none⟩),mK y] w (bk w0.heap.size b (aq s0 (nU s)) (n+s.cost) w):=by unfold St.cost at hn ⊢;have hlt:=hst.lt;have hsz:=hst.size;obtain⟨tt,py⟩:∃tt,tt=cY s true false false false true false false false false:=⟨_,rfl⟩;have TT:=hid (λ W=>gD h hf hm true false false false true false false false false W);rw[<- py] at TT;unfold mK at TT;have zt:=hid py;clear py;have HA:=hid h;have HF:=hid hf;obtain⟨cs,hcs⟩:∃cs,cs=(cd y).toArray:=⟨_,rfl⟩;show Calls Tryz.prog 34 #[.pointer (some ⟨b,0,none⟩),.agg (cd y).toArray] w _;open zdD in exact Zbp
def sv0 (b g:Nat)(y:gT):Nat->World->Value->Prop
 | 0,_,v=>v=.pointer (some ⟨b,0,none⟩)
 | 1,_,v=>v=.agg (cd y).toArray
 | 2,_,v=>v=.pointer (some ⟨g,7,none⟩)
 | 3,_,v=>v=.agg #[.slice y.query.items.A y.query.items.n y.query.items.c,.string y.query.aP,.bool y.query.only,.slice y.query.aS.A y.query.aS.n y.query.aS.c,.slice y.query.group.A y.query.group.n y.query.group.c,.slice y.query.having.A y.query.having.n y.query.having.c,.slice y.query.order.A y.query.order.n y.query.order.c,.slice y.query.aN.A y.query.aN.n y.query.aN.c]
 | 4,_,v=>v=.agg (cd (eW y false true false false false false false false false)).toArray
 | 5,_,v=>v=.bool false
 | 6,_,v=>v=.bool false
 | 7,_,v=>v=undef
 | 8,_,v=>v=undef
 | 9,_,v=>v=undef
 | 10,_,v=>v=.bool false
 | _,_,_=>False
theorem UB (b g:Nat)(y:gT):∀i w w' v,sv0 b g y i w v->af w w'->sv0 b g y i w' v:=by exact Zc7
def sv1 (b g:Nat)(y:gT):Nat->World->Value->Prop
 | 0,_,v=>v=.pointer (some ⟨b,0,none⟩)
 | 1,_,v=>v=.agg (cd y).toArray
 | 2,_,v=>v=.pointer (some ⟨g,7,none⟩)
 | 3,_,v=>v=.agg #[.slice y.query.items.A y.query.items.n y.query.items.c,.string y.query.aP,.bool y.query.only,.slice y.query.aS.A y.query.aS.n y.query.aS.c,.slice y.query.group.A y.query.group.n y.query.group.c,.slice y.query.having.A y.query.having.n y.query.having.c,.slice y.query.order.A y.query.order.n y.query.order.c,.slice y.query.aN.A y.query.aN.n y.query.aN.c]
 | 4,_,v=>v=.agg (cd (eW y false true false false false false false false false)).toArray
 | 5,_,v=>v=.bool true
 | 6,_,v=>v=.bool true
 | 7,_,v=>v=.pointer (some ⟨g,1,none⟩)
 | 8,_,v=>v=.string y.name
 | 9,_,v=>v=.bool false
 | 10,_,v=>v=.bool false
 | _,_,_=>False
theorem UC (b g:Nat)(y:gT):∀i w w' v,sv1 b g y i w v->af w w'->sv1 b g y i w' v:=by exact Zc7
def sv2 (b g:Nat)(y:gT):Nat->World->Value->Prop
 | 0,_,v=>v=.pointer (some ⟨b,0,none⟩)
 | 1,_,v=>v=.agg (cd y).toArray
 | 2,_,v=>v=.pointer (some ⟨g,7,none⟩)
 | 3,_,v=>v=.agg #[.slice y.query.items.A y.query.items.n y.query.items.c,.string y.query.aP,.bool y.query.only,.slice y.query.aS.A y.query.aS.n y.query.aS.c,.slice y.query.group.A y.query.group.n y.query.group.c,.slice y.query.having.A y.query.having.n y.query.having.c,.slice y.query.order.A y.query.order.n y.query.order.c,.slice y.query.aN.A y.query.aN.n y.query.aN.c]
 | 4,_,v=>v=.agg (cd (eW y false true false false false false false false false)).toArray
 | 5,_,v=>v=.bool true
 | 6,_,v=>v=.bool true
 | 7,_,v=>v=.pointer (some ⟨g,1,none⟩)
 | 8,_,v=>v=.string y.name
 | 9,_,v=>v=.bool true
 | 10,_,v=>v=.bool true
 | _,_,_=>False
theorem UD (b g:Nat)(y:gT):∀i w w' v,sv2 b g y i w v->af w w'->sv2 b g y i w' v:=by exact Zc7
theorem zbp.Kak(h:p:=by
 have OB:(cY s false true false false false false false false false && s.name.toList== [])=false:=by rw[<- zt.out];rfl
 exact Zbz):p:=h
theorem zbq.Kak(h:p:=by
 have OB:(cY s false true false false false false false false false && s.name.toList== [])=true:=by rw[<- zt.out,<- HA.out.name];simp[NM.out]
 exact Zbz):p:=h
theorem zbr.Kak(h:p:=by
 have OB:(cY s false true false false false false false false false && s.name.toList== [])=false:=by rw[<- zt.out,<- HA.out.name];simp[NM.out]
 exact Zbz):p:=h
theorem zeq.Kba(h:p:=by refine(bp false W2 H1.out.st).mono ?_;open zbp in exact Zat):p:=h
theorem zer.Kba(h:p:=by refine(bp true W2 H1.out.st).mono ?_;open zbq in exact Zat):p:=h
theorem zes.Kba(h:p:=by refine(bp false W2 H1.out.st).mono ?_;open zbr in exact Zat):p:=h
theorem zae.Kaa(h:p:=by
 have x0:oQ.cell? ⟨g1,0,none⟩=some (.int .u8 8):=by have:=H0.out.q.cell 0;rw[show(cd y).toArray[0]?=some (.int .u8 y.kind)from rfl,nJ] at this;exact this
 clear nJ hk;go_upto_region 32 with fail;cases tt
 ·have cn:w0.heap.size<=w.heap.size:=by rw[jJ.out];exact dS.out
  refine cX 11 (sv0 b g1 y) (UB _ _ _) Tac Tac Tac ?_ ?_
  ·simp only[take_succ_cons,take_zero];refine⟨Zbr,ZaU,ZbB,Zao,Zb2,Zbi,ZbB,ZcF,ZcF,ZcF,ZbR,trivial⟩
  open zeq in exact Zb4
 ·by_cases Rv:y.name.toList=[]
  ·have NM:=hid Rv;clear Rv;have cn:w0.heap.size<=w.heap.size:=by rw[jJ.out];exact dS.out
   refine cX 11 (sv2 b g1 y) (UD _ _ _) Tac Tac Tac ?_ ?_
   ·exact Zaz
   open zer in exact Zb4
  ·have NM:=hid Rv;clear Rv;have cn:w0.heap.size<=w.heap.size:=by rw[jJ.out];exact dS.out
   refine cX 11 (sv1 b g1 y) (UC _ _ _) Tac Tac Tac ?_ ?_
   ·exact Zaz
   open zes in exact Zb4):p:=h
theorem zfe.Kbr(h:p:=by clear py;open zae in exact Zaa):p:=h
theorem Po(hE:dM w0) (hS:∀b,S b->b < w0.heap.size)  (h:s.at_ w0 S y)(hf:s.mB m)(hm:m<=1048576)(w:World)(hst:eR w0.heap.size b s0 n w)(hw:Below w0.heap.size w0 w)(hk:s.kind=8)(hn:n+s.cost<=49999000):
  Calls Tryz.prog 19 #[.pointer (some ⟨b,0,none⟩),mK y] w (bk w0.heap.size b (aq s0 (ct s)) (n+s.cost) w):=by
 rw[show ct s=aq (bl (cY s false true false false false false false false false && s.name.toList== [])) (iU s.query) by unfold ct;rw[hk];rfl];have nJ:y.kind=8:=by rw[h.kind,hk]
 open zfe in exact ZcI
variable{P:Program}{ops:Array Oper}{rest:List Oper}{o:Oper}{a:Act}{w:World}{Q:Exit->Act->World->Prop}{cs:Array Value}
theorem zU(hg:o.guard=none)(t:TypeId)(parts:Array (Nat×Operand))(ho:o.op=.build t parts) 
  (hv:P.built t (parts.map λ(i,x)=>(i,a.eval x)).toList=some cs) (h:wpList P ops Q rest (a.put o.dst (.agg cs)) w):wpList P ops Q (o::rest) a w:=
 wpList_build hg t parts ho (by rw[hv];rfl) (by rw[hv];exact h)
def aaH:List (Int×Value):=[(9,dI [82,69,70,82,69,83,72]),(10,dI [67,79,77,80,82,69,83,83]),(12,dI [68,82,79,80])]
theorem YZ (k:Int):(aaH.lookup k).getD (dI [])=dI (xO k):=by
 by_cases h:k=9
 ·subst h;rfl
 by_cases h2:k=10
 ·subst h2;rfl
 by_cases h3:k=12
 ·subst h3;rfl
 rw[xP aaH k (by intro x hx;simp[aaH] at hx;rcases hx with rfl | rfl | rfl <;>(dsimp only;omega))];unfold xO;rw[if_neg h,if_neg h2,if_neg h3];rfl
theorem agf (k:Int):(xO k).length<=8:=by
 unfold xO;split
 ·decide
 split
 ·decide
 split <;> decide
theorem zhi.Kcl(h:p:=by rw[zt.out.symm,if_pos xh,<- V6,<- hx];exact Zdp):p:=h
theorem zhj.Kcl(h:p:=by rw[zt.out.symm,if_neg xh,<- V6,<- hx];exact Zdp):p:=h
theorem zge.KbS(h:p:=by
 replace hM:jo _ gm aaH:=hM;rw[kZ Tryz.underlying92 Tryz.underlying5 hM y.what (z:=dI []) (λ w=>by kernel_rfl),YZ,<- HX.out];simp only[Result.andThen];rw[Oper.upon_value];unfold dI;have H5:=hid (H4.out.later (by rw[alu.out];exact dS.out) kg);obtain⟨xe,Pk⟩:∃xe,X.isEmpty=xe:=⟨_,rfl⟩;have HXE:=hid Pk;clear hM kg Pj X15 hle H4;obtain⟨w5,hw5⟩:∃x,x=wm:=⟨_,rfl⟩;subst hw5;go_wp2_with fail;refine(bp (!xe) w5 H5.out.st).mono ?_;rintro e w6 ⟨rfl,h2,d2⟩;clear Pk;have H6:=hid (H5.out.next hg1 h2 d2);clear h2 d2 H5;go_wp2_with fail;refine(CX ⟨#[32]⟩ ⟨X.toArray⟩ ⟨#[32]⟩ w6 H6.out.st Tab (by show X.toArray.size<=_;simp;omega) Tab Taa).mono ?_;rintro e w7 ⟨rfl,h2,d2⟩;have H7:=hid (H6.out.next hg1 h2 d2);clear h2 d2 H6;have x16:w7.cell? ⟨g1,16,none⟩=some (.string y.cM):=H7.out.q.cell 16;go_wp2_with fail;refine(eL hE y.cM w7 H7.out.st H7.out.hw (by rw[HA.out.cM];exact HF.out.names.2.2.2) Taa).mono ?_;rintro e w8 ⟨rfl,h2,d2⟩;have H8:=hid (H7.out.next hg1 h2 d2);clear h2 d2 H7 x16;by_cases xh:y.what=9
 ·have t9:(y.what==9)=true:=by rw[xh];rfl
  have HW9:=hid xh;clear xh;have Fw:w8.cell? ⟨g1,15,none⟩=some (.int .u8 y.what):=H8.out.q.cell 15;go_wp2_with fail;refine(cH ⟨#[32,70,82,79,77,32]⟩ w8 H8.out.st Tab Taa).mono ?_;rintro e w9 ⟨rfl,h2,d2⟩;have H9:=hid (H8.out.next hg1 h2 d2);clear h2 d2 H8 Fw;have Zb:w9.cell? ⟨g1,17,none⟩=some (.int .i64 y.a):=H9.out.q.cell 17;go_wp2_with fail;refine(gO hE y.a (by rw[HA.out.a];exact HF.out.a.1) (by rw[HA.out.a];exact HF.out.a.2) w9 H9.out.st H9.out.hw Taa).mono ?_;rintro e xg ⟨rfl,h2,d2⟩;have tz:=hid (H9.out.next hg1 h2 d2);clear h2 d2 H9 Zb;go_wp2_with fail;refine(cH ⟨#[32,84,79,32]⟩ xg tz.out.st Tab Taa).mono ?_;rintro e GA ⟨rfl,h2,d2⟩;have Jq:=hid (tz.out.next hg1 h2 d2);clear h2 d2 tz;have Zc:GA.cell? ⟨g1,18,none⟩=some (.int .i64 y.b):=Jq.out.q.cell 18;go_wp2_with fail;refine(gO hE y.b (by rw[HA.out.b];exact HF.out.b.1) (by rw[HA.out.b];exact HF.out.b.2) GA Jq.out.st Jq.out.hw Taa).mono ?_;rintro e Uz ⟨rfl,h2,d2⟩;have Ru:=hid (Jq.out.next hg1 h2 d2);clear h2 d2 Jq Zc;go_wp2_with fail;refine(cH ⟨#[32,69,86,69,82,89,32]⟩ Uz Ru.out.st Tab Taa).mono ?_;rintro e LH ⟨rfl,h2,d2⟩;have Ph:=hid (Ru.out.next hg1 h2 d2);clear h2 d2 Ru;have x4:LH.cell? ⟨g1,4,none⟩=some (.int .i64 y.every):=Ph.out.q.cell 4;go_wp2_with fail;refine(gO hE y.every TaL TaK LH Ph.out.st Ph.out.hw Taa).mono ?_;rintro e Jr ⟨rfl,h2,d2⟩;have H14:=hid (Ph.out.next hg1 h2 d2);clear h2 d2 Ph x4
  go_wp2_with fail;go_end0;refine⟨rfl,?_,H14.out.did⟩;have:=H14.out.st.more (show n+1+1+3+1+1+1+1+1+1+1<=n+(13*Tr.aG s.exprs+4*s.bg.length+3*s.rows.length+80) by omega);open zhi in exact ZfL
 ·have t9:(y.what==9)=false:=by simpa using xh
  have HW9:=hid xh;clear xh;have Fw:w8.cell? ⟨g1,15,none⟩=some (.int .u8 y.what):=H8.out.q.cell 15;have Zc:w8.cell? ⟨g1,18,none⟩=some (.int .i64 y.b):=H8.out.q.cell 18;go_wp2_with fail;refine(bp (y.b==0) w8 H8.out.st).mono ?_;rintro e w9 ⟨rfl,h2,d2⟩;have H9:=hid (H8.out.next hg1 h2 d2);clear h2 d2 H8 Fw Zc;go_wp2_with fail;refine(cH ⟨#[32,65,70,84,69,82,32]⟩ w9 H9.out.st Tab Taa).mono ?_;rintro e xg ⟨rfl,h2,d2⟩;have tz:=hid (H9.out.next hg1 h2 d2);clear h2 d2 H9;have Zb:xg.cell? ⟨g1,17,none⟩=some (.int .i64 y.a):=tz.out.q.cell 17;go_wp2_with fail;refine(gO hE y.a (by rw[HA.out.a];exact HF.out.a.1) (by rw[HA.out.a];exact HF.out.a.2) xg tz.out.st tz.out.hw Taa).mono ?_;rintro e GA ⟨rfl,h2,d2⟩;have Jq:=hid (tz.out.next hg1 h2 d2);clear h2 d2 tz Zb;go_wp2_with fail;refine(cH ⟨#[32,69,86,69,82,89,32]⟩ GA Jq.out.st Tab Taa).mono ?_;rintro e Uz ⟨rfl,h2,d2⟩;have Ru:=hid (Jq.out.next hg1 h2 d2);clear h2 d2 Jq;have x4:Uz.cell? ⟨g1,4,none⟩=some (.int .i64 y.every):=Ru.out.q.cell 4;go_wp2_with fail;refine(gO hE y.every TaL TaK Uz Ru.out.st Ru.out.hw Taa).mono ?_;rintro e LH ⟨rfl,h2,d2⟩;have Ph:=hid (Ru.out.next hg1 h2 d2);clear h2 d2 Ru x4;go_wp2_with fail;go_end0;refine⟨rfl,?_,Ph.out.did⟩;have:=Ph.out.st.more (show n+1+1+3+1+1+1+1+1<=n+(13*Tr.aG s.exprs+4*s.bg.length+3*s.rows.length+80) by omega);open zhj in exact ZfL):p:=h
theorem Za(hE:dM w0) (hS:∀b,S b->b < w0.heap.size)  (h:s.at_ w0 S y)(hf:s.mB m)(hm:m<=1048576)(w:World)(hst:eR w0.heap.size b s0 n w)(hw:Below w0.heap.size w0 w)(hn:n+s.cost<=49999000):
  Calls Tryz.prog 35 #[.pointer (some ⟨b,0,none⟩),mK y] w (bk w0.heap.size b (aq s0 (BA s)) (n+s.cost) w):=by
 unfold St.cost at hn ⊢;have hlt:=hst.lt;have hsz:=hst.size;obtain⟨tt,py⟩:∃tt,tt=cY s false false true true true false false false false:=⟨_,rfl⟩;obtain⟨cs,hcs⟩:∃cs,cs=(cd y).toArray:=⟨_,rfl⟩;have hTT:∀W,Calls Tryz.prog 37 #[.agg cs,.agg (cd (eW y false false true true true false false false false)).toArray] W λ e' w'=>e'=.returned (.bool tt)/\Below W.heap.size W w':=λ W=>by rw[py,hcs];exact gD h hf hm false false true true true false false false false W
 have TT:=hid hTT;have zt:=hid py;have Ur:(Tryz.prog.info? 34).map (·.size)=some cs.size:=by rw[hcs];exact kD y
 have HA:=hid h;have HF:=hid hf;show Calls Tryz.prog 35 #[.pointer (some ⟨b,0,none⟩),.agg (cd y).toArray] w _;rw[<- hcs];have b2:=aa w (.cells cs 34);have hy:=av.new w 34 cs;have hP:SW w0 b s0 n w (w.alloc (.cells cs 34)) w.heap.size y:=⟨by rw[<- hcs];exact hy,hst.later b2,cF.aF b2 hsz,hw.trans (b2.mono hw.size)⟩;have H0:=hid hP;have dS:=hid hw.size;have HCS:=hid hcs;have HCI:=hid Ur;have hg1:w.heap.size≠b:=by omega
 clear h hf hst hw b2 hy hP hcs py Ur hTT;go_enter Tryz.func35,Tryz.ntmps35;go_upto_region 1 with fail;change Code.wp _ _ _ _ (w.alloc (.cells cs 34));generalize lQ:w.heap.size=g1 at*;have alu:=hid lQ;clear lQ hlt hsz;obtain⟨oQ,gR⟩:∃x,x=w.alloc (.cells cs 34):=⟨_,rfl⟩;rw[<- gR] at H0 ⊢;clear gR;have Fw:oQ.cell? ⟨g1,15,none⟩=some (.int .u8 y.what):=H0.out.q.cell 15;have x16:oQ.cell? ⟨g1,16,none⟩=some (.string y.cM):=H0.out.q.cell 16;have Zb:oQ.cell? ⟨g1,17,none⟩=some (.int .i64 y.a):=H0.out.q.cell 17;have Zc:oQ.cell? ⟨g1,18,none⟩=some (.int .i64 y.b):=H0.out.q.cell 18;have x4:oQ.cell? ⟨g1,4,none⟩=some (.int .i64 y.every):=H0.out.q.cell 4;have hq:av oQ g1 34 cs:=by rw[HCS.out];exact H0.out.q
 go_wp2_with (first
  |(refine wpList_load_row rfl 34 (.tmp 3) rfl g1 rfl 34 cs (0,0) _ hq Tryz.underlying34 rfl HCI.out ?_))
 refine(TT.out oQ).mono ?_;rintro e w1 ⟨rfl,b4⟩;have H1:=hid (H0.out.later (by rw[alu.out];exact dS.out) b4);clear b4 H0 hq TT Fw x16 Zb Zc x4;go_wp2_with fail;refine(bp tt w1 H1.out.st).mono ?_;rintro e w2 ⟨rfl,h2,d2⟩;have H2:=hid (H1.out.next hg1 h2 d2);clear h2 d2 H1;go_wp2_with fail;refine(cH ⟨#[67,82,69,65,84,69,32,74,79,66,32]⟩ w2 H2.out.st Tab Taa).mono ?_;rintro e w3 ⟨rfl,h2,d2⟩;have H3:=hid (H2.out.next hg1 h2 d2);clear h2 d2 H2;have x1:w3.cell? ⟨g1,1,none⟩=some (.string y.name):=H3.out.q.cell 1;go_wp2_with fail;refine(eL hE y.name w3 H3.out.st H3.out.hw Tan Taa).mono ?_;rintro e w4 ⟨rfl,h2,d2⟩;have H4:=hid (H3.out.next hg1 h2 d2);clear h2 d2 H3 x1;have Fw:w4.cell? ⟨g1,15,none⟩=some (.int .u8 y.what):=H4.out.q.cell 15;go_upto_region 4 with fail;refine wp_region_lit ?_;refine fD rfl 92 rfl ?_;have hM:=jo.new w4;have kg:Below w4.heap.size w4 (w4.alloc (.map #[] 0)):=aa w4 (.map #[] 0);obtain⟨gm,qg⟩:∃gm,gm=w4.heap.size:=⟨_,rfl⟩;rw[<- qg] at hM ⊢;have hle:w4.heap.size<=gm:=Nat.le_of_eq qg.symm;have Pj:=(kg.cell (p:=⟨g1,15,none⟩) (ax Fw)).trans Fw;have X15:=hid Fw;clear qg Fw;generalize w4.alloc _=W0 at*;obtain⟨X,hX⟩:∃X,X=xO y.what:=⟨_,rfl⟩;have HX:=hid hX;have hXl:X.length<=8:=by rw[hX];exact agf _
 open zge in exact Zd3
end Go.Proofs.YtehhdlgjfdnafaaGreatDoor
