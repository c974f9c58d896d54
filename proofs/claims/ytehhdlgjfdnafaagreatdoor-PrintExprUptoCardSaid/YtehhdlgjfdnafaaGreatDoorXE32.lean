/- Parts of the proof. -/
import Derived.Test.YtehhdlgjfdnafaaGreatDoorXE29
namespace Go.Proofs.YtehhdlgjfdnafaaGreatDoor
variable{p:Prop}
set_option maxHeartbeats 90000000
set_option maxRecDepth 100000
open Go.Lib (hid)
open Go.ChangeShapes Go.WideShapes Go.ChangeAt Go.RowKit Go.Shelf List
set_option linter.unusedVariables false
set_option linter.unusedSimpArgs false
variable{t r:Int}
theorem aeg(nm:ByteArray) (h0:0<=t)(hr:t.tmod 4=r)(X:ByteArray)(hX:1<=t->t<=3->X.data.toList=RR t):GK (nm,t)=aq (cS nm) (aq (bc (decide (1<=t)&& decide (t<=3))) (some (32::X.data.toList))):=by
 unfold GK;dsimp only;by_cases h1:1<=t
 ·by_cases h2:t<=3
  ·rw[hX h1 h2]
  ·rw[decide_eq_false h2,Bool.and_false];rfl
 ·rw[decide_eq_false h1,Bool.false_and];rfl
theorem U1 (t:Int)(h0:0<=t):∃(r:Int) (X:ByteArray),t.tmod 4=r/\X.size<=100/\(1<=t->t<=3->X.data.toList=RR t)/\∀u:World,(Instr.index 127 (.agg #[.string ⟨#[]⟩,.string ⟨#[66,79,79,76]⟩,.string ⟨#[73,78,84]⟩,.string ⟨#[84,69,88,84]⟩]) (.int .u8 r)).run Tryz.prog u=.ok (.string X) u:=by
 have hk:∀k:Int,t.tmod 4=k->1<=t->t<=3->t=k:=by intro k h a b;rw[Int.tmod_eq_emod_of_nonneg h0] at h;omega
 rcases XI t h0 with h | h | h | h
 ·exact⟨0,⟨#[]⟩,h,by decide,λ a b=>by have:=hk 0 h a b;omega,λ u=>by kernel_rfl⟩
 ·exact⟨1,⟨#[66,79,79,76]⟩,h,by decide,λ a b=>by rw[hk 1 h a b];rfl,λ u=>by kernel_rfl⟩
 ·exact⟨2,⟨#[73,78,84]⟩,h,by decide,λ a b=>by rw[hk 2 h a b];rfl,λ u=>by kernel_rfl⟩
 ·exact⟨3,⟨#[84,69,88,84]⟩,h,by decide,λ a b=>by rw[hk 3 h a b];rfl,λ u=>by kernel_rfl⟩
variable{w0:World}{b n:Nat}
theorem zeK.Kbf(h:p:=by
 have x0:=HB.out.cell 0;have p0:=HP.out.cell 0;simp only[getElem?_toArray,getElem?_cons_zero] at x0 p0;go_wp2_with fail;refine(ee hE nm W1 HS.out (hw.trans HD.out.below) hl Taa).mono ?_;rintro e w1 ⟨rfl,h2,d2⟩;have H1:=hid h2;have D1:=hid (HD.out.trans d2);have mn:=hid (d2.blk HB.out kG Tac);have QX:=hid (d2.blk HP.out Fo Tac);clear HS HD HB HP d2 h2 x0 p0;have x1:=mn.out.cell 1;have p0:=QX.out.cell 0;simp only[Uaa] at x1 p0;go_upto_region 2 with fail;go_cut [] (λ wx=>eu w0.heap.size b (aq (aq s (cS nm)) (bc ok)) (n+1) wx/\ck w0.heap.size b w1 wx)
 case first=>
  have GR:∀(q:Bool),q=ok->Calls Tryz.prog 36 #[.pointer (some ⟨b,0,none⟩),.bool q] w1 λ e w'=>e=.returned (.tuple #[])/\eu w0.heap.size b (aq (aq s (cS nm)) (bc ok)) (n+1) w'/\ck w0.heap.size b w1 w':=λ q hq=>(aX q w1 H1.out).mono λ e w' h2=>by subst hq;exact h2
  have MS:=hid GR;clear GR;by_cases c1:1<=t
  ·have t1:decide ((1:Int)<=t)=true:=decide_eq_true c1;by_cases c2:t<=3
   ·have t2:decide (t<=(3:Int))=true:=decide_eq_true c2;have jo:=hid (show true=ok by rw[iI.out,t1,t2];rfl);clear c1 c2;exact Za5
   ·have t2:decide (t<=(3:Int))=false:=decide_eq_false c2;have jo:=hid (show false=ok by rw[iI.out,t1,t2];rfl);clear c1 c2;exact Za5
  ·have t1:decide ((1:Int)<=t)=false:=decide_eq_false c1;have jo:=hid (show false=ok by rw[iI.out,t1];rfl);clear c1;exact Za5
 case rest=>
 obtain⟨h5,d5⟩:=hcut;have:=KEY.out wc _ (n+1) Taa _ h5 (D1.out.trans d5) (d5.blk QX.out Fo Tac) (d5.blk mn.out kG Tac);rw[aB,aB] at this;go_upto_region 3 with fail;exact this _ rfl rfl rfl):p:=h
theorem TD{p:Nat} {s:Option aT}(hE:di w0)(z:ByteArray×Int)(hl:z.1.size<=1048576)(h0:0<=z.2)(h1:z.2<=255)(w:World)(h:eu w0.heap.size b s n w)(hw:Below w0.heap.size w0 w)(hp:av w p 87 #[.pointer (some ⟨b,0,none⟩)])(Fo:p≠b)(hn:n+3<=50000000):
  Calls Tryz.prog 80 #[.agg #[.string z.1,.int .u8 z.2],.pointer (some ⟨p,0,none⟩)] w (aW w0.heap.size b (aq s (GK z)) (n+3) w):=by
 obtain⟨nm,t⟩:=z;dsimp only at hl h0 h1;obtain⟨r,X,hr,hX,hXt,XK⟩:=U1 t h0;rw[aeg nm h0 hr X hXt];have key:=λ(W:World) (st:Option aT) (m:Nat) (hm:m+2<=50000000) (g:Nat) (pV:eu w0.heap.size b st m W) (mV:ck w0.heap.size b w W) (L1:av W p 87 #[.pointer (some ⟨b,0,none⟩)]) (h4':av W g 53 #[.string nm,.int .u8 t]) (T:Array Value) (hT:T.size=25) (t1:T.getD 1 undef=.pointer (some ⟨p,0,none⟩)) (t2:T.getD 2 undef=.pointer (some ⟨g,0,none⟩))=>XJ h0 h1 hr hX XK W w pV mV hm hw.size L1 h4' hT t1 t2
 simp only[iz,Tryz.f80,Option.getD_some] at key;have KEY:=hid key;have HH:=hid h;have hsz:=h.size;have hlt:=h.lt;obtain⟨ok,ay⟩:∃ok,ok=(decide (1<=t)&& decide (t<=3)):=⟨_,rfl⟩;rw[<- ay];have iI:=hid ay;clear key h hXt XK hr ay;go_enter Tryz.func80,Tryz.ntmps80;have bx:=aa w (.cells #[.string nm,.int .u8 t] 53);have HB:=hid (av.new w 53 #[.string nm,.int .u8 t]);open zeK in exact Zch
variable{m:Nat}{s0:Option aT}{S:Nat->Prop}{s:St}{y:fX}
theorem zb5.Kas(h:p:=by
 have en:∀args w,(callFunc 80 args).run Tryz.prog w=.ok (.enter 80 args) w:=enters_of Tryz.func80 Tab rfl;have EN:=hid en;have HL:=hid qN;have HY:=hid hlen;have HR:=hid hR;have HC:=hid TI;have yu:s.aY.length<=1048576:=by have:=HF.out.nodes;omega
 clear en qN hlen hR TI;have x2:w5.cell? ⟨g1,2,none⟩=some (.slice y.aY.A y.aY.n y.aY.c):=H5.out.q.cell 2;have p0:w5.cell? ⟨g0,0,none⟩=some (.pointer (some ⟨b,0,none⟩)):=H5.out.p.cell 0;go_wp2_with fail;refine(Pz (λ _=>3) (λ i=>4*i) 80 #[] #[.pointer (some ⟨g0,0,none⟩)] EN.out y.aY.A y.aY.c y.aY.n ys (s.aY.map GK) S hS Tbg Tas HR.out w5 H5.out.st H5.out.hw rfl (λ i _=>by omega) (λ i hi=>by omega) TaT TaT (λ i z oo hz ho Wr s' n' dW hW hc=>by
  obtain⟨x,hx,rfl⟩:∃x,s.aY[i]?=some x/\GK x=oo:=by simpa [getElem?_map] using ho
  have hr:z=x:=oG HC.out hx hz
  subst hr
  have yH:=HF.out.aY z (mem_of_getElem? hx)
  exact TD hE z yH.1 yH.2.1 yH.2.2 Wr hW (H5.out.hw.trans dW.below) (dW.blk H5.out.p hg0 Tac) hg0 Taa)).mono ?_
 rintro e w6 ⟨rfl,h2,d2⟩;rw[HL.out] at h2;have H6:=hid (H5.out.next hg0 hg1 h2 d2);clear h2 d2 H5 p0 x2;have p0:w6.cell? ⟨g0,0,none⟩=some (.pointer (some ⟨b,0,none⟩)):=H6.out.p.cell 0;go_wp2_with fail;refine(cn ⟨#[41,32,84,73,77,69,32]⟩ w6 H6.out.st Tac Taa).mono ?_;rintro e w7 ⟨rfl,h2,d2⟩;have H7:=hid (H6.out.next hg0 hg1 h2 d2);clear h2 d2 H6 p0;have x3:w7.cell? ⟨g1,3,none⟩=some (.string y.time):=H7.out.q.cell 3;have p0:w7.cell? ⟨g0,0,none⟩=some (.pointer (some ⟨b,0,none⟩)):=H7.out.p.cell 0;go_wp2_with fail;refine(ee hE y.time w7 H7.out.st H7.out.hw (by rw[HA.out.time];exact HF.out.names.2.1) Taa).mono ?_;rintro e w8 ⟨rfl,h2,d2⟩;have H8:=hid (H7.out.next hg0 hg1 h2 d2);clear h2 d2 H7 p0 x3;have p0:w8.cell? ⟨g0,0,none⟩=some (.pointer (some ⟨b,0,none⟩)):=H8.out.p.cell 0;go_wp2_with fail;refine(cn ⟨#[32,69,86,69,82,89,32]⟩ w8 H8.out.st Tac Taa).mono ?_;rintro e w9 ⟨rfl,h2,d2⟩;have H9:=hid (H8.out.next hg0 hg1 h2 d2);clear h2 d2 H8 p0;have x4:w9.cell? ⟨g1,4,none⟩=some (.int .i64 y.every):=H9.out.q.cell 4;have p0:w9.cell? ⟨g0,0,none⟩=some (.pointer (some ⟨b,0,none⟩)):=H9.out.p.cell 0;go_wp2_with fail;refine(fN hE y.every TaN TaM w9 H9.out.st H9.out.hw Taa).mono ?_;rintro e uF ⟨rfl,h2,d2⟩;have qY:=hid (H9.out.next hg0 hg1 h2 d2);clear h2 d2 H9 p0 x4;by_cases hsp:y.space.toList=[]
 ·have t0:y.space.toList.isEmpty=true:=by rw[hsp];rfl
  have HSP:=hid hsp;obtain⟨qq,hqq⟩:∃qq:Bool,qq=(y.parts==0):=⟨_,rfl⟩;have HQ:=hid hqq;clear hsp hqq;have x5:uF.cell? ⟨g1,5,none⟩=some (.string y.space):=qY.out.q.cell 5;have x6:uF.cell? ⟨g1,6,none⟩=some (.int .i64 y.parts):=qY.out.q.cell 6;have p0:uF.cell? ⟨g0,0,none⟩=some (.pointer (some ⟨b,0,none⟩)):=qY.out.p.cell 0;go_wp2_with fail;refine(aX _ uF qY.out.st).mono ?_;rintro e Dx ⟨rfl,h2,d2⟩;have Fq:=hid (qY.out.next hg0 hg1 h2 d2);clear h2 d2 qY p0 x5 x6;go_wp2_with fail;go_end0;refine⟨rfl,?_,Fq.out.did⟩;have:=Fq.out.st.more (show n+1+1+1+4*s.aY.length+1+1+1+1<=n+(13*Tr.aM s.exprs+4*s.aY.length+3*s.rows.length+80) by omega);have hs:=HSP.out;rw[HA.out.space] at hs;unfold oP;rw[wz.out.symm,if_pos hs];rw[HA.out.name,HA.out.time,HA.out.every] at this;rw[HA.out.parts] at this;exact Zb6
 ·have t1:y.space.toList.isEmpty=false:=by cases hq:y.space.toList with | nil=>exact absurd hq hsp | cons a l=>rfl
  have HSP:=hid hsp;clear hsp;have x5:uF.cell? ⟨g1,5,none⟩=some (.string y.space):=qY.out.q.cell 5;have p0:uF.cell? ⟨g0,0,none⟩=some (.pointer (some ⟨b,0,none⟩)):=qY.out.p.cell 0;go_wp2_with fail;refine(cn ⟨#[32,83,80,65,67,69,32]⟩ uF qY.out.st Tac Taa).mono ?_;rintro e Dx ⟨rfl,h2,d2⟩;have Fq:=hid (qY.out.next hg0 hg1 h2 d2);clear h2 d2 qY p0 x5;have x5:Dx.cell? ⟨g1,5,none⟩=some (.string y.space):=Fq.out.q.cell 5;have p0:Dx.cell? ⟨g0,0,none⟩=some (.pointer (some ⟨b,0,none⟩)):=Fq.out.p.cell 0;go_wp2_with fail;refine(ee hE y.space Dx Fq.out.st Fq.out.hw (by rw[HA.out.space];exact HF.out.names.2.2.1) Taa).mono ?_;rintro e PE ⟨rfl,h2,d2⟩;have Nb:=hid (Fq.out.next hg0 hg1 h2 d2);clear h2 d2 Fq p0 x5;have p0:PE.cell? ⟨g0,0,none⟩=some (.pointer (some ⟨b,0,none⟩)):=Nb.out.p.cell 0;go_wp2_with fail;refine(cn ⟨#[32,73,78,84,79,32]⟩ PE Nb.out.st Tac Taa).mono ?_;rintro e Ij ⟨rfl,h2,d2⟩;have KZ:=hid (Nb.out.next hg0 hg1 h2 d2);clear h2 d2 Nb p0;have x6:Ij.cell? ⟨g1,6,none⟩=some (.int .i64 y.parts):=KZ.out.q.cell 6;have p0:Ij.cell? ⟨g0,0,none⟩=some (.pointer (some ⟨b,0,none⟩)):=KZ.out.p.cell 0;go_wp2_with fail;refine(fN hE y.parts (by rw[HA.out.parts];exact HF.out.parts.1) (by rw[HA.out.parts];exact HF.out.parts.2) Ij KZ.out.st KZ.out.hw Taa).mono ?_;rintro e Fs ⟨rfl,h2,d2⟩;have H14:=hid (KZ.out.next hg0 hg1 h2 d2);clear h2 d2 KZ p0 x6;go_wp2_with fail;go_end0;refine⟨rfl,?_,H14.out.did⟩;have:=H14.out.st.more (show n+1+1+1+4*s.aY.length+1+1+1+1+1+1+1+1<=n+(13*Tr.aM s.exprs+4*s.aY.length+3*s.rows.length+80) by omega)
  have hs:=HSP.out;rw[HA.out.space] at hs;unfold oP;rw[wz.out.symm,if_neg hs];rw[HA.out.name,HA.out.time,HA.out.every] at this;rw[HA.out.space,HA.out.parts] at this;exact Zb6):p:=h
theorem zh9.KcK(h:p:=by go_wp2_with fail;refine(ee hE y.name w3 H3.out.st H3.out.hw Tan Taa).mono ?_;rintro e w4 ⟨rfl,h2,d2⟩;have H4:=hid (H3.out.next hg0 hg1 h2 d2);clear h2 d2 H3 p0 x1;have p0:w4.cell? ⟨g0,0,none⟩=some (.pointer (some ⟨b,0,none⟩)):=H4.out.p.cell 0;go_wp2_with fail;refine(cn ⟨#[32,40]⟩ w4 H4.out.st Tac Taa).mono ?_;rintro e w5 ⟨rfl,h2,d2⟩;have H5:=hid (H4.out.next hg0 hg1 h2 d2);clear h2 d2 H4 p0;obtain⟨qN,ys,hR,TI⟩:=HA.out.aY;have hlen:List.length (α:=ByteArray×Int) ys=s.aY.length:=TI.len;open zb5 in exact ZaH):p:=h
theorem zeI.Kbe(h:p:=by clear h2 d2 H1 TT;have p0:w2.cell? ⟨g0,0,none⟩=some (.pointer (some ⟨b,0,none⟩)):=H2.out.p.cell 0;go_wp2_with fail;refine(cn ⟨#[67,82,69,65,84,69,32,84,65,66,76,69,32]⟩ w2 H2.out.st Tac Taa).mono ?_;rintro e w3 ⟨rfl,h2,d2⟩;have H3:=hid (H2.out.next hg0 hg1 h2 d2);clear h2 d2 H2 p0;open zh9 in exact ZgY):p:=h
theorem ze1.Kbn(h:p:=by
 have bN:w0.heap.size<=w.heap.size:=by rw[iW.out];exact dy.out
 refine cE 14 (AV b g1 y tt) (AW _ _ _ _) Tab Tab Tab ?_ ?_
 ·simp only[take_succ_cons,take_zero];refine⟨ZfV,ZaU,ZeK,?_,ZeK,?_,ZeK,?_,ZeK,?_,ZeK,?_,?_,?_,trivial⟩
  ·intro ρ w3 hc hL hr;have h0:_=_:=hr.1;have k2:w3.cell? ⟨g1,2,none⟩=some (.slice y.aY.A y.aY.n y.aY.c):=(av.later H0.out.q hL).cell 2;exact ZgP
  ·intro ρ w3 hc hL hr;have h0:_=_:=hr.1;have k3:w3.cell? ⟨g1,3,none⟩=some (.string y.time):=(av.later H0.out.q hL).cell 3;exact ZgQ
  ·intro ρ w3 hc hL hr;have h0:_=_:=hr.1;have k4:w3.cell? ⟨g1,4,none⟩=some (.int .i64 y.every):=(av.later H0.out.q hL).cell 4;exact ZgR
  ·intro ρ w3 hc hL hr;have h0:_=_:=hr.1;have k5:w3.cell? ⟨g1,5,none⟩=some (.string y.space):=(av.later H0.out.q hL).cell 5;exact ZgS
  ·intro ρ w3 hc hL hr;have h0:_=_:=hr.1;have k6:w3.cell? ⟨g1,6,none⟩=some (.int .i64 y.parts):=(av.later H0.out.q hL).cell 6;exact ZgT
  ·intro ρ w3 hc hL hr;have h0:_=_:=hr.1;have h1:_=_:=hr.2.1;have h2:_=_:=hr.2.2.1;have h3:_=_:=hr.2.2.2.1;have h4:_=_:=hr.2.2.2.2.1;exact ae (w':=w3) (gq rfl (by simp only[map_toArray,map_cons,map_nil,h0,h1,h2,h3,h4];exact KW y)) ⟨af.refl _,rfl⟩
  ·intro ρ w3 hc hL hr;have h0:_=_:=hr.1;have h1:_=_:=hr.2.1;have e1:=hc.func 37;refine dB (f:=37) (args:= #[.agg (bI y).toArray,.agg (bI (eA y true false false false true false false false false)).toArray]) (w':=w3) Taq ?_;exact Zb3
 intro W2 hL;simp only[Uab];rintro _ rfl a1 - a2 - a3 - a4 - a5 - a6 - a7 - a8 - a9 - a10 - a11 - a12 - _ rfl;open zeI in exact Zcd):p:=h
theorem zdz.KaT(h:p:=by go_enter Tryz.func34,Tryz.ntmps34;open ze1 in exact ZcC):p:=h
theorem KY(hE:di w0) (hS:∀b,S b->b < w0.heap.size)  (h:s.at_ w0 S y)(hf:s.my m)(hm:m<=1048576)(w:World)(hst:eu w0.heap.size b s0 n w)(hw:Below w0.heap.size w0 w)(hn:n+s.cost<=49999000):
  Calls Tryz.prog 34 #[.pointer (some ⟨b,0,none⟩),mC y] w (aW w0.heap.size b (aq s0 (oP s)) (n+s.cost) w):=by unfold St.cost at hn ⊢;have hlt:=hst.lt;have hsz:=hst.size;obtain⟨tt,nN⟩:∃tt,tt=dv s true false false false true false false false false:=⟨_,rfl⟩;have TT:=hid (λ W=>fF h hf hm true false false false true false false false false W);rw[<- nN] at TT;unfold mC at TT;have wz:=hid nN;clear nN;have HA:=hid h;have HF:=hid hf;obtain⟨cs,hcs⟩:∃cs,cs=(bI y).toArray:=⟨_,rfl⟩;show Calls Tryz.prog 34 #[.pointer (some ⟨b,0,none⟩),.agg (bI y).toArray] w _;open zdz in exact Zbn
def sv0 (b g:Nat)(y:fX):Nat->World->Value->Prop
 | 0,_,v=>v=.pointer (some ⟨b,0,none⟩)
 | 1,_,v=>v=.agg (bI y).toArray
 | 2,_,v=>v=.pointer (some ⟨g,7,none⟩)
 | 3,_,v=>v=.agg #[.slice y.query.items.A y.query.items.n y.query.items.c,.string y.query.aN,.bool y.query.only,.slice y.query.aP.A y.query.aP.n y.query.aP.c,.slice y.query.group.A y.query.group.n y.query.group.c,.slice y.query.having.A y.query.having.n y.query.having.c,.slice y.query.order.A y.query.order.n y.query.order.c,.slice y.query.aQ.A y.query.aQ.n y.query.aQ.c]
 | 4,_,v=>v=.agg (bI (eA y false true false false false false false false false)).toArray
 | 5,_,v=>v=.bool false
 | 6,_,v=>v=.bool false
 | 7,_,v=>v=undef
 | 8,_,v=>v=undef
 | 9,_,v=>v=undef
 | 10,_,v=>v=.bool false
 | _,_,_=>False
theorem PG (b g:Nat)(y:fX):∀i w w' v,sv0 b g y i w v->af w w'->sv0 b g y i w' v:=by exact Zc3
def sv1 (b g:Nat)(y:fX):Nat->World->Value->Prop
 | 0,_,v=>v=.pointer (some ⟨b,0,none⟩)
 | 1,_,v=>v=.agg (bI y).toArray
 | 2,_,v=>v=.pointer (some ⟨g,7,none⟩)
 | 3,_,v=>v=.agg #[.slice y.query.items.A y.query.items.n y.query.items.c,.string y.query.aN,.bool y.query.only,.slice y.query.aP.A y.query.aP.n y.query.aP.c,.slice y.query.group.A y.query.group.n y.query.group.c,.slice y.query.having.A y.query.having.n y.query.having.c,.slice y.query.order.A y.query.order.n y.query.order.c,.slice y.query.aQ.A y.query.aQ.n y.query.aQ.c]
 | 4,_,v=>v=.agg (bI (eA y false true false false false false false false false)).toArray
 | 5,_,v=>v=.bool true
 | 6,_,v=>v=.bool true
 | 7,_,v=>v=.pointer (some ⟨g,1,none⟩)
 | 8,_,v=>v=.string y.name
 | 9,_,v=>v=.bool false
 | 10,_,v=>v=.bool false
 | _,_,_=>False
theorem PH (b g:Nat)(y:fX):∀i w w' v,sv1 b g y i w v->af w w'->sv1 b g y i w' v:=by exact Zc3
def sv2 (b g:Nat)(y:fX):Nat->World->Value->Prop
 | 0,_,v=>v=.pointer (some ⟨b,0,none⟩)
 | 1,_,v=>v=.agg (bI y).toArray
 | 2,_,v=>v=.pointer (some ⟨g,7,none⟩)
 | 3,_,v=>v=.agg #[.slice y.query.items.A y.query.items.n y.query.items.c,.string y.query.aN,.bool y.query.only,.slice y.query.aP.A y.query.aP.n y.query.aP.c,.slice y.query.group.A y.query.group.n y.query.group.c,.slice y.query.having.A y.query.having.n y.query.having.c,.slice y.query.order.A y.query.order.n y.query.order.c,.slice y.query.aQ.A y.query.aQ.n y.query.aQ.c]
 | 4,_,v=>v=.agg (bI (eA y false true false false false false false false false)).toArray
 | 5,_,v=>v=.bool true
 | 6,_,v=>v=.bool true
 | 7,_,v=>v=.pointer (some ⟨g,1,none⟩)
 | 8,_,v=>v=.string y.name
 | 9,_,v=>v=.bool true
 | 10,_,v=>v=.bool true
 | _,_,_=>False
theorem PI (b g:Nat)(y:fX):∀i w w' v,sv2 b g y i w v->af w w'->sv2 b g y i w' v:=by exact Zc3
theorem zbr.Kal(h:p:=by
 have KR:(dv s false true false false false false false false false && s.name.toList== [])=false:=by rw[<- wz.out];rfl
 exact Zbx):p:=h
theorem zbs.Kal(h:p:=by
 have KR:(dv s false true false false false false false false false && s.name.toList== [])=true:=by rw[<- wz.out,<- HA.out.name];simp[NM.out]
 exact Zbx):p:=h
theorem zbt.Kal(h:p:=by
 have KR:(dv s false true false false false false false false false && s.name.toList== [])=false:=by rw[<- wz.out,<- HA.out.name];simp[NM.out]
 exact Zbx):p:=h
theorem zem.Ka8(h:p:=by refine(aX false W2 H1.out.st).mono ?_;open zbr in exact Zau):p:=h
theorem zen.Ka8(h:p:=by refine(aX true W2 H1.out.st).mono ?_;open zbs in exact Zau):p:=h
theorem zeo.Ka8(h:p:=by refine(aX false W2 H1.out.st).mono ?_;open zbt in exact Zau):p:=h
theorem zae.Kaa(h:p:=by
 have x0:ni.cell? ⟨g1,0,none⟩=some (.int .u8 8):=by have:=H0.out.q.cell 0;rw[show(bI y).toArray[0]?=some (.int .u8 y.kind)from rfl,mb] at this;exact this
 clear mb hk;go_upto_region 32 with fail;cases tt
 ·have bN:w0.heap.size<=w.heap.size:=by rw[iW.out];exact dy.out
  refine cE 11 (sv0 b g1 y) (PG _ _ _) Tab Tab Tab ?_ ?_
  ·simp only[take_succ_cons,take_zero];refine⟨Zbp,ZaU,Zbz,Zap,ZbZ,Zbf,Zbz,ZcB,ZcB,ZcB,ZbO,trivial⟩
  open zem in exact Zb1
 ·by_cases MD:y.name.toList=[]
  ·have NM:=hid MD;clear MD;have bN:w0.heap.size<=w.heap.size:=by rw[iW.out];exact dy.out
   refine cE 11 (sv2 b g1 y) (PI _ _ _) Tab Tab Tab ?_ ?_
   ·exact ZaA
   open zen in exact Zb1
  ·have NM:=hid MD;clear MD;have bN:w0.heap.size<=w.heap.size:=by rw[iW.out];exact dy.out
   refine cE 11 (sv1 b g1 y) (PH _ _ _) Tab Tab Tab ?_ ?_
   ·exact ZaA
   open zeo in exact Zb1):p:=h
theorem ze7.Kbp(h:p:=by clear nN;open zae in exact Zaa):p:=h
theorem Lg(hE:di w0) (hS:∀b,S b->b < w0.heap.size)  (h:s.at_ w0 S y)(hf:s.my m)(hm:m<=1048576)(w:World)(hst:eu w0.heap.size b s0 n w)(hw:Below w0.heap.size w0 w)(hk:s.kind=8)(hn:n+s.cost<=49999000):
  Calls Tryz.prog 19 #[.pointer (some ⟨b,0,none⟩),mC y] w (aW w0.heap.size b (aq s0 (cB s)) (n+s.cost) w):=by
 rw[show cB s=aq (bc (dv s false true false false false false false false false && s.name.toList== [])) (jG s.query) by unfold cB;rw[hk];rfl];have mb:y.kind=8:=by rw[h.kind,hk]
 open ze7 in exact ZcE
variable{P:Program}{ops:Array Oper}{rest:List Oper}{o:Oper}{a:Act}{w:World}{Q:Exit->Act->World->Prop}{cs:Array Value}
theorem xq(hg:o.guard=none)(t:TypeId)(parts:Array (Nat×Operand))(ho:o.op=.build t parts) 
  (hv:P.built t (parts.map λ(i,x)=>(i,a.eval x)).toList=some cs) (h:wpList P ops Q rest (a.put o.dst (.agg cs)) w):wpList P ops Q (o::rest) a w:=
 wpList_build hg t parts ho (by rw[hv];rfl) (by rw[hv];exact h)
def XM:List (Int×Value):=[(9,df [82,69,70,82,69,83,72]),(10,df [67,79,77,80,82,69,83,83]),(12,df [68,82,79,80])]
theorem TJ (k:Int):(XM.lookup k).getD (df [])=df (yz k):=by
 by_cases h:k=9
 ·subst h;rfl
 by_cases h2:k=10
 ·subst h2;rfl
 by_cases h3:k=12
 ·subst h3;rfl
 rw[vr XM k (by intro x hx;simp[XM] at hx;rcases hx with rfl | rfl | rfl <;>(dsimp only;omega))];unfold yz;rw[if_neg h,if_neg h2,if_neg h3];rfl
theorem U4 (k:Int):(yz k).length<=8:=by
 unfold yz;split
 ·decide
 split
 ·decide
 split <;> decide
theorem zg4.Kcg(h:p:=by rw[wz.out.symm,if_pos uG,<- Wb,<- hx];exact Zdl):p:=h
theorem zg5.Kcg(h:p:=by rw[wz.out.symm,if_neg uG,<- Wb,<- hx];exact Zdl):p:=h
theorem zfY.KbN(h:p:=by
 replace hM:iy _ gm XM:=hM;rw[jH Tryz.underlying92 Tryz.underlying5 hM y.what (z:=df []) (λ w=>by kernel_rfl),TJ,<- HX.out];simp only[Result.andThen];rw[Oper.upon_value];unfold df;have H5:=hid (H4.out.later (by rw[aei.out];exact dy.out) jn);obtain⟨xe,Lc⟩:∃xe,X.isEmpty=xe:=⟨_,rfl⟩;have HXE:=hid Lc;clear hM jn Lb U6 hle H4;obtain⟨w5,hw5⟩:∃x,x=wm:=⟨_,rfl⟩;subst hw5;go_wp2_with fail;refine(aX (!xe) w5 H5.out.st).mono ?_;rintro e w6 ⟨rfl,h2,d2⟩;clear Lc;have H6:=hid (H5.out.next hg1 h2 d2);clear h2 d2 H5;go_wp2_with fail;refine(Ab ⟨#[32]⟩ ⟨X.toArray⟩ ⟨#[32]⟩ w6 H6.out.st Tac (by show X.toArray.size<=_;simp;omega) Tac Taa).mono ?_;rintro e w7 ⟨rfl,h2,d2⟩;have H7:=hid (H6.out.next hg1 h2 d2);clear h2 d2 H6;have x16:w7.cell? ⟨g1,16,none⟩=some (.string y.cI):=H7.out.q.cell 16;go_wp2_with fail;refine(ee hE y.cI w7 H7.out.st H7.out.hw (by rw[HA.out.cI];exact HF.out.names.2.2.2) Taa).mono ?_;rintro e w8 ⟨rfl,h2,d2⟩;have H8:=hid (H7.out.next hg1 h2 d2);clear h2 d2 H7 x16;by_cases uG:y.what=9
 ·have t9:(y.what==9)=true:=by rw[uG];rfl
  have HW9:=hid uG;clear uG;have La:w8.cell? ⟨g1,15,none⟩=some (.int .u8 y.what):=H8.out.q.cell 15;go_wp2_with fail;refine(cn ⟨#[32,70,82,79,77,32]⟩ w8 H8.out.st Tac Taa).mono ?_;rintro e w9 ⟨rfl,h2,d2⟩;have H9:=hid (H8.out.next hg1 h2 d2);clear h2 d2 H8 La;have x17:w9.cell? ⟨g1,17,none⟩=some (.int .i64 y.a):=H9.out.q.cell 17;go_wp2_with fail;refine(fN hE y.a (by rw[HA.out.a];exact HF.out.a.1) (by rw[HA.out.a];exact HF.out.a.2) w9 H9.out.st H9.out.hw Taa).mono ?_;rintro e uF ⟨rfl,h2,d2⟩;have qY:=hid (H9.out.next hg1 h2 d2);clear h2 d2 H9 x17;go_wp2_with fail;refine(cn ⟨#[32,84,79,32]⟩ uF qY.out.st Tac Taa).mono ?_;rintro e Dx ⟨rfl,h2,d2⟩;have Fq:=hid (qY.out.next hg1 h2 d2);clear h2 d2 qY;have x18:Dx.cell? ⟨g1,18,none⟩=some (.int .i64 y.b):=Fq.out.q.cell 18;go_wp2_with fail;refine(fN hE y.b (by rw[HA.out.b];exact HF.out.b.1) (by rw[HA.out.b];exact HF.out.b.2) Dx Fq.out.st Fq.out.hw Taa).mono ?_;rintro e PE ⟨rfl,h2,d2⟩;have Nb:=hid (Fq.out.next hg1 h2 d2);clear h2 d2 Fq x18;go_wp2_with fail;refine(cn ⟨#[32,69,86,69,82,89,32]⟩ PE Nb.out.st Tac Taa).mono ?_;rintro e Ij ⟨rfl,h2,d2⟩;have KZ:=hid (Nb.out.next hg1 h2 d2);clear h2 d2 Nb;have x4:Ij.cell? ⟨g1,4,none⟩=some (.int .i64 y.every):=KZ.out.q.cell 4;go_wp2_with fail;refine(fN hE y.every TaN TaM Ij KZ.out.st KZ.out.hw Taa).mono ?_;rintro e Fs ⟨rfl,h2,d2⟩;have H14:=hid (KZ.out.next hg1 h2 d2)
  clear h2 d2 KZ x4;go_wp2_with fail;go_end0;refine⟨rfl,?_,H14.out.did⟩;have:=H14.out.st.more (show n+1+1+3+1+1+1+1+1+1+1<=n+(13*Tr.aM s.exprs+4*s.aY.length+3*s.rows.length+80) by omega);open zg4 in exact ZfD
 ·have t9:(y.what==9)=false:=by simpa using uG
  have HW9:=hid uG;clear uG;have La:w8.cell? ⟨g1,15,none⟩=some (.int .u8 y.what):=H8.out.q.cell 15;have x18:w8.cell? ⟨g1,18,none⟩=some (.int .i64 y.b):=H8.out.q.cell 18;go_wp2_with fail;refine(aX (y.b==0) w8 H8.out.st).mono ?_;rintro e w9 ⟨rfl,h2,d2⟩;have H9:=hid (H8.out.next hg1 h2 d2);clear h2 d2 H8 La x18;go_wp2_with fail;refine(cn ⟨#[32,65,70,84,69,82,32]⟩ w9 H9.out.st Tac Taa).mono ?_;rintro e uF ⟨rfl,h2,d2⟩;have qY:=hid (H9.out.next hg1 h2 d2);clear h2 d2 H9;have x17:uF.cell? ⟨g1,17,none⟩=some (.int .i64 y.a):=qY.out.q.cell 17;go_wp2_with fail;refine(fN hE y.a (by rw[HA.out.a];exact HF.out.a.1) (by rw[HA.out.a];exact HF.out.a.2) uF qY.out.st qY.out.hw Taa).mono ?_;rintro e Dx ⟨rfl,h2,d2⟩;have Fq:=hid (qY.out.next hg1 h2 d2);clear h2 d2 qY x17;go_wp2_with fail;refine(cn ⟨#[32,69,86,69,82,89,32]⟩ Dx Fq.out.st Tac Taa).mono ?_;rintro e PE ⟨rfl,h2,d2⟩;have Nb:=hid (Fq.out.next hg1 h2 d2);clear h2 d2 Fq;have x4:PE.cell? ⟨g1,4,none⟩=some (.int .i64 y.every):=Nb.out.q.cell 4;go_wp2_with fail;refine(fN hE y.every TaN TaM PE Nb.out.st Nb.out.hw Taa).mono ?_;rintro e Ij ⟨rfl,h2,d2⟩;have KZ:=hid (Nb.out.next hg1 h2 d2);clear h2 d2 Nb x4;go_wp2_with fail;go_end0;refine⟨rfl,?_,KZ.out.did⟩;have:=KZ.out.st.more (show n+1+1+3+1+1+1+1+1<=n+(13*Tr.aM s.exprs+4*s.aY.length+3*s.rows.length+80) by omega);open zg5 in exact ZfD):p:=h
theorem TK(hE:di w0) (hS:∀b,S b->b < w0.heap.size)  (h:s.at_ w0 S y)(hf:s.my m)(hm:m<=1048576)(w:World)(hst:eu w0.heap.size b s0 n w)(hw:Below w0.heap.size w0 w)(hn:n+s.cost<=49999000):
  Calls Tryz.prog 35 #[.pointer (some ⟨b,0,none⟩),mC y] w (aW w0.heap.size b (aq s0 (Ce s)) (n+s.cost) w):=by
 unfold St.cost at hn ⊢;have hlt:=hst.lt;have hsz:=hst.size;obtain⟨tt,nN⟩:∃tt,tt=dv s false false true true true false false false false:=⟨_,rfl⟩;obtain⟨cs,hcs⟩:∃cs,cs=(bI y).toArray:=⟨_,rfl⟩;have hTT:∀W,Calls Tryz.prog 37 #[.agg cs,.agg (bI (eA y false false true true true false false false false)).toArray] W λ e' w'=>e'=.returned (.bool tt)/\Below W.heap.size W w':=λ W=>by rw[nN,hcs];exact fF h hf hm false false true true true false false false false W
 have TT:=hid hTT;have wz:=hid nN;have Ph:(Tryz.prog.info? 34).map (·.size)=some cs.size:=by rw[hcs];exact kC y
 have HA:=hid h;have HF:=hid hf;show Calls Tryz.prog 35 #[.pointer (some ⟨b,0,none⟩),.agg (bI y).toArray] w _;rw[<- hcs];have b2:=aa w (.cells cs 34);have hy:=av.new w 34 cs;have hP:SW w0 b s0 n w (w.alloc (.cells cs 34)) w.heap.size y:=⟨by rw[<- hcs];exact hy,hst.later b2,ck.aA b2 hsz,hw.trans (b2.mono hw.size)⟩;have H0:=hid hP;have dy:=hid hw.size;have U5:=hid hcs;have HCI:=hid Ph;have hg1:w.heap.size≠b:=by omega
 clear h hf hst hw b2 hy hP hcs nN Ph hTT;go_enter Tryz.func35,Tryz.ntmps35;go_upto_region 1 with fail;change Code.wp _ _ _ _ (w.alloc (.cells cs 34));generalize jW:w.heap.size=g1 at*;have aei:=hid jW;clear jW hlt hsz;obtain⟨ni,fQ⟩:∃x,x=w.alloc (.cells cs 34):=⟨_,rfl⟩;rw[<- fQ] at H0 ⊢;clear fQ;have La:ni.cell? ⟨g1,15,none⟩=some (.int .u8 y.what):=H0.out.q.cell 15;have x16:ni.cell? ⟨g1,16,none⟩=some (.string y.cI):=H0.out.q.cell 16;have x17:ni.cell? ⟨g1,17,none⟩=some (.int .i64 y.a):=H0.out.q.cell 17;have x18:ni.cell? ⟨g1,18,none⟩=some (.int .i64 y.b):=H0.out.q.cell 18;have x4:ni.cell? ⟨g1,4,none⟩=some (.int .i64 y.every):=H0.out.q.cell 4;have hq:av ni g1 34 cs:=by rw[U5.out];exact H0.out.q
 go_wp2_with (first
  |(refine wpList_load_row rfl 34 (.tmp 3) rfl g1 rfl 34 cs (0,0) _ hq Tryz.underlying34 rfl HCI.out ?_))
 refine(TT.out ni).mono ?_;rintro e w1 ⟨rfl,b4⟩;have H1:=hid (H0.out.later (by rw[aei.out];exact dy.out) b4);clear b4 H0 hq TT La x16 x17 x18 x4;go_wp2_with fail;refine(aX tt w1 H1.out.st).mono ?_;rintro e w2 ⟨rfl,h2,d2⟩;have H2:=hid (H1.out.next hg1 h2 d2);clear h2 d2 H1;go_wp2_with fail;refine(cn ⟨#[67,82,69,65,84,69,32,74,79,66,32]⟩ w2 H2.out.st Tac Taa).mono ?_;rintro e w3 ⟨rfl,h2,d2⟩;have H3:=hid (H2.out.next hg1 h2 d2);clear h2 d2 H2;have x1:w3.cell? ⟨g1,1,none⟩=some (.string y.name):=H3.out.q.cell 1;go_wp2_with fail;refine(ee hE y.name w3 H3.out.st H3.out.hw Tan Taa).mono ?_;rintro e w4 ⟨rfl,h2,d2⟩;have H4:=hid (H3.out.next hg1 h2 d2);clear h2 d2 H3 x1;have La:w4.cell? ⟨g1,15,none⟩=some (.int .u8 y.what):=H4.out.q.cell 15;go_upto_region 4 with fail;refine wp_region_lit ?_;refine eV rfl 92 rfl ?_;have hM:=iy.new w4;have jn:Below w4.heap.size w4 (w4.alloc (.map #[] 0)):=aa w4 (.map #[] 0);obtain⟨gm,ox⟩:∃gm,gm=w4.heap.size:=⟨_,rfl⟩;rw[<- ox] at hM ⊢;have hle:w4.heap.size<=gm:=Nat.le_of_eq ox.symm;have Lb:=(jn.cell (p:=⟨g1,15,none⟩) (bY La)).trans La;have U6:=hid La;clear ox La;generalize w4.alloc _=W0 at*;obtain⟨X,hX⟩:∃X,X=yz y.what:=⟨_,rfl⟩;have HX:=hid hX;have hXl:X.length<=8:=by rw[hX];exact U4 _
 open zfY in exact ZdW
end Go.Proofs.YtehhdlgjfdnafaaGreatDoor
