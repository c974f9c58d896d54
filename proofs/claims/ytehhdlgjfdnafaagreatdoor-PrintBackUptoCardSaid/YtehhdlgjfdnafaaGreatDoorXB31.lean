/- Parts of the proof. -/
import Derived.Test.YtehhdlgjfdnafaaGreatDoorXB18
namespace Go.Proofs.YtehhdlgjfdnafaaGreatDoor
variable{p:Prop}
set_option maxHeartbeats 90000000
set_option maxRecDepth 100000
open Go.Lib (hid)
open Go.ChangeShapes Go.WideShapes Go.ChangeAt Go.RowKit List
set_option linter.unusedVariables false
set_option linter.unusedSimpArgs false
variable{r:aI}
theorem OG{s:List UInt8} {t:Wd} (ht:gJ s t=true)(ρ:bp)(w:World)(h:ρ.at w (.good (t::r)) false)(b:Nat)(hb:av w b 9 (aP [s]))(hbg:ρ.g≠b):
  Calls Tryz.prog 131 #[ρ.ptr,.slice (some ⟨b,0,none⟩) 1 1] w (CD ρ w (.good r) false):=by have:=Tt ρ w (.good (t::r)) false h [s] b 1 rfl hb hbg Taa;rw[CC,tA (show(dX.good (t::r)).head s=true from ht)] at this;exact this
structure Wb (ρ:bp) (w:World) (q qx:Nat) (wr:World) (l:aI) (t:Tr) (y:Ex):Prop where
 did:iq ρ w wr (.good l) false
 blk:av wr qx 36 (aT y).toArray
 res:av wr q 36 #[.int .u8 0,.int .u8 0,.int .i64 0,.string ⟨#[]⟩,.string ⟨#[]⟩,.int .i64 0,.slice none 0 0]
 tr:t.at_ wr (Bx (q+1) qx wr) y
variable{ρ:bp}{w wr W2:World}{q qx:Nat}{l:aI}{t:Tr}{y:Ex}
theorem Wb.more(A:Wb ρ w q qx wr l t y)(d:iq ρ wr W2 (.good l) false)(h1:ρ.g < q)(h2:q+1<=qx):Wb ρ w q qx W2 l t y:=
 ⟨A.did.trans d,d.blk A.blk Taa,d.blk A.res Taa,Tr.at_.keep (iM d.grown Taa) _ _ A.tr⟩
variable{u:Wd}
theorem zg5.Kb8(h:p:=by
 have HP:=ia et.out y;have HR:=ej HP;unfold gL at HR;obtain⟨r0,r1,r2,r3,r4,r5,r6⟩:=HR;refine bodyPost_ret (v:=dN y) Zci rfl ?_
 ·exact Zgh):p:=h
theorem za5.Kag(h:p:=by open zg5 in exact Zev):p:=h
theorem ziY.Kc0(h:p:=by
 have Ys:=CG 3 3 rfl Tae tk;rw[api.out] at Ys;have e1:(ρ.n:Int) - (dX.good (tk.w::r)).left+1=(ρ.n:Int) - r.length:=by simp only[dX.left,length_cons];omega
 have vU:=hid e1;have akh:=HA.out.did.at_.left;clear hpl hg fA AP hp hr2 e1;open za5 in exact Zaj):p:=h
theorem zej.Ka5(h:p:=by
 have hm1:=iF ρ W _ false A.did.at_ ⟨#[105,115]⟩ his;have api:=hid hop;clear hop his;refine hm1.mono ?_;rintro e w1 ⟨rfl,d1⟩;replace A:=A.more d1 Taa Taa;clear d1 hm1;go_wp2_with fail;have HA:=hid A;clear A;go_loopg [] 0 (λ k wr=>wr=w1);case atStart=>rfl
 case round=>subst hrel;obtain⟨tk,pl,bd,hpl,hlt,aeP,AP,fA,hg,Ai,vv,hp⟩:=HA.out.did.at_.mh;open ziY in exact Zht):p:=h
theorem zcE.Kay(h:p:=by open zej in exact ZbJ):p:=h
theorem ake(his:ar lQ (u::r)=false)(hop:xH 3 u=0)(H:fI 4 l t (u::r)):fI 3 l t (u::r):=by intro ρ w h;have H1:=H;clear H;have bj:=h.nt;have hb:=aa w wR;have h0:=h.later hb;open zcE in exact ZaR
variable{v:Wd}
theorem zek.Ka5(h:p:=by
 have hm1:=xI ρ W (.good (u::v::r)) false A.did.at_ ⟨#[105,115]⟩ his;have O5:=λ W' h'=>iF ρ W' (.good (v::r)) false h' ⟨#[110,111,116]⟩ hn
 have HV:=hid hv;clear hn his hv;have HA:=hid A;clear A;refine hm1.mono ?_;rintro e w1 ⟨rfl,d1⟩;go_wp2_with (first
  |(go_at_call 77;refine(O5 _ d1.at_).mono ?_;rintro e w3 ⟨rfl,d3⟩)
  |(go_at_call 131;refine(OG HV.out ρ _ (d3.at_.later (aa w3 (.cells (aP [bK]) 9))) w3.heap.size (av.new _ _ _) (by have:=d3.lt;omega)).mono ?_;rintro e w4 ⟨rfl,d4⟩;have dd:=(d1.trans (d3.later (aa w3 (.cells (aP [bK]) 9)))).trans d4;have h1:=d1.size;have hx:=HA.out.blk.lt;have B0:=dd.blk HA.out.blk Taa;have R0:=dd.blk HA.out.res Taa;have R1:=R0.alloc (FH y);unfold FH at R1;obtain⟨x0,x1,x2,x3,x4,x5,x6⟩:=ej B0;obtain⟨z0,z1,z2,z3,z4,z5,z6⟩:=gZ R1;obtain⟨y0,y1,y2,y3,y4,y5,y6⟩:=eL R1;have HR1:=hid R1;have qW:=hid R0.lt;clear B0 R0 R1;unfold aT at z0 z1 z2 z3 z4 z5 z6 y0 y1 y2 y3 y4 y5 y6))
 have hx2:=qW.out;have HP:=ia HR1.out (sX 18 w4.heap.size 1);have HR:=ej HP;unfold gL sX sV aT at HR;obtain⟨r0,r1,r2,r3,r4,r5,r6⟩:=HR;refine bodyPost_ret (v:=dN (sX 18 w4.heap.size 1)) Zci rfl ?_
 ·exact QH.put bj (Nat.le_refl _) ((HA.out.did.trans dd).later (aa w4 _)) (yS 18 (av.new w4 36 (aT y).toArray) ⟨by omega,by simp⟩ (Tr.at_.keep (ku (Nat.le_refl _)) _ _ (Tr.at_.keep (gX (aa w4 _)) _ _ (Tr.at_.keep (iM dd.grown Taa) _ _ HA.out.tr))))):p:=h
theorem zcF.Kay(h:p:=by open zek in exact ZbJ):p:=h
theorem aki(his:gJ lQ u=true)(hn:gJ ei v=false)(hv:gJ bK v=true)(H:fI 4 l t (u::v::r)):fI 3 l (nr 18 [t]) r:=by intro ρ w h;have H1:=H;clear H;have bj:=h.nt;have hb:=aa w wR;have h0:=h.later hb;open zcF in exact ZaR
theorem aeR(hc:gJ bk u=false)(n:Nat)(hn:n<=64)(ρ:bp)(w:World)(h:ρ.at w (.good (u::r)) false):
  Calls Tryz.prog 133 #[ρ.ptr,.int .i64 n] w λ e w'=>e=.returned (.bool false)/\iq ρ w w' (.good (u::r)) false:=by have hh:(dX.good (u::r)).head bk=false:=hc;have:=Tu ρ w _ false h n Taa;rw[hh,lH hh,show(false || decide (64 < n))=false by simp;omega] at this;exact this
def SlW (ρ:bp)(w:World)(l:List Tr)(r:aI)(e:Ending)(w':World):Prop:=∃y:Sl,e=.returned (fF y)/\eE.sl w' (eC w.heap.size w') y l/\iq ρ w w' (.good r) false
variable{s:ByteArray}
theorem OI(hs:ar s.data.toList r=false)(ρ:bp)(w:World)(h:ρ.at w (.good r) false):Calls Tryz.prog 135 #[ρ.ptr,.string s] w (SlW ρ w [] r):=by have hm:=iF ρ w _ false h s hs;clear hs;go_enter Tryz.func135,Tryz.ntmps135;go_wp2_with fail;refine hm.mono ?_;rintro e w1 ⟨rfl,d1⟩;go_wp2_with fail;go_ret;exact⟨Sl.nil,rfl,El.mb _ _ _,d1⟩
variable{k:Wd}{x:Tr}
theorem KW(hs:gJ s.data.toList k=true)(H:fI 0 l x r)(ρ:bp)(w:World)(h:ρ.at w (.good (k::l)) false):Calls Tryz.prog 135 #[ρ.ptr,.string s] w (SlW ρ w [x] r):=by have hm:=xI ρ w _ false h s hs;have bj:=h.nt;have HH:=hid H;clear hs H;go_enter Tryz.func135,Tryz.ntmps135;go_wp2_with fail;refine hm.mono ?_;rintro e w1 ⟨rfl,d1⟩;go_wp2_with fail;refine(HH.out ρ _ d1.at_).mono ?_;rintro e w2 ⟨y,rfl,ht,d2⟩;unfold dN aT;go_wp2_with fail;go_ret;have hs:=d1.size;exact⟨⟨some ⟨w2.heap.size,0,none⟩,1,1⟩,rfl,XQ (av.new w2 _ _) ⟨by have:=d2.size;omega,by simp⟩ ((ht.later (aa w2 _)).more hs),(d1.trans d2).later (aa w2 (FH y))⟩
variable{α:Type}
def ElW(E:El α)(val:E.β->Value)(ρ:bp)(W:World)(x:α)(r:aI)(e:Ending)(w':World):Prop:=∃y:E.β,e=.returned (val y)/\E.rel w' (eC W.heap.size w') x y/\iq ρ W w' (.good r) false
variable{m:Wd}
theorem aeS(hk:gJ lR k=true)(hm1:m.k=1)(O5:kO m.s=false)(H:fI 0 l x (k::m::r))(ρ:bp)(w:World)(h:ρ.at w (.good l) false):Calls Tryz.prog 158 #[ρ.ptr] w (ElW iX itV ρ w (x,⟨m.s.toArray⟩) r):=by
 have HK:=hid hk;have HH:=hid H;have HNK:=hid hm1;have HNR:=hid O5;clear hk H hm1 O5;have bj:=h.nt;have hb:=aa w itZ;have h0:=h.later hb;have HQ:=hid (av.new w 51 #[.int .u8 0,.int .u8 0,.int .i64 0,.string ⟨#[]⟩,.string ⟨#[]⟩,.int .i64 0,.slice none 0 0,.string ⟨#[]⟩]);have hsz:(w.alloc itZ).heap.size=w.heap.size+1:=by simp
 unfold itZ at*;go_enter Tryz.func158,Tryz.ntmps158;go_wp2_with fail;refine(HH.out ρ _ h0).mono ?_;rintro e w2 ⟨y,rfl,ht,d2⟩;unfold dN aT;have hs2:=d2.size;go_wp2_with fail;have D3:=((iq.aC h hb).trans d2).later (aa w2 (.cells (MJ (y,⟨#[]⟩)).toArray 51));have HX:=av.new w2 51 (MJ (y,⟨#[]⟩)).toArray;have mD:=(d2.blk HQ.out Taa).alloc (.cells (MJ (y,⟨#[]⟩)).toArray 51);have ht3:=(ht.later (aa w2 (.cells (MJ (y,⟨#[]⟩)).toArray 51))).more (B':=w.heap.size+1) Taa;have htx:=Tr.at_.keep (yR (.cells (MJ (y,⟨#[]⟩)).toArray 51) (show w.heap.size+1<=_ by omega)) _ _ ht;have hs3:(w2.alloc (.cells (MJ (y,⟨#[]⟩)).toArray 51)).heap.size=w2.heap.size+1:=by simp
 unfold MJ aT at D3 HX mD ht3 htx hs3;simp only[cons_append,nil_append] at D3 HX mD ht3 htx hs3;generalize w2.alloc _=W3 at*;have hm:=xI ρ W3 _ false D3.at_ ⟨#[97,115]⟩ HK.out;clear h0 hb HQ ht d2;refine hm.mono ?_;rintro e w4 ⟨rfl,d4⟩;go_wp2_with fail;refine(OH HNK.out HNR.out ρ _ d4.at_).mono ?_;rintro e w5 ⟨n,hn,rfl,d5⟩;have HNN:=hid hn;clear hn;have MN:=d4.size;have FQ:=d5.blk (d4.blk HX Taa) Taa;have hx2:=HX.lt;have HX6:=FQ.cC 7 (.string n);simp only[setIfInBounds_toArray,set_cons_zero,set_cons_succ] at HX6;have hxf:=FQ.frozen 7;have hxc:=FQ.cell 7;have EG:=(d5.blk (d4.blk mD Taa) Taa).far (p:=⟨w2.heap.size,7,none⟩) Tad (.string n);have D6:=((D3.trans d4).trans d5).far bj (show w.heap.size<=w2.heap.size by omega) 7 (.string n);have HT6:=hid (Tr.at_.keep (ku (Nat.le_refl _)) _ _ (Tr.at_.keep (Nw 7 (.string n)) _ _ (Tr.at_.keep (iM d5.grown Taa) _ _ (Tr.at_.keep (iM d4.grown Taa) _ _ htx))));have MF:=hid D6;have HQQ:=hid EG;obtain⟨x0,x1,x2,x3,x4,x5,x6,x7⟩:=jt HX6;obtain⟨y0,y1,y2,y3,y4,y5,y6,y7⟩:=jt EG;obtain⟨z0,z1,z2,z3,z4,z5,z6,z7⟩:=rB EG;clear FQ HX6 EG HX mD ht3 D3 d4 hm d5 D6 hx2;go_wp2_with fail;have HP:=XR HQQ.out y (.string n);have HR:=jt HP;unfold Iq gL at HR;obtain⟨r0,r1,r2,r3,r4,r5,r6,r7⟩:=HR;refine bodyPost_ret (v:=itV (y,n)) ?_ rfl ?_
 ·simp[results,Tryz.results158,go_sem,r0,r1,r2,r3,r4,r5,r6,r7];rfl
 ·rw[<- HNN.out];exact⟨(y,n),rfl,⟨(HT6.out.Iq (Nat.lt_succ_self _) y (.string n)).more Taa,rfl⟩,MF.out.Iq bj (Nat.le_refl _) y (.string n)⟩
variable{Ws w3:World}{t' t2:Tr}{y' v2:Ex}{l0:aI}{bi:Int}
theorem Wb.goes(bj:ρ.g < w.heap.size)(Ei:q=w.heap.size)(hqq:q+1<=qx)(A:Wb ρ w q qx wr l0 t' y')(hW:Below wr.heap.size wr W2)(hst:iq ρ W2 Ws (.good l) false)(d2:iq ρ Ws w3 (.good r) false)
  (QI:t2.at_ w3 (eC Ws.heap.size w3) v2):
  Wb ρ w q qx (gL ((w3.alloc (FH v2)).alloc (EB y' v2)) qx (sX bi (w3.heap.size+1) 2)) r (nr bi [t',t2]) (sX bi (w3.heap.size+1) 2):=by
 have hz1:=d2.size;have hz2:=hst.size;have hz3:=hW.size;have hqb:=A.blk.lt;have xq:Below w3.heap.size w3 ((w3.alloc (FH v2)).alloc (EB y' v2)):=af.then (aa w3 _) (aa _ _);have hsz:((w3.alloc (FH v2)).alloc (EB y' v2)).heap.size=w3.heap.size+2:=by simp
 have hN:av ((w3.alloc (FH v2)).alloc (EB y' v2)) (w3.heap.size+1) 36 (aT y'++aT v2).toArray:=by have:=av.new (w3.alloc (FH v2)) 36 (aT y'++aT v2).toArray;rw[World.size_alloc] at this;exact this
 have hX:av ((w3.alloc (FH v2)).alloc (EB y' v2)) qx 36 (aT y').toArray:=(((A.blk.later hW).grown hst.grown Tad).grown d2.grown Tad).later xq;have hR:av ((w3.alloc (FH v2)).alloc (EB y' v2)) q 36 _:=(((A.res.later hW).grown hst.grown Tad).grown d2.grown Tad).later xq;have hD:iq ρ w ((w3.alloc (FH v2)).alloc (EB y' v2)) (.good r) false:=(((A.did.later hW).trans hst).trans d2).later xq
 have hT:(nr bi [t',t2]).at_ ((w3.alloc (FH v2)).alloc (EB y' v2)) (Bx (q+1) qx ((w3.alloc (FH v2)).alloc (EB y' v2))) (sX bi (w3.heap.size+1) 2):=by
  refine Nx bi hN ⟨by omega,by omega,by omega⟩ ?_ ?_
  ·exact Tr.at_.keep (gX xq) _ _ (Tr.at_.keep (iM d2.grown Taa) _ _ (Tr.at_.keep (iM hst.grown Taa) _ _ (Tr.at_.keep (gX hW) _ _ A.tr)))
  ·exact Tr.at_.keep (Qh Taa Taa) _ _ (QI.later xq)
 generalize (w3.alloc (FH v2)).alloc (EB y' v2)=W5 at*;exact⟨hD.gL bj Taa _,ia hX _,Tw hR Taa _,Tr.at_.keep (acd (S:=λ w=>Bx (q+1) qx w) (λ w i u=>Nw i u) _) _ _ hT⟩
variable{l2:aI}{o:Wd}
theorem za6.Kag(h:p:=by
 obtain⟨hb1,hb2,hb3⟩:=HB0.out;have e0:(bi==0)=false:=by rw[beq_eq_false_iff_ne];omega
 have pD:=HA.out.did.at_.later hW;obtain⟨q0,q1,q2,q3,f1,f2,f3⟩:=pD.facts;have e1:=vU.out;have hst:=bp.at.step pD HK0.out;have Ep:l2.length+1<=ρ.n:=by have:=pD.left;have e2:(dX.good (tk.w::l2)).left=l2.length+1:=rfl;omega
 clear pD q0 q2 q3 f2 f3;go_wp2_with (first
  |(go_at_call 163;refine(HH2.out ρ _ hst.at_).mono ?_;rintro e w3 ⟨v2,rfl,QI,d2⟩;unfold dN aT;have hz1:=d2.size;have hz2:=hst.size;have hz3:=hW.size;have B0:=((HA.out.blk.later hW).grown hst.grown Tad).grown d2.grown Tad;have B1:=B0.alloc (.cells #[.int .u8 v2.op,.int .u8 v2.v.k,.int .i64 v2.v.n,.string v2.v.s,.string v2.name,.int .i64 v2.width,.slice v2.A v2.n v2.c] 36);have B2:=B1.alloc (.cells #[.int .u8 y.op,.int .u8 y.v.k,.int .i64 y.v.n,.string y.v.s,.string y.name,.int .i64 y.width,.slice y.A y.n y.c,.int .u8 v2.op,.int .u8 v2.v.k,.int .i64 v2.v.n,.string v2.v.s,.string v2.name,.int .i64 v2.width,.slice v2.A v2.n v2.c] 36);have N1:=av.new w3 36 (aT v2).toArray;have X1:=ej B1;have X2:=ej B2;have X3:=gZ B2;have X4:=ej N1;unfold aT at X4;obtain⟨x0,x1,x2,x3,x4,x5,x6⟩:=X1;obtain⟨y0,y1,y2,y3,y4,y5,y6⟩:=X2;obtain⟨z0,z1,z2,z3,z4,z5,z6⟩:=X3;obtain⟨a0,a1,a2,a3,a4,a5,a6⟩:=X4;have qc:=hid B2;clear B0 B1 B2 N1))
 go_roundg 0;case measure=>have:=FP.out;omega
 case rel=>exact .inr ⟨_,rfl,Wb.goes bj rfl JM HA.out hW hst d2 QI⟩):p:=h
theorem zg6.Kb8(h:p:=by
 have HP:=ia et.out y';have HR:=ej HP;unfold gL at HR;obtain⟨r0,r1,r2,r3,r4,r5,r6⟩:=HR;refine bodyPost_ret (v:=dN y') Zci rfl ?_
 ·exact Zgh):p:=h
theorem za7.Kag(h:p:=by open zg6 in exact Zev):p:=h
theorem zfI.Kbz(h:p:=by
 have e1:(ρ.n:Int) - (dX.good (tk.w::l2)).left+1=(ρ.n:Int) - l2.length:=by simp only[dX.left,length_cons];omega
 have vU:=hid e1;clear hpl hg fA AP hp hr2 e1;rw[Yr.out] at Ys;open za6 in exact Zaj):p:=h
theorem zfJ.Kbz(h:p:=by
 have e1:(ρ.n:Int) - (dX.good (tk.w::r)).left+1=(ρ.n:Int) - r.length:=by simp only[dX.left,length_cons];omega
 have vU:=hid e1;clear hpl hg fA AP hp hr2 e1;rw[HOU.out] at Ys;open za7 in exact Zaj):p:=h
theorem zgS.Kb3(h:p:=by
 have HBZ:=hid (λ tk=>CG lv z hz Taa tk);have Yr:=hid hop;have HOU:=hid hou;have HB0:=hid hb0;have HK0:=hid Ic;have HH:=hid H;have HH2:=hid H2;clear hlv hz hop hou hb0 Ic H H2;unfold wR at*;unfold bp.ptr;go_enter Tryz.func163,Tryz.ntmps163;go_wp2_with (first
  |(go_at_call 163;refine(HH.out ρ _ h0).mono ?_;rintro e w2 ⟨y,rfl,ht,d2⟩;unfold dN aT))
 have hA:Wb ρ w w.heap.size w2.heap.size (w2.alloc (.cells #[.int .u8 y.op,.int .u8 y.v.k,.int .i64 y.v.n,.string y.v.s,.string y.name,.int .i64 y.width,.slice y.A y.n y.c] 36)) _ t y:=
  ⟨((iq.aC h hb).trans d2).later (aa _ _),av.new w2 _ _,(d2.blk HQ.out Taa).alloc _,Tr.at_.keep (yR _ (by rw[hsz];exact Nat.le_refl _)) _ _ ht⟩
 have JM:w.heap.size+1<=w2.heap.size:=by have:=d2.size;omega
 generalize w2.alloc _=W at*;generalize w2.heap.size=qx at*;have HA:=hid hA;clear hA ht d2 h0 hb HQ;go_loopg [] 1 (λ k wr=>(k=1/\Wb ρ w w.heap.size qx wr (o::l2) t y)\/∃y',k=0/\Wb ρ w w.heap.size qx wr (u::r) (nr bi [t,t2]) y');case atStart=>exact .inl ⟨rfl,HA.out⟩
 case round=>
  rcases hrel with ⟨AB,hA'⟩|⟨y',AB,hA'⟩
  ·have FP:=hid AB;open zfI in exact ZcW
  ·open zfJ in exact ZcW):p:=h
theorem zcG.Kay(h:p:=by open zgS in exact Zem):p:=h
theorem Yw(lv:Nat)(hlv:lv=0\/lv=1\/lv=4\/lv=5)   (bi:Int)(hb0:bi≠0/\0<=bi/\bi < 256)(Ic:o.k≠0)(hop:xH lv o=bi)(hou:xH lv u=0)(H:fI ((lv:Int)+1) l t (o::l2))(H2:fI ((lv:Int)+1) l2 t2 (u::r)):fI lv l (nr bi [t,t2]) (u::r):=by intro ρ w h;obtain⟨z,hz⟩:∃z:Int,z=lv:=⟨_,rfl⟩;rw[<- hz] at H H2 ⊢;have bj:=h.nt;have hb:=aa w wR;have h0:=h.later hb;open zcG in exact ZaR
variable{β:Type}{R:α->β->Prop}
theorem iV{l:List α} {m:List β}(h:fE R l m):∀ {i:Nat} {x:α} {y:β},l[i]?=some x->m[i]?=some y->R x y:=by
 induction h with
 | nil=>intro i x y h;simp at h
 | cons a _ ih=>
   intro i x y h k
   cases i with
   | zero=>simp at h k;subst h k;exact a
   | succ i=>exact ih Tam (by simpa using k)
def QuT (w:World)(y z:lB):Prop:=∀W,Below w.heap.size w W->Calls Tryz.prog 32 #[Hv y,Hv z] W λ e w'=>e=.returned (.bool true)/\Below W.heap.size W w'
structure Qu.I5 (q:Qu):Prop where
 items:q.items.length<=1000000000
 order:q.order.length<=1000000000
 aG:q.aG.length<=1000000000
 aR:q.aR.length<=1000000000
 group:q.group.length<=1000000000
 having:q.having.length<=1000000000
 agu:∀t∈q.items,t.1.thin
 agv:∀t∈q.order,t.1.thin
 agw:Tr.ix q.aR
 agx:Tr.ix q.group
 abg:Tr.ix q.having
variable{S S2:Nat->Prop}{z:lB}
theorem zgk.KbQ(h:p:=by
 have f0:(ua.toList != ua.toList)=false:=by simp
 unfold dN aT at Bc;clear hcell bY hc hc2 hx hu ht hwr r1 r2;subst kR zQ;go_upto_region 6 with fail;clear x0 z0;exact ZaK):p:=h
theorem zdG.KaT(h:p:=by
 have m7:=λ q:Ext wr.heap.size wr=>(q.h.cell (p:=⟨b2,fG+i*8+7,none⟩) il).trans (bY 7 (.string u.2) rfl)
 have p2:=λ q:Ext wr.heap.size wr=>(q.h.cell (p:=⟨QX,0,none⟩) (HX.out.later iE).lt).trans x0
 have p3:=λ q:Ext wr.heap.size wr=>(q.h.cell (p:=⟨QZ,0,none⟩) (HZ.out.later iE).lt).trans z0
 have E2:=hid (abo.out t (mem_of_getElem? ht));open zgk in exact ZdE):p:=h
theorem zds.KaN(h:p:=by
 have k7:=λ q:Ext wr.heap.size wr=>(q.h.cell (p:=⟨b,off+i*8+7,none⟩) nj).trans (hcell 7 (.string x.2) rfl)
 open zdG in exact Zbl):p:=h
theorem zgl.KbQ(h:p:=by
 have f0:(ua != ua)=false:=by simp
 unfold dN aT at Bc;clear hcell bY hc hc2 hx hu ht hwr r1 r2;subst kR zQ;go_upto_region 11 with fail;clear x6 z6;exact ZaK):p:=h
theorem zdH.KaT(h:p:=by
 have m7:=λ q:Ext wr.heap.size wr=>(q.h.cell (p:=⟨b2,fG+i*8+7,none⟩) il).trans (bY 7 (.bool u.2) rfl)
 have p2:=λ q:Ext wr.heap.size wr=>(q.h.cell (p:=⟨QX,6,none⟩) (HX.out.later iE).lt).trans x6
 have p3:=λ q:Ext wr.heap.size wr=>(q.h.cell (p:=⟨QZ,6,none⟩) (HZ.out.later iE).lt).trans z6
 have E2:=hid (abp.out t (mem_of_getElem? ht));open zgl in exact ZdE):p:=h
theorem zdt.KaN(h:p:=by
 have k7:=λ q:Ext wr.heap.size wr=>(q.h.cell (p:=⟨b,off+i*8+7,none⟩) nj).trans (hcell 7 (.bool x.2) rfl)
 open zdH in exact Zbl):p:=h
theorem zdE.KaS(h:p:=by
 go_wp2_with fail;refine(HGR.out _ (EW.out.trans (hb1.mono EW.out.size))).mono ?_;rintro e V2 ⟨rfl,b2⟩;have hb2:=af.then hb1 b2;replace x0:=(b2.cell (ax x0)).trans x0;replace z0:=(b2.cell (ax z0)).trans z0;replace x1:=(b2.cell (ax x1)).trans x1;replace z1:=(b2.cell (ax z1)).trans z1;replace x2:=(b2.cell (ax x2)).trans x2;replace z2:=(b2.cell (ax z2)).trans z2;replace x3:=(b2.cell (ax x3)).trans x3;replace z3:=(b2.cell (ax z3)).trans z3;replace x4:=(b2.cell (ax x4)).trans x4;replace z4:=(b2.cell (ax z4)).trans z4;replace x5:=(b2.cell (ax x5)).trans x5;replace z5:=(b2.cell (ax z5)).trans z5;replace x6:=(b2.cell (ax x6)).trans x6;replace z6:=(b2.cell (ax z6)).trans z6;replace x7:=(b2.cell (ax x7)).trans x7;replace z7:=(b2.cell (ax z7)).trans z7;go_wp2_with fail;refine(HHA.out _ (EW.out.trans (hb2.mono EW.out.size))).mono ?_;rintro e V3 ⟨rfl,b3⟩;have hb3:=af.then hb2 b3;clear x0 z0 x1 z1 x2 z2 x3 z3 x4 z4 x5 z5 x6 z6 x7 z7;go_wp2_with fail;clear e0 e1 e2 e3 e4 e5 e6 e7;go_loopw [5] (λ iv wr=>∃i:Nat,i<=fQ/\iv=.int .i64 i/\Below W1.heap.size W1 wr) (λ iv _=>fQ - (intOf iv).toNat);case atStart=>exact⟨0,Nat.zero_le _,rfl,hb3⟩
 case round=>
  obtain⟨i,hi,rfl,iE⟩:=hrel;have x0:=(HX.out.later iE).cell 0;have z0:=(HZ.out.later iE).cell 0;simp only[Uaa] at x0 z0;have mR:=hid iE;by_cases hlt:i < fQ
  ·obtain⟨x,hx⟩:∃x:Ex×ByteArray,I6[i]?=some x:=⟨_,getElem?_eq_getElem (by have h1:=BH.out;have h2:=Mo.out.len;omega)⟩;obtain⟨u,hu⟩:∃u:Ex×ByteArray,I7[i]?=some u:=⟨_,getElem?_eq_getElem (by have h1:=BH.out;have h2:=Mp.out.len;omega)⟩;obtain⟨t,ht⟩:∃t,RM[i]?=some t:=⟨_,getElem?_eq_getElem (by have h1:=BH.out;omega)⟩;have r1:=iV Mo.out ht hx;have r2:=iV Mp.out ht hu;have hwr:Below w.heap.size w wr:=EW.out.trans (iE.mono EW.out.size);rcases abh.out with h0 |⟨b,off,kR,jP,hc⟩
   ·exact ZgY
   rcases abj.out with h0 |⟨b2,fG,zQ,qO,hc2⟩
   ·exact ZgZ
   open zds in exact Zbf
  ·obtain rfl:i=fQ:=by omega
   go_wp2_with fail;clear x0 z0 iE;go_loopw [6] (λ iv wr=>∃i:Nat,i<=fR/\iv=.int .i64 i/\Below W1.heap.size W1 wr) (λ iv _=>fR - (intOf iv).toNat);case atStart=>exact ZfU
   case round=>
    obtain⟨i,hi,rfl,iE⟩:=hrel;have x6:=(HX.out.later iE).cell 6;have z6:=(HZ.out.later iE).cell 6;simp only[Uaa] at x6 z6;have mR:=hid iE;by_cases hlt:i < fR
    ·obtain⟨x,hx⟩:∃x:Ex×Bool,I8[i]?=some x:=⟨_,getElem?_eq_getElem (by have h1:=BI.out;have h2:=Mq.out.len;omega)⟩;obtain⟨u,hu⟩:∃u:Ex×Bool,I9[i]?=some u:=⟨_,getElem?_eq_getElem (by have h1:=BI.out;have h2:=Mr.out.len;omega)⟩;obtain⟨t,ht⟩:∃t,RN[i]?=some t:=⟨_,getElem?_eq_getElem (by have h1:=BI.out;omega)⟩;have r1:=iV Mq.out ht hx;have r2:=iV Mr.out ht hu;have hwr:Below w.heap.size w wr:=EW.out.trans (iE.mono EW.out.size);rcases abk.out with h0 |⟨b,off,kR,jP,hc⟩
     ·exact ZgY
     rcases abl.out with h0 |⟨b2,fG,zQ,qO,hc2⟩
     ·exact ZgZ
     open zdt in exact Zbf
    ·obtain rfl:i=fR:=by omega
     go_wp2_with fail;clear x6 z6 iE;go_loopw [7] (λ iv wr=>∃i:Nat,i<=fS/\iv=.int .i64 i/\Below W1.heap.size W1 wr) (λ iv _=>fS - (intOf iv).toNat);case atStart=>exact ZfU
     case round=>
      obtain⟨i,hi,rfl,iE⟩:=hrel;have x7:=(HX.out.later iE).cell 7;have z7:=(HZ.out.later iE).cell 7;simp only[Uaa] at x7 z7;have mR:=hid iE;by_cases hlt:i < fS
      ·obtain⟨x,hx⟩:∃x:Int,J0[i]?=some x:=⟨_,getElem?_eq_getElem (by have h1:=BJ.out;have h2:=Ms.out.len;omega)⟩;obtain⟨u,hu⟩:∃u:Int,J1[i]?=some u:=⟨_,getElem?_eq_getElem (by have h1:=BJ.out;have h2:=Mt.out.len;omega)⟩;obtain⟨t,ht⟩:∃t,RO[i]?=some t:=⟨_,getElem?_eq_getElem (by have h1:=BJ.out;omega)⟩;have r1:=iV Ms.out ht hx;have r2:=iV Mt.out ht hu;have hwr:Below w.heap.size w wr:=EW.out.trans (iE.mono EW.out.size);rcases abm.out with h0 |⟨b,off,kR,jP,hc⟩
       ·exact ZgY
       rcases abn.out with h0 |⟨b2,fG,zQ,qO,hc2⟩
       ·exact ZgZ
       have nj:b < wr.heap.size:=Nat.lt_of_lt_of_le (hS b jP) hwr.size;have il:b2 < wr.heap.size:=Nat.lt_of_lt_of_le (uZ b2 qO) hwr.size;have hcell:=λ j v hv=>(hwr.cell (p:=⟨b,off+i*1+j,none⟩) (hS b jP)).trans (hc i x j v hx hv)
       have bY:=λ j v hv=>(hwr.cell (p:=⟨b2,fG+i*1+j,none⟩) (uZ b2 qO)).trans (hc2 i u j v hu hv)
       have k0':=hcell 0 (.int .i64 x) rfl;simp only[Nat.mul_one,Nat.add_zero] at k0';have k0:=λ q:Ext wr.heap.size wr=>(q.h.cell (p:=⟨b,off+i,none⟩) nj).trans k0'
       clear k0';have m0':=bY 0 (.int .i64 u) rfl;simp only[Nat.mul_one,Nat.add_zero] at m0';have m0:=λ q:Ext wr.heap.size wr=>(q.h.cell (p:=⟨b2,fG+i,none⟩) il).trans m0'
       clear m0';have p2:=λ q:Ext wr.heap.size wr=>(q.h.cell (p:=⟨QX,7,none⟩) (HX.out.later iE).lt).trans x7
       have p3:=λ q:Ext wr.heap.size wr=>(q.h.cell (p:=⟨QZ,7,none⟩) (HZ.out.later iE).lt).trans z7
       have heq:u=x:=by rw[show x=t from r1,show u=t from r2]
       subst heq;have f0:(u != u)=false:=by simp
       clear hcell bY hc hc2 hx hu ht hwr r1 r2;subst kR zQ;go_upto_region 16 with fail;clear x7 z7;refine ep 11 wr.heap.size wr (Below.refl _ _) Tac Tac Tac Tac ?_;simp only[Uab];repeat (go_big_quiet_step (fail))
       refine wpQuiet_nil ?_;rintro V4 ⟨x9,CM⟩;have vw:=x9.h;rw[<- CM] at vw;have hb1:=af.then mR.out vw;clear CM x9 k0 m0 p2 p3 vw f0;exact ZbW
      ·obtain rfl:i=fS:=by omega
       exact ZfV):p:=h
theorem zfQ.KbD(h:p:=by
 simp only[Uaa] at x0 z0 x1 z1 x2 z2 x3 z3 x4 z4 x5 z5 x6 z6 x7 z7;have e0:(aK.toList != aK.toList)=false:=by simp
 have e1:(only != only)=false:=by simp
 have e2:((fQ:Int) !=(fQ:Int))=false:=by simp
 have e3:((fR:Int) !=(fR:Int))=false:=by simp
 have e4:((fS:Int) !=(fS:Int))=false:=by simp
 have e5:(fQ != fQ)=false:=by simp
 have e6:(fR != fR)=false:=by simp
 have e7:(fS != fS)=false:=by simp
 go_upto_region 1 with fail;change Code.wp _ _ _ _ ((W.alloc (.cells #[.slice yf fQ yg,.string aK,.bool only,.slice ue kj uf,.slice yh mG yi,.slice ug km uh,.slice yj fR yl,.slice ym fS yo] 28)).alloc (.cells #[.slice ui fQ uj,.string aK,.bool only,.slice oM kj oO,.slice uk mG um,.slice qQ km qR,.slice uo fR uq,.slice ur fS uu] 28));open zdE in exact Zbk):p:=h
theorem Mn(hS:∀b,S b->b < w.heap.size)(uZ:∀b,S2 b->b < w.heap.size) {q:Qu} {y:lB}(h:q.at_ w S y)(h2:q.at_ w S2 z)(hs:q.I5):QuT w y z:=by
 intro W hW;have HWH:=hid (DN hS uZ h.aR h2.aR hs.agw hs.aR);have HGR:=hid (DN hS uZ h.group h2.group hs.agx hs.group);have HHA:=hid (DN hS uZ h.having h2.having hs.abg hs.having);obtain⟨xX,I6,Rw,Rx⟩:=h.items;obtain⟨tV,I7,Ry,Rz⟩:=h2.items;have abh:=hid Rw;have abj:=hid Ry;have Mo:=hid Rx;have Mp:=hid Rz;obtain⟨xY,I8,RA,RB⟩:=h.order;obtain⟨tW,I9,RD,RF⟩:=h2.order;have abk:=hid RA;have abl:=hid RD;have Mq:=hid RB;have Mr:=hid RF;obtain⟨xZ,J0,RG,RH⟩:=h.aG;obtain⟨tX,J1,RI,RJ⟩:=h2.aG;have abm:=hid RG;have abn:=hid RI;have Ms:=hid RH;have Mt:=hid RJ;obtain⟨tY,_⟩:=h.aR;obtain⟨oL,_⟩:=h2.aR;obtain⟨ye,_⟩:=h.group;obtain⟨tZ,_⟩:=h2.group;obtain⟨ud,_⟩:=h.having;obtain⟨qP,_⟩:=h2.having;have YA:=h.aK.symm;have adE:=h2.aK.symm;have adF:=h.only.symm;have J2:=h2.only.symm;have abo:=hid hs.agu;have abp:=hid hs.agv;have bI:=hs.items;have bO:=hs.order;have bL:=hs.aG;clear h h2 hs;obtain⟨RM,aK,only,J3,abq,J4,RN,RO⟩:=q;obtain⟨⟨yf,anq,yg⟩,axI,ata,⟨ue,atb,uf⟩,⟨yh,anr,yi⟩,⟨ug,alW,uh⟩,⟨yj,ans,yl⟩,⟨ym,ant,yo⟩⟩:=y;obtain⟨⟨ui,alX,uj⟩,axJ,atc,⟨oM,agy,oO⟩,⟨uk,alY,um⟩,⟨qQ,ahQ,qR⟩,⟨uo,alZ,uq⟩,⟨ur,ama,uu⟩⟩:=z;simp only at YA adE adF J2 bI bO bL xX tV tY oL ye tZ ud qP xY tW xZ tX;subst YA adE adF J2;obtain⟨fQ,Jv⟩:∃n:Nat,n=RM.length:=⟨_,rfl⟩;rw[<- Jv] at xX tV;replace xX:=xX.symm;replace tV:=tV.symm;subst xX tV;have BH:=hid Jv;clear Jv;obtain⟨kj,DO⟩:∃n:Nat,n=J3.length:=⟨_,rfl⟩;rw[<- DO] at tY oL;replace tY:=tY.symm;replace oL:=oL.symm;subst tY oL;have amb:=hid DO;clear DO;obtain⟨mG,Jw⟩:∃n:Nat,n=abq.length:=⟨_,rfl⟩;rw[<- Jw] at ye tZ
 replace ye:=ye.symm;replace tZ:=tZ.symm;subst ye tZ;have anu:=hid Jw;clear Jw;obtain⟨km,DR⟩:∃n:Nat,n=J4.length:=⟨_,rfl⟩;rw[<- DR] at ud qP;replace ud:=ud.symm;replace qP:=qP.symm;subst ud qP;have amc:=hid DR;clear DR;obtain⟨fR,Jx⟩:∃n:Nat,n=RN.length:=⟨_,rfl⟩;rw[<- Jx] at xY tW;replace xY:=xY.symm;replace tW:=tW.symm;subst xY tW;have BI:=hid Jx;clear Jx;obtain⟨fS,Jy⟩:∃n:Nat,n=RO.length:=⟨_,rfl⟩;rw[<- Jy] at xZ tX;replace xZ:=xZ.symm;replace tX:=tX.symm;subst xZ tX;have BJ:=hid Jy;clear Jy Rw Ry Rx Rz RA RD RB RF RG RI RH RJ;rw[<- BH.out] at bI;rw[<- BI.out] at bO;rw[<- BJ.out] at bL;show Calls Tryz.prog 32 #[.agg #[.slice yf fQ yg,.string aK,.bool only,.slice ue kj uf,.slice yh mG yi,.slice ug km uh,.slice yj fR yl,.slice ym fS yo],.agg #[.slice ui fQ uj,.string aK,.bool only,.slice oM kj oO,.slice uk mG um,.slice qQ km qR,.slice uo fR uq,.slice ur fS uu]] W _;go_enter Tryz.func32,Tryz.ntmps32;have hX:=(av.new W 28 #[.slice yf fQ yg,.string aK,.bool only,.slice ue kj uf,.slice yh mG yi,.slice ug km uh,.slice yj fR yl,.slice ym fS yo]).alloc (.cells #[.slice ui fQ uj,.string aK,.bool only,.slice oM kj oO,.slice uk mG um,.slice qQ km qR,.slice uo fR uq,.slice ur fS uu] 28);have hZ:=av.new (W.alloc (.cells #[.slice yf fQ yg,.string aK,.bool only,.slice ue kj uf,.slice yh mG yi,.slice ug km uh,.slice yj fR yl,.slice ym fS yo] 28)) 28 #[.slice ui fQ uj,.string aK,.bool only,.slice oM kj oO,.slice uk mG um,.slice qQ km qR,.slice uo fR uq,.slice ur fS uu];rw[World.size_alloc] at hZ;have hB:=af.then (aa W (.cells #[.slice yf fQ yg,.string aK,.bool only,.slice ue kj uf,.slice yh mG yi,.slice ug km uh,.slice yj fR yl,.slice ym fS yo] 28)) (aa _ (.cells #[.slice ui fQ uj,.string aK,.bool only,.slice oM kj oO,.slice uk mG um,.slice qQ km qR,.slice uo fR uq,.slice ur fS uu] 28))
 open zfQ in exact Zc9
def StT (w:World)(y z:fl):Prop:=∀W,Below w.heap.size w W->Calls Tryz.prog 15 #[ji y,ji z] W λ e w'=>e=.returned (.bool true)/\Below W.heap.size W w'
structure St.I5 (s:St):Prop where
 aJ:s.aJ.length<=1000000000
 rows:s.rows.length<=1000000000
 aS:s.aS.length<=1000000000
 aR:s.aR.length<=1000000000
 agw:Tr.ix s.aR
 ame:∀r∈s.rows,Tr.ix r/\r.length<=1000000000
 amf:∀t∈s.aS,t.2.thin
 query:s.query.I5
theorem zgy.KbV(h:p:=by refine wpQuiet_nil ?_;rintro V4 ⟨x9,CM⟩;have vw:=x9.h;rw[<- CM] at vw;have hb1:=af.then mR.out vw;clear CM x9 k0 m0 k1 m1 p2 p3 vw f0 f1;exact ZbW):p:=h
theorem zfd.Kbm(h:p:=by
 have hcell:=λ j v hv=>(hwr.cell (p:=⟨b,off+i*2+j,none⟩) (hS b jP)).trans (hc i x j v hx hv)
 have bY:=λ j v hv=>(hwr.cell (p:=⟨b2,fG+i*2+j,none⟩) (uZ b2 qO)).trans (hc2 i u j v hu hv)
 have k0:=λ q:Ext wr.heap.size wr=>(q.h.cell (p:=⟨b,off+i*2,none⟩) nj).trans (hcell 0 (.string x.1) rfl)
 have k1:=λ q:Ext wr.heap.size wr=>(q.h.cell (p:=⟨b,off+i*2+1,none⟩) nj).trans (hcell 1 (.int .u8 x.2) rfl)
 have m0:=λ q:Ext wr.heap.size wr=>(q.h.cell (p:=⟨b2,fG+i*2,none⟩) il).trans (bY 0 (.string u.1) rfl)
 have m1:=λ q:Ext wr.heap.size wr=>(q.h.cell (p:=⟨b2,fG+i*2+1,none⟩) il).trans (bY 1 (.int .u8 u.2) rfl)
 have p2:=λ q:Ext wr.heap.size wr=>(q.h.cell (p:=⟨QX,2,none⟩) (HX.out.later iE).lt).trans x2
 have p3:=λ q:Ext wr.heap.size wr=>(q.h.cell (p:=⟨QZ,2,none⟩) (HZ.out.later iE).lt).trans z2
 have heq:u=x:=by rw[show x=t from r1,show u=t from r2]
 subst heq;obtain⟨ua,ub⟩:=u;have f0:(ua.toList==ua.toList)=true:=by simp
 have f1:(ub==ub)=true:=by simp
 clear hcell bY hc hc2 hx hu ht hwr r1 r2;subst kR zQ;go_upto_region 6 with fail;clear x2 z2;refine ep 11 wr.heap.size wr (Below.refl _ _) Tac Tac Tac Tac ?_;open zgy in exact Zd8):p:=h
theorem zgz.KbV(h:p:=by
 go_big_quiet_step ((go_at_call 31;exact ft (Nat.le_refl _) (Bc _)));repeat (go_big_quiet_step (fail))
 refine wpQuiet_nil ?_;rintro V4 ⟨x9,CM⟩;have vw:=x9.h;rw[<- CM] at vw;have hb1:=af.then mR.out vw;clear CM x9 k0 m0 p2 p3 vw Bc;exact ZbW):p:=h
theorem zfe.Kbm(h:p:=by
 have hcell:=λ j v hv=>(hwr.cell (p:=⟨b,off+i*1+j,none⟩) (hS b jP)).trans (hc i x j v hx hv)
 have bY:=λ j v hv=>(hwr.cell (p:=⟨b2,fG+i*1+j,none⟩) (uZ b2 qO)).trans (hc2 i u j v hu hv)
 have k0':=hcell 0 (.slice x.A x.n x.c) rfl;simp only[Nat.mul_one,Nat.add_zero] at k0';have k0:=λ q:Ext wr.heap.size wr=>(q.h.cell (p:=⟨b,off+i,none⟩) nj).trans k0'
 clear k0';have m0':=bY 0 (.slice u.A u.n u.c) rfl;simp only[Nat.mul_one,Nat.add_zero] at m0';have m0:=λ q:Ext wr.heap.size wr=>(q.h.cell (p:=⟨b2,fG+i,none⟩) il).trans m0'
 clear m0';have p2:=λ q:Ext wr.heap.size wr=>(q.h.cell (p:=⟨QX,19,none⟩) (HX.out.later iE).lt).trans wj
 have p3:=λ q:Ext wr.heap.size wr=>(q.h.cell (p:=⟨QZ,19,none⟩) (HZ.out.later iE).lt).trans P7
 have E2:=agH.out t (mem_of_getElem? ht);have Bc:=λ q:Ext wr.heap.size wr=>DN hS uZ r1 r2 E2.1 E2.2 q.w (hwr.trans (q.h.mono hwr.size))
 clear E2 hcell bY hc hc2 hx hu ht hwr r1 r2;subst kR zQ;go_upto_region 11 with fail;clear wj P7;refine ep 12 wr.heap.size wr (Below.refl _ _) Tac Tac Tac Tac ?_;open zgz in exact Zd8):p:=h
theorem zhK.Kcr(h:p:=by
 have k0:=λ q:Ext wr.heap.size wr=>(q.h.cell (p:=⟨b,off+i*8,none⟩) nj).trans (hcell 0 (.string x.1) rfl)
 have k1:=λ q:Ext wr.heap.size wr=>(q.h.cell (p:=⟨b,off+i*8+1,none⟩) nj).trans (hcell 1 (.int .u8 x.2.op) rfl)
 have k2:=λ q:Ext wr.heap.size wr=>(q.h.cell (p:=⟨b,off+i*8+2,none⟩) nj).trans (hcell 2 (.int .u8 x.2.v.k) rfl)
 have k3:=λ q:Ext wr.heap.size wr=>(q.h.cell (p:=⟨b,off+i*8+3,none⟩) nj).trans (hcell 3 (.int .i64 x.2.v.n) rfl)
 have k4:=λ q:Ext wr.heap.size wr=>(q.h.cell (p:=⟨b,off+i*8+4,none⟩) nj).trans (hcell 4 (.string x.2.v.s) rfl)
 have k5:=λ q:Ext wr.heap.size wr=>(q.h.cell (p:=⟨b,off+i*8+5,none⟩) nj).trans (hcell 5 (.string x.2.name) rfl)
 have k6:=λ q:Ext wr.heap.size wr=>(q.h.cell (p:=⟨b,off+i*8+6,none⟩) nj).trans (hcell 6 (.int .i64 x.2.width) rfl)
 have k7:=λ q:Ext wr.heap.size wr=>(q.h.cell (p:=⟨b,off+i*8+7,none⟩) nj).trans (hcell 7 (.slice x.2.A x.2.n x.2.c) rfl)
 have m0:=λ q:Ext wr.heap.size wr=>(q.h.cell (p:=⟨b2,fG+i*8,none⟩) il).trans (bY 0 (.string u.1) rfl)
 have m1:=λ q:Ext wr.heap.size wr=>(q.h.cell (p:=⟨b2,fG+i*8+1,none⟩) il).trans (bY 1 (.int .u8 u.2.op) rfl)
 have m2:=λ q:Ext wr.heap.size wr=>(q.h.cell (p:=⟨b2,fG+i*8+2,none⟩) il).trans (bY 2 (.int .u8 u.2.v.k) rfl)
 have m3:=λ q:Ext wr.heap.size wr=>(q.h.cell (p:=⟨b2,fG+i*8+3,none⟩) il).trans (bY 3 (.int .i64 u.2.v.n) rfl)
 have m4:=λ q:Ext wr.heap.size wr=>(q.h.cell (p:=⟨b2,fG+i*8+4,none⟩) il).trans (bY 4 (.string u.2.v.s) rfl)
 have m5:=λ q:Ext wr.heap.size wr=>(q.h.cell (p:=⟨b2,fG+i*8+5,none⟩) il).trans (bY 5 (.string u.2.name) rfl)
 have m6:=λ q:Ext wr.heap.size wr=>(q.h.cell (p:=⟨b2,fG+i*8+6,none⟩) il).trans (bY 6 (.int .i64 u.2.width) rfl)
 have m7:=λ q:Ext wr.heap.size wr=>(q.h.cell (p:=⟨b2,fG+i*8+7,none⟩) il).trans (bY 7 (.slice u.2.A u.2.n u.2.c) rfl)
 have p2:=λ q:Ext wr.heap.size wr=>(q.h.cell (p:=⟨QX,20,none⟩) (HX.out.later iE).lt).trans AW
 have p3:=λ q:Ext wr.heap.size wr=>(q.h.cell (p:=⟨QZ,20,none⟩) (HZ.out.later iE).lt).trans z20
 have E2:=hid (agI.out t (mem_of_getElem? ht));have Bc:=λ q:Ext wr.heap.size wr=>Tr.BG hS uZ t.2 x.2 u.2 r1.2 r2.2 E2.out q.w (hwr.trans (q.h.mono hwr.size))
 have heq:u.1=x.1:=by rw[r1.1,r2.1]
 obtain⟨xa,x⟩:=x;obtain⟨ua,u⟩:=u;simp only at heq Bc k0 m0 k1 m1 k2 m2 k3 m3 k4 m4 k5 m5 k6 m6 k7 m7;subst heq;have f0:(ua.toList != ua.toList)=false:=by simp
 unfold dN aT at Bc;clear hcell bY hc hc2 hx hu ht hwr r1 r2;subst kR zQ;go_upto_region 16 with fail;clear AW z20;exact ZaK):p:=h
theorem zff.Kbm(h:p:=by open zhK in exact Zfo):p:=h
theorem zdF.KaS(h:p:=by
 replace x8:=(b1.cell (ax x8)).trans x8;replace z8:=(b1.cell (ax z8)).trans z8;replace x9:=(b1.cell (ax x9)).trans x9;replace z9:=(b1.cell (ax z9)).trans z9;replace MK:=(b1.cell (ax MK)).trans MK;replace z10:=(b1.cell (ax z10)).trans z10;replace ML:=(b1.cell (ax ML)).trans ML;replace z11:=(b1.cell (ax z11)).trans z11;replace MM:=(b1.cell (ax MM)).trans MM;replace z12:=(b1.cell (ax z12)).trans z12;replace AV:=(b1.cell (ax AV)).trans AV;replace z13:=(b1.cell (ax z13)).trans z13;replace CT:=(b1.cell (ax CT)).trans CT;replace z14:=(b1.cell (ax z14)).trans z14;replace EF:=(b1.cell (ax EF)).trans EF;replace z15:=(b1.cell (ax z15)).trans z15;replace QE:=(b1.cell (ax QE)).trans QE;replace z16:=(b1.cell (ax z16)).trans z16;replace Yg:=(b1.cell (ax Yg)).trans Yg;replace z17:=(b1.cell (ax z17)).trans z17;replace Yh:=(b1.cell (ax Yh)).trans Yh;replace z18:=(b1.cell (ax z18)).trans z18;replace wj:=(b1.cell (ax wj)).trans wj;replace P7:=(b1.cell (ax P7)).trans P7;replace AW:=(b1.cell (ax AW)).trans AW;replace z20:=(b1.cell (ax z20)).trans z20;replace Yk:=(b1.cell (ax Yk)).trans Yk;replace z21:=(b1.cell (ax z21)).trans z21;replace x22:=(b1.cell (ax x22)).trans x22;replace z22:=(b1.cell (ax z22)).trans z22;replace x23:=(b1.cell (ax x23)).trans x23;replace z23:=(b1.cell (ax z23)).trans z23;replace Wa:=(b1.cell (ax Wa)).trans Wa;replace z24:=(b1.cell (ax z24)).trans z24;replace TS:=(b1.cell (ax TS)).trans TS;replace z25:=(b1.cell (ax z25)).trans z25;replace TU:=(b1.cell (ax TU)).trans TU;replace z26:=(b1.cell (ax z26)).trans z26
 replace JL:=(b1.cell (ax JL)).trans JL;replace z27:=(b1.cell (ax z27)).trans z27;go_wp2_with fail;refine(HQU.out _ (EW.out.trans (hb1.mono EW.out.size))).mono ?_;rintro e V2 ⟨rfl,b2⟩;have hb2:=af.then hb1 b2;clear x0 z0 x1 z1 x2 z2 x3 z3 x4 z4 x5 z5 x6 z6 x7 z7 x8 z8 x9 z9 MK z10 ML z11 MM z12 AV z13 CT z14 EF z15 QE z16 Yg z17 Yh z18 wj P7 AW z20 Yk z21 x22 z22 x23 z23 Wa z24 TS z25 TU z26 JL z27;go_wp2_with fail;clear e0 e1 e2 e3 e4 e5 e6 e7 e8 e9 e10 e11 e12 e13 e14 e15 e16 e17 e18;go_loopw [5] (λ iv wr=>∃i:Nat,i<=jT/\iv=.int .i64 i/\Below W1.heap.size W1 wr) (λ iv _=>jT - (intOf iv).toNat);case atStart=>exact⟨0,Nat.zero_le _,rfl,hb2⟩
 case round=>
  obtain⟨i,hi,rfl,iE⟩:=hrel;have x2:=(HX.out.later iE).cell 2;have z2:=(HZ.out.later iE).cell 2;simp only[Uaa] at x2 z2;have mR:=hid iE;by_cases hlt:i < jT
  ·obtain⟨x,hx⟩:∃x:ByteArray×Int,abr[i]?=some x:=⟨_,getElem?_eq_getElem (by have h1:=Jz.out;have h2:=RP.out.len;omega)⟩;obtain⟨u,hu⟩:∃u:ByteArray×Int,abt[i]?=some u:=⟨_,getElem?_eq_getElem (by have h1:=Jz.out;have h2:=RQ.out.len;omega)⟩;obtain⟨t,ht⟩:∃t,L8[i]?=some t:=⟨_,getElem?_eq_getElem (by have h1:=Jz.out;omega)⟩;have r1:=iV RP.out ht hx;have r2:=iV RQ.out ht hu;have hwr:Below w.heap.size w wr:=EW.out.trans (iE.mono EW.out.size);rcases agB.out with h0 |⟨b,off,kR,jP,hc⟩
   ·exact ZgY
   rcases agC.out with h0 |⟨b2,fG,zQ,qO,hc2⟩
   ·exact ZgZ
   open zfd in exact Zcp
  ·obtain rfl:i=jT:=by omega
   go_wp2_with fail;clear x2 z2 iE;go_loopw [6] (λ iv wr=>∃i:Nat,i<=jU/\iv=.int .i64 i/\Below W1.heap.size W1 wr) (λ iv _=>jU - (intOf iv).toNat);case atStart=>exact ZfU
   case round=>
    obtain⟨i,hi,rfl,iE⟩:=hrel;have wj:=(HX.out.later iE).cell 19;have P7:=(HZ.out.later iE).cell 19;simp only[Uaa] at wj P7;have mR:=hid iE;by_cases hlt:i < jU
    ·obtain⟨x,hx⟩:∃x:Sl,abu[i]?=some x:=⟨_,getElem?_eq_getElem (by have h1:=JA.out;have h2:=RR.out.len;omega)⟩;obtain⟨u,hu⟩:∃u:Sl,abv[i]?=some u:=⟨_,getElem?_eq_getElem (by have h1:=JA.out;have h2:=RS.out.len;omega)⟩;obtain⟨t,ht⟩:∃t,L9[i]?=some t:=⟨_,getElem?_eq_getElem (by have h1:=JA.out;omega)⟩;have r1:=iV RR.out ht hx;have r2:=iV RS.out ht hu;have hwr:Below w.heap.size w wr:=EW.out.trans (iE.mono EW.out.size);rcases agD.out with h0 |⟨b,off,kR,jP,hc⟩
     ·exact ZgY
     rcases agE.out with h0 |⟨b2,fG,zQ,qO,hc2⟩
     ·exact ZgZ
     open zfe in exact Zcp
    ·obtain rfl:i=jU:=by omega
     go_wp2_with fail;clear wj P7 iE;go_loopw [7] (λ iv wr=>∃i:Nat,i<=jV/\iv=.int .i64 i/\Below W1.heap.size W1 wr) (λ iv _=>jV - (intOf iv).toNat);case atStart=>exact ZfU
     case round=>
      obtain⟨i,hi,rfl,iE⟩:=hrel;have AW:=(HX.out.later iE).cell 20;have z20:=(HZ.out.later iE).cell 20;simp only[Uaa] at AW z20;have mR:=hid iE;by_cases hlt:i < jV
      ·obtain⟨x,hx⟩:∃x:ByteArray×Ex,abw[i]?=some x:=⟨_,getElem?_eq_getElem (by have h1:=JB.out;have h2:=RT.out.len;omega)⟩;obtain⟨u,hu⟩:∃u:ByteArray×Ex,abx[i]?=some u:=⟨_,getElem?_eq_getElem (by have h1:=JB.out;have h2:=RU.out.len;omega)⟩;obtain⟨t,ht⟩:∃t,M0[i]?=some t:=⟨_,getElem?_eq_getElem (by have h1:=JB.out;omega)⟩;have r1:=iV RT.out ht hx;have r2:=iV RU.out ht hu;have hwr:Below w.heap.size w wr:=EW.out.trans (iE.mono EW.out.size);rcases agF.out with h0 |⟨b,off,kR,jP,hc⟩
       ·exact ZgY
       rcases agG.out with h0 |⟨b2,fG,zQ,qO,hc2⟩
       ·exact ZgZ
       open zff in exact Zcp
      ·obtain rfl:i=jV:=by omega
       exact ZfV):p:=h
theorem zfR.KbD(h:p:=by
 have x8:=hX.cell 8;have z8:=hZ.cell 8;have x9:=hX.cell 9;have z9:=hZ.cell 9;have MK:=hX.cell 10;have z10:=hZ.cell 10;have ML:=hX.cell 11;have z11:=hZ.cell 11;have MM:=hX.cell 12;have z12:=hZ.cell 12;have AV:=hX.cell 13;have z13:=hZ.cell 13;have CT:=hX.cell 14;have z14:=hZ.cell 14;have EF:=hX.cell 15;have z15:=hZ.cell 15;have QE:=hX.cell 16;have z16:=hZ.cell 16;have Yg:=hX.cell 17;have z17:=hZ.cell 17;have Yh:=hX.cell 18;have z18:=hZ.cell 18;have wj:=hX.cell 19;have P7:=hZ.cell 19;have AW:=hX.cell 20;have z20:=hZ.cell 20;have Yk:=hX.cell 21;have z21:=hZ.cell 21;have x22:=hX.cell 22;have z22:=hZ.cell 22;have x23:=hX.cell 23;have z23:=hZ.cell 23;have Wa:=hX.cell 24;have z24:=hZ.cell 24;have TS:=hX.cell 25;have z25:=hZ.cell 25;have TU:=hX.cell 26;have z26:=hZ.cell 26;have JL:=hX.cell 27;have z27:=hZ.cell 27;simp only[Uaa] at x0 z0 x1 z1 x2 z2 x3 z3 x4 z4 x5 z5 x6 z6 x7 z7 x8 z8 x9 z9 MK z10 ML z11 MM z12 AV z13 CT z14 EF z15 QE z16 Yg z17 Yh z18 wj P7 AW z20 Yk z21 x22 z22 x23 z23 Wa z24 TS z25 TU z26 JL z27;have e0:(name.toList != name.toList)=false:=by simp
 have e1:(time.toList != time.toList)=false:=by simp
 have e2:(space.toList != space.toList)=false:=by simp
 have e3:(cr.toList != cr.toList)=false:=by simp
 have e4:(kind != kind)=false:=by simp
 have e5:(every != every)=false:=by simp
 have e6:(parts != parts)=false:=by simp
 have e7:(what != what)=false:=by simp
 have e8:(a != a)=false:=by simp
 have e9:(b != b)=false:=by simp
 have e10:(fk==fk)=true:=by simp
 have e11:(fn==fn)=true:=by simp
 have e12:(tk==tk)=true:=by simp
 have e13:(tn==tn)=true:=by simp
 have e14:(fs.toList==fs.toList)=true:=by simp
 have e15:(ts.toList==ts.toList)=true:=by simp
 have e16:((jT:Int) !=(jT:Int))=false:=by simp
 have e17:((jU:Int) !=(jU:Int))=false:=by simp
 have e18:((jV:Int) !=(jV:Int))=false:=by simp
 go_upto_region 1 with fail;change Code.wp _ _ _ _ ((W.alloc (.cells #[.int .u8 kind,.string name,.slice DW jT DX,.string time,.int .i64 every,.string space,.int .i64 parts,.slice Vn Vo Vp,.string qf,.bool qy,.slice Vq Vr Vs,.slice Vt Vu Vv,.slice Vw Vx Vy,.slice Vz VA VC,.slice VD VE VF,.int .u8 what,.string cr,.int .i64 a,.int .i64 b,.slice DY jU DZ,.slice Ea jV Eb,.slice ue kj uf,.int .u8 fk,.int .i64 fn,.string fs,.int .u8 tk,.int .i64 tn,.string ts] 34)).alloc (.cells #[.int .u8 kind,.string name,.slice yu jT yw,.string time,.int .i64 every,.string space,.int .i64 parts,.slice Gv Gw Gx,.string qf2,.bool qy2,.slice Gy Gz GA,.slice GC GD GF,.slice GG GH GI,.slice GJ GK GL,.slice GM GN GR,.int .u8 what,.string cr,.int .i64 a,.int .i64 b,.slice yy jU yz,.slice yB jV yC,.slice oM kj oO,.int .u8 fk,.int .i64 fn,.string fs,.int .u8 tk,.int .i64 tn,.string ts] 34));open zdF in exact Zbk):p:=h
theorem Vm(hS:∀b,S b->b < w.heap.size)(uZ:∀b,S2 b->b < w.heap.size) {q:St} {y z:fl}(h:q.at_ w S y)(h2:q.at_ w S2 z)(hs:q.I5):StT w y z:=by
 intro W hW;have HWH:=hid (DN hS uZ h.aR h2.aR hs.agw hs.aR);have HQU:=hid (Mn hS uZ h.query h2.query hs.query);obtain⟨DT,abr,J5,J6⟩:=h.aJ;obtain⟨yq,abt,J7,J8⟩:=h2.aJ;have agB:=hid J5;have agC:=hid J7;have RP:=hid J6;have RQ:=hid J8;obtain⟨DU,abu,J9,K1⟩:=h.rows;obtain⟨yr,abv,K3,K4⟩:=h2.rows;have agD:=hid J9;have agE:=hid K3;have RR:=hid K1;have RS:=hid K4;obtain⟨DV,abw,K5,K6⟩:=h.aS;obtain⟨yt,abx,K7,K8⟩:=h2.aS;have agF:=hid K5;have agG:=hid K7;have RT:=hid K6;have RU:=hid K8;obtain⟨tY,_⟩:=h.aR;obtain⟨oL,_⟩:=h2.aR;have K9:=h.kind.symm;have RV:=h2.kind.symm;have L0:=h.name.symm;have RX:=h2.name.symm;have L1:=h.time.symm;have RY:=h2.time.symm;have RZ:=h.every.symm;have Mu:=h2.every.symm;have Sa:=h.space.symm;have Mv:=h2.space.symm;have Sb:=h.parts.symm;have Mw:=h2.parts.symm;have L3:=h.what.symm;have Sc:=h2.what.symm;have adG:=h.cr.symm;have L4:=h2.cr.symm;have h_a:=h.a.symm;have amg:=h2.a.symm;have h_b:=h.b.symm;have amh:=h2.b.symm;have adH:=h.aK.symm;have L5:=h2.aK.symm;have adI:=h.cP.symm;have L6:=h2.cP.symm;have agH:=hid hs.ame;have agI:=hid hs.amf;have bC:=hs.aJ;have bR:=hs.rows;have bS:=hs.aS;clear h h2 hs;obtain⟨kind,name,L8,time,every,space,parts,query,what,cr,a,b,L9,M0,J3,aK,cP⟩:=q;obtain⟨atf,atg,⟨DW,anw,DX⟩,ath,arf,arh,ari,⟨⟨Vn,Vo,Vp⟩,qf,qy,⟨Vq,Vr,Vs⟩,⟨Vt,Vu,Vv⟩,⟨Vw,Vx,Vy⟩,⟨Vz,VA,VC⟩,⟨VD,VE,VF⟩⟩,ati,axL,a1,b1,⟨DY,anx,DZ⟩,⟨Ea,anz,Eb⟩,⟨ue,arj,uf⟩,fv1,tv1⟩:=y;obtain⟨atj,alV,⟨yu,anA,yw⟩,atk,ark,arl,arn,⟨⟨Gv,Gw,Gx⟩,qf2,qy2,⟨Gy,Gz,GA⟩,⟨GC,GD,GF⟩,⟨GG,GH,GI⟩,⟨GJ,GK,GL⟩,⟨GM,GN,GR⟩⟩,atl,axM,a2,b2,⟨yy,anB,yz⟩,⟨yB,anC,yC⟩,⟨oM,agy,oO⟩,fv2,tv2⟩:=z
 simp only at K9 RV L0 RX L1 RY RZ Mu Sa Mv Sb Mw L3 Sc adG L4 h_a amg h_b amh adH L5 adI L6 bC bR bS DT yq DU yr DV yt tY oL;subst K9 RV L0 RX L1 RY RZ Mu Sa Mv Sb Mw L3 Sc adG L4 h_a amg h_b amh adH L5 adI L6;obtain⟨jT,PT⟩:∃n:Nat,n=L8.length:=⟨_,rfl⟩;rw[<- PT] at DT yq;replace DT:=DT.symm;replace yq:=yq.symm;subst DT yq;have Jz:=hid PT;clear PT;obtain⟨jU,PU⟩:∃n:Nat,n=L9.length:=⟨_,rfl⟩;rw[<- PU] at DU yr;replace DU:=DU.symm;replace yr:=yr.symm;subst DU yr;have JA:=hid PU;clear PU;obtain⟨jV,PV⟩:∃n:Nat,n=M0.length:=⟨_,rfl⟩;rw[<- PV] at DV yt;replace DV:=DV.symm;replace yt:=yt.symm;subst DV yt;have JB:=hid PV;clear PV;obtain⟨kj,DO⟩:∃n:Nat,n=J3.length:=⟨_,rfl⟩;rw[<- DO] at tY oL;replace tY:=tY.symm;replace oL:=oL.symm;subst tY oL;have amb:=hid DO;clear DO J5 J7 J6 J8 J9 K3 K1 K4 K5 K7 K6 K8;rw[<- Jz.out] at bC;rw[<- JA.out] at bR;rw[<- JB.out] at bS;obtain⟨fk,fn,fs⟩:=aK;obtain⟨tk,tn,ts⟩:=cP;show Calls Tryz.prog 15 #[.agg #[.int .u8 kind,.string name,.slice DW jT DX,.string time,.int .i64 every,.string space,.int .i64 parts,.slice Vn Vo Vp,.string qf,.bool qy,.slice Vq Vr Vs,.slice Vt Vu Vv,.slice Vw Vx Vy,.slice Vz VA VC,.slice VD VE VF,.int .u8 what,.string cr,.int .i64 a,.int .i64 b,.slice DY jU DZ,.slice Ea jV Eb,.slice ue kj uf,.int .u8 fk,.int .i64 fn,.string fs,.int .u8 tk,.int .i64 tn,.string ts],.agg #[.int .u8 kind,.string name,.slice yu jT yw,.string time,.int .i64 every,.string space,.int .i64 parts,.slice Gv Gw Gx,.string qf2,.bool qy2,.slice Gy Gz GA,.slice GC GD GF,.slice GG GH GI,.slice GJ GK GL,.slice GM GN GR,.int .u8 what,.string cr,.int .i64 a,.int .i64 b,.slice yy jU yz,.slice yB jV yC,.slice oM kj oO,.int .u8 fk,.int .i64 fn,.string fs,.int .u8 tk,.int .i64 tn,.string ts]] W _
 have HQV:∀W,Below w.heap.size w W->Calls Tryz.prog 32 #[.agg #[.slice Vn Vo Vp,.string qf,.bool qy,.slice Vq Vr Vs,.slice Vt Vu Vv,.slice Vw Vx Vy,.slice Vz VA VC,.slice VD VE VF],.agg #[.slice Gv Gw Gx,.string qf2,.bool qy2,.slice Gy Gz GA,.slice GC GD GF,.slice GG GH GI,.slice GJ GK GL,.slice GM GN GR]] W λ e w'=>e=.returned (.bool true)/\Below W.heap.size W w':=HQU.out
 clear HQU;have HQU:=hid HQV;clear HQV;go_enter Tryz.func15,Tryz.ntmps15;have hX:=(av.new W 34 #[.int .u8 kind,.string name,.slice DW jT DX,.string time,.int .i64 every,.string space,.int .i64 parts,.slice Vn Vo Vp,.string qf,.bool qy,.slice Vq Vr Vs,.slice Vt Vu Vv,.slice Vw Vx Vy,.slice Vz VA VC,.slice VD VE VF,.int .u8 what,.string cr,.int .i64 a,.int .i64 b,.slice DY jU DZ,.slice Ea jV Eb,.slice ue kj uf,.int .u8 fk,.int .i64 fn,.string fs,.int .u8 tk,.int .i64 tn,.string ts]).alloc (.cells #[.int .u8 kind,.string name,.slice yu jT yw,.string time,.int .i64 every,.string space,.int .i64 parts,.slice Gv Gw Gx,.string qf2,.bool qy2,.slice Gy Gz GA,.slice GC GD GF,.slice GG GH GI,.slice GJ GK GL,.slice GM GN GR,.int .u8 what,.string cr,.int .i64 a,.int .i64 b,.slice yy jU yz,.slice yB jV yC,.slice oM kj oO,.int .u8 fk,.int .i64 fn,.string fs,.int .u8 tk,.int .i64 tn,.string ts] 34);have hZ:=av.new (W.alloc (.cells #[.int .u8 kind,.string name,.slice DW jT DX,.string time,.int .i64 every,.string space,.int .i64 parts,.slice Vn Vo Vp,.string qf,.bool qy,.slice Vq Vr Vs,.slice Vt Vu Vv,.slice Vw Vx Vy,.slice Vz VA VC,.slice VD VE VF,.int .u8 what,.string cr,.int .i64 a,.int .i64 b,.slice DY jU DZ,.slice Ea jV Eb,.slice ue kj uf,.int .u8 fk,.int .i64 fn,.string fs,.int .u8 tk,.int .i64 tn,.string ts] 34)) 34 #[.int .u8 kind,.string name,.slice yu jT yw,.string time,.int .i64 every,.string space,.int .i64 parts,.slice Gv Gw Gx,.string qf2,.bool qy2,.slice Gy Gz GA,.slice GC GD GF,.slice GG GH GI,.slice GJ GK GL,.slice GM GN GR,.int .u8 what,.string cr,.int .i64 a,.int .i64 b,.slice yy jU yz,.slice yB jV yC,.slice oM kj oO,.int .u8 fk,.int .i64 fn,.string fs,.int .u8 tk,.int .i64 tn,.string ts]
 rw[World.size_alloc] at hZ;have hB:=af.then (aa W (.cells #[.int .u8 kind,.string name,.slice DW jT DX,.string time,.int .i64 every,.string space,.int .i64 parts,.slice Vn Vo Vp,.string qf,.bool qy,.slice Vq Vr Vs,.slice Vt Vu Vv,.slice Vw Vx Vy,.slice Vz VA VC,.slice VD VE VF,.int .u8 what,.string cr,.int .i64 a,.int .i64 b,.slice DY jU DZ,.slice Ea jV Eb,.slice ue kj uf,.int .u8 fk,.int .i64 fn,.string fs,.int .u8 tk,.int .i64 tn,.string ts] 34)) (aa _ (.cells #[.int .u8 kind,.string name,.slice yu jT yw,.string time,.int .i64 every,.string space,.int .i64 parts,.slice Gv Gw Gx,.string qf2,.bool qy2,.slice Gy Gz GA,.slice GC GD GF,.slice GG GH GI,.slice GJ GK GL,.slice GM GN GR,.int .u8 what,.string cr,.int .i64 a,.int .i64 b,.slice yy jU yz,.slice yB jV yC,.slice oM kj oO,.int .u8 fk,.int .i64 fn,.string fs,.int .u8 tk,.int .i64 tn,.string ts] 34));open zfR in exact Zc9
end Go.Proofs.YtehhdlgjfdnafaaGreatDoor
