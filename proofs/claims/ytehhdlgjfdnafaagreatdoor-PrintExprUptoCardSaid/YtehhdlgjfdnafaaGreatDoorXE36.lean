/- Parts of the proof. -/
import Derived.Test.YtehhdlgjfdnafaaGreatDoorXE31
import Derived.Test.YtehhdlgjfdnafaaGreatDoorXE32
namespace Go.Proofs.YtehhdlgjfdnafaaGreatDoor
set_option maxHeartbeats 90000000
set_option maxRecDepth 100000
open Go.Lib (hid)
open Go.ChangeShapes Go.WideShapes Go.ChangeAt Go.RowKit List
set_option linter.unusedVariables false
set_option linter.unusedSimpArgs false
theorem PY (qy:kM):Tryz.prog.built 34 [(0,.int .u8 8),(7,GJ qy)]=some (bI { kind:=8,query:=qy }).toArray:=by kernel_rfl
def Lz (l:aF)(d:Qu)(r:aF):Prop:=∀(ρ:bj) (w:World),ρ.at w (.good l) false->Calls Tryz.prog 127 #[ρ.ptr] w λ e w'=>∃y:kM,e=.returned (GJ y)/\d.at_ w' (ep w.heap.size w') y/\gP ρ w w' (.good r) false
def FD (d:Qu):St:= { kind:=8,query:=d }
variable{t:Wd}{l r:aF}{d:Qu}
theorem Uu(ZX:fW cA t=true)(H:Lz (t::l) d r)(ρ:bj)(w:World)(h:ρ.at w (.good (t::l)) false):
  Calls Tryz.prog 76 #[ρ.ptr] w λ e w'=>∃y:kM,e=.returned (mC { kind:=8,query:=y })/\d.at_ w' (ep w.heap.size w') y/\gP ρ w w' (.good r) false:=by
 have aZ:=h.mE;obtain⟨tk,pl,bd,hpl,hlt,hsm,yG,eY,hg,xY,uA,hp⟩:=h.lp;obtain⟨r',rq⟩:=hg (t::l) rfl;injection rq with xH htr;have hb:=af.then (aa w QZ) (aa _ QZ);have h0:=h.later hb;have HQ0:=(av.new w 34 Wv).alloc QZ;have HQ:=hid HQ0;have HH:=hid h;have HR:=hid H;have ajj:=hid (show(dO.good (t::l)).head (⟨#[115,101,108,101,99,116]⟩:ByteArray).data.toList=true from ZX);clear HQ0 h hg eY yG ZX hpl H;rw[show Obj.cells Wv 34=QZ from rfl] at HQ;unfold QZ at*;clear htr;go_enter Tryz.func76,Tryz.ntmps76;go_wp2_with fail;refine(xi ρ _ _ false h0 ⟨#[115,101,108,101,99,116]⟩).mono ?_;rintro e w1 ⟨rfl,b1⟩;rw[ajj.out];have hb1:=af.then hb b1
 have oL:=hid (HQ.out.later b1);clear HQ h0 b1 hb xH hp;go_wp2_with fail;refine(HR.out ρ _ (HH.out.later hb1)).mono ?_;rintro e w3 ⟨qy,rfl,hqd,d3⟩;have HQ:=hid (d3.blk oL.out Taa);have HD:=hid ((gP.aA HH.out hb1).trans d3);have HS:=hid hqd;have D8:w.heap.size+1<=w1.heap.size:=oL.out.lt;clear d3 hqd oL HH;go_wp2_with (first
  |(refine xq rfl 34 _ rfl (cs:=(bI { kind:=8,query:=qy }).toArray) ?hv ?_;rotate_left)
  |(refine wpList_store_row rfl 34 (.tmp 2) (.tmp 8) rfl w.heap.size (bI { kind:=8,query:=qy }).toArray rfl rfl 34 Wv HQ.out TaG rfl (Lr _) ?_
    have HR:=hid (HQ.out.row (bI { kind:=8,query:=qy }).toArray)
    have HF:=hid (HD.out.row aZ (Nat.le_refl _) (bI { kind:=8,query:=qy }).toArray)
    have rk:=hid (Qu.at_.keep (gy (show w.heap.size<=w.heap.size+1 by omega)) (Qu.at_.keep (ie w3 (show w.heap.size < w.heap.size+1 by omega) (bI { kind:=8,query:=qy }).toArray) (Qu.at_.keep (gy D8) HS.out)))))
 case hv=>exact PY qy
 exact bodyPost_ret (v:=mC { kind:=8,query:=qy }) (results_cell_row Tryz.results76 _ _ w.heap.size 34 (bI { kind:=8,query:=qy }).toArray (0,0) _ rfl HR.out Tryz.underlying34 rfl TaG) rfl ⟨qy,rfl,rk.out,HF.out⟩
variable{w:World}{S:Nat->Prop}{y:kM}
theorem Nh(h:d.at_ w S y):(FD d).at_ w S { kind:=8,query:=y }:=
 { St.iR w S with kind:=rfl,query:=h }
def aeM (d:Qu)(w:World)(e:Ending)(w':World):Prop:=∃y:kM,e=.returned (.tuple #[mC { kind:=8,query:=y },.int .i64 0,.int .i64 0])/\d.at_ w' (ep w.heap.size w') y/\Below w.heap.size w w'
variable{t0:Wd}{r0:aF}
theorem Ye(s:ByteArray)(w:World)(hs:s.size<=4294967280) {l:List mA}(hl:kP s.data.toList=.ok l)   (hw:l.map (·.w)=t0::r0)(ZX:fW cA t0=true)(H:Lz (t0::r0) d (t::r))(hk:t.k=0)(yh:(FD d).exprs.length<=1000)(Zk:∀x∈(FD d).exprs,x.thin/\x.depth<=32):Calls Tryz.prog 33 #[.string s] w (aeM d w):=by
 obtain⟨_,hlen,hwd⟩:=zm hl;have hne:l≠ []:=by intro h;rw[h] at hw;cases hw
 have HSE:=hid (λ ρ w h=>Uu ZX H ρ w h);have HEN:=hid (DD hl);have Tt:=hid hwd;have HWS:=hid hw;have NV:=hid Zk;have HNX:=hid yh;have HK:=hid hk;clear hwd hw Zk yh ZX H hk;have HQ0:=av.new w 34 Wv;rw[show Obj.cells Wv 34=QZ from rfl] at HQ0;have HQ:=hid HQ0;clear HQ0;unfold QZ at*;go_enter Tryz.func33,Tryz.ntmps33;go_wp2_with fail;refine(Yd hl hs).mono ?_;rintro e w1 ⟨A,c,rfl,ht,b1⟩;obtain⟨gl,rfl,hgb,uK,hc⟩:=ht.cells hne;have oL:=hid (HQ.out.later b1);have HB:=hid (af.then (aa w _) b1);have hR:=bj.start (c:=c) uK hc HEN.out hlen Tt.out;rw[HWS.out] at hR;have HR:=hid hR;have zM:w.heap.size < w1.heap.size:=oL.out.lt;clear ht hc b1 HQ hR hgb hne;go_wp2_with fail;refine(HSE.out ⟨w1.heap.size,gl,c,l⟩ _ HR.out).mono ?_;rintro e w2 ⟨qy,rfl,hat,dd⟩;obtain⟨y,hy⟩:∃y:fX,y= { kind:=8,query:=qy }:=⟨_,rfl⟩;rw[<- hy];have HY:=hid hy;clear hy;rw[show(w1.alloc _).heap.size=w1.heap.size+1 by simp] at hat;have kD:w1.heap.size <(w1.alloc (.cells #[.slice (some ⟨gl,0,none⟩) l.length c,.int .i64 0,.int .i64 (-1),.bool false] 125)).heap.size:=by simp
 have P6:=dd.blk (oL.out.alloc _) Tbd;have hs2:w1.heap.size+1<=w2.heap.size:=by have:=dd.size;simpa using this
 have jv:=hid ((dd.later (aa w2 QZ)).row kD (by rw[show(w1.alloc _).heap.size=w1.heap.size+1 by simp];exact hs2) (bI y).toArray);have HY3:=hid ((av.new w2 34 Wv).row (bI y).toArray);have lL:=hid ((P6.alloc QZ).gu (q:=w2.heap.size) Taa (bI y).toArray);have aeN:=hid (Qu.at_.keep (IE w2 QZ (bI y).toArray) hat);have px:=hid (show Below w.heap.size w (w1.alloc (.cells #[.slice (some ⟨gl,0,none⟩) l.length c,.int .i64 0,.int .i64 (-1),.bool false] 125))from af.then HB.out (aa w1 _));clear dd hat P6 oL HR HB;rw[show(Obj.cells Wv 34)=QZ from rfl] at HY3;unfold QZ at*;go_wp2_with (first
  |(refine wpList_store_row rfl 34 (.tmp 9) (.tmp 27) rfl w2.heap.size (bI y).toArray rfl rfl 34 Wv (av.new w2 34 Wv) TaG rfl (Lr _) ?_))
 generalize ((w2.alloc _).setRow _ _)=W3 at*;refine(gY ⟨w1.heap.size,gl,c,l⟩ _ _ _ jv.out.at_ ⟨#[59]⟩ (by show((t.k==1 || t.k==4)&& t.s==wL)=false;rw[HK.out];rfl)).mono ?_;rintro e w4 ⟨rfl,d4⟩;have oF:=hid (jv.out.trans d4);have Ct:=hid (d4.blk lL.out Tbd);have HY4:=hid (d4.blk HY3.out (by show w2.heap.size≠w1.heap.size;omega));have Hp:=hid (Qu.at_.keep (eF d4.grown (show w1.heap.size < w1.heap.size+1 by omega)) aeN.out);clear d4 jv lL HY3 aeN;have Pl:=hid (px.out.trans (aJ oF.out.grown px.out.size (by show w.heap.size<=w1.heap.size;omega)));obtain⟨tk,pl,bd,hpl,aeO,hsm,yG,eY,hg,xY,uA,hp⟩:=oF.out.at_.lp;obtain⟨r',rq⟩:=hg _ rfl;injection rq with xH _;have hk:=HK.out;rw[xH] at hk;obtain rfl:bd= -1:=yG;obtain⟨c0,c1,c2,k0,k1,k2,k3⟩:=hp;simp only at c0 c1 c2 k0 k1 k2 k3;have aeO:pl < l.length:=aeO;have apR:(pl:Int)< l.length:=by omega
 clear hg eY hpl xH;rw[hk] at k0;have c3:=oF.out.at_.facts.2.2.2.1;simp only at c3;clear oF hl hk;go_wp2_with (first
  |(refine wpList_load_row rfl 34 (.tmp 9) rfl w2.heap.size rfl 34 (bI y).toArray (0,0) _ HY4.out Tryz.underlying34 rfl TaG ?_))
 clear c0 c1 c2 c3 k0 k1 k2 k3;have HAS:=hid (show(FD d).at_ w4 (ep (w1.heap.size+1) w4) y by rw[HY.out];exact Nh Hp.out);refine(ID w4 (FD d) y (ep (w1.heap.size+1) w4) (λ b hb=>hb.2) HAS.out (by have:=HNX.out;omega) (by simp[FD])).mono ?_;rintro e w5 ⟨⟨sA,sn,sc⟩,rfl,hn,ja,b5⟩;obtain⟨_,ys,tS,hall⟩:=ja;unfold eU;have Yf:=hid (Ct.out.later b5);have HY5:=hid (HY4.out.later b5);have ajn:=hid (Qu.at_.keep (fE b5) Hp.out);have E7:=hid (af.then Pl.out b5);have PZ:=hid tS;have Ej:=hid hall;have HNL:=hid hn;have hml:sn<=1000:=by rw[show sn=_ from HNL.out];exact HNX.out
 simp only at PZ HNL;clear b5 tS hall hn Ct HY4 Hp Pl HAS;go_wp2_with fail;go_loopw [11] (λ u wr=>∃i:Nat,i<=sn/\u=.int .i64 i/\Below w5.heap.size w5 wr) (λ u _=>sn - (intOf u).toNat);case atStart=>exact⟨0,Nat.zero_le _,rfl,Below.refl _ _⟩
 case round=>
  obtain⟨i,hi,rfl,qZ⟩:=hrel;have rY:=hid qZ;have HQr:=hid (Yf.out.later qZ);have HYr:=hid (HY5.out.later qZ);by_cases hlt:i < sn
  ·obtain⟨x,hx⟩:∃x,(FD d).exprs[i]?=some x:=⟨_,getElem?_eq_getElem (by have:=HNL.out;omega)⟩;obtain⟨yx,hyx⟩:∃yx,ys[i]?=some yx:=⟨_,getElem?_eq_getElem (by have h1:=Ej.out.len;have h2:=HNL.out;omega)⟩;have aeP:x.at_ w5 (ep 0 w5) yx:=su Ej.out hx hyx;have Yg:=NV.out x (mem_of_getElem? hx);have NV:=hid (Tr.acK (w:=w5) (S:=ep 0 w5) (λ b hb=>hb.2) x yx aeP Yg.1 (by have:=Yg.2;omega) wr qZ);rcases PZ.out with h0 |⟨b,off,mr,lH,hcell⟩
   ·subst h0;simp at hyx
   have hcell:=λ j u hu=>(qZ.cell (p:=⟨b,off+i*7+j,none⟩) lH.2).trans (hcell i yx j u hyx hu)
   have q0:=hcell 0 _ rfl;have q1:=hcell 1 _ rfl;have q2:=hcell 2 _ rfl;have q3:=hcell 3 _ rfl;have q4:=hcell 4 _ rfl;have q5:=hcell 5 _ rfl;have q6:=hcell 6 _ rfl;simp only[Nat.add_zero] at q0;have hdi:¬((x.depth:Int)> 32):=by have:=Yg.2;omega
   clear hcell hx hyx aeP Yg;subst mr;go_wp2_with fail;clear q0 q1 q2 q3 q4 q5 q6;refine NV.out.mono ?_;rintro e w6 ⟨rfl,b6⟩;go_wp2_with fail;go_roundw;case rel=>exact⟨i+1,by omega,by go_num,rY.out.trans (b6.mono rY.out.size)⟩
   case measure=>exact Zcj
  ·obtain rfl:i=sn:=by omega
   have ajo:=hid (Qu.at_.keep (fE qZ) ajn.out);have HBr:=hid (af.then E7.out qZ);clear qZ;go_wp2_with (first
    |(refine wpList_load_row rfl 34 (.tmp 9) rfl w2.heap.size rfl 34 (bI y).toArray (0,0) _ HYr.out Tryz.underlying34 rfl TaG ?_)
    |(refine wpList_store_row rfl 34 (.tmp 2) (.tmp 82) rfl w.heap.size (bI y).toArray rfl rfl 34 Wv HQr.out TaG rfl (Lr _) ?_
      have HR9:=hid (HQr.out.row (bI y).toArray)
      have pQ:=hid (show Qu.at_ (wr.setRow w.heap.size (bI y).toArray) (ep w.heap.size (wr.setRow w.heap.size (bI y).toArray)) d qy from Qu.at_.keep (gy (show w.heap.size<=w1.heap.size+1 by omega)) (Qu.at_.keep (ie wr (show w.heap.size < w1.heap.size+1 by omega) (bI y).toArray) ajo.out))
      have HB9:=hid (HBr.out.trans (aJ (cx wr w.heap.size (bI y).toArray) HBr.out.size (Nat.le_refl _)))))
   exact bodyPost_ret (v:=.tuple #[mC y,.int .i64 0,.int .i64 0]) (Fz Tryz.results33 _ _ w.heap.size 34 (bI y).toArray (0,0) _ (.int .i64 0) (.int .i64 0) rfl HR9.out Tryz.underlying34 rfl (by rw[show Array.size (bI y).toArray=28 from rfl];exact qG) rfl rfl) rfl ⟨qy,by rw[HY.out],pQ.out,HB9.out⟩
def knB (t:Wd):Bool:=t.k==1 && !jT t.s && !fW dZ t && !fW dI t && !fW bE t && !fW bp t && !fW dT t && !fW dr t
theorem FE(h:knB t=true):Zz t/\t.k=1/\jT t.s=false/\fW dT t=false/\fW dr t=false:=by simp only[knB,Bool.and_eq_true,beq_iff_eq,Bool.not_eq_true'] at h;obtain⟨⟨⟨⟨⟨⟨⟨k,a⟩,b⟩,c⟩,d⟩,e⟩,f⟩,g⟩:=h;exact⟨⟨⟨by omega,by omega⟩,b,c,d,e⟩,k,a,f,g⟩
abbrev LA (s:List UInt8):Wd:=⟨1,s,0⟩
abbrev kcG (s:List UInt8):Wd:=⟨4,s,0⟩
abbrev kcI (n:Int):Wd:=⟨2,[],n⟩
abbrev Uv:Wd:=⟨0,[],0⟩
variable{u:Wd}
theorem aeQ(r:aF)(h:knB t=true)(ho:fW bp u=false):fk 6 (t::u::r) (ui ⟨t.s.toArray⟩) (u::r):=
 ZR (FE h).2.2.2.2 (ZT (Ua (FE h).1 (FE h).2.1 (FE h).2.2.1 ho))
variable{n:Int}
theorem aeR(r:aF):fk 6 (kcI n::r) (oM ⟨2,n,ByteArray.empty⟩) r:=
 ZR rfl (ZT (TY rfl))
def Uw (n:Int):Tr:=oM ⟨2,n,ByteArray.empty⟩
def LB:Tr:=mB 5 [ui ⟨#[97]⟩,mB 7 [Uw 1,Uw 2]]
def Ux:Tr:=mB 4 [mB 18 [ui ⟨#[98]⟩]]
abbrev aeS:aF:=[LA [98],LA kH,LA bE,Uv]
abbrev aeT:aF:=LA bZ::LA [116]::LA cV::LA dT::aeS
abbrev Y1:aF:=LA [97]::kcG [43]::kcI 1::kcG [42]::kcI 2::LA lZ::LA [120]::aeT
theorem aeU:fk 0 Y1 LB (LA lZ::LA [120]::aeT):=
 ly 0 (.inl rfl) rfl (ly 1 (.inr (.inl rfl)) rfl (ZQ rfl (aep rfl rfl (Ub 4 (.inr (.inr (.inl rfl))) 5 Tac Tac rfl rfl (ly 5 (.inr (.inr (.inr rfl))) rfl (aeQ _ rfl rfl)) (Ub 5 (.inr (.inr (.inr rfl))) 7 Tac Tac rfl rfl (aeR _) (aeR _))))))
theorem ajr:fk 0 (LA dT::aeS) Ux [Uv]:=
 ly 0 (.inl rfl) rfl (ly 1 (.inr (.inl rfl)) rfl (aew rfl (ZQ rfl (aet rfl rfl rfl (ly 4 (.inr (.inr (.inl rfl))) rfl (ly 5 (.inr (.inr (.inr rfl))) rfl (aeQ _ rfl rfl)))))))
def kcQ:Qu:= { items:=[(LB,⟨#[120]⟩)],aN:=⟨#[116]⟩,aP:=[Ux] }
theorem Y2:Lz (LA cA::Y1) kcQ [Uv]:=
 Ue rfl rfl (λ ρ w h=>V7 rfl rfl rfl aeU ρ w h) rfl rfl rfl rfl rfl rfl ajr rfl rfl rfl rfl
theorem Yh (w:World):Calls Tryz.prog 33 #[.string ⟨#[115,101,108,101,99,116,32,97,43,49,42,50,32,97,115,32,120,32,102,114,111,109,32,116,32,119,104,101,114,101,32,110,111,116,32,98,32,105,115,32,110,117,108,108]⟩] w (aeM kcQ w):=by
 have hl:(match kP ([115,101,108,101,99,116,32,97,43,49,42,50,32,97,115,32,120,32,102,114,111,109,32,116,32,119,104,101,114,101,32,110,111,116,32,98,32,105,115,32,110,117,108,108]:List UInt8)with | .ok l=>l.map (·.w)| .error _=> [])=LA cA::Y1:=by kernel_rfl
 cases e:kP ([115,101,108,101,99,116,32,97,43,49,42,50,32,97,115,32,120,32,102,114,111,109,32,116,32,119,104,101,114,101,32,110,111,116,32,98,32,105,115,32,110,117,108,108]:List UInt8)with
 | error x=>rw[e] at hl;cases hl
 | ok l=>rw[e] at hl;exact Ye _ w Tac e hl rfl Y2 rfl Tac (by simp[FD,kcQ,LB,Ux,Uw,St.exprs,Qu.exprs,mB,oM,ui,Tr.thin,Tr.gT,Tr.depth,Tr.ko])
end Go.Proofs.YtehhdlgjfdnafaaGreatDoor
