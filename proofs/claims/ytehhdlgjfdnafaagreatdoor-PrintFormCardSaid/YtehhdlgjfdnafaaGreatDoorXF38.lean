/- Parts of the proof. -/
import Derived.Test.YtehhdlgjfdnafaaGreatDoorXF33
import Derived.Test.YtehhdlgjfdnafaaGreatDoorXF34
namespace Go.Proofs.YtehhdlgjfdnafaaGreatDoor
set_option maxHeartbeats 90000000
set_option maxRecDepth 100000
open Go.Lib (hid)
open Go.ChangeShapes Go.WideShapes Go.ChangeAt Go.RowKit List
set_option linter.unusedVariables false
set_option linter.unusedSimpArgs false
theorem UZ (qy:mv):Tryz.prog.built 34 [(0,.int .u8 8),(7,IU qy)]=some (cd { kind:=8,query:=qy }).toArray:=by kernel_rfl
def PG (l:aK)(d:Qu)(r:aK):Prop:=∀(ρ:bw) (w:World),ρ.at w (.good l) false->Calls Tryz.prog 127 #[ρ.ptr] w λ e w'=>∃y:mv,e=.returned (IU y)/\d.at_ w' (eI w.heap.size w') y/\iJ ρ w w' (.good r) false
def JB (d:Qu):St:= { kind:=8,query:=d }
variable{t:Wd}{l r:aK}{d:Qu}
theorem ZM(hse:gV dw t=true)(H:PG (t::l) d r)(ρ:bw)(w:World)(h:ρ.at w (.good (t::l)) false):
  Calls Tryz.prog 76 #[ρ.ptr] w λ e w'=>∃y:mv,e=.returned (mK { kind:=8,query:=y })/\d.at_ w' (eI w.heap.size w') y/\iJ ρ w w' (.good r) false:=by
 have br:=h.od;obtain⟨tk,pl,bd,hpl,hlt,hsm,BH,fG,hg,Bd,Cf,hp⟩:=h.mN;obtain⟨r',tE⟩:=hg (t::l) rfl;injection tE with AD htr;have hb:=af.then (aa w Xj) (aa _ Xj);have h0:=h.later hb;have HQ0:=(av.new w 34 Y0).alloc Xj;have HQ:=hid HQ0;have HH:=hid h;have HR:=hid H;have arf:=hid (show(eu.good (t::l)).head (⟨#[115,101,108,101,99,116]⟩:ByteArray).data.toList=true from hse);clear HQ0 h hg fG BH hse hpl H;rw[show Obj.cells Y0 34=Xj from rfl] at HQ;unfold Xj at*;clear htr;go_enter Tryz.func76,Tryz.ntmps76;go_wp2_with fail;refine(zN ρ _ _ false h0 ⟨#[115,101,108,101,99,116]⟩).mono ?_;rintro e w1 ⟨rfl,b1⟩;rw[arf.out];have hb1:=af.then hb b1
 have qF:=hid (HQ.out.later b1);clear HQ h0 b1 hb AD hp;go_wp2_with fail;refine(HR.out ρ _ (HH.out.later hb1)).mono ?_;rintro e w3 ⟨qy,rfl,hqd,d3⟩;have HQ:=hid (d3.blk qF.out Taa);have HD:=hid ((iJ.aF HH.out hb1).trans d3);have HS:=hid hqd;have hs9:w.heap.size+1<=w1.heap.size:=qF.out.lt;clear d3 hqd qF HH;go_wp2_with (first
  |(refine zU rfl 34 _ rfl (cs:=(cd { kind:=8,query:=qy }).toArray) ?hv ?_;rotate_left)
  |(refine wpList_store_row rfl 34 (.tmp 2) (.tmp 8) rfl w.heap.size (cd { kind:=8,query:=qy }).toArray rfl rfl 34 Y0 HQ.out TaG rfl (PB _) ?_
    have HR:=hid (HQ.out.row (cd { kind:=8,query:=qy }).toArray)
    have HF:=hid (HD.out.row br (Nat.le_refl _) (cd { kind:=8,query:=qy }).toArray)
    have vp:=hid (Qu.at_.keep (ir (show w.heap.size<=w.heap.size+1 by omega)) (Qu.at_.keep (iZ w3 (show w.heap.size < w.heap.size+1 by omega) (cd { kind:=8,query:=qy }).toArray) (Qu.at_.keep (ir hs9) HS.out)))))
 case hv=>exact UZ qy
 exact bodyPost_ret (v:=mK { kind:=8,query:=qy }) (results_cell_row Tryz.results76 _ _ w.heap.size 34 (cd { kind:=8,query:=qy }).toArray (0,0) _ rfl HR.out Tryz.underlying34 rfl TaG) rfl ⟨qy,rfl,vp.out,HF.out⟩
variable{w:World}{S:Nat->Prop}{y:mv}
theorem RB(h:d.at_ w S y):(JB d).at_ w S { kind:=8,query:=y }:=
 { St.kV w S with kind:=rfl,query:=h }
def alV (d:Qu)(w:World)(e:Ending)(w':World):Prop:=∃y:mv,e=.returned (.tuple #[mK { kind:=8,query:=y },.int .i64 0,.int .i64 0])/\d.at_ w' (eI w.heap.size w') y/\Below w.heap.size w w'
variable{t0:Wd}{r0:aK}
theorem aaY(s:ByteArray)(w:World)(hs:s.size<=4294967280) {l:List na}(hl:kO s.data.toList=.ok l)   (hw:l.map (·.w)=t0::r0)(hse:gV dw t0=true)(H:PG (t0::r0) d (t::r))(hk:t.k=0)(AQ:(JB d).exprs.length<=1000)(hdx:∀x∈(JB d).exprs,x.thin/\x.depth<=32):Calls Tryz.prog 33 #[.string s] w (alV d w):=by
 obtain⟨_,hlen,hwd⟩:=yC hl;have hne:l≠ []:=by intro h;rw[h] at hw;cases hw
 have HSE:=hid (λ ρ w h=>ZM hse H ρ w h);have HEN:=hid (GJ hl);have Yf:=hid hwd;have HWS:=hid hw;have Tq:=hid hdx;have HNX:=hid AQ;have HK:=hid hk;clear hwd hw hdx AQ hse H hk;have HQ0:=av.new w 34 Y0;rw[show Obj.cells Y0 34=Xj from rfl] at HQ0;have HQ:=hid HQ0;clear HQ0;unfold Xj at*;go_enter Tryz.func33,Tryz.ntmps33;go_wp2_with fail;refine(aaX hl hs).mono ?_;rintro e w1 ⟨A,c,rfl,ht,b1⟩;obtain⟨gl,rfl,hgb,xk,hc⟩:=ht.cells hne;have qF:=hid (HQ.out.later b1);have HB:=hid (af.then (aa w _) b1);have hR:=bw.start (c:=c) xk hc HEN.out hlen Yf.out;rw[HWS.out] at hR;have HR:=hid hR;have CJ:w.heap.size < w1.heap.size:=qF.out.lt;clear ht hc b1 HQ hR hgb hne;go_wp2_with fail;refine(HSE.out ⟨w1.heap.size,gl,c,l⟩ _ HR.out).mono ?_;rintro e w2 ⟨qy,rfl,hat,dd⟩;obtain⟨y,hy⟩:∃y:gT,y= { kind:=8,query:=qy }:=⟨_,rfl⟩;rw[<- hy];have HY:=hid hy;clear hy;rw[show(w1.alloc _).heap.size=w1.heap.size+1 by simp] at hat;have mm:w1.heap.size <(w1.alloc (.cells #[.slice (some ⟨gl,0,none⟩) l.length c,.int .i64 0,.int .i64 (-1),.bool false] 125)).heap.size:=by simp
 have hq2:=dd.blk (qF.out.alloc _) Tbg;have hs2:w1.heap.size+1<=w2.heap.size:=by have:=dd.size;simpa using this
 have kt:=hid ((dd.later (aa w2 Xj)).row mm (by rw[show(w1.alloc _).heap.size=w1.heap.size+1 by simp];exact hs2) (cd y).toArray);have HY3:=hid ((av.new w2 34 Y0).row (cd y).toArray);have nh:=hid ((hq2.alloc Xj).ig (q:=w2.heap.size) Taa (cd y).toArray);have alX:=hid (Qu.at_.keep (Ma w2 Xj (cd y).toArray) hat);have vT:=hid (show Below w.heap.size w (w1.alloc (.cells #[.slice (some ⟨gl,0,none⟩) l.length c,.int .i64 0,.int .i64 (-1),.bool false] 125))from af.then HB.out (aa w1 _));clear dd hat hq2 qF HR HB;rw[show(Obj.cells Y0 34)=Xj from rfl] at HY3;unfold Xj at*;go_wp2_with (first
  |(refine wpList_store_row rfl 34 (.tmp 9) (.tmp 27) rfl w2.heap.size (cd y).toArray rfl rfl 34 Y0 (av.new w2 34 Y0) TaG rfl (PB _) ?_))
 generalize ((w2.alloc _).setRow _ _)=W3 at*;refine(iW ⟨w1.heap.size,gl,c,l⟩ _ _ _ kt.out.at_ ⟨#[59]⟩ (by show((t.k==1 || t.k==4)&& t.s==zF)=false;rw[HK.out];rfl)).mono ?_;rintro e w4 ⟨rfl,d4⟩;have qh:=hid (kt.out.trans d4);have Fy:=hid (d4.blk nh.out Tbg);have HY4:=hid (d4.blk HY3.out (by show w2.heap.size≠w1.heap.size;omega));have Ls:=hid (Qu.at_.keep (fe d4.grown (show w1.heap.size < w1.heap.size+1 by omega)) alX.out);clear d4 kt nh HY3 alX;have HB4:=hid (vT.out.trans (aQ qh.out.grown vT.out.size (by show w.heap.size<=w1.heap.size;omega)));obtain⟨tk,pl,bd,hpl,alY,hsm,BH,fG,hg,Bd,Cf,hp⟩:=qh.out.at_.mN;obtain⟨r',tE⟩:=hg _ rfl;injection tE with AD _;have hk:=HK.out;rw[AD] at hk;obtain rfl:bd= -1:=BH;obtain⟨c0,c1,c2,k0,k1,k2,k3⟩:=hp;simp only at c0 c1 c2 k0 k1 k2 k3;have alY:pl < l.length:=alY;have axZ:(pl:Int)< l.length:=by omega
 clear hg fG hpl AD;rw[hk] at k0;have c3:=qh.out.at_.facts.2.2.2.1;simp only at c3;clear qh hl hk;go_wp2_with (first
  |(refine wpList_load_row rfl 34 (.tmp 9) rfl w2.heap.size rfl 34 (cd y).toArray (0,0) _ HY4.out Tryz.underlying34 rfl TaG ?_))
 clear c0 c1 c2 c3 k0 k1 k2 k3;have HAS:=hid (show(JB d).at_ w4 (eI (w1.heap.size+1) w4) y by rw[HY.out];exact RB Ls.out);refine(LZ w4 (JB d) y (eI (w1.heap.size+1) w4) (λ b hb=>hb.2) HAS.out (by have:=HNX.out;omega) (by simp[JB])).mono ?_;rintro e w5 ⟨⟨sA,sn,sc⟩,rfl,hn,ki,b5⟩;obtain⟨_,ys,wq,hall⟩:=ki;unfold fN;have HQ5:=hid (Fy.out.later b5);have HY5:=hid (HY4.out.later b5);have ark:=hid (Qu.at_.keep (eJ b5) Ls.out);have Va:=hid (af.then HB4.out b5);have Vb:=hid wq;have NW:=hid hall;have HNL:=hid hn;have hml:sn<=1000:=by rw[show sn=_ from HNL.out];exact HNX.out
 simp only at Vb HNL;clear b5 wq hall hn Fy HY4 Ls HB4 HAS;go_wp2_with fail;go_loopw [11] (λ u wr=>∃i:Nat,i<=sn/\u=.int .i64 i/\Below w5.heap.size w5 wr) (λ u _=>sn - (intOf u).toNat);case atStart=>exact⟨0,Nat.zero_le _,rfl,Below.refl _ _⟩
 case round=>
  obtain⟨i,hi,rfl,iV⟩:=hrel;have nI:=hid iV;have HQr:=hid (HQ5.out.later iV);have HYr:=hid (HY5.out.later iV);by_cases hlt:i < sn
  ·obtain⟨x,hx⟩:∃x,(JB d).exprs[i]?=some x:=⟨_,getElem?_eq_getElem (by have:=HNL.out;omega)⟩;obtain⟨yx,hyx⟩:∃yx,ys[i]?=some yx:=⟨_,getElem?_eq_getElem (by have h1:=NW.out.len;have h2:=HNL.out;omega)⟩;have alZ:x.at_ w5 (eI 0 w5) yx:=uk NW.out hx hyx;have aba:=Tq.out x (mem_of_getElem? hx);have Tq:=hid (Tr.alj (w:=w5) (S:=eI 0 w5) (λ b hb=>hb.2) x yx alZ aba.1 (by have:=aba.2;omega) wr iV);rcases Vb.out with h0 |⟨b,off,mg,kM,hcell⟩
   ·subst h0;simp at hyx
   have hcell:=λ j u hu=>(iV.cell (p:=⟨b,off+i*7+j,none⟩) kM.2).trans (hcell i yx j u hyx hu)
   have q0:=hcell 0 _ rfl;have q1:=hcell 1 _ rfl;have q2:=hcell 2 _ rfl;have q3:=hcell 3 _ rfl;have q4:=hcell 4 _ rfl;have q5:=hcell 5 _ rfl;have q6:=hcell 6 _ rfl;simp only[Nat.add_zero] at q0;have hdi:¬((x.depth:Int)> 32):=by have:=aba.2;omega
   clear hcell hx hyx alZ aba;subst mg;go_wp2_with fail;clear q0 q1 q2 q3 q4 q5 q6;refine Tq.out.mono ?_;rintro e w6 ⟨rfl,b6⟩;go_wp2_with fail;go_roundw;case rel=>exact⟨i+1,by omega,by go_num,nI.out.trans (b6.mono nI.out.size)⟩
   case measure=>exact Zcs
  ·obtain rfl:i=sn:=by omega
   have arl:=hid (Qu.at_.keep (eJ iV) ark.out);have HBr:=hid (af.then Va.out iV);clear iV;go_wp2_with (first
    |(refine wpList_load_row rfl 34 (.tmp 9) rfl w2.heap.size rfl 34 (cd y).toArray (0,0) _ HYr.out Tryz.underlying34 rfl TaG ?_)
    |(refine wpList_store_row rfl 34 (.tmp 2) (.tmp 82) rfl w.heap.size (cd y).toArray rfl rfl 34 Y0 HQr.out TaG rfl (PB _) ?_
      have HR9:=hid (HQr.out.row (cd y).toArray)
      have ru:=hid (show Qu.at_ (wr.setRow w.heap.size (cd y).toArray) (eI w.heap.size (wr.setRow w.heap.size (cd y).toArray)) d qy from Qu.at_.keep (ir (show w.heap.size<=w1.heap.size+1 by omega)) (Qu.at_.keep (iZ wr (show w.heap.size < w1.heap.size+1 by omega) (cd y).toArray) arl.out))
      have HB9:=hid (HBr.out.trans (aQ (cP wr w.heap.size (cd y).toArray) HBr.out.size (Nat.le_refl _)))))
   exact bodyPost_ret (v:=.tuple #[mK y,.int .i64 0,.int .i64 0]) (Jx Tryz.results33 _ _ w.heap.size 34 (cd y).toArray (0,0) _ (.int .i64 0) (.int .i64 0) rfl HR9.out Tryz.underlying34 rfl (by rw[show Array.size (cd y).toArray=28 from rfl];exact su) rfl rfl) rfl ⟨qy,by rw[HY.out],ru.out,HB9.out⟩
def knB (t:Wd):Bool:=t.k==1 && !kP t.s && !gV eK t && !gV eh t && !gV bT t && !gV bG t && !gV eC t && !gV dP t
theorem JC(h:knB t=true):adt t/\t.k=1/\kP t.s=false/\gV eC t=false/\gV dP t=false:=by simp only[knB,Bool.and_eq_true,beq_iff_eq,Bool.not_eq_true'] at h;obtain⟨⟨⟨⟨⟨⟨⟨k,a⟩,b⟩,c⟩,d⟩,e⟩,f⟩,g⟩:=h;exact⟨⟨⟨by omega,by omega⟩,b,c,d,e⟩,k,a,f,g⟩
abbrev PH (s:List UInt8):Wd:=⟨1,s,0⟩
abbrev kcG (s:List UInt8):Wd:=⟨4,s,0⟩
abbrev kcI (n:Int):Wd:=⟨2,[],n⟩
abbrev ZN:Wd:=⟨0,[],0⟩
variable{u:Wd}
theorem amb(r:aK)(h:knB t=true)(ho:gV bG u=false):fO 6 (t::u::r) (rV ⟨t.s.toArray⟩) (u::r):=
 adI (JC h).2.2.2.2 (adJ (Zr (JC h).1 (JC h).2.1 (JC h).2.2.1 ho))
variable{n:Int}
theorem amc(r:aK):fO 6 (kcI n::r) (mI ⟨2,n,ByteArray.empty⟩) r:=
 adI rfl (adJ (Zp rfl))
def ZO (n:Int):Tr:=mI ⟨2,n,ByteArray.empty⟩
def PI:Tr:=lO 5 [rV ⟨#[97]⟩,lO 7 [ZO 1,ZO 2]]
def ZP:Tr:=lO 4 [lO 18 [rV ⟨#[98]⟩]]
abbrev amd:aK:=[PH [98],PH mz,PH bT,ZN]
abbrev ame:aK:=PH cD::PH [116]::PH dB::PH eC::amd
abbrev agw:aK:=PH [97]::kcG [43]::kcI 1::kcG [42]::kcI 2::PH mA::PH [120]::ame
theorem amf:fO 0 agw PI (PH mA::PH [120]::ame):=
 mQ 0 (.inl rfl) rfl (mQ 1 (.inr (.inl rfl)) rfl (adH rfl (alx rfl rfl (Zs 4 (.inr (.inr (.inl rfl))) 5 Tab Tab rfl rfl (mQ 5 (.inr (.inr (.inr rfl))) rfl (amb _ rfl rfl)) (Zs 5 (.inr (.inr (.inr rfl))) 7 Tab Tab rfl rfl (amc _) (amc _))))))
theorem arp:fO 0 (PH eC::amd) ZP [ZN]:=
 mQ 0 (.inl rfl) rfl (mQ 1 (.inr (.inl rfl)) rfl (alE rfl (adH rfl (alB rfl rfl rfl (mQ 4 (.inr (.inr (.inl rfl))) rfl (mQ 5 (.inr (.inr (.inr rfl))) rfl (amb _ rfl rfl)))))))
def kcQ:Qu:= { items:=[(PI,⟨#[120]⟩)],aP:=⟨#[116]⟩,aS:=[ZP] }
theorem agx:PG (PH dw::agw) kcQ [ZN]:=
 Zv rfl rfl (λ ρ w h=>ago rfl rfl rfl amf ρ w h) rfl rfl rfl rfl rfl rfl arp rfl rfl rfl rfl
theorem abb (w:World):Calls Tryz.prog 33 #[.string ⟨#[115,101,108,101,99,116,32,97,43,49,42,50,32,97,115,32,120,32,102,114,111,109,32,116,32,119,104,101,114,101,32,110,111,116,32,98,32,105,115,32,110,117,108,108]⟩] w (alV kcQ w):=by
 have hl:(match kO ([115,101,108,101,99,116,32,97,43,49,42,50,32,97,115,32,120,32,102,114,111,109,32,116,32,119,104,101,114,101,32,110,111,116,32,98,32,105,115,32,110,117,108,108]:List UInt8)with | .ok l=>l.map (·.w)| .error _=> [])=PH dw::agw:=by kernel_rfl
 cases e:kO ([115,101,108,101,99,116,32,97,43,49,42,50,32,97,115,32,120,32,102,114,111,109,32,116,32,119,104,101,114,101,32,110,111,116,32,98,32,105,115,32,110,117,108,108]:List UInt8)with
 | error x=>rw[e] at hl;cases hl
 | ok l=>rw[e] at hl;exact aaY _ w Tab e hl rfl agx rfl Tab (by simp[JB,kcQ,PI,ZP,ZO,St.exprs,Qu.exprs,lO,mI,rV,Tr.thin,Tr.iP,Tr.depth,Tr.mb])
end Go.Proofs.YtehhdlgjfdnafaaGreatDoor
