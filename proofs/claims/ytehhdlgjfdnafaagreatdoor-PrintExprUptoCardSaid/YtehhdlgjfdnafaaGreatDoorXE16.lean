/- Parts of the proof. -/
import Derived.Test.YtehhdlgjfdnafaaGreatDoorXE13
namespace Go.Proofs.YtehhdlgjfdnafaaGreatDoor
variable{p:Prop}
set_option maxHeartbeats 90000000
set_option maxRecDepth 100000
open Go.Lib (hid)
open Go.ChangeShapes Go.WideShapes Go.ChangeAt Go.RowKit List
set_option linter.unusedVariables false
set_option linter.unusedSimpArgs false
theorem zeO.Kbh(h:p:=by refine bodyPost_ret (v:=dA y) (results_cell_row Tryz.results154 _ _ w.heap.size 36 (aL y).toArray (0,0) _ rfl HR.out Tryz.underlying36 rfl aC) rfl ?_;exact Zgk):p:=h
theorem zbZ.Kas(h:p:=by
 have lW:((w.alloc (.cells dz 36)).alloc (.cells (opsV (opsL 0)) 199)).heap.size=w.heap.size+2:=by simp
 rw[show opsV (opsL 0)= #[.string ⟨#[111,114]⟩,.int .u8 17] from rfl] at hm lW;clear h hb yC IH hsz;unfold dz at hm lW;go_enter Tryz.func154,Tryz.ntmps154;go_wp2_with fail;refine hm.mono ?_;clear hm;intro e w2 hp;rcases hp.cases with ⟨t,r,v,ay,rfl,y,rfl,hat,d2⟩|⟨m,au,rfl,hg⟩
 ·open zeO in exact Zcq
 ·exact ZbT):p:=h
theorem Ym (ρ:bj)(w:World)(l:aF)(lg dp:Bool)(h:ρ.fy w l lg dp)(IH:Nj ρ (8*l.length+7)):
  Calls Tryz.prog 154 #[ρ.ptr] w (eR ρ w lg dp (aO 0) l):=by
 have aZ:=h.mE;have hsz:(w.alloc (.cells dz 36)).heap.size=w.heap.size+1:=by simp
 have hb:=af.then (aa w (.cells dz 36)) (aa _ (.cells (opsV (opsL 0)) 199));have yC:=av.new (w.alloc (.cells dz 36)) 199 (opsV (opsL 0));have HQ:=hid ((av.new w 36 dz).alloc (.cells (opsV (opsL 0)) 199));have HD:=hid (aU.aA h hb);rw[hsz] at yC;have hm:=tG ρ _ l lg dp (h.later hb) 0 180 (enters_of Tryz.func180 Tab rfl) (λ l' W hl hW=>IH 1 l' W lg dp Taa Taa hW) (w.heap.size+1) 1 rfl yC Taa Taa;rw[<- yZ] at hm;open zbZ in exact ZaH
theorem zeP.Kbh(h:p:=by refine bodyPost_ret (v:=dA y) (results_cell_row Tryz.results180 _ _ w.heap.size 36 (aL y).toArray (0,0) _ rfl HR.out Tryz.underlying36 rfl aC) rfl ?_;exact Zgk):p:=h
theorem zb0.Kas(h:p:=by
 have lW:((w.alloc (.cells dz 36)).alloc (.cells (opsV (opsL 1)) 199)).heap.size=w.heap.size+2:=by simp
 rw[show opsV (opsL 1)= #[.string ⟨#[97,110,100]⟩,.int .u8 16] from rfl] at hm lW;clear h hb yC IH hsz;unfold dz at hm lW;go_enter Tryz.func180,Tryz.ntmps180;go_wp2_with fail;refine hm.mono ?_;clear hm;intro e w2 hp;rcases hp.cases with ⟨t,r,v,ay,rfl,y,rfl,hat,d2⟩|⟨m,au,rfl,hg⟩
 ·open zeP in exact Zcq
 ·exact ZbT):p:=h
theorem Yn (ρ:bj)(w:World)(l:aF)(lg dp:Bool)(h:ρ.fy w l lg dp)(IH:Nj ρ (8*l.length+6)):
  Calls Tryz.prog 180 #[ρ.ptr] w (eR ρ w lg dp (aO 1) l):=by
 have aZ:=h.mE;have hsz:(w.alloc (.cells dz 36)).heap.size=w.heap.size+1:=by simp
 have hb:=af.then (aa w (.cells dz 36)) (aa _ (.cells (opsV (opsL 1)) 199));have yC:=av.new (w.alloc (.cells dz 36)) 199 (opsV (opsL 1));have HQ:=hid ((av.new w 36 dz).alloc (.cells (opsV (opsL 1)) 199));have HD:=hid (aU.aA h hb);rw[hsz] at yC;have hm:=tG ρ _ l lg dp (h.later hb) 1 202 (enters_of Tryz.func202 Tab rfl) (λ l' W hl hW=>IH 2 l' W lg dp Taa Taa hW) (w.heap.size+1) 1 rfl yC Taa Taa;rw[<- za] at hm;open zb0 in exact ZaH
theorem zb1.Kas(h:p:=by
 have lW:((w.alloc (.cells dz 36)).alloc (.cells (opsV (opsL 4)) 199)).heap.size=w.heap.size+2:=by simp
 rw[show opsV (opsL 4)= #[.string ⟨#[43]⟩,.int .u8 5,.string ⟨#[45]⟩,.int .u8 6] from rfl] at hm lW;clear h hb yC IH hsz;unfold dz at hm lW;go_enter Tryz.func232,Tryz.ntmps232;go_wp2_with fail;refine hm.mono ?_;clear hm;intro e w2 hp;rcases hp.cases with ⟨t,r,v,ay,rfl,y,rfl,hat,d2⟩|⟨m,au,rfl,hg⟩
 ·have eC:=hid (HD.out.trans d2);have jw:=hid (d2.blk HQ.out Taa);have iO:=hid (hat.more (show w.heap.size+1<=_ by omega));have iI:=hid ay;clear hp d2 hat ay HQ HD lW;go_wp2_with (first
   |(refine wpList_store_row rfl 36 (.tmp 2) (.tmp 9) rfl w.heap.size (aL y).toArray rfl rfl 36 dz jw.out aC rfl (cD _) ?_
     have HR:=hid (jw.out.row (aL y).toArray)))
  refine bodyPost_ret (v:=dA y) (results_cell_row Tryz.results232 _ _ w.heap.size 36 (aL y).toArray (0,0) _ rfl HR.out Tryz.underlying36 rfl aC) rfl ?_;exact Zgk
 ·exact ZbT):p:=h
theorem Yo (ρ:bj)(w:World)(l:aF)(lg dp:Bool)(h:ρ.fy w l lg dp)(IH:Nj ρ (8*l.length+3)):
  Calls Tryz.prog 232 #[ρ.ptr] w (eR ρ w lg dp (aO 4) l):=by
 have aZ:=h.mE;have hsz:(w.alloc (.cells dz 36)).heap.size=w.heap.size+1:=by simp
 have hb:=af.then (aa w (.cells dz 36)) (aa _ (.cells (opsV (opsL 4)) 199));have yC:=av.new (w.alloc (.cells dz 36)) 199 (opsV (opsL 4));have HQ:=hid ((av.new w 36 dz).alloc (.cells (opsV (opsL 4)) 199));have HD:=hid (aU.aA h hb);rw[hsz] at yC;have hm:=tG ρ _ l lg dp (h.later hb) 4 237 (enters_of Tryz.func237 Tab rfl) (λ l' W hl hW=>IH 5 l' W lg dp Taa Taa hW) (w.heap.size+1) 2 rfl yC Taa Taa;rw[<- ze] at hm;open zb1 in exact ZaH
theorem zb2.Kas(h:p:=by
 have lW:((w.alloc (.cells dz 36)).alloc (.cells (opsV (opsL 5)) 199)).heap.size=w.heap.size+2:=by simp
 rw[show opsV (opsL 5)= #[.string ⟨#[42]⟩,.int .u8 7,.string ⟨#[47]⟩,.int .u8 8,.string ⟨#[37]⟩,.int .u8 9] from rfl] at hm lW;clear h hb yC IH hsz;unfold dz at hm lW;go_enter Tryz.func237,Tryz.ntmps237;go_wp2_with fail;refine hm.mono ?_;clear hm;intro e w2 hp;rcases hp.cases with ⟨t,r,v,ay,rfl,y,rfl,hat,d2⟩|⟨m,au,rfl,hg⟩
 ·have eC:=hid (HD.out.trans d2);have jw:=hid (d2.blk HQ.out Taa);have iO:=hid (hat.more (show w.heap.size+1<=_ by omega));have iI:=hid ay;clear hp d2 hat ay HQ HD lW;go_wp2_with (first
   |(refine wpList_store_row rfl 36 (.tmp 2) (.tmp 10) rfl w.heap.size (aL y).toArray rfl rfl 36 dz jw.out aC rfl (cD _) ?_
     have HR:=hid (jw.out.row (aL y).toArray)))
  refine bodyPost_ret (v:=dA y) (results_cell_row Tryz.results237 _ _ w.heap.size 36 (aL y).toArray (0,0) _ rfl HR.out Tryz.underlying36 rfl aC) rfl ?_;exact Zgk
 ·exact ZbT):p:=h
theorem Yp (ρ:bj)(w:World)(l:aF)(lg dp:Bool)(h:ρ.fy w l lg dp)(IH:Nj ρ (8*l.length+2)):
  Calls Tryz.prog 237 #[ρ.ptr] w (eR ρ w lg dp (aO 5) l):=by
 have aZ:=h.mE;have hsz:(w.alloc (.cells dz 36)).heap.size=w.heap.size+1:=by simp
 have hb:=af.then (aa w (.cells dz 36)) (aa _ (.cells (opsV (opsL 5)) 199));have yC:=av.new (w.alloc (.cells dz 36)) 199 (opsV (opsL 5));have HQ:=hid ((av.new w 36 dz).alloc (.cells (opsV (opsL 5)) 199));have HD:=hid (aU.aA h hb);rw[hsz] at yC;have hm:=tG ρ _ l lg dp (h.later hb) 5 240 (enters_of Tryz.func240 Tab rfl) (λ l' W hl hW=>IH 6 l' W lg dp Taa Taa hW) (w.heap.size+1) 3 rfl yC Taa Taa;rw[<- zf] at hm;open zb2 in exact ZaH
theorem zhd.Kck(h:p:=by
 have HE:=hid (Yv (W:=aO 0) Yx.out TaV dM ej iZ mi);go_wp2_with fail;refine(IH 0 l.tail W5 lg dp Taa Taa BP.out.at_).mono ?_;intro e w6 hp;rcases hp.cases with ⟨t6,r6,v,ay,rfl,y,rfl,hat,d⟩|⟨m,au,rfl,hg⟩;case inr=>have HF:=hid (HE.out.trans (ak au));have HG:=hid BP.out.grown;clear hp au;go_wp2_with fail;exact aj rfl (bl HF.out HG.out hg)
 have HE6:=hid (HE.out.trans (ag ay));have hq5:=Yf.out.lt;have hx:=aa w6 (.cells (aL y).toArray 36);have hD6:=(BP.out.trans d).later hx;have Cs:=hid ((d.blk Yf.out Taa).later hx);have XR:=hid (av.new w6 36 (aL y).toArray);have HT6:=hid ((hat.more (show w.heap.size+1<=W5.heap.size by omega)).later hx);have Jz:=hid hD6;have hq6:w.heap.size < w6.heap.size:=by have:=d.size;omega
 clear hp ay hx hD6 d hat BP Yf HE;unfold dA;unfold aL at*;go_upto_region 16 with fail;generalize (World.alloc _ _)=W6 at*;generalize w6.heap.size=qx at*;have hb:=aa W6 (.cells (aK [aG]) 9);have uK:=Jz.out.lt;have HB:=hid (Jz.out.later hb);have UK:=hid (Cs.out.later hb);have Ut:=hid (XR.out.later hb);have HT7:=hid (HT6.out.later hb);have hm:=aR ρ _ _ lg dp HB.out.at_ [aG] W6.heap.size 1 rfl (av.new W6 _ _) Taa Taa;clear hb Jz Cs XR HT6;unfold aK strOf at*;simp only[map_cons,map_nil] at hm HB UK Ut HT7;rw[show aG.toArray= #[41] from rfl] at hm HB UK Ut HT7;go_wp2_with fail;refine hm.mono ?_;clear hm;intro e w8 hp;rcases hp.cases with ⟨_,r8,v,ay,rfl,rfl,d⟩|⟨m,au,rfl,hg⟩;case inr=>have HF:=hid (HE6.out.trans (ak (show must aG r6=.error m by rw[<- ax];exact au)));have HG:=hid HB.out.grown;clear hp au;go_wp2_with fail;exact aj rfl (bl HF.out HG.out hg)
 have jx:must aG r6=.ok ((),r8):=by rw[<- ax];exact ay
 have HE8:=hid (HE6.out.trans (ag jx));have HD8:=hid (HB.out.trans d);have XX:=hid (d.blk UK.out Taa);have HX8:=hid (d.blk Ut.out Taa);have HT8:=hid (HT7.out.grown d.grown Taa);clear hp ay jx d HB UK Ut HT7 HE6;go_wp2_with (first
  |(refine wpList_load_row rfl 36 (.tmp 4) rfl qx rfl 36 (aL y).toArray (0,0) _ HX8.out Tryz.underlying36 rfl aC ?_)
  |(refine wpList_store_row rfl 36 (.tmp 2) (.tmp 61) rfl w.heap.size (aL y).toArray rfl rfl 36 dz XX.out aC rfl (cD _) ?_
    have HR:=hid (XX.out.row (aL y).toArray)))
 refine bodyPost_ret (v:=dA y) (results_cell_row Tryz.results241 _ _ w.heap.size 36 (aL y).toArray (0,0) _ rfl HR.out Tryz.underlying36 rfl aC) rfl ?_;exact bM aZ HD8.out HT8.out (HE8.out.trans rfl)):p:=h
theorem zcm.Kav(h:p:=by rw[show(⟨#[40]⟩:ByteArray).data.toList=bp from rfl,mi,cg mi] at hm;open zhd in exact ZfX):p:=h
theorem zaL.Kad(h:p:=by open zcm in exact ZaL):p:=h
theorem IU (ρ:bj)(w:World)(l:aF)(lg dp:Bool)(h:ρ.fy w l lg dp)(hk:∀t r,l=t::r->t.k≠2/\t.k≠3)(dM:ar dZ l=false)(ej:ar dI l=false)(iZ:ar bE l=false)(mi:ar bp l=true)(IH:Nj ρ (8*l.length)):
  Calls Tryz.prog 241 #[ρ.ptr] w (eR ρ w lg dp (ek (aO 0)) l):=by have Yx:=hid hk;have Rb:=nP mi;open zaL in exact Zag
theorem zhe.Kck(h:p:=by
 have HE:=hid (UJ (W:=aO 0) Yx.out TaV dM ej iZ mi);go_wp2_with fail;refine(dN ρ W5 l lg dp BP.out.at_).mono ?_;intro e w6 hp;rcases hp.cases with ⟨nm,r6,v,ay,rfl,rfl,d⟩|⟨m,au,rfl,hg⟩;case inr=>have HF:=hid (HE.out.trans (Z8 au));have HG:=hid BP.out.grown;clear hp au;go_wp2_with fail;exact aj rfl (bl HF.out HG.out hg)
 have hl6:r6.length<=l.length:=jN.len ay;have hq5:=Yf.out.lt;have Jz:=hid (BP.out.trans d);have Cs:=hid (d.blk Yf.out Taa);have iI:=hid ay;have hm:=bk ρ w6 r6 lg dp Jz.out.at_ ⟨#[40]⟩;rw[show(⟨#[40]⟩:ByteArray).data.toList=bp from rfl] at hm;clear hp ay d BP Yf;cases ho:ar bp r6
 ·rw[ho,bS ho] at hm;have HF:=hid (HE.out.trans (Z9 iI.out ho));clear ho;go_wp2_with fail;refine hm.mono ?_;clear hm;rintro e w7 ⟨rfl,d⟩;have Yy:=hid (Jz.out.trans d);have UK:=hid (d.blk Cs.out Taa);clear d Jz Cs;go_wp2_with (first
   |(refine wpList_store_row rfl 36 (.tmp 2) (.tmp 68) rfl w.heap.size (aL (Yw nm)).toArray rfl rfl 36 dz UK.out aC rfl (cD _) ?_
     have HR:=hid (UK.out.row (aL (Yw nm)).toArray)))
  refine bodyPost_ret (v:=dA (Yw nm)) (results_cell_row Tryz.results241 _ _ w.heap.size 36 (aL (Yw nm)).toArray (0,0) _ rfl HR.out Tryz.underlying36 rfl aC) rfl ?_;exact bM aZ Yy.out (RO _ _ nm) HF.out
 ·rw[ho,cg ho] at hm;have HF:=hid (HE.out.trans (aaa iI.out ho));have hhl:=nP ho;obtain⟨t0,q0,hr6,ht0⟩:=ez ho;have H0:=hid (show(dO.good (t0::r6.tail)).of ρ.ws by have:=Jz.out.at_.of;rw[hr6] at this ⊢;exact this);clear ho hr6;go_wp2_with fail;refine hm.mono ?_;clear hm;rintro e w7 ⟨rfl,d⟩;have Yy:=hid (Jz.out.trans d);have UK:=hid (d.blk Cs.out Taa);clear d Jz Cs;generalize hW7:w7=W7 at*;clear hW7;have aqm:r6.tail.length < l.length:=by omega
  generalize r6.tail=r7 at*;have aqn:=Yy.out.at_.left;obtain⟨c0,c1,c2,c3,f1,f2,f3⟩:=Yy.out.at_.facts;have e7:(ρ.n:Int) - (r7.length:Int) - 1=(ρ.n:Int) - ((r7.length:Int)+1):=by omega
  have X5:=Yy.out.at_.small;have hfn:=LK ρ W7 r7 lg dp Yy.out.at_ nm t0 H0.out (λ l2 W2 hl2 hg2=>IH 0 l2 W2 lg dp Taa Taa hg2);unfold bj.ptr at*;go_wp2_with fail;refine hfn.mono ?_;clear hfn c0 c1 c2 c3 f1 f2 f3;intro e w8 hp;rcases hp.cases with ⟨t8,r8,v,ay,rfl,y,rfl,hat,d⟩|⟨m,au,rfl,hg⟩;case inr=>have F4:=hid (HF.out.trans au);have HG:=hid Yy.out.grown;clear hp au;go_wp2_with fail;exact aj rfl (bl F4.out HG.out hg)
  have hq7:=UK.out.lt;have HD8:=hid (Yy.out.trans d);have XX:=hid (d.blk UK.out Taa);have HT8:=hid (hat.more (show w.heap.size+1<=W7.heap.size by omega));have F4:=hid (HF.out.trans ay);clear hp ay d hat Yy UK;go_wp2_with (first
   |(refine wpList_store_row rfl 36 (.tmp 2) (.tmp 76) rfl w.heap.size (aL (y)).toArray rfl rfl 36 dz XX.out aC rfl (cD _) ?_
     have HR:=hid (XX.out.row (aL (y)).toArray)))
  refine bodyPost_ret (v:=dA (y)) (results_cell_row Tryz.results241 _ _ w.heap.size 36 (aL (y)).toArray (0,0) _ rfl HR.out Tryz.underlying36 rfl aC) rfl ?_;exact bM aZ HD8.out HT8.out F4.out):p:=h
theorem zcn.Kav(h:p:=by rw[show(⟨#[40]⟩:ByteArray).data.toList=bp from rfl,mi,bS mi] at hm;open zhe in exact ZfX):p:=h
theorem zaM.Kad(h:p:=by open zcn in exact ZaL):p:=h
theorem FP (ρ:bj)(w:World)(l:aF)(lg dp:Bool)(h:ρ.fy w l lg dp)(hk:∀t r,l=t::r->t.k≠2/\t.k≠3)(dM:ar dZ l=false)(ej:ar dI l=false)(iZ:ar bE l=false)(mi:ar bp l=false)(IH:Nj ρ (8*l.length)):
  Calls Tryz.prog 241 #[ρ.ptr] w (eR ρ w lg dp (ek (aO 0)) l):=by have Yx:=hid hk;open zaM in exact Zag
theorem aac (ρ:bj)(w:World)(l:aF)(lg dp:Bool)(h:ρ.fy w l lg dp)(IH:Nj ρ (8*l.length)):
  Calls Tryz.prog 241 #[ρ.ptr] w (eR ρ w lg dp (aO 7) l):=by
 rw[vD];obtain⟨t,r,pl,oa,hl,_⟩:=h.lp;have all:∀ {p:Wd->Prop},p t.w->∀x q,l=x::q->p x:=by intro p hp x q he;rw[hl] at he;injection he with h1 h2;rw[<- h1];exact hp
 by_cases h2:t.w.k=2
 ·exact LN ρ w l lg dp h (all (p:=λ x=>x.k=2) h2)
 by_cases h3:t.w.k=3
 ·exact IQ ρ w l lg dp h (all (p:=λ x=>x.k=3) h3)
 have hk:=all (p:=λ x=>x.k≠2/\x.k≠3) ⟨h2,h3⟩;cases a:ar dZ l
 ·cases b:ar dI l
  ·cases c:ar bE l
   ·cases d:ar bp l
    ·exact FP ρ w l lg dp h hk a b c d IH
    ·exact IU ρ w l lg dp h hk a b c d IH
   ·exact Qh ρ w l lg dp h hk a b c
  ·exact Qg ρ w l lg dp h hk a b
 ·exact Qf ρ w l lg dp h hk a
theorem F5 (ρ:bj):∀m,Nj ρ m
 | 0=>λ lv l W lg dp h1 h2 h3=>absurd h2 Taa
 | m+1=>λ lv l W lg dp h1 h2 h3=>by
   have ih:=F5 ρ m
   match lv,h1 with
   | 0,_=>exact Ym ρ W l lg dp h3 (ih.less Taa)
   | 1,_=>exact Yn ρ W l lg dp h3 (ih.less Taa)
   | 2,_=>exact aeZ ρ W l lg dp h3 (ih.less Taa)
   | 3,_=>exact afd ρ W l lg dp h3 (ih.less Taa)
   | 4,_=>exact Yo ρ W l lg dp h3 (ih.less Taa)
   | 5,_=>exact Yp ρ W l lg dp h3 (ih.less Taa)
   | 6,_=>exact afa ρ W l lg dp h3 (ih.less Taa)
   | 7,_=>exact aac ρ W l lg dp h3 (ih.less Taa)
theorem ajO (ρ:bj)(w:World)(l:aF)(lg dp:Bool)(h:ρ.fy w l lg dp):Calls Tryz.prog 154 #[ρ.ptr] w (eR ρ w lg dp ey l):=F5 ρ (8*l.length+8) 0 l w lg dp Taa Taa h
end Go.Proofs.YtehhdlgjfdnafaaGreatDoor
