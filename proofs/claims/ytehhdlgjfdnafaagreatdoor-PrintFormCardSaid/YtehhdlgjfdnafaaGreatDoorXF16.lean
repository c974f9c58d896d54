/- Parts of the proof. -/
import Derived.Test.YtehhdlgjfdnafaaGreatDoorXF13
namespace Go.Proofs.YtehhdlgjfdnafaaGreatDoor
variable{p:Prop}
set_option maxHeartbeats 90000000
set_option maxRecDepth 100000
open Go.Lib (hid)
open Go.ChangeShapes Go.WideShapes Go.ChangeAt Go.RowKit List
set_option linter.unusedVariables false
set_option linter.unusedSimpArgs false
theorem zeV.Kbj(h:p:=by refine bodyPost_ret (v:=eb y) (results_cell_row Tryz.results154 _ _ w.heap.size 36 (aU y).toArray (0,0) _ rfl HR.out Tryz.underlying36 rfl aI) rfl ?_;exact Zgs):p:=h
theorem zbX.Kar(h:p:=by
 have nA:((w.alloc (.cells dT 36)).alloc (.cells (opsV (opsL 0)) 199)).heap.size=w.heap.size+2:=by simp
 rw[show opsV (opsL 0)= #[.string ⟨#[111,114]⟩,.int .u8 17] from rfl] at hm nA;clear h hb BC IH hsz;unfold dT at hm nA;go_enter Tryz.func154,Tryz.ntmps154;go_wp2_with fail;refine hm.mono ?_;clear hm;intro e w2 hp;rcases hp.cases with ⟨t,r,v,aC,rfl,y,rfl,hat,d2⟩|⟨m,au,rfl,hg⟩
 ·open zeV in exact Zcu
 ·exact ZbX):p:=h
theorem abg (ρ:bw)(w:World)(l:aK)(lg dp:Bool)(h:ρ.gh w l lg dp)(IH:RF ρ (8*l.length+7)):
  Calls Tryz.prog 154 #[ρ.ptr] w (fC ρ w lg dp (aW 0) l):=by
 have br:=h.od;have hsz:(w.alloc (.cells dT 36)).heap.size=w.heap.size+1:=by simp
 have hb:=af.then (aa w (.cells dT 36)) (aa _ (.cells (opsV (opsL 0)) 199));have BC:=av.new (w.alloc (.cells dT 36)) 199 (opsV (opsL 0));have HQ:=hid ((av.new w 36 dT).alloc (.cells (opsV (opsL 0)) 199));have HD:=hid (bh.aF h hb);rw[hsz] at BC;have hm:=vG ρ _ l lg dp (h.later hb) 0 180 (enters_of Tryz.func180 Tac rfl) (λ l' W hl hW=>IH 1 l' W lg dp Taa Taa hW) (w.heap.size+1) 1 rfl BC Taa Taa;rw[<- BZ] at hm;open zbX in exact ZaG
theorem zeW.Kbj(h:p:=by refine bodyPost_ret (v:=eb y) (results_cell_row Tryz.results180 _ _ w.heap.size 36 (aU y).toArray (0,0) _ rfl HR.out Tryz.underlying36 rfl aI) rfl ?_;exact Zgs):p:=h
theorem zbY.Kar(h:p:=by
 have nA:((w.alloc (.cells dT 36)).alloc (.cells (opsV (opsL 1)) 199)).heap.size=w.heap.size+2:=by simp
 rw[show opsV (opsL 1)= #[.string ⟨#[97,110,100]⟩,.int .u8 16] from rfl] at hm nA;clear h hb BC IH hsz;unfold dT at hm nA;go_enter Tryz.func180,Tryz.ntmps180;go_wp2_with fail;refine hm.mono ?_;clear hm;intro e w2 hp;rcases hp.cases with ⟨t,r,v,aC,rfl,y,rfl,hat,d2⟩|⟨m,au,rfl,hg⟩
 ·open zeW in exact Zcu
 ·exact ZbX):p:=h
theorem abh (ρ:bw)(w:World)(l:aK)(lg dp:Bool)(h:ρ.gh w l lg dp)(IH:RF ρ (8*l.length+6)):
  Calls Tryz.prog 180 #[ρ.ptr] w (fC ρ w lg dp (aW 1) l):=by
 have br:=h.od;have hsz:(w.alloc (.cells dT 36)).heap.size=w.heap.size+1:=by simp
 have hb:=af.then (aa w (.cells dT 36)) (aa _ (.cells (opsV (opsL 1)) 199));have BC:=av.new (w.alloc (.cells dT 36)) 199 (opsV (opsL 1));have HQ:=hid ((av.new w 36 dT).alloc (.cells (opsV (opsL 1)) 199));have HD:=hid (bh.aF h hb);rw[hsz] at BC;have hm:=vG ρ _ l lg dp (h.later hb) 1 202 (enters_of Tryz.func202 Tac rfl) (λ l' W hl hW=>IH 2 l' W lg dp Taa Taa hW) (w.heap.size+1) 1 rfl BC Taa Taa;rw[<- Ca] at hm;open zbY in exact ZaG
theorem zbZ.Kar(h:p:=by
 have nA:((w.alloc (.cells dT 36)).alloc (.cells (opsV (opsL 4)) 199)).heap.size=w.heap.size+2:=by simp
 rw[show opsV (opsL 4)= #[.string ⟨#[43]⟩,.int .u8 5,.string ⟨#[45]⟩,.int .u8 6] from rfl] at hm nA;clear h hb BC IH hsz;unfold dT at hm nA;go_enter Tryz.func232,Tryz.ntmps232;go_wp2_with fail;refine hm.mono ?_;clear hm;intro e w2 hp;rcases hp.cases with ⟨t,r,v,aC,rfl,y,rfl,hat,d2⟩|⟨m,au,rfl,hg⟩
 ·have eZ:=hid (HD.out.trans d2);have ku:=hid (d2.blk HQ.out Taa);have jx:=hid (hat.more (show w.heap.size+1<=_ by omega));have jy:=hid aC;clear hp d2 hat aC HQ HD nA;go_wp2_with (first
   |(refine wpList_store_row rfl 36 (.tmp 2) (.tmp 9) rfl w.heap.size (aU y).toArray rfl rfl 36 dT ku.out aI rfl (cV _) ?_
     have HR:=hid (ku.out.row (aU y).toArray)))
  refine bodyPost_ret (v:=eb y) (results_cell_row Tryz.results232 _ _ w.heap.size 36 (aU y).toArray (0,0) _ rfl HR.out Tryz.underlying36 rfl aI) rfl ?_;exact Zgs
 ·exact ZbX):p:=h
theorem abj (ρ:bw)(w:World)(l:aK)(lg dp:Bool)(h:ρ.gh w l lg dp)(IH:RF ρ (8*l.length+3)):
  Calls Tryz.prog 232 #[ρ.ptr] w (fC ρ w lg dp (aW 4) l):=by
 have br:=h.od;have hsz:(w.alloc (.cells dT 36)).heap.size=w.heap.size+1:=by simp
 have hb:=af.then (aa w (.cells dT 36)) (aa _ (.cells (opsV (opsL 4)) 199));have BC:=av.new (w.alloc (.cells dT 36)) 199 (opsV (opsL 4));have HQ:=hid ((av.new w 36 dT).alloc (.cells (opsV (opsL 4)) 199));have HD:=hid (bh.aF h hb);rw[hsz] at BC;have hm:=vG ρ _ l lg dp (h.later hb) 4 237 (enters_of Tryz.func237 Tac rfl) (λ l' W hl hW=>IH 5 l' W lg dp Taa Taa hW) (w.heap.size+1) 2 rfl BC Taa Taa;rw[<- Cc] at hm;open zbZ in exact ZaG
theorem zb0.Kar(h:p:=by
 have nA:((w.alloc (.cells dT 36)).alloc (.cells (opsV (opsL 5)) 199)).heap.size=w.heap.size+2:=by simp
 rw[show opsV (opsL 5)= #[.string ⟨#[42]⟩,.int .u8 7,.string ⟨#[47]⟩,.int .u8 8,.string ⟨#[37]⟩,.int .u8 9] from rfl] at hm nA;clear h hb BC IH hsz;unfold dT at hm nA;go_enter Tryz.func237,Tryz.ntmps237;go_wp2_with fail;refine hm.mono ?_;clear hm;intro e w2 hp;rcases hp.cases with ⟨t,r,v,aC,rfl,y,rfl,hat,d2⟩|⟨m,au,rfl,hg⟩
 ·have eZ:=hid (HD.out.trans d2);have ku:=hid (d2.blk HQ.out Taa);have jx:=hid (hat.more (show w.heap.size+1<=_ by omega));have jy:=hid aC;clear hp d2 hat aC HQ HD nA;go_wp2_with (first
   |(refine wpList_store_row rfl 36 (.tmp 2) (.tmp 10) rfl w.heap.size (aU y).toArray rfl rfl 36 dT ku.out aI rfl (cV _) ?_
     have HR:=hid (ku.out.row (aU y).toArray)))
  refine bodyPost_ret (v:=eb y) (results_cell_row Tryz.results237 _ _ w.heap.size 36 (aU y).toArray (0,0) _ rfl HR.out Tryz.underlying36 rfl aI) rfl ?_;exact Zgs
 ·exact ZbX):p:=h
theorem abk (ρ:bw)(w:World)(l:aK)(lg dp:Bool)(h:ρ.gh w l lg dp)(IH:RF ρ (8*l.length+2)):
  Calls Tryz.prog 237 #[ρ.ptr] w (fC ρ w lg dp (aW 5) l):=by
 have br:=h.od;have hsz:(w.alloc (.cells dT 36)).heap.size=w.heap.size+1:=by simp
 have hb:=af.then (aa w (.cells dT 36)) (aa _ (.cells (opsV (opsL 5)) 199));have BC:=av.new (w.alloc (.cells dT 36)) 199 (opsV (opsL 5));have HQ:=hid ((av.new w 36 dT).alloc (.cells (opsV (opsL 5)) 199));have HD:=hid (bh.aF h hb);rw[hsz] at BC;have hm:=vG ρ _ l lg dp (h.later hb) 5 240 (enters_of Tryz.func240 Tac rfl) (λ l' W hl hW=>IH 6 l' W lg dp Taa Taa hW) (w.heap.size+1) 3 rfl BC Taa Taa;rw[<- Ce] at hm;open zb0 in exact ZaG
theorem zhp.Kco(h:p:=by
 have HE:=hid (abr (W:=aW 0) HKK.out TaV eo eM jM nN);go_wp2_with fail;refine(IH 0 l.tail W5 lg dp Taa Taa EZ.out.at_).mono ?_;intro e w6 hp;rcases hp.cases with ⟨t6,r6,v,aC,rfl,y,rfl,hat,d⟩|⟨m,au,rfl,hg⟩;case inr=>have HF:=hid (HE.out.trans (ak au));have HG:=hid EZ.out.grown;clear hp au;go_wp2_with fail;exact aj rfl (bD HF.out HG.out hg)
 have HE6:=hid (HE.out.trans (ag aC));have hq5:=HQ5.out.lt;have hx:=aa w6 (.cells (aU y).toArray 36);have hD6:=(EZ.out.trans d).later hx;have Fx:=hid ((d.blk HQ5.out Taa).later hx);have HX6:=hid (av.new w6 36 (aU y).toArray);have HT6:=hid ((hat.more (show w.heap.size+1<=W5.heap.size by omega)).later hx);have Nz:=hid hD6;have hq6:w.heap.size < w6.heap.size:=by have:=d.size;omega
 clear hp aC hx hD6 d hat EZ HQ5 HE;unfold eb;unfold aU at*;go_upto_region 16 with fail;generalize (World.alloc _ _)=W6 at*;generalize w6.heap.size=qx at*;have hb:=aa W6 (.cells (aR [aM]) 9);have xk:=Nz.out.lt;have HB:=hid (Nz.out.later hb);have E0:=hid (Fx.out.later hb);have HX7:=hid (HX6.out.later hb);have HT7:=hid (HT6.out.later hb);have hm:=aY ρ _ _ lg dp HB.out.at_ [aM] W6.heap.size 1 rfl (av.new W6 _ _) Taa Taa;clear hb Nz Fx HX6 HT6;unfold aR strOf at*;simp only[map_cons,map_nil] at hm HB E0 HX7 HT7;rw[show aM.toArray= #[41] from rfl] at hm HB E0 HX7 HT7;go_wp2_with fail;refine hm.mono ?_;clear hm;intro e w8 hp;rcases hp.cases with ⟨_,r8,v,aC,rfl,rfl,d⟩|⟨m,au,rfl,hg⟩;case inr=>have HF:=hid (HE6.out.trans (ak (show must aM r6=.error m by rw[<- aB];exact au)));have HG:=hid HB.out.grown;clear hp au;go_wp2_with fail;exact aj rfl (bD HF.out HG.out hg)
 have kA:must aM r6=.ok ((),r8):=by rw[<- aB];exact aC
 have HE8:=hid (HE6.out.trans (ag kA));have HD8:=hid (HB.out.trans d);have HQ8:=hid (d.blk E0.out Taa);have HX8:=hid (d.blk HX7.out Taa);have HT8:=hid (HT7.out.grown d.grown Taa);clear hp aC kA d HB E0 HX7 HT7 HE6;go_wp2_with (first
  |(refine wpList_load_row rfl 36 (.tmp 4) rfl qx rfl 36 (aU y).toArray (0,0) _ HX8.out Tryz.underlying36 rfl aI ?_)
  |(refine wpList_store_row rfl 36 (.tmp 2) (.tmp 61) rfl w.heap.size (aU y).toArray rfl rfl 36 dT HQ8.out aI rfl (cV _) ?_
    have HR:=hid (HQ8.out.row (aU y).toArray)))
 refine bodyPost_ret (v:=eb y) (results_cell_row Tryz.results241 _ _ w.heap.size 36 (aU y).toArray (0,0) _ rfl HR.out Tryz.underlying36 rfl aI) rfl ?_;exact cm br HD8.out HT8.out (HE8.out.trans rfl)):p:=h
theorem zck.Kau(h:p:=by rw[show(⟨#[40]⟩:ByteArray).data.toList=bG from rfl,nN,cE nN] at hm;open zhp in exact ZfT):p:=h
theorem zaL.Kad(h:p:=by open zck in exact ZaL):p:=h
theorem Ml (ρ:bw)(w:World)(l:aK)(lg dp:Bool)(h:ρ.gh w l lg dp)(hk:∀t r,l=t::r->t.k≠2/\t.k≠3)(eo:ar eK l=false)(eM:ar eh l=false)(jM:ar bT l=false)(nN:ar bG l=true)(IH:RF ρ (8*l.length)):
  Calls Tryz.prog 241 #[ρ.ptr] w (fC ρ w lg dp (dZ (aW 0)) l):=by have HKK:=hid hk;have Xl:=pA nN;open zaL in exact Zag
theorem zhq.Kco(h:p:=by
 have HE:=hid (D8 (W:=aW 0) HKK.out TaV eo eM jM nN);go_wp2_with fail;refine(ep ρ W5 l lg dp EZ.out.at_).mono ?_;intro e w6 hp;rcases hp.cases with ⟨nm,r6,v,aC,rfl,rfl,d⟩|⟨m,au,rfl,hg⟩;case inr=>have HF:=hid (HE.out.trans (agN au));have HG:=hid EZ.out.grown;clear hp au;go_wp2_with fail;exact aj rfl (bD HF.out HG.out hg)
 have hl6:r6.length<=l.length:=lD.len aC;have hq5:=HQ5.out.lt;have Nz:=hid (EZ.out.trans d);have Fx:=hid (d.blk HQ5.out Taa);have jy:=hid aC;have hm:=bz ρ w6 r6 lg dp Nz.out.at_ ⟨#[40]⟩;rw[show(⟨#[40]⟩:ByteArray).data.toList=bG from rfl] at hm;clear hp aC d EZ HQ5;cases ho:ar bG r6
 ·rw[ho,cy ho] at hm;have HF:=hid (HE.out.trans (agO jy.out ho));clear ho;go_wp2_with fail;refine hm.mono ?_;clear hm;rintro e w7 ⟨rfl,d⟩;have HD7:=hid (Nz.out.trans d);have E0:=hid (d.blk Fx.out Taa);clear d Nz Fx;go_wp2_with (first
   |(refine wpList_store_row rfl 36 (.tmp 2) (.tmp 68) rfl w.heap.size (aU (abt nm)).toArray rfl rfl 36 dT E0.out aI rfl (cV _) ?_
     have HR:=hid (E0.out.row (aU (abt nm)).toArray)))
  refine bodyPost_ret (v:=eb (abt nm)) (results_cell_row Tryz.results241 _ _ w.heap.size 36 (aU (abt nm)).toArray (0,0) _ rfl HR.out Tryz.underlying36 rfl aI) rfl ?_;exact cm br HD7.out (XT _ _ nm) HF.out
 ·rw[ho,cE ho] at hm;have HF:=hid (HE.out.trans (agP jy.out ho));have hhl:=pA ho;obtain⟨t0,q0,hr6,ht0⟩:=eU ho;have H0:=hid (show(eu.good (t0::r6.tail)).of ρ.ws by have:=Nz.out.at_.of;rw[hr6] at this ⊢;exact this);clear ho hr6;go_wp2_with fail;refine hm.mono ?_;clear hm;rintro e w7 ⟨rfl,d⟩;have HD7:=hid (Nz.out.trans d);have E0:=hid (d.blk Fx.out Taa);clear d Nz Fx;generalize hW7:w7=W7 at*;clear hW7;have ayu:r6.tail.length < l.length:=by omega
  generalize r6.tail=r7 at*;have ayv:=HD7.out.at_.left;obtain⟨c0,c1,c2,c3,f1,f2,f3⟩:=HD7.out.at_.facts;have e7:(ρ.n:Int) - (r7.length:Int) - 1=(ρ.n:Int) - ((r7.length:Int)+1):=by omega
  have hsn:=HD7.out.at_.small;have hfn:=PR ρ W7 r7 lg dp HD7.out.at_ nm t0 H0.out (λ l2 W2 hl2 hg2=>IH 0 l2 W2 lg dp Taa Taa hg2);unfold bw.ptr at*;go_wp2_with fail;refine hfn.mono ?_;clear hfn c0 c1 c2 c3 f1 f2 f3;intro e w8 hp;rcases hp.cases with ⟨t8,r8,v,aC,rfl,y,rfl,hat,d⟩|⟨m,au,rfl,hg⟩;case inr=>have HF2:=hid (HF.out.trans au);have HG:=hid HD7.out.grown;clear hp au;go_wp2_with fail;exact aj rfl (bD HF2.out HG.out hg)
  have hq7:=E0.out.lt;have HD8:=hid (HD7.out.trans d);have HQ8:=hid (d.blk E0.out Taa);have HT8:=hid (hat.more (show w.heap.size+1<=W7.heap.size by omega));have HF2:=hid (HF.out.trans aC);clear hp aC d hat HD7 E0;go_wp2_with (first
   |(refine wpList_store_row rfl 36 (.tmp 2) (.tmp 76) rfl w.heap.size (aU (y)).toArray rfl rfl 36 dT HQ8.out aI rfl (cV _) ?_
     have HR:=hid (HQ8.out.row (aU (y)).toArray)))
  refine bodyPost_ret (v:=eb (y)) (results_cell_row Tryz.results241 _ _ w.heap.size 36 (aU (y)).toArray (0,0) _ rfl HR.out Tryz.underlying36 rfl aI) rfl ?_;exact cm br HD8.out HT8.out HF2.out):p:=h
theorem zcl.Kau(h:p:=by rw[show(⟨#[40]⟩:ByteArray).data.toList=bG from rfl,nN,cy nN] at hm;open zhq in exact ZfT):p:=h
theorem zaM.Kad(h:p:=by open zcl in exact ZaL):p:=h
theorem JL (ρ:bw)(w:World)(l:aK)(lg dp:Bool)(h:ρ.gh w l lg dp)(hk:∀t r,l=t::r->t.k≠2/\t.k≠3)(eo:ar eK l=false)(eM:ar eh l=false)(jM:ar bT l=false)(nN:ar bG l=false)(IH:RF ρ (8*l.length)):
  Calls Tryz.prog 241 #[ρ.ptr] w (fC ρ w lg dp (dZ (aW 0)) l):=by have HKK:=hid hk;open zaM in exact Zag
theorem agR (ρ:bw)(w:World)(l:aK)(lg dp:Bool)(h:ρ.gh w l lg dp)(IH:RF ρ (8*l.length)):
  Calls Tryz.prog 241 #[ρ.ptr] w (fC ρ w lg dp (aW 7) l):=by
 rw[yf];obtain⟨t,r,pl,rv,hl,_⟩:=h.mN;have all:∀ {p:Wd->Prop},p t.w->∀x q,l=x::q->p x:=by intro p hp x q he;rw[hl] at he;injection he with h1 h2;rw[<- h1];exact hp
 by_cases h2:t.w.k=2
 ·exact PT ρ w l lg dp h (all (p:=λ x=>x.k=2) h2)
 by_cases h3:t.w.k=3
 ·exact Mk ρ w l lg dp h (all (p:=λ x=>x.k=3) h3)
 have hk:=all (p:=λ x=>x.k≠2/\x.k≠3) ⟨h2,h3⟩;cases a:ar eK l
 ·cases b:ar eh l
  ·cases c:ar bT l
   ·cases d:ar bG l
    ·exact JL ρ w l lg dp h hk a b c d IH
    ·exact Ml ρ w l lg dp h hk a b c d IH
   ·exact Vj ρ w l lg dp h hk a b c
  ·exact Vi ρ w l lg dp h hk a b
 ·exact Vh ρ w l lg dp h hk a
theorem aef (ρ:bw):∀m,RF ρ m
 | 0=>λ lv l W lg dp h1 h2 h3=>absurd h2 Taa
 | m+1=>λ lv l W lg dp h1 h2 h3=>by
   have ih:=aef ρ m
   match lv,h1 with
   | 0,_=>exact abg ρ W l lg dp h3 (ih.less Taa)
   | 1,_=>exact abh ρ W l lg dp h3 (ih.less Taa)
   | 2,_=>exact amk ρ W l lg dp h3 (ih.less Taa)
   | 3,_=>exact amo ρ W l lg dp h3 (ih.less Taa)
   | 4,_=>exact abj ρ W l lg dp h3 (ih.less Taa)
   | 5,_=>exact abk ρ W l lg dp h3 (ih.less Taa)
   | 6,_=>exact aml ρ W l lg dp h3 (ih.less Taa)
   | 7,_=>exact agR ρ W l lg dp h3 (ih.less Taa)
theorem arM (ρ:bw)(w:World)(l:aK)(lg dp:Bool)(h:ρ.gh w l lg dp):Calls Tryz.prog 154 #[ρ.ptr] w (fC ρ w lg dp eD l):=aef ρ (8*l.length+8) 0 l w lg dp Taa Taa h
end Go.Proofs.YtehhdlgjfdnafaaGreatDoor
