/- Parts of the proof. -/
import Derived.Test.YtehhdlgjfdnafaaGreatDoorXB13
namespace Go.Proofs.YtehhdlgjfdnafaaGreatDoor
variable{p:Prop}
set_option maxHeartbeats 90000000
set_option maxRecDepth 100000
open Go.Lib (hid)
open Go.ChangeShapes Go.WideShapes Go.ChangeAt Go.RowKit List
set_option linter.unusedVariables false
set_option linter.unusedSimpArgs false
theorem zfl.Kbp(h:p:=by refine bodyPost_ret (v:=dN y) (results_cell_row Tryz.results154 _ _ w.heap.size 36 (aT y).toArray (0,0) _ rfl HR.out Tryz.underlying36 rfl aF) rfl ?_;exact ZgC):p:=h
theorem zcc.Kau(h:p:=by
 have kZ:((w.alloc (.cells dF 36)).alloc (.cells (opsV (opsL 0)) 199)).heap.size=w.heap.size+2:=by simp
 rw[show opsV (opsL 0)= #[.string ⟨#[111,114]⟩,.int .u8 17] from rfl] at hm kZ;clear h hb AH IH hsz;unfold dF at hm kZ;go_enter Tryz.func154,Tryz.ntmps154;go_wp2_with fail;refine hm.mono ?_;clear hm;intro e w2 hp;rcases hp.cases with ⟨t,r,v,az,rfl,y,rfl,hat,d2⟩|⟨m,au,rfl,hg⟩
 ·open zfl in exact ZcC
 ·exact Zb4):p:=h
theorem aab (ρ:bp)(w:World)(l:aI)(lg dp:Bool)(h:ρ.fU w l lg dp)(IH:QN ρ (8*l.length+7)):
  Calls Tryz.prog 154 #[ρ.ptr] w (fq ρ w lg dp (aU 0) l):=by
 have bj:=h.nt;have hsz:(w.alloc (.cells dF 36)).heap.size=w.heap.size+1:=by simp
 have hb:=af.then (aa w (.cells dF 36)) (aa _ (.cells (opsV (opsL 0)) 199));have AH:=av.new (w.alloc (.cells dF 36)) 199 (opsV (opsL 0));have HQ:=hid ((av.new w 36 dF).alloc (.cells (opsV (opsL 0)) 199));have HD:=hid (aY.aC h hb);rw[hsz] at AH;have hm:=uT ρ _ l lg dp (h.later hb) 0 180 (enters_of Tryz.func180 Tac rfl) (λ l' W hl hW=>IH 1 l' W lg dp Taa Taa hW) (w.heap.size+1) 1 rfl AH Taa Taa;rw[<- Bo] at hm;open zcc in exact ZaJ
theorem zfm.Kbp(h:p:=by refine bodyPost_ret (v:=dN y) (results_cell_row Tryz.results180 _ _ w.heap.size 36 (aT y).toArray (0,0) _ rfl HR.out Tryz.underlying36 rfl aF) rfl ?_;exact ZgC):p:=h
theorem zcd.Kau(h:p:=by
 have kZ:((w.alloc (.cells dF 36)).alloc (.cells (opsV (opsL 1)) 199)).heap.size=w.heap.size+2:=by simp
 rw[show opsV (opsL 1)= #[.string ⟨#[97,110,100]⟩,.int .u8 16] from rfl] at hm kZ;clear h hb AH IH hsz;unfold dF at hm kZ;go_enter Tryz.func180,Tryz.ntmps180;go_wp2_with fail;refine hm.mono ?_;clear hm;intro e w2 hp;rcases hp.cases with ⟨t,r,v,az,rfl,y,rfl,hat,d2⟩|⟨m,au,rfl,hg⟩
 ·open zfm in exact ZcC
 ·exact Zb4):p:=h
theorem aac (ρ:bp)(w:World)(l:aI)(lg dp:Bool)(h:ρ.fU w l lg dp)(IH:QN ρ (8*l.length+6)):
  Calls Tryz.prog 180 #[ρ.ptr] w (fq ρ w lg dp (aU 1) l):=by
 have bj:=h.nt;have hsz:(w.alloc (.cells dF 36)).heap.size=w.heap.size+1:=by simp
 have hb:=af.then (aa w (.cells dF 36)) (aa _ (.cells (opsV (opsL 1)) 199));have AH:=av.new (w.alloc (.cells dF 36)) 199 (opsV (opsL 1));have HQ:=hid ((av.new w 36 dF).alloc (.cells (opsV (opsL 1)) 199));have HD:=hid (aY.aC h hb);rw[hsz] at AH;have hm:=uT ρ _ l lg dp (h.later hb) 1 202 (enters_of Tryz.func202 Tac rfl) (λ l' W hl hW=>IH 2 l' W lg dp Taa Taa hW) (w.heap.size+1) 1 rfl AH Taa Taa;rw[<- Bp] at hm;open zcd in exact ZaJ
theorem zce.Kau(h:p:=by
 have kZ:((w.alloc (.cells dF 36)).alloc (.cells (opsV (opsL 4)) 199)).heap.size=w.heap.size+2:=by simp
 rw[show opsV (opsL 4)= #[.string ⟨#[43]⟩,.int .u8 5,.string ⟨#[45]⟩,.int .u8 6] from rfl] at hm kZ;clear h hb AH IH hsz;unfold dF at hm kZ;go_enter Tryz.func232,Tryz.ntmps232;go_wp2_with fail;refine hm.mono ?_;clear hm;intro e w2 hp;rcases hp.cases with ⟨t,r,v,az,rfl,y,rfl,hat,d2⟩|⟨m,au,rfl,hg⟩
 ·have eP:=hid (HD.out.trans d2);have jS:=hid (d2.blk HQ.out Taa);have jg:=hid (hat.more (show w.heap.size+1<=_ by omega));have jh:=hid az;clear hp d2 hat az HQ HD kZ;go_wp2_with (first
   |(refine wpList_store_row rfl 36 (.tmp 2) (.tmp 9) rfl w.heap.size (aT y).toArray rfl rfl 36 dF jS.out aF rfl (cL _) ?_
     have HR:=hid (jS.out.row (aT y).toArray)))
  refine bodyPost_ret (v:=dN y) (results_cell_row Tryz.results232 _ _ w.heap.size 36 (aT y).toArray (0,0) _ rfl HR.out Tryz.underlying36 rfl aF) rfl ?_;exact ZgC
 ·exact Zb4):p:=h
theorem aad (ρ:bp)(w:World)(l:aI)(lg dp:Bool)(h:ρ.fU w l lg dp)(IH:QN ρ (8*l.length+3)):
  Calls Tryz.prog 232 #[ρ.ptr] w (fq ρ w lg dp (aU 4) l):=by
 have bj:=h.nt;have hsz:(w.alloc (.cells dF 36)).heap.size=w.heap.size+1:=by simp
 have hb:=af.then (aa w (.cells dF 36)) (aa _ (.cells (opsV (opsL 4)) 199));have AH:=av.new (w.alloc (.cells dF 36)) 199 (opsV (opsL 4));have HQ:=hid ((av.new w 36 dF).alloc (.cells (opsV (opsL 4)) 199));have HD:=hid (aY.aC h hb);rw[hsz] at AH;have hm:=uT ρ _ l lg dp (h.later hb) 4 237 (enters_of Tryz.func237 Tac rfl) (λ l' W hl hW=>IH 5 l' W lg dp Taa Taa hW) (w.heap.size+1) 2 rfl AH Taa Taa;rw[<- Br] at hm;open zce in exact ZaJ
theorem zcf.Kau(h:p:=by
 have kZ:((w.alloc (.cells dF 36)).alloc (.cells (opsV (opsL 5)) 199)).heap.size=w.heap.size+2:=by simp
 rw[show opsV (opsL 5)= #[.string ⟨#[42]⟩,.int .u8 7,.string ⟨#[47]⟩,.int .u8 8,.string ⟨#[37]⟩,.int .u8 9] from rfl] at hm kZ;clear h hb AH IH hsz;unfold dF at hm kZ;go_enter Tryz.func237,Tryz.ntmps237;go_wp2_with fail;refine hm.mono ?_;clear hm;intro e w2 hp;rcases hp.cases with ⟨t,r,v,az,rfl,y,rfl,hat,d2⟩|⟨m,au,rfl,hg⟩
 ·have eP:=hid (HD.out.trans d2);have jS:=hid (d2.blk HQ.out Taa);have jg:=hid (hat.more (show w.heap.size+1<=_ by omega));have jh:=hid az;clear hp d2 hat az HQ HD kZ;go_wp2_with (first
   |(refine wpList_store_row rfl 36 (.tmp 2) (.tmp 10) rfl w.heap.size (aT y).toArray rfl rfl 36 dF jS.out aF rfl (cL _) ?_
     have HR:=hid (jS.out.row (aT y).toArray)))
  refine bodyPost_ret (v:=dN y) (results_cell_row Tryz.results237 _ _ w.heap.size 36 (aT y).toArray (0,0) _ rfl HR.out Tryz.underlying36 rfl aF) rfl ?_;exact ZgC
 ·exact Zb4):p:=h
theorem aae (ρ:bp)(w:World)(l:aI)(lg dp:Bool)(h:ρ.fU w l lg dp)(IH:QN ρ (8*l.length+2)):
  Calls Tryz.prog 237 #[ρ.ptr] w (fq ρ w lg dp (aU 5) l):=by
 have bj:=h.nt;have hsz:(w.alloc (.cells dF 36)).heap.size=w.heap.size+1:=by simp
 have hb:=af.then (aa w (.cells dF 36)) (aa _ (.cells (opsV (opsL 5)) 199));have AH:=av.new (w.alloc (.cells dF 36)) 199 (opsV (opsL 5));have HQ:=hid ((av.new w 36 dF).alloc (.cells (opsV (opsL 5)) 199));have HD:=hid (aY.aC h hb);rw[hsz] at AH;have hm:=uT ρ _ l lg dp (h.later hb) 5 240 (enters_of Tryz.func240 Tac rfl) (λ l' W hl hW=>IH 6 l' W lg dp Taa Taa hW) (w.heap.size+1) 3 rfl AH Taa Taa;rw[<- Bt] at hm;open zcf in exact ZaJ
theorem zhS.Kcv(h:p:=by
 have HE:=hid (aal (W:=aU 0) HKK.out TaV dT ez jy mX);go_wp2_with fail;refine(IH 0 l.tail W5 lg dp Taa Taa Eh.out.at_).mono ?_;intro e w6 hp;rcases hp.cases with ⟨t6,r6,v,az,rfl,y,rfl,hat,d⟩|⟨m,au,rfl,hg⟩;case inr=>have HF:=hid (HE.out.trans (ak au));have HG:=hid Eh.out.grown;clear hp au;go_wp2_with fail;exact aj rfl (bt HF.out HG.out hg)
 have HE6:=hid (HE.out.trans (ag az));have hq5:=Z3.out.lt;have hx:=aa w6 (.cells (aT y).toArray 36);have hD6:=(Eh.out.trans d).later hx;have EG:=hid ((d.blk Z3.out Taa).later hx);have HX6:=hid (av.new w6 36 (aT y).toArray);have HT6:=hid ((hat.more (show w.heap.size+1<=W5.heap.size by omega)).later hx);have MF:=hid hD6;have hq6:w.heap.size < w6.heap.size:=by have:=d.size;omega
 clear hp az hx hD6 d hat Eh Z3 HE;unfold dN;unfold aT at*;go_upto_region 16 with fail;generalize (World.alloc _ _)=W6 at*;generalize w6.heap.size=qx at*;have hb:=aa W6 (.cells (aP [aM]) 9);have wy:=MF.out.lt;have HB:=hid (MF.out.later hb);have Zf:=hid (EG.out.later hb);have HX7:=hid (HX6.out.later hb);have HT7:=hid (HT6.out.later hb);have hm:=aW ρ _ _ lg dp HB.out.at_ [aM] W6.heap.size 1 rfl (av.new W6 _ _) Taa Taa;clear hb MF EG HX6 HT6;unfold aP strOf at*;simp only[map_cons,map_nil] at hm HB Zf HX7 HT7;rw[show aM.toArray= #[41] from rfl] at hm HB Zf HX7 HT7;go_wp2_with fail;refine hm.mono ?_;clear hm;intro e w8 hp;rcases hp.cases with ⟨_,r8,v,az,rfl,rfl,d⟩|⟨m,au,rfl,hg⟩;case inr=>have HF:=hid (HE6.out.trans (ak (show must aM r6=.error m by rw[<- ay];exact au)));have HG:=hid HB.out.grown;clear hp au;go_wp2_with fail;exact aj rfl (bt HF.out HG.out hg)
 have jW:must aM r6=.ok ((),r8):=by rw[<- ay];exact az
 have HE8:=hid (HE6.out.trans (ag jW));have HD8:=hid (HB.out.trans d);have Y5:=hid (d.blk Zf.out Taa);have HX8:=hid (d.blk HX7.out Taa);have HT8:=hid (HT7.out.grown d.grown Taa);clear hp az jW d HB Zf HX7 HT7 HE6;go_wp2_with (first
  |(refine wpList_load_row rfl 36 (.tmp 4) rfl qx rfl 36 (aT y).toArray (0,0) _ HX8.out Tryz.underlying36 rfl aF ?_)
  |(refine wpList_store_row rfl 36 (.tmp 2) (.tmp 61) rfl w.heap.size (aT y).toArray rfl rfl 36 dF Y5.out aF rfl (cL _) ?_
    have HR:=hid (Y5.out.row (aT y).toArray)))
 refine bodyPost_ret (v:=dN y) (results_cell_row Tryz.results241 _ _ w.heap.size 36 (aT y).toArray (0,0) _ rfl HR.out Tryz.underlying36 rfl aF) rfl ?_;exact bV bj HD8.out HT8.out (HE8.out.trans rfl)):p:=h
theorem zcz.Kax(h:p:=by rw[show(⟨#[40]⟩:ByteArray).data.toList=bz from rfl,mX,cw mX] at hm;open zhS in exact Zf5):p:=h
theorem zaL.Kad(h:p:=by open zcz in exact ZaO):p:=h
theorem Lr (ρ:bp)(w:World)(l:aI)(lg dp:Bool)(h:ρ.fU w l lg dp)(hk:∀t r,l=t::r->t.k≠2/\t.k≠3)(dT:ar eu l=false)(ez:ar dP l=false)(jy:ar bK l=false)(mX:ar bz l=true)(IH:QN ρ (8*l.length)):
  Calls Tryz.prog 241 #[ρ.ptr] w (fq ρ w lg dp (eD (aU 0)) l):=by have HKK:=hid hk;have Wh:=oB mX;open zaL in exact Zag
theorem zhT.Kcv(h:p:=by
 have HE:=hid (Ze (W:=aU 0) HKK.out TaV dT ez jy mX);go_wp2_with fail;refine(dU ρ W5 l lg dp Eh.out.at_).mono ?_;intro e w6 hp;rcases hp.cases with ⟨nm,r6,v,az,rfl,rfl,d⟩|⟨m,au,rfl,hg⟩;case inr=>have HF:=hid (HE.out.trans (afr au));have HG:=hid Eh.out.grown;clear hp au;go_wp2_with fail;exact aj rfl (bt HF.out HG.out hg)
 have hl6:r6.length<=l.length:=kF.len az;have hq5:=Z3.out.lt;have MF:=hid (Eh.out.trans d);have EG:=hid (d.blk Z3.out Taa);have jh:=hid az;have hm:=br ρ w6 r6 lg dp MF.out.at_ ⟨#[40]⟩;rw[show(⟨#[40]⟩:ByteArray).data.toList=bz from rfl] at hm;clear hp az d Eh Z3;cases ho:ar bz r6
 ·rw[ho,ck ho] at hm;have HF:=hid (HE.out.trans (afs jh.out ho));clear ho;go_wp2_with fail;refine hm.mono ?_;clear hm;rintro e w7 ⟨rfl,d⟩;have HD7:=hid (MF.out.trans d);have Zf:=hid (d.blk EG.out Taa);clear d MF EG;go_wp2_with (first
   |(refine wpList_store_row rfl 36 (.tmp 2) (.tmp 68) rfl w.heap.size (aT (aam nm)).toArray rfl rfl 36 dF Zf.out aF rfl (cL _) ?_
     have HR:=hid (Zf.out.row (aT (aam nm)).toArray)))
  refine bodyPost_ret (v:=dN (aam nm)) (results_cell_row Tryz.results241 _ _ w.heap.size 36 (aT (aam nm)).toArray (0,0) _ rfl HR.out Tryz.underlying36 rfl aF) rfl ?_;exact bV bj HD7.out (WW _ _ nm) HF.out
 ·rw[ho,cw ho] at hm;have HF:=hid (HE.out.trans (afu jh.out ho));have hhl:=oB ho;obtain⟨t0,q0,hr6,ht0⟩:=eK ho;have H0:=hid (show(dX.good (t0::r6.tail)).of ρ.ws by have:=MF.out.at_.of;rw[hr6] at this ⊢;exact this);clear ho hr6;go_wp2_with fail;refine hm.mono ?_;clear hm;rintro e w7 ⟨rfl,d⟩;have HD7:=hid (MF.out.trans d);have Zf:=hid (d.blk EG.out Taa);clear d MF EG;generalize hW7:w7=W7 at*;clear hW7;have awY:r6.tail.length < l.length:=by omega
  generalize r6.tail=r7 at*;have awZ:=HD7.out.at_.left;obtain⟨c0,c1,c2,c3,f1,f2,f3⟩:=HD7.out.at_.facts;have e7:(ρ.n:Int) - (r7.length:Int) - 1=(ρ.n:Int) - ((r7.length:Int)+1):=by omega
  have hsn:=HD7.out.at_.small;have hfn:=Pf ρ W7 r7 lg dp HD7.out.at_ nm t0 H0.out (λ l2 W2 hl2 hg2=>IH 0 l2 W2 lg dp Taa Taa hg2);unfold bp.ptr at*;go_wp2_with fail;refine hfn.mono ?_;clear hfn c0 c1 c2 c3 f1 f2 f3;intro e w8 hp;rcases hp.cases with ⟨t8,r8,v,az,rfl,y,rfl,hat,d⟩|⟨m,au,rfl,hg⟩;case inr=>have HF2:=hid (HF.out.trans au);have HG:=hid HD7.out.grown;clear hp au;go_wp2_with fail;exact aj rfl (bt HF2.out HG.out hg)
  have hq7:=Zf.out.lt;have HD8:=hid (HD7.out.trans d);have Y5:=hid (d.blk Zf.out Taa);have HT8:=hid (hat.more (show w.heap.size+1<=W7.heap.size by omega));have HF2:=hid (HF.out.trans az);clear hp az d hat HD7 Zf;go_wp2_with (first
   |(refine wpList_store_row rfl 36 (.tmp 2) (.tmp 76) rfl w.heap.size (aT (y)).toArray rfl rfl 36 dF Y5.out aF rfl (cL _) ?_
     have HR:=hid (Y5.out.row (aT (y)).toArray)))
  refine bodyPost_ret (v:=dN (y)) (results_cell_row Tryz.results241 _ _ w.heap.size 36 (aT (y)).toArray (0,0) _ rfl HR.out Tryz.underlying36 rfl aF) rfl ?_;exact bV bj HD8.out HT8.out HF2.out):p:=h
theorem zcA.Kax(h:p:=by rw[show(⟨#[40]⟩:ByteArray).data.toList=bz from rfl,mX,ck mX] at hm;open zhT in exact Zf5):p:=h
theorem zaM.Kad(h:p:=by open zcA in exact ZaO):p:=h
theorem IY (ρ:bp)(w:World)(l:aI)(lg dp:Bool)(h:ρ.fU w l lg dp)(hk:∀t r,l=t::r->t.k≠2/\t.k≠3)(dT:ar eu l=false)(ez:ar dP l=false)(jy:ar bK l=false)(mX:ar bz l=false)(IH:QN ρ (8*l.length)):
  Calls Tryz.prog 241 #[ρ.ptr] w (fq ρ w lg dp (eD (aU 0)) l):=by have HKK:=hid hk;open zaM in exact Zag
theorem afw (ρ:bp)(w:World)(l:aI)(lg dp:Bool)(h:ρ.fU w l lg dp)(IH:QN ρ (8*l.length)):
  Calls Tryz.prog 241 #[ρ.ptr] w (fq ρ w lg dp (aU 7) l):=by
 rw[xz];obtain⟨t,r,pl,qD,hl,_⟩:=h.mh;have all:∀ {p:Wd->Prop},p t.w->∀x q,l=x::q->p x:=by intro p hp x q he;rw[hl] at he;injection he with h1 h2;rw[<- h1];exact hp
 by_cases h2:t.w.k=2
 ·exact Ph ρ w l lg dp h (all (p:=λ x=>x.k=2) h2)
 by_cases h3:t.w.k=3
 ·exact Lq ρ w l lg dp h (all (p:=λ x=>x.k=3) h3)
 have hk:=all (p:=λ x=>x.k≠2/\x.k≠3) ⟨h2,h3⟩;cases a:ar eu l
 ·cases b:ar dP l
  ·cases c:ar bK l
   ·cases d:ar bz l
    ·exact IY ρ w l lg dp h hk a b c d IH
    ·exact Lr ρ w l lg dp h hk a b c d IH
   ·exact Up ρ w l lg dp h hk a b c
  ·exact Uo ρ w l lg dp h hk a b
 ·exact Un ρ w l lg dp h hk a
theorem acU (ρ:bp):∀m,QN ρ m
 | 0=>λ lv l W lg dp h1 h2 h3=>absurd h2 Taa
 | m+1=>λ lv l W lg dp h1 h2 h3=>by
   have ih:=acU ρ m
   match lv,h1 with
   | 0,_=>exact aab ρ W l lg dp h3 (ih.less Taa)
   | 1,_=>exact aac ρ W l lg dp h3 (ih.less Taa)
   | 2,_=>exact akO ρ W l lg dp h3 (ih.less Taa)
   | 3,_=>exact akT ρ W l lg dp h3 (ih.less Taa)
   | 4,_=>exact aad ρ W l lg dp h3 (ih.less Taa)
   | 5,_=>exact aae ρ W l lg dp h3 (ih.less Taa)
   | 6,_=>exact akP ρ W l lg dp h3 (ih.less Taa)
   | 7,_=>exact afw ρ W l lg dp h3 (ih.less Taa)
theorem aqr (ρ:bp)(w:World)(l:aI)(lg dp:Bool)(h:ρ.fU w l lg dp):Calls Tryz.prog 154 #[ρ.ptr] w (fq ρ w lg dp eJ l):=acU ρ (8*l.length+8) 0 l w lg dp Taa Taa h
end Go.Proofs.YtehhdlgjfdnafaaGreatDoor
