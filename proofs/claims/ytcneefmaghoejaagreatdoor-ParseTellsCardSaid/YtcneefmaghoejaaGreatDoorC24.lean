/- Parts of the proof. -/
import Derived.Test.YtcneefmaghoejaaGreatDoorC23
namespace Go.Proofs.YtcneefmaghoejaaGreatDoor
open Go.Lib (hid)
open Go.ChangeShapes Go.WideShapes Go.ChangeAt Go.RowKit
set_option linter.unusedVariables false
set_option linter.unusedSimpArgs false
def Cy:Obj:=.cells #[.slice none 0 0,.string ⟨#[]⟩,.bool false,.slice none 0 0,.slice none 0 0,.slice none 0 0,.slice none 0 0,.slice none 0 0] 29
def N7 (items:List (Tr×ByteArray))(only:Bool)(bw:ByteArray)(bK group having:List Tr)(order:List (Tr×Bool)):Ps Qu:=do
 let cG ← jo
 return { items,bw,only,bK,group,having,order,cG }
def abG (items:List (Tr×ByteArray))(only:Bool)(bw:ByteArray)(bK group having:List Tr):Ps Qu:=do
 let order ← fU
 N7 items only bw bK group having order
def N8 (items:List (Tr×ByteArray))(only:Bool)(bw:ByteArray)(bK group:List Tr):Ps Qu:=do
 let having ← cL lK
 abG items only bw bK group having
def abH (items:List (Tr×ByteArray))(only:Bool)(bw:ByteArray)(bK:List Tr):Ps Qu:=do
 let group ← iT
 N8 items only bw bK group
def abI (items:List (Tr×ByteArray))(only:Bool)(bw:ByteArray):Ps Qu:=do
 let bK ← cL eO
 abH items only bw bK
def abJ (items:List (Tr×ByteArray))(only:Bool):Ps Qu:=do
 let bw ← aN
 abI items only bw
def abK (items:List (Tr×ByteArray)):Ps Qu:=do
 let only ← may jF
 abJ items only
def N9 (items:List (Tr×ByteArray)):Ps Qu:=do
 must dE
 abK items
def abL:Ps Qu:=do
 let items ← jR
 N9 items
theorem Td {w:World} {S:Nat→Prop} {G:Nat} {k:Int}(h:au w G 2 #[.int .i64 k])(hS:S G):LW.sl w S ⟨some ⟨G,0,none⟩,1,1⟩ [k]:=
 ⟨rfl,[k],xk (f:=fun k:Int=> [Value.int .i64 k]) (fun _=>rfl) h hS,.one rfl⟩
set_option maxHeartbeats 8000000
set_option maxRecDepth 100000
theorem Bj (ρ:br)(w:World)(l:bH)(lg dp:Bool)(h:ρ.ij w l lg dp):
  Calls Tryz.prog 70 #[ρ.ptr] w (Ta ρ w lg dp l):=by
 have aF:=h.jt;have VH:∀fn first cap w,(Instr.makeFunc fn first cap).run Tryz.prog w=.ok (.func fn first cap) w:=fun _ _ _ _=>rfl
 have b1:=aa w (.cells #[ρ.ptr] 58);have b3:=ah.then (ah.then b1 (aa _ Cy)) (aa _ Cy)
 have hP:=((au.new w 58 #[ρ.ptr]).alloc Cy).alloc Cy;have hR:=(au.new (w.alloc (.cells #[ρ.ptr] 58)) 29 X9).alloc Cy;have hQ:=au.new ((w.alloc (.cells #[ρ.ptr] 58)).alloc Cy) 29 (lx {}).toArray;rw[World.size_alloc] at hR;rw[World.size_alloc,World.size_alloc] at hQ;have HA:=hid (show GQ ρ w lg dp (((w.alloc (.cells #[ρ.ptr] 58)).alloc Cy).alloc Cy) l {} {} from
  ⟨by simpa [Qu.long,Qu.exprs,dU] using bJ.aL h b3,hQ,hR,hP,Qu.fq _ _⟩)
 have HE:=hid (show cH l=(must bt >>= fun _=>abL) l from rfl);clear h b1 b3 hP hR hQ;go_enter Tryz.func70,Tryz.ntmps70;go_upto_region 2 with fail
 change Code.wp _ _ _ _ (((w.alloc (.cells #[ρ.ptr] 58)).alloc Cy).alloc Cy);generalize hW:(World.alloc _ _)=W0 at*;clear hW;have hb:=aa W0 (.cells (aj [bt]) 9);have HB:=hid (HA.out.later hb);have hq:=HA.out.blk.lt;have p0:=HA.out.ptr;have hm:=bF ρ _ l _ _ HB.out.did.at_ [bt] W0.heap.size 1 rfl (au.new W0 _ _) (by omega) (by omega);clear hb HA;unfold aj strOf at hm HB;simp only[List.map_cons,List.map_nil] at hm HB;rw[show bt.toArray= #[115,101,108,101,99,116] from rfl] at hm HB;go_wp2_with fail;refine hm.mono ?_;clear hm p0;intro e w1 hp;rcases hp.cases with ⟨_,l1,v9,aO,rfl,rfl,d⟩|⟨m,ar,rfl,hg⟩;case inr=>
  have Cz:must bt l=.error m:=by rw[← aD];exact ar
  have HF:=hid (show cH l=.error m from HE.out.trans (ai Cz));have HG:=hid HB.out.did.grown;clear hp ar Cz;go_wp2_with fail;exact ag rfl (GP.err HF.out ⟨rfl,af HG.out hg⟩)
 have ky:must bt l=.ok ((),l1):=by rw[← aD];exact aO
 have xf:=hid (show cH l=abL l1 from HE.out.trans (ak ky));have pw:=hid (HB.out.go aF d);clear hp aO ky d HB hq;have p0:=pw.out.ptr;have hm:=bX ρ w1 l1 _ _ pw.out.did.at_ ⟨#[42]⟩;rw[show(⟨#[42]⟩:ByteArray).data.toList=eI from rfl] at hm;go_upto_if 9 with fail
 refine hm.mono ?_;clear hm p0;rintro e w2 ⟨rfl,d⟩;have iK:=hid (pw.out.go aF d);clear d pw HE;go_upto_if 9 with fail
 go_cut [] (fun wx=>∃(items:List (Tr×ByteArray)) (sl:Sl) (l':bH),cH l=N9 items l'∧GQ ρ w lg dp wx l' { items:=sl } { items:=items });case first=>
  cases hst:av eI l1
  ·rw[dm hst] at iK;have HY:=hid (Xp hst);clear hst;have p0:=iK.out.ptr;have hq:=iK.out.blk.lt;have F:=Fx (ρ:=ρ) (w:=w) (m:= {}) (d:= {}) aF 0 (by decide);have L:M6 ρ w (fun x=>decide (32 < x.1.depth)) gy 100 #[.pointer (some ⟨w.heap.size,0,none⟩),.pointer (some ⟨w.heap.size+1+1,0,none⟩)] ((QS ρ w {} {} 0).acc jE 51):=
    ⟨cJ,enters_of Tryz.func100 (by kernel_rfl) rfl,fun acc a b hs hg _=>by obtain⟨v,h⟩:=hs;exact⟨v,h.grown F hg⟩,fun acc W l lg dp hn hs hd=>KY (QS ρ w {} {} 0) F rfl rfl acc W l lg dp hn hs hd⟩
   have hm:=nP ρ w (fun x=>decide (32 < x.1.depth)) gy 100 #[.pointer (some ⟨w.heap.size,0,none⟩),.pointer (some ⟨w.heap.size+1+1,0,none⟩)] _ L w2 l1 _ _ iK.out.did (iK.out.start jE 51 0 rfl) aF;clear L F;go_wp2_with fail;refine hm.mono ?_;clear hm p0;intro e w3 hp;unfold jx at hp;cases hx:dx gy l1 with
   | error m=>rw[hx] at hp;obtain⟨rfl,hg⟩:=hp;have HF:=hid (show cH l=.error m from xf.out.trans (ai (HY.out.trans hx)));clear hx;go_wp2_with fail;exact ag rfl (GP.err HF.out ⟨rfl,hg⟩)
   | ok z=>obtain⟨xs,l3⟩:=z;rw[hx] at hp;obtain⟨rfl,hs,hd⟩:=hp;obtain⟨so,hA⟩:=GQ.list (lg:=lg) (dp:=dp) (m':=fun so=> { items:=so }) (d':= { items:=xs }) hs hd (fun _=>rfl) (by simp[Qu.long,Bool.or_assoc]) (by simp[Qu.exprs,dU,List.any_append,List.any_map,Function.comp_def,Bool.or_assoc]) (fun so fE hat=> { hat with items:=fE });have HAX:=hid hA;have Lf:=hid (xf.out.trans (ak (HY.out.trans hx)));clear hx hA hs hd iK;go_wp2_with fail;go_meet;exact⟨xs,so,l3,Lf.out,HAX.out⟩
  ·rw[dy hst] at iK;have Lf:=hid (show cH l=N9 [] l1.tail from xf.out.trans (ak (Xo hst)));clear hst;go_wp2_with fail;go_meet;exact⟨[],Sl.nil,_,Lf.out,iK.out⟩
 case rest=>
  obtain⟨items,sl,l3,hE,hA⟩:=hcut;have rz:=hid hE;have mD:=hid hA;clear hE hA iK xf;have hb:=aa wc (.cells (aj [dE]) 9);have HB:=hid (mD.out.later hb);have hq:=mD.out.blk.lt;have p0:=mD.out.ptr;have hm:=bF ρ _ l3 _ _ HB.out.did.at_ [dE] wc.heap.size 1 rfl (au.new wc _ _) (by omega) (by omega);clear hb mD;unfold aj strOf at hm HB;simp only[List.map_cons,List.map_nil] at hm HB;rw[show dE.toArray= #[102,114,111,109] from rfl] at hm HB;go_wp2_with fail;refine hm.mono ?_;clear hm p0;intro e w4 hp;rcases hp.cases with ⟨_,l4,v9,aO,rfl,rfl,d⟩|⟨m,ar,rfl,hg⟩;case inr=>
   have Cz:must dE l3=.error m:=by rw[← aD];exact ar
   have HF:=hid (show cH l=.error m from rz.out.trans (ai Cz));have HG:=hid HB.out.did.grown;clear hp ar Cz;go_wp2_with fail;exact ag rfl (GP.err HF.out ⟨rfl,af HG.out hg⟩)
  have ky:must dE l3=.ok ((),l4):=by rw[← aD];exact aO
  have JF:=hid (show cH l=abK items l4 from rz.out.trans (ak ky));have qs:=hid (HB.out.go aF d);clear hp aO ky d HB hq;have p0:=qs.out.ptr;have hm:=bX ρ w4 l4 _ _ qs.out.did.at_ ⟨#[111,110,108,121]⟩;rw[show(⟨#[111,110,108,121]⟩:ByteArray).data.toList=jF from rfl] at hm;go_wp2_with fail;refine hm.mono ?_;clear hm p0;rintro e w5 ⟨rfl,d⟩;have hX:=d.blk qs.out.blk (by omega);have hc:w5.cell? ⟨w.heap.size+1+1,2,none⟩=_:=hX.cell 2;have hf:w5.frozen? ⟨w.heap.size+1+1,2,none⟩=_:=hX.frozen 2;have Cq:=hid (qs.out.set (m':= { items:=sl,only:=av jF l4 }) (d':= { items:=items,only:=av jF l4 }) aF d 2 (.bool (av jF l4)) rfl (rfl) (rfl) (fun hat=> { hat with only:=rfl }));have HE5:=hid (show cH l=abJ items (av jF l4) (jv jF l4)from JF.out.trans (ak (rV jF l4)));clear hX d qs;generalize av jF l4=only at*;generalize jv jF l4=l5 at*;clear JF rz;go_upto_region 7 with fail
  clear hc hf;generalize w5.setCell _ _=W5 at*;have p0:=Cq.out.ptr;go_wp2_with fail;refine(fg ρ W5 l5 _ _ Cq.out.did.at_).mono ?_;clear p0;intro e w6 hp;rcases hp.cases with ⟨bw,l6,v9,aO,rfl,rfl,d⟩|⟨m,ar,rfl,hg⟩;case inr=>have HF:=hid (show cH l=.error m from HE5.out.trans (ai ar));have HG:=hid Cq.out.did.grown;clear hp ar;go_wp2_with fail;exact ag rfl (GP.err HF.out ⟨rfl,af HG.out hg⟩)
  have hX:=d.blk Cq.out.blk (by omega);have hc:w6.cell? ⟨w.heap.size+1+1,1,none⟩=_:=hX.cell 1;have hf:w6.frozen? ⟨w.heap.size+1+1,1,none⟩=_:=hX.frozen 1;have zo:=hid (Cq.out.set (m':= { items:=sl,only:=only,bw:=bw }) (d':= { items:=items,only:=only,bw:=bw }) aF d 1 (.string bw) rfl (rfl) (rfl) (fun hat=> { hat with bw:=rfl }));have L5:=hid (show cH l=abI items only bw l6 from HE5.out.trans (ak aO));clear hp aO;clear hX d Cq;clear HE5;go_upto_region 8 with fail
  clear hc hf;generalize w6.setCell _ _=W6 at*;have p0:=zo.out.ptr;have hq:=zo.out.blk.lt;have hm:=vp ρ W6 l6 _ _ zo.out.did.at_ eO;rw[show eO.toArray= #[119,104,101,114,101] from rfl] at hm;go_wp2_with fail;refine hm.mono ?_;clear hm p0;intro e w7 hp;rcases GP.cases hp with ⟨bK,l7,v9,aO,rfl,⟨A,n,c⟩,rfl,fE,d⟩|⟨m,ar,rfl,hg⟩;case inr=>have HF:=hid (show cH l=.error m from L5.out.trans (ai ar));have HG:=hid zo.out.did.grown;clear hp ar;go_wp2_with fail;exact ag rfl (GP.err HF.out ⟨rfl,af HG.out hg⟩)
  have hX:=d.blk zo.out.blk (by omega);have hc:w7.cell? ⟨w.heap.size+1+1,3,none⟩=_:=hX.cell 3;have hf:w7.frozen? ⟨w.heap.size+1+1,3,none⟩=_:=hX.frozen 3;have Xq:=hid (zo.out.set (m':= { items:=sl,only:=only,bw:=bw,bK:=⟨A,n,c⟩}) (d':= { items:=items,only:=only,bw:=bw,bK:=bK }) aF d 3 (.slice A n c) rfl (by simp[Qu.long,Bool.or_assoc]) (by simp[Qu.exprs,dU,List.any_append,List.any_map,Function.comp_def,Bool.or_assoc]) (fun hat=> { hat with bK:=El.lies.more fE (by omega)}));have HE7:=hid (show cH l=abH items only bw bK l7 from L5.out.trans (ak aO));clear hp aO fE hq;clear hX d zo;clear L5;unfold eP;go_upto_region 9 with fail
  obtain⟨sw,hsw⟩:∃s:Sl,s=⟨A,n,c⟩:=⟨_,rfl⟩;rw[← hsw] at Xq;clear hsw;clear hc hf;generalize w7.setCell _ _=W7 at*;have p0:=Xq.out.ptr;have hm:=bX ρ W7 l7 _ _ Xq.out.did.at_ ⟨#[103,114,111,117,112]⟩;rw[show(⟨#[103,114,111,117,112]⟩:ByteArray).data.toList=jI from rfl] at hm;go_upto_if 26 with fail
  refine hm.mono ?_;clear hm p0;rintro e w8 ⟨rfl,d⟩;have BZ:=hid (Xq.out.go aF d);clear d Xq;go_upto_if 26 with fail
  go_cut [] (fun wx=>∃(group:List Tr) (so:Sl) (l':bH),cH l=N8 items only bw bK group l'∧GQ ρ w lg dp wx l' { items:=sl,only:=only,bw:=bw,bK:=sw,group:=so } { items:=items,only:=only,bw:=bw,bK:=bK,group:=group });case first=>
   cases hst:av jI l7
   ·rw[dm hst] at BZ;have Lf:=hid (show cH l=N8 items only bw bK [] l7 from HE7.out.trans (ak (Tb hst)));clear hst;go_wp2_with fail;go_meet;exact⟨[],Sl.nil,_,Lf.out,BZ.out⟩
   ·rw[dy hst] at BZ;have HW:=hid (Pl hst);clear hst;have hb:=aa w8 (.cells (aj [nx]) 9);have HB:=hid (BZ.out.later hb);have hq:=BZ.out.blk.lt;have p0:=BZ.out.ptr;have hm:=bF ρ _ l7.tail _ _ HB.out.did.at_ [nx] w8.heap.size 1 rfl (au.new w8 _ _) (by omega) (by omega);clear hb BZ;unfold aj strOf at hm HB;simp only[List.map_cons,List.map_nil] at hm HB;rw[show nx.toArray= #[98,121] from rfl] at hm HB;go_wp2_with fail;refine hm.mono ?_;clear hm p0;intro e w8b hp;rcases hp.cases with ⟨_,l8b,v9,aO,rfl,rfl,d⟩|⟨m,ar,rfl,hg⟩;case inr=>
     have Cz:must nx l7.tail=.error m:=by rw[← aD];exact ar
     have HF:=hid (show cH l=.error m from HE7.out.trans (ai (HW.out.trans (ai Cz))));have HG:=hid HB.out.did.grown;clear hp ar Cz;go_wp2_with fail;exact ag rfl (GP.err HF.out ⟨rfl,af HG.out hg⟩)
    have ky:must nx l7.tail=.ok ((),l8b):=by rw[← aD];exact aO
    have abO:=hid (show iT l7=dx cW l8b from HW.out.trans (ak ky));have Te:=hid (HB.out.go aF d);clear hp aO ky d HB hq;have p0:=Te.out.ptr;have hq:=Te.out.blk.lt;have F:=Fx (ρ:=ρ) (w:=w) (m:= { items:=sl,only:=only,bw:=bw,bK:=sw }) (d:= { items:=items,only:=only,bw:=bw,bK:=bK }) aF 4 (by decide);have L:M6 ρ w (fun t=>decide (32 < t.depth)) cW 101 #[.pointer (some ⟨w.heap.size+1+1,0,none⟩),.pointer (some ⟨w.heap.size,0,none⟩)] ((QS ρ w { items:=sl,only:=only,bw:=bw,bK:=sw } { items:=items,only:=only,bw:=bw,bK:=bK } 4).acc gL 49):=
     ⟨cA,enters_of Tryz.func101 (by kernel_rfl) rfl,fun acc a b hs hg _=>by obtain⟨v,h⟩:=hs;exact⟨v,h.grown F hg⟩,fun acc W l lg dp hn hs hd=>Iw (QS ρ w { items:=sl,only:=only,bw:=bw,bK:=sw } { items:=items,only:=only,bw:=bw,bK:=bK } 4) F rfl rfl acc W l lg dp hn hs hd⟩
    have hm:=nP ρ w (fun t=>decide (32 < t.depth)) cW 101 #[.pointer (some ⟨w.heap.size+1+1,0,none⟩),.pointer (some ⟨w.heap.size,0,none⟩)] _ L w8b l8b _ _ Te.out.did (Te.out.start gL 49 4 rfl) aF;clear L F;go_wp2_with fail;refine hm.mono ?_;clear hm p0;intro e w8c hp;unfold jx at hp;cases hx:dx cW l8b with
    | error m=>rw[hx] at hp;obtain⟨rfl,hg⟩:=hp;have HF:=hid (show cH l=.error m from HE7.out.trans (ai (abO.out.trans hx)));clear hx;go_wp2_with fail;exact ag rfl (GP.err HF.out ⟨rfl,hg⟩)
    | ok z=>obtain⟨xs,l8c⟩:=z;rw[hx] at hp;obtain⟨rfl,hs,hd⟩:=hp;obtain⟨so,hA⟩:=GQ.list (lg:=lg) (dp:=dp) (m':=fun so=> { items:=sl,only:=only,bw:=bw,bK:=sw,group:=so }) (d':= { items:=items,only:=only,bw:=bw,bK:=bK,group:=xs }) hs hd (fun _=>rfl) (by simp[Qu.long,Bool.or_assoc]) (by simp[Qu.exprs,dU,List.any_append,List.any_map,Function.comp_def,Bool.or_assoc]) (fun so fE hat=> { hat with group:=fE });have HAX:=hid hA;have Lf:=hid (HE7.out.trans (ak (abO.out.trans hx)));clear hx hA hs hd Te;go_wp2_with fail;go_meet;exact⟨xs,so,l8c,Lf.out,HAX.out⟩
  case rest=>
   obtain⟨group,sg,l9,hE,hA⟩:=hcut;have cm:=hid hE;have gG:=hid hA;clear hE hA BZ HE7;have p0:=gG.out.ptr;have hq:=gG.out.blk.lt;have hm:=vp ρ wc l9 _ _ gG.out.did.at_ lK;rw[show lK.toArray= #[104,97,118,105,110,103] from rfl] at hm;go_wp2_with fail;refine hm.mono ?_;clear hm p0;intro e mY hp;rcases GP.cases hp with ⟨having,uq,v9,aO,rfl,⟨A,n,c⟩,rfl,fE,d⟩|⟨m,ar,rfl,hg⟩;case inr=>have HF:=hid (show cH l=.error m from cm.out.trans (ai ar));have HG:=hid gG.out.did.grown;clear hp ar;go_wp2_with fail;exact ag rfl (GP.err HF.out ⟨rfl,af HG.out hg⟩)
   have hX:=d.blk gG.out.blk (by omega);have hc:mY.cell? ⟨w.heap.size+1+1,5,none⟩=_:=hX.cell 5;have hf:mY.frozen? ⟨w.heap.size+1+1,5,none⟩=_:=hX.frozen 5;have Bb:=hid (gG.out.set (m':= { items:=sl,only:=only,bw:=bw,bK:=sw,group:=sg,having:=⟨A,n,c⟩}) (d':= { items:=items,only:=only,bw:=bw,bK:=bK,group:=group,having:=having }) aF d 5 (.slice A n c) rfl (by simp[Qu.long,Bool.or_assoc]) (by simp[Qu.exprs,dU,List.any_append,List.any_map,Function.comp_def,Bool.or_assoc]) (fun hat=> { hat with having:=El.lies.more fE (by omega)}));have KS:=hid (show cH l=abG items only bw bK group having uq from cm.out.trans (ak aO));clear hp aO fE hq;clear hX d gG;clear cm;unfold eP;go_upto_region 13 with fail
   obtain⟨sh,LU⟩:∃s:Sl,s=⟨A,n,c⟩:=⟨_,rfl⟩;rw[← LU] at Bb;clear LU;clear hc hf;generalize mY.setCell _ _=Zl at*;have p0:=Bb.out.ptr;have hm:=bX ρ Zl uq _ _ Bb.out.did.at_ ⟨#[111,114,100,101,114]⟩;rw[show(⟨#[111,114,100,101,114]⟩:ByteArray).data.toList=jJ from rfl] at hm;go_upto_if 37 with fail
   refine hm.mono ?_;clear hm p0;rintro e Fy ⟨rfl,d⟩;have IA:=hid (Bb.out.go aF d);clear d Bb;go_upto_if 37 with fail
   go_cut [] (fun wx=>∃(order:List (Tr×Bool)) (so:Sl) (l':bH),cH l=N7 items only bw bK group having order l'∧GQ ρ w lg dp wx l' { items:=sl,only:=only,bw:=bw,bK:=sw,group:=sg,having:=sh,order:=so } { items:=items,only:=only,bw:=bw,bK:=bK,group:=group,having:=having,order:=order });case first=>
    cases hst:av jJ uq
    ·rw[dm hst] at IA;have Lf:=hid (show cH l=N7 items only bw bK group having [] uq from KS.out.trans (ak (Pm hst)));clear hst;go_wp2_with fail;go_meet;exact⟨[],Sl.nil,_,Lf.out,IA.out⟩
    ·rw[dy hst] at IA;have HW:=hid (Le hst);clear hst;have hb:=aa Fy (.cells (aj [nx]) 9);have HB:=hid (IA.out.later hb);have hq:=IA.out.blk.lt;have p0:=IA.out.ptr;have hm:=bF ρ _ uq.tail _ _ HB.out.did.at_ [nx] Fy.heap.size 1 rfl (au.new Fy _ _) (by omega) (by omega);clear hb IA;unfold aj strOf at hm HB;simp only[List.map_cons,List.map_nil] at hm HB;rw[show nx.toArray= #[98,121] from rfl] at hm HB;go_wp2_with fail;refine hm.mono ?_;clear hm p0;intro e agp hp;rcases hp.cases with ⟨_,Xr,v9,aO,rfl,rfl,d⟩|⟨m,ar,rfl,hg⟩;case inr=>
      have Cz:must nx uq.tail=.error m:=by rw[← aD];exact ar
      have HF:=hid (show cH l=.error m from KS.out.trans (ai (HW.out.trans (ai Cz))));have HG:=hid HB.out.did.grown;clear hp ar Cz;go_wp2_with fail;exact ag rfl (GP.err HF.out ⟨rfl,af HG.out hg⟩)
     have ky:must nx uq.tail=.ok ((),Xr):=by rw[← aD];exact aO
     have ZA:=hid (show fU uq=dx fN Xr from HW.out.trans (ak ky));have IB:=hid (HB.out.go aF d);clear hp aO ky d HB hq;have p0:=IB.out.ptr;have hq:=IB.out.blk.lt;have F:=Fx (ρ:=ρ) (w:=w) (m:= { items:=sl,only:=only,bw:=bw,bK:=sw,group:=sg,having:=sh }) (d:= { items:=items,only:=only,bw:=bw,bK:=bK,group:=group,having:=having }) aF 6 (by decide);have L:M6 ρ w (fun x=>decide (32 < x.1.depth)) fN 102 #[.pointer (some ⟨w.heap.size,0,none⟩),.pointer (some ⟨w.heap.size+1+1,0,none⟩)] ((QS ρ w { items:=sl,only:=only,bw:=bw,bK:=sw,group:=sg,having:=sh } { items:=items,only:=only,bw:=bw,bK:=bK,group:=group,having:=having } 6).acc iM 97):=
      ⟨cu,enters_of Tryz.func102 (by kernel_rfl) rfl,fun acc a b hs hg _=>by obtain⟨v,h⟩:=hs;exact⟨v,h.grown F hg⟩,fun acc W l lg dp hn hs hd=>Iz (QS ρ w { items:=sl,only:=only,bw:=bw,bK:=sw,group:=sg,having:=sh } { items:=items,only:=only,bw:=bw,bK:=bK,group:=group,having:=having } 6) F rfl rfl acc W l lg dp hn hs hd⟩
     have hm:=nP ρ w (fun x=>decide (32 < x.1.depth)) fN 102 #[.pointer (some ⟨w.heap.size,0,none⟩),.pointer (some ⟨w.heap.size+1+1,0,none⟩)] _ L agp Xr _ _ IB.out.did (IB.out.start iM 97 6 rfl) aF;clear L F;go_wp2_with fail;refine hm.mono ?_;clear hm p0;intro e ale hp;unfold jx at hp;cases hx:dx fN Xr with
     | error m=>rw[hx] at hp;obtain⟨rfl,hg⟩:=hp;have HF:=hid (show cH l=.error m from KS.out.trans (ai (ZA.out.trans hx)));clear hx;go_wp2_with fail;exact ag rfl (GP.err HF.out ⟨rfl,hg⟩)
     | ok z=>obtain⟨xs,agq⟩:=z;rw[hx] at hp;obtain⟨rfl,hs,hd⟩:=hp;obtain⟨so,hA⟩:=GQ.list (lg:=lg) (dp:=dp) (m':=fun so=> { items:=sl,only:=only,bw:=bw,bK:=sw,group:=sg,having:=sh,order:=so }) (d':= { items:=items,only:=only,bw:=bw,bK:=bK,group:=group,having:=having,order:=xs }) hs hd (fun _=>rfl) (by simp[Qu.long,Bool.or_assoc]) (by simp[Qu.exprs,dU,List.any_append,List.any_map,Function.comp_def,Bool.or_assoc]) (fun so fE hat=> { hat with order:=fE });have HAX:=hid hA;have Lf:=hid (KS.out.trans (ak (ZA.out.trans hx)));clear hx hA hs hd IB;go_wp2_with fail;go_meet;exact⟨xs,so,agq,Lf.out,HAX.out⟩
   case rest=>
    obtain⟨order,so,QT,hE,hA⟩:=hcut;have Xs:=hid hE;have Xt:=hid hA;clear hE hA IA KS;have p0:=Xt.out.ptr;have hm:=bX ρ wc QT _ _ Xt.out.did.at_ ⟨#[108,105,109,105,116]⟩;rw[show(⟨#[108,105,109,105,116]⟩:ByteArray).data.toList=kN from rfl] at hm;go_wp2_with fail;refine hm.mono ?_;clear hm p0;rintro e rk ⟨rfl,d⟩;have xI:=hid (Xt.out.go aF d);clear d Xt;cases hst:av kN QT
    ·rw[dm hst] at xI;have Lf:=hid (show cH l=.ok ({ items:=items,only:=only,bw:=bw,bK:=bK,group:=group,having:=having,order:=order },QT)from Xs.out.trans ((ak (Tc hst)).trans rfl));clear hst;go_wp2_with (first
      |(refine wpList_load_row rfl 29 (.tmp 3) rfl (w.heap.size+1+1) rfl 29 _ (0,0) _ xI.out.blk Tryz.underlying29 rfl tT ?_)
      |(refine wpList_store_row rfl 29 (.tmp 2) (.tmp 50) rfl (w.heap.size+1) (lx { items:=sl,only:=only,bw:=bw,bK:=sw,group:=sg,having:=sh,order:=so }).toArray rfl rfl 29 X9 xI.out.res tT rfl (SZ _) ?_
        have HR:=hid (xI.out.res.row (lx { items:=sl,only:=only,bw:=bw,bK:=sw,group:=sg,having:=sh,order:=so }).toArray)))
     exact bodyPost_ret (v:=KP { items:=sl,only:=only,bw:=bw,bK:=sw,group:=sg,having:=sh,order:=so }) (results_cell_row Tryz.results70 _ _ (w.heap.size+1) 29 (lx { items:=sl,only:=only,bw:=bw,bK:=sw,group:=sg,having:=sh,order:=so }).toArray (0,0) _ rfl HR.out Tryz.underlying29 rfl tT) rfl (xI.out.post aF Lf.out)
    ·rw[dy hst] at xI;have HW:=hid (Pn hst);clear hst;have p0:=xI.out.ptr;go_wp2_with fail;refine(fj ρ rk _ _ _ xI.out.did.at_).mono ?_;clear p0;intro e rp hp;rcases hp.cases with ⟨k,MT,v9,aO,rfl,rfl,_,d⟩|⟨m,ar,rfl,hg⟩;case inr=>have HF:=hid (show cH l=.error m from Xs.out.trans (ai (HW.out.trans (ai ar))));have HG:=hid xI.out.did.grown;clear hp ar;go_wp2_with fail;exact ag rfl (GP.err HF.out ⟨rfl,af HG.out hg⟩)
     have Lf:=hid (show cH l=.ok ({ items:=items,only:=only,bw:=bw,bK:=bK,group:=group,having:=having,order:=order,cG:=[k] },MT)from Xs.out.trans ((ak (HW.out.trans ((ak aO).trans rfl))).trans rfl));have hq:=xI.out.blk.lt;have hs:=d.size;have hb:=aa rp (.cells #[.int .i64 k] 2);have hN:=Td (S:=eD (w.heap.size+3) (rp.alloc (.cells #[.int .i64 k] 2))) (au.new rp 2 #[.int .i64 k]) ⟨by omega,by simp⟩;have hX:=(d.later hb).blk xI.out.blk (by omega);have hc:(rp.alloc (.cells #[.int .i64 k] 2)).cell? ⟨w.heap.size+1+1,7,none⟩=_:=hX.cell 7;have hf:(rp.alloc (.cells #[.int .i64 k] 2)).frozen? ⟨w.heap.size+1+1,7,none⟩=_:=hX.frozen 7;have Xu:=hid (xI.out.set (m':= { items:=sl,only:=only,bw:=bw,bK:=sw,group:=sg,having:=sh,order:=so,cG:=⟨some ⟨rp.heap.size,0,none⟩,1,1⟩}) (d':= { items:=items,only:=only,bw:=bw,bK:=bK,group:=group,having:=having,order:=order,cG:=[k] }) aF (d.later hb) 7 (.slice (some ⟨rp.heap.size,0,none⟩) 1 1) rfl rfl rfl (fun hat=> { hat with cG:=hN }));clear hp aO hX d hb hN xI Xs HW;go_upto_region 18 with fail
     clear hc hf;generalize (World.setCell _ _ _)=VQ at*;generalize (some (Addr.mk rp.heap.size 0 none))=AX at*;go_wp2_with (first
      |(refine wpList_load_row rfl 29 (.tmp 3) rfl (w.heap.size+1+1) rfl 29 _ (0,0) _ Xu.out.blk Tryz.underlying29 rfl tT ?_)
      |(refine wpList_store_row rfl 29 (.tmp 2) (.tmp 50) rfl (w.heap.size+1) (lx { items:=sl,only:=only,bw:=bw,bK:=sw,group:=sg,having:=sh,order:=so,cG:=⟨AX,1,1⟩}).toArray rfl rfl 29 X9 Xu.out.res tT rfl (SZ _) ?_
        have HR:=hid (Xu.out.res.row (lx { items:=sl,only:=only,bw:=bw,bK:=sw,group:=sg,having:=sh,order:=so,cG:=⟨AX,1,1⟩}).toArray)))
     exact bodyPost_ret (v:=KP { items:=sl,only:=only,bw:=bw,bK:=sw,group:=sg,having:=sh,order:=so,cG:=⟨AX,1,1⟩}) (results_cell_row Tryz.results70 _ _ (w.heap.size+1) 29 (lx { items:=sl,only:=only,bw:=bw,bK:=sw,group:=sg,having:=sh,order:=so,cG:=⟨AX,1,1⟩}).toArray (0,0) _ rfl HR.out Tryz.underlying29 rfl tT) rfl (Xu.out.post aF Lf.out)
def Po (ρ:br)(W:World)(pb:Nat):uo:=⟨ρ,W,25,W.heap.size,0,pb,W.heap.size+1,#[.slice none 0 0],[],fun _ _=>True⟩
theorem Tf {ρ:br} {W:World} {pb:Nat}(hg:ρ.g < W.heap.size)(h1:ρ.g < pb)(h2:pb < W.heap.size):(Po ρ W pb).Fit:=
 ⟨hg,Nat.le_refl _,h1,by show pb≠W.heap.size;omega,Nat.lt_succ_self _,by show pb < W.heap.size+1;omega,fun x hx=>by simp[Po] at hx,by show 0 < 1;omega,fun w w' S S' h hk=>trivial⟩
theorem Pp (γ:uo)(F:γ.Fit)(Pg:γ.TQ=35)(hk:γ.k=19)(acc:List (List Tr))(W:World)(l:bH)(lg dp:Bool)(hn:acc.length≤5000)(hs:γ.acc pL 25 acc W)(hd:bJ γ.ρ γ.W0 W l lg dp):
  Calls Tryz.prog 75 #[.pointer (some ⟨γ.pb,0,none⟩),.pointer (some ⟨γ.qb,0,none⟩)] W (um γ.ρ γ.W0 (fun r=>decide (64 < r.length)) (fun r=>dU r) mL (γ.acc pL 25) acc lg dp l):=by
 obtain⟨v,A⟩:=hs;have VH:∀fn first cap w,(Instr.makeFunc fn first cap).run Tryz.prog w=.ok (.func fn first cap) w:=fun _ _ _ _=>rfl
 have aF:=F.gg;have N6:=F.p0;have YH:=F.pq;have hqB:=F.qB;have hpB:=F.pB;have hsz:=A.sz;have V6:γ.ρ.g < W.heap.size:=by have:=hd.lt;omega
 have hvo:∀G,v.ownBlock=some G→G < W.heap.size:=fun G hG=>(A.ge hG).2
 have HA:=hid A;have HD:=hid hd;have b1:=aa W (.cells #[.slice none 0 0] 25);have HR:=hid (au.new W 25 #[.slice none 0 0]);have HG1:=hid (bJ.aL hd.at_ b1);clear Pg A hd b1;go_enter Tryz.func75,Tryz.ntmps75;go_upto_region 1 with fail
 generalize hW1:(W.alloc _)=W1 at*;clear hW1
 -- the opening bracket
 have hr1:=HR.out.lt;have p0:=(HA.out.grown F HG1.out.grown).ptr;have hb:=aa W1 (.cells (aj [aX]) 9);have xH:=hid (HG1.out.later hb);have xt:=hid (HR.out.later hb);have hm:=bF γ.ρ _ l _ _ xH.out.at_ [aX] W1.heap.size 1 rfl (au.new W1 _ _) (by omega) (by omega);clear hb HG1 HR;unfold aj strOf at hm xH xt;simp only[List.map_cons,List.map_nil] at hm xH xt;rw[show aX.toArray= #[40] from rfl] at hm xH xt;go_wp2_with fail;refine hm.mono ?_;clear hm p0;intro e w2 hp;rcases hp.cases with ⟨_,l2,v9,aO,rfl,rfl,d⟩|⟨m,ar,rfl,hg⟩;case inr=>
  have Cz:must aX l=.error m:=by rw[← aD];exact ar
  have HF:=hid (show mL l=.error m from ai Cz);have HG:=hid (af HD.out.grown xH.out.grown);clear hp ar Cz;go_wp2_with fail;exact ag rfl (um.err HF.out ⟨rfl,af HG.out hg⟩)
 have ky:must aX l=.ok ((),l2):=by rw[← aD];exact aO
 have HE:=hid (show mL l=(dx cW >>= fun xs=>must aq >>= fun _=>pure xs) l2 from ak ky);have Cc:=hid (xH.out.trans d);have HR3:=hid (d.blk xt.out (by omega));clear hp aO ky d xH xt
 -- the list
 have dw:=HA.out.grown F Cc.out.grown;have p0:=dw.ptr;have F2:=Tf (ρ:=γ.ρ) (W:=W) (pb:=γ.pb) V6 N6 (by omega);have hac:(Po γ.ρ W γ.pb).acc gL 49 [] w2:=⟨.slice none 0 0,HR3.out,gY.nil gL 49 w2 (W.heap.size+1),trivial,by have:=HR3.out.lt;show W.heap.size+1≤w2.heap.size;omega,dw.tK,fun x hx=>by simp[Po] at hx⟩;have L:M6 γ.ρ W (fun t=>decide (32 < t.depth)) cW 76 #[.pointer (some ⟨W.heap.size,0,none⟩),.pointer (some ⟨γ.pb,0,none⟩)] ((Po γ.ρ W γ.pb).acc gL 49):=
  ⟨cA,enters_of Tryz.func76 (by kernel_rfl) rfl,fun acc a b hs hg _=>by obtain⟨v,h⟩:=hs;exact⟨v,h.grown F2 hg⟩,fun acc W3 l lg dp hn hs hd=>Ix (Po γ.ρ W γ.pb) F2 rfl rfl acc W3 l lg dp hn hs hd⟩
 have hm:=nP γ.ρ W (fun t=>decide (32 < t.depth)) cW 76 #[.pointer (some ⟨W.heap.size,0,none⟩),.pointer (some ⟨γ.pb,0,none⟩)] _ L w2 l2 lg dp Cc.out hac V6;have Zn:=hid F2;clear L F2 hac dw HR3;go_wp2_with fail;refine hm.mono ?_;clear hm p0;intro e w3 hp;unfold jx at hp;cases hx:dx cW l2 with
 | error m=>rw[hx] at hp;obtain⟨rfl,hg⟩:=hp;have HF:=hid (show mL l=.error m from HE.out.trans (ai hx));have HG:=hid (af HD.out.grown hg);clear hx hg;go_wp2_with fail;exact ag rfl (um.err HF.out ⟨rfl,HG.out⟩)
 | ok z=>
   obtain⟨xs,l3⟩:=z;rw[hx] at hp;obtain⟨rfl,⟨v3,hs⟩,hd⟩:=hp;have rz:=hid (show mL l=(must aq >>= fun _=>pure xs) l3 from HE.out.trans (ak hx));have HS:=hid hs;have JG:=hid hd;clear hx hs hd HE Cc
   -- the closing bracket
   have hw3:=JG.out.size;have alg:=JG.out.lt;have p0:=(HA.out.grown F JG.out.grown).ptr;have hb:=aa w3 (.cells (aj [aq]) 9);have Cx:=hid (JG.out.later hb);have M5:=hid (HS.out.later Zn.out hb);have hm:=bF γ.ρ _ l3 _ _ Cx.out.at_ [aq] w3.heap.size 1 rfl (au.new w3 _ _) (by omega) (by omega);clear hb JG HS;unfold aj strOf at hm Cx M5;simp only[List.map_cons,List.map_nil] at hm Cx M5;rw[show aq.toArray= #[41] from rfl] at hm Cx M5;go_wp2_with fail;refine hm.mono ?_;clear hm p0;intro e w4 hp;rcases hp.cases with ⟨_,l4,v9,aO,rfl,rfl,d⟩|⟨m,ar,rfl,hg⟩;case inr=>
    have Cz:must aq l3=.error m:=by rw[← aD];exact ar
    have HF:=hid (show mL l=.error m from rz.out.trans (ai Cz));have HG:=hid (af HD.out.grown Cx.out.grown);clear hp ar Cz;go_wp2_with fail;exact ag rfl (um.err HF.out ⟨rfl,af HG.out hg⟩)
   have ky:must aq l3=.ok ((),l4):=by rw[← aD];exact aO
   have JF:=hid (show mL l=.ok (xs,l4)from rz.out.trans ((ak ky).trans rfl));have HG6:=hid (Cx.out.trans d);have hS:=M5.out.grown Zn.out d.grown;clear hp aO ky d Cx M5
   -- the append
   obtain⟨sl,hv,hn9,fE⟩:=hS.row.sl (B':=W.heap.size+1) (Nat.le_refl _);have x0:w4.cell? ⟨W.heap.size,0,none⟩=some v3:=hS.cell Zn.out;rw[hv] at x0;obtain⟨A3,n3,c3⟩:=sl;unfold eP at x0;have HSL:=hid fE;have hA:=HA.out.grown F HG6.out.grown;have tR:=hid hA;have kq:=hA.cell F;rw[hk] at kq;have KZ:=hA.sz;have hw4:=HG6.out.size;have HDD:=hid (HD.out.trans HG6.out);clear hA hS hv hn9 fE rz HG6 HA HD Zn;go_wp2_with (first
    |(at_builtin
      refine fo tR.out F rfl _ _ 30 rfl _ 24 Tryz.underlying30 Pj rfl (by decide) (⟨A3,n3,c3⟩:Sl) (row_one _) rfl rfl (by omega) (by omega) KZ ?_
      intro ys v' W3 ha iz eB hv
      obtain⟨A9,n9,c9,rfl⟩:=mV iz
      obtain⟨La,Lb,vr,vt⟩:=tR.out.push F HDD.out (n0:=W.heap.size+1) (x:=xs) (y:=(⟨A3,n3,c3⟩:Sl)) (show pL.rel w4 (eD (W.heap.size+1) w4) xs (⟨A3,n3,c3⟩:Sl)from HSL.out) (by omega) (fun G hG=>by have:=hvo G hG;omega) ha (aa _ _) eB iz (by simpa using hv)
      rw[hk] at La Lb vr vt
      have Lc:=hid vr
      have Ld:=hid vt
      clear vr vt ha iz eB hv))
   go_end0;exact um.ok JF.out ⟨_,Lc.out⟩ Ld.out
def dA:Array Value:=(cx {}).toArray
def iL (m:qY):Obj:=.cells (cx m).toArray 35
theorem cD:(Tryz.prog.info? 35).map (·.size)=some 28:=by kernel_rfl
theorem dI (m:qY):(cx m).toArray.all (·.oneCell')=true:=by simp[cx,lx,eP,fI,Value.oneCell']
def dJ (ρ:br)(w:World)(lg dp:Bool)(P:Ps St)(l:bH)(e:Ending)(w':World):Prop:=
 GP ρ w P l (fun d r v w'=>∃m:qY,v=np m∧d.at_ w' (eD w.heap.size w') m∧bJ ρ w w' r (lg || d.long) (dp || dU d.exprs)) e w'
structure yT (ρ:br) (w:World) (q:Nat) (xh:List Nat) (lg dp:Bool) (wr:World) (l:bH):Prop where
 did:bJ ρ w wr l lg dp
 res:au wr q 35 dA
 qw:w.heap.size≤q
 tK:∀p∈xh,w.heap.size≤p∧p≠q∧au wr p 58 #[ρ.ptr]
structure uC (ρ:br) (w:World) (q:Nat) (xh:List Nat) (lg dp:Bool) (b:Nat) (wr:World) (l:bH) (m:qY) (d:St):Prop where
 sa:yT ρ w q xh (lg || d.long) (dp || dU d.exprs) wr l
 blk:au wr b 35 (cx m).toArray
 at_:d.at_ wr (eD (b+1) wr) m
 qb:q < b
 pb:∀p∈xh,p < b
section
variable {ρ:br} {w wr w2:World} {q b:Nat} {xh:List Nat} {lg dp lg2 dp2:Bool} {l l2:bH} {m:qY} {d:St}
theorem yT.later (A:yT ρ w q xh lg dp wr l)(hb:Below wr.heap.size wr w2):yT ρ w q xh lg dp w2 l:=
 ⟨A.did.later hb,A.res.later hb,A.qw,fun p hp=>by obtain⟨a,c,h⟩:=A.tK p hp;exact⟨a,c,h.later hb⟩⟩
theorem yT.go (A:yT ρ w q xh lg dp wr l)(hg:ρ.g < w.heap.size)(D:bJ ρ wr w2 l2 lg2 dp2):yT ρ w q xh lg2 dp2 w2 l2:=by have hq:=A.qw;exact⟨A.did.trans D,D.blk A.res (by omega),A.qw,fun p hp=>by obtain⟨a,c,h⟩:=A.tK p hp;exact⟨a,c,D.blk h (by omega)⟩⟩
theorem yT.ptr {p:Nat}(A:yT ρ w q [p] lg dp wr l):wr.cell? ⟨p,0,none⟩=some ρ.ptr:=(A.tK p (by simp)).2.2.cell 0
theorem yT.start (A:yT ρ w q xh lg dp wr l)(m:qY)(d:St)(hpl:∀p∈xh,p < wr.heap.size)(hl:lg2=(lg || d.long))(hd:dp=(dp2 || dU d.exprs))(uT:lg=(lg2 || d.long))(hat:∀W S,St.at_ W S d m):uC ρ w q xh lg2 dp2 wr.heap.size (wr.alloc (iL m)) l m d:=by have hb:=aa wr (iL m);exact⟨by rw[← uT,← hd];exact A.later hb,au.new wr _ _,hat _ _,A.res.lt,hpl⟩
theorem uC.later (A:uC ρ w q xh lg dp b wr l m d)(hb:Below wr.heap.size wr w2):uC ρ w q xh lg dp b w2 l m d:=
 ⟨A.sa.later hb,A.blk.later hb,St.at_.keep (cP hb) A.at_,A.qb,A.pb⟩
theorem uC.go (A:uC ρ w q xh lg dp b wr l m d)(hg:ρ.g < w.heap.size)(D:bJ ρ wr w2 l2 (lg || d.long) (dp || dU d.exprs)):uC ρ w q xh lg dp b w2 l2 m d:=by
 have hq:=A.qb;have hw:=A.sa.qw
 exact⟨A.sa.go hg D,D.blk A.blk (by omega),St.at_.keep (cK D.grown (by omega)) A.at_,A.qb,A.pb⟩
theorem uC.set {m':qY} {d':St}(A:uC ρ w q xh lg dp b wr l m d)(hg:ρ.g < w.heap.size)(D:bJ ρ wr w2 l2 lg2 dp2)(i:Nat)(u:Value)(hb:(cx m').toArray=(cx m).toArray.setIfInBounds i u)(hl:lg2=(lg || d'.long))(hd:dp2=(dp || dU d'.exprs))(hat:d.at_ w2 (eD (b+1) w2) m→St.at_ w2 (eD (b+1) w2) d' m'):uC ρ w q xh lg dp b (w2.setCell ⟨b,i,none⟩ u) l2 m' d':=by
 have hq:=A.qb;have hw:=A.sa.qw
 have S:=A.sa.go hg D;refine⟨⟨?_,S.res.far (p:=⟨b,i,none⟩) (by simp;omega) u,S.qw,fun p hp=>?_⟩,?_,St.at_.keep (iO (Nat.lt_succ_self _) i u) (hat (St.at_.keep (cK D.grown (by omega)) A.at_)),A.qb,A.pb⟩
 ·rw[← hl,← hd];exact S.did.far hg (by omega) i u
 ·obtain⟨a,c,h⟩:=S.tK p hp;have:=A.pb p hp;exact⟨a,c,h.far (p:=⟨b,i,none⟩) (by simp;omega) u⟩
 ·rw[hb];exact(D.blk A.blk (by omega)).cg i u
def Xv (ρ:br)(w:World)(q p b:Nat)(m:qY)(d:St)(k:Nat):uo:=⟨ρ,w,35,b,k,p,b+1,(cx m).toArray,[(q,35,dA)],fun W S=>d.at_ W S m⟩
theorem uC.fit {p:Nat}(A:uC ρ w q [p] lg dp b wr l m d)(hg:ρ.g < w.heap.size)(k:Nat)(hk:k < 28):(Xv ρ w q p b m d k).Fit:=by
 have hq:=A.qb;have hw:=A.sa.qw;have hp:=A.pb p (by simp);obtain⟨h1,h2,_⟩:=A.sa.tK p (by simp)
 exact⟨hg,by show w.heap.size≤b;omega,by show ρ.g < p;omega,by show p≠b;omega,Nat.lt_succ_self _,by show p < b+1;omega,fun x hx=>by simp[Xv] at hx;subst hx;exact⟨hw,by show q≠b;omega,by show q < b+1;omega⟩,by show k < 28;exact hk,fun w w' S S' h hk=>St.at_.keep hk h⟩
theorem uC.start {p:Nat}(A:uC ρ w q [p] lg dp b wr l m d) {α:Type}(E:El α)(T:TypeId)(k:Nat)(hk:(cx m).toArray.setIfInBounds k (.slice none 0 0)=(cx m).toArray):(Xv ρ w q p b m d k).acc E T [] wr:=
 ⟨.slice none 0 0,by show au wr _ _ ((cx m).toArray.setIfInBounds k _);rw[hk];exact A.blk,gY.nil E T wr _,St.at_.keep (fun b hb=>⟨fun _=>rfl,hb.1,hb.2,by simp[Value.ownBlock]⟩) A.at_,by have:=A.blk.lt;show b+1≤_;omega,(A.sa.tK p (by simp)).2.2,fun x hx=>by simp[Xv] at hx;subst hx;exact A.sa.res⟩
theorem uC.list {p:Nat} {α:Type} {E:El α} {T:TypeId} {k:Nat} {xs:List α} {m':Sl→qY} {d':St}(A:uC ρ w q [p] lg dp b wr l m d)(hs:(Xv ρ w q p b m d k).acc E T xs w2)(D:bJ ρ w w2 l2 lg2 dp2)(hm:∀sl,(cx (m' sl)).toArray=(cx m).toArray.setIfInBounds k (eP sl))(hl:lg2=(lg || d'.long))(hd:dp2=(dp || dU d'.exprs))(hat:∀sl,E.sl w2 (eD (b+1) w2) sl xs→d.at_ w2 (eD (b+1) w2) m→d'.at_ w2 (eD (b+1) w2) (m' sl)):∃sl,uC ρ w q [p] lg dp b w2 l2 (m' sl) d':=by
 obtain⟨v,B⟩:=hs;obtain⟨sl,hv,_,fE⟩:=B.row.sl (B':=b+1) (Nat.le_refl _);obtain⟨h1,h2,_⟩:=A.sa.tK p (by simp);refine⟨sl,⟨?_,B.SQ (q,35,dA) (by simp[Xv]),A.sa.qw,fun p' hp=>by simp at hp;subst hp;exact⟨h1,h2,B.tK⟩⟩,?_,hat sl fE (St.at_.keep (sq (Nat.le_refl _)) B.kp),A.qb,A.pb⟩
 ·rw[← hl,← hd];exact D
 ·rw[hm,← hv];exact B.blk
theorem uC.post {P:Ps St} {l0:bH}(A:uC ρ w q xh lg dp b wr l m d)(hg:ρ.g < w.heap.size)(hp:P l0=.ok (d,l)):dJ ρ w lg dp P l0 (.returned (np m)) (wr.setRow q (cx m).toArray):=by
 have hq:=A.qb;have hw:=A.sa.qw
 exact GP.ok hp ⟨m,rfl,St.at_.keep (et (by omega)) (St.at_.keep (iP wr (show q < b+1 by omega) _) A.at_),A.sa.did.own hg (dH wr _ _) (fun G e=>by injection e with e;omega)⟩
end
theorem sD {P:Program} {id:Nat} {o:Oper} {l:List Oper} {Q:Exit→Act→List Frame→World→Prop} {a:Act} {cs:List Frame} {w:World}(hw:Region.wanted o (yielded (o::l).toArray a.tmps)=true)(hr:(execOp a.eval o).run P w=.ok .recover w) {v:Value} {cs':List Frame}
  (hc:recoverD cs=some (v,cs')∨recoverD cs=none∧v=.nilIface∧cs'=cs) (h:wpList P (o::l).toArray (fun e a w=>Q e a cs' w) l (a.put o.dst v) w):(Code.region id (o::l).toArray false).wpS P Q a cs w:=by
 intro b k hb hro;obtain⟨e,a',w',q,agt⟩:=wp_ops (ops:=(o::l).toArray) (List.range' 1 l.length) _ w (by rw[wpOps_eq_wpList l 1 (fun j=>by simp[Nat.add_comm])];exact h) b k cs';refine⟨e,a',cs',w',q,.of_steps (.one step_region) ?_⟩;have e0:List.range (o::l).toArray.size=0::List.range' 1 l.length:=by rw[List.range_eq_range'];simp[List.range'_succ]
 rw[e0];have ho:(o::l).toArray[0]?=some o:=by simp
 have hg:=stepG_op (P:=P) (b:=b) (k:=k) (cs:=cs) (w:=w) (rest:=List.range' 1 l.length) ho hw;have uU:∀v,(b.at a (.inRegion (o::l).toArray (0::List.range' 1 l.length)::k)).finish v=b.at (a.put o.dst v) (.inRegion (o::l).toArray (List.range' 1 l.length)::k):=by intro v;rw[Frame.finish_at,ho];rfl
 have htr:=tryRecover_deferred (fr:=b.at a (.inRegion (o::l).toArray (0::List.range' 1 l.length)::k)) hb cs;refine .of_steps (.one (step_lone_go ?_)) agt;rw[hg,← uU];simp only[Frame.at] at htr ⊢;rcases hc with hc |⟨hc,rfl,rfl⟩<;> simp[stepG.apply,hr,htr,hc]
theorem Bk:Tryz.prog.built 35 []=some dA:=by kernel_rfl
def qP (b0 b1 b2:Nat):Array Value:= #[.pointer (some ⟨b0,0,none⟩),.pointer (some ⟨b1,0,none⟩),.pointer (some ⟨b2,0,none⟩)]
theorem IC (b0 b1 b2:Nat)(w:World):CallsD Tryz.prog 16 (qP b0 b1 b2) .returning w fun e u' w'=>e=.returned (.tuple #[])∧u'=.returning∧Below w.heap.size w w':=by
 refine callsD_of_wpS Tryz.func16 rfl fun Xw cs hu=>?_
 unfold qP;change Code.wpS Tryz.prog _ _ { tmps:= #[.pointer (some ⟨b0,0,none⟩),.pointer (some ⟨b1,0,none⟩),.pointer (some ⟨b2,0,none⟩),undef,undef,undef,undef,undef,undef,undef,undef,undef,undef,undef],defers:=[] } _ _;apply wpS_seq;refine sD (v:=.nilIface) (cs':=Xw::cs) (by rfl) rfl (.inr ⟨by simp[recoverD,hu],rfl,rfl⟩) ?_;have hta:∀w,(Instr.typeAssert .nilIface 20 56 true).run Tryz.prog w=.ok (.tuple #[.agg #[.int .i64 0],.bool false]) w:=fun _=>rfl
 have hb:=aa w (.cells #[.int .i64 0] 56);go_wp2_with fail;change Code.wpS _ _ _ _ _ _;refine wpS_of_wp ?_;go_wp2_with fail;simp only[bodyPostS];refine⟨trivial,Xw.mode,rfl,.tuple #[],?_,rfl,hu,?_⟩
 ·simp[results,Tryz.results16]
 ·exact hb
def Pq (p:Int):Value:=.iface 56 (.agg #[.int .i64 p])
theorem Fz (p:Int)(N b0 b1 b2:Nat)(h0:N≤b0)(h1:N≤b1)(h2:N≤b2)(n1:b0≠b1)(n2:b0≠b2)(n3:b1≠b2)(w:World)(cs0:Array Value)(hs0:cs0.size=28)(hb0:au w b0 35 cs0)(x y:Value)(hb1:au w b1 3 #[x])(hb2:au w b2 36 #[y])(Tg:List PanicEntry):
  CallsD Tryz.prog 16 (qP b0 b1 b2) (.panicking ({ v:=Pq p,recovered:=false }::Tg)) w fun e u' w'=>e=.returned (.tuple #[])∧u'=.panicking ({ v:=Pq p,recovered:=true }::Tg)∧au w' b0 35 dA∧au w' b1 3 #[.int .i64 p]∧au w' b2 36 #[.int .i64 31]∧Below N w w':=by
 refine callsD_of_wpS Tryz.func16 rfl fun Xw cs hu=>?_
 unfold qP;change Code.wpS Tryz.prog _ _ { tmps:= #[.pointer (some ⟨b0,0,none⟩),.pointer (some ⟨b1,0,none⟩),.pointer (some ⟨b2,0,none⟩),undef,undef,undef,undef,undef,undef,undef,undef,undef,undef,undef],defers:=[] } _ _;apply wpS_seq;refine sD (v:=Pq p) (cs':= { Xw with mode:=.panicking ({ v:=Pq p,recovered:=true }::Tg)}::cs) (by rfl) rfl (.inl (by simp[recoverD,hu])) ?_;have hta:∀w,(Instr.typeAssert (Pq p) 20 56 true).run Tryz.prog w=.ok (.tuple #[.agg #[.int .i64 p],.bool true]) w:=fun _=>rfl
 go_wp2_with fail;change Code.wpS _ _ _ _ _ _;refine wpS_of_wp ?_;have hN:N≤w.heap.size:=by have:=hb0.lt;omega
 have iY:=(aa w (.cells #[.int .i64 p] 56)).mono hN;have HF:=au.new w 56 #[.int .i64 p];have HB0:=hb0.alloc (.cells #[.int .i64 p] 56);have ry:=hb1.alloc (.cells #[.int .i64 p] 56);have zh:=hb2.alloc (.cells #[.int .i64 p] 56);have q0:=hb0.lt;have q1:=hb1.lt;have q2:=hb2.lt;clear hb0 hb1 hb2 hta;obtain⟨z0,hz0⟩:∃z,z=dA:=⟨_,rfl⟩;have HZ:=hid (show Tryz.prog.built 35 []=some z0 by rw[hz0];exact Bk);have Y0:=hid (show z0.all (·.oneCell')=true by rw[hz0];exact dI {});have Ga:=hid (show z0.size=28 by rw[hz0];rfl);rw[← hz0];clear hz0;go_upto_region 2 with fail
 change Code.wp _ _ _ _ (w.alloc (.cells #[.int .i64 p] 56));generalize w.alloc _=W at*;generalize w.heap.size=g at*;refine jw [_,_] [_,_,_,_] rfl (fun i=>if i=0 then .agg z0 else if i=1 then .pointer (some ⟨g,0,none⟩)else .int .i64 p) [3] (fun vs w'=>au w' b0 35 (if vs=[] then cs0 else z0)∧au w' b1 3 #[x]∧au w' b2 36 #[y]∧au w' g 56 #[.int .i64 p]∧Below N w w') (fun vs w' ⟨a,b,c,d,e⟩=>⟨a.drew,b.drew,c.drew,d.drew,e.drew⟩) ⟨HB0,ry,zh,HF,iY⟩ (by kernel_rfl) (by kernel_rfl) (by kernel_rfl) (by kernel_rfl) (by decide) rfl ?_ ?_
 ·refine⟨?_,?_,?_,?_,trivial⟩
  ·intro ρ w' vs hcs hG hr;refine⟨rfl,?_⟩;unfold execOp;simp only[Sem.run_bind,Array.map_empty,run_build w' 35 #[] z0 HZ.out,Result.andThen_ok];rfl
  ·intro ρ w' vs hcs hG hr;have r0:ρ (.tmp 3)=.pointer (some ⟨g,0,none⟩):=hr.1;refine⟨rfl,?_⟩;simp[execOp,r0,go_sem]
  ·intro ρ w' vs hcs hG hr;have r0:ρ (.tmp 12)=.pointer (some ⟨g,0,none⟩):=hr.1;refine⟨rfl,?_⟩;have hc:=hG.2.2.2.1.cell 0;simp only[List.getElem?_toArray,List.getElem?_cons_zero] at hc;simp[execOp,r0,go_sem,hc]
  ·intro ρ w' vs hcs hG hr;have r0:ρ (.tmp 0)=.pointer (some ⟨b0,0,none⟩):=hr.1;have r1:ρ (.tmp 11)=.agg z0:=hr.2.1;refine⟨rfl,?_⟩;show vs.length=0→_;intro hl;obtain rfl:=List.eq_nil_of_length_eq_zero hl;obtain⟨a,b,c,d,e⟩:=hG;refine vB (w':=w'.setRow b0 z0) ?_ ?_
   ·unfold execOp;simp only[r0,r1,Instr.storeAt,Instr.sureAddr,Sem.run_bind,Sem.run_pure,Result.andThen_ok,run_storeVar_row w' b0 35 35 cs0 z0 a (by rw[Ga.out];exact cD) (by rw[hs0,Ga.out]) Y0.out]
   ·exact⟨a.row z0,b.ia n1.symm z0,c.ia n2.symm z0,d.ia (by omega) z0,e.trans (bD (dH w' b0 z0) (by have:=a.lt;omega) h0)⟩
 ·intro vs w' hl hG
  match vs,hl with
  | [v],_=>
    obtain⟨a,b,c,d,e⟩:=hG;intro a0 Xx a1 z1 a2 z2;have Xx:a0=.agg z0:=Xx;have z1:a1=.pointer (some ⟨g,0,none⟩):=z1;have z2:a2=.int .i64 p:=z2;subst Xx z1 z2;have e1:=b.cell 0;have e2:=c.cell 0;simp only[List.getElem?_toArray,List.getElem?_cons_zero] at e1 e2;have f1:=b.frozen 0;have f2:=c.frozen 0;change wpList _ _ _ _ _ _;clear Xx z1 z2;go_wp2_with fail;have s0:=a.lt;have hs1:(w'.setCell ⟨b1,0,none⟩ (.int .i64 p)).heap.size=w'.heap.size:=by simp[World.setCell]
    have g1:w'.grownBy (w'.setCell ⟨b1,0,none⟩ (.int .i64 p)) (some b1):=cd (aH (Below.refl _ _)) 0 _;have g2:(w'.setCell ⟨b1,0,none⟩ (.int .i64 p)).grownBy ((w'.setCell ⟨b1,0,none⟩ (.int .i64 p)).setCell ⟨b2,0,none⟩ (.int .i64 31)) (some b2):=cd (aH (Below.refl _ _)) 0 _;refine⟨rfl,_,rfl,.tuple #[],?_,rfl,rfl,?_,?_,?_,?_⟩
    ·simp[results,Tryz.results16]
    ·exact(au.far a (p:=⟨b1,0,none⟩) n1 _).far (p:=⟨b2,0,none⟩) n2 _
    ·exact(b.cg 0 (.int .i64 p)).far (p:=⟨b2,0,none⟩) n3 _
    ·exact(c.far (p:=⟨b1,0,none⟩) n3.symm _).cg 0 (.int .i64 31)
    ·exact(e.trans (bD g1 (by omega) h1)).trans (bD g2 (by omega) h2)
end Go.Proofs.YtcneefmaghoejaaGreatDoor
