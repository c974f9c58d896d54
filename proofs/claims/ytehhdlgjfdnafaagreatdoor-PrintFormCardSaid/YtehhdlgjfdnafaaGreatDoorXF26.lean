/- Parts of the proof. -/
import Derived.Test.YtehhdlgjfdnafaaGreatDoorXF20
namespace Go.Proofs.YtehhdlgjfdnafaaGreatDoor
variable{p:Prop}
set_option maxHeartbeats 90000000
set_option maxRecDepth 100000
open Go.Lib (hid)
open Go.ChangeShapes Go.WideShapes Go.ChangeAt Go.RowKit List
set_option linter.unusedVariables false
set_option linter.unusedSimpArgs false
variable{l r:aK}{t:Tr}
theorem abA(h:eD l=.ok (t,r))(ha:ar mA r=false):nE l=.ok ((t,ByteArray.empty),r):=by unfold nE;refine(ag h).trans ?_;rw[cg];simp only[ha];rfl
theorem E8(h:eD l=.ok (t,r))(ha:ar mA r=true):nE l=(do let n <- cC;return (t,n):Ps (Tr×ByteArray)) r.tail:=by unfold nE;refine(ag h).trans ?_;rw[cg];simp only[ha,if_true]
theorem E9(h:eD l=.ok (t,r)):km l=.ok ((t,ar mJ r),ja mJ r):=by unfold km;refine(ag h).trans ?_;exact(ag (uo mJ r)).trans rfl
variable{w w':World}{g q:Nat}
theorem gH(h:w.grownBy w' (some g))(hq:w.heap.size<=q)(i:Nat)(u:Value):w.grownBy (w'.setCell ⟨q,i,none⟩ u) (some g):=
 ⟨h.os,h.tape,h.output,by simpa [World.setCell] using h.size,λ k hk Z6=>(Below.heap_setCell w' ⟨q,i,none⟩ u k Tae).trans (h.block k hk Z6)⟩
theorem Mt:(Tryz.prog.info? 86).map (λ i=>(i.zero,i.size,i.bytes))=some (some (.agg #[.int .u8 0,.int .u8 0,.int .i64 0,.string ⟨#[]⟩,.string ⟨#[]⟩,.int .i64 0,.slice none 0 0,.bool false]),8,96):=by kernel_rfl
theorem Ac:(Tryz.prog.info? 53).map (λ i=>(i.zero,i.size,i.bytes))=some (some (.agg #[.string ⟨#[]⟩,.int .u8 0]),2,24):=by kernel_rfl
theorem Vq:(Tryz.prog.info? 55).map (λ i=>(i.zero,i.size,i.bytes))=some (some (.agg #[.string ⟨#[]⟩,.int .u8 0,.int .u8 0,.int .i64 0,.string ⟨#[]⟩,.string ⟨#[]⟩,.int .i64 0,.slice none 0 0]),8,104):=by kernel_rfl
theorem Vr:(Tryz.prog.info? 24).map (λ i=>(i.zero,i.size,i.bytes))=some (some (.slice none 0 0),1,24):=by kernel_rfl
theorem zhO.Kcz(h:p:=by
 have hm:=bz γ.ρ W2 r lg _ eZ.out.at_ ⟨#[97,115]⟩;rw[show(⟨#[97,115]⟩:ByteArray).data.toList=mA from rfl] at hm;have hx2:=rN.out.lt;cases hh:ar mA r
 ·rw[hh,cy hh] at hm;have HE:=hid (abA jy.out hh);clear hh;go_wp2_with fail;refine hm.mono ?_;clear hm p0;rintro e w3 ⟨rfl,d⟩;have kt:=hid (eZ.out.trans d);have JM:=hid (d.blk rN.out Taa);have Fc:=hid (ai Ad.out d.grown);clear d eZ rN Ad;have hA:=ia.out.grown F Fc.out;have vD:=hid hA;have kq:=hA.cell F;rw[hk] at kq;have Qc:=hA.sz;clear hA;go_wp2_with (first
   |(refine wpList_load_row rfl 51 (.tmp 2) rfl w2.heap.size rfl 51 _ (0,0) _ JM.out Tryz.underlying51 rfl TaO ?_)
   |(at_builtin
     refine ez vD.out F rfl _ _ 23 rfl _ 104 Tryz.underlying23 zW rfl Tab (y,⟨#[]⟩) (Mn _) rfl rfl Taa Taa Qc ?_
     intro ys v' W3 ha pN mm hv
     obtain⟨A9,n9,c9,rfl⟩:=nO pN
     obtain⟨Qd,Qe,xq,xr⟩:=vD.out.push F kt.out (x:=(t,ByteArray.empty)) (y:=(y,⟨#[]⟩)) ⟨Tr.at_.keep (fe Fc.out Taa) _ _ zz.out,rfl⟩ Y4 Y3.out ha (aa _ _) mm pN Taz
     rw[hk] at Qd Qe xq xr
     have Qf:=hid xq
     have Qg:=hid xr
     clear xq xr ha pN mm hv))
  exact Zgg
 ·rw[hh,cE hh] at hm;have HE:=hid (E8 jy.out hh);clear hh;go_wp2_with fail;refine hm.mono ?_;clear hm p0;rintro e w3 ⟨rfl,d⟩;have kt:=hid (eZ.out.trans d);have JM:=hid (d.blk rN.out Taa);have Fc:=hid (ai Ad.out d.grown);clear d eZ rN Ad;have p0:=(ia.out.grown F Fc.out).ptr;generalize r.tail=r3 at*;go_wp2_with fail;refine(ep γ.ρ w3 r3 lg _ kt.out.at_).mono ?_;intro e w4 hp;rcases hp.cases with ⟨nm,r4,v4,aC,rfl,rfl,d⟩|⟨m,au,rfl,hg⟩;case inr=>have HE:=hid (HE.out.trans (ak au));have HG:=hid kt.out.grown;clear hp au;go_wp2_with fail;exact aj rfl (tC.err HE.out ⟨rfl,ai HG.out hg⟩)
  have NI:=hid ((HE.out.trans (ag aC)).trans rfl);have qh:=hid ((kt.out.trans d).far br (by omega:γ.W0.heap.size<=w2.heap.size) 7 (.string nm));have hX4:=d.blk JM.out Taa;have Xo:=hX4.cJ 7 (.string nm);simp only[Uac] at Xo;have GG:=hid Xo;have hG4:=ai Fc.out d.grown;have FH:=hid (gH hG4 (Nat.le_refl w2.heap.size) 7 (.string nm));have k7:=hX4.cell 7;have f7:=hX4.frozen 7;have p4:=(ia.out.grown F hG4).ptr;simp only[getElem?_toArray,getElem?_cons_succ,getElem?_cons_zero] at k7;clear hp aC d kt JM Fc hX4 Xo hG4 p0;go_upto_region 3 with fail
  clear k7 f7 p4;generalize Jw:w4.setCell _ _=W4 at*;clear Jw;have hA:=ia.out.grown F FH.out;have vD:=hid hA;have kq:=hA.cell F;rw[hk] at kq;have Qc:=hA.sz;clear hA;go_wp2_with (first
   |(refine wpList_load_row rfl 51 (.tmp 2) rfl w2.heap.size rfl 51 _ (0,0) _ GG.out Tryz.underlying51 rfl TaO ?_)
   |(at_builtin
     refine ez vD.out F rfl _ _ 23 rfl _ 104 Tryz.underlying23 zW rfl Tab (y,nm) (Mn _) rfl rfl Taa Taa Qc ?_
     intro ys v' W3 ha pN mm hv
     obtain⟨A9,n9,c9,rfl⟩:=nO pN
     obtain⟨Qd,Qe,xq,xr⟩:=vD.out.push F qh.out (x:=(t,nm)) (y:=(y,nm)) ⟨Tr.at_.keep (fe FH.out Taa) _ _ zz.out,rfl⟩ Y4 Y3.out ha (aa _ _) mm pN Taz
     rw[hk] at Qd Qe xq xr
     have Qf:=hid xq
     have Qg:=hid xr
     clear xq xr ha pN mm hv))
  go_end0;exact tC.ok NI.out ⟨_,Qf.out⟩ Qg.out):p:=h
theorem zdw.KaT(h:p:=by
 have hm:=lI γ.ρ W l lg dp hd.at_;clear A hd;go_enter Tryz.func150,Tryz.ntmps150;go_wp2_with fail;refine hm.mono ?_;clear hm;intro e w2 hp;rcases hp.cases with ⟨t,r,v2,aC,rfl,y,rfl,hat,d2⟩|⟨m,au,rfl,hg⟩;case inr=>have HE:=hid (show nE l=.error m from ak au);have HG:=hid HD.out.grown;clear hp au;go_wp2_with fail;exact aj rfl (tC.err HE.out ⟨rfl,ai HG.out hg⟩)
 have hs2:=d2.size;have ia:=hid (HA.out.grown F d2.grown);have zz:=hid hat;have eZ:=hid ((HD.out.trans d2).later (aa w2 (.cells (NA (y,⟨#[]⟩)).toArray 51)));have rN:=hid (av.new w2 51 (NA (y,⟨#[]⟩)).toArray);have Ad:=hid (aD (p:=γ.ρ.g) (aa w2 (.cells (NA (y,⟨#[]⟩)).toArray 51)));have jy:=hid aC;have hgx:γ.ρ.g < w2.heap.size:=by have:=d2.lt;omega
 clear hp hat d2 aC HA HD p0;unfold eb NA at*;open zhO in exact Zgm):p:=h
theorem Qb (γ:vX)(F:γ.Fit)(Vp:γ.TQ=28)(hk:γ.k=0)(acc:List (Tr×ByteArray))(W:World)(l:aK)(lg dp:Bool)(hn:acc.length<=5000)(hs:γ.acc kR 51 acc W)(hd:bh γ.ρ γ.W0 W l lg dp):
  Calls Tryz.prog 150 #[.pointer (some ⟨γ.pb,0,none⟩),.pointer (some ⟨γ.qb,0,none⟩)] W (tC γ.ρ γ.W0 (λ x=>decide (32 < x.1.depth)) nE (γ.acc kR 51) acc lg dp l):=by
 open zdw in exact Zbn
theorem zhP.Kcz(h:p:=by
 have hm:=bz γ.ρ W2 r lg _ eZ.out.at_ ⟨#[100,101,115,99]⟩;rw[show(⟨#[100,101,115,99]⟩:ByteArray).data.toList=mJ from rfl] at hm;have hx2:=rN.out.lt;have HE:=hid (E9 jy.out);generalize ar mJ r=ds at*;generalize ja mJ r=r3 at*;go_wp2_with fail;refine hm.mono ?_;clear hm p0;rintro e w4 ⟨rfl,d⟩;have qh:=hid ((eZ.out.trans d).far br (by omega:γ.W0.heap.size<=w2.heap.size) 7 (.bool ds));have hX4:=d.blk rN.out Taa;have Xo:=hX4.cJ 7 (.bool ds);simp only[Uac] at Xo;have GG:=hid Xo;have hG4:=ai Ad.out d.grown;have FH:=hid (gH hG4 (Nat.le_refl w2.heap.size) 7 (.bool ds));have k7:=hX4.cell 7;have f7:=hX4.frozen 7;simp only[getElem?_toArray,getElem?_cons_succ,getElem?_cons_zero] at k7;clear d eZ rN Ad hX4 Xo hG4;go_upto_region 2 with fail
 clear k7 f7;generalize Jw:w4.setCell _ _=W4 at*;clear Jw;have hA:=ia.out.grown F FH.out;have vD:=hid hA;have kq:=hA.cell F;rw[hk] at kq;have Qc:=hA.sz;clear hA;go_wp2_with (first
  |(refine wpList_load_row rfl 86 (.tmp 2) rfl w2.heap.size rfl 86 _ (0,0) _ GG.out Tryz.underlying86 rfl TaO ?_)
  |(at_builtin
    refine ez vD.out F rfl _ _ 25 rfl _ 96 Tryz.underlying25 Mt rfl Tab (y,ds) (Vm _) rfl rfl Taa Taa Qc ?_
    intro ys v' W3 ha pN mm hv
    obtain⟨A9,n9,c9,rfl⟩:=nO pN
    obtain⟨Qd,Qe,xq,xr⟩:=vD.out.push F qh.out (x:=(t,ds)) (y:=(y,ds)) ⟨Tr.at_.keep (fe FH.out Taa) _ _ zz.out,rfl⟩ Y4 Y3.out ha (aa _ _) mm pN Taz
    rw[hk] at Qd Qe xq xr
    have Qf:=hid xq
    have Qg:=hid xr
    clear xq xr ha pN mm hv))
 exact Zgg):p:=h
theorem zdx.KaT(h:p:=by
 have hm:=lI γ.ρ W l lg dp hd.at_;clear A hd;go_enter Tryz.func152,Tryz.ntmps152;go_wp2_with fail;refine hm.mono ?_;clear hm;intro e w2 hp;rcases hp.cases with ⟨t,r,v2,aC,rfl,y,rfl,hat,d2⟩|⟨m,au,rfl,hg⟩;case inr=>have HE:=hid (show km l=.error m from ak au);have HG:=hid HD.out.grown;clear hp au;go_wp2_with fail;exact aj rfl (tC.err HE.out ⟨rfl,ai HG.out hg⟩)
 have hs2:=d2.size;have ia:=hid (HA.out.grown F d2.grown);have zz:=hid hat;have eZ:=hid ((HD.out.trans d2).later (aa w2 (.cells (orC (y,false)).toArray 86)));have rN:=hid (av.new w2 86 (orC (y,false)).toArray);have Ad:=hid (aD (p:=γ.ρ.g) (aa w2 (.cells (orC (y,false)).toArray 86)));have jy:=hid aC;have hgx:γ.ρ.g < w2.heap.size:=by have:=d2.lt;omega
 clear hp hat d2 aC HA HD p0;unfold eb orC at*;open zhP in exact Zgm):p:=h
theorem Mu (γ:vX)(F:γ.Fit)(Vp:γ.TQ=28)(hk:γ.k=6)(acc:List (Tr×Bool))(W:World)(l:aK)(lg dp:Bool)(hn:acc.length<=5000)(hs:γ.acc oq 86 acc W)(hd:bh γ.ρ γ.W0 W l lg dp):
  Calls Tryz.prog 152 #[.pointer (some ⟨γ.pb,0,none⟩),.pointer (some ⟨γ.qb,0,none⟩)] W (tC γ.ρ γ.W0 (λ x=>decide (32 < x.1.depth)) km (γ.acc oq 86) acc lg dp l):=by
 open zdx in exact Zbn
theorem vH:∀ {ks:List (List UInt8)} {l r:aK} {s:List UInt8},jS ks l=.ok (s,r)->s∈ks
 | [],l,r,s,h=>by cases h
 | k::ks,l,r,s,h=>by
   cases hh:ar k l
   ·rw[JD hh] at h;exact mem_cons_of_mem _ (vH h)
   ·rw[Ci hh] at h;injection h with h;injection h with h1 h2;simp[<- h1]
theorem zgU.Kb9(h:p:=by
 have hb3:=aa W2 (.cells (aR [CQ,wP,zE]) 9);have kt:=hid (eZ.out.later hb3);have JM:=hid (rN.out.later hb3);have Fc:=hid (ai Ad.out (aD hb3));have mm:=eZ.out.lt;have hm:=ry γ.ρ _ r lg dp kt.out.at_ [CQ,wP,zE] W2.heap.size 3 rfl (av.new W2 _ _) Taa Taa;clear hb3 eZ rN Ad;unfold aR strOf at hm kt JM Fc;simp only[map_cons,map_nil] at hm kt JM Fc;rw[show CQ.toArray= #[105,110,116] from rfl,show wP.toArray= #[98,111,111,108] from rfl,show zE.toArray= #[116,101,120,116] from rfl] at hm kt JM Fc;go_wp2_with fail;refine hm.mono ?_;clear hm p0;intro e w4 hp;rcases hp.cases with ⟨ty,r4,v4,aC,rfl,rfl,d⟩|⟨m,au,rfl,hg⟩;case inr=>have HE:=hid (show gL l=.error m from(ag jy.out).trans (ak au));have HG:=hid kt.out.grown;clear hp au;go_wp2_with fail;exact aj rfl (tC.err HE.out ⟨rfl,ai HG.out hg⟩)
 have HE:=hid (show gL l=.ok ((nm,typeOf ty),r4)from(ag jy.out).trans ((ag aC).trans rfl));have yJ:=vH aC;have qh:=hid (kt.out.trans d);have Mm:=hid (d.blk JM.out Taa);have Ky:=hid (ai Fc.out d.grown);clear hp aC d kt JM Fc jy;have k1:=Mm.out.cell 1;have f1:=Mm.out.frozen 1;simp only[getElem?_toArray,getElem?_cons_succ,getElem?_cons_zero] at k1;simp only[mem_cons,not_mem_nil,or_false] at yJ;rcases yJ with rfl | rfl | rfl
 ·have GG:=hid (Mm.out.cJ 1 (.int .u8 2));have EZ:=hid (qh.out.far br (by omega:γ.W0.heap.size<=w2.heap.size) 1 (.int .u8 2));have FH:=hid (gH Ky.out (Nat.le_refl w2.heap.size) 1 (.int .u8 2));clear Mm qh Ky;simp only[Uac] at GG;unfold CQ;go_upto_region 7 with fail
  clear k1 f1;generalize Jw:w4.setCell _ _=W4 at*;clear Jw;have hA:=ia.out.grown F FH.out;have vD:=hid hA;have kq:=hA.cell F;rw[hk] at kq;have Qc:=hA.sz;clear hA;go_wp2_with (first
   |(refine wpList_load_row rfl 53 (.tmp 2) rfl w2.heap.size rfl 53 _ (0,0) _ GG.out Tryz.underlying53 rfl TaO ?_)
   |(at_builtin
     refine ez vD.out F rfl _ _ 22 rfl _ 24 Tryz.underlying22 Ac rfl Tab (nm,2) (JN _) rfl rfl Taa Taa Qc ?_
     intro ys v' W3 ha pN mm hv
     obtain⟨A9,n9,c9,rfl⟩:=nO pN
     obtain⟨Qd,Qe,xq,xr⟩:=vD.out.push F EZ.out (x:=(nm,2)) (y:=(nm,2)) TaO Y4 Y3.out ha (aa _ _) mm pN Taz
     rw[hk] at Qd Qe xq xr
     have Qf:=hid xq
     have Qg:=hid xr
     clear xq xr ha pN mm hv))
  exact Zdv
 ·have GG:=hid (Mm.out.cJ 1 (.int .u8 1));have EZ:=hid (qh.out.far br (by omega:γ.W0.heap.size<=w2.heap.size) 1 (.int .u8 1));have FH:=hid (gH Ky.out (Nat.le_refl w2.heap.size) 1 (.int .u8 1));clear Mm qh Ky;simp only[Uac] at GG;unfold wP;go_upto_region 7 with fail
  clear k1 f1;generalize Jw:w4.setCell _ _=W4 at*;clear Jw;have hA:=ia.out.grown F FH.out;have vD:=hid hA;have kq:=hA.cell F;rw[hk] at kq;have Qc:=hA.sz;clear hA;go_wp2_with (first
   |(refine wpList_load_row rfl 53 (.tmp 2) rfl w2.heap.size rfl 53 _ (0,0) _ GG.out Tryz.underlying53 rfl TaO ?_)
   |(at_builtin
     refine ez vD.out F rfl _ _ 22 rfl _ 24 Tryz.underlying22 Ac rfl Tab (nm,1) (JN _) rfl rfl Taa Taa Qc ?_
     intro ys v' W3 ha pN mm hv
     obtain⟨A9,n9,c9,rfl⟩:=nO pN
     obtain⟨Qd,Qe,xq,xr⟩:=vD.out.push F EZ.out (x:=(nm,1)) (y:=(nm,1)) TaO Y4 Y3.out ha (aa _ _) mm pN Taz
     rw[hk] at Qd Qe xq xr
     have Qf:=hid xq
     have Qg:=hid xr
     clear xq xr ha pN mm hv))
  exact Zdv
 ·have GG:=hid (Mm.out.cJ 1 (.int .u8 3));have EZ:=hid (qh.out.far br (by omega:γ.W0.heap.size<=w2.heap.size) 1 (.int .u8 3));have FH:=hid (gH Ky.out (Nat.le_refl w2.heap.size) 1 (.int .u8 3));clear Mm qh Ky;simp only[Uac] at GG;unfold zE;go_upto_region 7 with fail
  clear k1 f1;generalize Jw:w4.setCell _ _=W4 at*;clear Jw;have hA:=ia.out.grown F FH.out;have vD:=hid hA;have kq:=hA.cell F;rw[hk] at kq;have Qc:=hA.sz;clear hA;go_wp2_with (first
   |(refine wpList_load_row rfl 53 (.tmp 2) rfl w2.heap.size rfl 53 _ (0,0) _ GG.out Tryz.underlying53 rfl TaO ?_)
   |(at_builtin
     refine ez vD.out F rfl _ _ 22 rfl _ 24 Tryz.underlying22 Ac rfl Tab (nm,3) (JN _) rfl rfl Taa Taa Qc ?_
     intro ys v' W3 ha pN mm hv
     obtain⟨A9,n9,c9,rfl⟩:=nO pN
     obtain⟨Qd,Qe,xq,xr⟩:=vD.out.push F EZ.out (x:=(nm,3)) (y:=(nm,3)) TaO Y4 Y3.out ha (aa _ _) mm pN Taz
     rw[hk] at Qd Qe xq xr
     have Qf:=hid xq
     have Qg:=hid xr
     clear xq xr ha pN mm hv))
  exact Zdv):p:=h
theorem zdy.KaT(h:p:=by
 have hm:=ep γ.ρ W l lg dp hd.at_;clear A hd;go_enter Tryz.func116,Tryz.ntmps116;go_wp2_with fail;refine hm.mono ?_;clear hm;intro e w2 hp;rcases hp.cases with ⟨nm,r,v2,aC,rfl,rfl,d2⟩|⟨m,au,rfl,hg⟩;case inr=>have HE:=hid (show gL l=.error m from ak au);have HG:=hid HD.out.grown;clear hp au;go_wp2_with fail;exact aj rfl (tC.err HE.out ⟨rfl,ai HG.out hg⟩)
 have hs2:=d2.size;have ia:=hid (HA.out.grown F d2.grown);have eZ:=hid ((HD.out.trans d2).later (aa w2 (.cells #[.string nm,.int .u8 0] 53)));have rN:=hid (av.new w2 53 #[.string nm,.int .u8 0]);have Ad:=hid (aD (p:=γ.ρ.g) (aa w2 (.cells #[.string nm,.int .u8 0] 53)));open zgU in exact ZeB):p:=h
theorem JP (γ:vX)(F:γ.Fit)(Vp:γ.TQ=34)(hk:γ.k=2)(acc:List (ByteArray×Int))(W:World)(l:aK)(lg dp:Bool)(hn:acc.length<=5000)(hs:γ.acc AJ 53 acc W)(hd:bh γ.ρ γ.W0 W l lg dp):
  Calls Tryz.prog 116 #[.pointer (some ⟨γ.pb,0,none⟩),.pointer (some ⟨γ.qb,0,none⟩)] W (tC γ.ρ γ.W0 (λ _=>false) gL (γ.acc AJ 53) acc lg dp l):=by
 open zdy in exact Zbn
theorem zgV.Kb9(h:p:=by
 have hb3:=aa W2 (.cells (aR [IP]) 9);have kt:=hid (eZ.out.later hb3);have JM:=hid (rN.out.later hb3);have Fc:=hid (ai Ad.out (aD hb3));have mm:=eZ.out.lt;have hm:=aY γ.ρ _ r lg dp kt.out.at_ [IP] W2.heap.size 1 rfl (av.new W2 _ _) Taa Taa;clear hb3 eZ rN Ad;unfold aR strOf at hm kt JM Fc;simp only[map_cons,map_nil] at hm kt JM Fc;rw[show IP.toArray= #[61] from rfl] at hm kt JM Fc;go_wp2_with fail;refine hm.mono ?_;clear hm p0;intro e w4 hp;rcases hp.cases with ⟨_,r4,v4,aC,rfl,rfl,d⟩|⟨m,au,rfl,hg⟩;case inr=>have HE:=hid (show vR l=.error m from(ag jy.out).trans (ak (show must IP r=.error m by rw[<- aB];exact au)));have HG:=hid kt.out.grown;clear hp au;go_wp2_with fail;exact aj rfl (tC.err HE.out ⟨rfl,ai HG.out hg⟩)
 have kA:must IP r=.ok ((),r4):=by rw[<- aB];exact aC
 have NI:=hid (show vR l=(do let x <- eD;return (nm,x):Ps (ByteArray×Tr)) r4 from(ag jy.out).trans (ag kA));have qh:=hid (kt.out.trans d);have Mm:=hid (d.blk JM.out Taa);have Ky:=hid (ai Fc.out d.grown);have p0:=(ia.out.grown F Ky.out).ptr;have hs4:=Mm.out.lt;clear hp aC kA d kt JM Fc jy;go_wp2_with fail;refine(lI γ.ρ w4 r4 lg dp qh.out.at_).mono ?_;intro e w5 hp;rcases hp.cases with ⟨t,r5,v5,aC,rfl,y,rfl,hat,d⟩|⟨m,au,rfl,hg⟩;case inr=>have HE:=hid (NI.out.trans (ak au));have HG:=hid qh.out.grown;clear hp au;go_wp2_with fail;exact aj rfl (tC.err HE.out ⟨rfl,ai HG.out hg⟩)
 have HE:=hid ((NI.out.trans (ag aC)).trans rfl);have Xo:=d.blk Mm.out Taa;have GG:=hid ((((((((Xo.cJ 1 (.int .u8 y.op)).cJ 2 (.int .u8 y.v.k)).cJ 3 (.int .i64 y.v.n)).cJ 4 (.string y.v.s)).cJ 5 (.string y.name)).cJ 6 (.int .i64 y.width)).cJ 7 (.slice y.A y.n y.c)));have EZ:=hid (((((((((qh.out.trans d).far br (by omega:γ.W0.heap.size<=w2.heap.size) 1 (.int .u8 y.op)).far br (by omega:γ.W0.heap.size<=w2.heap.size) 2 (.int .u8 y.v.k)).far br (by omega:γ.W0.heap.size<=w2.heap.size) 3 (.int .i64 y.v.n)).far br (by omega:γ.W0.heap.size<=w2.heap.size) 4 (.string y.v.s)).far br (by omega:γ.W0.heap.size<=w2.heap.size) 5 (.string y.name)).far br (by omega:γ.W0.heap.size<=w2.heap.size) 6 (.int .i64 y.width)).far br (by omega:γ.W0.heap.size<=w2.heap.size) 7 (.slice y.A y.n y.c)));have FH:=hid ((gH (gH (gH (gH (gH (gH (gH (ai Ky.out d.grown) (Nat.le_refl w2.heap.size) 1 (.int .u8 y.op)) (Nat.le_refl w2.heap.size) 2 (.int .u8 y.v.k)) (Nat.le_refl w2.heap.size) 3 (.int .i64 y.v.n)) (Nat.le_refl w2.heap.size) 4 (.string y.v.s)) (Nat.le_refl w2.heap.size) 5 (.string y.name)) (Nat.le_refl w2.heap.size) 6 (.int .i64 y.width)) (Nat.le_refl w2.heap.size) 7 (.slice y.A y.n y.c)));have HT5:=hid ((((((((hat.set (q:=w2.heap.size) hs4 1 (.int .u8 y.op)).set (q:=w2.heap.size) hs4 2 (.int .u8 y.v.k)).set (q:=w2.heap.size) hs4 3 (.int .i64 y.v.n)).set (q:=w2.heap.size) hs4 4 (.string y.v.s)).set (q:=w2.heap.size) hs4 5 (.string y.name)).set (q:=w2.heap.size) hs4 6 (.int .i64 y.width)).set (q:=w2.heap.size) hs4 7 (.slice y.A y.n y.c)))
 obtain⟨k0,k1,k2,k3,k4,k5,k6,k7⟩:=jH Xo;obtain⟨f0,f1,f2,f3,f4,f5,f6,f7⟩:=sj Xo;clear hp aC Xo hat d qh Mm Ky NI p0;simp only[Uac] at GG;unfold eb aU;go_upto_region 3 with fail
 clear k0 k1 k2 k3 k4 k5 k6 k7 f0 f1 f2 f3 f4 f5 f6 f7;generalize hW5:(World.setCell _ _ _)=W5 at*;clear hW5;have hA:=ia.out.grown F FH.out;have vD:=hid hA;have kq:=hA.cell F;rw[hk] at kq;have Qc:=hA.sz;clear hA;go_wp2_with (first
  |(refine wpList_load_row rfl 55 (.tmp 2) rfl w2.heap.size rfl 55 _ (0,0) _ GG.out Tryz.underlying55 rfl TaO ?_)
  |(at_builtin
    refine ez vD.out F rfl _ _ 30 rfl _ 104 Tryz.underlying30 Vq rfl Tab (nm,y) (abx _) rfl rfl Taa Taa Qc ?_
    intro ys v' W3 ha pN mm hv
    obtain⟨A9,n9,c9,rfl⟩:=nO pN
    obtain⟨Qd,Qe,xq,xr⟩:=vD.out.push F EZ.out (x:=(nm,t)) (y:=(nm,y)) ⟨rfl,HT5.out.more Taa⟩ Y4 Y3.out ha (aa _ _) mm pN Taz
    rw[hk] at Qd Qe xq xr
    have Qf:=hid xq
    have Qg:=hid xr
    clear xq xr ha pN mm hv))
 exact Zgg):p:=h
theorem zdz.KaT(h:p:=by
 have hm:=ep γ.ρ W l lg dp hd.at_;clear A hd;go_enter Tryz.func121,Tryz.ntmps121;go_wp2_with fail;refine hm.mono ?_;clear hm;intro e w2 hp;rcases hp.cases with ⟨nm,r,v2,aC,rfl,rfl,d2⟩|⟨m,au,rfl,hg⟩;case inr=>have HE:=hid (show vR l=.error m from ak au);have HG:=hid HD.out.grown;clear hp au;go_wp2_with fail;exact aj rfl (tC.err HE.out ⟨rfl,ai HG.out hg⟩)
 have hs2:=d2.size;have ia:=hid (HA.out.grown F d2.grown);have eZ:=hid ((HD.out.trans d2).later (aa w2 (.cells #[.string nm,.int .u8 0,.int .u8 0,.int .i64 0,.string ⟨#[]⟩,.string ⟨#[]⟩,.int .i64 0,.slice none 0 0] 55)));have rN:=hid (av.new w2 55 #[.string nm,.int .u8 0,.int .u8 0,.int .i64 0,.string ⟨#[]⟩,.string ⟨#[]⟩,.int .i64 0,.slice none 0 0]);have Ad:=hid (aD (p:=γ.ρ.g) (aa w2 (.cells #[.string nm,.int .u8 0,.int .u8 0,.int .i64 0,.string ⟨#[]⟩,.string ⟨#[]⟩,.int .i64 0,.slice none 0 0] 55)));open zgV in exact ZeB):p:=h
theorem Vs (γ:vX)(F:γ.Fit)(Vp:γ.TQ=34)(hk:γ.k=20)(acc:List (ByteArray×Tr))(W:World)(l:aK)(lg dp:Bool)(hn:acc.length<=5000)(hs:γ.acc AK 55 acc W)(hd:bh γ.ρ γ.W0 W l lg dp):
  Calls Tryz.prog 121 #[.pointer (some ⟨γ.pb,0,none⟩),.pointer (some ⟨γ.qb,0,none⟩)] W (tC γ.ρ γ.W0 (λ x=>decide (32 < x.2.depth)) vR (γ.acc AK 55) acc lg dp l):=by
 open zdz in exact Zbn
def qu0:Array Value:=(kL {}).toArray
theorem vI:(Tryz.prog.info? 28).map (·.size)=some 8:=by kernel_rfl
theorem F0 (m:mv):(kL m).toArray.all (·.oneCell')=true:=by simp[kL,fN,Value.oneCell']
structure GQ (ρ:bw) (w:World) (lg dp:Bool) (wr:World) (l:aK) (m:mv) (d:Qu):Prop where
 did:bh ρ w wr l (lg || d.long) (dp || di d.exprs)
 blk:av wr (w.heap.size+1+1) 28 (kL m).toArray
 res:av wr (w.heap.size+1) 28 qu0
 vF:av wr w.heap.size 77 #[ρ.ptr]
 at_:d.at_ wr (eI (w.heap.size+3) wr) m
section
variable {ρ:bw} {w wr w2:World} {lg dp:Bool} {l l2:aK} {m:mv} {d:Qu}
theorem GQ.later (A:GQ ρ w lg dp wr l m d)(hb:Below wr.heap.size wr w2):GQ ρ w lg dp w2 l m d:=⟨A.did.later hb,A.blk.later hb,A.res.later hb,A.vF.later hb,Qu.at_.keep (eJ hb) A.at_⟩
theorem GQ.go (A:GQ ρ w lg dp wr l m d)(hg:ρ.g < w.heap.size)(D:bh ρ wr w2 l2 (lg || d.long) (dp || di d.exprs)):GQ ρ w lg dp w2 l2 m d:=
 ⟨A.did.trans D,D.blk A.blk Taa,D.blk A.res Taa,D.blk A.vF Taa,Qu.at_.keep (fe D.grown Taa) A.at_⟩
theorem GQ.set {lg2 dp2:Bool} {m':mv} {d':Qu}(A:GQ ρ w lg dp wr l m d)(hg:ρ.g < w.heap.size)(D:bh ρ wr w2 l2 lg2 dp2)(i:Nat)(u:Value)(hb:(kL m').toArray=(kL m).toArray.setIfInBounds i u)(hl:lg2=(lg || d'.long))(hd:dp2=(dp || di d'.exprs))(hat:d.at_ w2 (eI (w.heap.size+3) w2) m->Qu.at_ w2 (eI (w.heap.size+3) w2) d' m'):GQ ρ w lg dp (w2.setCell ⟨w.heap.size+1+1,i,none⟩ u) l2 m' d':=by
 refine⟨?_,?_,(D.blk A.res Taa).far (p:=⟨w.heap.size+1+1,i,none⟩) Tad u,(D.blk A.vF Taa).far (p:=⟨w.heap.size+1+1,i,none⟩) Tae u,Qu.at_.keep (pW (Nat.lt_succ_self _) i u) (hat (Qu.at_.keep (fe D.grown Taa) A.at_))⟩
 ·rw[<- hl,<- hd];exact(A.did.trans D).far hg Taa i u
 ·rw[hb];exact(D.blk A.blk Taa).cJ i u
theorem GQ.ptr (A:GQ ρ w lg dp wr l m d):wr.cell? ⟨w.heap.size,0,none⟩=some ρ.ptr:=A.vF.cell 0
def Xp (ρ:bw)(w:World)(m:mv)(d:Qu)(k:Nat):vX:=⟨ρ,w,28,w.heap.size+1+1,k,w.heap.size,w.heap.size+3,(kL m).toArray,[(w.heap.size+1,28,qu0)],λ W S=>d.at_ W S m⟩
theorem JQ (hg:ρ.g < w.heap.size)(k:Nat)(hk:k < 8):(Xp ρ w m d k).Fit:=
 ⟨hg,by show w.heap.size<=w.heap.size+1+1;omega,hg,by show w.heap.size≠w.heap.size+1+1;omega,Nat.lt_succ_self _,by show w.heap.size < w.heap.size+3;omega,λ x hx=>by simp[Xp] at hx;subst hx;exact⟨Nat.le_succ _,by show w.heap.size+1≠w.heap.size+1+1;omega,by show w.heap.size+1 < w.heap.size+3;omega⟩,by show k < 8;exact hk,λ w w' S S' h hk=>Qu.at_.keep hk h⟩
theorem GQ.start (A:GQ ρ w lg dp wr l m d) {α:Type}(E:El α)(T:TypeId)(k:Nat)(hk:(kL m).toArray.setIfInBounds k (.slice none 0 0)=(kL m).toArray):(Xp ρ w m d k).acc E T [] wr:=
 ⟨.slice none 0 0,by show av wr _ _ ((kL m).toArray.setIfInBounds k _);rw[hk];exact A.blk,jK.nil E T wr _,Qu.at_.keep (λ b hb=>⟨λ _=>rfl,hb.1,hb.2,by simp[Value.ownBlock]⟩) A.at_,by have:=A.blk.lt;show w.heap.size+3<=_;omega,A.vF,λ x hx=>by simp[Xp] at hx;subst hx;exact A.res⟩
theorem GQ.list {α:Type} {E:El α} {T:TypeId} {k:Nat} {xs:List α} {m':Sl->mv} {d':Qu} {lg2 dp2:Bool}(hs:(Xp ρ w m d k).acc E T xs w2)(D:bh ρ w w2 l2 lg2 dp2)(hm:∀sl,(kL (m' sl)).toArray=(kL m).toArray.setIfInBounds k (fN sl))(hl:lg2=(lg || d'.long))(hd:dp2=(dp || di d'.exprs))(hat:∀sl,E.sl w2 (eI (w.heap.size+3) w2) sl xs->d.at_ w2 (eI (w.heap.size+3) w2) m->d'.at_ w2 (eI (w.heap.size+3) w2) (m' sl)):∃sl,GQ ρ w lg dp w2 l2 (m' sl) d':=by
 obtain⟨v,A⟩:=hs;obtain⟨sl,hv,_,ki⟩:=A.row.sl (B':=w.heap.size+3) (Nat.le_refl _);refine⟨sl,?_,?_,A.E3 (w.heap.size+1,28,qu0) (by simp[Xp]),A.vF,hat sl ki (Qu.at_.keep (DD (Nat.le_refl _)) A.kp)⟩
 ·rw[<- hl,<- hd];exact D
 ·rw[hm,<- hv];exact A.blk
end
def F3 (ρ:bw)(w:World)(lg dp:Bool)(l:aK)(e:Ending)(w':World):Prop:=
 GP ρ w dc l (λ d r v w'=>∃m:mv,v=IU m/\d.at_ w' (eI w.heap.size w') m/\bh ρ w w' r (lg || d.long) (dp || di d.exprs)) e w'
variable{ρ:bw}{wr:World}{lg dp:Bool}{l0:aK}{m:mv}{d:Qu}
theorem GQ.post(A:GQ ρ w lg dp wr l m d)(hg:ρ.g < w.heap.size)(hp:dc l0=.ok (d,l)):F3 ρ w lg dp l0 (.returned (IU m)) (wr.setRow (w.heap.size+1) (kL m).toArray):=
 GP.ok hp ⟨m,rfl,Qu.at_.keep (ir Taa) (Qu.at_.keep (iZ wr (show w.heap.size+1 < w.heap.size+3 by omega) _) A.at_),A.did.own hg (cP wr _ _) (λ G e=>by injection e with e;omega)⟩
theorem abC(h:ar fq l=true):qG l=.ok ([],l.tail):=by unfold qG;rw[cg];simp only[h,if_true];rfl
theorem abD(h:ar fq l=false):qG l=dN nE l:=by unfold qG;exact Zgp
theorem F4(h:ar iR l=false):pc l=.ok ([],l):=by unfold pc;exact Zgp
theorem Vt(h:ar iR l=true):pc l=(do must nB;dN eD:Ps (List Tr)) l.tail:=by unfold pc;exact Zgn
theorem Vu(h:ar iT l=false):ma l=.ok ([],l):=by unfold ma;exact Zgp
theorem Qh(h:ar iT l=true):ma l=(do must nB;dN km:Ps (List (Tr×Bool))) l.tail:=by unfold ma;exact Zgn
theorem F5(h:ar ju l=false):qH l=.ok ([],l):=by unfold qH;exact Zgp
theorem Vv(h:ar ju l=true):qH l=(do let n <- lZ;return [n]:Ps (List Int)) l.tail:=by unfold qH;exact Zgn
def cK:Array Value:=(cd {}).toArray
def ib (m:gT):Obj:=.cells (cd m).toArray 34
theorem cz:(Tryz.prog.info? 34).map (·.size)=some 28:=by kernel_rfl
theorem cW (m:gT):(cd m).toArray.all (·.oneCell')=true:=by simp[cd,kL,fN,fZ,Value.oneCell']
def cQ (ρ:bw)(w:World)(lg dp:Bool)(P:Ps St)(l:aK)(e:Ending)(w':World):Prop:=
 GP ρ w P l (λ d r v w'=>∃m:gT,v=mK m/\d.at_ w' (eI w.heap.size w') m/\bh ρ w w' r (lg || d.long) (dp || di d.exprs)) e w'
structure BM (ρ:bw) (w:World) (q:Nat) (zu:List Nat) (lg dp:Bool) (wr:World) (l:aK):Prop where
 did:bh ρ w wr l lg dp
 res:av wr q 34 cK
 qw:w.heap.size<=q
 vF:∀p∈zu,w.heap.size<=p/\p≠q/\av wr p 77 #[ρ.ptr]
structure wu (ρ:bw) (w:World) (q:Nat) (zu:List Nat) (lg dp:Bool) (b:Nat) (wr:World) (l:aK) (m:gT) (d:St):Prop where
 sa:BM ρ w q zu (lg || d.long) (dp || di d.exprs) wr l
 blk:av wr b 34 (cd m).toArray
 at_:d.at_ wr (eI (b+1) wr) m
 qb:q < b
 pb:∀p∈zu,p < b
section
variable {ρ:bw} {w wr w2:World} {q b:Nat} {zu:List Nat} {lg dp lg2 dp2:Bool} {l l2:aK} {m:gT} {d:St}
theorem BM.later (A:BM ρ w q zu lg dp wr l)(hb:Below wr.heap.size wr w2):BM ρ w q zu lg dp w2 l:=
 ⟨A.did.later hb,A.res.later hb,A.qw,λ p hp=>by obtain⟨a,c,h⟩:=A.vF p hp;exact⟨a,c,h.later hb⟩⟩
theorem BM.go (A:BM ρ w q zu lg dp wr l)(hg:ρ.g < w.heap.size)(D:bh ρ wr w2 l2 lg2 dp2):BM ρ w q zu lg2 dp2 w2 l2:=by have hq:=A.qw;exact⟨A.did.trans D,D.blk A.res Taa,A.qw,λ p hp=>by obtain⟨a,c,h⟩:=A.vF p hp;exact⟨a,c,D.blk h Taa⟩⟩
theorem BM.ptr {p:Nat}(A:BM ρ w q [p] lg dp wr l):wr.cell? ⟨p,0,none⟩=some ρ.ptr:=(A.vF p Tad).2.2.cell 0
theorem BM.start (A:BM ρ w q zu lg dp wr l)(m:gT)(d:St)(hpl:∀p∈zu,p < wr.heap.size)(hl:lg2=(lg || d.long))(hd:dp=(dp2 || di d.exprs))(Dn:lg=(lg2 || d.long))(hat:∀W S,St.at_ W S d m):wu ρ w q zu lg2 dp2 wr.heap.size (wr.alloc (ib m)) l m d:=by have hb:=aa wr (ib m);exact⟨by rw[<- Dn,<- hd];exact A.later hb,av.new wr _ _,hat _ _,A.res.lt,hpl⟩
theorem wu.later (A:wu ρ w q zu lg dp b wr l m d)(hb:Below wr.heap.size wr w2):wu ρ w q zu lg dp b w2 l m d:=
 ⟨A.sa.later hb,A.blk.later hb,St.at_.keep (eJ hb) A.at_,A.qb,A.pb⟩
theorem wu.go (A:wu ρ w q zu lg dp b wr l m d)(hg:ρ.g < w.heap.size)(D:bh ρ wr w2 l2 (lg || d.long) (dp || di d.exprs)):wu ρ w q zu lg dp b w2 l2 m d:=by have hq:=A.qb;have hw:=A.sa.qw;exact⟨A.sa.go hg D,D.blk A.blk Taa,St.at_.keep (fe D.grown Taa) A.at_,A.qb,A.pb⟩
theorem wu.set {m':gT} {d':St}(A:wu ρ w q zu lg dp b wr l m d)(hg:ρ.g < w.heap.size)(D:bh ρ wr w2 l2 lg2 dp2)(i:Nat)(u:Value)(hb:(cd m').toArray=(cd m).toArray.setIfInBounds i u)(hl:lg2=(lg || d'.long))(hd:dp2=(dp || di d'.exprs))(hat:d.at_ w2 (eI (b+1) w2) m->St.at_ w2 (eI (b+1) w2) d' m'):wu ρ w q zu lg dp b (w2.setCell ⟨b,i,none⟩ u) l2 m' d':=by
 have hq:=A.qb;have hw:=A.sa.qw;have S:=A.sa.go hg D;refine⟨⟨?_,S.res.far (p:=⟨b,i,none⟩) Tae u,S.qw,λ p hp=>?_⟩,?_,St.at_.keep (pW (Nat.lt_succ_self _) i u) (hat (St.at_.keep (fe D.grown Taa) A.at_)),A.qb,A.pb⟩
 ·rw[<- hl,<- hd];exact S.did.far hg Taa i u
 ·obtain⟨a,c,h⟩:=S.vF p hp;have:=A.pb p hp;exact⟨a,c,h.far (p:=⟨b,i,none⟩) Tae u⟩
 ·rw[hb];exact(D.blk A.blk Taa).cJ i u
def stG (ρ:bw)(w:World)(q p b:Nat)(m:gT)(d:St)(k:Nat):vX:=⟨ρ,w,34,b,k,p,b+1,(cd m).toArray,[(q,34,cK)],λ W S=>d.at_ W S m⟩
theorem wu.fit {p:Nat}(A:wu ρ w q [p] lg dp b wr l m d)(hg:ρ.g < w.heap.size)(k:Nat)(hk:k < 28):(stG ρ w q p b m d k).Fit:=by have hq:=A.qb;have hw:=A.sa.qw;have hp:=A.pb p Tad;obtain⟨h1,h2,_⟩:=A.sa.vF p Tad;exact⟨hg,by show w.heap.size<=b;omega,by show ρ.g < p;omega,by show p≠b;omega,Nat.lt_succ_self _,by show p < b+1;omega,λ x hx=>by simp[stG] at hx;subst hx;exact⟨hw,by show q≠b;omega,by show q < b+1;omega⟩,by show k < 28;exact hk,λ w w' S S' h hk=>St.at_.keep hk h⟩
theorem wu.start {p:Nat}(A:wu ρ w q [p] lg dp b wr l m d) {α:Type}(E:El α)(T:TypeId)(k:Nat)(hk:(cd m).toArray.setIfInBounds k (.slice none 0 0)=(cd m).toArray):(stG ρ w q p b m d k).acc E T [] wr:=
 ⟨.slice none 0 0,by show av wr _ _ ((cd m).toArray.setIfInBounds k _);rw[hk];exact A.blk,jK.nil E T wr _,St.at_.keep (λ b hb=>⟨λ _=>rfl,hb.1,hb.2,by simp[Value.ownBlock]⟩) A.at_,by have:=A.blk.lt;show b+1<=_;omega,(A.sa.vF p Tad).2.2,λ x hx=>by simp[stG] at hx;subst hx;exact A.sa.res⟩
theorem wu.list {p:Nat} {α:Type} {E:El α} {T:TypeId} {k:Nat} {xs:List α} {m':Sl->gT} {d':St}(A:wu ρ w q [p] lg dp b wr l m d)(hs:(stG ρ w q p b m d k).acc E T xs w2)(D:bh ρ w w2 l2 lg2 dp2)(hm:∀sl,(cd (m' sl)).toArray=(cd m).toArray.setIfInBounds k (fN sl))(hl:lg2=(lg || d'.long))(hd:dp2=(dp || di d'.exprs))(hat:∀sl,E.sl w2 (eI (b+1) w2) sl xs->d.at_ w2 (eI (b+1) w2) m->d'.at_ w2 (eI (b+1) w2) (m' sl)):∃sl,wu ρ w q [p] lg dp b w2 l2 (m' sl) d':=by
 obtain⟨v,B⟩:=hs;obtain⟨sl,hv,_,ki⟩:=B.row.sl (B':=b+1) (Nat.le_refl _);obtain⟨h1,h2,_⟩:=A.sa.vF p Tad;refine⟨sl,⟨?_,B.E3 (q,34,cK) (by simp[stG]),A.sa.qw,λ p' hp=>by simp at hp;subst hp;exact⟨h1,h2,B.vF⟩⟩,?_,hat sl ki (St.at_.keep (DD (Nat.le_refl _)) B.kp),A.qb,A.pb⟩
 ·rw[<- hl,<- hd];exact D
 ·rw[hm,<- hv];exact B.blk
theorem wu.post {P:Ps St} {l0:aK}(A:wu ρ w q zu lg dp b wr l m d)(hg:ρ.g < w.heap.size)(hp:P l0=.ok (d,l)):cQ ρ w lg dp P l0 (.returned (mK m)) (wr.setRow q (cd m).toArray):=by have hq:=A.qb;have hw:=A.sa.qw;exact GP.ok hp ⟨m,rfl,St.at_.keep (ir Taa) (St.at_.keep (iZ wr (show q < b+1 by omega) _) A.at_),A.sa.did.own hg (cP wr _ _) (λ G e=>by injection e with e;omega)⟩
end
def Qm (w:World)(b:Nat)(m:mv):World:=(((((((w.setCell ⟨b,7,none⟩ (fN m.items)).setCell ⟨b,8,none⟩ (.string m.aP)).setCell ⟨b,9,none⟩ (.bool m.only)).setCell ⟨b,10,none⟩ (fN m.aS)).setCell ⟨b,11,none⟩ (fN m.group)).setCell ⟨b,12,none⟩ (fN m.having)).setCell ⟨b,13,none⟩ (fN m.order)).setCell ⟨b,14,none⟩ (fN m.aN)
def G7 (cs:Array Value)(m:mv):Array Value:=(((((((cs.setIfInBounds 7 (fN m.items)).setIfInBounds 8 (.string m.aP)).setIfInBounds 9 (.bool m.only)).setIfInBounds 10 (fN m.aS)).setIfInBounds 11 (fN m.group)).setIfInBounds 12 (fN m.having)).setIfInBounds 13 (fN m.order)).setIfInBounds 14 (fN m.aN)
section
variable {ρ:bw} {w wr w2:World} {q b:Nat} {zu:List Nat} {lg dp lg2 dp2:Bool} {l l2:aK} {m:gT} {d:St}
theorem wu.query {m':gT} {d':St} {qy:mv}(A:wu ρ w q zu lg dp b wr l m d)(hg:ρ.g < w.heap.size)(D:bh ρ wr w2 l2 lg2 dp2)(hb:(cd m').toArray=G7 (cd m).toArray qy)(hl:lg2=(lg || d'.long))(hd:dp2=(dp || di d'.exprs))(hat:d.at_ w2 (eI (b+1) w2) m->St.at_ w2 (eI (b+1) w2) d' m'):wu ρ w q zu lg dp b (Qm w2 b qy) l2 m' d':=by
 have hq:=A.qb;have hw:=A.sa.qw;have S:=A.sa.go hg D;have hB:=D.blk A.blk Taa;have hS:=hat (St.at_.keep (fe D.grown Taa) A.at_);have s:=λ(w:World) (h:St.at_ w (eI (b+1) w) d' m') (i:Nat) (u:Value)=>St.at_.keep (pW (w:=w) (Nat.lt_succ_self b) i u) h
 have t:=λ(W:World) (h:BM ρ w q zu lg2 dp2 W l2) (i:Nat) (u:Value)=>(⟨h.did.far (q:=b) hg Taa i u,h.res.far (p:=⟨b,i,none⟩) Tae u,h.qw,λ p hp=>by
  obtain⟨a,c,k⟩:=h.vF p hp
  have:=A.pb p hp
  exact⟨a,c,k.far (p:=⟨b,i,none⟩) Tae u⟩⟩:BM ρ w q zu lg2 dp2 (W.setCell ⟨b,i,none⟩ u) l2)
 refine⟨?_,?_,?_,A.qb,A.pb⟩
 ·rw[<- hl,<- hd];exact t _ (t _ (t _ (t _ (t _ (t _ (t _ (t _ S 7 _) 8 _) 9 _) 10 _) 11 _) 12 _) 13 _) 14 _
 ·rw[hb];exact(((((((hB.cJ 7 _).cJ 8 _).cJ 9 _).cJ 10 _).cJ 11 _).cJ 12 _).cJ 13 _).cJ 14 _
 ·exact s _ (s _ (s _ (s _ (s _ (s _ (s _ (s _ hS 7 _) 8 _) 9 _) 10 _) 11 _) 12 _) 13 _) 14 _
end
variable{P:Program}{id:Nat}{o:Oper}{Q:Exit->Act->List Frame->World->Prop}{a:Act}{v:Value}{cs':List Frame}
theorem uy{l:List Oper}   {cs:List Frame} (hw:Region.wanted o (yielded (o::l).toArray a.tmps)=true)(hr:(execOp a.eval o).run P w=.ok .recover w)  
  (hc:recoverD cs=some (v,cs')\/recoverD cs=none/\v=.nilIface/\cs'=cs) (h:wpList P (o::l).toArray (λ e a w=>Q e a cs' w) l (a.put o.dst v) w):(Code.region id (o::l).toArray false).wpS P Q a cs w:=by
 intro b k hb hro;obtain⟨e,a',w',q,arZ⟩:=wp_ops (ops:=(o::l).toArray) (List.range' 1 l.length) _ w (by rw[wpOps_eq_wpList l 1 (λ j=>by simp[Nat.add_comm])];exact h) b k cs';refine⟨e,a',cs',w',q,.of_steps (.one step_region) ?_⟩;have e0:List.range (o::l).toArray.size=0::List.range' 1 l.length:=by rw[range_eq_range'];simp[range'_succ]
 rw[e0];have ho:(o::l).toArray[0]?=some o:=by simp
 have hg:=stepG_op (P:=P) (b:=b) (k:=k) (cs:=cs) (w:=w) (rest:=List.range' 1 l.length) ho hw;have uf:∀v,(b.at a (.inRegion (o::l).toArray (0::List.range' 1 l.length)::k)).finish v=b.at (a.put o.dst v) (.inRegion (o::l).toArray (List.range' 1 l.length)::k):=by intro v;rw[Frame.finish_at,ho];rfl
 have htr:=tryRecover_deferred (fr:=b.at a (.inRegion (o::l).toArray (0::List.range' 1 l.length)::k)) hb cs;refine .of_steps (.one (step_lone_go ?_)) arZ;rw[hg,<- uf];simp only[Frame.at] at htr ⊢;rcases hc with hc |⟨hc,rfl,rfl⟩<;> simp[stepG.apply,hr,htr,hc]
theorem DY:Tryz.prog.built 34 []=some cK:=by kernel_rfl
def sB (b0 b1 b2:Nat):Array Value:= #[.pointer (some ⟨b0,0,none⟩),.pointer (some ⟨b1,0,none⟩),.pointer (some ⟨b2,0,none⟩)]
theorem zfq.Kbx(h:p:=by
 refine uy (v:=.nilIface) (cs':=abK::cs) TaO rfl (.inr ⟨by simp[recoverD,hu],rfl,rfl⟩) ?_;have hta:∀w,(Instr.typeAssert .nilIface 20 75 true).run Tryz.prog w=.ok (.tuple #[.agg #[.int .i64 0],.bool false]) w:=λ _=>rfl
 have hb:=aa w (.cells #[.int .i64 0] 75);go_wp2_with fail;change Code.wpS _ _ _ _ _ _;refine wpS_of_wp ?_;go_wp2_with fail;simp only[bodyPostS];refine⟨trivial,abK.mode,rfl,.tuple #[],?_,rfl,hu,?_⟩
 ·simp[results,Tryz.results26]
 ·exact hb):p:=h
theorem Mx (b0 b1 b2:Nat)(w:World):CallsD Tryz.prog 26 (sB b0 b1 b2) .returning w λ e u' w'=>e=.returned (.tuple #[])/\u'=.returning/\Below w.heap.size w w':=by
 open zfq in exact Zc2
def Vy (p:Int):Value:=.iface 75 (.agg #[.int .i64 p])
theorem zeA.Kbd(h:p:=by
 rw[<- hz0];clear hz0;go_upto_region 2 with fail;change Code.wp _ _ _ _ (w.alloc (.cells #[.int .i64 p] 75));generalize w.alloc _=W at*;generalize w.heap.size=g at*;refine iX [_,_] [_,_,_,_] rfl (λ i=>if i=0 then .agg z0 else if i=1 then .pointer (some ⟨g,0,none⟩)else .int .i64 p) [3] (λ vs w'=>av w' b0 34 (if vs=[] then cs0 else z0)/\av w' b1 3 #[x]/\av w' b2 40 #[y]/\av w' g 75 #[.int .i64 p]/\Below N w w') (λ vs w' ⟨a,b,c,d,e⟩=>⟨a.drew,b.drew,c.drew,d.drew,e.drew⟩) ⟨HB0,pQ,vT,HF,iV⟩ Tac Tac Tac Tac Tab rfl ?_ ?_
 ·refine⟨ZdW,?_,?_,?_,trivial⟩
  ·intro ρ w' vs hcs hG hr;have r0:ρ (.tmp 3)=.pointer (some ⟨g,0,none⟩):=hr.1;refine⟨rfl,?_⟩;simp[execOp,r0,go_sem]
  ·intro ρ w' vs hcs hG hr;have r0:ρ (.tmp 12)=.pointer (some ⟨g,0,none⟩):=hr.1;refine⟨rfl,?_⟩;have hc:=hG.2.2.2.1.cell 0;simp only[getElem?_toArray,getElem?_cons_zero] at hc;simp[execOp,r0,go_sem,hc]
  ·intro ρ w' vs hcs hG hr;have r0:ρ (.tmp 0)=.pointer (some ⟨b0,0,none⟩):=hr.1;have r1:ρ (.tmp 11)=.agg z0:=hr.2.1;refine⟨rfl,?_⟩;show vs.length=0->_;intro hl;obtain rfl:=eq_nil_of_length_eq_zero hl;obtain⟨a,b,c,d,e⟩:=hG;refine tL (w':=w'.setRow b0 z0) ?_ ?_
   ·unfold execOp;simp only[r0,r1,Instr.storeAt,Instr.sureAddr,Sem.run_bind,Sem.run_pure,Result.andThen_ok,run_storeVar_row w' b0 34 34 cs0 z0 a Ta1 (by rw[hs0,Ku.out]) HZ1.out]
   ·exact⟨a.row z0,b.ig n1.symm z0,c.ig n2.symm z0,d.ig Taa z0,e.trans (aQ (cP w' b0 z0) (by have:=a.lt;omega) h0)⟩
 ·intro vs w' hl hG
  match vs,hl with
  | [v],_=>
    obtain⟨a,b,c,d,e⟩:=hG;intro a0 z0' a1 z1 a2 z2;have z0':a0=.agg z0:=z0';have z1:a1=.pointer (some ⟨g,0,none⟩):=z1;have z2:a2=.int .i64 p:=z2;subst z0' z1 z2;have e1:=b.cell 0;have e2:=c.cell 0;simp only[getElem?_toArray,getElem?_cons_zero] at e1 e2;have f1:=b.frozen 0;have f2:=c.frozen 0;change wpList _ _ _ _ _ _;clear z0' z1 z2;go_wp2_with fail;have s0:=a.lt;have hs1:(w'.setCell ⟨b1,0,none⟩ (.int .i64 p)).heap.size=w'.heap.size:=by simp[World.setCell]
    have g1:w'.grownBy (w'.setCell ⟨b1,0,none⟩ (.int .i64 p)) (some b1):=bE (aD (Below.refl _ _)) 0 _;have g2:(w'.setCell ⟨b1,0,none⟩ (.int .i64 p)).grownBy ((w'.setCell ⟨b1,0,none⟩ (.int .i64 p)).setCell ⟨b2,0,none⟩ (.int .i64 31)) (some b2):=bE (aD (Below.refl _ _)) 0 _;refine⟨rfl,_,rfl,.tuple #[],?_,rfl,rfl,?_,?_,?_,?_⟩
    ·simp[results,Tryz.results26]
    ·exact(av.far a (p:=⟨b1,0,none⟩) n1 _).far (p:=⟨b2,0,none⟩) n2 _
    ·exact(b.cJ 0 (.int .i64 p)).far (p:=⟨b2,0,none⟩) n3 _
    ·exact(c.far (p:=⟨b1,0,none⟩) n3.symm _).cJ 0 (.int .i64 31)
    ·exact(e.trans (aQ g1 Taa h1)).trans (aQ g2 Taa h2)):p:=h
theorem zfr.Kbx(h:p:=by
 refine uy (v:=Vy p) (cs':= { abK with mode:=.panicking ({ v:=Vy p,recovered:=true }::F9)}::cs) TaO rfl (.inl (by simp[recoverD,hu])) ?_;have hta:∀w,(Instr.typeAssert (Vy p) 20 75 true).run Tryz.prog w=.ok (.tuple #[.agg #[.int .i64 p],.bool true]) w:=λ _=>rfl
 go_wp2_with fail;change Code.wpS _ _ _ _ _ _;refine wpS_of_wp ?_;have hN:N<=w.heap.size:=by have:=hb0.lt;omega
 have iV:=(aa w (.cells #[.int .i64 p] 75)).mono hN;have HF:=av.new w 75 #[.int .i64 p];have HB0:=hb0.alloc (.cells #[.int .i64 p] 75);have pQ:=hb1.alloc (.cells #[.int .i64 p] 75);have vT:=hb2.alloc (.cells #[.int .i64 p] 75);have q0:=hb0.lt;have q1:=hb1.lt;have q2:=hb2.lt;clear hb0 hb1 hb2 hta;open zeA in exact Zcc):p:=h
theorem JR (p:Int)(N b0 b1 b2:Nat)(h0:N<=b0)(h1:N<=b1)(h2:N<=b2)(n1:b0≠b1)(n2:b0≠b2)(n3:b1≠b2)(w:World)(cs0:Array Value)(hs0:cs0.size=28)(hb0:av w b0 34 cs0)(x y:Value)(hb1:av w b1 3 #[x])(hb2:av w b2 40 #[y])(F9:List PanicEntry):
  CallsD Tryz.prog 26 (sB b0 b1 b2) (.panicking ({ v:=Vy p,recovered:=false }::F9)) w λ e u' w'=>e=.returned (.tuple #[])/\u'=.panicking ({ v:=Vy p,recovered:=true }::F9)/\av w' b0 34 cK/\av w' b1 3 #[.int .i64 p]/\av w' b2 40 #[.int .i64 31]/\Below N w w':=by
 open zfr in exact Zc2
structure oD (w:World) (b:Nat) (cs:Array Value) (x y:Value):Prop where
 st:av w b 34 cs
 at_:av w (b+1) 3 #[x]
 er:av w (b+2) 40 #[y]
variable{b:Nat}{cs:Array Value}{x y:Value}
theorem oD.later(h:oD w b cs x y)(hb:Below w.heap.size w w'):oD w' b cs x y:=⟨h.st.later hb,h.at_.later hb,h.er.later hb⟩
theorem oD.grown(h:oD w b cs x y)(hb:w.grownBy w' (some g))(hg:b+2 < g):oD w' b cs x y:=
 ⟨h.st.grown hb (λ e=>by injection e with e;omega),h.at_.grown hb (λ e=>by injection e with e;omega),h.er.grown hb (λ e=>by injection e with e;omega)⟩
theorem oD.lt(h:oD w b cs x y):b+2 < w.heap.size:=h.er.lt
theorem sF (w:World)(b:Nat)(cs:Array Value)(x y:Value)(h:oD w b cs x y)(hs:cs.size=28)(tmps:Array Value)(h2:tmps.getD 2 undef=.pointer (some ⟨b,0,none⟩))(h3:tmps.getD 3 undef=.pointer (some ⟨b+1,0,none⟩))(h4:tmps.getD 4 undef=.pointer (some ⟨b+2,0,none⟩)):
  (results Tryz.f14 tmps).run Tryz.prog w=.ok (.tuple #[.agg cs,x,y]) w:=by
 have oH:tmps[2]?.getD undef=.pointer (some ⟨b,0,none⟩):=by simpa using h2
 have h3':tmps[3]?.getD undef=.pointer (some ⟨b+1,0,none⟩):=by simpa using h3
 have h4':tmps[4]?.getD undef=.pointer (some ⟨b+2,0,none⟩):=by simpa using h4
 have e1:=h.at_.cell 0;have e2:=h.er.cell 0;simp only[getElem?_toArray,getElem?_cons_zero] at e1 e2;have l0:=run_loadVar_row (P:=Tryz.prog) w b 34 34 cs (0,0) _ h.st Tryz.underlying34 rfl (by rw[hs];exact cz);have l1:(loadVar 3 ⟨b+1,0,none⟩).run Tryz.prog w=.ok x w:=by simp[go_sem,e1]
 have l2:(loadVar 40 ⟨b+2,0,none⟩).run Tryz.prog w=.ok y w:=by simp[go_sem,e2]
 simp[results,Tryz.results14,oH,h3',h4',asAddr,Sem.run_bind,l0,l1,l2,Result.andThen]
def K3 (b:Nat):Deferred:= { target:=.fn (.func 26) (sB b (b+1) (b+2)),args:= #[] }
variable{R:Ending->World->Prop}{N:Nat}{cs0 tmps:Array Value}
theorem Ef(h:oD w b cs0 x y)(hs:cs0.size=28)(hN:N<=b)(p:Int) (h2:tmps.getD 2 undef=.pointer (some ⟨b,0,none⟩))(h3:tmps.getD 3 undef=.pointer (some ⟨b+1,0,none⟩))(h4:tmps.getD 4 undef=.pointer (some ⟨b+2,0,none⟩))
  (hR:∀w',Below N w w'->R (.returned (.tuple #[.agg cK,.int .i64 p,.int .i64 31])) w'):
  bodyPostD Tryz.prog Tryz.f14 R (.panic [{ v:=Vy p,recovered:=false }]) { tmps:=tmps,defers:=[K3 b] } w:=by refine leaves_cons (f:=26) (args:=sB b (b+1) (b+2)) Tad (by unfold sB;simp[go_sem]) ?_;refine(JR p N b (b+1) (b+2) hN Taa Taa Taa Taa Taa w cs0 hs h.st x y h.at_ h.er []).mono ?_;rintro e u' w' ⟨rfl,rfl,B0,B1,B2,hb⟩;show Leaves _ _ _ _ [] .returning w';exact⟨_,sF w' b cK _ _ ⟨B0,B1,B2⟩ rfl tmps h2 h3 h4,hR w' hb⟩
theorem Af(h:oD w b cs x y)(hs:cs.size=28) (h2:tmps.getD 2 undef=.pointer (some ⟨b,0,none⟩))(h3:tmps.getD 3 undef=.pointer (some ⟨b+1,0,none⟩))(h4:tmps.getD 4 undef=.pointer (some ⟨b+2,0,none⟩))
  (hR:∀w',Below w.heap.size w w'->R (.returned (.tuple #[.agg cs,x,y])) w'):
  bodyPostD Tryz.prog Tryz.f14 R .ret { tmps:=tmps,defers:=[K3 b] } w:=by refine leaves_cons (f:=26) (args:=sB b (b+1) (b+2)) Tad (by unfold sB;simp[go_sem]) ?_;refine(Mx b (b+1) (b+2) w).mono ?_;rintro e u' w' ⟨rfl,rfl,hb⟩;show Leaves _ _ _ _ [] .returning w';exact⟨_,sF w' b cs _ _ (h.later hb) hs tmps h2 h3 h4,hR w' hb⟩
theorem Qo(h:oD w b cs x y)(hs:cs.size=28) (h2:tmps.getD 2 undef=.pointer (some ⟨b,0,none⟩))(h3:tmps.getD 3 undef=.pointer (some ⟨b+1,0,none⟩))(h4:tmps.getD 4 undef=.pointer (some ⟨b+2,0,none⟩))
  (hR:R (.returned (.tuple #[.agg cs,x,y])) w):
  bodyPostD Tryz.prog Tryz.f14 R .ret { tmps:=tmps,defers:=[] } w:=
 ⟨_,sF w b cs _ _ h hs tmps h2 h3 h4,hR⟩
variable{gl c B:Nat}
theorem bw.ahq{l:List na}(xk:gl < w.heap.size)(hc:∀k t,l[k]?=some t->w.cell? ⟨gl,k*4,none⟩=some (.int .u8 t.w.k)/\w.cell? ⟨gl,k*4+1,none⟩=some (.string ⟨t.w.s.toArray⟩)/\w.cell? ⟨gl,k*4+2,none⟩=some (.int .i64 t.w.n)/\w.cell? ⟨gl,k*4+3,none⟩=some (.int .i64 t.p))
  (he:jv (l.map (·.w))) (hlen:l.length<=4097) (hwd:∀t∈l,ZE t.w) (hE:Env B w):
  (⟨w.heap.size,gl,c,l⟩:bw).gh (w.alloc (.cells #[.slice (some ⟨gl,0,none⟩) l.length c,.int .i64 0,.bool false,.bool false] 79)) (l.map (·.w)) false false:=by
 have hb:=av.new w 79 #[.slice (some ⟨gl,0,none⟩) l.length c,.int .i64 0,.bool false,.bool false];refine⟨?_,xk,?_,⟨suffix_refl _,he⟩,?_,λ t ht=>(hwd t ht).1,B,hE.size,hE.later (aa w _)⟩
 ·have e:(⟨w.heap.size,gl,c,l⟩:bw).xm (l.map (·.w)) false false= #[.slice (some ⟨gl,0,none⟩) l.length c,.int .i64 0,.bool false,.bool false]:=by simp[bw.xm,bw.n]
  rw[e];exact hb
 ·intro k t hk;have c:=λ o=>World.cell?_alloc_lt w (.cells #[.slice (some ⟨gl,0,none⟩) l.length c,.int .i64 0,.bool false,.bool false] 79) ⟨gl,o,none⟩ xk
  obtain⟨h1,h2,h3,h4⟩:=hc k t hk;exact Zda
 ·show l.length<=5000;omega
theorem bw.gh.ahr(h:ρ.gh w l lg dp)(cs:Array Value)(h1:ρ.g≠b)(h2:ρ.gl≠b)(hE:∃B,B<=ρ.g/\Env B (w.setRow b cs)):ρ.gh (w.setRow b cs) l lg dp:=
 ⟨h.blk.ig h1 cs,h.lt,λ k t hk=>by
   have c:=cell_of_heap (setRow_other w b ρ.gl cs h2)
   obtain⟨h1,h2,h3,h4⟩:=h.cell k t hk
   exact⟨(c _).trans h1,(c _).trans h2,(c _).trans h3,(c _).trans h4⟩,h.of,h.small,h.yo,hE⟩
variable{s:ByteArray}
theorem abV{l:List na}(h:kO s.data.toList=.ok l) (hE:lU w)(hs:s.size<=4294967280):
  Calls Tryz.prog 25 #[.string s] w λ e w'=>∃A c,e=.returned (.tuple #[.slice A l.length c,.int .i64 0,.int .i64 0])/\Dg w' w.heap.size (.slice A l.length c) l/\Below w.heap.size w w':=by refine(Rj s w hE hs).mono ?_;exact ZeC
theorem K4{p x:Nat}(h:kO s.data.toList=.error (p,x)) (hE:lU w)(hs:s.size<=4294967280):
  Calls Tryz.prog 25 #[.string s] w λ e w'=>e=.returned (.tuple #[.slice none 0 0,.int .i64 p,.int .i64 x])/\Below w.heap.size w w':=by refine(Rj s w hE hs).mono ?_;intro e w' hp;unfold mi at hp;rw[h] at hp;exact hp
end Go.Proofs.YtehhdlgjfdnafaaGreatDoor
