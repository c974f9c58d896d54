/- Parts of the proof. -/
import Derived.Test.YtcneefmaghoejaaGreatDoorC22
namespace Go.Proofs.YtcneefmaghoejaaGreatDoor
open Go.Lib (hid)
open Go.ChangeShapes Go.WideShapes Go.ChangeAt Go.RowKit
set_option linter.unusedVariables false
set_option linter.unusedSimpArgs false
theorem Xm {l r:bH} {t:Tr}(h:cW l=.ok (t,r))(ha:av mK r=false):gy l=.ok ((t,ByteArray.empty),r):=by unfold gy;refine(ak h).trans ?_;rw[dK];simp only[ha];rfl
theorem SX {l r:bH} {t:Tr}(h:cW l=.ok (t,r))(ha:av mK r=true):gy l=(do let n ← aN;return (t,n):Ps (Tr×ByteArray)) r.tail:=by unfold gy;refine(ak h).trans ?_;rw[dK];simp only[ha,if_true]
theorem SY {l r:bH} {t:Tr}(h:cW l=.ok (t,r)):fN l=.ok ((t,av mi r),jv mi r):=by unfold fN;refine(ak h).trans ?_;exact(ak (rV mi r)).trans rfl
theorem ix {w w':World} {g q:Nat}(h:w.grownBy w' (some g))(hq:w.heap.size≤q)(i:Nat)(u:Value):w.grownBy (w'.setCell ⟨q,i,none⟩ u) (some g):=
 ⟨h.os,h.tape,h.output,by simpa [World.setCell] using h.size,fun k hk Wk=>(Below.heap_setCell w' ⟨q,i,none⟩ u k (by simp;omega)).trans (h.block k hk Wk)⟩
theorem Iy:(Tryz.prog.info? 97).map (fun i=>(i.zero,i.size,i.bytes))=some (some (.agg #[.int .u8 0,.int .u8 0,.int .i64 0,.string ⟨#[]⟩,.string ⟨#[]⟩,.int .i64 0,.slice none 0 0,.bool false]),8,96):=by kernel_rfl
theorem xG:(Tryz.prog.info? 71).map (fun i=>(i.zero,i.size,i.bytes))=some (some (.agg #[.string ⟨#[]⟩,.int .u8 0]),2,24):=by kernel_rfl
theorem Ph:(Tryz.prog.info? 73).map (fun i=>(i.zero,i.size,i.bytes))=some (some (.agg #[.string ⟨#[]⟩,.int .u8 0,.int .u8 0,.int .i64 0,.string ⟨#[]⟩,.string ⟨#[]⟩,.int .i64 0,.slice none 0 0]),8,104):=by kernel_rfl
theorem Pj:(Tryz.prog.info? 25).map (fun i=>(i.zero,i.size,i.bytes))=some (some (.slice none 0 0),1,24):=by kernel_rfl
set_option maxHeartbeats 4000000
set_option maxRecDepth 100000
theorem KY (γ:uo)(F:γ.Fit)(Pg:γ.TQ=29)(hk:γ.k=0)(acc:List (Tr×ByteArray))(W:World)(l:bH)(lg dp:Bool)(hn:acc.length≤5000)(hs:γ.acc jE 51 acc W)(hd:bJ γ.ρ γ.W0 W l lg dp):
  Calls Tryz.prog 100 #[.pointer (some ⟨γ.pb,0,none⟩),.pointer (some ⟨γ.qb,0,none⟩)] W (ru γ.ρ γ.W0 (fun x=>decide (32 < x.1.depth)) gy (γ.acc jE 51) acc lg dp l):=by
 obtain⟨v,A⟩:=hs;have p0:=A.ptr;have HA:=hid A;have HD:=hid hd;have VO:=hid (show∀G,v.ownBlock=some G→G < W.heap.size from fun G hG=>(A.ge hG).2);have VP:=A.sz;have aF:=F.gg;have H9:=F.q0;have hqB:=F.qB;have YH:=F.pq;have N6:=F.p0;have hpB:=F.pB;clear Pg;have hm:=lr γ.ρ W l lg dp hd.at_;clear A hd;go_enter Tryz.func100,Tryz.ntmps100;go_wp2_with fail;refine hm.mono ?_;clear hm;intro e w2 hp;rcases hp.cases with ⟨t,r,v2,aO,rfl,y,rfl,hat,d2⟩|⟨m,ar,rfl,hg⟩;case inr=>have HE:=hid (show gy l=.error m from ai ar);have HG:=hid HD.out.grown;clear hp ar;go_wp2_with fail;exact ag rfl (ru.err HE.out ⟨rfl,af HG.out hg⟩)
 have hs2:=d2.size;have iK:=hid (HA.out.grown F d2.grown);have vN:=hid hat;have jf:=hid ((HD.out.trans d2).later (aa w2 (.cells (zB (y,⟨#[]⟩)).toArray 51)));have kR:=hid (au.new w2 51 (zB (y,⟨#[]⟩)).toArray);have xH:=hid (aH (p:=γ.ρ.g) (aa w2 (.cells (zB (y,⟨#[]⟩)).toArray 51)));have oM:=hid aO;have hgx:γ.ρ.g < w2.heap.size:=by have:=d2.lt;omega
 clear hp hat d2 aO HA HD p0;unfold ee zB at*;unfold bl at*;simp only[List.cons_append,List.nil_append] at jf kR xH;go_upto_region 1 with fail
 generalize hW2:(w2.alloc _)=W2 at*;clear hW2;have p0:=(iK.out.grown F xH.out).ptr;have hm:=bX γ.ρ W2 r lg _ jf.out.at_ ⟨#[97,115]⟩;rw[show(⟨#[97,115]⟩:ByteArray).data.toList=mK from rfl] at hm;have hx2:=kR.out.lt;cases hh:av mK r
 ·rw[hh,dm hh] at hm;have HE:=hid (Xm oM.out hh);clear hh;go_wp2_with fail;refine hm.mono ?_;clear hm p0;rintro e w3 ⟨rfl,d⟩;have jL:=hid (jf.out.trans d);have Fs:=hid (d.blk kR.out (by omega));have Cc:=hid (af xH.out d.grown);clear d jf kR xH;have hA:=iK.out.grown F Cc.out;have tR:=hid hA;have kq:=hA.cell F;rw[hk] at kq;have KZ:=hA.sz;clear hA;go_wp2_with (first
   |(refine wpList_load_row rfl 51 (.tmp 2) rfl w2.heap.size rfl 51 _ (0,0) _ Fs.out Tryz.underlying51 rfl (by rfl) ?_)
   |(at_builtin
     refine fo tR.out F rfl _ _ 24 rfl _ 104 Tryz.underlying24 tQ rfl (by decide) (y,⟨#[]⟩) (Ip _) rfl rfl (by omega) (by omega) KZ ?_
     intro ys v' W3 ha iz eB hv
     obtain⟨A9,n9,c9,rfl⟩:=mV iz
     obtain⟨La,Lb,vr,vt⟩:=tR.out.push F jL.out (x:=(t,ByteArray.empty)) (y:=(y,⟨#[]⟩)) ⟨Tr.at_.keep (cK Cc.out (by omega)) _ _ vN.out,rfl⟩ VP VO.out ha (aa _ _) eB iz (by simpa using hv)
     rw[hk] at La Lb vr vt
     have Lc:=hid vr
     have Ld:=hid vt
     clear vr vt ha iz eB hv))
  go_end0;exact ru.ok HE.out ⟨_,Lc.out⟩ Ld.out
 ·rw[hh,dy hh] at hm;have HE:=hid (SX oM.out hh);clear hh;go_wp2_with fail;refine hm.mono ?_;clear hm p0;rintro e w3 ⟨rfl,d⟩;have jL:=hid (jf.out.trans d);have Fs:=hid (d.blk kR.out (by omega));have Cc:=hid (af xH.out d.grown);clear d jf kR xH;have p0:=(iK.out.grown F Cc.out).ptr;generalize r.tail=r3 at*;go_wp2_with fail;refine(fg γ.ρ w3 r3 lg _ jL.out.at_).mono ?_;intro e w4 hp;rcases hp.cases with ⟨nm,r4,v4,aO,rfl,rfl,d⟩|⟨m,ar,rfl,hg⟩;case inr=>have HE:=hid (HE.out.trans (ai ar));have HG:=hid jL.out.grown;clear hp ar;go_wp2_with fail;exact ag rfl (ru.err HE.out ⟨rfl,af HG.out hg⟩)
  have JF:=hid ((HE.out.trans (ak aO)).trans rfl);have jX:=hid ((jL.out.trans d).far aF (by omega:γ.W0.heap.size≤w2.heap.size) 7 (.string nm));have Xn:=d.blk Fs.out (by omega);have QR:=Xn.cg 7 (.string nm);simp only[List.setIfInBounds_toArray,List.set_cons_succ,List.set_cons_zero] at QR;have xg:=hid QR;have X8:=af Cc.out d.grown;have Cx:=hid (ix X8 (Nat.le_refl w2.heap.size) 7 (.string nm));have k7:=Xn.cell 7;have f7:=Xn.frozen 7;have p4:=(iK.out.grown F X8).ptr;simp only[List.getElem?_toArray,List.getElem?_cons_succ,List.getElem?_cons_zero] at k7;clear hp aO d jL Fs Cc Xn QR X8 p0;go_upto_region 3 with fail
  clear k7 f7 p4;generalize Ib:w4.setCell _ _=W4 at*;clear Ib;have hA:=iK.out.grown F Cx.out;have tR:=hid hA;have kq:=hA.cell F;rw[hk] at kq;have KZ:=hA.sz;clear hA;go_wp2_with (first
   |(refine wpList_load_row rfl 51 (.tmp 2) rfl w2.heap.size rfl 51 _ (0,0) _ xg.out Tryz.underlying51 rfl (by rfl) ?_)
   |(at_builtin
     refine fo tR.out F rfl _ _ 24 rfl _ 104 Tryz.underlying24 tQ rfl (by decide) (y,nm) (Ip _) rfl rfl (by omega) (by omega) KZ ?_
     intro ys v' W3 ha iz eB hv
     obtain⟨A9,n9,c9,rfl⟩:=mV iz
     obtain⟨La,Lb,vr,vt⟩:=tR.out.push F jX.out (x:=(t,nm)) (y:=(y,nm)) ⟨Tr.at_.keep (cK Cx.out (by omega)) _ _ vN.out,rfl⟩ VP VO.out ha (aa _ _) eB iz (by simpa using hv)
     rw[hk] at La Lb vr vt
     have Lc:=hid vr
     have Ld:=hid vt
     clear vr vt ha iz eB hv))
  go_end0;exact ru.ok JF.out ⟨_,Lc.out⟩ Ld.out
theorem Iz (γ:uo)(F:γ.Fit)(Pg:γ.TQ=29)(hk:γ.k=6)(acc:List (Tr×Bool))(W:World)(l:bH)(lg dp:Bool)(hn:acc.length≤5000)(hs:γ.acc iM 97 acc W)(hd:bJ γ.ρ γ.W0 W l lg dp):
  Calls Tryz.prog 102 #[.pointer (some ⟨γ.pb,0,none⟩),.pointer (some ⟨γ.qb,0,none⟩)] W (ru γ.ρ γ.W0 (fun x=>decide (32 < x.1.depth)) fN (γ.acc iM 97) acc lg dp l):=by
 obtain⟨v,A⟩:=hs;have p0:=A.ptr;have HA:=hid A;have HD:=hid hd;have VO:=hid (show∀G,v.ownBlock=some G→G < W.heap.size from fun G hG=>(A.ge hG).2);have VP:=A.sz;have aF:=F.gg;have H9:=F.q0;have hqB:=F.qB;have YH:=F.pq;have N6:=F.p0;have hpB:=F.pB;clear Pg;have hm:=lr γ.ρ W l lg dp hd.at_;clear A hd;go_enter Tryz.func102,Tryz.ntmps102;go_wp2_with fail;refine hm.mono ?_;clear hm;intro e w2 hp;rcases hp.cases with ⟨t,r,v2,aO,rfl,y,rfl,hat,d2⟩|⟨m,ar,rfl,hg⟩;case inr=>have HE:=hid (show fN l=.error m from ai ar);have HG:=hid HD.out.grown;clear hp ar;go_wp2_with fail;exact ag rfl (ru.err HE.out ⟨rfl,af HG.out hg⟩)
 have hs2:=d2.size;have iK:=hid (HA.out.grown F d2.grown);have vN:=hid hat;have jf:=hid ((HD.out.trans d2).later (aa w2 (.cells (Gc (y,false)).toArray 97)));have kR:=hid (au.new w2 97 (Gc (y,false)).toArray);have xH:=hid (aH (p:=γ.ρ.g) (aa w2 (.cells (Gc (y,false)).toArray 97)));have oM:=hid aO;have hgx:γ.ρ.g < w2.heap.size:=by have:=d2.lt;omega
 clear hp hat d2 aO HA HD p0;unfold ee Gc at*;unfold bl at*;simp only[List.cons_append,List.nil_append] at jf kR xH;go_upto_region 1 with fail
 generalize hW2:(w2.alloc _)=W2 at*;clear hW2;have p0:=(iK.out.grown F xH.out).ptr;have hm:=bX γ.ρ W2 r lg _ jf.out.at_ ⟨#[100,101,115,99]⟩;rw[show(⟨#[100,101,115,99]⟩:ByteArray).data.toList=mi from rfl] at hm;have hx2:=kR.out.lt;have HE:=hid (SY oM.out);generalize av mi r=ds at*;generalize jv mi r=r3 at*;go_wp2_with fail;refine hm.mono ?_;clear hm p0;rintro e w4 ⟨rfl,d⟩;have jX:=hid ((jf.out.trans d).far aF (by omega:γ.W0.heap.size≤w2.heap.size) 7 (.bool ds));have Xn:=d.blk kR.out (by omega);have QR:=Xn.cg 7 (.bool ds);simp only[List.setIfInBounds_toArray,List.set_cons_succ,List.set_cons_zero] at QR;have xg:=hid QR;have X8:=af xH.out d.grown;have Cx:=hid (ix X8 (Nat.le_refl w2.heap.size) 7 (.bool ds));have k7:=Xn.cell 7;have f7:=Xn.frozen 7;simp only[List.getElem?_toArray,List.getElem?_cons_succ,List.getElem?_cons_zero] at k7;clear d jf kR xH Xn QR X8;go_upto_region 2 with fail
 clear k7 f7;generalize Ib:w4.setCell _ _=W4 at*;clear Ib;have hA:=iK.out.grown F Cx.out;have tR:=hid hA;have kq:=hA.cell F;rw[hk] at kq;have KZ:=hA.sz;clear hA;go_wp2_with (first
  |(refine wpList_load_row rfl 97 (.tmp 2) rfl w2.heap.size rfl 97 _ (0,0) _ xg.out Tryz.underlying97 rfl (by rfl) ?_)
  |(at_builtin
    refine fo tR.out F rfl _ _ 26 rfl _ 96 Tryz.underlying26 Iy rfl (by decide) (y,ds) (Pb _) rfl rfl (by omega) (by omega) KZ ?_
    intro ys v' W3 ha iz eB hv
    obtain⟨A9,n9,c9,rfl⟩:=mV iz
    obtain⟨La,Lb,vr,vt⟩:=tR.out.push F jX.out (x:=(t,ds)) (y:=(y,ds)) ⟨Tr.at_.keep (cK Cx.out (by omega)) _ _ vN.out,rfl⟩ VP VO.out ha (aa _ _) eB iz (by simpa using hv)
    rw[hk] at La Lb vr vt
    have Lc:=hid vr
    have Ld:=hid vt
    clear vr vt ha iz eB hv))
 go_end0;exact ru.ok HE.out ⟨_,Lc.out⟩ Ld.out
theorem tS:∀ {ks:List (List UInt8)} {l r:bH} {s:List UInt8},dC ks l=.ok (s,r)→s∈ks
 | [],l,r,s,h=>by cases h
 | k::ks,l,r,s,h=>by
   cases hh:av k l
   ·rw[EU hh] at h;exact List.mem_cons_of_mem _ (tS h)
   ·rw[zi hh] at h;injection h with h;injection h with h1 h2;simp[← h1]
theorem Fw (γ:uo)(F:γ.Fit)(Pg:γ.TQ=35)(hk:γ.k=2)(acc:List (ByteArray×Int))(W:World)(l:bH)(lg dp:Bool)(hn:acc.length≤5000)(hs:γ.acc pJ 71 acc W)(hd:bJ γ.ρ γ.W0 W l lg dp):
  Calls Tryz.prog 73 #[.pointer (some ⟨γ.pb,0,none⟩),.pointer (some ⟨γ.qb,0,none⟩)] W (ru γ.ρ γ.W0 (fun _=>false) eX (γ.acc pJ 71) acc lg dp l):=by
 obtain⟨v,A⟩:=hs;have p0:=A.ptr;have HA:=hid A;have HD:=hid hd;have VO:=hid (show∀G,v.ownBlock=some G→G < W.heap.size from fun G hG=>(A.ge hG).2);have VP:=A.sz;have aF:=F.gg;have H9:=F.q0;have hqB:=F.qB;have YH:=F.pq;have N6:=F.p0;have hpB:=F.pB;clear Pg;have hm:=fg γ.ρ W l lg dp hd.at_;clear A hd;go_enter Tryz.func73,Tryz.ntmps73;go_wp2_with fail;refine hm.mono ?_;clear hm;intro e w2 hp;rcases hp.cases with ⟨nm,r,v2,aO,rfl,rfl,d2⟩|⟨m,ar,rfl,hg⟩;case inr=>have HE:=hid (show eX l=.error m from ai ar);have HG:=hid HD.out.grown;clear hp ar;go_wp2_with fail;exact ag rfl (ru.err HE.out ⟨rfl,af HG.out hg⟩)
 have hs2:=d2.size;have iK:=hid (HA.out.grown F d2.grown);have jf:=hid ((HD.out.trans d2).later (aa w2 (.cells #[.string nm,.int .u8 0] 71)));have kR:=hid (au.new w2 71 #[.string nm,.int .u8 0]);have xH:=hid (aH (p:=γ.ρ.g) (aa w2 (.cells #[.string nm,.int .u8 0] 71)));have oM:=hid aO;have hgx:γ.ρ.g < w2.heap.size:=by have:=d2.lt;omega
 clear hp d2 aO HA HD p0;go_upto_region 1 with fail
 generalize hW2:(w2.alloc _)=W2 at*;clear hW2;have p0:=(iK.out.grown F xH.out).ptr;have hx2:=kR.out.lt;have hb3:=aa W2 (.cells (aj [jK,gm,gS]) 9);have jL:=hid (jf.out.later hb3);have Fs:=hid (kR.out.later hb3);have Cc:=hid (af xH.out (aH hb3));have eB:=jf.out.lt;have hm:=pS γ.ρ _ r lg dp jL.out.at_ [jK,gm,gS] W2.heap.size 3 rfl (au.new W2 _ _) (by omega) (by omega);clear hb3 jf kR xH;unfold aj strOf at hm jL Fs Cc;simp only[List.map_cons,List.map_nil] at hm jL Fs Cc;rw[show jK.toArray= #[105,110,116] from rfl,show gm.toArray= #[98,111,111,108] from rfl,show gS.toArray= #[116,101,120,116] from rfl] at hm jL Fs Cc;go_wp2_with fail;refine hm.mono ?_;clear hm p0;intro e w4 hp;rcases hp.cases with ⟨ty,r4,v4,aO,rfl,rfl,d⟩|⟨m,ar,rfl,hg⟩;case inr=>have HE:=hid (show eX l=.error m from(ak oM.out).trans (ai ar));have HG:=hid jL.out.grown;clear hp ar;go_wp2_with fail;exact ag rfl (ru.err HE.out ⟨rfl,af HG.out hg⟩)
 have HE:=hid (show eX l=.ok ((nm,typeOf ty),r4)from(ak oM.out).trans ((ak aO).trans rfl));have wu:=tS aO;have jX:=hid (jL.out.trans d);have sk:=hid (d.blk Fs.out (by omega));have JG:=hid (af Cc.out d.grown);clear hp aO d jL Fs Cc oM;have k1:=sk.out.cell 1;have f1:=sk.out.frozen 1;simp only[List.getElem?_toArray,List.getElem?_cons_succ,List.getElem?_cons_zero] at k1;simp only[List.mem_cons,List.not_mem_nil,or_false] at wu;rcases wu with rfl | rfl | rfl
 ·have xg:=hid (sk.out.cg 1 (.int .u8 2));have vx:=hid (jX.out.far aF (by omega:γ.W0.heap.size≤w2.heap.size) 1 (.int .u8 2));have Cx:=hid (ix JG.out (Nat.le_refl w2.heap.size) 1 (.int .u8 2));clear sk jX JG;simp only[List.setIfInBounds_toArray,List.set_cons_succ,List.set_cons_zero] at xg;unfold jK;go_upto_region 7 with fail
  clear k1 f1;generalize Ib:w4.setCell _ _=W4 at*;clear Ib;have hA:=iK.out.grown F Cx.out;have tR:=hid hA;have kq:=hA.cell F;rw[hk] at kq;have KZ:=hA.sz;clear hA;go_wp2_with (first
   |(refine wpList_load_row rfl 71 (.tmp 2) rfl w2.heap.size rfl 71 _ (0,0) _ xg.out Tryz.underlying71 rfl (by rfl) ?_)
   |(at_builtin
     refine fo tR.out F rfl _ _ 23 rfl _ 24 Tryz.underlying23 xG rfl (by decide) (nm,2) (Fu _) rfl rfl (by omega) (by omega) KZ ?_
     intro ys v' W3 ha iz eB hv
     obtain⟨A9,n9,c9,rfl⟩:=mV iz
     obtain⟨La,Lb,vr,vt⟩:=tR.out.push F vx.out (x:=(nm,2)) (y:=(nm,2)) (by rfl) VP VO.out ha (aa _ _) eB iz (by simpa using hv)
     rw[hk] at La Lb vr vt
     have Lc:=hid vr
     have Ld:=hid vt
     clear vr vt ha iz eB hv))
  go_end0;exact ru.ok (HE.out.trans rfl) ⟨_,Lc.out⟩ (by rw[Bool.or_false];exact Ld.out)
 ·have xg:=hid (sk.out.cg 1 (.int .u8 1));have vx:=hid (jX.out.far aF (by omega:γ.W0.heap.size≤w2.heap.size) 1 (.int .u8 1));have Cx:=hid (ix JG.out (Nat.le_refl w2.heap.size) 1 (.int .u8 1));clear sk jX JG;simp only[List.setIfInBounds_toArray,List.set_cons_succ,List.set_cons_zero] at xg;unfold gm;go_upto_region 7 with fail
  clear k1 f1;generalize Ib:w4.setCell _ _=W4 at*;clear Ib;have hA:=iK.out.grown F Cx.out;have tR:=hid hA;have kq:=hA.cell F;rw[hk] at kq;have KZ:=hA.sz;clear hA;go_wp2_with (first
   |(refine wpList_load_row rfl 71 (.tmp 2) rfl w2.heap.size rfl 71 _ (0,0) _ xg.out Tryz.underlying71 rfl (by rfl) ?_)
   |(at_builtin
     refine fo tR.out F rfl _ _ 23 rfl _ 24 Tryz.underlying23 xG rfl (by decide) (nm,1) (Fu _) rfl rfl (by omega) (by omega) KZ ?_
     intro ys v' W3 ha iz eB hv
     obtain⟨A9,n9,c9,rfl⟩:=mV iz
     obtain⟨La,Lb,vr,vt⟩:=tR.out.push F vx.out (x:=(nm,1)) (y:=(nm,1)) (by rfl) VP VO.out ha (aa _ _) eB iz (by simpa using hv)
     rw[hk] at La Lb vr vt
     have Lc:=hid vr
     have Ld:=hid vt
     clear vr vt ha iz eB hv))
  go_end0;exact ru.ok (HE.out.trans rfl) ⟨_,Lc.out⟩ (by rw[Bool.or_false];exact Ld.out)
 ·have xg:=hid (sk.out.cg 1 (.int .u8 3));have vx:=hid (jX.out.far aF (by omega:γ.W0.heap.size≤w2.heap.size) 1 (.int .u8 3));have Cx:=hid (ix JG.out (Nat.le_refl w2.heap.size) 1 (.int .u8 3));clear sk jX JG;simp only[List.setIfInBounds_toArray,List.set_cons_succ,List.set_cons_zero] at xg;unfold gS;go_upto_region 7 with fail
  clear k1 f1;generalize Ib:w4.setCell _ _=W4 at*;clear Ib;have hA:=iK.out.grown F Cx.out;have tR:=hid hA;have kq:=hA.cell F;rw[hk] at kq;have KZ:=hA.sz;clear hA;go_wp2_with (first
   |(refine wpList_load_row rfl 71 (.tmp 2) rfl w2.heap.size rfl 71 _ (0,0) _ xg.out Tryz.underlying71 rfl (by rfl) ?_)
   |(at_builtin
     refine fo tR.out F rfl _ _ 23 rfl _ 24 Tryz.underlying23 xG rfl (by decide) (nm,3) (Fu _) rfl rfl (by omega) (by omega) KZ ?_
     intro ys v' W3 ha iz eB hv
     obtain⟨A9,n9,c9,rfl⟩:=mV iz
     obtain⟨La,Lb,vr,vt⟩:=tR.out.push F vx.out (x:=(nm,3)) (y:=(nm,3)) (by rfl) VP VO.out ha (aa _ _) eB iz (by simpa using hv)
     rw[hk] at La Lb vr vt
     have Lc:=hid vr
     have Ld:=hid vt
     clear vr vt ha iz eB hv))
  go_end0;exact ru.ok (HE.out.trans rfl) ⟨_,Lc.out⟩ (by rw[Bool.or_false];exact Ld.out)
theorem Pk (γ:uo)(F:γ.Fit)(Pg:γ.TQ=35)(hk:γ.k=20)(acc:List (ByteArray×Tr))(W:World)(l:bH)(lg dp:Bool)(hn:acc.length≤5000)(hs:γ.acc pK 73 acc W)(hd:bJ γ.ρ γ.W0 W l lg dp):
  Calls Tryz.prog 78 #[.pointer (some ⟨γ.pb,0,none⟩),.pointer (some ⟨γ.qb,0,none⟩)] W (ru γ.ρ γ.W0 (fun x=>decide (32 < x.2.depth)) oJ (γ.acc pK 73) acc lg dp l):=by
 obtain⟨v,A⟩:=hs;have p0:=A.ptr;have HA:=hid A;have HD:=hid hd;have VO:=hid (show∀G,v.ownBlock=some G→G < W.heap.size from fun G hG=>(A.ge hG).2);have VP:=A.sz;have aF:=F.gg;have H9:=F.q0;have hqB:=F.qB;have YH:=F.pq;have N6:=F.p0;have hpB:=F.pB;clear Pg;have hm:=fg γ.ρ W l lg dp hd.at_;clear A hd;go_enter Tryz.func78,Tryz.ntmps78;go_wp2_with fail;refine hm.mono ?_;clear hm;intro e w2 hp;rcases hp.cases with ⟨nm,r,v2,aO,rfl,rfl,d2⟩|⟨m,ar,rfl,hg⟩;case inr=>have HE:=hid (show oJ l=.error m from ai ar);have HG:=hid HD.out.grown;clear hp ar;go_wp2_with fail;exact ag rfl (ru.err HE.out ⟨rfl,af HG.out hg⟩)
 have hs2:=d2.size;have iK:=hid (HA.out.grown F d2.grown);have jf:=hid ((HD.out.trans d2).later (aa w2 (.cells #[.string nm,.int .u8 0,.int .u8 0,.int .i64 0,.string ⟨#[]⟩,.string ⟨#[]⟩,.int .i64 0,.slice none 0 0] 73)));have kR:=hid (au.new w2 73 #[.string nm,.int .u8 0,.int .u8 0,.int .i64 0,.string ⟨#[]⟩,.string ⟨#[]⟩,.int .i64 0,.slice none 0 0]);have xH:=hid (aH (p:=γ.ρ.g) (aa w2 (.cells #[.string nm,.int .u8 0,.int .u8 0,.int .i64 0,.string ⟨#[]⟩,.string ⟨#[]⟩,.int .i64 0,.slice none 0 0] 73)));have oM:=hid aO;have hgx:γ.ρ.g < w2.heap.size:=by have:=d2.lt;omega
 clear hp d2 aO HA HD p0;go_upto_region 1 with fail
 generalize hW2:(w2.alloc _)=W2 at*;clear hW2;have p0:=(iK.out.grown F xH.out).ptr;have hx2:=kR.out.lt;have hb3:=aa W2 (.cells (aj [rM]) 9);have jL:=hid (jf.out.later hb3);have Fs:=hid (kR.out.later hb3);have Cc:=hid (af xH.out (aH hb3));have eB:=jf.out.lt;have hm:=bF γ.ρ _ r lg dp jL.out.at_ [rM] W2.heap.size 1 rfl (au.new W2 _ _) (by omega) (by omega);clear hb3 jf kR xH;unfold aj strOf at hm jL Fs Cc;simp only[List.map_cons,List.map_nil] at hm jL Fs Cc;rw[show rM.toArray= #[61] from rfl] at hm jL Fs Cc;go_wp2_with fail;refine hm.mono ?_;clear hm p0;intro e w4 hp;rcases hp.cases with ⟨_,r4,v4,aO,rfl,rfl,d⟩|⟨m,ar,rfl,hg⟩;case inr=>have HE:=hid (show oJ l=.error m from(ak oM.out).trans (ai (show must rM r=.error m by rw[← aD];exact ar)));have HG:=hid jL.out.grown;clear hp ar;go_wp2_with fail;exact ag rfl (ru.err HE.out ⟨rfl,af HG.out hg⟩)
 have ky:must rM r=.ok ((),r4):=by rw[← aD];exact aO
 have JF:=hid (show oJ l=(do let x ← cW;return (nm,x):Ps (ByteArray×Tr)) r4 from(ak oM.out).trans (ak ky));have jX:=hid (jL.out.trans d);have sk:=hid (d.blk Fs.out (by omega));have JG:=hid (af Cc.out d.grown);have p0:=(iK.out.grown F JG.out).ptr;have Su:=sk.out.lt;clear hp aO ky d jL Fs Cc oM;go_wp2_with fail;refine(lr γ.ρ w4 r4 lg dp jX.out.at_).mono ?_;intro e w5 hp;rcases hp.cases with ⟨t,r5,v5,aO,rfl,y,rfl,hat,d⟩|⟨m,ar,rfl,hg⟩;case inr=>have HE:=hid (JF.out.trans (ai ar));have HG:=hid jX.out.grown;clear hp ar;go_wp2_with fail;exact ag rfl (ru.err HE.out ⟨rfl,af HG.out hg⟩)
 have HE:=hid ((JF.out.trans (ak aO)).trans rfl);have QR:=d.blk sk.out (by omega);have xg:=hid ((((((((QR.cg 1 (.int .u8 y.op)).cg 2 (.int .u8 y.v.k)).cg 3 (.int .i64 y.v.n)).cg 4 (.string y.v.s)).cg 5 (.string y.name)).cg 6 (.int .i64 y.width)).cg 7 (.slice y.A y.n y.c)));have vx:=hid (((((((((jX.out.trans d).far aF (by omega:γ.W0.heap.size≤w2.heap.size) 1 (.int .u8 y.op)).far aF (by omega:γ.W0.heap.size≤w2.heap.size) 2 (.int .u8 y.v.k)).far aF (by omega:γ.W0.heap.size≤w2.heap.size) 3 (.int .i64 y.v.n)).far aF (by omega:γ.W0.heap.size≤w2.heap.size) 4 (.string y.v.s)).far aF (by omega:γ.W0.heap.size≤w2.heap.size) 5 (.string y.name)).far aF (by omega:γ.W0.heap.size≤w2.heap.size) 6 (.int .i64 y.width)).far aF (by omega:γ.W0.heap.size≤w2.heap.size) 7 (.slice y.A y.n y.c)));have Cx:=hid ((ix (ix (ix (ix (ix (ix (ix (af JG.out d.grown) (Nat.le_refl w2.heap.size) 1 (.int .u8 y.op)) (Nat.le_refl w2.heap.size) 2 (.int .u8 y.v.k)) (Nat.le_refl w2.heap.size) 3 (.int .i64 y.v.n)) (Nat.le_refl w2.heap.size) 4 (.string y.v.s)) (Nat.le_refl w2.heap.size) 5 (.string y.name)) (Nat.le_refl w2.heap.size) 6 (.int .i64 y.width)) (Nat.le_refl w2.heap.size) 7 (.slice y.A y.n y.c)));have HT5:=hid ((((((((hat.set (q:=w2.heap.size) Su 1 (.int .u8 y.op)).set (q:=w2.heap.size) Su 2 (.int .u8 y.v.k)).set (q:=w2.heap.size) Su 3 (.int .i64 y.v.n)).set (q:=w2.heap.size) Su 4 (.string y.v.s)).set (q:=w2.heap.size) Su 5 (.string y.name)).set (q:=w2.heap.size) Su 6 (.int .i64 y.width)).set (q:=w2.heap.size) Su 7 (.slice y.A y.n y.c)));obtain⟨k0,k1,k2,k3,k4,k5,k6,k7⟩:=dc QR;obtain⟨f0,f1,f2,f3,f4,f5,f6,f7⟩:=iD QR;clear hp aO QR hat d jX sk JG JF p0;simp only[List.setIfInBounds_toArray,List.set_cons_succ,List.set_cons_zero] at xg;unfold ee bl;go_upto_region 3 with fail
 clear k0 k1 k2 k3 k4 k5 k6 k7 f0 f1 f2 f3 f4 f5 f6 f7;generalize K9:(World.setCell _ _ _)=W5 at*;clear K9;have hA:=iK.out.grown F Cx.out;have tR:=hid hA;have kq:=hA.cell F;rw[hk] at kq;have KZ:=hA.sz;clear hA;go_wp2_with (first
  |(refine wpList_load_row rfl 73 (.tmp 2) rfl w2.heap.size rfl 73 _ (0,0) _ xg.out Tryz.underlying73 rfl (by rfl) ?_)
  |(at_builtin
    refine fo tR.out F rfl _ _ 31 rfl _ 104 Tryz.underlying31 Ph rfl (by decide) (nm,y) (Xj _) rfl rfl (by omega) (by omega) KZ ?_
    intro ys v' W3 ha iz eB hv
    obtain⟨A9,n9,c9,rfl⟩:=mV iz
    obtain⟨La,Lb,vr,vt⟩:=tR.out.push F vx.out (x:=(nm,t)) (y:=(nm,y)) ⟨rfl,HT5.out.more (by omega)⟩ VP VO.out ha (aa _ _) eB iz (by simpa using hv)
    rw[hk] at La Lb vr vt
    have Lc:=hid vr
    have Ld:=hid vt
    clear vr vt ha iz eB hv))
 go_end0;exact ru.ok HE.out ⟨_,Lc.out⟩ Ld.out
def X9:Array Value:=(lx {}).toArray
theorem tT:(Tryz.prog.info? 29).map (·.size)=some 8:=by kernel_rfl
theorem SZ (m:tP):(lx m).toArray.all (·.oneCell')=true:=by simp[lx,eP,Value.oneCell']
structure GQ (ρ:br) (w:World) (lg dp:Bool) (wr:World) (l:bH) (m:tP) (d:Qu):Prop where
 did:bJ ρ w wr l (lg || d.long) (dp || dU d.exprs)
 blk:au wr (w.heap.size+1+1) 29 (lx m).toArray
 res:au wr (w.heap.size+1) 29 X9
 tK:au wr w.heap.size 58 #[ρ.ptr]
 at_:d.at_ wr (eD (w.heap.size+3) wr) m
section
variable {ρ:br} {w wr w2:World} {lg dp:Bool} {l l2:bH} {m:tP} {d:Qu}
theorem GQ.later (A:GQ ρ w lg dp wr l m d)(hb:Below wr.heap.size wr w2):GQ ρ w lg dp w2 l m d:=⟨A.did.later hb,A.blk.later hb,A.res.later hb,A.tK.later hb,Qu.at_.keep (cP hb) A.at_⟩
theorem GQ.go (A:GQ ρ w lg dp wr l m d)(hg:ρ.g < w.heap.size)(D:bJ ρ wr w2 l2 (lg || d.long) (dp || dU d.exprs)):GQ ρ w lg dp w2 l2 m d:=
 ⟨A.did.trans D,D.blk A.blk (by omega),D.blk A.res (by omega),D.blk A.tK (by omega),Qu.at_.keep (cK D.grown (by omega)) A.at_⟩
theorem GQ.set {lg2 dp2:Bool} {m':tP} {d':Qu}(A:GQ ρ w lg dp wr l m d)(hg:ρ.g < w.heap.size)(D:bJ ρ wr w2 l2 lg2 dp2)(i:Nat)(u:Value)(hb:(lx m').toArray=(lx m).toArray.setIfInBounds i u)(hl:lg2=(lg || d'.long))(hd:dp2=(dp || dU d'.exprs))(hat:d.at_ w2 (eD (w.heap.size+3) w2) m→Qu.at_ w2 (eD (w.heap.size+3) w2) d' m'):GQ ρ w lg dp (w2.setCell ⟨w.heap.size+1+1,i,none⟩ u) l2 m' d':=by
 refine⟨?_,?_,(D.blk A.res (by omega)).far (p:=⟨w.heap.size+1+1,i,none⟩) (by simp) u,(D.blk A.tK (by omega)).far (p:=⟨w.heap.size+1+1,i,none⟩) (by simp;omega) u,Qu.at_.keep (iO (Nat.lt_succ_self _) i u) (hat (Qu.at_.keep (cK D.grown (by omega)) A.at_))⟩
 ·rw[← hl,← hd];exact(A.did.trans D).far hg (by omega) i u
 ·rw[hb];exact(D.blk A.blk (by omega)).cg i u
theorem GQ.ptr (A:GQ ρ w lg dp wr l m d):wr.cell? ⟨w.heap.size,0,none⟩=some ρ.ptr:=A.tK.cell 0
def QS (ρ:br)(w:World)(m:tP)(d:Qu)(k:Nat):uo:=⟨ρ,w,29,w.heap.size+1+1,k,w.heap.size,w.heap.size+3,(lx m).toArray,[(w.heap.size+1,29,X9)],fun W S=>d.at_ W S m⟩
theorem Fx (hg:ρ.g < w.heap.size)(k:Nat)(hk:k < 8):(QS ρ w m d k).Fit:=
 ⟨hg,by show w.heap.size≤w.heap.size+1+1;omega,hg,by show w.heap.size≠w.heap.size+1+1;omega,Nat.lt_succ_self _,by show w.heap.size < w.heap.size+3;omega,fun x hx=>by simp[QS] at hx;subst hx;exact⟨Nat.le_succ _,by show w.heap.size+1≠w.heap.size+1+1;omega,by show w.heap.size+1 < w.heap.size+3;omega⟩,by show k < 8;exact hk,fun w w' S S' h hk=>Qu.at_.keep hk h⟩
theorem GQ.start (A:GQ ρ w lg dp wr l m d) {α:Type}(E:El α)(T:TypeId)(k:Nat)(hk:(lx m).toArray.setIfInBounds k (.slice none 0 0)=(lx m).toArray):(QS ρ w m d k).acc E T [] wr:=
 ⟨.slice none 0 0,by show au wr _ _ ((lx m).toArray.setIfInBounds k _);rw[hk];exact A.blk,gY.nil E T wr _,Qu.at_.keep (fun b hb=>⟨fun _=>rfl,hb.1,hb.2,by simp[Value.ownBlock]⟩) A.at_,by have:=A.blk.lt;show w.heap.size+3≤_;omega,A.tK,fun x hx=>by simp[QS] at hx;subst hx;exact A.res⟩
theorem GQ.list {α:Type} {E:El α} {T:TypeId} {k:Nat} {xs:List α} {m':Sl→tP} {d':Qu} {lg2 dp2:Bool}(hs:(QS ρ w m d k).acc E T xs w2)(D:bJ ρ w w2 l2 lg2 dp2)(hm:∀sl,(lx (m' sl)).toArray=(lx m).toArray.setIfInBounds k (eP sl))(hl:lg2=(lg || d'.long))(hd:dp2=(dp || dU d'.exprs))(hat:∀sl,E.sl w2 (eD (w.heap.size+3) w2) sl xs→d.at_ w2 (eD (w.heap.size+3) w2) m→d'.at_ w2 (eD (w.heap.size+3) w2) (m' sl)):∃sl,GQ ρ w lg dp w2 l2 (m' sl) d':=by
 obtain⟨v,A⟩:=hs;obtain⟨sl,hv,_,fE⟩:=A.row.sl (B':=w.heap.size+3) (Nat.le_refl _);refine⟨sl,?_,?_,A.SQ (w.heap.size+1,29,X9) (by simp[QS]),A.tK,hat sl fE (Qu.at_.keep (sq (Nat.le_refl _)) A.kp)⟩
 ·rw[← hl,← hd];exact D
 ·rw[hm,← hv];exact A.blk
end
def Ta (ρ:br)(w:World)(lg dp:Bool)(l:bH)(e:Ending)(w':World):Prop:=
 GP ρ w cH l (fun d r v w'=>∃m:tP,v=KP m∧d.at_ w' (eD w.heap.size w') m∧bJ ρ w w' r (lg || d.long) (dp || dU d.exprs)) e w'
theorem GQ.post {ρ:br} {w wr:World} {lg dp:Bool} {l l0:bH} {m:tP} {d:Qu}(A:GQ ρ w lg dp wr l m d)(hg:ρ.g < w.heap.size)(hp:cH l0=.ok (d,l)):Ta ρ w lg dp l0 (.returned (KP m)) (wr.setRow (w.heap.size+1) (lx m).toArray):=
 GP.ok hp ⟨m,rfl,Qu.at_.keep (et (by omega)) (Qu.at_.keep (iP wr (show w.heap.size+1 < w.heap.size+3 by omega) _) A.at_),A.did.own hg (dH wr _ _) (fun G e=>by injection e with e;omega)⟩
theorem Xo {l:bH}(h:av eI l=true):jR l=.ok ([],l.tail):=by unfold jR;rw[dK];simp only[h,if_true];rfl
theorem Xp {l:bH}(h:av eI l=false):jR l=dx gy l:=by unfold jR;rw[dK];simp only[h];rfl
theorem Tb {l:bH}(h:av jI l=false):iT l=.ok ([],l):=by unfold iT;rw[dK];simp only[h];rfl
theorem Pl {l:bH}(h:av jI l=true):iT l=(do must nx;dx cW:Ps (List Tr)) l.tail:=by unfold iT;rw[dK];simp only[h,if_true]
theorem Pm {l:bH}(h:av jJ l=false):fU l=.ok ([],l):=by unfold fU;rw[dK];simp only[h];rfl
theorem Le {l:bH}(h:av jJ l=true):fU l=(do must nx;dx fN:Ps (List (Tr×Bool))) l.tail:=by unfold fU;rw[dK];simp only[h,if_true]
theorem Tc {l:bH}(h:av kN l=false):jo l=.ok ([],l):=by unfold jo;rw[dK];simp only[h];rfl
theorem Pn {l:bH}(h:av kN l=true):jo l=(do let n ← cY;return [n]:Ps (List Int)) l.tail:=by unfold jo;rw[dK];simp only[h,if_true]
end Go.Proofs.YtcneefmaghoejaaGreatDoor
