/- Parts of the proof. -/
import Derived.Test.YtcneefmaghoejaaGreatDoorC35
import Derived.Test.YtcneefmaghoejaaGreatDoorC36
namespace Go.Proofs.YtcneefmaghoejaaGreatDoor
open Go.Lib (hid)
open Go.ChangeShapes Go.WideShapes Go.ChangeAt Go.RowKit
set_option linter.unusedVariables false
set_option linter.unusedSimpArgs false
theorem jA {P:Program} {ops:Array Oper} {rest:List Oper} {o:Oper} {a:Act} {w:World} {Q:Exit→Act→World→Prop}(hg:o.guard=none)(t:TypeId)(parts:Array (Nat×Operand))(ho:o.op=.build t parts) {cs:Array Value}
  (hv:P.built t (parts.map fun(i,x)=>(i,a.eval x)).toList=some cs) (h:wpList P ops Q rest (a.put o.dst (.agg cs)) w):wpList P ops Q (o::rest) a w:=
 wpList_build hg t parts ho (by rw[hv];rfl) (by rw[hv];exact h)
theorem Ux (qy:tP):Tryz.prog.built 35 [(0,.int .u8 8),(7,KP qy)]=some (cx { kind:=8,query:=qy }).toArray:=by kernel_rfl
set_option maxHeartbeats 4000000
set_option maxRecDepth 100000
theorem LB (ρ:br)(w:World)(t:Wd)(r:bH)(big:Bool)(h:ρ.at w (.good (t::r)) big)(hk:t.k=1)(hs:¬t.s=bt)(hc:(aW.good (t::r)).one cF=ea):
  Calls Tryz.prog 22 #[ρ.ptr] w (kr ρ w big aB (.good (t::r))):=by
 have aF:=h.jt;obtain⟨tk,pl,bd,hpl,hlt,hsm,kU,bQ,hg,mM,mA,hp⟩:=h.iB;obtain⟨r',gO⟩:=hg (t::r) rfl;injection gO with nk _;have hb:=ah.then (aa w fC) (aa _ fC)
 have h0:=h.later hb;have yC:=hp.later hb;have pD:=(au.new w 35 eV).alloc fC;have my:=au.new (w.alloc fC) 35 eV;rw[World.size_alloc] at my;have HL:=hid my;have HQ:=hid pD;have HC:=hid hc;have HH:=hid h;have HP:=hid yC;have lF:(aW.good (t::r)).head (⟨#[115,101,108,101,99,116]⟩:ByteArray).data.toList=false:=by have e:(aW.good (t::r)).head (⟨#[115,101,108,101,99,116]⟩:ByteArray).data.toList=((t.k==1 || t.k==4)&& t.s==bt):=rfl;rw[e,show(t.s==bt)=false from by simpa using hs,Bool.and_false]
 have sJ:=hid lF;clear my pD hc h hp yC hg bQ kU lF hpl;rw[show Obj.cells eV 35=fC from rfl] at HQ HL;unfold fC at*;go_enter Tryz.func22,Tryz.ntmps22;go_wp2_with fail;refine(fW ρ _ _ big h0 ⟨#[115,101,108,101,99,116]⟩).mono ?_;rintro e w1 ⟨rfl,b1⟩;rw[sJ.out];have oh:=HP.out.later b1;obtain⟨c0,c1,c2,d0,d1,d2,d3⟩:=oh;rw[← nk,hk] at d0;have hb1:=(ah.then hb b1).drew;have vu:=hid ((HL.out.later b1).drew);have jd:=hid ((HQ.out.later b1).drew);clear HL HQ HP h0 b1 hb;unfold br.ptr at*;go_wp2_with fail;go_region;clear c0 c1 c2 d0 d1 d2 d3;generalize w1.drew=W1 at*;go_wp2_with fail;have bm:=aa W1 (.cells (aj cF) 9);have gi:w.heap.size+1 < W1.heap.size:=vu.out.lt;refine(gV ρ _ _ big (HH.out.later (ah.then hb1 bm)) cF W1.heap.size 6 rfl (au.new W1 _ _) (by omega) (by omega)).mono ?_;rintro e w2 ⟨rfl,d2⟩;rw[HC.out];have BG:=(dV.aL HH.out (ah.then hb1 bm)).trans d2;have hA:jM ρ w big aB (.good (t::r)) fV w.heap.size (w.heap.size+1) w2 (ae (dC cF) (.good (t::r))) {} {}:=
  ⟨by simpa [St.long,Qu.long] using BG,(vu.out.alloc (.cells (aj cF) 9)).grown d2.grown (by simp;omega),(jd.out.alloc (.cells (aj cF) 9)).grown d2.grown (by simp;omega),St.fq _ _,(by have hf:=qg HC.out (by decide);rw[hf.2];exact PT hk hf.1),Nat.le_refl _,Nat.lt_succ_self _⟩
 have HA:=hid hA;clear hA vu jd d2 BG hb1 bm gi HH nk;generalize ae (dC cF) (.good (t::r))=fF at*;unfold strOf ea;go_wp2_with fail;refine(Ji ρ _ fF _ HA.out.did.at_).mono ?_;rintro e w3 ⟨d,y,rfl,hat,dd,iF⟩;have hq:=dd.blk HA.out.res (by omega);have HQ:=hid hq;have HD:=hid (HA.out.did.trans dd);have HS:=hid hat;have HT:=hid HA.out.todo;have TG:w.heap.size+1≤w2.heap.size:=Nat.le_of_lt HA.out.blk.lt;have HG:=hid iF;clear hq dd hat iF HA;go_wp2_with (first
  |(refine wpList_store_row rfl 35 (.tmp 2) (.tmp 30) rfl w.heap.size (cx y).toArray rfl rfl 35 eV HQ.out (by rw[aZ];exact aS) rfl (ep _) ?_
    have HR:=hid (HQ.out.row (cx y).toArray)
    have HF:=hid (HD.out.row aF (Nat.le_refl _) (cx y).toArray)
    have AJ:=hid (St.at_.keep (et (show w.heap.size≤w.heap.size+1 by omega)) (St.at_.keep (iP w3 (show w.heap.size < w.heap.size+1 by omega) (cx y).toArray) (St.at_.keep (et TG) HS.out)))))
 refine bodyPost_ret (v:=np y) (results_cell_row Tryz.results22 _ _ w.heap.size 35 (cx y).toArray (0,0) _ rfl HR.out Tryz.underlying35 rfl (by rw[aZ];exact aS)) rfl ⟨d,y,rfl,AJ.out,?_,HT.out.gives _ HG.out⟩;rw[HT.out.step];have:=HF.out;rw[show((big || St.long {})|| d.long)=(big || d.long) by rw[show St.long {}=false from rfl,Bool.or_false]] at this;exact this
theorem Uy (ρ:br)(w:World)(t:Wd)(r:bH)(big:Bool)(h:ρ.at w (.good (t::r)) big)(hk:t.k=1)(hs:¬t.s=bt)(hc:(aW.good (t::r)).one cF=[]):
  Calls Tryz.prog 22 #[ρ.ptr] w (kr ρ w big aB (.good (t::r))):=by
 have aF:=h.jt;obtain⟨tk,pl,bd,hpl,hlt,hsm,kU,bQ,hg,mM,mA,hp⟩:=h.iB;obtain⟨r',gO⟩:=hg (t::r) rfl;injection gO with nk _;have hb:=ah.then (aa w fC) (aa _ fC)
 have h0:=h.later hb;have yC:=hp.later hb;have pD:=(au.new w 35 eV).alloc fC;have my:=au.new (w.alloc fC) 35 eV;rw[World.size_alloc] at my;have HL:=hid my;have HQ:=hid pD;have HC:=hid hc;have HH:=hid h;have HP:=hid yC;have lF:(aW.good (t::r)).head (⟨#[115,101,108,101,99,116]⟩:ByteArray).data.toList=false:=by have e:(aW.good (t::r)).head (⟨#[115,101,108,101,99,116]⟩:ByteArray).data.toList=((t.k==1 || t.k==4)&& t.s==bt):=rfl;rw[e,show(t.s==bt)=false from by simpa using hs,Bool.and_false]
 have sJ:=hid lF;clear my pD hc h hp yC hg bQ kU lF hpl;rw[show Obj.cells eV 35=fC from rfl] at HQ HL;unfold fC at*;go_enter Tryz.func22,Tryz.ntmps22;go_wp2_with fail;refine(fW ρ _ _ big h0 ⟨#[115,101,108,101,99,116]⟩).mono ?_;rintro e w1 ⟨rfl,b1⟩;rw[sJ.out];have oh:=HP.out.later b1;obtain⟨c0,c1,c2,d0,d1,d2,d3⟩:=oh;rw[← nk,hk] at d0;have hb1:=(ah.then hb b1).drew;have vu:=hid ((HL.out.later b1).drew);have jd:=hid ((HQ.out.later b1).drew);clear HL HQ HP h0 b1 hb;unfold br.ptr at*;go_wp2_with fail;go_region;clear c0 c1 c2 d0 d1 d2 d3;generalize w1.drew=W1 at*;go_wp2_with fail;have bm:=aa W1 (.cells (aj cF) 9);have gi:w.heap.size+1 < W1.heap.size:=vu.out.lt;refine(gV ρ _ _ big (HH.out.later (ah.then hb1 bm)) cF W1.heap.size 6 rfl (au.new W1 _ _) (by omega) (by omega)).mono ?_;rintro e w2 ⟨rfl,d2⟩;rw[HC.out];have BG:=(dV.aL HH.out (ah.then hb1 bm)).trans d2;have hA:jM ρ w big aB (.good (t::r)) (pure {}) w.heap.size (w.heap.size+1) w2 (ae (dC cF) (.good (t::r))) {} {}:=
  ⟨by simpa [St.long,Qu.long] using BG,(vu.out.alloc (.cells (aj cF) 9)).grown d2.grown (by simp;omega),(jd.out.alloc (.cells (aj cF) 9)).grown d2.grown (by simp;omega),St.fq _ _,(by have hf:=Jf HC.out (by decide);rw[hf.1];exact Yc hk hs HC.out _),Nat.le_refl _,Nat.lt_succ_self _⟩
 have HA:=hid hA;clear hA vu jd d2 BG hb1 bm gi HH nk;generalize ae (dC cF) (.good (t::r))=fF at*;unfold strOf;go_upto_region 59 with fail
 refine wp_region_lit ?_;refine wpList_load_row rfl 35 (.tmp 3) rfl (w.heap.size+1) rfl 35 (cx {}).toArray (0,0) _ HA.out.blk Tryz.underlying35 rfl (by rw[aZ];exact aS) ?_;refine wpList_store_row rfl 35 (.tmp 2) (.tmp 164) rfl w.heap.size (cx {}).toArray rfl rfl 35 eV HA.out.res (by rw[aZ];exact aS) rfl (ep _) ?_;refine wpList_nil ?_;simp only[Act.put,List.setIfInBounds_toArray,List.set_cons_succ,List.set_cons_zero];have HR:=HA.out.res.row (cx {}).toArray;have gf:=HA.out.post aF;have jy:=hid HR;have py:=hid gf;clear HR gf HA;generalize w2.setRow w.heap.size _=WF at*;go_wp2_with fail;refine bodyPost_ret (v:=np {}) ?_ rfl py.out;exact results_cell_row Tryz.results22 _ _ w.heap.size 35 (cx {}).toArray (0,0) _ rfl jy.out Tryz.underlying35 rfl (by rw[aZ];exact aS)
theorem LC (ρ:br)(w:World)(t:Wd)(r:bH)(big:Bool)(h:ρ.at w (.good (t::r)) big)(hk:¬t.k=1)(hs:¬(t.k=4∧t.s=bt)):
  Calls Tryz.prog 22 #[ρ.ptr] w (kr ρ w big aB (.good (t::r))):=by
 have aF:=h.jt;obtain⟨tk,pl,bd,hpl,hlt,hsm,kU,bQ,hg,mM,mA,hp⟩:=h.iB;obtain⟨r',gO⟩:=hg (t::r) rfl;injection gO with nk _;have hb:=ah.then (aa w fC) (aa _ fC)
 have h0:=h.later hb;have yC:=hp.later hb;have pD:=(au.new w 35 eV).alloc fC;have my:=au.new (w.alloc fC) 35 eV;rw[World.size_alloc] at my;have HL:=hid my;have HQ:=hid pD;have HH:=hid h;have HP:=hid yC;have lF:(aW.good (t::r)).head (⟨#[115,101,108,101,99,116]⟩:ByteArray).data.toList=false:=by
  have e:(aW.good (t::r)).head (⟨#[115,101,108,101,99,116]⟩:ByteArray).data.toList=((t.k==1 || t.k==4)&& t.s==bt):=rfl;rw[e];by_cases h4:t.k=4
  ·rw[show(t.s==bt)=false from by simpa using fun hh=>hs ⟨h4,hh⟩,Bool.and_false]
  ·simp[hk,h4]
 have sJ:=hid lF;clear my pD h hp yC hg bQ kU lF hpl;rw[show Obj.cells eV 35=fC from rfl] at HQ HL;unfold fC at*;go_enter Tryz.func22,Tryz.ntmps22;go_wp2_with fail;refine(fW ρ _ _ big h0 ⟨#[115,101,108,101,99,116]⟩).mono ?_;rintro e w1 ⟨rfl,b1⟩;rw[sJ.out];have oh:=HP.out.later b1;obtain⟨c0,c1,c2,d0,d1,d2,d3⟩:=oh;rw[← nk] at d0;clear nk;have hb1:=(ah.then hb b1).drew;have vu:=hid ((HL.out.later b1).drew);have jd:=hid ((HQ.out.later b1).drew);clear HL HQ HP h0 b1 hb;unfold br.ptr at*;go_wp2_with fail;go_region;clear c0 c1 c2 d0 d1 d2 d3;generalize w1.drew=W1 at*;have gi:w.heap.size+1 < W1.heap.size:=vu.out.lt;go_wp2_with fail;refine(jT ρ _ _ big (HH.out.later hb1)).mono ?_;rintro e w2 ⟨rfl,d2⟩;have BG:=(dV.aL HH.out hb1).trans d2;have hA:jM ρ w big aB (.good (t::r)) (pure {}) w.heap.size (w.heap.size+1) w2 (.bad (aW.good (t::r)).left) {} {}:=
  ⟨by simpa [St.long,Qu.long] using BG,vu.out.grown d2.grown (by simp;omega),jd.out.grown d2.grown (by simp;omega),St.fq _ _,XZ hk _,Nat.le_refl _,Nat.lt_succ_self _⟩
 have HA:=hid hA;clear hA vu jd d2 BG hb1 gi HH;generalize aW.bad (aW.good (t::r)).left=fF at*;go_upto_region 6 with fail
 refine wp_region_lit ?_;refine wpList_load_row rfl 35 (.tmp 3) rfl (w.heap.size+1) rfl 35 (cx {}).toArray (0,0) _ HA.out.blk Tryz.underlying35 rfl (by rw[aZ];exact aS) ?_;refine wpList_store_row rfl 35 (.tmp 2) (.tmp 23) rfl w.heap.size (cx {}).toArray rfl rfl 35 eV HA.out.res (by rw[aZ];exact aS) rfl (ep _) ?_;refine wpList_nil ?_;simp only[Act.put,List.setIfInBounds_toArray,List.set_cons_succ,List.set_cons_zero];have HR:=HA.out.res.row (cx {}).toArray;have gf:=HA.out.post aF;have jy:=hid HR;have py:=hid gf;clear HR gf HA;generalize w2.setRow w.heap.size _=WF at*;go_wp2_with fail;refine bodyPost_ret (v:=np {}) ?_ rfl py.out;exact results_cell_row Tryz.results22 _ _ w.heap.size 35 (cx {}).toArray (0,0) _ rfl jy.out Tryz.underlying35 rfl (by rw[aZ];exact aS)
theorem LD (ρ:br)(w:World)(t:Wd)(r:bH)(big:Bool)(h:ρ.at w (.good (t::r)) big)(hk:t.k=1)(hs:t.s=bt):
  Calls Tryz.prog 22 #[ρ.ptr] w (kr ρ w big aB (.good (t::r))):=by
 have aF:=h.jt;obtain⟨tk,pl,bd,hpl,hlt,hsm,kU,bQ,hg,mM,mA,hp⟩:=h.iB;obtain⟨r',gO⟩:=hg (t::r) rfl;injection gO with nk htr;have hb:=ah.then (aa w fC) (aa _ fC)
 have h0:=h.later hb;have yC:=hp.later hb;have pD:=(au.new w 35 eV).alloc fC;have my:=au.new (w.alloc fC) 35 eV;rw[World.size_alloc] at my;have HL:=hid my;have HQ:=hid pD;have HH:=hid h;have HP:=hid yC;have lF:(aW.good (t::r)).head (⟨#[115,101,108,101,99,116]⟩:ByteArray).data.toList=true:=by have e:(aW.good (t::r)).head (⟨#[115,101,108,101,99,116]⟩:ByteArray).data.toList=((t.k==1 || t.k==4)&& t.s==bt):=rfl;simp[e,hk,hs]
 have sJ:=hid lF;clear my pD h hp yC hg bQ kU lF hpl;rw[show Obj.cells eV 35=fC from rfl] at HQ HL;unfold fC at*;clear htr;go_enter Tryz.func22,Tryz.ntmps22;go_wp2_with fail;refine(fW ρ _ _ big h0 ⟨#[115,101,108,101,99,116]⟩).mono ?_;rintro e w1 ⟨rfl,b1⟩;rw[sJ.out];have hb1:=ah.then hb b1
 have jd:=hid (HQ.out.later b1);clear HL HQ HP h0 b1 hb nk;go_wp2_with fail;refine(BA ρ _ _ big (HH.out.later hb1)).mono ?_;rintro e w3 ⟨qd,qy,rfl,hqd,d3,Y1⟩;have hq:=d3.blk jd.out (by omega);have HQ:=hid hq;have HD:=hid ((dV.aL HH.out hb1).trans d3);have HS:=hid hqd;have HG:=hid Y1;have TG:w.heap.size+1≤w1.heap.size:=jd.out.lt;clear hq d3 hqd Y1 jd HH;go_wp2_with (first
  |(refine jA rfl 35 _ rfl (cs:=(cx { kind:=8,query:=qy }).toArray) ?hv ?_;rotate_left)
  |(refine wpList_store_row rfl 35 (.tmp 2) (.tmp 8) rfl w.heap.size (cx { kind:=8,query:=qy }).toArray rfl rfl 35 eV HQ.out (by rw[aZ];exact aS) rfl (ep _) ?_
    have HR:=hid (HQ.out.row (cx { kind:=8,query:=qy }).toArray)
    have HF:=hid (HD.out.row aF (Nat.le_refl _) (cx { kind:=8,query:=qy }).toArray)
    have AJ:=hid (Qu.at_.keep (et (show w.heap.size≤w.heap.size+1 by omega)) (Qu.at_.keep (iP w3 (show w.heap.size < w.heap.size+1 by omega) (cx { kind:=8,query:=qy }).toArray) (Qu.at_.keep (et TG) HS.out)))))
 case hv=>exact Ux qy
 have HT:=(PS (r:=r) hk hs).go (p:=cH) (f:=fun query=>(pure { kind:=8,query:=query }:Ps St)) HG.out;refine bodyPost_ret (v:=np { kind:=8,query:=qy }) (results_cell_row Tryz.results22 _ _ w.heap.size 35 (cx { kind:=8,query:=qy }).toArray (0,0) _ rfl HR.out Tryz.underlying35 rfl (by rw[aZ];exact aS)) rfl ⟨{ kind:=8,query:=qd },{ kind:=8,query:=qy },rfl,{ St.fq _ _ with kind:=rfl,query:=AJ.out },?_,HT.done.2⟩;rw[HT.done.1];have:=HF.out;rw[show(big || qd.long)=(big || St.long { kind:=8,query:=qd }) by simp[St.long]] at this;exact this
theorem oz (ρ:br)(w:World)(t:Wd)(r:bH)(big:Bool)(h:ρ.at w (.good (t::r)) big)(LF:¬(t.k=4∧t.s=bt)):
  Calls Tryz.prog 22 #[ρ.ptr] w (kr ρ w big aB (.good (t::r))):=by
 by_cases hk:t.k=1
 ·by_cases hs:t.s=bt
  ·exact LD ρ w t r big h hk hs
  rcases jC cF (.good (t::r))with ⟨s,hm,h1,_⟩|⟨h1,h2,_⟩
  ·simp only[List.mem_cons,List.not_mem_nil,or_false] at hm;rcases hm with rfl | rfl | rfl | rfl | rfl | rfl
   ·exact LB ρ w t r big h hk hs h1
   ·exact Uv ρ w t r big h hk hs h1
   ·exact Lz ρ w t r big h hk hs h1
   ·exact LA ρ w t r big h hk hs h1
   ·exact Lx ρ w t r big h hk hs h1
   ·exact Uw ρ w t r big h hk hs h1
  ·exact Uy ρ w t r big h hk hs h1
 ·exact LC ρ w t r big h hk LF
theorem Uz (s:ByteArray)(w:World)(hs:s.size≤4294967280) {p x:Nat}(h:mh s.data.toList=.error (p,x)):Calls Tryz.prog 11 #[.string s] w (fe s w):=by
 have hx:=DN h;have HP:=hid (DD h);have pD:=au.new w 35 eV;rw[show Obj.cells eV 35=fC from rfl] at pD;have HQ:=hid pD;clear pD;unfold fC at*;go_enter Tryz.func11,Tryz.ntmps11;go_wp2_with fail;refine(TZ h hs).mono ?_;rintro e w1 ⟨rfl,b1⟩;have jd:=hid (HQ.out.later b1);have HB:=hid (ah.then (aa w _) b1);clear HQ b1 h;rcases hx with rfl | rfl
 ·go_wp2_with (first
   |(refine jA rfl 35 _ rfl (cs:=eV) ?hv ?_;rotate_left)
   |(refine wpList_store_row rfl 35 (.tmp 2) (.tmp 20) rfl w.heap.size eV rfl rfl 35 eV jd.out (by rw[show eV.size=28 from rfl];exact aS) rfl (ep {}) ?_
     rw[ln jd.out]))
  case hv=>exact tZ
  refine bodyPost_ret (v:=.tuple #[np {},.int .i64 p,.int .i64 2]) (ju Tryz.results11 _ _ w.heap.size 35 eV (0,0) _ (.int .i64 p) (.int .i64 2) rfl jd.out Tryz.underlying35 rfl (by rw[show Array.size eV=28 from rfl];exact aS) rfl rfl) rfl ?_;unfold fe;rw[HP.out];exact⟨rfl,HB.out⟩
 ·go_wp2_with (first
   |(refine jA rfl 35 _ rfl (cs:=eV) ?hv ?_;rotate_left)
   |(refine wpList_store_row rfl 35 (.tmp 2) (.tmp 20) rfl w.heap.size eV rfl rfl 35 eV jd.out (by rw[show eV.size=28 from rfl];exact aS) rfl (ep {}) ?_
     rw[ln jd.out]))
  case hv=>exact tZ
  refine bodyPost_ret (v:=.tuple #[np {},.int .i64 p,.int .i64 30]) (ju Tryz.results11 _ _ w.heap.size 35 eV (0,0) _ (.int .i64 p) (.int .i64 30) rfl jd.out Tryz.underlying35 rfl (by rw[show Array.size eV=28 from rfl];exact aS) rfl rfl) rfl ?_;unfold fe;rw[HP.out];exact⟨rfl,HB.out⟩
theorem UA (s:ByteArray)(w:World)(hs:s.size≤4294967280) {l:List Tok}(hl:mh s.data.toList=.ok l) {n:Nat}(hb:ae (may jQ) (ae aB (.good (l.map (·.w))))=.bad n):Calls Tryz.prog 11 #[.string s] w (fe s w):=by
 obtain⟨t0,r0,hl0⟩:=tX hl;obtain⟨_,hlen,hwd⟩:=qR hl;have hne:l≠ []:=by rw[hl0];simp
 have C7:l.map (·.w)=t0.w::r0.map (·.w):=by rw[hl0];rfl
 have LF:=sF (hwd t0 (by rw[hl0];simp));have Q6:=hid (pY hl);have Q7:=hid hwd;have C8:=hid C7;clear hl0 hwd C7;have pD:=au.new w 35 eV;rw[show Obj.cells eV 35=fC from rfl] at pD;have HQ:=hid pD;clear pD;unfold fC at*;go_enter Tryz.func11,Tryz.ntmps11;go_wp2_with fail;refine(FD hl hs).mono ?_;rintro e w1 ⟨A,c,rfl,ht,b1⟩;obtain⟨gl,rfl,hgb,sf,hc⟩:=ht.cells hne;have jd:=hid (HQ.out.later b1);have HB:=hid (ah.then (aa w _) b1);have hR:=br.start (c:=c) sf hc Q6.out hlen Q7.out;rw[C8.out] at hR;have HR:=hid hR;have vO:w.heap.size < w1.heap.size:=jd.out.lt;clear ht hc b1 HQ hR hgb hne;go_wp2_with fail;refine(oz ⟨w1.heap.size,gl,c,l⟩ _ t0.w (r0.map (·.w)) false HR.out LF).mono ?_;rintro e w2 ⟨d,y,rfl,hat,dd,iF⟩;rw[← C8.out] at dd iF;have HW:=hid (Bt iF);rw[show(w1.alloc _).heap.size=w1.heap.size+1 by simp] at hat;have eB:w1.heap.size <(w1.alloc (.cells #[.slice (some ⟨gl,0,none⟩) l.length c,.int .i64 0,.int .i64 (-1),.bool false] 65)).heap.size:=by simp
 have C9:=dd.blk (jd.out.alloc _) (by show w.heap.size≠w1.heap.size;omega);have hs2:w1.heap.size+1≤w2.heap.size:=by have:=dd.size;simpa using this
 have jL:=hid ((dd.later (aa w2 fC)).row eB (by rw[show(w1.alloc _).heap.size=w1.heap.size+1 by simp];exact hs2) (cx y).toArray);have UB:=hid ((au.new w2 35 eV).row (cx y).toArray);have fy:=hid ((C9.alloc fC).ia (q:=w2.heap.size) (by omega) (cx y).toArray);have xL:=hid (St.at_.keep (sI w2 fC (cx y).toArray) hat);have HS3:=hid (show w2.heap.size <((w2.alloc fC).setRow w2.heap.size (cx y).toArray).heap.size by rw[size_setRow];simp);have zh:=hid (show Below w.heap.size w (w1.alloc (.cells #[.slice (some ⟨gl,0,none⟩) l.length c,.int .i64 0,.int .i64 (-1),.bool false] 65))from ah.then HB.out (aa w1 _));rw[Bool.false_or] at jL;clear dd hat C9 jd HR HB iF;rw[show(Obj.cells eV 35)=fC from rfl] at UB;unfold fC at*;go_wp2_with (first
  |(refine wpList_store_row rfl 35 (.tmp 9) (.tmp 27) rfl w2.heap.size (cx y).toArray rfl rfl 35 eV (au.new w2 35 eV) (by rw[aZ];exact aS) rfl (ep _) ?_))
 generalize ((w2.alloc _).setRow _ _)=W3 at*;refine(dL ⟨w1.heap.size,gl,c,l⟩ _ _ _ jL.out.at_ ⟨#[59]⟩).mono ?_;rintro e w4 ⟨rfl,d4⟩;rw[show(⟨#[59]⟩:ByteArray).data.toList=jQ from rfl,hb] at d4;have jX:=hid (jL.out.trans d4);have mE:=hid (d4.blk fy.out (by show w.heap.size≠w1.heap.size;omega));have HY4:=hid (d4.blk UB.out (by show w2.heap.size≠w1.heap.size;omega));have Cn:=hid (St.at_.keep (cK d4.grown (show w1.heap.size < w1.heap.size+1 by omega)) xL.out);clear d4 jL fy UB xL;have hE:ae nc (.good (l.map (·.w)))=.bad n:=by rw[HW.out.1,hb];rfl
 have VN:=jX.out.at_.left;obtain⟨tb,Ye,_⟩:=jX.out.at_.next;have Yf:=jX.out.at_.facts.2.2.1;have hk5:=(jX.out.at_.cell _ tb Ye).2.2.2;simp only[br.n,aW.left,br.bad] at VN Ye Yf hk5;have HE:=hid (show fO s.data.toList=.error (tb.p,31) by rw[tY hl (yw hE),Ye];rfl);have hkb:l.length - n < l.length:=by omega
 rw[show((l.length:Int) - (n:Int))=((l.length - n:Nat):Int) by omega] at Yf;have XX:=hid (zh.out.trans (bD jX.out.grown zh.out.size (by show w.heap.size≤w1.heap.size;omega)));have hl7:w1.heap.size < w4.heap.size:=ay Yf;have hl8:gl < w4.heap.size:=by omega
 clear Ye hE hb hl HW VN;generalize l.length - n=kb at*;have x2:=fun q:Ext w4.heap.size w4=>(q.h.cell (p:=⟨w1.heap.size,2,none⟩) hl7).trans Yf
 have x3:=fun q:Ext w4.heap.size w4=>(q.h.cell (p:=⟨gl,kb*4+3,none⟩) hl8).trans hk5
 have U4:(kb:Int)< l.length:=by omega
 have qI:decide ((kb:Int)< 0)=false:=by simp
 have EH:decide ((kb:Int)≥0)=true:=by simp
 go_upto_region 10 with fail
 refine fY 10 w4.heap.size w4 (Below.refl _ _) (by kernel_rfl) (by kernel_rfl) (by kernel_rfl) (by kernel_rfl) ?_;simp only[List.append,List.take_succ_cons,List.take_zero,List.drop_succ_cons,List.drop_zero];refine BigFrame.wpQuiet_want (by rfl) (fun K hK=>rb 35 rfl tZ (hK _ ?_));simp only[Act.put,List.setIfInBounds_toArray,List.set_cons_succ,List.set_cons_zero];go_big_quiet_step (fail);go_big_quiet_step (fail);go_big_quiet_step (fail);go_big_quiet_step (fail);go_big_quiet_step (fail);go_big_quiet_step (fail);go_big_quiet_step (fail);go_big_quiet_step (fail);refine BigFrame.wpQuiet_want (by rfl) (fun K hK=>qc 35 (.tmp 2) (.tmp 53) rfl w.heap.size eV rfl rfl 35 (fun W ⟨x,e⟩=>by rw[e];exact mE.out.later x.h) (by rw[show eV.size=28 from rfl];exact aS) (ep {}) (hK _ ?_));refine wpQuiet_nil ?_;rintro W9 ⟨x9,yD⟩;have hW:=x9.h;rw[← yD] at hW;have Cb:=hid (mE.out.later hW);have HB9:=hid (ah.then XX.out hW);clear yD x9 x2 x3 hW;go_wp2_with fail;refine bodyPost_ret (v:=.tuple #[np {},.int .i64 tb.p,.int .i64 31]) (ju Tryz.results11 _ _ w.heap.size 35 eV (0,0) _ (.int .i64 tb.p) (.int .i64 31) rfl Cb.out Tryz.underlying35 rfl (by rw[show Array.size eV=28 from rfl];exact aS) rfl rfl) rfl ?_;unfold fe;rw[HE.out];exact⟨rfl,HB9.out⟩
theorem LG (s:ByteArray)(w:World)(hs:s.size≤4294967280) {l:List Tok}(hl:mh s.data.toList=.ok l) {t:Wd} {r:bH}(hb:ae (may jQ) (ae aB (.good (l.map (·.w))))=.good (t::r))(hk:¬t.k=0):Calls Tryz.prog 11 #[.string s] w (fe s w):=by
 obtain⟨t0,r0,hl0⟩:=tX hl;obtain⟨_,hlen,hwd⟩:=qR hl;have hne:l≠ []:=by rw[hl0];simp
 have C7:l.map (·.w)=t0.w::r0.map (·.w):=by rw[hl0];rfl
 have LF:=sF (hwd t0 (by rw[hl0];simp));have Q6:=hid (pY hl);have Q7:=hid hwd;have C8:=hid C7;clear hl0 hwd C7;have pD:=au.new w 35 eV;rw[show Obj.cells eV 35=fC from rfl] at pD;have HQ:=hid pD;clear pD;unfold fC at*;go_enter Tryz.func11,Tryz.ntmps11;go_wp2_with fail;refine(FD hl hs).mono ?_;rintro e w1 ⟨A,c,rfl,ht,b1⟩;obtain⟨gl,rfl,hgb,sf,hc⟩:=ht.cells hne;have jd:=hid (HQ.out.later b1);have HB:=hid (ah.then (aa w _) b1);have hR:=br.start (c:=c) sf hc Q6.out hlen Q7.out;rw[C8.out] at hR;have HR:=hid hR;have vO:w.heap.size < w1.heap.size:=jd.out.lt;clear ht hc b1 HQ hR hgb hne;go_wp2_with fail;refine(oz ⟨w1.heap.size,gl,c,l⟩ _ t0.w (r0.map (·.w)) false HR.out LF).mono ?_;rintro e w2 ⟨d,y,rfl,hat,dd,iF⟩;rw[← C8.out] at dd iF;have HW:=hid (Bt iF);rw[show(w1.alloc _).heap.size=w1.heap.size+1 by simp] at hat;have eB:w1.heap.size <(w1.alloc (.cells #[.slice (some ⟨gl,0,none⟩) l.length c,.int .i64 0,.int .i64 (-1),.bool false] 65)).heap.size:=by simp
 have C9:=dd.blk (jd.out.alloc _) (by show w.heap.size≠w1.heap.size;omega);have hs2:w1.heap.size+1≤w2.heap.size:=by have:=dd.size;simpa using this
 have jL:=hid ((dd.later (aa w2 fC)).row eB (by rw[show(w1.alloc _).heap.size=w1.heap.size+1 by simp];exact hs2) (cx y).toArray);have UB:=hid ((au.new w2 35 eV).row (cx y).toArray);have fy:=hid ((C9.alloc fC).ia (q:=w2.heap.size) (by omega) (cx y).toArray);have xL:=hid (St.at_.keep (sI w2 fC (cx y).toArray) hat);have HS3:=hid (show w2.heap.size <((w2.alloc fC).setRow w2.heap.size (cx y).toArray).heap.size by rw[size_setRow];simp);have zh:=hid (show Below w.heap.size w (w1.alloc (.cells #[.slice (some ⟨gl,0,none⟩) l.length c,.int .i64 0,.int .i64 (-1),.bool false] 65))from ah.then HB.out (aa w1 _));rw[Bool.false_or] at jL;clear dd hat C9 jd HR HB iF;rw[show(Obj.cells eV 35)=fC from rfl] at UB;unfold fC at*;go_wp2_with (first
  |(refine wpList_store_row rfl 35 (.tmp 9) (.tmp 27) rfl w2.heap.size (cx y).toArray rfl rfl 35 eV (au.new w2 35 eV) (by rw[aZ];exact aS) rfl (ep _) ?_))
 generalize ((w2.alloc _).setRow _ _)=W3 at*;refine(dL ⟨w1.heap.size,gl,c,l⟩ _ _ _ jL.out.at_ ⟨#[59]⟩).mono ?_;rintro e w4 ⟨rfl,d4⟩;rw[show(⟨#[59]⟩:ByteArray).data.toList=jQ from rfl,hb] at d4;have jX:=hid (jL.out.trans d4);have mE:=hid (d4.blk fy.out (by show w.heap.size≠w1.heap.size;omega));have HY4:=hid (d4.blk UB.out (by show w2.heap.size≠w1.heap.size;omega));have Cn:=hid (St.at_.keep (cK d4.grown (show w1.heap.size < w1.heap.size+1 by omega)) xL.out);clear d4 jL fy UB xL;have hE:ae nc (.good (l.map (·.w)))=.bad (t::r).length:=by rw[HW.out.1,hb,DB,if_neg hk]
 have HEE:=hid hE;clear hE;obtain⟨tk,pl,bd,hpl,UC,hsm,kU,bQ,hg,mM,mA,hp⟩:=jX.out.at_.iB;obtain⟨r',gO⟩:=hg _ rfl;injection gO with nk _;rw[nk] at hk;obtain rfl:bd= -1:=kU;obtain⟨c0,c1,c2,k0,k1,k2,k3⟩:=hp;simp only at c0 c1 c2 k0 k1 k2 k3;have UC:pl < l.length:=UC;have ahw:(pl:Int)< l.length:=by omega
 clear hg bQ hpl nk;have hz:(((tk.w.k:Nat):Int) != 0)=true:=by simpa using hk
 go_wp2_with fail;clear c0 c1 c2 k0 k1 k2 k3;refine(jT ⟨w1.heap.size,gl,c,l⟩ _ _ _ jX.out.at_).mono ?_;rintro e w5 ⟨rfl,d5⟩;have vx:=hid (jX.out.trans d5);have Bc:=hid (d5.blk mE.out (by show w.heap.size≠w1.heap.size;omega));have hE:=HEE.out;rw[show(t::r).length=(aW.good (t::r)).left from rfl] at hE;clear d5 jX mE HEE;generalize (aW.good (t::r)).left=n at*;have VN:=vx.out.at_.left;obtain⟨tb,Ye,_⟩:=vx.out.at_.next;have Yf:=vx.out.at_.facts.2.2.1;have hk5:=(vx.out.at_.cell _ tb Ye).2.2.2;simp only[br.n,aW.left,br.bad] at VN Ye Yf hk5;have HE:=hid (show fO s.data.toList=.error (tb.p,31) by rw[tY hl (yw hE),Ye];rfl);have hkb:l.length - n < l.length:=by omega
 rw[show((l.length:Int) - (n:Int))=((l.length - n:Nat):Int) by omega] at Yf;have XX:=hid (zh.out.trans (bD vx.out.grown zh.out.size (by show w.heap.size≤w1.heap.size;omega)));have hl7:w1.heap.size < w5.heap.size:=ay Yf;have hl8:gl < w5.heap.size:=by omega
 clear Ye hE hb hl HW VN;generalize l.length - n=kb at*;have x2:=fun q:Ext w5.heap.size w5=>(q.h.cell (p:=⟨w1.heap.size,2,none⟩) hl7).trans Yf
 have x3:=fun q:Ext w5.heap.size w5=>(q.h.cell (p:=⟨gl,kb*4+3,none⟩) hl8).trans hk5
 have U4:(kb:Int)< l.length:=by omega
 have qI:decide ((kb:Int)< 0)=false:=by simp
 have EH:decide ((kb:Int)≥0)=true:=by simp
 go_upto_region 10 with fail
 refine fY 10 w5.heap.size w5 (Below.refl _ _) (by kernel_rfl) (by kernel_rfl) (by kernel_rfl) (by kernel_rfl) ?_;simp only[List.append,List.take_succ_cons,List.take_zero,List.drop_succ_cons,List.drop_zero];refine BigFrame.wpQuiet_want (by rfl) (fun K hK=>rb 35 rfl tZ (hK _ ?_));simp only[Act.put,List.setIfInBounds_toArray,List.set_cons_succ,List.set_cons_zero];go_big_quiet_step (fail);go_big_quiet_step (fail);go_big_quiet_step (fail);go_big_quiet_step (fail);go_big_quiet_step (fail);go_big_quiet_step (fail);go_big_quiet_step (fail);go_big_quiet_step (fail);refine BigFrame.wpQuiet_want (by rfl) (fun K hK=>qc 35 (.tmp 2) (.tmp 53) rfl w.heap.size eV rfl rfl 35 (fun W ⟨x,e⟩=>by rw[e];exact Bc.out.later x.h) (by rw[show eV.size=28 from rfl];exact aS) (ep {}) (hK _ ?_));refine wpQuiet_nil ?_;rintro W9 ⟨x9,yD⟩;have hW:=x9.h;rw[← yD] at hW;have Cb:=hid (Bc.out.later hW);have HB9:=hid (ah.then XX.out hW);clear yD x9 x2 x3 hW;go_wp2_with fail;refine bodyPost_ret (v:=.tuple #[np {},.int .i64 tb.p,.int .i64 31]) (ju Tryz.results11 _ _ w.heap.size 35 eV (0,0) _ (.int .i64 tb.p) (.int .i64 31) rfl Cb.out Tryz.underlying35 rfl (by rw[show Array.size eV=28 from rfl];exact aS) rfl rfl) rfl ?_;unfold fe;rw[HE.out];exact⟨rfl,HB9.out⟩
theorem Qa (s:ByteArray)(w:World)(hs:s.size≤4294967280) {l:List Tok}(hl:mh s.data.toList=.ok l) {t:Wd} {r:bH}(hb:ae (may jQ) (ae aB (.good (l.map (·.w))))=.good (t::r))(hk:t.k=0):Calls Tryz.prog 11 #[.string s] w (fe s w):=by
 obtain⟨t0,r0,hl0⟩:=tX hl;obtain⟨_,hlen,hwd⟩:=qR hl;have hne:l≠ []:=by rw[hl0];simp
 have C7:l.map (·.w)=t0.w::r0.map (·.w):=by rw[hl0];rfl
 have LF:=sF (hwd t0 (by rw[hl0];simp));have Q6:=hid (pY hl);have Q7:=hid hwd;have C8:=hid C7;clear hl0 hwd C7;have pD:=au.new w 35 eV;rw[show Obj.cells eV 35=fC from rfl] at pD;have HQ:=hid pD;clear pD;unfold fC at*;go_enter Tryz.func11,Tryz.ntmps11;go_wp2_with fail;refine(FD hl hs).mono ?_;rintro e w1 ⟨A,c,rfl,ht,b1⟩;obtain⟨gl,rfl,hgb,sf,hc⟩:=ht.cells hne;have jd:=hid (HQ.out.later b1);have HB:=hid (ah.then (aa w _) b1);have hR:=br.start (c:=c) sf hc Q6.out hlen Q7.out;rw[C8.out] at hR;have HR:=hid hR;have vO:w.heap.size < w1.heap.size:=jd.out.lt;clear ht hc b1 HQ hR hgb hne;go_wp2_with fail;refine(oz ⟨w1.heap.size,gl,c,l⟩ _ t0.w (r0.map (·.w)) false HR.out LF).mono ?_;rintro e w2 ⟨d,y,rfl,hat,dd,iF⟩;rw[← C8.out] at dd iF;have HW:=hid (Bt iF);rw[show(w1.alloc _).heap.size=w1.heap.size+1 by simp] at hat;have eB:w1.heap.size <(w1.alloc (.cells #[.slice (some ⟨gl,0,none⟩) l.length c,.int .i64 0,.int .i64 (-1),.bool false] 65)).heap.size:=by simp
 have C9:=dd.blk (jd.out.alloc _) (by show w.heap.size≠w1.heap.size;omega);have hs2:w1.heap.size+1≤w2.heap.size:=by have:=dd.size;simpa using this
 have jL:=hid ((dd.later (aa w2 fC)).row eB (by rw[show(w1.alloc _).heap.size=w1.heap.size+1 by simp];exact hs2) (cx y).toArray);have UB:=hid ((au.new w2 35 eV).row (cx y).toArray);have fy:=hid ((C9.alloc fC).ia (q:=w2.heap.size) (by omega) (cx y).toArray);have xL:=hid (St.at_.keep (sI w2 fC (cx y).toArray) hat);have HS3:=hid (show w2.heap.size <((w2.alloc fC).setRow w2.heap.size (cx y).toArray).heap.size by rw[size_setRow];simp);have zh:=hid (show Below w.heap.size w (w1.alloc (.cells #[.slice (some ⟨gl,0,none⟩) l.length c,.int .i64 0,.int .i64 (-1),.bool false] 65))from ah.then HB.out (aa w1 _));rw[Bool.false_or] at jL;clear dd hat C9 jd HR HB iF;rw[show(Obj.cells eV 35)=fC from rfl] at UB;unfold fC at*;go_wp2_with (first
  |(refine wpList_store_row rfl 35 (.tmp 9) (.tmp 27) rfl w2.heap.size (cx y).toArray rfl rfl 35 eV (au.new w2 35 eV) (by rw[aZ];exact aS) rfl (ep _) ?_))
 generalize ((w2.alloc _).setRow _ _)=W3 at*;refine(dL ⟨w1.heap.size,gl,c,l⟩ _ _ _ jL.out.at_ ⟨#[59]⟩).mono ?_;rintro e w4 ⟨rfl,d4⟩;rw[show(⟨#[59]⟩:ByteArray).data.toList=jQ from rfl,hb] at d4;have jX:=hid (jL.out.trans d4);have mE:=hid (d4.blk fy.out (by show w.heap.size≠w1.heap.size;omega));have HY4:=hid (d4.blk UB.out (by show w2.heap.size≠w1.heap.size;omega));have Cn:=hid (St.at_.keep (cK d4.grown (show w1.heap.size < w1.heap.size+1 by omega)) xL.out);clear d4 jL fy UB xL;have hE:ae nc (.good (l.map (·.w)))=.good (t::r):=by rw[HW.out.1,hb,DB,if_pos hk]
 have aO:=Ll hE HW.out.2;have Q9:=hid (Bu hl aO);have HSO:=hid (IZ (n:=4097) (by simpa using hlen) aO);have HB4:=hid (zh.out.trans (bD jX.out.grown zh.out.size (by show w.heap.size≤w1.heap.size;omega)));clear hE aO;obtain⟨tk,pl,bd,hpl,UC,hsm,kU,bQ,hg,mM,mA,hp⟩:=jX.out.at_.iB;obtain⟨r',gO⟩:=hg _ rfl;injection gO with nk _;rw[nk] at hk;obtain rfl:bd= -1:=kU;obtain⟨c0,c1,c2,k0,k1,k2,k3⟩:=hp;simp only at c0 c1 c2 k0 k1 k2 k3;have UC:pl < l.length:=UC;have ahw:(pl:Int)< l.length:=by omega
 clear hg bQ hpl nk;rw[hk] at k0;have c3:=jX.out.at_.facts.2.2.2.1;simp only at c3;clear jX HW hb hl;cases uT:d.long
 ·rw[uT] at c3;have Zt:=hid uT;have HEL:=hid (PI HSO.out uT);clear uT;go_wp2_with (first
   |(refine wpList_load_row rfl 35 (.tmp 9) rfl w2.heap.size rfl 35 (cx y).toArray (0,0) _ HY4.out Tryz.underlying35 rfl (by rw[aZ];exact aS) ?_))
  clear c0 c1 c2 c3 k0 k1 k2 k3;refine(Jc w4 d y (eD (w1.heap.size+1) w4) (fun b hb=>hb.2) Cn.out HEL.out.1 HEL.out.2).mono ?_;rintro e w5 ⟨sl,rfl,hn,fE,b5⟩;obtain⟨_,ys,oI,hall⟩:=fE;have Bc:=hid (mE.out.later b5);have HY5:=hid (HY4.out.later b5);have ahz:=hid (St.at_.keep (cP b5) Cn.out);have XX:=hid (ah.then HB4.out b5);have Ow:=hid oI;have JY:=hid hall;have HNL:=hid hn;have X6:=HEL.out.1;rw[← HNL.out] at X6;clear b5 oI hall hn mE HY4 Cn HB4;obtain⟨sA,sn,sc⟩:=sl;unfold eP;simp only at X6 Ow HNL;go_wp2_with fail;go_loopw [11] (fun u wr=>∃i:Nat,i≤sn∧u=.int .i64 i∧(∀x∈d.exprs.take i,x.depth≤32)∧Below w5.heap.size w5 wr) (fun u _=>sn - (intOf u).toNat);case atStart=>exact⟨0,Nat.zero_le _,rfl,(fun x hx=>by simp at hx),Below.refl _ _⟩
  case round=>
   obtain⟨i,hi,rfl,LU,iY⟩:=hrel;have HSH:=hid LU;have gI:=hid iY;have HQr:=hid (Bc.out.later iY);have HYr:=hid (HY5.out.later iY);clear LU;by_cases hlt:i < sn
   ·obtain⟨x,hx⟩:∃x,d.exprs[i]?=some x:=⟨_,List.getElem?_eq_getElem (by have:=HNL.out;omega)⟩;obtain⟨yx,hyx⟩:∃yx,ys[i]?=some yx:=⟨_,List.getElem?_eq_getElem (by have h1:=JY.out.len;have h2:=HNL.out;omega)⟩;have adg:x.at_ w5 (eD 0 w5) yx:=sG JY.out hx hyx;have Yg:=HSO.out.1 x (List.mem_of_getElem? hx);have Rw:=hid (Tr.abr (w:=w5) (S:=eD 0 w5) (fun b hb=>hb.2) x yx adg Yg.1 (by have:=Yg.2;omega) wr iY);rcases Ow.out with h0 |⟨b,off,uk,rq,hcell⟩
    ·subst h0;simp at hyx
    have hcell:=fun j u hu=>(iY.cell (p:=⟨b,off+i*7+j,none⟩) rq.2).trans (hcell i yx j u hyx hu)
    have q0:=hcell 0 _ rfl;have q1:=hcell 1 _ rfl;have q2:=hcell 2 _ rfl;have q3:=hcell 3 _ rfl;have q4:=hcell 4 _ rfl;have q5:=hcell 5 _ rfl;have q6:=hcell 6 _ rfl;simp only[Nat.add_zero] at q0;have HX:=hid hx;have hd1:=Yg.2;clear hcell hx hyx adg Yg;subst uk;go_wp2_with fail;clear q0 q1 q2 q3 q4 q5 q6;refine Rw.out.mono ?_;rintro e w6 ⟨rfl,b6⟩;by_cases OY:x.depth≤32
    ·have hdi:¬((x.depth:Int)> 32):=by omega
     go_wp2_with fail;go_roundw;case rel=>exact⟨i+1,by omega,by go_num,PJ HX.out HSH.out OY,gI.out.trans (b6.mono gI.out.size)⟩
     case measure=>simp[intOf];omega
    ·have hdi:((x.depth:Int)> 32):=by omega
     have qL:=hid (HQr.out.later b6);have Y7:=hid (ah.then (ah.then XX.out gI.out) b6);have HDY:=hid (TR (List.mem_of_getElem? HX.out) (by omega:32 < x.depth));clear b6;go_wp2_with (first
      |(refine jA rfl 35 _ rfl (cs:=eV) ?hv ?_;rotate_left)
      |(refine wpList_store_row rfl 35 (.tmp 2) (.tmp 81) rfl w.heap.size eV rfl rfl 35 eV qL.out (by rw[show eV.size=28 from rfl];exact aS) rfl (ep {}) ?_
        rw[ln qL.out]))
     case hv=>exact tZ
     refine bodyPost_ret (v:=.tuple #[np {},.int .i64 0,.int .i64 32]) (ju Tryz.results11 _ _ w.heap.size 35 eV (0,0) _ (.int .i64 0) (.int .i64 32) rfl qL.out Tryz.underlying35 rfl (by rw[show Array.size eV=28 from rfl];exact aS) rfl rfl) rfl ?_;unfold fe;rw[Q9.out,if_neg (by rw[Zt.out];simp),if_pos HDY.out];exact⟨rfl,Y7.out⟩
   ·obtain rfl:i=sn:=by omega
    have hdn:=XO (l:=d.exprs) (by have:=HSH.out;rwa [List.take_of_length_le (by have:=HNL.out;omega)] at this);have VM:=hid hdn;clear hdn;have ahB:=hid (St.at_.keep (cP iY) ahz.out);have HBr:=hid (ah.then XX.out iY);clear iY;go_wp2_with (first
     |(refine wpList_load_row rfl 35 (.tmp 9) rfl w2.heap.size rfl 35 (cx y).toArray (0,0) _ HYr.out Tryz.underlying35 rfl (by rw[aZ];exact aS) ?_)
     |(refine wpList_store_row rfl 35 (.tmp 2) (.tmp 82) rfl w.heap.size (cx y).toArray rfl rfl 35 eV HQr.out (by rw[aZ];exact aS) rfl (ep _) ?_
       have HR9:=hid (HQr.out.row (cx y).toArray)
       have pX:=hid (show d.at_ (wr.setRow w.heap.size (cx y).toArray) (eD w.heap.size (wr.setRow w.heap.size (cx y).toArray)) y from St.at_.keep (et (show w.heap.size≤w1.heap.size+1 by omega)) (St.at_.keep (iP wr (show w.heap.size < w1.heap.size+1 by omega) (cx y).toArray) ahB.out))
       have HB9:=hid (HBr.out.trans (bD (dH wr w.heap.size (cx y).toArray) HBr.out.size (Nat.le_refl _)))))
    refine bodyPost_ret (v:=.tuple #[np y,.int .i64 0,.int .i64 0]) (ju Tryz.results11 _ _ w.heap.size 35 (cx y).toArray (0,0) _ (.int .i64 0) (.int .i64 0) rfl HR9.out Tryz.underlying35 rfl (by rw[show Array.size (cx y).toArray=28 from rfl];exact aS) rfl rfl) rfl ?_;unfold fe;rw[Q9.out,if_neg (by rw[Zt.out];simp),if_neg (by rw[VM.out];simp)];exact⟨y,rfl,pX.out,HB9.out⟩
 ·rw[uT] at c3;have Zt:=hid uT;clear uT;go_wp2_with (first
   |(refine jA rfl 35 _ rfl (cs:=eV) ?hv ?_;rotate_left)
   |(refine wpList_store_row rfl 35 (.tmp 2) (.tmp 66) rfl w.heap.size eV rfl rfl 35 eV mE.out (by rw[show eV.size=28 from rfl];exact aS) rfl (ep {}) ?_
     rw[ln mE.out]))
  case hv=>exact tZ
  refine bodyPost_ret (v:=.tuple #[np {},.int .i64 0,.int .i64 2]) (ju Tryz.results11 _ _ w.heap.size 35 eV (0,0) _ (.int .i64 0) (.int .i64 2) rfl mE.out Tryz.underlying35 rfl (by rw[show Array.size eV=28 from rfl];exact aS) rfl rfl) rfl ?_;unfold fe;rw[Q9.out,if_pos Zt.out];exact⟨rfl,HB4.out⟩
theorem Jl (s:ByteArray)(w:World)(hs:s.size≤4294967280):Calls Tryz.prog 11 #[.string s] w (fe s w):=by
 cases hl:mh s.data.toList with
 | error x=>exact Uz s w hs hl
 | ok l=>
   cases hb:ae (may jQ) (ae aB (.good (l.map (·.w))))with
   | bad n=>exact UA s w hs hl hb
   | good m=>
     have hne:m≠ []:=by rintro rfl;have h1:=aW.Mj zY (W:=l.map (·.w)) (σ:=.good (l.map (·.w))) ⟨List.suffix_refl _,pY hl⟩;have h2:=aW.Mj (cj jQ) h1;rw[hb] at h2;have:=h2.2.pos;simp at this
     match m,hne with
     | t::r,_=>
       by_cases hk:t.k=0
       ·exact Qa s w hs hl hb hk
       ·exact LG s w hs hl hb hk
end Go.Proofs.YtcneefmaghoejaaGreatDoor
