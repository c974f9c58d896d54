/- Parts of the proof. -/
import Derived.Test.YtcneefmaghoejaaGreatDoorC24
namespace Go.Proofs.YtcneefmaghoejaaGreatDoor
open Go.Lib (hid)
open Go.ChangeShapes Go.WideShapes Go.ChangeAt Go.RowKit
set_option linter.unusedVariables false
set_option linter.unusedSimpArgs false
theorem bP (m:qY):(cx m).toArray.size=28:=by simp[cx,lx,fI]
theorem yt (ρ:br)(w:World)(l:bH)(lg dp:Bool)(h:ρ.ij w l lg dp)(s:List UInt8)(t:ByteArray)(ht:t=⟨s.toArray⟩):
 Calls Tryz.prog 79 #[ρ.ptr,.string t] w (SK ρ w lg dp s l):=by subst ht;exact vp ρ w l lg dp h s
theorem ja {P:Program} {ops:Array Oper} {rest:List Oper} {o:Oper} {a:Act} {w:World} {Q:Exit→Act→World→Prop}(hg:o.guard=none)(t:TypeId)(parts:Array (Nat×Operand))(ho:o.op=.build t parts) {cs:Array Value}
  (hv:P.built t (parts.map fun(i,x)=>(i,a.eval x)).toList=some cs) (h:wpList P ops Q rest (a.put o.dst (.agg cs)) w):wpList P ops Q (o::rest) a w:=
 wpList_build hg t parts ho (by rw[hv];rfl) (by rw[hv];exact h)
theorem mr (k:Int)(nm:ByteArray):Tryz.prog.built 35 [(0,.int .u8 k),(1,.string nm)]=some (cx { kind:=k,name:=nm }).toArray:=by kernel_rfl
theorem Lg (qy:tP):Tryz.prog.built 35 [(0,.int .u8 8),(7,KP qy)]=some (cx { kind:=8,query:=qy }).toArray:=by kernel_rfl
theorem Lh (k:Int)(nm:ByteArray):Tryz.prog.built 35 [(0,.int .u8 4),(8,.int .u8 k),(1,.string nm)]=some (cx { kind:=4,what:=k,name:=nm }).toArray:=by kernel_rfl
theorem iy (w:World)(c0 cs:Array Value)(T:TypeId):(w.alloc (.cells c0 T)).setRow w.heap.size cs=w.alloc (.cells cs T):=by
 have hh:((w.alloc (.cells c0 T)).setRow w.heap.size cs).heap=(w.alloc (.cells cs T)).heap:=by
  apply Array.ext_getElem?;intro i;by_cases hi:i=w.heap.size
  ·subst hi;exact(setRow_heap _ _ c0 cs T (0,0) (au.new w T c0)).trans (au.new w T cs).symm
  ·rw[setRow_other _ _ _ cs hi];by_cases h2:i < w.heap.size
   ·exact((aa w (.cells c0 T)).block i h2).trans ((aa w (.cells cs T)).block i h2).symm
   ·rw[Array.getElem?_eq_none (by rw[World.size_alloc];omega),Array.getElem?_eq_none (by rw[World.size_alloc];omega)]
 have hw:∀a b:World,a.heap=b.heap→a.tape=b.tape→a.drawn=b.drawn→a.os=b.os→a.output=b.output→a=b:=by intro a b h1 h2 h3 h4 h5;cases a;cases b;simp only at h1 h2 h3 h4 h5;subst h1 h2 h3 h4 h5;rfl
 exact hw _ _ hh rfl rfl rfl rfl
def MU (s:List UInt8):Int:=if s=aV then 1 else if s=bz then 2 else 3
def ID:List (List UInt8×Value):=[([116,97,98,108,101],.int .u8 1),([118,105,101,119],.int .u8 2),([106,111,98],.int .u8 3)]
theorem Pr {s:List UInt8}(h:s∈ [aV,bz,cB]):(ID.lookup (⟨s.toArray⟩:ByteArray).data.toList).getD (.int .u8 0)=.int .u8 (MU s):=by simp only[List.mem_cons,List.not_mem_nil,or_false] at h;rcases h with rfl | rfl | rfl <;> rfl
def Th (k:Int):Ps St:=do
 let name ← aN
 return { kind:=4,what:=k,name }
def Li:Ps St:=dC [aV,bz,cB] >>= fun s=>Th (MU s)
def ou:Ps St:=must dh >>= fun _=>Li
theorem yT.Pt {ρ:br} {w wr w2:World} {q G:Nat} {xh:List Nat} {lg dp:Bool} {l:bH}(A:yT ρ w q xh lg dp wr l)(hg:ρ.g < w.heap.size)(h:wr.grownBy w2 (some G))(hG:w.heap.size≤G)(hq:q≠G)(hp:∀p∈xh,p≠G):yT ρ w q xh lg dp w2 l:=
 ⟨A.did.own hg h (fun G' e=>by injection e with e;omega),A.res.grown h (by simp;omega),A.qw,fun p h'=>by obtain⟨a,c,k⟩:=A.tK p h';have:=hp p h';exact⟨a,c,k.grown h (by simp;omega)⟩⟩
set_option maxHeartbeats 4000000
set_option maxRecDepth 100000
theorem Pu (ρ:br)(w:World)(l:bH)(lg dp:Bool)(h:ρ.ij w l lg dp):
  Calls Tryz.prog 37 #[ρ.ptr] w (dJ ρ w lg dp ou l):=by
 have aF:=h.jt;have b1:=aa w (iL {});have HS:=hid (show yT ρ w w.heap.size [] lg dp (w.alloc (iL {})) l from⟨bJ.aL h b1,au.new w _ _,Nat.le_refl _,fun p hp=>by simp at hp⟩);have HE:=hid (show ou l=(must dh >>= fun _=>Li) l from rfl);clear h b1;go_enter Tryz.func37,Tryz.ntmps37;go_upto_region 1 with fail
 change Code.wp _ _ _ _ (w.alloc (iL {}));generalize hW:(World.alloc _ _)=W0 at*;clear hW;have zj:w.heap.size < W0.heap.size:=HS.out.res.lt;have hb:=aa W0 (.cells (aj [dh]) 9);have HB:=hid (HS.out.later hb);have ly:=HS.out.res.lt;have hm:=bF ρ _ l _ _ HB.out.did.at_ [dh] W0.heap.size 1 rfl (au.new W0 _ _) (by omega) (by omega);clear hb HS;unfold aj strOf at hm HB;simp only[List.map_cons,List.map_nil] at hm HB;rw[show dh.toArray= #[100,114,111,112] from rfl] at hm HB;go_wp2_with fail;refine hm.mono ?_;clear hm;intro e w1 hp;rcases hp.cases with ⟨_,l2,v9,aO,rfl,rfl,d⟩|⟨m,ar,rfl,hg⟩;case inr=>have HF:=hid (show ou l=.error m from HE.out.trans (ai (show must dh l=.error m by rw[← aD];exact ar)));have HG:=hid HB.out.did.grown;clear hp ar;go_wp2_with fail;exact ag rfl (GP.err HF.out ⟨rfl,af HG.out hg⟩)
 have cm:=hid (show ou l=Li l2 from HE.out.trans (ak (show must dh l=.ok ((),l2) by rw[← aD];exact aO)));have HS:=hid (HB.out.go aF d);clear hp aO d HB HE ly;have HE:=cm;clear cm;go_upto_region 2 with fail
 have HM:=lV.new w1;have HG:=aH (p:=w1.heap.size) (aa w1 (.map #[] 0));have vO:=HS.out.res.lt;refine wp_region_lit ?_;refine iw rfl 107 rfl ?_;refine bV Tryz.underlying107 Tryz.underlying9 rfl _ _ _ rfl w1.heap.size rfl [116,97,98,108,101] rfl (.int .u8 1) rfl HM (by decide) ?_;clear HM;intro wm HM jz;replace HG:=af HG jz;clear jz;refine bV Tryz.underlying107 Tryz.underlying9 rfl _ _ _ rfl w1.heap.size rfl [118,105,101,119] rfl (.int .u8 2) rfl HM (by decide) ?_;clear HM;intro wm HM jz;replace HG:=af HG jz;clear jz;refine bV Tryz.underlying107 Tryz.underlying9 rfl _ _ _ rfl w1.heap.size rfl [106,111,98] rfl (.int .u8 3) rfl HM (by decide) ?_;clear HM;intro wm HM jz;replace HG:=af HG jz;clear jz;have MM:=hid (show lV wm w1.heap.size ID from HM);have pX:=hid (HS.out.Pt (w2:=wm) aF HG (by omega) (by omega) (fun p hp=>by simp at hp));have ZB:w1.heap.size < wm.heap.size:=by have:=MM.out;unfold lV at this;exact(Array.getElem?_eq_some_iff.mp this).1
 clear HM HG HS;have hb:=aa wm (.cells (aj [aV,bz,cB]) 9);have HB:=hid (pX.out.later hb);have Ti:=hid (show lV (wm.alloc (.cells (aj [aV,bz,cB]) 9)) w1.heap.size ID from(hb.block _ ZB).trans MM.out);have ly:=pX.out.res.lt;have hm:=pS ρ _ l2 _ _ HB.out.did.at_ [aV,bz,cB] wm.heap.size 3 rfl (au.new wm _ _) (by omega) (by omega);clear hb MM pX;unfold aj strOf at hm HB Ti;simp only[List.map_cons,List.map_nil] at hm HB Ti;rw[show aV.toArray= #[116,97,98,108,101] from rfl,show bz.toArray= #[118,105,101,119] from rfl,show cB.toArray= #[106,111,98] from rfl] at hm HB Ti;simp only[Act.put,List.setIfInBounds_toArray,List.set_cons_succ,List.set_cons_zero];go_wp2_with fail;refine hm.mono ?_;clear hm;intro e w8 hp;rcases hp.cases with ⟨sx,l8,v9,aO,rfl,rfl,d⟩|⟨m,ar,rfl,hg⟩;case inr=>have HF:=hid (show ou l=.error m from HE.out.trans (ai ar));have HG:=hid HB.out.did.grown;clear hp ar;go_wp2_with fail;exact ag rfl (GP.err HF.out ⟨rfl,af HG.out hg⟩)
 have wu:=tS aO;have cm:=hid (show ou l=Th (MU sx) l8 from HE.out.trans (ak aO));have HS:=hid (HB.out.go aF d);have CA:=hid (show lV w8 w1.heap.size ID from(d.grown.block _ (by simp;omega) (by intro e;injection e with e;omega)).trans Ti.out);have zq:=hid (Pr wu);clear hp aO d HB HE Ti wu;have HE:=cm;clear cm;try unfold strOf
 go_upto_region 3 with (first
  |(refine gH Tryz.underlying107 Tryz.underlying9 rfl _ _ rfl w1.heap.size rfl (⟨sx.toArray⟩:ByteArray) rfl (l:=ID) CA.out (z:=.int .u8 0) Tryz.zeroValue5 ?_
    rw[zq.out]))
 clear zq CA;generalize MU sx=kx at*;go_wp2_with fail;refine(fg ρ w8 l8 _ _ HS.out.did.at_).mono ?_;intro e w3 hp;rcases hp.cases with ⟨nm,l4,v9,aO,rfl,rfl,d⟩|⟨m,ar,rfl,hg⟩;case inr=>have HF:=hid (show ou l=.error m from HE.out.trans (ai ar));have HG:=hid HS.out.did.grown;clear hp ar;go_wp2_with fail;exact ag rfl (GP.err HF.out ⟨rfl,af HG.out hg⟩)
 have cm:=hid (show ou l=.ok ({ kind:=4,what:=kx,name:=nm },l4)from HE.out.trans ((ak aO).trans rfl));clear hp aO HE;obtain⟨cs,hcs⟩:∃cs,cs=(cx { kind:=4,what:=kx,name:=nm }).toArray:=⟨_,rfl⟩;have il:=hid (show(Tryz.prog.info? 35).map (·.size)=some cs.size by rw[hcs];exact cD);have kK:=hid (show dA.size=cs.size by rw[hcs,bP];exact bP _);have jD:=hid (show cs.all (·.oneCell')=true by rw[hcs];exact dI _);have zD:=hid (show Tryz.prog.built 35 [(0,.int .u8 4),(8,.int .u8 kx),(1,.string nm)]=some cs by rw[hcs];exact Lh _ _);have ly:=HS.out.res.lt;have kW:=hid (d.blk HS.out.res (by omega));have gf:=hid (show dJ ρ w lg dp ou l (.returned (.agg cs)) (w3.setRow w.heap.size cs) by
  rw[hcs]
  refine GP.ok cm.out ⟨_,rfl,{ St.fq _ _ with kind:=rfl,what:=rfl,name:=rfl },?_⟩
  have hD:=(HS.out.did.trans d).own aF (dH w3 w.heap.size (cx { kind:=4,what:=kx,name:=nm }).toArray) (fun G e=>by injection e with e;omega)
  simpa [St.long,St.exprs,Qu.long,Qu.exprs,dU] using hD)
 clear d HS cm hcs;go_wp2_with (first
  |(refine ja rfl 35 _ rfl (cs:=cs) ?hv ?_;rotate_left)
  |(refine wpList_store_row rfl 35 (.tmp 2) (.tmp 16) rfl w.heap.size cs rfl rfl 35 dA kW.out il.out kK.out jD.out ?_
    have jy:=hid (kW.out.row cs)))
 case hv=>exact zD.out
 exact bodyPost_ret (v:=.agg cs) (results_cell_row Tryz.results37 _ _ w.heap.size 35 cs (0,0) _ rfl jy.out Tryz.underlying35 rfl il.out) rfl gf.out
def Bl:List (List UInt8×Value):=[([99,114,101,97,116,101],.func (.func 36) #[] #[]),([100,114,111,112],.func (.func 37) #[] #[]),([105,110,115,101,114,116],.func (.func 38) #[] #[]),([117,112,100,97,116,101],.func (.func 39) #[] #[]),([100,101,108,101,116,101],.func (.func 40) #[] #[]),([115,101,108,101,99,116],.func (.func 41) #[] #[]),([99,97,108,108],.func (.func 42) #[] #[])]
theorem FA (ρ:br)(w:World)(t:Wd)(r:bH)(lg dp:Bool)(h:ρ.ij w (t::r) lg dp)(hc:(∃(F:FuncId) (P:Ps St),(∀args w,(callFunc F args).run Tryz.prog w=.ok (.enter F args) w)∧(∀w2 lg dp,ρ.ij w2 (t::r) lg dp→Calls Tryz.prog F #[ρ.ptr] w2 (dJ ρ w2 lg dp P (t::r)))∧t.k=1∧(Bl.lookup t.s).getD .nilFunc=.func (.func F) #[] #[]∧aB (t::r)=P (t::r))∨(¬t.k=1)∨(t.k=1∧(Bl.lookup t.s).getD .nilFunc=.nilFunc∧aB (t::r)=.error (t::r).length)):
  Calls Tryz.prog 17 #[ρ.ptr] w (dJ ρ w lg dp aB (t::r)):=by
 have aF:=h.jt;have nk:(ρ.tok (t::r)).w=t:=by obtain⟨tk,r',pl,pQ,hl,_⟩:=h.iB;rw[← pQ];injection hl with h1 _;exact h1.symm
 have b1:=aa w (iL {});have HS:=hid (show yT ρ w w.heap.size [] lg dp (w.alloc (iL {})) (t::r)from⟨bJ.aL h b1,au.new w _ _,Nat.le_refl _,fun p hp=>by simp at hp⟩);have F3:=hid nk;have HC:=hid hc;clear hc;clear h b1 nk;go_enter Tryz.func17,Tryz.ntmps17;go_upto_region 1 with fail
 change Code.wp _ _ _ _ (w.alloc (iL {}));generalize hW:(World.alloc _ _)=W0 at*;clear hW;have zj:w.heap.size < W0.heap.size:=HS.out.res.lt;have HM:=lV.new W0;have HG:=aH (p:=W0.heap.size) (aa W0 (.map #[] 0));refine wp_region_lit ?_;refine iw rfl 83 rfl ?_;refine bV Tryz.underlying83 Tryz.underlying9 rfl _ _ _ rfl W0.heap.size rfl [99,114,101,97,116,101] rfl (.func (.func 36) #[] #[]) rfl HM (by decide) ?_;clear HM;intro wm HM jz;replace HG:=af HG jz;clear jz;refine bV Tryz.underlying83 Tryz.underlying9 rfl _ _ _ rfl W0.heap.size rfl [100,114,111,112] rfl (.func (.func 37) #[] #[]) rfl HM (by decide) ?_;clear HM;intro wm HM jz;replace HG:=af HG jz;clear jz;refine bV Tryz.underlying83 Tryz.underlying9 rfl _ _ _ rfl W0.heap.size rfl [105,110,115,101,114,116] rfl (.func (.func 38) #[] #[]) rfl HM (by decide) ?_;clear HM;intro wm HM jz;replace HG:=af HG jz;clear jz;refine bV Tryz.underlying83 Tryz.underlying9 rfl _ _ _ rfl W0.heap.size rfl [117,112,100,97,116,101] rfl (.func (.func 39) #[] #[]) rfl HM (by decide) ?_;clear HM;intro wm HM jz;replace HG:=af HG jz;clear jz;refine bV Tryz.underlying83 Tryz.underlying9 rfl _ _ _ rfl W0.heap.size rfl [100,101,108,101,116,101] rfl (.func (.func 40) #[] #[]) rfl HM (by decide) ?_;clear HM;intro wm HM jz;replace HG:=af HG jz;clear jz;refine bV Tryz.underlying83 Tryz.underlying9 rfl _ _ _ rfl W0.heap.size rfl [115,101,108,101,99,116] rfl (.func (.func 41) #[] #[]) rfl HM (by decide) ?_;clear HM;intro wm HM jz;replace HG:=af HG jz;clear jz;refine bV Tryz.underlying83 Tryz.underlying9 rfl _ _ _ rfl W0.heap.size rfl [99,97,108,108] rfl (.func (.func 42) #[] #[]) rfl HM (by decide) ?_;clear HM;intro wm HM jz;replace HG:=af HG jz;clear jz;have MM:=hid (show lV wm W0.heap.size Bl from HM);have pX:=hid (HS.out.Pt (w2:=wm) aF HG (by omega) (by omega) (fun p hp=>by simp at hp));have ZB:W0.heap.size < wm.heap.size:=by have:=MM.out;unfold lV at this;exact(Array.getElem?_eq_some_iff.mp this).1
 clear HM HG HS;have hm:=iX ρ wm (t::r) _ _ pX.out.did.at_;simp only[Act.put,List.setIfInBounds_toArray,List.set_cons_succ,List.set_cons_zero];go_wp2_with fail;refine hm.mono ?_;clear hm;rintro e w1 ⟨rfl,b1⟩;have hs1:=b1.size;obtain⟨tk,nk⟩:∃tk,tk=ρ.tok (t::r):=⟨_,rfl⟩;have Ge:tk.w=t:=by rw[nk];exact F3.out
 rw[← nk];clear nk F3;have hb2:=aa w1 (.cells (bT tk) 46);have HS:=hid ((pX.out.later b1).later hb2);have HT:=hid (au.new w1 46 (bT tk));have CA:=hid (show lV (w1.alloc (.cells (bT tk) 46)) W0.heap.size Bl from((hb2.block _ (by omega)).trans (b1.block _ ZB)).trans MM.out);clear b1 hb2 pX MM;obtain⟨⟨k9,s9,n9⟩,p9⟩:=tk;simp only at Ge;subst Ge;rcases HC.out with ⟨F,P,en,hF,hk,hv,hP⟩| hk |⟨hk,hv,rv⟩
 ·clear HC;simp only at hk hv;subst hk;unfold bT at HS HT CA;unfold bT;go_upto_region 3 with fail
  change Code.wp _ _ _ _ (w1.alloc (.cells #[.int .u8 ((1:Nat):Int),.string ⟨s9.toArray⟩,.int .i64 n9,.int .i64 p9] 46));generalize hb:w1.heap.size=b at*;generalize hW:(World.alloc w1 _)=W1 at*;clear hW hb hs1 ZB;have y0:W1.cell? ⟨b,0,none⟩=some (.int .u8 ((1:Nat):Int)):=(HT.out.cell 0).trans rfl;have y1:W1.cell? ⟨b,1,none⟩=some (.string ⟨s9.toArray⟩):=(HT.out.cell 1).trans rfl;go_upto_region 4 with (first
   |(refine gH Tryz.underlying83 Tryz.underlying9 rfl _ _ rfl W0.heap.size rfl (⟨s9.toArray⟩:ByteArray) rfl (l:=Bl) CA.out (z:=.nilFunc) Tryz.zeroValue82 ?_
     rw[show(⟨s9.toArray⟩:ByteArray).data.toList=s9 by simp]))
  clear CA HT;have HE:=hid hP;have HF:=hid (hF W1 _ _ HS.out.did.at_);clear hF hP hv;have vO:∀w,(binOp .eql 82 (.func (.func F) #[] #[]) .nilFunc).run Tryz.prog w=.ok (.bool false) w:=fun _=>rfl
  go_upto_region 6 with fail
  clear y0 y1;go_wp2_with fail;refine HF.out.mono ?_;clear HF;intro e w2 hp;rcases GP.cases hp with ⟨d9,L2,v9,aO,rfl,m9,rfl,IE,d⟩|⟨n9,ar,hfp⟩
  ·have Y1:=HS.out.res.lt;have hsz:=d.size;obtain⟨cs,hcs⟩:∃cs,cs=(cx m9).toArray:=⟨_,rfl⟩;have il:=hid (show(Tryz.prog.info? 35).map (·.size)=some cs.size by rw[hcs];exact cD);have kK:=hid (show dA.size=cs.size by rw[hcs,bP];exact bP _);have jD:=hid (show cs.all (·.oneCell')=true by rw[hcs];exact dI _);have kW:=hid (d.blk HS.out.res (by omega));have gf:=hid (show dJ ρ w lg dp aB (⟨1,s9,n9⟩::r) (.returned (.agg cs)) (w2.setRow w.heap.size cs) by
    rw[hcs]
    exact GP.ok (HE.out.trans aO) ⟨m9,rfl,St.at_.keep (et (by omega)) (St.at_.keep (iP w2 (show w.heap.size < W1.heap.size by omega) _) IE),(HS.out.did.trans d).own aF (dH w2 w.heap.size (cx m9).toArray) (fun G e=>by injection e with e;omega)⟩)
   unfold np;rw[← hcs];clear d HS HE hcs IE hp aO;go_wp2_with (first
    |(refine wpList_store_row rfl 35 (.tmp 2) (.tmp 25) rfl w.heap.size cs rfl rfl 35 dA kW.out il.out kK.out jD.out ?_
      have jy:=hid (kW.out.row cs)))
   exact bodyPost_ret (v:=.agg cs) (results_cell_row Tryz.results17 _ _ w.heap.size 35 cs (0,0) _ rfl jy.out Tryz.underlying35 rfl il.out) rfl gf.out
  ·obtain⟨rfl,hgr⟩:=hfp;exact ag rfl (GP.err (HE.out.trans ar) ⟨rfl,af HS.out.did.grown hgr⟩)
 ·clear HC;simp only at hk;have Af:((k9:Int) != 1)=true:=by simp;omega
  unfold bT at HS HT CA;unfold bT;go_upto_region 3 with fail
  change Code.wp _ _ _ _ (w1.alloc (.cells #[.int .u8 ((k9:Nat):Int),.string ⟨s9.toArray⟩,.int .i64 n9,.int .i64 p9] 46));generalize hb:w1.heap.size=b at*;generalize hW:(World.alloc w1 _)=W1 at*;clear hW hb hs1 ZB;have y0:W1.cell? ⟨b,0,none⟩=some (.int .u8 ((k9:Nat):Int)):=(HT.out.cell 0).trans rfl;have y1:W1.cell? ⟨b,1,none⟩=some (.string ⟨s9.toArray⟩):=(HT.out.cell 1).trans rfl;go_upto_region 4 with (first
   |(refine gH Tryz.underlying83 Tryz.underlying9 rfl _ _ rfl W0.heap.size rfl (⟨s9.toArray⟩:ByteArray) rfl (l:=Bl) CA.out (z:=.nilFunc) Tryz.zeroValue82 ?_
     rw[show(⟨s9.toArray⟩:ByteArray).data.toList=s9 by simp]))
  generalize (Bl.lookup s9).getD .nilFunc=u at*;clear CA HT;have HF:=hid (kj ρ W1 _ _ _ HS.out.did.at_);have HE:=hid (show aB (⟨k9,s9,n9⟩::r)=.error (⟨k9,s9,n9⟩::r:bH).length from by simp[aB,hk]);go_wp2_with fail;refine HF.out.mono ?_;rintro e w2 ⟨rfl,hg2⟩;exact ag rfl (GP.err HE.out ⟨rfl,af HS.out.did.grown hg2⟩)
 ·clear HC;simp only at hk hv;subst hk;unfold bT at HS HT CA;unfold bT;go_upto_region 3 with fail
  change Code.wp _ _ _ _ (w1.alloc (.cells #[.int .u8 ((1:Nat):Int),.string ⟨s9.toArray⟩,.int .i64 n9,.int .i64 p9] 46));generalize hb:w1.heap.size=b at*;generalize hW:(World.alloc w1 _)=W1 at*;clear hW hb hs1 ZB;have y0:W1.cell? ⟨b,0,none⟩=some (.int .u8 ((1:Nat):Int)):=(HT.out.cell 0).trans rfl;have y1:W1.cell? ⟨b,1,none⟩=some (.string ⟨s9.toArray⟩):=(HT.out.cell 1).trans rfl;go_upto_region 4 with (first
   |(refine gH Tryz.underlying83 Tryz.underlying9 rfl _ _ rfl W0.heap.size rfl (⟨s9.toArray⟩:ByteArray) rfl (l:=Bl) CA.out (z:=.nilFunc) Tryz.zeroValue82 ?_
     rw[show(⟨s9.toArray⟩:ByteArray).data.toList=s9 by simp]))
  clear CA HT;have HF:=hid (kj ρ W1 _ _ _ HS.out.did.at_);have HE:=hid (show aB (⟨1,s9,n9⟩::r)=.error (⟨1,s9,n9⟩::r:bH).length from rv);have vO:∀w,(binOp .eql 82 .nilFunc .nilFunc).run Tryz.prog w=.ok (.bool true) w:=fun _=>rfl
  go_wp2_with fail;refine HF.out.mono ?_;rintro e w2 ⟨rfl,hg2⟩;exact ag rfl (GP.err HE.out ⟨rfl,af HS.out.did.grown hg2⟩)
theorem ow (ρ:br)(w:World)(t:Wd)(r:bH)(lg dp:Bool)(h:ρ.ij w (t::r) lg dp)(F:FuncId)(P:Ps St)(en:∀args w,(callFunc F args).run Tryz.prog w=.ok (.enter F args) w)(hF:∀w2 lg dp,ρ.ij w2 (t::r) lg dp→Calls Tryz.prog F #[ρ.ptr] w2 (dJ ρ w2 lg dp P (t::r)))(hk:t.k=1)(hv:(Bl.lookup t.s).getD .nilFunc=.func (.func F) #[] #[])(hP:aB (t::r)=P (t::r)):
  Calls Tryz.prog 17 #[ρ.ptr] w (dJ ρ w lg dp aB (t::r)):=
 FA ρ w t r lg dp h (.inl ⟨F,P,en,hF,hk,hv,hP⟩)
theorem Tj (ρ:br)(w:World)(t:Wd)(r:bH)(lg dp:Bool)(h:ρ.ij w (t::r) lg dp)(hk:¬t.k=1):
  Calls Tryz.prog 17 #[ρ.ptr] w (dJ ρ w lg dp aB (t::r)):=
 FA ρ w t r lg dp h (.inr (.inl hk))
theorem Tk (ρ:br)(w:World)(t:Wd)(r:bH)(lg dp:Bool)(h:ρ.ij w (t::r) lg dp)(hk:t.k=1)(hv:(Bl.lookup t.s).getD .nilFunc=.nilFunc)(rv:aB (t::r)=.error (t::r).length):
  Calls Tryz.prog 17 #[ρ.ptr] w (dJ ρ w lg dp aB (t::r)):=
 FA ρ w t r lg dp h (.inr (.inr ⟨hk,hv,rv⟩))
def Lj (w:World)(b:Nat)(m:tP):World:=(((((((w.setCell ⟨b,7,none⟩ (eP m.items)).setCell ⟨b,8,none⟩ (.string m.bw)).setCell ⟨b,9,none⟩ (.bool m.only)).setCell ⟨b,10,none⟩ (eP m.bK)).setCell ⟨b,11,none⟩ (eP m.group)).setCell ⟨b,12,none⟩ (eP m.having)).setCell ⟨b,13,none⟩ (eP m.order)).setCell ⟨b,14,none⟩ (eP m.cG)
def Tl (cs:Array Value)(m:tP):Array Value:=(((((((cs.setIfInBounds 7 (eP m.items)).setIfInBounds 8 (.string m.bw)).setIfInBounds 9 (.bool m.only)).setIfInBounds 10 (eP m.bK)).setIfInBounds 11 (eP m.group)).setIfInBounds 12 (eP m.having)).setIfInBounds 13 (eP m.order)).setIfInBounds 14 (eP m.cG)
section
variable {ρ:br} {w wr w2:World} {q b:Nat} {xh:List Nat} {lg dp lg2 dp2:Bool} {l l2:bH} {m:qY} {d:St}
theorem uC.query {m':qY} {d':St} {qy:tP}(A:uC ρ w q xh lg dp b wr l m d)(hg:ρ.g < w.heap.size)(D:bJ ρ wr w2 l2 lg2 dp2)(hb:(cx m').toArray=Tl (cx m).toArray qy)(hl:lg2=(lg || d'.long))(hd:dp2=(dp || dU d'.exprs))(hat:d.at_ w2 (eD (b+1) w2) m→St.at_ w2 (eD (b+1) w2) d' m'):uC ρ w q xh lg dp b (Lj w2 b qy) l2 m' d':=by
 have hq:=A.qb;have hw:=A.sa.qw
 have S:=A.sa.go hg D;have hB:=D.blk A.blk (by omega);have hS:=hat (St.at_.keep (cK D.grown (by omega)) A.at_);have s:=fun(w:World) (h:St.at_ w (eD (b+1) w) d' m') (i:Nat) (u:Value)=>St.at_.keep (iO (w:=w) (Nat.lt_succ_self b) i u) h
 have t:=fun(W:World) (h:yT ρ w q xh lg2 dp2 W l2) (i:Nat) (u:Value)=>(⟨h.did.far (q:=b) hg (by omega) i u,h.res.far (p:=⟨b,i,none⟩) (by simp;omega) u,h.qw,fun p hp=>by
  obtain⟨a,c,k⟩:=h.tK p hp
  have:=A.pb p hp
  exact⟨a,c,k.far (p:=⟨b,i,none⟩) (by simp;omega) u⟩⟩:yT ρ w q xh lg2 dp2 (W.setCell ⟨b,i,none⟩ u) l2)
 refine⟨?_,?_,?_,A.qb,A.pb⟩
 ·rw[← hl,← hd];exact t _ (t _ (t _ (t _ (t _ (t _ (t _ (t _ S 7 _) 8 _) 9 _) 10 _) 11 _) 12 _) 13 _) 14 _
 ·rw[hb];exact(((((((hB.cg 7 _).cg 8 _).cg 9 _).cg 10 _).cg 11 _).cg 12 _).cg 13 _).cg 14 _
 ·exact s _ (s _ (s _ (s _ (s _ (s _ (s _ (s _ hS 7 _) 8 _) 9 _) 10 _) 11 _) 12 _) 13 _) 14 _
end
end Go.Proofs.YtcneefmaghoejaaGreatDoor
