/- Parts of the proof. -/
import Derived.Test.YtcneefmaghoejaaGreatDoorC18
namespace Go.Proofs.YtcneefmaghoejaaGreatDoor
open Go.Lib (hid)
open Go.ChangeShapes Go.WideShapes Go.ChangeAt Go.RowKit
set_option linter.unusedVariables false
set_option linter.unusedSimpArgs false
def mQ (v:Val):Ex:=⟨1,v,⟨#[]⟩,0,none,0,0⟩
set_option maxHeartbeats 4000000
set_option maxRecDepth 100000
theorem sr (k n:Int)(s:ByteArray)(w:World):Calls Tryz.prog 169 #[.agg #[.int .u8 k,.int .i64 n,.string s]] w fun e w'=>e=.returned (ee (mQ ⟨k,n,s⟩))∧Below w.heap.size w w':=by
 have hb:=ah.then (aa w (.cells #[.int .u8 k,.int .i64 n,.string s] 33)) (aa _ (.cells eK 49))
 have hQ:=au.new (w.alloc (.cells #[.int .u8 k,.int .i64 n,.string s] 33)) 49 eK;rw[show(w.alloc (.cells #[.int .u8 k,.int .i64 n,.string s] 33)).heap.size=w.heap.size+1 by simp] at hQ;have HQ:=hid hQ;have HB:=hid hb;clear hQ hb;go_enter Tryz.func169,Tryz.ntmps169;go_wp2_with (first
  |(refine wpList_store_row rfl 49 (.tmp 2) (.tmp 4) rfl (w.heap.size+1) (bl (mQ ⟨k,n,s⟩)).toArray rfl rfl 49 eK HQ.out aR rfl (dM _) ?_
    have HR:=hid (HQ.out.row (bl (mQ ⟨k,n,s⟩)).toArray)))
 refine bodyPost_ret (v:=ee (mQ ⟨k,n,s⟩)) (results_cell_row Tryz.results169 _ _ (w.heap.size+1) 49 (bl (mQ ⟨k,n,s⟩)).toArray (0,0) _ rfl HR.out Tryz.underlying49 rfl aR) rfl ⟨rfl,?_⟩;exact HB.out.trans (bD (dH _ (w.heap.size+1) _) HB.out.size (Nat.le_succ _))
theorem wh (w:World)(S:Nat→Prop)(v:Val):(mJ v).at_ w S (mQ v):=xm w S v
theorem L0 {W:Ps Tr} {t:Wd} {r:bH}(h:t.k=2):fB W (t::r)=.ok (mJ ⟨2,t.n,ByteArray.empty⟩,r):=by simp[fB,h]
theorem WY {W:Ps Tr} {t:Wd} {r:bH}(h:t.k=3):fB W (t::r)=.ok (mJ ⟨3,0,⟨t.s.toArray⟩⟩,r):=by simp[fB,h]
section
variable {W:Ps Tr} {l:bH} (h2:∀t r,l=t::r→t.k≠2∧t.k≠3) (hne:l≠ [])
include h2 hne
theorem WZ (h:av eE l=true):fB W l=.ok (mJ ⟨1,1,ByteArray.empty⟩,l.tail):=by
 match l,hne with
 | t::r,_=>obtain⟨a,b⟩:=h2 t r rfl;have h:kO eE t=true:=h;simp[fB,a,b,h]
theorem SF (h1:av eE l=false)(h:av ei l=true):fB W l=.ok (mJ ⟨1,0,ByteArray.empty⟩,l.tail):=by
 match l,hne with
 | t::r,_=>obtain⟨a,b⟩:=h2 t r rfl;have h1:kO eE t=false:=h1;have h:kO ei t=true:=h;simp[fB,a,b,h,h1]
theorem Xa (h1:av eE l=false)(h3:av ei l=false)(h:av cE l=true):fB W l=.ok (mJ cX,l.tail):=by
 match l,hne with
 | t::r,_=>obtain⟨a,b⟩:=h2 t r rfl;have h1:kO eE t=false:=h1;have h3:kO ei t=false:=h3;have h:kO cE t=true:=h;simp[fB,a,b,h,h1,h3]
theorem Xb (h1:av eE l=false)(h3:av ei l=false)(h4:av cE l=false)(h:av aX l=true):fB W l=(do let x ← W;must aq;return x:Ps Tr) l.tail:=by
 match l,hne with
 | t::r,_=>obtain⟨a,b⟩:=h2 t r rfl;have h1:kO eE t=false:=h1;have h3:kO ei t=false:=h3;have h4:kO cE t=false:=h4;have h:kO aX t=true:=h;simp only[fB,a,b,h,h1,h3,h4,if_true,if_false,List.tail_cons];rfl
theorem SG (h1:av eE l=false)(h3:av ei l=false)(h4:av cE l=false)(h:av aX l=false):fB W l=nX W l:=by
 match l,hne with
 | t::r,_=>obtain⟨a,b⟩:=h2 t r rfl;have h1:kO eE t=false:=h1;have h3:kO ei t=false:=h3;have h4:kO cE t=false:=h4;have h:kO aX t=false:=h;simp only[fB,a,b,h,h1,h3,h4,if_true,if_false];rfl
end
theorem L1 {W:Ps Tr} {l:bH} {n:Nat}(h:aN l=.error n):nX W l=.error n:=ai h
theorem L3 {W:Ps Tr} {l r:bH} {nm:ByteArray}(h:aN l=.ok (nm,r))(ho:av aX r=false):nX W l=.ok (Ch nm,r):=by unfold nX;refine(ak h).trans ?_;simp only[ho];rfl
theorem L4 {l r:bH} {nm:ByteArray}(h:aN l=.ok (nm,r))(ho:av aX r=true):nX (az 0) l=I8 nm r.tail:=by unfold nX;refine(ak h).trans ?_;obtain⟨t,q,rfl,_⟩:=fP ho;simp only[ho,if_true];unfold I8;cases fT nm <;> rfl
def Xc (nm:ByteArray):Ex:=⟨2,jm,nm,0,none,0,0⟩
theorem KT (ρ:br)(w:World)(l:bH)(lg dp:Bool)(h:ρ.ij w l lg dp)(hk:∀t r,l=t::r→t.k=2):
  Calls Tryz.prog 166 #[ρ.ptr] w (gq ρ w lg dp (fB (az 0)) l):=by
 obtain⟨t,r,pl,pQ,hl,hlt,hsm,hpl,zg,mM,mA,hp⟩:=h.iB;have aF:=h.jt;have hb0:=aa w (.cells eK 49);have fR:=iX ρ _ l lg dp (h.later hb0);rw[← pQ] at fR;have HQ:=hid (au.new w 49 eK);have HD:=hid (bJ.aL h hb0);have HL:=hid hl;have nD:=h.left;have oI:r.length+1≤ρ.n:=by have:=nD.2;rw[hl] at this;simpa using this
 have Ow:=hid (show(l.length:Int)=(r.length:Int)+1 by rw[hl];rfl);have hsz:(w.alloc (.cells eK 49)).heap.size=w.heap.size+1:=by simp
 have hk:=hk t.w r hl;have HK:=hid hk;have g2:((t.w.k:Int)==2)=true:=by simp;omega
 clear hk;clear pQ hpl zg hp hlt h hb0 hl nD;unfold eK at fR hsz;go_enter Tryz.func166,Tryz.ntmps166;go_wp2_with fail;refine fR.mono ?_;clear fR;rintro e w1 ⟨rfl,b1⟩;have hb1:=aa w1 (.cells (bT t) 46);have Ca:=hid (au.new w1 46 (bT t));have oH:=hid ((HD.out.later b1).later hb1);have jd:=hid ((HQ.out.later b1).later hb1);have X5:w.heap.size+1≤w1.heap.size:=by have:=b1.size;omega
 clear b1 hb1 HD HQ hsz;unfold bT at*;go_upto_region 2 with fail
 generalize w1.alloc _=W1 at*;generalize w1.heap.size=tb at*;obtain⟨u0,u1,u2,u3,v0,v1,v2,v3⟩:=aT Ca.out;obtain⟨c0,c1,c2,c3,f1,f2,f3⟩:=oH.out.at_.facts;rw[Ow.out] at c1;have e1:(ρ.n:Int) - ((r.length:Int)+1)+1=(ρ.n:Int) - r.length:=by omega
 have hst:=br.ij.step (t:=t.w) (l:=r) (by have:=oH.out.at_;rw[HL.out] at this;exact this) (by have:=HK.out;omega);have jf:=hid (oH.out.trans hst);have jN:=hid (jd.out.far (p:=⟨ρ.g,1,none⟩) (by simp;omega) (.int .i64 ((ρ.n:Int) - r.length)));clear hst;unfold br.ptr;go_wp2_with fail;refine(sr 2 t.w.n ⟨#[]⟩ _).mono ?_;rintro e w3 ⟨rfl,b3⟩;have jL:=hid (jf.out.later b3);have fy:=hid (jN.out.later b3);clear b3 jf jN oH jd Ca u0 u1 u2 u3 v0 v1 v2 v3 c0 c1 c2 c3 f1 f2 f3;go_wp2_with (first
  |(refine wpList_store_row rfl 49 (.tmp 2) (.tmp 22) rfl w.heap.size (bl (mQ ⟨2,t.w.n,⟨#[]⟩⟩)).toArray rfl rfl 49 eK fy.out aR rfl (dM _) ?_
    have HR:=hid (fy.out.row (bl (mQ ⟨2,t.w.n,⟨#[]⟩⟩)).toArray)))
 refine bodyPost_ret (v:=ee (mQ ⟨2,t.w.n,⟨#[]⟩⟩)) (results_cell_row Tryz.results166 _ _ w.heap.size 49 (bl (mQ ⟨2,t.w.n,⟨#[]⟩⟩)).toArray (0,0) _ rfl HR.out Tryz.underlying49 rfl aR) rfl ?_;exact cM aF jL.out (wh _ _ ⟨2,t.w.n,⟨#[]⟩⟩) (by rw[HL.out];exact L0 HK.out)
theorem Ic (ρ:br)(w:World)(l:bH)(lg dp:Bool)(h:ρ.ij w l lg dp)(hk:∀t r,l=t::r→t.k=3):
  Calls Tryz.prog 166 #[ρ.ptr] w (gq ρ w lg dp (fB (az 0)) l):=by
 obtain⟨t,r,pl,pQ,hl,hlt,hsm,hpl,zg,mM,mA,hp⟩:=h.iB;have aF:=h.jt;have hb0:=aa w (.cells eK 49);have fR:=iX ρ _ l lg dp (h.later hb0);rw[← pQ] at fR;have HQ:=hid (au.new w 49 eK);have HD:=hid (bJ.aL h hb0);have HL:=hid hl;have nD:=h.left;have oI:r.length+1≤ρ.n:=by have:=nD.2;rw[hl] at this;simpa using this
 have Ow:=hid (show(l.length:Int)=(r.length:Int)+1 by rw[hl];rfl);have hsz:(w.alloc (.cells eK 49)).heap.size=w.heap.size+1:=by simp
 have hk:=hk t.w r hl;have HK:=hid hk;have g2:((t.w.k:Int)==2)=false:=by simp;omega
 have g3:((t.w.k:Int)==3)=true:=by simp;omega
 clear hk;clear pQ hpl zg hp hlt h hb0 hl nD;unfold eK at fR hsz;go_enter Tryz.func166,Tryz.ntmps166;go_wp2_with fail;refine fR.mono ?_;clear fR;rintro e w1 ⟨rfl,b1⟩;have hb1:=aa w1 (.cells (bT t) 46);have Ca:=hid (au.new w1 46 (bT t));have oH:=hid ((HD.out.later b1).later hb1);have jd:=hid ((HQ.out.later b1).later hb1);have X5:w.heap.size+1≤w1.heap.size:=by have:=b1.size;omega
 clear b1 hb1 HD HQ hsz;unfold bT at*;go_upto_region 2 with fail
 generalize w1.alloc _=W1 at*;generalize w1.heap.size=tb at*;obtain⟨u0,u1,u2,u3,v0,v1,v2,v3⟩:=aT Ca.out;obtain⟨c0,c1,c2,c3,f1,f2,f3⟩:=oH.out.at_.facts;rw[Ow.out] at c1;have e1:(ρ.n:Int) - ((r.length:Int)+1)+1=(ρ.n:Int) - r.length:=by omega
 have hst:=br.ij.step (t:=t.w) (l:=r) (by have:=oH.out.at_;rw[HL.out] at this;exact this) (by have:=HK.out;omega);have jf:=hid (oH.out.trans hst);have jN:=hid (jd.out.far (p:=⟨ρ.g,1,none⟩) (by simp;omega) (.int .i64 ((ρ.n:Int) - r.length)));clear hst;unfold br.ptr;go_wp2_with fail;refine(sr 3 0 ⟨t.w.s.toArray⟩ _).mono ?_;rintro e w3 ⟨rfl,b3⟩;have jL:=hid (jf.out.later b3);have fy:=hid (jN.out.later b3);clear b3 jf jN oH jd Ca u0 u1 u2 u3 v0 v1 v2 v3 c0 c1 c2 c3 f1 f2 f3;go_wp2_with (first
  |(refine wpList_store_row rfl 49 (.tmp 2) (.tmp 37) rfl w.heap.size (bl (mQ ⟨3,0,⟨t.w.s.toArray⟩⟩)).toArray rfl rfl 49 eK fy.out aR rfl (dM _) ?_
    have HR:=hid (fy.out.row (bl (mQ ⟨3,0,⟨t.w.s.toArray⟩⟩)).toArray)))
 refine bodyPost_ret (v:=ee (mQ ⟨3,0,⟨t.w.s.toArray⟩⟩)) (results_cell_row Tryz.results166 _ _ w.heap.size 49 (bl (mQ ⟨3,0,⟨t.w.s.toArray⟩⟩)).toArray (0,0) _ rfl HR.out Tryz.underlying49 rfl aR) rfl ?_;exact cM aF jL.out (wh _ _ ⟨3,0,⟨t.w.s.toArray⟩⟩) (by rw[HL.out];exact WY HK.out)
theorem OV (ρ:br)(w:World)(l:bH)(lg dp:Bool)(h:ρ.ij w l lg dp)(hk:∀t r,l=t::r→t.k≠2∧t.k≠3)(fc:av eE l=true):
  Calls Tryz.prog 166 #[ρ.ptr] w (gq ρ w lg dp (fB (az 0)) l):=by
 have Xd:=hid hk;obtain⟨t,r,pl,pQ,hl,hlt,hsm,hpl,zg,mM,mA,hp⟩:=h.iB;have aF:=h.jt;have hb0:=aa w (.cells eK 49);have fR:=iX ρ _ l lg dp (h.later hb0);rw[← pQ] at fR;have HQ:=hid (au.new w 49 eK);have HD:=hid (bJ.aL h hb0);have HL:=hid hl;have nD:=h.left;have oI:r.length+1≤ρ.n:=by have:=nD.2;rw[hl] at this;simpa using this
 have Ow:=hid (show(l.length:Int)=(r.length:Int)+1 by rw[hl];rfl);have hsz:(w.alloc (.cells eK 49)).heap.size=w.heap.size+1:=by simp
 have hk:=hk t.w r hl;have g2:((t.w.k:Int)==2)=false:=by simp;omega
 have g3:((t.w.k:Int)==3)=false:=by simp;omega
 clear hk;clear pQ hpl zg hp hlt h hb0 hl nD;unfold eK at fR hsz;go_enter Tryz.func166,Tryz.ntmps166;go_wp2_with fail;refine fR.mono ?_;clear fR;rintro e w1 ⟨rfl,b1⟩;have hb1:=aa w1 (.cells (bT t) 46);have Ca:=hid (au.new w1 46 (bT t));have oH:=hid ((HD.out.later b1).later hb1);have jd:=hid ((HQ.out.later b1).later hb1);have X5:w.heap.size+1≤w1.heap.size:=by have:=b1.size;omega
 clear b1 hb1 HD HQ hsz;unfold bT at*;go_upto_region 2 with fail
 generalize w1.alloc _=W1 at*;generalize w1.heap.size=tb at*;obtain⟨u0,u1,u2,u3,v0,v1,v2,v3⟩:=aT Ca.out;have hm:=bX ρ W1 l lg dp oH.out.at_ ⟨#[116,114,117,101]⟩;rw[show(⟨#[116,114,117,101]⟩:ByteArray).data.toList=eE from rfl,fc,dy fc] at hm;go_wp2_with fail;refine hm.mono ?_;clear hm;rintro e w2 ⟨rfl,d⟩;have jf:=hid (oH.out.trans d);have jN:=hid (d.blk jd.out (by omega));clear d oH jd Ca u0 u1 u2 u3 v0 v1 v2 v3;generalize hW2:w2=W2 at*;clear hW2;go_wp2_with fail;refine(sr 1 1 ⟨#[]⟩ _).mono ?_;rintro e w9 ⟨rfl,b9⟩;have K0:=hid (jf.out.later b9);have Cb:=hid (jN.out.later b9);clear b9 jf jN;go_wp2_with (first
  |(refine wpList_store_row rfl 49 (.tmp 2) (.tmp 42) rfl w.heap.size (bl (mQ ⟨1,1,⟨#[]⟩⟩)).toArray rfl rfl 49 eK Cb.out aR rfl (dM _) ?_
    have HR:=hid (Cb.out.row (bl (mQ ⟨1,1,⟨#[]⟩⟩)).toArray)))
 refine bodyPost_ret (v:=ee (mQ ⟨1,1,⟨#[]⟩⟩)) (results_cell_row Tryz.results166 _ _ w.heap.size 49 (bl (mQ ⟨1,1,⟨#[]⟩⟩)).toArray (0,0) _ rfl HR.out Tryz.underlying49 rfl aR) rfl ?_;exact cM aF K0.out (wh _ _ ⟨1,1,⟨#[]⟩⟩) (WZ Xd.out (by rw[HL.out];simp) fc)
theorem OW (ρ:br)(w:World)(l:bH)(lg dp:Bool)(h:ρ.ij w l lg dp)(hk:∀t r,l=t::r→t.k≠2∧t.k≠3)(fc:av eE l=false)(fD:av ei l=true):
  Calls Tryz.prog 166 #[ρ.ptr] w (gq ρ w lg dp (fB (az 0)) l):=by
 have Xd:=hid hk;obtain⟨t,r,pl,pQ,hl,hlt,hsm,hpl,zg,mM,mA,hp⟩:=h.iB;have aF:=h.jt;have hb0:=aa w (.cells eK 49);have fR:=iX ρ _ l lg dp (h.later hb0);rw[← pQ] at fR;have HQ:=hid (au.new w 49 eK);have HD:=hid (bJ.aL h hb0);have HL:=hid hl;have nD:=h.left;have oI:r.length+1≤ρ.n:=by have:=nD.2;rw[hl] at this;simpa using this
 have Ow:=hid (show(l.length:Int)=(r.length:Int)+1 by rw[hl];rfl);have hsz:(w.alloc (.cells eK 49)).heap.size=w.heap.size+1:=by simp
 have hk:=hk t.w r hl;have g2:((t.w.k:Int)==2)=false:=by simp;omega
 have g3:((t.w.k:Int)==3)=false:=by simp;omega
 clear hk;clear pQ hpl zg hp hlt h hb0 hl nD;unfold eK at fR hsz;go_enter Tryz.func166,Tryz.ntmps166;go_wp2_with fail;refine fR.mono ?_;clear fR;rintro e w1 ⟨rfl,b1⟩;have hb1:=aa w1 (.cells (bT t) 46);have Ca:=hid (au.new w1 46 (bT t));have oH:=hid ((HD.out.later b1).later hb1);have jd:=hid ((HQ.out.later b1).later hb1);have X5:w.heap.size+1≤w1.heap.size:=by have:=b1.size;omega
 clear b1 hb1 HD HQ hsz;unfold bT at*;go_upto_region 2 with fail
 generalize w1.alloc _=W1 at*;generalize w1.heap.size=tb at*;obtain⟨u0,u1,u2,u3,v0,v1,v2,v3⟩:=aT Ca.out;have hm:=bX ρ W1 l lg dp oH.out.at_ ⟨#[116,114,117,101]⟩;rw[show(⟨#[116,114,117,101]⟩:ByteArray).data.toList=eE from rfl,fc,dm fc] at hm;go_wp2_with fail;refine hm.mono ?_;clear hm;rintro e w2 ⟨rfl,d⟩;have jf:=hid (oH.out.trans d);have jN:=hid (d.blk jd.out (by omega));clear d oH jd Ca u0 u1 u2 u3 v0 v1 v2 v3;generalize hW2:w2=W2 at*;clear hW2;have hm:=bX ρ W2 l lg dp jf.out.at_ ⟨#[102,97,108,115,101]⟩;rw[show(⟨#[102,97,108,115,101]⟩:ByteArray).data.toList=ei from rfl,fD,dy fD] at hm;go_wp2_with fail;refine hm.mono ?_;clear hm;rintro e w3 ⟨rfl,d⟩;have jL:=hid (jf.out.trans d);have fy:=hid (d.blk jN.out (by omega));clear d jf jN;generalize hW3:w3=W3 at*;clear hW3;go_wp2_with fail;refine(sr 1 0 ⟨#[]⟩ _).mono ?_;rintro e w9 ⟨rfl,b9⟩;have K0:=hid (jL.out.later b9);have Cb:=hid (fy.out.later b9);clear b9 jL fy;go_wp2_with (first
  |(refine wpList_store_row rfl 49 (.tmp 2) (.tmp 47) rfl w.heap.size (bl (mQ ⟨1,0,⟨#[]⟩⟩)).toArray rfl rfl 49 eK Cb.out aR rfl (dM _) ?_
    have HR:=hid (Cb.out.row (bl (mQ ⟨1,0,⟨#[]⟩⟩)).toArray)))
 refine bodyPost_ret (v:=ee (mQ ⟨1,0,⟨#[]⟩⟩)) (results_cell_row Tryz.results166 _ _ w.heap.size 49 (bl (mQ ⟨1,0,⟨#[]⟩⟩)).toArray (0,0) _ rfl HR.out Tryz.underlying49 rfl aR) rfl ?_;exact cM aF K0.out (wh _ _ ⟨1,0,⟨#[]⟩⟩) (SF Xd.out (by rw[HL.out];simp) fc fD)
theorem OX (ρ:br)(w:World)(l:bH)(lg dp:Bool)(h:ρ.ij w l lg dp)(hk:∀t r,l=t::r→t.k≠2∧t.k≠3)(fc:av eE l=false)(fD:av ei l=false)(jU:av cE l=true):
  Calls Tryz.prog 166 #[ρ.ptr] w (gq ρ w lg dp (fB (az 0)) l):=by
 have Xd:=hid hk;obtain⟨t,r,pl,pQ,hl,hlt,hsm,hpl,zg,mM,mA,hp⟩:=h.iB;have aF:=h.jt;have hb0:=aa w (.cells eK 49);have fR:=iX ρ _ l lg dp (h.later hb0);rw[← pQ] at fR;have HQ:=hid (au.new w 49 eK);have HD:=hid (bJ.aL h hb0);have HL:=hid hl;have nD:=h.left;have oI:r.length+1≤ρ.n:=by have:=nD.2;rw[hl] at this;simpa using this
 have Ow:=hid (show(l.length:Int)=(r.length:Int)+1 by rw[hl];rfl);have hsz:(w.alloc (.cells eK 49)).heap.size=w.heap.size+1:=by simp
 have hk:=hk t.w r hl;have g2:((t.w.k:Int)==2)=false:=by simp;omega
 have g3:((t.w.k:Int)==3)=false:=by simp;omega
 clear hk;clear pQ hpl zg hp hlt h hb0 hl nD;unfold eK at fR hsz;go_enter Tryz.func166,Tryz.ntmps166;go_wp2_with fail;refine fR.mono ?_;clear fR;rintro e w1 ⟨rfl,b1⟩;have hb1:=aa w1 (.cells (bT t) 46);have Ca:=hid (au.new w1 46 (bT t));have oH:=hid ((HD.out.later b1).later hb1);have jd:=hid ((HQ.out.later b1).later hb1);have X5:w.heap.size+1≤w1.heap.size:=by have:=b1.size;omega
 clear b1 hb1 HD HQ hsz;unfold bT at*;go_upto_region 2 with fail
 generalize w1.alloc _=W1 at*;generalize w1.heap.size=tb at*;obtain⟨u0,u1,u2,u3,v0,v1,v2,v3⟩:=aT Ca.out;have hm:=bX ρ W1 l lg dp oH.out.at_ ⟨#[116,114,117,101]⟩;rw[show(⟨#[116,114,117,101]⟩:ByteArray).data.toList=eE from rfl,fc,dm fc] at hm;go_wp2_with fail;refine hm.mono ?_;clear hm;rintro e w2 ⟨rfl,d⟩;have jf:=hid (oH.out.trans d);have jN:=hid (d.blk jd.out (by omega));clear d oH jd Ca u0 u1 u2 u3 v0 v1 v2 v3;generalize hW2:w2=W2 at*;clear hW2;have hm:=bX ρ W2 l lg dp jf.out.at_ ⟨#[102,97,108,115,101]⟩;rw[show(⟨#[102,97,108,115,101]⟩:ByteArray).data.toList=ei from rfl,fD,dm fD] at hm;go_wp2_with fail;refine hm.mono ?_;clear hm;rintro e w3 ⟨rfl,d⟩;have jL:=hid (jf.out.trans d);have fy:=hid (d.blk jN.out (by omega));clear d jf jN;generalize hW3:w3=W3 at*;clear hW3;have hm:=bX ρ W3 l lg dp jL.out.at_ ⟨#[110,117,108,108]⟩;rw[show(⟨#[110,117,108,108]⟩:ByteArray).data.toList=cE from rfl,jU,dy jU] at hm;go_wp2_with fail;refine hm.mono ?_;clear hm;rintro e w4 ⟨rfl,d⟩;have jX:=hid (jL.out.trans d);have mE:=hid (d.blk fy.out (by omega));clear d jL fy;generalize Ib:w4=W4 at*;clear Ib;go_wp2_with fail;refine(sr 0 0 ⟨#[]⟩ _).mono ?_;rintro e w9 ⟨rfl,b9⟩;have K0:=hid (jX.out.later b9);have Cb:=hid (mE.out.later b9);clear b9 jX mE;go_wp2_with (first
  |(refine wpList_store_row rfl 49 (.tmp 2) (.tmp 52) rfl w.heap.size (bl (mQ ⟨0,0,⟨#[]⟩⟩)).toArray rfl rfl 49 eK Cb.out aR rfl (dM _) ?_
    have HR:=hid (Cb.out.row (bl (mQ ⟨0,0,⟨#[]⟩⟩)).toArray)))
 refine bodyPost_ret (v:=ee (mQ ⟨0,0,⟨#[]⟩⟩)) (results_cell_row Tryz.results166 _ _ w.heap.size 49 (bl (mQ ⟨0,0,⟨#[]⟩⟩)).toArray (0,0) _ rfl HR.out Tryz.underlying49 rfl aR) rfl ?_;exact cM aF K0.out (wh _ _ ⟨0,0,⟨#[]⟩⟩) (Xa Xd.out (by rw[HL.out];simp) fc fD jU)
theorem Ie (ρ:br)(w:World)(l:bH)(lg dp:Bool)(h:ρ.ij w l lg dp)(hk:∀t r,l=t::r→t.k≠2∧t.k≠3)(fc:av eE l=false)(fD:av ei l=false)(jU:av cE l=false)(mR:av aX l=true)(IH:Mu ρ (8*l.length)):
  Calls Tryz.prog 166 #[ρ.ptr] w (gq ρ w lg dp (fB (az 0)) l):=by
 have Xd:=hid hk;have QJ:=om mR;obtain⟨t,r,pl,pQ,hl,hlt,hsm,hpl,zg,mM,mA,hp⟩:=h.iB;have aF:=h.jt;have hb0:=aa w (.cells eK 49);have fR:=iX ρ _ l lg dp (h.later hb0);rw[← pQ] at fR;have HQ:=hid (au.new w 49 eK);have HD:=hid (bJ.aL h hb0);have HL:=hid hl;have nD:=h.left;have oI:r.length+1≤ρ.n:=by have:=nD.2;rw[hl] at this;simpa using this
 have Ow:=hid (show(l.length:Int)=(r.length:Int)+1 by rw[hl];rfl);have hsz:(w.alloc (.cells eK 49)).heap.size=w.heap.size+1:=by simp
 have hk:=hk t.w r hl;have g2:((t.w.k:Int)==2)=false:=by simp;omega
 have g3:((t.w.k:Int)==3)=false:=by simp;omega
 clear hk;clear pQ hpl zg hp hlt h hb0 hl nD;unfold eK at fR hsz;go_enter Tryz.func166,Tryz.ntmps166;go_wp2_with fail;refine fR.mono ?_;clear fR;rintro e w1 ⟨rfl,b1⟩;have hb1:=aa w1 (.cells (bT t) 46);have Ca:=hid (au.new w1 46 (bT t));have oH:=hid ((HD.out.later b1).later hb1);have jd:=hid ((HQ.out.later b1).later hb1);have X5:w.heap.size+1≤w1.heap.size:=by have:=b1.size;omega
 clear b1 hb1 HD HQ hsz;unfold bT at*;go_upto_region 2 with fail
 generalize w1.alloc _=W1 at*;generalize w1.heap.size=tb at*;obtain⟨u0,u1,u2,u3,v0,v1,v2,v3⟩:=aT Ca.out;have hm:=bX ρ W1 l lg dp oH.out.at_ ⟨#[116,114,117,101]⟩;rw[show(⟨#[116,114,117,101]⟩:ByteArray).data.toList=eE from rfl,fc,dm fc] at hm;go_wp2_with fail;refine hm.mono ?_;clear hm;rintro e w2 ⟨rfl,d⟩;have jf:=hid (oH.out.trans d);have jN:=hid (d.blk jd.out (by omega));clear d oH jd Ca u0 u1 u2 u3 v0 v1 v2 v3;generalize hW2:w2=W2 at*;clear hW2;have hm:=bX ρ W2 l lg dp jf.out.at_ ⟨#[102,97,108,115,101]⟩;rw[show(⟨#[102,97,108,115,101]⟩:ByteArray).data.toList=ei from rfl,fD,dm fD] at hm;go_wp2_with fail;refine hm.mono ?_;clear hm;rintro e w3 ⟨rfl,d⟩;have jL:=hid (jf.out.trans d);have fy:=hid (d.blk jN.out (by omega));clear d jf jN;generalize hW3:w3=W3 at*;clear hW3;have hm:=bX ρ W3 l lg dp jL.out.at_ ⟨#[110,117,108,108]⟩;rw[show(⟨#[110,117,108,108]⟩:ByteArray).data.toList=cE from rfl,jU,dm jU] at hm;go_wp2_with fail;refine hm.mono ?_;clear hm;rintro e w4 ⟨rfl,d⟩;have jX:=hid (jL.out.trans d);have mE:=hid (d.blk fy.out (by omega));clear d jL fy;generalize Ib:w4=W4 at*;clear Ib;have hm:=bX ρ W4 l lg dp jX.out.at_ ⟨#[40]⟩;rw[show(⟨#[40]⟩:ByteArray).data.toList=aX from rfl,mR,dy mR] at hm;go_wp2_with fail;refine hm.mono ?_;clear hm;rintro e w5 ⟨rfl,d⟩;have vx:=hid (jX.out.trans d);have Bc:=hid (d.blk mE.out (by omega));clear d jX mE;generalize K9:w5=W5 at*;clear K9;have HE:=hid (Xb (W:=az 0) Xd.out (by rw[HL.out];simp) fc fD jU mR);go_wp2_with fail;refine(IH 0 l.tail W5 lg dp (by omega) (by omega) vx.out.at_).mono ?_;intro e w6 hp;rcases hp.cases with ⟨t6,r6,v,aO,rfl,y,rfl,hat,d⟩|⟨m,ar,rfl,hg⟩;case inr=>have HF:=hid (HE.out.trans (ai ar));have HG:=hid vx.out.grown;clear hp ar;go_wp2_with fail;exact ag rfl (bY HF.out HG.out hg)
 have L5:=hid (HE.out.trans (ak aO));have hq5:=Bc.out.lt;have hx:=aa w6 (.cells (bl y).toArray 49);have hD6:=(vx.out.trans d).later hx;have qL:=hid ((d.blk Bc.out (by omega)).later hx);have VL:=hid (au.new w6 49 (bl y).toArray);have V9:=hid ((hat.more (show w.heap.size+1≤W5.heap.size by omega)).later hx);have yR:=hid hD6;have hq6:w.heap.size < w6.heap.size:=by have:=d.size;omega
 clear hp aO hx hD6 d hat vx Bc HE;unfold ee;unfold bl at*;go_upto_region 16 with fail
 generalize (World.alloc _ _)=W6 at*;generalize w6.heap.size=qx at*;have hb:=aa W6 (.cells (aj [aq]) 9);have sf:=yR.out.lt;have HB:=hid (yR.out.later hb);have SH:=hid (qL.out.later hb);have Zm:=hid (VL.out.later hb);have HT7:=hid (V9.out.later hb);have hm:=bF ρ _ _ lg dp HB.out.at_ [aq] W6.heap.size 1 rfl (au.new W6 _ _) (by omega) (by omega);clear hb yR qL VL V9;unfold aj strOf at*;simp only[List.map_cons,List.map_nil] at hm HB SH Zm HT7;rw[show aq.toArray= #[41] from rfl] at hm HB SH Zm HT7;go_wp2_with fail;refine hm.mono ?_;clear hm;intro e w8 hp;rcases hp.cases with ⟨_,r8,v,aO,rfl,rfl,d⟩|⟨m,ar,rfl,hg⟩;case inr=>have HF:=hid (L5.out.trans (ai (show must aq r6=.error m by rw[← aD];exact ar)));have HG:=hid HB.out.grown;clear hp ar;go_wp2_with fail;exact ag rfl (bY HF.out HG.out hg)
 have ky:must aq r6=.ok ((),r8):=by rw[← aD];exact aO
 have HE8:=hid (L5.out.trans (ak ky));have QM:=hid (HB.out.trans d);have AO:=hid (d.blk SH.out (by omega));have HX8:=hid (d.blk Zm.out (by omega));have HT8:=hid (HT7.out.grown d.grown (by omega));clear hp aO ky d HB SH Zm HT7 L5;go_wp2_with (first
  |(refine wpList_load_row rfl 49 (.tmp 4) rfl qx rfl 49 (bl y).toArray (0,0) _ HX8.out Tryz.underlying49 rfl aR ?_)
  |(refine wpList_store_row rfl 49 (.tmp 2) (.tmp 61) rfl w.heap.size (bl y).toArray rfl rfl 49 eK AO.out aR rfl (dM _) ?_
    have HR:=hid (AO.out.row (bl y).toArray)))
 refine bodyPost_ret (v:=ee y) (results_cell_row Tryz.results166 _ _ w.heap.size 49 (bl y).toArray (0,0) _ rfl HR.out Tryz.underlying49 rfl aR) rfl ?_;exact cM aF QM.out HT8.out (HE8.out.trans rfl)
theorem Fo (ρ:br)(w:World)(l:bH)(lg dp:Bool)(h:ρ.ij w l lg dp)(hk:∀t r,l=t::r→t.k≠2∧t.k≠3)(fc:av eE l=false)(fD:av ei l=false)(jU:av cE l=false)(mR:av aX l=false)(IH:Mu ρ (8*l.length)):
  Calls Tryz.prog 166 #[ρ.ptr] w (gq ρ w lg dp (fB (az 0)) l):=by
 have Xd:=hid hk;obtain⟨t,r,pl,pQ,hl,hlt,hsm,hpl,zg,mM,mA,hp⟩:=h.iB;have aF:=h.jt;have hb0:=aa w (.cells eK 49);have fR:=iX ρ _ l lg dp (h.later hb0);rw[← pQ] at fR;have HQ:=hid (au.new w 49 eK);have HD:=hid (bJ.aL h hb0);have HL:=hid hl;have nD:=h.left;have oI:r.length+1≤ρ.n:=by have:=nD.2;rw[hl] at this;simpa using this
 have Ow:=hid (show(l.length:Int)=(r.length:Int)+1 by rw[hl];rfl);have hsz:(w.alloc (.cells eK 49)).heap.size=w.heap.size+1:=by simp
 have hk:=hk t.w r hl;have g2:((t.w.k:Int)==2)=false:=by simp;omega
 have g3:((t.w.k:Int)==3)=false:=by simp;omega
 clear hk;clear pQ hpl zg hp hlt h hb0 hl nD;unfold eK at fR hsz;go_enter Tryz.func166,Tryz.ntmps166;go_wp2_with fail;refine fR.mono ?_;clear fR;rintro e w1 ⟨rfl,b1⟩;have hb1:=aa w1 (.cells (bT t) 46);have Ca:=hid (au.new w1 46 (bT t));have oH:=hid ((HD.out.later b1).later hb1);have jd:=hid ((HQ.out.later b1).later hb1);have X5:w.heap.size+1≤w1.heap.size:=by have:=b1.size;omega
 clear b1 hb1 HD HQ hsz;unfold bT at*;go_upto_region 2 with fail
 generalize w1.alloc _=W1 at*;generalize w1.heap.size=tb at*;obtain⟨u0,u1,u2,u3,v0,v1,v2,v3⟩:=aT Ca.out;have hm:=bX ρ W1 l lg dp oH.out.at_ ⟨#[116,114,117,101]⟩;rw[show(⟨#[116,114,117,101]⟩:ByteArray).data.toList=eE from rfl,fc,dm fc] at hm;go_wp2_with fail;refine hm.mono ?_;clear hm;rintro e w2 ⟨rfl,d⟩;have jf:=hid (oH.out.trans d);have jN:=hid (d.blk jd.out (by omega));clear d oH jd Ca u0 u1 u2 u3 v0 v1 v2 v3;generalize hW2:w2=W2 at*;clear hW2;have hm:=bX ρ W2 l lg dp jf.out.at_ ⟨#[102,97,108,115,101]⟩;rw[show(⟨#[102,97,108,115,101]⟩:ByteArray).data.toList=ei from rfl,fD,dm fD] at hm;go_wp2_with fail;refine hm.mono ?_;clear hm;rintro e w3 ⟨rfl,d⟩;have jL:=hid (jf.out.trans d);have fy:=hid (d.blk jN.out (by omega));clear d jf jN;generalize hW3:w3=W3 at*;clear hW3;have hm:=bX ρ W3 l lg dp jL.out.at_ ⟨#[110,117,108,108]⟩;rw[show(⟨#[110,117,108,108]⟩:ByteArray).data.toList=cE from rfl,jU,dm jU] at hm;go_wp2_with fail;refine hm.mono ?_;clear hm;rintro e w4 ⟨rfl,d⟩;have jX:=hid (jL.out.trans d);have mE:=hid (d.blk fy.out (by omega));clear d jL fy;generalize Ib:w4=W4 at*;clear Ib;have hm:=bX ρ W4 l lg dp jX.out.at_ ⟨#[40]⟩;rw[show(⟨#[40]⟩:ByteArray).data.toList=aX from rfl,mR,dm mR] at hm;go_wp2_with fail;refine hm.mono ?_;clear hm;rintro e w5 ⟨rfl,d⟩;have vx:=hid (jX.out.trans d);have Bc:=hid (d.blk mE.out (by omega));clear d jX mE;generalize K9:w5=W5 at*;clear K9;have HE:=hid (SG (W:=az 0) Xd.out (by rw[HL.out];simp) fc fD jU mR);go_wp2_with fail;refine(fg ρ W5 l lg dp vx.out.at_).mono ?_;intro e w6 hp;rcases hp.cases with ⟨nm,r6,v,aO,rfl,rfl,d⟩|⟨m,ar,rfl,hg⟩;case inr=>have HF:=hid (HE.out.trans (L1 ar));have HG:=hid vx.out.grown;clear hp ar;go_wp2_with fail;exact ag rfl (bY HF.out HG.out hg)
 have hl6:r6.length≤l.length:=bB.len aO;have hq5:=Bc.out.lt;have yR:=hid (vx.out.trans d);have qL:=hid (d.blk Bc.out (by omega));have oM:=hid aO;have hm:=bX ρ w6 r6 lg dp yR.out.at_ ⟨#[40]⟩;rw[show(⟨#[40]⟩:ByteArray).data.toList=aX from rfl] at hm;clear hp aO d vx Bc;cases ho:av aX r6
 ·rw[ho,dm ho] at hm;have HF:=hid (HE.out.trans (L3 oM.out ho));clear ho;go_wp2_with fail;refine hm.mono ?_;clear hm;rintro e w7 ⟨rfl,d⟩;have Xe:=hid (yR.out.trans d);have SH:=hid (d.blk qL.out (by omega));clear d yR qL;go_wp2_with (first
   |(refine wpList_store_row rfl 49 (.tmp 2) (.tmp 68) rfl w.heap.size (bl (Xc nm)).toArray rfl rfl 49 eK SH.out aR rfl (dM _) ?_
     have HR:=hid (SH.out.row (bl (Xc nm)).toArray)))
  refine bodyPost_ret (v:=ee (Xc nm)) (results_cell_row Tryz.results166 _ _ w.heap.size 49 (bl (Xc nm)).toArray (0,0) _ rfl HR.out Tryz.underlying49 rfl aR) rfl ?_;exact cM aF Xe.out (Rj _ _ nm) HF.out
 ·rw[ho,dy ho] at hm;have HF:=hid (HE.out.trans (L4 oM.out ho));have hhl:=om ho;obtain⟨t0,q0,hr6,ht0⟩:=fP ho;have H0:=hid (show(aW.good (t0::r6.tail)).of ρ.ws by have:=yR.out.at_.of;rw[hr6] at this ⊢;exact this);clear ho hr6;go_wp2_with fail;refine hm.mono ?_;clear hm;rintro e w7 ⟨rfl,d⟩;have Xe:=hid (yR.out.trans d);have SH:=hid (d.blk qL.out (by omega));clear d yR qL;generalize hW7:w7=W7 at*;clear hW7;have akQ:r6.tail.length < l.length:=by omega
  generalize r6.tail=r7 at*;have akR:=Xe.out.at_.left;obtain⟨c0,c1,c2,c3,f1,f2,f3⟩:=Xe.out.at_.facts;have e7:(ρ.n:Int) - (r7.length:Int) - 1=(ρ.n:Int) - ((r7.length:Int)+1):=by omega
  have nO:=Xe.out.at_.small;have hfn:=KR ρ W7 r7 lg dp Xe.out.at_ nm t0 H0.out (fun l2 W2 hl2 hg2=>IH 0 l2 W2 lg dp (by omega) (by omega) hg2);unfold br.ptr at*;go_wp2_with fail;refine hfn.mono ?_;clear hfn c0 c1 c2 c3 f1 f2 f3;intro e w8 hp;rcases hp.cases with ⟨t8,r8,v,aO,rfl,y,rfl,hat,d⟩|⟨m,ar,rfl,hg⟩;case inr=>have Zn:=hid (HF.out.trans ar);have HG:=hid Xe.out.grown;clear hp ar;go_wp2_with fail;exact ag rfl (bY Zn.out HG.out hg)
  have hq7:=SH.out.lt;have QM:=hid (Xe.out.trans d);have AO:=hid (d.blk SH.out (by omega));have HT8:=hid (hat.more (show w.heap.size+1≤W7.heap.size by omega));have Zn:=hid (HF.out.trans aO);clear hp aO d hat Xe SH;go_wp2_with (first
   |(refine wpList_store_row rfl 49 (.tmp 2) (.tmp 76) rfl w.heap.size (bl (y)).toArray rfl rfl 49 eK AO.out aR rfl (dM _) ?_
     have HR:=hid (AO.out.row (bl (y)).toArray)))
  refine bodyPost_ret (v:=ee (y)) (results_cell_row Tryz.results166 _ _ w.heap.size 49 (bl (y)).toArray (0,0) _ rfl HR.out Tryz.underlying49 rfl aR) rfl ?_;exact cM aF QM.out HT8.out Zn.out
theorem L6 (ρ:br)(w:World)(l:bH)(lg dp:Bool)(h:ρ.ij w l lg dp)(IH:Mu ρ (8*l.length)):
  Calls Tryz.prog 166 #[ρ.ptr] w (gq ρ w lg dp (az 7) l):=by
 rw[oZ];obtain⟨t,r,pl,pQ,hl,_⟩:=h.iB;have all:∀ {p:Wd→Prop},p t.w→∀x q,l=x::q→p x:=by intro p hp x q he;rw[hl] at he;injection he with h1 h2;rw[← h1];exact hp
 by_cases h2:t.w.k=2
 ·exact KT ρ w l lg dp h (all (p:=fun x=>x.k=2) h2)
 by_cases h3:t.w.k=3
 ·exact Ic ρ w l lg dp h (all (p:=fun x=>x.k=3) h3)
 have hk:=all (p:=fun x=>x.k≠2∧x.k≠3) ⟨h2,h3⟩;cases a:av eE l
 ·cases b:av ei l
  ·cases c:av cE l
   ·cases d:av aX l
    ·exact Fo ρ w l lg dp h hk a b c d IH
    ·exact Ie ρ w l lg dp h hk a b c d IH
   ·exact OX ρ w l lg dp h hk a b c
  ·exact OW ρ w l lg dp h hk a b
 ·exact OV ρ w l lg dp h hk a
theorem Zo (ρ:br):∀m,Mu ρ m
 | 0=>fun lv l W lg dp h1 h2 h3=>absurd h2 (by omega)
 | m+1=>fun lv l W lg dp h1 h2 h3=>by
   have ih:=Zo ρ m
   match lv,h1 with
   | 0,_=>exact WE ρ W l lg dp h3 (ih.less (by omega))
   | 1,_=>exact WG ρ W l lg dp h3 (ih.less (by omega))
   | 2,_=>exact aaH ρ W l lg dp h3 (ih.less (by omega))
   | 3,_=>exact aaN ρ W l lg dp h3 (ih.less (by omega))
   | 4,_=>exact WH ρ W l lg dp h3 (ih.less (by omega))
   | 5,_=>exact WI ρ W l lg dp h3 (ih.less (by omega))
   | 6,_=>exact aaI ρ W l lg dp h3 (ih.less (by omega))
   | 7,_=>exact L6 ρ W l lg dp h3 (ih.less (by omega))
theorem afX (ρ:br)(w:World)(l:bH)(lg dp:Bool)(h:ρ.ij w l lg dp):Calls Tryz.prog 104 #[ρ.ptr] w (gq ρ w lg dp cW l):=Zo ρ (8*l.length+8) 0 l w lg dp (by omega) (by omega) h
def kI:List Nat→Nat
 | []=>0
 | a::l=>max a (kI l)
theorem yl:∀(l:List Nat) (a:Nat),kI (l++ [a])=max (kI l) a
 | [],a=>by simp[kI]
 | b::l,a=>by simp only[List.cons_append,kI,yl l a];omega
theorem Dp {l:List Nat} {i d:Nat}(h:l[i]?=some d):kI (l.take (i+1))=max (kI (l.take i)) d:=by rw[List.take_add_one,h];exact yl _ _
theorem Bd:∀ {l:List Nat} {d:Nat},d∈l→d≤kI l
 | a::l,d,h=>by
   rcases List.mem_cons.1 h with rfl | h
   ·simp only[kI];omega
   ·have:=Bd h;simp only[kI];omega
theorem qN:∀(l:List Nat) (i:Nat),kI (l.take i)≤kI l
 | [],i=>by simp[kI]
 | a::l,0=>by simp[kI]
 | a::l,i+1=>by have:=qN l i;simp only[List.take_succ_cons,kI];omega
theorem su:∀ts:List Tr,Tr.pn ts=kI (ts.map Tr.depth)
 | []=>by simp[Tr.pn,kI]
 | t::ts=>by simp[Tr.pn,kI,su ts]
def ym (f:FuncId)(w:World)(y:Ex)(d:Nat):Prop:=∀W,Below w.heap.size w W→Calls Tryz.prog f #[ee y] W fun e w'=>e=.returned (.int .i64 d)∧Below W.heap.size W w'
theorem Ig (w:World)(y:Ex)(ys:List Ex)(ds:List Nat)(S:Nat→Prop)(hS:∀b,S b→b < w.heap.size)(hn:y.n=ys.length)(hA:RL bl 7 w S y.A ys)(hd:ds.length=ys.length)(hD:∀(i:Nat) x d,ys[i]?=some x→ds[i]?=some d→ym 26 w x d)(hm:kI ds≤1000000)(hl:ys.length≤1000000000):ym 26 w y (kI ds+1):=by
 intro W hW;obtain⟨L8,yv,Dq,xB,yA,yn,yc⟩:=y;have hn:yn=ys.length:=hn;subst hn;have HD:=hid hD;have HM:=hid hm;have HDL:=hid hd;have HA:=hid hA;clear hD hm hd hA;unfold ee bl;have HX:=au.new W 49 #[.int .u8 L8,.int .u8 yv.k,.int .i64 yv.n,.string yv.s,.string Dq,.int .i64 xB,.slice yA ys.length yc];have hb:=aa W (.cells #[.int .u8 L8,.int .u8 yv.k,.int .i64 yv.n,.string yv.s,.string Dq,.int .i64 xB,.slice yA ys.length yc] 49);go_enter Tryz.func26,Tryz.ntmps26;go_wp2_with fail;generalize W.alloc _=W1 at*;have gI:=hid hb;have HW:=hid hW;clear hb;go_loopw [3,4] (fun m iv wr=>∃i:Nat,i≤ys.length∧iv=.int .i64 i∧m=.int .i64 (kI (ds.take i))∧Below W1.heap.size W1 wr) (fun _ iv _=>ys.length - (intOf iv).toNat);case atStart=>exact⟨0,Nat.zero_le _,rfl,rfl,Below.refl _ _⟩
 case round=>
  obtain⟨i,hi,rfl,rfl,iY⟩:=hrel;have x6:=(HX.later iY).cell 6;simp only[List.getElem?_toArray,List.getElem?_cons_zero,List.getElem?_cons_succ] at x6;have X6:=qN ds i;have hmm:=HM.out;by_cases hlt:i < ys.length
  ·obtain⟨x,hx⟩:∃x,ys[i]?=some x:=⟨_,List.getElem?_eq_getElem hlt⟩;obtain⟨d,hdd⟩:∃d,ds[i]?=some d:=⟨_,List.getElem?_eq_getElem (by rw[HDL.out];exact hlt)⟩;have hDx:=HD.out i x d hx hdd;have hdm:=Bd (List.mem_of_getElem? hdd);have HMT:=hid (Dp hdd);have hwr:Below w.heap.size w wr:=hW.trans ((ah.then gI.out iY).mono hW.size);rcases HA.out with h0 |⟨b,off,uk,rq,hc⟩
   ·subst h0;simp at hlt
   have hcell:=fun j u hu=>(hwr.cell (p:=⟨b,off+i*7+j,none⟩) (hS b rq)).trans (hc i x j u hx hu)
   have k0:=hcell 0 _ rfl;have k1:=hcell 1 _ rfl;have k2:=hcell 2 _ rfl;have k3:=hcell 3 _ rfl;have k4:=hcell 4 _ rfl;have k5:=hcell 5 _ rfl;have k6:=hcell 6 _ rfl;simp only[Nat.add_zero] at k0;clear hx hdd hcell hc;subst uk;go_wp2_with fail;refine(hDx wr hwr).mono ?_;rintro e w' ⟨rfl,b'⟩;go_wp2_with fail;go_roundw;case rel=>refine⟨i+1,by omega,by go_num,?_,iY.trans (b'.mono iY.size)⟩;rw[HMT.out,show(max ((kI (ds.take i):Nat):Int) (d:Int))=((max (kI (ds.take i)) d:Nat):Int) by omega]
   case measure=>simp[intOf];omega
  ·obtain rfl:i=ys.length:=by omega
   have nk:ds.take ys.length=ds:=List.take_of_length_le (Nat.le_of_eq HDL.out);rw[nk] at X6;simp only[nk];go_wp2_with fail;go_ret;exact⟨lH (by omega),ah.then gI.out iY⟩
theorem Ih (w:World)(y:Ex)(ys:List Ex)(ds:List Nat)(S:Nat→Prop)(hS:∀b,S b→b < w.heap.size)(hn:y.n=ys.length)(hA:RL bl 7 w S y.A ys)(hd:ds.length=ys.length)(hD:∀(i:Nat) x d,ys[i]?=some x→ds[i]?=some d→ym 105 w x d)(hm:kI ds≤1000000)(hl:ys.length≤1000000000):ym 105 w y (kI ds+1):=by
 intro W hW;obtain⟨L8,yv,Dq,xB,yA,yn,yc⟩:=y;have hn:yn=ys.length:=hn;subst hn;have HD:=hid hD;have HM:=hid hm;have HDL:=hid hd;have HA:=hid hA;clear hD hm hd hA;unfold ee bl;have HX:=au.new W 49 #[.int .u8 L8,.int .u8 yv.k,.int .i64 yv.n,.string yv.s,.string Dq,.int .i64 xB,.slice yA ys.length yc];have hb:=aa W (.cells #[.int .u8 L8,.int .u8 yv.k,.int .i64 yv.n,.string yv.s,.string Dq,.int .i64 xB,.slice yA ys.length yc] 49);go_enter Tryz.func105,Tryz.ntmps105;have x6:=HX.cell 6;simp only[List.getElem?_toArray,List.getElem?_cons_zero,List.getElem?_cons_succ] at x6;go_wp2_with fail;clear x6;generalize W.alloc _=W1 at*;have gI:=hid hb;have HW:=hid hW;clear hb;go_loopw [3,9] (fun m iv wr=>∃i:Nat,i≤ys.length∧iv=.int .i64 i∧m=.int .i64 (kI (ds.take i))∧Below W1.heap.size W1 wr) (fun _ iv _=>ys.length - (intOf iv).toNat);case atStart=>exact⟨0,Nat.zero_le _,rfl,rfl,Below.refl _ _⟩
 case round=>
  obtain⟨i,hi,rfl,rfl,iY⟩:=hrel;have X6:=qN ds i;have hmm:=HM.out;by_cases hlt:i < ys.length
  ·obtain⟨x,hx⟩:∃x,ys[i]?=some x:=⟨_,List.getElem?_eq_getElem hlt⟩;obtain⟨d,hdd⟩:∃d,ds[i]?=some d:=⟨_,List.getElem?_eq_getElem (by rw[HDL.out];exact hlt)⟩;have hDx:=HD.out i x d hx hdd;have hdm:=Bd (List.mem_of_getElem? hdd);have HMT:=hid (Dp hdd);have hwr:Below w.heap.size w wr:=hW.trans ((ah.then gI.out iY).mono hW.size);rcases HA.out with h0 |⟨b,off,uk,rq,hc⟩
   ·subst h0;simp at hlt
   have hcell:=fun j u hu=>(hwr.cell (p:=⟨b,off+i*7+j,none⟩) (hS b rq)).trans (hc i x j u hx hu)
   have k0:=hcell 0 _ rfl;have k1:=hcell 1 _ rfl;have k2:=hcell 2 _ rfl;have k3:=hcell 3 _ rfl;have k4:=hcell 4 _ rfl;have k5:=hcell 5 _ rfl;have k6:=hcell 6 _ rfl;simp only[Nat.add_zero] at k0;clear hx hdd hcell hc;subst uk;go_wp2_with fail;have bx:=aa wr (mX x);refine(hDx _ (Below.trans hwr (bx.mono hwr.size))).mono ?_;rintro e w' ⟨rfl,b0⟩;have b':=ah.then bx b0
   go_wp2_with fail;go_roundw;case rel=>refine⟨i+1,by omega,by go_num,?_,iY.trans (b'.mono iY.size)⟩;rw[HMT.out,show(max ((kI (ds.take i):Nat):Int) (d:Int))=((max (kI (ds.take i)) d:Nat):Int) by omega]
   case measure=>simp[intOf];omega
  ·obtain rfl:i=ys.length:=by omega
   have nk:ds.take ys.length=ds:=List.take_of_length_le (Nat.le_of_eq HDL.out);rw[nk] at X6;simp only[nk];go_wp2_with fail;go_ret;exact⟨lH (by omega),ah.then gI.out iY⟩
mutual
def Tr.thin:Tr→Prop
 | .mk op v name width args=>args.length≤1000000000∧Tr.ma args
def Tr.ma:List Tr→Prop
 | []=>True
 | t::ts=>t.thin∧Tr.ma ts
end
mutual
theorem Tr.abr {w:World} {S:Nat→Prop}(hS:∀b,S b→b < w.heap.size):∀(t:Tr) (y:Ex),t.at_ w S y→t.thin→t.depth≤1000000→ym 26 w y t.depth
 | .mk op v name width args,y,h,ht,hd=>by unfold Tr.at_ at h;obtain⟨_,_,_,_,hn,ys,hr,ha⟩:=h;unfold Tr.thin at ht;simp only[Tr.depth] at hd ⊢;have hl:=Tr.gK.length ha;rw[su] at hd ⊢;exact Ig w y ys (args.map Tr.depth) S hS (by rw[hn,hl]) hr (by simp[hl]) (Tr.Zp hS args ys ha ht.2 (by omega)) (by omega) (by rw[hl];exact ht.1)
theorem Tr.Zp {w:World} {S:Nat→Prop}(hS:∀b,S b→b < w.heap.size):∀(ts:List Tr) (ys:List Ex),Tr.gK w S ts ys→Tr.ma ts→kI (ts.map Tr.depth)≤1000000→∀(i:Nat) x d,ys[i]?=some x→(ts.map Tr.depth)[i]?=some d→ym 26 w x d
 | [],ys,h,_,_,i,x,d,hx,hd=>by simp at hd
 | t::ts,ys,h,ht,hm,i,x,d,hx,hd=>by
   unfold Tr.gK at h;obtain⟨y,ys',rfl,h1,h2⟩:=h;unfold Tr.ma at ht;simp only[List.map_cons,kI] at hm
   match i,hx,hd with
   | 0,hx,hd=>simp at hx hd;subst hx hd;exact Tr.abr hS t y h1 ht.1 (by omega)
   | i+1,hx,hd=>exact Tr.Zp hS ts ys' h2 ht.2 (by omega) i x d (by simpa using hx) (by simpa using hd)
end
mutual
theorem Tr.abt {w:World} {S:Nat→Prop}(hS:∀b,S b→b < w.heap.size):∀(t:Tr) (y:Ex),t.at_ w S y→t.thin→t.depth≤1000000→ym 105 w y t.depth
 | .mk op v name width args,y,h,ht,hd=>by unfold Tr.at_ at h;obtain⟨_,_,_,_,hn,ys,hr,ha⟩:=h;unfold Tr.thin at ht;simp only[Tr.depth] at hd ⊢;have hl:=Tr.gK.length ha;rw[su] at hd ⊢;exact Ih w y ys (args.map Tr.depth) S hS (by rw[hn,hl]) hr (by simp[hl]) (Tr.Zq hS args ys ha ht.2 (by omega)) (by omega) (by rw[hl];exact ht.1)
theorem Tr.Zq {w:World} {S:Nat→Prop}(hS:∀b,S b→b < w.heap.size):∀(ts:List Tr) (ys:List Ex),Tr.gK w S ts ys→Tr.ma ts→kI (ts.map Tr.depth)≤1000000→∀(i:Nat) x d,ys[i]?=some x→(ts.map Tr.depth)[i]?=some d→ym 105 w x d
 | [],ys,h,_,_,i,x,d,hx,hd=>by simp at hd
 | t::ts,ys,h,ht,hm,i,x,d,hx,hd=>by
   unfold Tr.gK at h;obtain⟨y,ys',rfl,h1,h2⟩:=h;unfold Tr.ma at ht;simp only[List.map_cons,kI] at hm
   match i,hx,hd with
   | 0,hx,hd=>simp at hx hd;subst hx hd;exact Tr.abt hS t y h1 ht.1 (by omega)
   | i+1,hx,hd=>exact Tr.Zq hS ts ys' h2 ht.2 (by omega) i x d (by simpa using hx) (by simpa using hd)
end
end Go.Proofs.YtcneefmaghoejaaGreatDoor
