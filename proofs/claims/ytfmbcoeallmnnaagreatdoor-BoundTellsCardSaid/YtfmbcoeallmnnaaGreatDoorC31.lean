/- Parts of the proof. -/
import Derived.Test.YtfmbcoeallmnnaaGreatDoorC29
import Derived.Test.YtfmbcoeallmnnaaGreatDoorC30
namespace Go.Proofs.YtfmbcoeallmnnaaGreatDoor.R
open Go.Lib (hid)
open Go.ChangeShapes Go.WideShapes Go.ChangeAt Go.RowKit
set_option linter.unusedVariables false
set_option linter.unusedSimpArgs false
set_option maxHeartbeats 4000000
set_option maxRecDepth 100000
theorem DO (ρ:cu)(w:World)(σ:aF)(big:Bool)(h:ρ.at w σ big)(IH:px ρ (8*σ.left+4))(pn:(af (ar 4) σ).head pw=true)(hn:(aF.good (af (ar 4) σ).words.tail).head ll=true):
  Calls Tryz.prog 133 #[ρ.ptr,.int .i64 3] w (dO ρ w big (ar 3) σ):=by
 have cU:=h.qJ;have hb:=aa w iQ;have h0:=h.later hb;have HQ:=hid (ah.new w 34 #[.int .u8 0,.int .u8 0,.int .i64 0,.string ⟨#[]⟩,.string ⟨#[]⟩,.int .i64 0,.slice none 0 0]);have hsz:(w.alloc iQ).heap.size=w.heap.size+1:=by simp
 have hsm:=h.small;unfold iQ at*;unfold cu.ptr;go_enter Tryz.func133,Tryz.ntmps133;go_wp2_with (first
  |(go_at_call 133;refine(IH 4 4 σ _ big rfl (by omega) (by omega) h0).mono ?_;rintro e w2 ⟨t,y,rfl,ht,d2,fC⟩;unfold iL cM))
 have hA:pN ρ w big σ w.heap.size w2.heap.size (w2.alloc (jP y)) _ t y:=
  ⟨((dz.bH h hb).trans d2).later (aa _ _),ah.new w2 _ _,(d2.blk HQ.out (by omega)).alloc _,Tr.at_.keep (qs _ (by rw[hsz];exact Nat.le_refl _)) _ _ ht,iT.start fC,aF.bh (df _) σ⟩
 have SB:w.heap.size+1≤w2.heap.size:=by have:=d2.size;omega
 unfold jP cM at hA;generalize w2.alloc _=W at*;generalize w2.heap.size=qx at*;generalize af (ar 4) σ=gP at*;have A:=hA;clear hA ht d2 fC h0 hb HQ;have Hg:=cT ρ W _ big A.did.at_ ⟨#[105,115]⟩;rw[show gP.head (⟨#[105,115]⟩:ByteArray).data.toList=true from pn,az (s:=(⟨#[105,115]⟩:ByteArray).data.toList) pn] at Hg;have Va:=fun W' h'=>cT ρ W' (.good gP.words.tail) big h' ⟨#[110,111,116]⟩
 rw[show(aF.good gP.words.tail).head (⟨#[110,111,116]⟩:ByteArray).data.toList=true from hn,az (s:=(⟨#[110,111,116]⟩:ByteArray).data.toList) hn] at Va;obtain⟨hs1,hs2⟩:=iT.null A.todo pn;rw[az hn] at hs1;rw[hn] at hs2;have ED:=hid hs1;have DB:=hid hs2;clear hs1 hs2 hn pn;have HA:=hid A;clear A;generalize KQ:(aF.good (aF.good gP.words.tail).words.tail)=xV at*;have Pb:=hid KQ;clear KQ;refine Hg.mono ?_;rintro e w1 ⟨rfl,d1⟩;go_wp2_with (first
  |(go_at_call 74;refine(Va _ d1.at_).mono ?_;rintro e w3 ⟨rfl,d3⟩)
  |(go_at_call 109;refine(dm ρ _ xV big (d3.at_.later (aa w3 (.cells (aR [fo]) 9))) [fo] w3.heap.size 1 rfl (ah.new _ _ _) (by have:=d3.lt;omega) (by omega)).mono ?_;rintro e w4 ⟨rfl,d4⟩;have dd:=(d1.trans (d3.later (aa w3 (.cells (aR [fo]) 9)))).trans d4;have h1:=d1.size;have hx:=HA.out.blk.lt;have B0:=dd.blk HA.out.blk (by omega);have R0:=dd.blk HA.out.res (by omega);have R1:=R0.alloc (jP y);unfold jP at R1;obtain⟨x0,x1,x2,x3,x4,x5,x6⟩:=ax B0;obtain⟨z0,z1,z2,z3,z4,z5,z6⟩:=bu R1;obtain⟨y0,y1,y2,y3,y4,y5,y6⟩:=aC R1;have XL:=hid R1;have nV:=hid R0.lt;clear B0 R0 R1;unfold cM at z0 z1 z2 z3 z4 z5 z6 y0 y1 y2 y3 y4 y5 y6))
 have hx2:=nV.out;have HP:=bA XL.out (vE 19 w4.heap.size 1);have HR:=ax HP;unfold cr vE iM cM at HR;obtain⟨r0,r1,r2,r3,r4,r5,r6⟩:=HR;refine bodyPost_ret (v:=iL (vE 19 w4.heap.size 1)) ?_ rfl ?_
 ·simp[results,Tryz.results133,go_sem,r0,r1,r2,r3,r4,r5,r6];rfl
 ·refine bl cU (Nat.le_refl _) ?_ (zh 19 (ah.new w4 34 (cM y).toArray) ⟨by omega,by simp⟩ (Tr.at_.keep (kN (Nat.le_refl _)) _ _ (Tr.at_.keep (eC (aa w4 _)) _ _ (Tr.at_.keep (eB dd.grown (by omega)) _ _ HA.out.tr)))) DB.out;rw[ED.out,← br];exact(HA.out.did.trans dd).later (aa w4 _)
theorem DR (ρ:cu)(w:World)(σ:aF)(big:Bool)(h:ρ.at w σ big)(IH:px ρ (8*σ.left+4))(pn:(af (ar 4) σ).head pw=true)(hn:(aF.good (af (ar 4) σ).words.tail).head ll=false):
  Calls Tryz.prog 133 #[ρ.ptr,.int .i64 3] w (dO ρ w big (ar 3) σ):=by
 have cU:=h.qJ;have hb:=aa w iQ;have h0:=h.later hb;have HQ:=hid (ah.new w 34 #[.int .u8 0,.int .u8 0,.int .i64 0,.string ⟨#[]⟩,.string ⟨#[]⟩,.int .i64 0,.slice none 0 0]);have hsz:(w.alloc iQ).heap.size=w.heap.size+1:=by simp
 have hsm:=h.small;unfold iQ at*;unfold cu.ptr;go_enter Tryz.func133,Tryz.ntmps133;go_wp2_with (first
  |(go_at_call 133;refine(IH 4 4 σ _ big rfl (by omega) (by omega) h0).mono ?_;rintro e w2 ⟨t,y,rfl,ht,d2,fC⟩;unfold iL cM))
 have hA:pN ρ w big σ w.heap.size w2.heap.size (w2.alloc (jP y)) _ t y:=
  ⟨((dz.bH h hb).trans d2).later (aa _ _),ah.new w2 _ _,(d2.blk HQ.out (by omega)).alloc _,Tr.at_.keep (qs _ (by rw[hsz];exact Nat.le_refl _)) _ _ ht,iT.start fC,aF.bh (df _) σ⟩
 have SB:w.heap.size+1≤w2.heap.size:=by have:=d2.size;omega
 unfold jP cM at hA;generalize w2.alloc _=W at*;generalize w2.heap.size=qx at*;generalize af (ar 4) σ=gP at*;have A:=hA;clear hA ht d2 fC h0 hb HQ;have Hg:=cT ρ W _ big A.did.at_ ⟨#[105,115]⟩;rw[show gP.head (⟨#[105,115]⟩:ByteArray).data.toList=true from pn,az (s:=(⟨#[105,115]⟩:ByteArray).data.toList) pn] at Hg;have Va:=fun W' h'=>cT ρ W' (.good gP.words.tail) big h' ⟨#[110,111,116]⟩
 rw[show(aF.good gP.words.tail).head (⟨#[110,111,116]⟩:ByteArray).data.toList=false from hn,av (s:=(⟨#[110,111,116]⟩:ByteArray).data.toList) hn] at Va;obtain⟨hs1,hs2⟩:=iT.null A.todo pn;rw[av hn] at hs1;rw[hn] at hs2;have ED:=hid hs1;have DB:=hid hs2;clear hs1 hs2 hn pn;have HA:=hid A;clear A;generalize KQ:(aF.good gP.words.tail)=xV at*;have Pb:=hid KQ;clear KQ;refine Hg.mono ?_;rintro e w1 ⟨rfl,d1⟩;go_wp2_with (first
  |(go_at_call 74;refine(Va _ d1.at_).mono ?_;rintro e w3 ⟨rfl,d3⟩)
  |(go_at_call 109;refine(dm ρ _ xV big (d3.at_.later (aa w3 (.cells (aR [fo]) 9))) [fo] w3.heap.size 1 rfl (ah.new _ _ _) (by have:=d3.lt;omega) (by omega)).mono ?_;rintro e w4 ⟨rfl,d4⟩;have dd:=(d1.trans (d3.later (aa w3 (.cells (aR [fo]) 9)))).trans d4;have h1:=d1.size;have hx:=HA.out.blk.lt;have B0:=dd.blk HA.out.blk (by omega);have R0:=dd.blk HA.out.res (by omega);have R1:=R0.alloc (jP y);unfold jP at R1;obtain⟨x0,x1,x2,x3,x4,x5,x6⟩:=ax B0;obtain⟨z0,z1,z2,z3,z4,z5,z6⟩:=bu R1;obtain⟨y0,y1,y2,y3,y4,y5,y6⟩:=aC R1;have XL:=hid R1;have nV:=hid R0.lt;clear B0 R0 R1;unfold cM at z0 z1 z2 z3 z4 z5 z6 y0 y1 y2 y3 y4 y5 y6))
 have hx2:=nV.out;have HP:=bA XL.out (vE 18 w4.heap.size 1);have HR:=ax HP;unfold cr vE iM cM at HR;obtain⟨r0,r1,r2,r3,r4,r5,r6⟩:=HR;refine bodyPost_ret (v:=iL (vE 18 w4.heap.size 1)) ?_ rfl ?_
 ·simp[results,Tryz.results133,go_sem,r0,r1,r2,r3,r4,r5,r6];rfl
 ·refine bl cU (Nat.le_refl _) ?_ (zh 18 (ah.new w4 34 (cM y).toArray) ⟨by omega,by simp⟩ (Tr.at_.keep (kN (Nat.le_refl _)) _ _ (Tr.at_.keep (eC (aa w4 _)) _ _ (Tr.at_.keep (eB dd.grown (by omega)) _ _ HA.out.tr)))) DB.out;rw[ED.out,← br];exact(HA.out.did.trans dd).later (aa w4 _)
theorem BF (ρ:cu)(w:World)(σ:aF)(big:Bool)(h:ρ.at w σ big)(IH:px ρ (8*σ.left+4))(pn:(af (ar 4) σ).head pw=false)(hop:(af (ar 4) σ).op 3=none):
  Calls Tryz.prog 133 #[ρ.ptr,.int .i64 3] w (dO ρ w big (ar 3) σ):=by
 have cU:=h.qJ;have hb:=aa w iQ;have h0:=h.later hb;have HQ:=hid (ah.new w 34 #[.int .u8 0,.int .u8 0,.int .i64 0,.string ⟨#[]⟩,.string ⟨#[]⟩,.int .i64 0,.slice none 0 0]);have hsz:(w.alloc iQ).heap.size=w.heap.size+1:=by simp
 have hsm:=h.small;unfold iQ at*;unfold cu.ptr;go_enter Tryz.func133,Tryz.ntmps133;go_wp2_with (first
  |(go_at_call 133;refine(IH 4 4 σ _ big rfl (by omega) (by omega) h0).mono ?_;rintro e w2 ⟨t,y,rfl,ht,d2,fC⟩;unfold iL cM))
 have hA:pN ρ w big σ w.heap.size w2.heap.size (w2.alloc (jP y)) _ t y:=
  ⟨((dz.bH h hb).trans d2).later (aa _ _),ah.new w2 _ _,(d2.blk HQ.out (by omega)).alloc _,Tr.at_.keep (qs _ (by rw[hsz];exact Nat.le_refl _)) _ _ ht,iT.start fC,aF.bh (df _) σ⟩
 have SB:w.heap.size+1≤w2.heap.size:=by have:=d2.size;omega
 unfold jP cM at hA;generalize w2.alloc _=W at*;generalize w2.heap.size=qx at*;generalize af (ar 4) σ=gP at*;have A:=hA;clear hA ht d2 fC h0 hb HQ;have Hg:=cT ρ W _ big A.did.at_ ⟨#[105,115]⟩;have Hh:=hid hop;clear hop;rw[show gP.head (⟨#[105,115]⟩:ByteArray).data.toList=false from pn,av (s:=(⟨#[105,115]⟩:ByteArray).data.toList) pn] at Hg;have HIS:=hid pn;clear pn;refine Hg.mono ?_;rintro e w1 ⟨rfl,d1⟩;replace A:=A.more d1 (by omega) (by omega);clear d1 Hg;go_wp2_with fail;have HA:=hid A;clear A;go_loopg [] 0 (fun k wr=>wr=w1);case atStart=>rfl
 case round=>
  subst hrel;obtain⟨tk,pl,bd,hpl,hlt,UC,lV,aX,hg,wI,uN,hp⟩:=HA.out.did.at_.mY;have UD:=HA.out.did.at_.left;have HP:=hid hp;have Bn:=hid hpl;have HG:=hid hg;have lH:=hid aX;have c2:=hp.c2;have UE:=HA.out.blk.lt;clear hpl hg aX lV hp;by_cases qw:bd < 0
  ·skip
   obtain⟨l,rfl⟩:∃l,gP=.good l:=by
    match gP,lH.out with
    | .good l,_=>exact⟨l,rfl⟩
    | .bad m,aX=>simp[aF.dN] at aX;omega
   obtain⟨r,rfl⟩:=HG.out l rfl;have Pc:=Dy (lv:=3) (t:=tk.w) (r:=r);have UF:=vS 3 3 rfl (by simp) tk;have e1:(ρ.n:Int) - (aF.good (tk.w::r)).left+1=(ρ.n:Int) - r.length:=by simp only[aF.left,List.length_cons];omega
   have e2:(aF.good (tk.w::r)).left=r.length+1:=rfl;have ed:=hid e1;have JD:=hid e2;clear e1 e2;generalize qz 3 tk.w=bi at*;have SC:=hid Pc;clear Pc;have k0:=fun y:Ext wr.heap.size wr=>(HP.out.later y.h).c0
   have k1:=fun y:Ext wr.heap.size wr=>(HP.out.later y.h).c1
   have m0:=fun y:Ext wr.heap.size wr=>(HP.out.later y.h).d0
   have m1:=fun y:Ext wr.heap.size wr=>(HP.out.later y.h).d1
   have m2:=fun y:Ext wr.heap.size wr=>(HP.out.later y.h).d2
   have m3:=fun y:Ext wr.heap.size wr=>(HP.out.later y.h).d3
   go_wp2_with fail;refine cZ 13 wr.heap.size wr (Below.refl _ _) (by kernel_rfl) (by kernel_rfl) (by kernel_rfl) (by kernel_rfl) ?_;simp only[List.take_succ_cons,List.take_zero,List.drop_succ_cons,List.drop_zero];repeat (go_big_quiet_step (first
    |(go_at_call 141;exact dP (Nat.le_refl _) (UF _))))
   refine wpQuiet_nil ?_;rintro W2 ⟨y2,uj⟩;have hW:=y2.h;rw[← uj] at hW;clear uj y2 k0 k1 m0 m1 m2 m3 c2;have hop:=Hh.out;clear Hh;have e0:bi=0:=by rw[SC.out,hop];rfl
   subst e0;obtain⟨hs1,hs2⟩:=iT.none_ HA.out.todo HIS.out hop;have ED:=hid hs1;have DB:=hid hs2;clear hs1 hs2 hop;have tY:=HA.out.res.later hW;have nC:=HA.out.blk.later hW;have Sz:=tY.lt;obtain⟨z0,z1,z2,z3,z4,z5,z6⟩:=bu tY;obtain⟨y0,y1,y2,y3,y4,y5,y6⟩:=aC tY;obtain⟨x0,x1,x2,x3,x4,x5,x6⟩:=ax nC;have ox:=hid tY;clear tY nC;go_wp2_with fail;have HP:=bA ox.out y;have HR:=ax HP;unfold cr at HR;obtain⟨r0,r1,r2,r3,r4,r5,r6⟩:=HR;refine bodyPost_ret (v:=iL y) ?_ rfl ?_
   ·simp[results,Tryz.results133,go_sem,r0,r1,r2,r3,r4,r5,r6];rfl
   ·refine bl cU (Nat.le_refl _) ?_ (Tr.at_.keep (kN (Nat.le_refl _)) _ _ (Tr.at_.keep (eC hW) _ _ HA.out.tr)) DB.out;rw[ED.out];exact HA.out.did.later hW
  ·skip
   obtain⟨m,rfl⟩:∃m,gP=.bad m:=by
    match gP,lH.out with
    | .good l,aX=>simp[aF.dN] at aX;omega
    | .bad m,_=>exact⟨m,rfl⟩
   obtain⟨hs1,hs2⟩:=iT.none_ HA.out.todo HIS.out (Dx 3 m);have ED:=hid hs1;have DB:=hid hs2;clear hs1 hs2;have tY:=HA.out.res;have nC:=HA.out.blk;have Sz:=tY.lt;obtain⟨z0,z1,z2,z3,z4,z5,z6⟩:=bu tY;obtain⟨y0,y1,y2,y3,y4,y5,y6⟩:=aC tY;obtain⟨x0,x1,x2,x3,x4,x5,x6⟩:=ax nC;have ox:=hid tY;clear tY nC;go_wp2_with fail;have HP:=bA ox.out y;have HR:=ax HP;unfold cr at HR;obtain⟨r0,r1,r2,r3,r4,r5,r6⟩:=HR;refine bodyPost_ret (v:=iL y) ?_ rfl ?_
   ·simp[results,Tryz.results133,go_sem,r0,r1,r2,r3,r4,r5,r6];rfl
   ·refine bl cU (Nat.le_refl _) ?_ (Tr.at_.keep (kN (Nat.le_refl _)) _ _ HA.out.tr) DB.out;rw[ED.out];exact HA.out.did
theorem BG (ρ:cu)(w:World)(σ:aF)(big:Bool)(h:ρ.at w σ big)(IH:px ρ (8*σ.left+4))(pn:(af (ar 4) σ).head pw=false)(o:Int)(hop:(af (ar 4) σ).op 3=some o):
  Calls Tryz.prog 133 #[ρ.ptr,.int .i64 3] w (dO ρ w big (ar 3) σ):=by
 have cU:=h.qJ;have hb:=aa w iQ;have h0:=h.later hb;have HQ:=hid (ah.new w 34 #[.int .u8 0,.int .u8 0,.int .i64 0,.string ⟨#[]⟩,.string ⟨#[]⟩,.int .i64 0,.slice none 0 0]);have hsz:(w.alloc iQ).heap.size=w.heap.size+1:=by simp
 have hsm:=h.small;unfold iQ at*;unfold cu.ptr;go_enter Tryz.func133,Tryz.ntmps133;go_wp2_with (first
  |(go_at_call 133;refine(IH 4 4 σ _ big rfl (by omega) (by omega) h0).mono ?_;rintro e w2 ⟨t,y,rfl,ht,d2,fC⟩;unfold iL cM))
 have hA:pN ρ w big σ w.heap.size w2.heap.size (w2.alloc (jP y)) _ t y:=
  ⟨((dz.bH h hb).trans d2).later (aa _ _),ah.new w2 _ _,(d2.blk HQ.out (by omega)).alloc _,Tr.at_.keep (qs _ (by rw[hsz];exact Nat.le_refl _)) _ _ ht,iT.start fC,aF.bh (df _) σ⟩
 have SB:w.heap.size+1≤w2.heap.size:=by have:=d2.size;omega
 unfold jP cM at hA;generalize w2.alloc _=W at*;generalize w2.heap.size=qx at*;generalize af (ar 4) σ=gP at*;have A:=hA;clear hA ht d2 fC h0 hb HQ;have Hg:=cT ρ W _ big A.did.at_ ⟨#[105,115]⟩;have Hh:=hid hop;clear hop;rw[show gP.head (⟨#[105,115]⟩:ByteArray).data.toList=false from pn,av (s:=(⟨#[105,115]⟩:ByteArray).data.toList) pn] at Hg;have HIS:=hid pn;clear pn;refine Hg.mono ?_;rintro e w1 ⟨rfl,d1⟩;replace A:=A.more d1 (by omega) (by omega);clear d1 Hg;go_wp2_with fail;have HA:=hid A;clear A;go_loopg [] 0 (fun k wr=>wr=w1);case atStart=>rfl
 case round=>
  subst hrel;obtain⟨tk,pl,bd,hpl,hlt,UC,lV,aX,hg,wI,uN,hp⟩:=HA.out.did.at_.mY;have UD:=HA.out.did.at_.left;have HP:=hid hp;have Bn:=hid hpl;have HG:=hid hg;have lH:=hid aX;have c2:=hp.c2;have UE:=HA.out.blk.lt;clear hpl hg aX lV hp;have qw:bd < 0:=by
   match gP,lH.out,Hh.out with
   | .good l,aX,_=>simpa [aF.dN] using aX
   | .bad m,_,ho=>simp[Dx] at ho
  obtain⟨l,rfl⟩:∃l,gP=.good l:=by
   match gP,lH.out with
   | .good l,_=>exact⟨l,rfl⟩
   | .bad m,aX=>simp[aF.dN] at aX;omega
  obtain⟨r,rfl⟩:=HG.out l rfl;have Pc:=Dy (lv:=3) (t:=tk.w) (r:=r);have UF:=vS 3 3 rfl (by simp) tk;have e1:(ρ.n:Int) - (aF.good (tk.w::r)).left+1=(ρ.n:Int) - r.length:=by simp only[aF.left,List.length_cons];omega
  have e2:(aF.good (tk.w::r)).left=r.length+1:=rfl;have ed:=hid e1;have JD:=hid e2;clear e1 e2;generalize qz 3 tk.w=bi at*;have SC:=hid Pc;clear Pc;have k0:=fun y:Ext wr.heap.size wr=>(HP.out.later y.h).c0
  have k1:=fun y:Ext wr.heap.size wr=>(HP.out.later y.h).c1
  have m0:=fun y:Ext wr.heap.size wr=>(HP.out.later y.h).d0
  have m1:=fun y:Ext wr.heap.size wr=>(HP.out.later y.h).d1
  have m2:=fun y:Ext wr.heap.size wr=>(HP.out.later y.h).d2
  have m3:=fun y:Ext wr.heap.size wr=>(HP.out.later y.h).d3
  go_wp2_with fail;refine cZ 13 wr.heap.size wr (Below.refl _ _) (by kernel_rfl) (by kernel_rfl) (by kernel_rfl) (by kernel_rfl) ?_;simp only[List.take_succ_cons,List.take_zero,List.drop_succ_cons,List.drop_zero];repeat (go_big_quiet_step (first
   |(go_at_call 141;exact dP (Nat.le_refl _) (UF _))))
  refine wpQuiet_nil ?_;rintro W2 ⟨y2,uj⟩;have hW:=y2.h;rw[← uj] at hW;clear uj y2 k0 k1 m0 m1 m2 m3 c2;have hop:=Hh.out;clear Hh;have eo:bi=o:=by rw[SC.out,hop];rfl
  subst eo;obtain⟨L1,uh,s,hs⟩:=Bo hop;have UG:tk.w.k≠0:=tC hs;have Xx:=hid hop;have e0:(bi==0)=false:=by rw[beq_eq_false_iff_ne];omega
  have jY:=HA.out.did.at_.later hW;obtain⟨q0,q1,q2,q3,f1,f2,f3⟩:=jY.facts;have e1:=ed.out;have hst:=cu.at.step jY UG;have UA:r.length+1≤ρ.n:=by have:=jY.left;have:=JD.out;omega
  clear hop hs jY q0 q2 q3 f2 f3;go_upto_region 23 with (first
   |(go_at_call 133;refine(IH 4 4 (.good r) _ big rfl (by omega) (by have:=HA.out.le;have:=JD.out;have e5:(aF.good r).left=r.length:=rfl;omega) hst.at_).mono ?_;rintro e w3 ⟨t2,v2,rfl,GZ,d2,Ha⟩;unfold iL cM;have F:=pN.round cU rfl SB HA.out hW hst d2 GZ HIS.out Xx.out rfl Ha;have hz1:=d2.size;have hz2:=hst.size;have hz3:=hW.size;have B0:=((HA.out.blk.later hW).grown hst.grown (by simp;omega)).grown d2.grown (by simp;omega);have B1:=B0.alloc (.cells #[.int .u8 v2.op,.int .u8 v2.v.k,.int .i64 v2.v.n,.string v2.v.s,.string v2.name,.int .i64 v2.width,.slice v2.A v2.n v2.c] 34);have B2:=B1.alloc (.cells #[.int .u8 y.op,.int .u8 y.v.k,.int .i64 y.v.n,.string y.v.s,.string y.name,.int .i64 y.width,.slice y.A y.n y.c,.int .u8 v2.op,.int .u8 v2.v.k,.int .i64 v2.v.n,.string v2.v.s,.string v2.name,.int .i64 v2.width,.slice v2.A v2.n v2.c] 34);have N1:=ah.new w3 34 (cM v2).toArray;have X1:=ax B1;have X2:=ax B2;have X3:=bu B2;have X4:=ax N1;unfold cM at X4;obtain⟨x0,x1,x2,x3,x4,x5,x6⟩:=X1;obtain⟨y0,y1,y2,y3,y4,y5,y6⟩:=X2;obtain⟨z0,z1,z2,z3,z4,z5,z6⟩:=X3;obtain⟨a0,a1,a2,a3,a4,a5,a6⟩:=X4;have HF:=hid F;clear B0 B1 B2 N1 F))
  clear x0 x1 x2 x3 x4 x5 x6 y0 y1 y2 y3 y4 y5 y6 z0 z1 z2 z3 z4 z5 z6 a0 a1 a2 a3 a4 a5 a6;have F:=HF.out;clear HF;show Code.wp _ _ _ _ (cr ((w3.alloc (jP v2)).alloc (kX y v2)) qx (vE bi (w3.heap.size+1) 2));generalize cr ((w3.alloc (jP v2)).alloc (kX y v2)) qx (vE bi (w3.heap.size+1) 2)=W9 at*;generalize vE bi (w3.heap.size+1) 2=Y9 at*;obtain⟨x0,x1,x2,x3,x4,x5,x6⟩:=ax F.blk;obtain⟨z0,z1,z2,z3,z4,z5,z6⟩:=bu F.res;obtain⟨y0,y1,y2,y3,y4,y5,y6⟩:=aC F.res;have Sz:=F.res.lt;have HF:=hid F;clear F;go_wp2_with fail;have HP:=bA HF.out.res Y9;have HR:=ax HP;unfold cr at HR;obtain⟨r0,r1,r2,r3,r4,r5,r6⟩:=HR;refine bodyPost_ret (v:=iL Y9) ?_ rfl ?_
  ·simp[results,Tryz.results133,go_sem,r0,r1,r2,r3,r4,r5,r6];rfl
  ·exact bl cU (Nat.le_refl _) HF.out.did HF.out.tr HF.out.gives
theorem Ro (ρ:cu)(w:World)(σ:aF)(big:Bool)(h:ρ.at w σ big)(IH:px ρ (8*σ.left+4)):
  Calls Tryz.prog 133 #[ρ.ptr,.int .i64 3] w (dO ρ w big (ar 3) σ):=by
 cases pn:(af (ar 4) σ).head pw
 ·cases hop:(af (ar 4) σ).op 3 with
  | none=>exact BF ρ w σ big h IH pn hop
  | some o=>exact BG ρ w σ big h IH pn o hop
 ·cases hn:(aF.good (af (ar 4) σ).words.tail).head ll
  ·exact DR ρ w σ big h IH pn hn
  ·exact DO ρ w σ big h IH pn hn
theorem Fp {t:Wd} {r:fA}(ho:(af bE (.good (t::r))).head cj=true) {n:ByteArray}(hn:au bE (.good (t::r)) n):n=⟨t.s.toArray⟩:=by
 by_cases h:t.k=1∧wV t.s=false
 ·simp only[au,bE,h,and_self,if_true] at hn;exact hn
 ·rw[oQ,if_neg h] at ho;cases ho
theorem Nz {n:ByteArray} {op:Int}(h:fB n=some op):op=20∨op=22∨op=23∨op=24∨op=25∨op=26∨op=27∨op=28:=by
 unfold fB at h;generalize n.data.toList=x at h;simp only[AO,List.lookup] at h
 repeat' split at h
 all_goals first |(cases h;done)|(injection h with h;omega)
theorem KR (ρ:cu)(w:World)(σ:aF)(big:Bool)(h:ρ.at w σ big)(IH:px ρ (8*σ.left)):
  Calls Tryz.prog 140 #[ρ.ptr] w (dO ρ w big (ar 7) σ):=by
 match σ,h,IH with
 | .bad n,h,_=>exact DG ρ w big n h
 | .good [],h,_=>exact absurd h.left.1 (by simp[aF.left])
 | .good (t::r),h,IH=>
   have IH:px ρ (8*(r.length+1)):=IH;by_cases k2:t.k=2
   ·exact DI ρ w big t r h k2
   by_cases k3:t.k=3
   ·exact Bq ρ w big t r h k3
   have hp:Plain t:=⟨k2,k3⟩;cases h1:kW jK t;case true=>exact Br ρ w big t r h hp h1
   cases h2:kW jn t;case true=>exact zt ρ w big t r h hp h1 h2
   cases h3:kW fo t;case true=>exact Bt ρ w big t r h hp h1 h2 h3
   cases h4:kW cj t;case true=>exact Bu ρ w big t r h hp h1 h2 h3 h4 IH
   have hn:xU t:=⟨hp,h1,h2,h3,h4⟩;cases ho:(af bE (.good (t::r))).head cj
   ·exact DL ρ w big t r h hn ho
   ·cases hf:fB ⟨t.s.toArray⟩with
    | none=>exact Bw ρ w big t r h hn ho fun n hg=>by rw[Fp ho hg];exact hf
    | some op=>
      have hfn:∀n,au bE (.good (t::r)) n→fB n=some op:=fun n hg=>by rw[Fp ho hg];exact hf
      rcases Nz hf with rfl | rfl | rfl | rfl | rfl | rfl | rfl | rfl
      ·exact qD ρ w big t r h hn 20 ho hfn (.inl rfl) IH
      ·cases hs:(aF.good (af bE (.good (t::r))).words.tail).head dZ
       ·exact jg ρ w big t r h hn 22 ho hfn (.inr (.inl ⟨rfl,hs⟩)) IH
       ·exact jg ρ w big t r h hn 22 ho hfn (.inr (.inr ⟨rfl,hs⟩)) IH
      ·exact jg ρ w big t r h hn 23 ho hfn (.inl ⟨rfl,rfl,rfl,rfl⟩) IH
      ·exact jg ρ w big t r h hn 24 ho hfn (.inl ⟨rfl,rfl,rfl,rfl⟩) IH
      ·exact jg ρ w big t r h hn 25 ho hfn (.inl ⟨rfl,rfl,rfl,rfl⟩) IH
      ·exact jg ρ w big t r h hn 26 ho hfn (.inl ⟨rfl,rfl,rfl,rfl⟩) IH
      ·exact qD ρ w big t r h hn 27 ho hfn (.inr ⟨.inl rfl,rfl,rfl,.inl rfl⟩) IH
      ·exact qD ρ w big t r h hn 28 ho hfn (.inr ⟨.inr rfl,rfl,rfl,.inr ⟨rfl,rfl⟩⟩) IH
theorem KS (ρ:cu)(w:World)(σ:aF)(big:Bool)(h:ρ.at w σ big)(IH:px ρ (8*σ.left)):
  Calls Tryz.prog 133 #[ρ.ptr,.int .i64 7] w (dO ρ w big (ar 7) σ):=by
 have cU:=h.qJ;have hb:=aa w iQ;have h0:=h.later hb;have HQ:=hid (ah.new w 34 #[.int .u8 0,.int .u8 0,.int .i64 0,.string ⟨#[]⟩,.string ⟨#[]⟩,.int .i64 0,.slice none 0 0]);have hsz:(w.alloc iQ).heap.size=w.heap.size+1:=by simp
 unfold iQ at*;go_enter Tryz.func133,Tryz.ntmps133;go_wp2_with fail;refine(KR ρ _ σ big h0 IH).mono ?_;rintro e w2 ⟨t,y,rfl,ht,d2,fC⟩;unfold iL cM;have zo:=d2.blk HQ.out (by omega);have gC:=hid zo;obtain⟨z0,z1,z2,z3,z4,z5,z6⟩:=bu zo;obtain⟨y0,y1,y2,y3,y4,y5,y6⟩:=aC zo;have D2:=hid ((dz.bH h hb).trans d2);have hs2:=d2.size;clear zo d2;go_wp2_with fail;have HP:=bA gC.out y;have HR:=ax HP;unfold cr at HR;obtain⟨r0,r1,r2,r3,r4,r5,r6⟩:=HR;refine bodyPost_ret (v:=iL y) ?_ rfl ?_
 ·simp[results,Tryz.results133,go_sem,r0,r1,r2,r3,r4,r5,r6];rfl
 ·exact bl cU (Nat.le_refl _) D2.out (ht.more (by omega)) fC
theorem Rp (ρ:cu):∀m,px ρ m:=by
 intro m;induction m using Nat.strongRecOn with
 | ind m ih=>
   intro lv z σ W big hz hlv hm h;subst hz;have ih':px ρ (8*σ.left+(7 - lv)):=ih _ hm
   match lv,hlv,ih' with
   | 0,_,ih'=>exact uw ρ W σ big h 0 _ rfl (by simp) ih'
   | 1,_,ih'=>exact uw ρ W σ big h 1 _ rfl (by simp) ih'
   | 2,_,ih'=>exact Rf ρ W σ big h ih'
   | 3,_,ih'=>exact Ro ρ W σ big h ih'
   | 4,_,ih'=>exact uw ρ W σ big h 4 _ rfl (by simp) ih'
   | 5,_,ih'=>exact uw ρ W σ big h 5 _ rfl (by simp) ih'
   | 6,_,ih'=>exact Rh ρ W σ big h ih'
   | 7,_,ih'=>exact KS ρ W σ big h ih'
   | n+8,hlv,_=>omega
theorem sM (ρ:cu)(w:World)(σ:aF)(big:Bool)(h:ρ.at w σ big):
  Calls Tryz.prog 133 #[ρ.ptr,.int .i64 0] w (dO ρ w big dE σ):=
 Rp ρ (8*σ.left+8) 0 0 σ w big rfl (by omega) (by omega) h
end Go.Proofs.YtfmbcoeallmnnaaGreatDoor.R
