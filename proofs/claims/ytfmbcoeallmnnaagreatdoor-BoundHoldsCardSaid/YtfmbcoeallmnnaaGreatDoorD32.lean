/- Parts of the proof. -/
import Derived.Test.YtfmbcoeallmnnaaGreatDoorD30
import Derived.Test.YtfmbcoeallmnnaaGreatDoorD31
namespace Go.Proofs.YtfmbcoeallmnnaaGreatDoor.R
open Go.Lib (hid)
open Go.ChangeShapes Go.WideShapes Go.ChangeAt Go.RowKit
set_option linter.unusedVariables false
set_option linter.unusedSimpArgs false
set_option maxHeartbeats 4000000
set_option maxRecDepth 100000
theorem GU (ρ:cB)(w:World)(σ:aH)(big:Bool)(h:ρ.at w σ big)(IH:qq ρ (8*σ.left+4))(qm:(af (aq 4) σ).head qp=true)(hn:(aH.good (af (aq 4) σ).words.tail).head lY=true):
  Calls Tryz.prog 133 #[ρ.ptr,.int .i64 3] w (dS ρ w big (aq 3) σ):=by
 have dh:=h.rP;have hb:=aa w jn;have h0:=h.later hb;have HQ:=hid (ag.new w 34 #[.int .u8 0,.int .u8 0,.int .i64 0,.string ⟨#[]⟩,.string ⟨#[]⟩,.int .i64 0,.slice none 0 0]);have hsz:(w.alloc jn).heap.size=w.heap.size+1:=by simp
 have hsm:=h.small;unfold jn at*;unfold cB.ptr;go_enter Tryz.func133,Tryz.ntmps133;go_wp2_with (first
  |(go_at_call 133;refine(IH 4 4 σ _ big rfl (by omega) (by omega) h0).mono ?_;rintro e w2 ⟨t,y,rfl,ht,d2,fP⟩;unfold ji cW))
 have hA:qL ρ w big σ w.heap.size w2.heap.size (w2.alloc (ky y)) _ t y:=
  ⟨((dH.bP h hb).trans d2).later (aa _ _),ag.new w2 _ _,(d2.blk HQ.out (by omega)).alloc _,Tr.at_.keep (rB _ (by rw[hsz];exact Nat.le_refl _)) _ _ ht,jq.start fP,aH.bs (dr _) σ⟩
 have Xq:w.heap.size+1≤w2.heap.size:=by have:=d2.size;omega
 unfold ky cW at hA;generalize w2.alloc _=W at*;generalize w2.heap.size=qx at*;generalize af (aq 4) σ=ir at*;have A:=hA;clear hA ht d2 fP h0 hb HQ;have Lk:=df ρ W _ big A.did.at_ ⟨#[105,115]⟩;rw[show ir.head (⟨#[105,115]⟩:ByteArray).data.toList=true from qm,aB (s:=(⟨#[105,115]⟩:ByteArray).data.toList) qm] at Lk;have ZO:=fun W' h'=>df ρ W' (.good ir.words.tail) big h' ⟨#[110,111,116]⟩
 rw[show(aH.good ir.words.tail).head (⟨#[110,111,116]⟩:ByteArray).data.toList=true from hn,aB (s:=(⟨#[110,111,116]⟩:ByteArray).data.toList) hn] at ZO;obtain⟨hs1,hs2⟩:=jq.null A.todo qm;rw[aB hn] at hs1;rw[hn] at hs2;have Iw:=hid hs1;have GH:=hid hs2;clear hs1 hs2 hn qm;have HA:=hid A;clear A;generalize OJ:(aH.good (aH.good ir.words.tail).words.tail)=Av at*;have TD:=hid OJ;clear OJ;refine Lk.mono ?_;rintro e w1 ⟨rfl,d1⟩;go_wp2_with (first
  |(go_at_call 74;refine(ZO _ d1.at_).mono ?_;rintro e w3 ⟨rfl,d3⟩)
  |(go_at_call 109;refine(dw ρ _ Av big (d3.at_.later (aa w3 (.cells (aV [fG]) 9))) [fG] w3.heap.size 1 rfl (ag.new _ _ _) (by have:=d3.lt;omega) (by omega)).mono ?_;rintro e w4 ⟨rfl,d4⟩;have dd:=(d1.trans (d3.later (aa w3 (.cells (aV [fG]) 9)))).trans d4;have h1:=d1.size;have hx:=HA.out.blk.lt;have B0:=dd.blk HA.out.blk (by omega);have R0:=dd.blk HA.out.res (by omega);have R1:=R0.alloc (ky y);unfold ky at R1;obtain⟨x0,x1,x2,x3,x4,x5,x6⟩:=aS B0;obtain⟨z0,z1,z2,z3,z4,z5,z6⟩:=bA R1;obtain⟨y0,y1,y2,y3,y4,y5,y6⟩:=aF R1;have Q9:=hid R1;have rR:=hid R0.lt;clear B0 R0 R1;unfold cW at z0 z1 z2 z3 z4 z5 z6 y0 y1 y2 y3 y4 y5 y6))
 have hx2:=rR.out;have HP:=bI Q9.out (xN 19 w4.heap.size 1);have HR:=aS HP;unfold cz xN jk cW at HR;obtain⟨r0,r1,r2,r3,r4,r5,r6⟩:=HR;refine bodyPost_ret (v:=ji (xN 19 w4.heap.size 1)) ?_ rfl ?_
 ·simp[results,Tryz.results133,go_sem,r0,r1,r2,r3,r4,r5,r6];rfl
 ·refine bu dh (Nat.le_refl _) ?_ (BJ 19 (ag.new w4 34 (cW y).toArray) ⟨by omega,by simp⟩ (Tr.at_.keep (lH (Nat.le_refl _)) _ _ (Tr.at_.keep (eI (aa w4 _)) _ _ (Tr.at_.keep (eH dd.grown (by omega)) _ _ HA.out.tr)))) GH.out;rw[Iw.out,← bw];exact(HA.out.did.trans dd).later (aa w4 _)
theorem GV (ρ:cB)(w:World)(σ:aH)(big:Bool)(h:ρ.at w σ big)(IH:qq ρ (8*σ.left+4))(qm:(af (aq 4) σ).head qp=true)(hn:(aH.good (af (aq 4) σ).words.tail).head lY=false):
  Calls Tryz.prog 133 #[ρ.ptr,.int .i64 3] w (dS ρ w big (aq 3) σ):=by
 have dh:=h.rP;have hb:=aa w jn;have h0:=h.later hb;have HQ:=hid (ag.new w 34 #[.int .u8 0,.int .u8 0,.int .i64 0,.string ⟨#[]⟩,.string ⟨#[]⟩,.int .i64 0,.slice none 0 0]);have hsz:(w.alloc jn).heap.size=w.heap.size+1:=by simp
 have hsm:=h.small;unfold jn at*;unfold cB.ptr;go_enter Tryz.func133,Tryz.ntmps133;go_wp2_with (first
  |(go_at_call 133;refine(IH 4 4 σ _ big rfl (by omega) (by omega) h0).mono ?_;rintro e w2 ⟨t,y,rfl,ht,d2,fP⟩;unfold ji cW))
 have hA:qL ρ w big σ w.heap.size w2.heap.size (w2.alloc (ky y)) _ t y:=
  ⟨((dH.bP h hb).trans d2).later (aa _ _),ag.new w2 _ _,(d2.blk HQ.out (by omega)).alloc _,Tr.at_.keep (rB _ (by rw[hsz];exact Nat.le_refl _)) _ _ ht,jq.start fP,aH.bs (dr _) σ⟩
 have Xq:w.heap.size+1≤w2.heap.size:=by have:=d2.size;omega
 unfold ky cW at hA;generalize w2.alloc _=W at*;generalize w2.heap.size=qx at*;generalize af (aq 4) σ=ir at*;have A:=hA;clear hA ht d2 fP h0 hb HQ;have Lk:=df ρ W _ big A.did.at_ ⟨#[105,115]⟩;rw[show ir.head (⟨#[105,115]⟩:ByteArray).data.toList=true from qm,aB (s:=(⟨#[105,115]⟩:ByteArray).data.toList) qm] at Lk;have ZO:=fun W' h'=>df ρ W' (.good ir.words.tail) big h' ⟨#[110,111,116]⟩
 rw[show(aH.good ir.words.tail).head (⟨#[110,111,116]⟩:ByteArray).data.toList=false from hn,aw (s:=(⟨#[110,111,116]⟩:ByteArray).data.toList) hn] at ZO;obtain⟨hs1,hs2⟩:=jq.null A.todo qm;rw[aw hn] at hs1;rw[hn] at hs2;have Iw:=hid hs1;have GH:=hid hs2;clear hs1 hs2 hn qm;have HA:=hid A;clear A;generalize OJ:(aH.good ir.words.tail)=Av at*;have TD:=hid OJ;clear OJ;refine Lk.mono ?_;rintro e w1 ⟨rfl,d1⟩;go_wp2_with (first
  |(go_at_call 74;refine(ZO _ d1.at_).mono ?_;rintro e w3 ⟨rfl,d3⟩)
  |(go_at_call 109;refine(dw ρ _ Av big (d3.at_.later (aa w3 (.cells (aV [fG]) 9))) [fG] w3.heap.size 1 rfl (ag.new _ _ _) (by have:=d3.lt;omega) (by omega)).mono ?_;rintro e w4 ⟨rfl,d4⟩;have dd:=(d1.trans (d3.later (aa w3 (.cells (aV [fG]) 9)))).trans d4;have h1:=d1.size;have hx:=HA.out.blk.lt;have B0:=dd.blk HA.out.blk (by omega);have R0:=dd.blk HA.out.res (by omega);have R1:=R0.alloc (ky y);unfold ky at R1;obtain⟨x0,x1,x2,x3,x4,x5,x6⟩:=aS B0;obtain⟨z0,z1,z2,z3,z4,z5,z6⟩:=bA R1;obtain⟨y0,y1,y2,y3,y4,y5,y6⟩:=aF R1;have Q9:=hid R1;have rR:=hid R0.lt;clear B0 R0 R1;unfold cW at z0 z1 z2 z3 z4 z5 z6 y0 y1 y2 y3 y4 y5 y6))
 have hx2:=rR.out;have HP:=bI Q9.out (xN 18 w4.heap.size 1);have HR:=aS HP;unfold cz xN jk cW at HR;obtain⟨r0,r1,r2,r3,r4,r5,r6⟩:=HR;refine bodyPost_ret (v:=ji (xN 18 w4.heap.size 1)) ?_ rfl ?_
 ·simp[results,Tryz.results133,go_sem,r0,r1,r2,r3,r4,r5,r6];rfl
 ·refine bu dh (Nat.le_refl _) ?_ (BJ 18 (ag.new w4 34 (cW y).toArray) ⟨by omega,by simp⟩ (Tr.at_.keep (lH (Nat.le_refl _)) _ _ (Tr.at_.keep (eI (aa w4 _)) _ _ (Tr.at_.keep (eH dd.grown (by omega)) _ _ HA.out.tr)))) GH.out;rw[Iw.out,← bw];exact(HA.out.did.trans dd).later (aa w4 _)
theorem Es (ρ:cB)(w:World)(σ:aH)(big:Bool)(h:ρ.at w σ big)(IH:qq ρ (8*σ.left+4))(qm:(af (aq 4) σ).head qp=false)(hop:(af (aq 4) σ).op 3=none):
  Calls Tryz.prog 133 #[ρ.ptr,.int .i64 3] w (dS ρ w big (aq 3) σ):=by
 have dh:=h.rP;have hb:=aa w jn;have h0:=h.later hb;have HQ:=hid (ag.new w 34 #[.int .u8 0,.int .u8 0,.int .i64 0,.string ⟨#[]⟩,.string ⟨#[]⟩,.int .i64 0,.slice none 0 0]);have hsz:(w.alloc jn).heap.size=w.heap.size+1:=by simp
 have hsm:=h.small;unfold jn at*;unfold cB.ptr;go_enter Tryz.func133,Tryz.ntmps133;go_wp2_with (first
  |(go_at_call 133;refine(IH 4 4 σ _ big rfl (by omega) (by omega) h0).mono ?_;rintro e w2 ⟨t,y,rfl,ht,d2,fP⟩;unfold ji cW))
 have hA:qL ρ w big σ w.heap.size w2.heap.size (w2.alloc (ky y)) _ t y:=
  ⟨((dH.bP h hb).trans d2).later (aa _ _),ag.new w2 _ _,(d2.blk HQ.out (by omega)).alloc _,Tr.at_.keep (rB _ (by rw[hsz];exact Nat.le_refl _)) _ _ ht,jq.start fP,aH.bs (dr _) σ⟩
 have Xq:w.heap.size+1≤w2.heap.size:=by have:=d2.size;omega
 unfold ky cW at hA;generalize w2.alloc _=W at*;generalize w2.heap.size=qx at*;generalize af (aq 4) σ=ir at*;have A:=hA;clear hA ht d2 fP h0 hb HQ;have Lk:=df ρ W _ big A.did.at_ ⟨#[105,115]⟩;have Ll:=hid hop;clear hop;rw[show ir.head (⟨#[105,115]⟩:ByteArray).data.toList=false from qm,aw (s:=(⟨#[105,115]⟩:ByteArray).data.toList) qm] at Lk;have HIS:=hid qm;clear qm;refine Lk.mono ?_;rintro e w1 ⟨rfl,d1⟩;replace A:=A.more d1 (by omega) (by omega);clear d1 Lk;go_wp2_with fail;have HA:=hid A;clear A;go_loopg [] 0 (fun k wr=>wr=w1);case atStart=>rfl
 case round=>
  subst hrel;obtain⟨tk,pl,bd,hpl,hlt,Zt,mE,bh,hg,yM,rQ,hp⟩:=HA.out.did.at_.nQ;have Zu:=HA.out.did.at_.left;have HP:=hid hp;have Ec:=hid hpl;have HG:=hid hg;have ml:=hid bh;have c2:=hp.c2;have Zv:=HA.out.blk.lt;clear hpl hg bh mE hp;by_cases rD:bd < 0
  ·skip
   obtain⟨l,rfl⟩:∃l,ir=.good l:=by
    match ir,ml.out with
    | .good l,_=>exact⟨l,rfl⟩
    | .bad m,bh=>simp[aH.dR] at bh;omega
   obtain⟨r,rfl⟩:=HG.out l rfl;have TE:=GD (lv:=3) (t:=tk.w) (r:=r);have UL:=ye 3 3 rfl (by simp) tk;have e1:(ρ.n:Int) - (aH.good (tk.w::r)).left+1=(ρ.n:Int) - r.length:=by simp only[aH.left,List.length_cons];omega
   have e2:(aH.good (tk.w::r)).left=r.length+1:=rfl;have G5:=hid e1;have Nn:=hid e2;clear e1 e2;generalize rE 3 tk.w=bi at*;have Xr:=hid TE;clear TE;have k0:=fun y:Ext wr.heap.size wr=>(HP.out.later y.h).c0
   have k1:=fun y:Ext wr.heap.size wr=>(HP.out.later y.h).c1
   have m0:=fun y:Ext wr.heap.size wr=>(HP.out.later y.h).d0
   have m1:=fun y:Ext wr.heap.size wr=>(HP.out.later y.h).d1
   have m2:=fun y:Ext wr.heap.size wr=>(HP.out.later y.h).d2
   have m3:=fun y:Ext wr.heap.size wr=>(HP.out.later y.h).d3
   go_wp2_with fail;refine bD 13 wr.heap.size wr (Below.refl _ _) (by kernel_rfl) (by kernel_rfl) (by kernel_rfl) (by kernel_rfl) ?_;simp only[List.take_succ_cons,List.take_zero,List.drop_succ_cons,List.drop_zero];repeat (go_big_quiet_step (first
    |(go_at_call 141;exact aT (Nat.le_refl _) (UL _))))
   refine wpQuiet_nil ?_;rintro W2 ⟨y2,iq⟩;have hW:=y2.h;rw[← iq] at hW;clear iq y2 k0 k1 m0 m1 m2 m3 c2;have hop:=Ll.out;clear Ll;have e0:bi=0:=by rw[Xr.out,hop];rfl
   subst e0;obtain⟨hs1,hs2⟩:=jq.none_ HA.out.todo HIS.out hop;have Iw:=hid hs1;have GH:=hid hs2;clear hs1 hs2 hop;have vC:=HA.out.res.later hW;have oC:=HA.out.blk.later hW;have Xo:=vC.lt;obtain⟨z0,z1,z2,z3,z4,z5,z6⟩:=bA vC;obtain⟨y0,y1,y2,y3,y4,y5,y6⟩:=aF vC;obtain⟨x0,x1,x2,x3,x4,x5,x6⟩:=aS oC;have pz:=hid vC;clear vC oC;go_wp2_with fail;have HP:=bI pz.out y;have HR:=aS HP;unfold cz at HR;obtain⟨r0,r1,r2,r3,r4,r5,r6⟩:=HR;refine bodyPost_ret (v:=ji y) ?_ rfl ?_
   ·simp[results,Tryz.results133,go_sem,r0,r1,r2,r3,r4,r5,r6];rfl
   ·refine bu dh (Nat.le_refl _) ?_ (Tr.at_.keep (lH (Nat.le_refl _)) _ _ (Tr.at_.keep (eI hW) _ _ HA.out.tr)) GH.out;rw[Iw.out];exact HA.out.did.later hW
  ·skip
   obtain⟨m,rfl⟩:∃m,ir=.bad m:=by
    match ir,ml.out with
    | .good l,bh=>simp[aH.dR] at bh;omega
    | .bad m,_=>exact⟨m,rfl⟩
   obtain⟨hs1,hs2⟩:=jq.none_ HA.out.todo HIS.out (GC 3 m);have Iw:=hid hs1;have GH:=hid hs2;clear hs1 hs2;have vC:=HA.out.res;have oC:=HA.out.blk;have Xo:=vC.lt;obtain⟨z0,z1,z2,z3,z4,z5,z6⟩:=bA vC;obtain⟨y0,y1,y2,y3,y4,y5,y6⟩:=aF vC;obtain⟨x0,x1,x2,x3,x4,x5,x6⟩:=aS oC;have pz:=hid vC;clear vC oC;go_wp2_with fail;have HP:=bI pz.out y;have HR:=aS HP;unfold cz at HR;obtain⟨r0,r1,r2,r3,r4,r5,r6⟩:=HR;refine bodyPost_ret (v:=ji y) ?_ rfl ?_
   ·simp[results,Tryz.results133,go_sem,r0,r1,r2,r3,r4,r5,r6];rfl
   ·refine bu dh (Nat.le_refl _) ?_ (Tr.at_.keep (lH (Nat.le_refl _)) _ _ HA.out.tr) GH.out;rw[Iw.out];exact HA.out.did
theorem Et (ρ:cB)(w:World)(σ:aH)(big:Bool)(h:ρ.at w σ big)(IH:qq ρ (8*σ.left+4))(qm:(af (aq 4) σ).head qp=false)(o:Int)(hop:(af (aq 4) σ).op 3=some o):
  Calls Tryz.prog 133 #[ρ.ptr,.int .i64 3] w (dS ρ w big (aq 3) σ):=by
 have dh:=h.rP;have hb:=aa w jn;have h0:=h.later hb;have HQ:=hid (ag.new w 34 #[.int .u8 0,.int .u8 0,.int .i64 0,.string ⟨#[]⟩,.string ⟨#[]⟩,.int .i64 0,.slice none 0 0]);have hsz:(w.alloc jn).heap.size=w.heap.size+1:=by simp
 have hsm:=h.small;unfold jn at*;unfold cB.ptr;go_enter Tryz.func133,Tryz.ntmps133;go_wp2_with (first
  |(go_at_call 133;refine(IH 4 4 σ _ big rfl (by omega) (by omega) h0).mono ?_;rintro e w2 ⟨t,y,rfl,ht,d2,fP⟩;unfold ji cW))
 have hA:qL ρ w big σ w.heap.size w2.heap.size (w2.alloc (ky y)) _ t y:=
  ⟨((dH.bP h hb).trans d2).later (aa _ _),ag.new w2 _ _,(d2.blk HQ.out (by omega)).alloc _,Tr.at_.keep (rB _ (by rw[hsz];exact Nat.le_refl _)) _ _ ht,jq.start fP,aH.bs (dr _) σ⟩
 have Xq:w.heap.size+1≤w2.heap.size:=by have:=d2.size;omega
 unfold ky cW at hA;generalize w2.alloc _=W at*;generalize w2.heap.size=qx at*;generalize af (aq 4) σ=ir at*;have A:=hA;clear hA ht d2 fP h0 hb HQ;have Lk:=df ρ W _ big A.did.at_ ⟨#[105,115]⟩;have Ll:=hid hop;clear hop;rw[show ir.head (⟨#[105,115]⟩:ByteArray).data.toList=false from qm,aw (s:=(⟨#[105,115]⟩:ByteArray).data.toList) qm] at Lk;have HIS:=hid qm;clear qm;refine Lk.mono ?_;rintro e w1 ⟨rfl,d1⟩;replace A:=A.more d1 (by omega) (by omega);clear d1 Lk;go_wp2_with fail;have HA:=hid A;clear A;go_loopg [] 0 (fun k wr=>wr=w1);case atStart=>rfl
 case round=>
  subst hrel;obtain⟨tk,pl,bd,hpl,hlt,Zt,mE,bh,hg,yM,rQ,hp⟩:=HA.out.did.at_.nQ;have Zu:=HA.out.did.at_.left;have HP:=hid hp;have Ec:=hid hpl;have HG:=hid hg;have ml:=hid bh;have c2:=hp.c2;have Zv:=HA.out.blk.lt;clear hpl hg bh mE hp;have rD:bd < 0:=by
   match ir,ml.out,Ll.out with
   | .good l,bh,_=>simpa [aH.dR] using bh
   | .bad m,_,ho=>simp[GC] at ho
  obtain⟨l,rfl⟩:∃l,ir=.good l:=by
   match ir,ml.out with
   | .good l,_=>exact⟨l,rfl⟩
   | .bad m,bh=>simp[aH.dR] at bh;omega
  obtain⟨r,rfl⟩:=HG.out l rfl;have TE:=GD (lv:=3) (t:=tk.w) (r:=r);have UL:=ye 3 3 rfl (by simp) tk;have e1:(ρ.n:Int) - (aH.good (tk.w::r)).left+1=(ρ.n:Int) - r.length:=by simp only[aH.left,List.length_cons];omega
  have e2:(aH.good (tk.w::r)).left=r.length+1:=rfl;have G5:=hid e1;have Nn:=hid e2;clear e1 e2;generalize rE 3 tk.w=bi at*;have Xr:=hid TE;clear TE;have k0:=fun y:Ext wr.heap.size wr=>(HP.out.later y.h).c0
  have k1:=fun y:Ext wr.heap.size wr=>(HP.out.later y.h).c1
  have m0:=fun y:Ext wr.heap.size wr=>(HP.out.later y.h).d0
  have m1:=fun y:Ext wr.heap.size wr=>(HP.out.later y.h).d1
  have m2:=fun y:Ext wr.heap.size wr=>(HP.out.later y.h).d2
  have m3:=fun y:Ext wr.heap.size wr=>(HP.out.later y.h).d3
  go_wp2_with fail;refine bD 13 wr.heap.size wr (Below.refl _ _) (by kernel_rfl) (by kernel_rfl) (by kernel_rfl) (by kernel_rfl) ?_;simp only[List.take_succ_cons,List.take_zero,List.drop_succ_cons,List.drop_zero];repeat (go_big_quiet_step (first
   |(go_at_call 141;exact aT (Nat.le_refl _) (UL _))))
  refine wpQuiet_nil ?_;rintro W2 ⟨y2,iq⟩;have hW:=y2.h;rw[← iq] at hW;clear iq y2 k0 k1 m0 m1 m2 m3 c2;have hop:=Ll.out;clear Ll;have eo:bi=o:=by rw[Xr.out,hop];rfl
  subst eo;obtain⟨ho1,oL,s,hs⟩:=Ed hop;have Zw:tk.w.k≠0:=uS hs;have O9:=hid hop;have e0:(bi==0)=false:=by rw[beq_eq_false_iff_ne];omega
  have kI:=HA.out.did.at_.later hW;obtain⟨q0,q1,q2,q3,f1,f2,f3⟩:=kI.facts;have e1:=G5.out;have hst:=cB.at.step kI Zw;have Zr:r.length+1≤ρ.n:=by have:=kI.left;have:=Nn.out;omega
  clear hop hs kI q0 q2 q3 f2 f3;go_upto_region 23 with (first
   |(go_at_call 133;refine(IH 4 4 (.good r) _ big rfl (by omega) (by have:=HA.out.le;have:=Nn.out;have e5:(aH.good r).left=r.length:=rfl;omega) hst.at_).mono ?_;rintro e w3 ⟨t2,v2,rfl,Lc,d2,Ld⟩;unfold ji cW;have F:=qL.round dh rfl Xq HA.out hW hst d2 Lc HIS.out O9.out rfl Ld;have hz1:=d2.size;have hz2:=hst.size;have hz3:=hW.size;have B0:=((HA.out.blk.later hW).grown hst.grown (by simp;omega)).grown d2.grown (by simp;omega);have B1:=B0.alloc (.cells #[.int .u8 v2.op,.int .u8 v2.v.k,.int .i64 v2.v.n,.string v2.v.s,.string v2.name,.int .i64 v2.width,.slice v2.A v2.n v2.c] 34);have B2:=B1.alloc (.cells #[.int .u8 y.op,.int .u8 y.v.k,.int .i64 y.v.n,.string y.v.s,.string y.name,.int .i64 y.width,.slice y.A y.n y.c,.int .u8 v2.op,.int .u8 v2.v.k,.int .i64 v2.v.n,.string v2.v.s,.string v2.name,.int .i64 v2.width,.slice v2.A v2.n v2.c] 34);have N1:=ag.new w3 34 (cW v2).toArray;have X1:=aS B1;have X2:=aS B2;have X3:=bA B2;have X4:=aS N1;unfold cW at X4;obtain⟨x0,x1,x2,x3,x4,x5,x6⟩:=X1;obtain⟨y0,y1,y2,y3,y4,y5,y6⟩:=X2;obtain⟨z0,z1,z2,z3,z4,z5,z6⟩:=X3;obtain⟨a0,a1,a2,a3,a4,a5,a6⟩:=X4;have HF:=hid F;clear B0 B1 B2 N1 F))
  clear x0 x1 x2 x3 x4 x5 x6 y0 y1 y2 y3 y4 y5 y6 z0 z1 z2 z3 z4 z5 z6 a0 a1 a2 a3 a4 a5 a6;have F:=HF.out;clear HF;show Code.wp _ _ _ _ (cz ((w3.alloc (ky v2)).alloc (lT y v2)) qx (xN bi (w3.heap.size+1) 2));generalize cz ((w3.alloc (ky v2)).alloc (lT y v2)) qx (xN bi (w3.heap.size+1) 2)=W9 at*;generalize xN bi (w3.heap.size+1) 2=Y9 at*;obtain⟨x0,x1,x2,x3,x4,x5,x6⟩:=aS F.blk;obtain⟨z0,z1,z2,z3,z4,z5,z6⟩:=bA F.res;obtain⟨y0,y1,y2,y3,y4,y5,y6⟩:=aF F.res;have Xo:=F.res.lt;have HF:=hid F;clear F;go_wp2_with fail;have HP:=bI HF.out.res Y9;have HR:=aS HP;unfold cz at HR;obtain⟨r0,r1,r2,r3,r4,r5,r6⟩:=HR;refine bodyPost_ret (v:=ji Y9) ?_ rfl ?_
  ·simp[results,Tryz.results133,go_sem,r0,r1,r2,r3,r4,r5,r6];rfl
  ·exact bu dh (Nat.le_refl _) HF.out.did HF.out.tr HF.out.gives
theorem VQ (ρ:cB)(w:World)(σ:aH)(big:Bool)(h:ρ.at w σ big)(IH:qq ρ (8*σ.left+4)):
  Calls Tryz.prog 133 #[ρ.ptr,.int .i64 3] w (dS ρ w big (aq 3) σ):=by
 cases qm:(af (aq 4) σ).head qp
 ·cases hop:(af (aq 4) σ).op 3 with
  | none=>exact Es ρ w σ big h IH qm hop
  | some o=>exact Et ρ w σ big h IH qm o hop
 ·cases hn:(aH.good (af (aq 4) σ).words.tail).head lY
  ·exact GV ρ w σ big h IH qm hn
  ·exact GU ρ w σ big h IH qm hn
theorem Jm {t:Wd} {r:fN}(ho:(af bL (.good (t::r))).head cp=true) {n:ByteArray}(hn:au bL (.good (t::r)) n):n=⟨t.s.toArray⟩:=by
 by_cases h:t.k=1∧zh t.s=false
 ·simp only[au,bL,h,and_self,if_true] at hn;exact hn
 ·rw[pT,if_neg h] at ho;cases ho
theorem RQ {n:ByteArray} {op:Int}(h:fO n=some op):op=20∨op=22∨op=23∨op=24∨op=25∨op=26∨op=27∨op=28:=by
 unfold fO at h;generalize n.data.toList=x at h;simp only[Dz,List.lookup] at h
 repeat' split at h
 all_goals first |(cases h;done)|(injection h with h;omega)
theorem OL (ρ:cB)(w:World)(σ:aH)(big:Bool)(h:ρ.at w σ big)(IH:qq ρ (8*σ.left)):
  Calls Tryz.prog 140 #[ρ.ptr] w (dS ρ w big (aq 7) σ):=by
 match σ,h,IH with
 | .bad n,h,_=>exact GK ρ w big n h
 | .good [],h,_=>exact absurd h.left.1 (by simp[aH.left])
 | .good (t::r),h,IH=>
   have IH:qq ρ (8*(r.length+1)):=IH;by_cases k2:t.k=2
   ·exact GL ρ w big t r h k2
   by_cases k3:t.k=3
   ·exact Ef ρ w big t r h k3
   have hp:Plain t:=⟨k2,k3⟩;cases h1:lR kq t;case true=>exact Eg ρ w big t r h hp h1
   cases h2:lR jL t;case true=>exact BP ρ w big t r h hp h1 h2
   cases h3:lR fG t;case true=>exact Eh ρ w big t r h hp h1 h2 h3
   cases h4:lR cp t;case true=>exact Ei ρ w big t r h hp h1 h2 h3 h4 IH
   have hn:Au t:=⟨hp,h1,h2,h3,h4⟩;cases ho:(af bL (.good (t::r))).head cp
   ·exact GN ρ w big t r h hn ho
   ·cases hf:fO ⟨t.s.toArray⟩with
    | none=>exact Ek ρ w big t r h hn ho fun n hg=>by rw[Jm ho hg];exact hf
    | some op=>
      have hfn:∀n,au bL (.good (t::r)) n→fO n=some op:=fun n hg=>by rw[Jm ho hg];exact hf
      rcases RQ hf with rfl | rfl | rfl | rfl | rfl | rfl | rfl | rfl
      ·exact rI ρ w big t r h hn 20 ho hfn (.inl rfl) IH
      ·cases hs:(aH.good (af bL (.good (t::r))).words.tail).head ek
       ·exact jF ρ w big t r h hn 22 ho hfn (.inr (.inl ⟨rfl,hs⟩)) IH
       ·exact jF ρ w big t r h hn 22 ho hfn (.inr (.inr ⟨rfl,hs⟩)) IH
      ·exact jF ρ w big t r h hn 23 ho hfn (.inl ⟨rfl,rfl,rfl,rfl⟩) IH
      ·exact jF ρ w big t r h hn 24 ho hfn (.inl ⟨rfl,rfl,rfl,rfl⟩) IH
      ·exact jF ρ w big t r h hn 25 ho hfn (.inl ⟨rfl,rfl,rfl,rfl⟩) IH
      ·exact jF ρ w big t r h hn 26 ho hfn (.inl ⟨rfl,rfl,rfl,rfl⟩) IH
      ·exact rI ρ w big t r h hn 27 ho hfn (.inr ⟨.inl rfl,rfl,rfl,.inl rfl⟩) IH
      ·exact rI ρ w big t r h hn 28 ho hfn (.inr ⟨.inr rfl,rfl,rfl,.inr ⟨rfl,rfl⟩⟩) IH
theorem OM (ρ:cB)(w:World)(σ:aH)(big:Bool)(h:ρ.at w σ big)(IH:qq ρ (8*σ.left)):
  Calls Tryz.prog 133 #[ρ.ptr,.int .i64 7] w (dS ρ w big (aq 7) σ):=by
 have dh:=h.rP;have hb:=aa w jn;have h0:=h.later hb;have HQ:=hid (ag.new w 34 #[.int .u8 0,.int .u8 0,.int .i64 0,.string ⟨#[]⟩,.string ⟨#[]⟩,.int .i64 0,.slice none 0 0]);have hsz:(w.alloc jn).heap.size=w.heap.size+1:=by simp
 unfold jn at*;go_enter Tryz.func133,Tryz.ntmps133;go_wp2_with fail;refine(OL ρ _ σ big h0 IH).mono ?_;rintro e w2 ⟨t,y,rfl,ht,d2,fP⟩;unfold ji cW;have BN:=d2.blk HQ.out (by omega);have gU:=hid BN;obtain⟨z0,z1,z2,z3,z4,z5,z6⟩:=bA BN;obtain⟨y0,y1,y2,y3,y4,y5,y6⟩:=aF BN;have D2:=hid ((dH.bP h hb).trans d2);have hs2:=d2.size;clear BN d2;go_wp2_with fail;have HP:=bI gU.out y;have HR:=aS HP;unfold cz at HR;obtain⟨r0,r1,r2,r3,r4,r5,r6⟩:=HR;refine bodyPost_ret (v:=ji y) ?_ rfl ?_
 ·simp[results,Tryz.results133,go_sem,r0,r1,r2,r3,r4,r5,r6];rfl
 ·exact bu dh (Nat.le_refl _) D2.out (ht.more (by omega)) fP
theorem VR (ρ:cB):∀m,qq ρ m:=by
 intro m;induction m using Nat.strongRecOn with
 | ind m ih=>
   intro lv z σ W big hz hlv hm h;subst hz;have ih':qq ρ (8*σ.left+(7 - lv)):=ih _ hm
   match lv,hlv,ih' with
   | 0,_,ih'=>exact vQ ρ W σ big h 0 _ rfl (by simp) ih'
   | 1,_,ih'=>exact vQ ρ W σ big h 1 _ rfl (by simp) ih'
   | 2,_,ih'=>exact VH ρ W σ big h ih'
   | 3,_,ih'=>exact VQ ρ W σ big h ih'
   | 4,_,ih'=>exact vQ ρ W σ big h 4 _ rfl (by simp) ih'
   | 5,_,ih'=>exact vQ ρ W σ big h 5 _ rfl (by simp) ih'
   | 6,_,ih'=>exact VJ ρ W σ big h ih'
   | 7,_,ih'=>exact OM ρ W σ big h ih'
   | n+8,hlv,_=>omega
theorem uv (ρ:cB)(w:World)(σ:aH)(big:Bool)(h:ρ.at w σ big):
  Calls Tryz.prog 133 #[ρ.ptr,.int .i64 0] w (dS ρ w big dL σ):=
 VR ρ (8*σ.left+8) 0 0 σ w big rfl (by omega) (by omega) h
end Go.Proofs.YtfmbcoeallmnnaaGreatDoor.R
