/- Parts of the proof. -/
import Derived.Test.YtcneefmaghoejaaGreatDoorC16
namespace Go.Proofs.YtcneefmaghoejaaGreatDoor
open Go.Lib (hid)
open Go.ChangeShapes Go.WideShapes Go.ChangeAt Go.RowKit
set_option linter.unusedVariables false
set_option linter.unusedSimpArgs false
set_option maxHeartbeats 4000000
set_option maxRecDepth 100000
theorem Hz (ρ:br)(w:World)(σ:aW)(big:Bool)(h:ρ.at w σ big)(IH:uh ρ (8*σ.left+4))(yh:(ae (az 4) σ).head pk=false)(o:Int)(hop:(ae (az 4) σ).op 3=some o):
  Calls Tryz.prog 91 #[ρ.ptr,.int .i64 3] w (gu ρ w big (az 3) σ):=by
 have aF:=h.jt;have hb:=aa w lW;have h0:=h.later hb;have HQ:=hid (au.new w 49 #[.int .u8 0,.int .u8 0,.int .i64 0,.string ⟨#[]⟩,.string ⟨#[]⟩,.int .i64 0,.slice none 0 0]);have hsz:(w.alloc lW).heap.size=w.heap.size+1:=by simp
 have hsm:=h.small;unfold lW at*;unfold br.ptr;go_enter Tryz.func91,Tryz.ntmps91;go_wp2_with (first
  |(go_at_call 91;refine(IH 4 4 σ _ big rfl (by omega) (by omega) h0).mono ?_;rintro e w2 ⟨t,y,rfl,ht,d2,iF⟩;unfold ee bl))
 have hA:uB ρ w big σ w.heap.size w2.heap.size (w2.alloc (mX y)) _ t y:=
  ⟨((dV.aL h hb).trans d2).later (aa _ _),au.new w2 _ _,(d2.blk HQ.out (by omega)).alloc _,Tr.at_.keep (qC _ (by rw[hsz];exact Nat.le_refl _)) _ _ ht,lZ.start iF,aW.cw (cI _) σ⟩
 have Df:w.heap.size+1≤w2.heap.size:=by have:=d2.size;omega
 unfold mX bl at hA;generalize w2.alloc _=W at*;generalize w2.heap.size=qx at*;generalize ae (az 4) σ=fF at*;have A:=hA;clear hA ht d2 iF h0 hb HQ;have OQ:=dL ρ W _ big A.did.at_ ⟨#[105,115]⟩;have OS:=hid hop;clear hop;rw[show fF.head (⟨#[105,115]⟩:ByteArray).data.toList=false from yh,aG (s:=(⟨#[105,115]⟩:ByteArray).data.toList) yh] at OQ;have HIS:=hid yh;clear yh;refine OQ.mono ?_;rintro e w1 ⟨rfl,d1⟩;replace A:=A.more d1 (by omega) (by omega);clear d1 OQ;go_wp2_with fail;have HA:=hid A;clear A;go_loopg [] 0 (fun k wr=>wr=w1);case atStart=>rfl
 case round=>
  subst hrel;obtain⟨tk,pl,bd,hpl,hlt,aaV,kU,bQ,hg,mM,mA,hp⟩:=HA.out.did.at_.iB;have aaW:=HA.out.did.at_.left;have HP:=hid hp;have Dk:=hid hpl;have HG:=hid hg;have pc:=hid bQ;have c2:=hp.c2;have aaX:=HA.out.blk.lt;clear hpl hg bQ kU hp;have qI:bd < 0:=by
   match fF,pc.out,OS.out with
   | .good l,bQ,_=>simpa [aW.gp] using bQ
   | .bad m,_,ho=>simp[Kt] at ho
  obtain⟨l,rfl⟩:∃l,fF=.good l:=by
   match fF,pc.out with
   | .good l,_=>exact⟨l,rfl⟩
   | .bad m,bQ=>simp[aW.gp] at bQ;omega
  obtain⟨r,rfl⟩:=HG.out l rfl;have YZ:=KF (lv:=3) (t:=tk.w) (r:=r);have hbz:=AH 3 3 rfl (by simp) tk;have e1:(ρ.n:Int) - (aW.good (tk.w::r)).left+1=(ρ.n:Int) - r.length:=by simp only[aW.left,List.length_cons];omega
  have e2:(aW.good (tk.w::r)).left=r.length+1:=rfl;have xf:=hid e1;have rR:=hid e2;clear e1 e2;generalize uZ 3 tk.w=bi at*;have V5:=hid YZ;clear YZ;have k0:=fun y:Ext wr.heap.size wr=>(HP.out.later y.h).c0
  have k1:=fun y:Ext wr.heap.size wr=>(HP.out.later y.h).c1
  have m0:=fun y:Ext wr.heap.size wr=>(HP.out.later y.h).d0
  have m1:=fun y:Ext wr.heap.size wr=>(HP.out.later y.h).d1
  have m2:=fun y:Ext wr.heap.size wr=>(HP.out.later y.h).d2
  have m3:=fun y:Ext wr.heap.size wr=>(HP.out.later y.h).d3
  go_wp2_with fail;refine fY 13 wr.heap.size wr (Below.refl _ _) (by kernel_rfl) (by kernel_rfl) (by kernel_rfl) (by kernel_rfl) ?_;simp only[List.take_succ_cons,List.take_zero,List.drop_succ_cons,List.drop_zero];repeat (go_big_quiet_step (first
   |(go_at_call 108;exact ji (Nat.le_refl _) (hbz _))))
  refine wpQuiet_nil ?_;rintro W2 ⟨y2,QL⟩;have hW:=y2.h;rw[← QL] at hW;clear QL y2 k0 k1 m0 m1 m2 m3 c2;have hop:=OS.out;clear OS;have eo:bi=o:=by rw[V5.out,hop];rfl
  subst eo;obtain⟨ho1,mC,s,hs⟩:=Hi hop;have JD:tk.w.k≠0:=vI hs;have Sc:=hid hop;have e0:(bi==0)=false:=by rw[beq_eq_false_iff_ne];omega
  have kC:=HA.out.did.at_.later hW;obtain⟨q0,q1,q2,q3,f1,f2,f3⟩:=kC.facts;have e1:=xf.out;have hst:=br.at.step kC JD;have GD:r.length+1≤ρ.n:=by have:=kC.left;have:=rR.out;omega
  clear hop hs kC q0 q2 q3 f2 f3;go_upto_region 23 with (first
   |(go_at_call 91;refine(IH 4 4 (.good r) _ big rfl (by omega) (by have:=HA.out.le;have:=rR.out;have e5:(aW.good r).left=r.length:=rfl;omega) hst.at_).mono ?_;rintro e w3 ⟨t2,v2,rfl,zm,d2,OM⟩;unfold ee bl;have F:=uB.round aF rfl Df HA.out hW hst d2 zm HIS.out Sc.out rfl OM;have hz1:=d2.size;have hz2:=hst.size;have hz3:=hW.size;have B0:=((HA.out.blk.later hW).grown hst.grown (by simp;omega)).grown d2.grown (by simp;omega);have B1:=B0.alloc (.cells #[.int .u8 v2.op,.int .u8 v2.v.k,.int .i64 v2.v.n,.string v2.v.s,.string v2.name,.int .i64 v2.width,.slice v2.A v2.n v2.c] 49);have B2:=B1.alloc (.cells #[.int .u8 y.op,.int .u8 y.v.k,.int .i64 y.v.n,.string y.v.s,.string y.name,.int .i64 y.width,.slice y.A y.n y.c,.int .u8 v2.op,.int .u8 v2.v.k,.int .i64 v2.v.n,.string v2.v.s,.string v2.name,.int .i64 v2.width,.slice v2.A v2.n v2.c] 49);have N1:=au.new w3 49 (bl v2).toArray;have X1:=ck B1;have X2:=ck B2;have X3:=cQ B2;have X4:=ck N1;unfold bl at X4;obtain⟨x0,x1,x2,x3,x4,x5,x6⟩:=X1;obtain⟨y0,y1,y2,y3,y4,y5,y6⟩:=X2;obtain⟨z0,z1,z2,z3,z4,z5,z6⟩:=X3;obtain⟨a0,a1,a2,a3,a4,a5,a6⟩:=X4;have HF:=hid F;clear B0 B1 B2 N1 F))
  clear x0 x1 x2 x3 x4 x5 x6 y0 y1 y2 y3 y4 y5 y6 z0 z1 z2 z3 z4 z5 z6 a0 a1 a2 a3 a4 a5 a6;have F:=HF.out;clear HF;show Code.wp _ _ _ _ (dR ((w3.alloc (mX v2)).alloc (oO y v2)) qx (nU bi (w3.heap.size+1) 2));generalize dR ((w3.alloc (mX v2)).alloc (oO y v2)) qx (nU bi (w3.heap.size+1) 2)=W9 at*;generalize nU bi (w3.heap.size+1) 2=Y9 at*;obtain⟨x0,x1,x2,x3,x4,x5,x6⟩:=ck F.blk;obtain⟨z0,z1,z2,z3,z4,z5,z6⟩:=cQ F.res;obtain⟨y0,y1,y2,y3,y4,y5,y6⟩:=bu F.res;have H8:=F.res.lt;have HF:=hid F;clear F;go_wp2_with fail;have HP:=cV HF.out.res Y9;have HR:=ck HP;unfold dR at HR;obtain⟨r0,r1,r2,r3,r4,r5,r6⟩:=HR;refine bodyPost_ret (v:=ee Y9) ?_ rfl ?_
  ·simp[results,Tryz.results91,go_sem,r0,r1,r2,r3,r4,r5,r6];rfl
  ·exact cN aF (Nat.le_refl _) HF.out.did HF.out.tr HF.out.gives
theorem K5 (ρ:br)(w:World)(σ:aW)(big:Bool)(h:ρ.at w σ big)(IH:uh ρ (8*σ.left+4)):
  Calls Tryz.prog 91 #[ρ.ptr,.int .i64 3] w (gu ρ w big (az 3) σ):=by
 cases yh:(ae (az 4) σ).head pk
 ·cases hop:(ae (az 4) σ).op 3 with
  | none=>exact Hy ρ w σ big h IH yh hop
  | some o=>exact Hz ρ w σ big h IH yh o hop
 ·cases hn:(aW.good (ae (az 4) σ).words.tail).head kD
  ·exact KO ρ w σ big h IH yh hn
  ·exact KN ρ w σ big h IH yh hn
theorem MJ {t:Wd} {r:bH}(ho:(ae aN (.good (t::r))).head aX=true) {n:ByteArray}(hn:aK aN (.good (t::r)) n):n=⟨t.s.toArray⟩:=by
 by_cases h:t.k=1∧vC t.s=false
 ·simp only[aK,aN,h,and_self,if_true] at hn;exact hn
 ·rw[tI,if_neg h] at ho;cases ho
theorem WW {n:ByteArray} {op:Int}(h:fT n=some op):op=20∨op=22∨op=23∨op=24∨op=25∨op=26∨op=27∨op=28:=by
 unfold fT at h;generalize n.data.toList=x at h;simp only[zW,List.lookup] at h
 repeat' split at h
 all_goals first |(cases h;done)|(injection h with h;omega)
theorem SB (ρ:br)(w:World)(σ:aW)(big:Bool)(h:ρ.at w σ big)(IH:uh ρ (8*σ.left)):
  Calls Tryz.prog 107 #[ρ.ptr] w (gu ρ w big (az 7) σ):=by
 match σ,h,IH with
 | .bad n,h,_=>exact KH ρ w big n h
 | .good [],h,_=>exact absurd h.left.1 (by simp[aW.left])
 | .good (t::r),h,IH=>
   have IH:uh ρ (8*(r.length+1)):=IH;by_cases k2:t.k=2
   ·exact KI ρ w big t r h k2
   by_cases k3:t.k=3
   ·exact Hp ρ w big t r h k3
   have hp:Plain t:=⟨k2,k3⟩;cases h1:kO eE t;case true=>exact Hq ρ w big t r h hp h1
   cases h2:kO ei t;case true=>exact Fj ρ w big t r h hp h1 h2
   cases h3:kO cE t;case true=>exact Hr ρ w big t r h hp h1 h2 h3
   cases h4:kO aX t;case true=>exact Hs ρ w big t r h hp h1 h2 h3 h4 IH
   have hn:Dj t:=⟨hp,h1,h2,h3,h4⟩;cases ho:(ae aN (.good (t::r))).head aX
   ·exact KJ ρ w big t r h hn ho
   ·cases hf:fT ⟨t.s.toArray⟩with
    | none=>exact Ht ρ w big t r h hn ho fun n hg=>by rw[MJ ho hg];exact hf
    | some op=>
      have hfn:∀n,aK aN (.good (t::r)) n→fT n=some op:=fun n hg=>by rw[MJ ho hg];exact hf
      rcases WW hf with rfl | rfl | rfl | rfl | rfl | rfl | rfl | rfl
      ·exact vd ρ w big t r h hn 20 ho hfn (.inl rfl) IH
      ·cases hs:(aW.good (ae aN (.good (t::r))).words.tail).head eI
       ·exact mn ρ w big t r h hn 22 ho hfn (.inr (.inl ⟨rfl,hs⟩)) IH
       ·exact mn ρ w big t r h hn 22 ho hfn (.inr (.inr ⟨rfl,hs⟩)) IH
      ·exact mn ρ w big t r h hn 23 ho hfn (.inl ⟨rfl,rfl,rfl,rfl⟩) IH
      ·exact mn ρ w big t r h hn 24 ho hfn (.inl ⟨rfl,rfl,rfl,rfl⟩) IH
      ·exact mn ρ w big t r h hn 25 ho hfn (.inl ⟨rfl,rfl,rfl,rfl⟩) IH
      ·exact mn ρ w big t r h hn 26 ho hfn (.inl ⟨rfl,rfl,rfl,rfl⟩) IH
      ·exact vd ρ w big t r h hn 27 ho hfn (.inr ⟨.inl rfl,rfl,rfl,.inl rfl⟩) IH
      ·exact vd ρ w big t r h hn 28 ho hfn (.inr ⟨.inr rfl,rfl,rfl,.inr ⟨rfl,rfl⟩⟩) IH
theorem SC (ρ:br)(w:World)(σ:aW)(big:Bool)(h:ρ.at w σ big)(IH:uh ρ (8*σ.left)):
  Calls Tryz.prog 91 #[ρ.ptr,.int .i64 7] w (gu ρ w big (az 7) σ):=by
 have aF:=h.jt;have hb:=aa w lW;have h0:=h.later hb;have HQ:=hid (au.new w 49 #[.int .u8 0,.int .u8 0,.int .i64 0,.string ⟨#[]⟩,.string ⟨#[]⟩,.int .i64 0,.slice none 0 0]);have hsz:(w.alloc lW).heap.size=w.heap.size+1:=by simp
 unfold lW at*;go_enter Tryz.func91,Tryz.ntmps91;go_wp2_with fail;refine(SB ρ _ σ big h0 IH).mono ?_;rintro e w2 ⟨t,y,rfl,ht,d2,iF⟩;unfold ee bl;have jN:=d2.blk HQ.out (by omega);have fy:=hid jN;obtain⟨z0,z1,z2,z3,z4,z5,z6⟩:=cQ jN;obtain⟨y0,y1,y2,y3,y4,y5,y6⟩:=bu jN;have D2:=hid ((dV.aL h hb).trans d2);have hs2:=d2.size;clear jN d2;go_wp2_with fail;have HP:=cV fy.out y;have HR:=ck HP;unfold dR at HR;obtain⟨r0,r1,r2,r3,r4,r5,r6⟩:=HR;refine bodyPost_ret (v:=ee y) ?_ rfl ?_
 ·simp[results,Tryz.results91,go_sem,r0,r1,r2,r3,r4,r5,r6];rfl
 ·exact cN aF (Nat.le_refl _) D2.out (ht.more (by omega)) iF
theorem K6 (ρ:br):∀m,uh ρ m:=by
 intro m;induction m using Nat.strongRecOn with
 | ind m ih=>
   intro lv z σ W big hz hlv hm h;subst hz;have ih':uh ρ (8*σ.left+(7 - lv)):=ih _ hm
   match lv,hlv,ih' with
   | 0,_,ih'=>exact zr ρ W σ big h 0 _ rfl (by simp) ih'
   | 1,_,ih'=>exact zr ρ W σ big h 1 _ rfl (by simp) ih'
   | 2,_,ih'=>exact J5 ρ W σ big h ih'
   | 3,_,ih'=>exact K5 ρ W σ big h ih'
   | 4,_,ih'=>exact zr ρ W σ big h 4 _ rfl (by simp) ih'
   | 5,_,ih'=>exact zr ρ W σ big h 5 _ rfl (by simp) ih'
   | 6,_,ih'=>exact J7 ρ W σ big h ih'
   | 7,_,ih'=>exact SC ρ W σ big h ih'
   | n+8,hlv,_=>omega
theorem vg (ρ:br)(w:World)(σ:aW)(big:Bool)(h:ρ.at w σ big):
  Calls Tryz.prog 91 #[ρ.ptr,.int .i64 0] w (gu ρ w big cW σ):=
 K6 ρ (8*σ.left+8) 0 0 σ w big rfl (by omega) (by omega) h
def eP (y:Sl):Value:=.slice y.A y.n y.c
def Sl.nil:Sl:=⟨none,0,0⟩
def El.sl {α:Type}(E:El α)(w:World)(S:Nat→Prop)(y:Sl)(l:List α):Prop:=E.lies w S y.A y.n l
theorem El.nj {α:Type}(E:El α)(w:World)(S:Nat→Prop):E.sl w S Sl.nil []:=E.Ri w S
theorem El.sl.keep {α:Type} {E:El α} {w w':World} {S S':Nat→Prop} {y:Sl} {l:List α}(h:E.sl w S y l)(hk:∀b,S b→(∀o,w'.cell? ⟨b,o,none⟩=w.cell? ⟨b,o,none⟩)∧S' b):E.sl w' S' y l:=El.lies.keep h hk
structure tP where
 items:Sl:=.nil
 bw:ByteArray:=ByteArray.empty
 only:Bool:=false
 bK:Sl:=.nil
 group:Sl:=.nil
 having:Sl:=.nil
 order:Sl:=.nil
 cG:Sl:=.nil
def lx (y:tP):List Value:=[eP y.items,.string y.bw,.bool y.only,eP y.bK,eP y.group,eP y.having,eP y.order,eP y.cG]
def KP (y:tP):Value:=.agg (lx y).toArray
structure Qu.at_ (w:World) (S:Nat→Prop) (q:Qu) (y:tP):Prop where
 items:jE.sl w S y.items q.items
 bw:y.bw=q.bw
 only:y.only=q.only
 bK:gL.sl w S y.bK q.bK
 group:gL.sl w S y.group q.group
 having:gL.sl w S y.having q.having
 order:iM.sl w S y.order q.order
 cG:LW.sl w S y.cG q.cG
theorem Qu.at_.keep {w w':World} {S S':Nat→Prop} {q:Qu} {y:tP}(hk:∀b,S b→(∀o,w'.cell? ⟨b,o,none⟩=w.cell? ⟨b,o,none⟩)∧S' b)(h:q.at_ w S y):q.at_ w' S' y:=
 ⟨h.items.keep hk,h.bw,h.only,h.bK.keep hk,h.group.keep hk,h.having.keep hk,h.order.keep hk,h.cG.keep hk⟩
theorem Qu.fq (w:World)(S:Nat→Prop):Qu.at_ w S {} {}:=⟨jE.nj _ _,rfl,rfl,gL.nj _ _,gL.nj _ _,gL.nj _ _,iM.nj _ _,LW.nj _ _⟩
structure qY where
 kind:Int:=0
 name:ByteArray:=ByteArray.empty
 cp:Sl:=.nil
 time:ByteArray:=ByteArray.empty
 every:Int:=0
 space:ByteArray:=ByteArray.empty
 parts:Int:=0
 query:tP:= {}
 what:Int:=0
 cf:ByteArray:=ByteArray.empty
 a:Int:=0
 b:Int:=0
 rows:Sl:=.nil
 ej:Sl:=.nil
 bK:Sl:=.nil
 bw:Val:=cX
 ez:Val:=cX
def fI (v:Val):List Value:=[.int .u8 v.k,.int .i64 v.n,.string v.s]
def cx (y:qY):List Value:=[.int .u8 y.kind,.string y.name,eP y.cp,.string y.time,.int .i64 y.every,.string y.space,.int .i64 y.parts]++lx y.query++ [.int .u8 y.what,.string y.cf,.int .i64 y.a,.int .i64 y.b,eP y.rows,eP y.ej,eP y.bK]++fI y.bw++fI y.ez
def np (y:qY):Value:=.agg (cx y).toArray
structure St.at_ (w:World) (S:Nat→Prop) (s:St) (y:qY):Prop where
 kind:y.kind=s.kind
 name:y.name=s.name
 cp:pJ.sl w S y.cp s.cp
 time:y.time=s.time
 every:y.every=s.every
 space:y.space=s.space
 parts:y.parts=s.parts
 query:s.query.at_ w S y.query
 what:y.what=s.what
 cf:y.cf=s.cf
 a:y.a=s.a
 b:y.b=s.b
 rows:pL.sl w S y.rows s.rows
 ej:pK.sl w S y.ej s.ej
 bK:gL.sl w S y.bK s.bK
 bw:y.bw=s.bw
 ez:y.ez=s.ez
theorem St.at_.keep {w w':World} {S S':Nat→Prop} {s:St} {y:qY}(hk:∀b,S b→(∀o,w'.cell? ⟨b,o,none⟩=w.cell? ⟨b,o,none⟩)∧S' b)(h:s.at_ w S y):s.at_ w' S' y:=
 ⟨h.kind,h.name,h.cp.keep hk,h.time,h.every,h.space,h.parts,h.query.keep hk,h.what,h.cf,h.a,h.b,h.rows.keep hk,h.ej.keep hk,h.bK.keep hk,h.bw,h.ez⟩
theorem St.fq (w:World)(S:Nat→Prop):St.at_ w S {} {}:=
 ⟨rfl,rfl,pJ.nj _ _,rfl,rfl,rfl,rfl,Qu.fq _ _,rfl,rfl,rfl,rfl,pL.nj _ _,pK.nj _ _,gL.nj _ _,rfl,rfl⟩
def SD {α:Type}(E:El α)(ρ:br)(W:World)(big:Bool)(p:Ps (List α))(σ:aW)(e:Ending)(w':World):Prop:=∃(l:List α) (y:Sl),e=.returned (eP y)∧E.sl w' (eD W.heap.size w') y l∧dV ρ W w' (ae p σ) (big || decide (64 < l.length))∧aK p σ l
def xz {α:Type}(E:El α)(val:E.β→Value)(lng:α→Bool)(ρ:br)(W:World)(big:Bool)(p:Ps α)(σ:aW)(e:Ending)(w':World):Prop:=∃(x:α) (y:E.β),e=.returned (val y)∧E.rel w' (eD W.heap.size w') x y∧dV ρ W w' (ae p σ) (big || lng x)∧aK p σ x
theorem SE {w:World} {S:Nat→Prop} {G:Nat} {x:Tr} {y:Ex}(h:au w G 49 (bl y).toArray)(hS:S G)(hx:x.at_ w S y):gL.sl w S ⟨some ⟨G,0,none⟩,1,1⟩ [x]:=
 ⟨rfl,[y],xk (f:=bl) lJ (by show au w G _ (bl y++ []).toArray;rw[List.append_nil];exact h) hS,.one hx⟩
def zB (y:Ex×ByteArray):List Value:=bl y.1++ [.string y.2]
def WX (y:Ex×ByteArray):Value:=.agg (zB y).toArray
theorem dc {w:World} {q:Nat} {T:TypeId} {a b c d e f g i:Value}(h:au w q T #[a,b,c,d,e,f,g,i]):
  w.cell? ⟨q,0,none⟩=some a∧w.cell? ⟨q,1,none⟩=some b∧w.cell? ⟨q,2,none⟩=some c∧w.cell? ⟨q,3,none⟩=some d∧w.cell? ⟨q,4,none⟩=some e∧w.cell? ⟨q,5,none⟩=some f∧w.cell? ⟨q,6,none⟩=some g∧w.cell? ⟨q,7,none⟩=some i:=
 ⟨h.cell 0,h.cell 1,h.cell 2,h.cell 3,h.cell 4,h.cell 5,h.cell 6,h.cell 7⟩
theorem iD {w:World} {q:Nat} {T:TypeId} {cs:Array Value}(h:au w q T cs):
  w.frozen? ⟨q,0,none⟩=false∧w.frozen? ⟨q,1,none⟩=false∧w.frozen? ⟨q,2,none⟩=false∧w.frozen? ⟨q,3,none⟩=false∧w.frozen? ⟨q,4,none⟩=false∧w.frozen? ⟨q,5,none⟩=false∧w.frozen? ⟨q,6,none⟩=false∧w.frozen? ⟨q,7,none⟩=false:=
 ⟨h.frozen 0,h.frozen 1,h.frozen 2,h.frozen 3,h.frozen 4,h.frozen 5,h.frozen 6,h.frozen 7⟩
def vh (w:World)(q:Nat)(y:Ex)(v:Value):World:=(dR w q y).setCell ⟨q,7,none⟩ v
theorem dV.vh {ρ:br} {W w:World} {σ:aW} {big:Bool} {q:Nat}(h:dV ρ W w σ big)(hW:ρ.g < W.heap.size)(hq:W.heap.size≤q)(y:Ex)(v:Value):dV ρ W (vh w q y v) σ big:=(h.dR hW hq y).far hW hq 7 v
theorem Tr.at_.vh {B q:Nat} {w:World} {t:Tr} {y:Ex}(h:t.at_ w (eD B w) y)(hq:q < B)(z:Ex)(v:Value):t.at_ (vh w q z v) (eD B (Go.Proofs.YtcneefmaghoejaaGreatDoor.vh w q z v)) y:=(h.dR hq z).set hq 7 v
theorem AW {w:World} {q:Nat} {T:TypeId} {a b c d e f g i:Value}(h:au w q T #[a,b,c,d,e,f,g,i])(y:Ex)(v:Value):au (vh w q y v) q T (bl y++ [v]).toArray:=by have:=((((((((h.cg 0 (.int .u8 y.op)).cg 1 (.int .u8 y.v.k)).cg 2 (.int .i64 y.v.n)).cg 3 (.string y.v.s)).cg 4 (.string y.name)).cg 5 (.int .i64 y.width)).cg 6 (.slice y.A y.n y.c)).cg 7 v);simp only[List.setIfInBounds_toArray,List.set_cons_zero,List.set_cons_succ] at this;exact this
def V8:Obj:=.cells #[.int .u8 0,.int .u8 0,.int .i64 0,.string ⟨#[]⟩,.string ⟨#[]⟩,.int .i64 0,.slice none 0 0,.string ⟨#[]⟩] 51
theorem HJ (ρ:br)(w:World)(σ:aW)(big:Bool)(h:ρ.at w σ big)(has:(ae cW σ).head mK=false):
  Calls Tryz.prog 85 #[ρ.ptr] w (xz jE WX (fun _=>false) ρ w big gy σ):=by
 have aF:=h.jt;have hb:=aa w V8;have h0:=h.later hb;have HQ:=hid (au.new w 51 #[.int .u8 0,.int .u8 0,.int .i64 0,.string ⟨#[]⟩,.string ⟨#[]⟩,.int .i64 0,.slice none 0 0,.string ⟨#[]⟩]);have hsz:(w.alloc V8).heap.size=w.heap.size+1:=by simp
 unfold V8 at*;go_enter Tryz.func85,Tryz.ntmps85;go_wp2_with fail;refine(vg ρ _ σ big h0).mono ?_;rintro e w2 ⟨t,y,rfl,ht,d2,iF⟩;unfold ee bl;have hs2:=d2.size;go_wp2_with fail;have D3:=((dV.aL h hb).trans d2).later (aa w2 (.cells (zB (y,⟨#[]⟩)).toArray 51));have HX:=au.new w2 51 (zB (y,⟨#[]⟩)).toArray;have fy:=(d2.blk HQ.out (by omega)).alloc (.cells (zB (y,⟨#[]⟩)).toArray 51);have Zi:=(ht.later (aa w2 (.cells (zB (y,⟨#[]⟩)).toArray 51))).more (B':=w.heap.size+1) (by omega);unfold zB bl at D3 HX fy Zi;simp only[List.cons_append,List.nil_append] at D3 HX fy Zi;generalize w2.alloc _=W3 at*;have Zj:=hid (Ky iF has);have hm:=eG ρ W3 _ big D3.at_ ⟨#[97,115]⟩ has;clear has iF h0 hb HQ ht d2;refine hm.mono ?_;rintro e w4 ⟨rfl,d4⟩;have sk:=d4.blk HX (by omega);have mE:=d4.blk fy (by omega);have HT4:=hid (Zi.grown d4.grown (by omega));have jX:=hid (D3.trans d4);have rj:=hid mE;obtain⟨x0,x1,x2,x3,x4,x5,x6,x7⟩:=dc sk;obtain⟨y0,y1,y2,y3,y4,y5,y6,y7⟩:=dc mE;obtain⟨z0,z1,z2,z3,z4,z5,z6,z7⟩:=iD mE;clear sk mE HX fy Zi D3 d4 hm;go_wp2_with fail;have HP:=AW rj.out y (.string ⟨#[]⟩);have HR:=dc HP;unfold vh dR at HR;obtain⟨r0,r1,r2,r3,r4,r5,r6,r7⟩:=HR;refine bodyPost_ret (v:=WX (y,⟨#[]⟩)) ?_ rfl ?_
 ·simp[results,Tryz.results85,go_sem,r0,r1,r2,r3,r4,r5,r6,r7];rfl
 ·refine⟨(t,ByteArray.empty),(y,⟨#[]⟩),rfl,⟨(HT4.out.vh (Nat.lt_succ_self _) y (.string ⟨#[]⟩)).more (by omega),rfl⟩,?_,Zj.out.2⟩;rw[Zj.out.1,Bool.or_false];exact jX.out.vh aF (Nat.le_refl _) y (.string ⟨#[]⟩)
theorem KQ (ρ:br)(w:World)(σ:aW)(big:Bool)(h:ρ.at w σ big)(has:(ae cW σ).head mK=true):
  Calls Tryz.prog 85 #[ρ.ptr] w (xz jE WX (fun _=>false) ρ w big gy σ):=by
 have aF:=h.jt;have hb:=aa w V8;have h0:=h.later hb;have HQ:=hid (au.new w 51 #[.int .u8 0,.int .u8 0,.int .i64 0,.string ⟨#[]⟩,.string ⟨#[]⟩,.int .i64 0,.slice none 0 0,.string ⟨#[]⟩]);have hsz:(w.alloc V8).heap.size=w.heap.size+1:=by simp
 unfold V8 at*;go_enter Tryz.func85,Tryz.ntmps85;go_wp2_with fail;refine(vg ρ _ σ big h0).mono ?_;rintro e w2 ⟨t,y,rfl,ht,d2,iF⟩;unfold ee bl;have hs2:=d2.size;go_wp2_with fail;have D3:=((dV.aL h hb).trans d2).later (aa w2 (.cells (zB (y,⟨#[]⟩)).toArray 51));have HX:=au.new w2 51 (zB (y,⟨#[]⟩)).toArray;have fy:=(d2.blk HQ.out (by omega)).alloc (.cells (zB (y,⟨#[]⟩)).toArray 51);have Zi:=(ht.later (aa w2 (.cells (zB (y,⟨#[]⟩)).toArray 51))).more (B':=w.heap.size+1) (by omega);have K7:=Tr.at_.keep (qC (.cells (zB (y,⟨#[]⟩)).toArray 51) (show w.heap.size+1≤_ by omega)) _ _ ht;have hs3:(w2.alloc (.cells (zB (y,⟨#[]⟩)).toArray 51)).heap.size=w2.heap.size+1:=by simp
 unfold zB bl at D3 HX fy Zi K7 hs3;simp only[List.cons_append,List.nil_append] at D3 HX fy Zi K7 hs3;generalize w2.alloc _=W3 at*;have HGV:=hid iF;have HAS:=hid has;have hm:=mO ρ W3 _ big D3.at_ ⟨#[97,115]⟩ has;clear has iF h0 hb HQ ht d2;refine hm.mono ?_;rintro e w4 ⟨rfl,d4⟩;go_wp2_with fail;refine(dY ρ _ _ big d4.at_).mono ?_;rintro e w5 ⟨n,rfl,d5,eh⟩;have Su:=d4.size;have hit:=OG HGV.out HAS.out eh;have Zj:=hid hit;clear hit eh;have xg:=d5.blk (d4.blk HX (by omega)) (by omega);have hx2:=HX.lt;have VL:=xg.cg 7 (.string n);simp only[List.setIfInBounds_toArray,List.set_cons_zero,List.set_cons_succ] at VL;have zx:=xg.frozen 7;have hxc:=xg.cell 7;have qL:=(d5.blk (d4.blk fy (by omega)) (by omega)).far (p:=⟨w2.heap.size,7,none⟩) (by simp;omega) (.string n);have D6:=((D3.trans d4).trans d5).far aF (show w.heap.size≤w2.heap.size by omega) 7 (.string n);have V9:=hid (Tr.at_.keep (ir (Nat.le_refl _)) _ _ (Tr.at_.keep (zV 7 (.string n)) _ _ (Tr.at_.keep (eL d5.grown (by omega)) _ _ (Tr.at_.keep (eL d4.grown (by omega)) _ _ K7))));have yR:=hid D6;have rj:=hid qL;obtain⟨x0,x1,x2,x3,x4,x5,x6,x7⟩:=dc VL;obtain⟨y0,y1,y2,y3,y4,y5,y6,y7⟩:=dc qL;obtain⟨z0,z1,z2,z3,z4,z5,z6,z7⟩:=iD qL;clear xg VL qL HX fy Zi D3 d4 hm d5 D6 hx2;go_wp2_with fail;have HP:=AW rj.out y (.string n);have HR:=dc HP;unfold vh dR at HR;obtain⟨r0,r1,r2,r3,r4,r5,r6,r7⟩:=HR;refine bodyPost_ret (v:=WX (y,n)) ?_ rfl ?_
 ·simp[results,Tryz.results85,go_sem,r0,r1,r2,r3,r4,r5,r6,r7];rfl
 ·refine⟨(t,n),(y,n),rfl,⟨(V9.out.vh (Nat.lt_succ_self _) y (.string n)).more (by omega),rfl⟩,?_,Zj.out.2⟩;rw[Zj.out.1,Bool.or_false];exact yR.out.vh aF (Nat.le_refl _) y (.string n)
theorem Dn (ρ:br)(w:World)(σ:aW)(big:Bool)(h:ρ.at w σ big):
  Calls Tryz.prog 85 #[ρ.ptr] w (xz jE WX (fun _=>false) ρ w big gy σ):=by
 cases has:(ae cW σ).head mK
 ·exact HJ ρ w σ big h has
 ·exact KQ ρ w σ big h has
theorem qZ {α:Type} {f:α→List Value} {e:TypeId} {size:Nat} {base:Nat} {lv:Value} {l:List α} {y:α} {P:Program} {w:World}(t ty:TypeId)(z:Value)(bytes:Nat)(ht:P.underlying t=some (.slice e))(nS:(P.info? e).map (fun i=>(i.zero,i.size,i.bytes))=some (some z,size,bytes))(hzs:z.cells.size=size)(hsz:0 < size)
  (hf:∀x,(f x).length=size) (h1:∀u∈f y,u.oneCell'=true) (hown:df f e size w base lv l)
  (g0:Nat) (hg0:au w g0 e (f y).toArray) (hlen:(l.length+1)*bytes≤140737488355328) (oU:l.length+1≤140737488355328) (hbase:base≤w.heap.size):
  ∃v' w',(Builtin.append_ #[t,t] ty #[lv,.slice (some ⟨g0,0,none⟩) 1 1]).run P w=.ok v' w'∧df f e size w' base v' (l++ [y])∧AR f e size base lv l y w w'∧(v'.ownBlock=lv.ownBlock∨v'.ownBlock=some w.heap.size):=by
 obtain⟨v',w',hr,ho,ha⟩:=lG t ty z bytes ht nS hzs hsz hf h1 hown g0 hg0 hlen oU hbase;obtain⟨i0,CF,hz0,hz1,hz2⟩:=info_parts nS;obtain⟨v2,w2,hr2,_,_,h4⟩:=nR (P:=P) w base t ty e i0 z size bytes ht CF hz0 hz1 hz2 hzs hsz lv l.length (l.flatMap f) hown (g0+1) (some ⟨g0,0,none⟩) 1 1 (f y) ⟨by rw[hf];omega,fun _=>⟨_,rfl,Nat.lt_succ_self _,by
  intro j u hu
  have:(Addr.add ⟨g0,0,none⟩ j)=⟨g0,j,none⟩:=by unfold Addr.add;split <;> simp_all
  rw[this,hg0.cell]
  simpa using hu⟩⟩ h1 (by unfold maxLen;omega) hlen hbase
 rw[hr] at hr2;injection hr2 with e1 e2;subst e1 e2;exact⟨v',w',hr,ho,ha,h4⟩
theorem ot {α:Type} {f:α→List Value} {e:TypeId} {size:Nat} {base:Nat} {v:Value} {l:List α} {w:World} {P:Program} {ops:Array Oper} {rest:List Oper} {o:Oper} {a:Act} {Q:Exit→Act→World→Prop}(hgd:o.guard=none)(s x:Operand)(t:TypeId)
  (ho:o.op=.call { callee:=.builtin .append,args:= #[s,x],argTypes:= #[t,t] })
  (z:Value) (bytes:Nat) (ht:P.underlying t=some (.slice e)) (nS:(P.info? e).map (fun i=>(i.zero,i.size,i.bytes))=some (some z,size,bytes)) (hzs:z.cells.size=size) (hsz:0 < size)
  (y:α) (hf:(f y).length=size) (h1:∀u∈f y,u.oneCell'=true)
  (hs:a.eval s=v) (hown:df f e size w base v l)
  (g:Nat) (hx:a.eval x=.slice (some ⟨g,0,none⟩) 1 1) (hg:au w g e (f y).toArray)
  (hlen:(l.length+1)*bytes≤140737488355328) (oU:l.length+1≤140737488355328) (hbase:base≤w.heap.size)
  (h:∀v' w',df f e size w' base v' (l++ [y])→w.grownBy w' v.ownBlock→(v'.ownBlock=v.ownBlock∨v'.ownBlock=some w.heap.size)→wpList P ops Q rest (a.put o.dst v') w'):wpList P ops Q (o::rest) a w:=by
 obtain⟨i0,CF,hz0,hz1,hz2⟩:=info_parts nS;refine oT w hgd s x t ho base e i0 z size bytes ht CF hz0 hz1 hz2 hzs hsz v l.length (l.flatMap f) hs hown (g+1) (some ⟨g,0,none⟩) 1 1 (f y) hx ⟨by omega,fun _=>⟨_,rfl,Nat.lt_succ_self _,?_⟩⟩ h1 (by unfold maxLen;omega) hlen hbase ?_
 ·intro j u hu;have:(Addr.add ⟨g,0,none⟩ j)=⟨g,j,none⟩:=by unfold Addr.add;split <;> simp_all
  rw[this,hg.cell];simpa using hu
 ·intro v' w' h2 h3 h4;refine h v' w' ?_ h3 h4;unfold df;rw[List.length_append,List.flatMap_append];simpa using h2
section
variable {P:Program} {β:Type} (f:β→List Value) (val:β→Value) (e:TypeId) (size base:Nat) (l:List β) (lv:Value) (Post:β→World→World→Prop) (w0:World)
def Fm:List Value→World→Prop
 | [],w=>ah w0 w
 | [a],w=>∃y w1 fl,a=val y∧ah w0 w1∧Post y w1 fl∧ah fl w
 | [a,s],w=>∃y w1 fl g0,a=val y∧s=.slice (some ⟨g0,0,none⟩) 1 1∧ah w0 w1∧Post y w1 fl∧ah fl w∧au w g0 e (f y).toArray
 | [a,s,v],w=>∃y w1 fl w2,a=val y∧ah w0 w1∧Post y w1 fl∧ah fl w2∧df f e size w2 base lv l∧w2.grownBy w lv.ownBlock∧df f e size w base v (l++ [y])∧(v.ownBlock=lv.ownBlock∨v.ownBlock=some w2.heap.size)
 | _,_=>False
theorem Ia (vs:List Value)(w:World)(h:Fm f val e size base l lv Post w0 vs w):Fm f val e size base l lv Post w0 vs w.drew:=by
 match vs,h with
 | [],h=>exact ah.trans h (ah.drew _)
 | [a],⟨y,w1,fl,h1,h2,h3,h4⟩=>exact⟨y,w1,fl,h1,h2,h3,h4.trans (ah.drew _)⟩
 | [a,s],⟨y,w1,fl,g0,h1,h2,h3,h4,h5,h6⟩=>exact⟨y,w1,fl,g0,h1,h2,h3,h4,h5.trans (ah.drew _),h6.drew⟩
 | [a,s,v],⟨y,w1,fl,w2,h1,h2,h3,h4,h5,h6,h7,h8⟩=>exact⟨y,w1,fl,w2,h1,h2,h3,h4,h5,⟨h6.os,h6.tape,h6.output,h6.size,h6.block⟩,h7.later (ah.drew _),h8⟩
 | _::_::_::_::_,h=>exact h.elim
variable {f val e size base l lv Post w0}
variable {Q:Exit→Act→World→Prop} {a0:Act} {id:Nat} {o0 o1 o2 o3 o4 o5 o6 o7:Oper} {q d0 d1 d2 d3 d4 d5 d6:Tmp} {qb k g:Nat} {pq ptr:Value} {F:FuncId} {args:Array Value}
theorem fJ (t ty:TypeId)(z:Value)(bytes:Nat)
  (hm:P.follows .mixedOrders=true) (aO:eQ [o0,o1,o2,o3,o4,o5,o6] a0.tmps.size [o0,o1,o2,o3,o4,o5,o6] 0=true) (hz:fL [o0,o1,o2,o3,o4,o5,o6,o7] [o7] 7=true) (hch:mB [o0,o1,o2,o3,o4,o5,o6] [3,4,5]=true) (rW:EY o0 o1 o2 o3 o4 o5 o6 q d0 d1 d2 d3 d4 d5 d6=true)
  (hq:a0.eval (.tmp q)=pq) (h0:a0.eval (.tmp 0)=ptr)
  (G7:∀ρ w,ρ (.tmp q)=pq→(execOp ρ o0).run P w=.ok (.value (.pointer (some ⟨qb,k,none⟩))) w) (G8:∀ρ w,ρ (.tmp q)=pq→(execOp ρ o6).run P w=.ok (.value (.pointer (some ⟨qb,k,none⟩))) w)
  (RY:∀ρ w,ρ (.tmp d0)=.pointer (some ⟨qb,k,none⟩)→w.cell? ⟨qb,k,none⟩=some lv→(execOp ρ o1).run P w=.ok (.value lv) w)
  (hmv:∀ρ w,ρ (.tmp 0)=ptr→(execOp ρ o2).run P w=.ok (.value ptr) w)
  (jW:∀ρ w,dn ρ→ρ (.tmp d2)=ptr→(execOp ρ o3).run P w=.ok (.enter F args) w)
  (Ha:∀ρ w y,ρ (.tmp d3)=val y→(execOp ρ o4).run P w=.ok (.value (.slice (some ⟨w.heap.size,0,none⟩) 1 1)) (w.alloc (.cells (f y).toArray e)))
  (hap:∀ρ w s v' w',ρ (.tmp d1)=lv→ρ (.tmp d4)=s→(Builtin.append_ #[t,t] ty #[lv,s]).run P w=.ok v' w'→(execOp ρ o5).run P w=.ok (.value v') w')
  (ht:P.underlying t=some (.slice e)) (nS:(P.info? e).map (fun i=>(i.zero,i.size,i.bytes))=some (some z,size,bytes)) (hzs:z.cells.size=size) (hsz:0 < size) (hf:∀x,(f x).length=size) (h1:∀y,∀u∈f y,u.oneCell'=true)
  (hown:df f e size w0 base lv l) (hcell:w0.cell? ⟨qb,k,none⟩=some lv) (hqg:qb≠g) (uT:lv.ownBlock≠some g) (hlq:lv.ownBlock≠some qb) (hlen:(l.length+1)*bytes≤140737488355328) (oU:l.length+1≤140737488355328) (hbase:base≤w0.heap.size)
  (kG:∀w,ah w0 w→Calls P F args w fun e w'=>∃y,e=.returned (val y)∧Post y w w') (F9:∀y w w',Post y w w'→w.grownBy w' (some g))
  (uU:∀y s v' w1 fl w2 W,ah w0 w1→Post y w1 fl→ah fl w2→df f e size w2 base lv l→w2.grownBy W lv.ownBlock→df f e size W base v' (l++ [y])→(v'.ownBlock=lv.ownBlock∨v'.ownBlock=some w2.heap.size)→W.cell? ⟨qb,k,none⟩=some lv→
    wpList P [o0,o1,o2,o3,o4,o5,o6,o7].toArray Q [o7] (((((((a0.put (some d0) (.pointer (some ⟨qb,k,none⟩))).put (some d1) lv).put (some d2) ptr).put (some d3) (val y)).put (some d4) s).put (some d5) v').put (some d6) (.pointer (some ⟨qb,k,none⟩))) W):
  (Code.region id [o0,o1,o2,o3,o4,o5,o6,o7].toArray true).wp P Q a0 w0:=by
 simp only[EY,Bool.and_eq_true,beq_iff_eq,Option.isNone_iff_eq_none] at rW;obtain⟨⟨⟨⟨⟨⟨⟨⟨⟨⟨⟨⟨⟨⟨⟨⟨⟨⟨⟨⟨⟨⟨⟨⟨⟨⟨⟨⟨t0,s0⟩,t1⟩,s1⟩,t2⟩,s2⟩,t3⟩,s3⟩,t4⟩,s4⟩,t5⟩,s5⟩,s5'⟩,t6⟩,s6⟩,e0⟩,e1⟩,e2⟩,e3⟩,e4⟩,e5⟩,e6⟩,g0⟩,g1⟩,g2⟩,g3⟩,g4⟩,g5⟩,g6⟩:=rW;have zj:qb < w0.heap.size:=(by rcases Nat.lt_or_ge qb w0.heap.size with h | h;exact h;exact absurd hcell (by unfold World.cell?;rw[Array.getElem?_eq_none h];simp))
 -- the cell stays
 have vW:∀ {y w1 fl w},ah w0 w1→Post y w1 fl→ah fl w→w.cell? ⟨qb,k,none⟩=some lv∧df f e size w base lv l∧w0.heap.size≤w.heap.size:=by
  intro y w1 fl w ha hb hc;have hg:=F9 _ _ _ hb;have z1:qb < w1.heap.size:=Nat.lt_of_lt_of_le zj ha.size;have z2:qb < fl.heap.size:=Nat.lt_of_lt_of_le z1 hg.size;refine⟨?_,?_,Nat.le_trans ha.size (Nat.le_trans hg.size hc.size)⟩
  ·rw[hc.cell (p:=⟨qb,k,none⟩) z2,qH hg (p:=⟨qb,k,none⟩) z1 (fun e=>hqg (by injection e)),ha.cell (p:=⟨qb,k,none⟩) zj];exact hcell
  ·exact((hown.later ha).grown hg uT).later hc
 have Ar:∀vs w,Fm f val e size base l lv Post w0 vs w→w.cell? ⟨qb,k,none⟩=some lv:=by
  intro vs w h
  match vs,h with
  | [],h=>rw[ah.cell h (p:=⟨qb,k,none⟩) zj];exact hcell
  | [a],⟨y,w1,fl,_,h2,h3,h4⟩=>exact(vW h2 h3 h4).1
  | [a,s],⟨y,w1,fl,_,_,_,h2,h3,h4,_⟩=>exact(vW h2 h3 h4).1
  | [a,s,v],⟨y,w1,fl,w2,_,h2,h3,h4,_,h6,_,_⟩=>obtain⟨k1,_,k3⟩:=vW h2 h3 h4;rw[qH h6 (p:=⟨qb,k,none⟩) (Nat.lt_of_lt_of_le zj k3) (fun e=>hlq e.symm)];exact k1
  | _::_::_::_::_,h=>exact h.elim
 refine jw [o7] [o0,o1,o2,o3,o4,o5,o6] rfl (fun i=>if i=0 then .pointer (some ⟨qb,k,none⟩)else if i=1 then lv else if i=2 then ptr else .pointer (some ⟨qb,k,none⟩)) [3,4,5] (Fm f val e size base l lv Post w0) (Ia f val e size base l lv Post w0) (ah.refl w0) hm aO hz hch (by decide) rfl ?_ ?_
 ·refine⟨?_,?_,?_,?_,?_,?_,?_,trivial⟩
  ·intro ρ w vs hc hG hr;rw[t0] at hr;have r0:=hr.1;simp only[s0] at r0;exact⟨g0,G7 ρ w (r0.trans hq)⟩
  ·intro ρ w vs hc hG hr;rw[t1] at hr;have r0:=hr.1;simp only[s1] at r0;exact⟨g1,RY ρ w r0 (Ar _ _ hG)⟩
  ·intro ρ w vs hc hG hr;rw[t2] at hr;have r0:=hr.1;simp only[s2] at r0;exact⟨g2,hmv ρ w (r0.trans h0)⟩
  ·intro ρ w vs hc hG hr;rw[t3] at hr;have r0:=hr.1;simp only[s3] at r0;refine⟨g3,?_⟩;show vs.length=0→_;intro hl;obtain rfl:=List.eq_nil_of_length_eq_zero hl;refine Gl (jW ρ w hc r0) ((kG w hG).mono ?_);rintro e' w' ⟨y,rfl,hp⟩;exact⟨_,rfl,y,w,w',rfl,hG,hp,ah.refl _⟩
  ·intro ρ w vs hc hG hr;rw[t4] at hr;have r0:=hr.1;simp only[s4] at r0;refine⟨g4,?_⟩;show vs.length=1→_;intro hl
   match vs,hl with
   | [a],_=>have r0:some a=some (ρ (.tmp d3)):=r0;injection r0 with r0;obtain⟨y,w1,fl,ha,h2,h3,h4⟩:=hG;refine cz (Ha ρ w y (r0.symm.trans ha)) ?_;exact⟨y,w1,fl,w.heap.size,ha,rfl,h2,h3,h4.trans ((Below.refl _ _).alloc (Nat.le_refl _) _),au.new w e _⟩
  ·intro ρ w vs hc hG hr;rw[t5] at hr;have r0:=hr.1;have r1:=hr.2.1;simp only[s5] at r0;simp only[s5'] at r1;refine⟨g5,?_⟩;show vs.length=2→_;intro hl
   match vs,hl with
   | [a,s],_=>have r1:some s=some (ρ (.tmp d4)):=r1;injection r1 with r1;obtain⟨y,w1,fl,gg,ha,hs,h2,h3,h4',h5⟩:=hG;obtain⟨k1,k2,k3⟩:=vW h2 h3 h4';obtain⟨v',w',hrun,ho,YU,h4⟩:=qZ (P:=P) (w:=w) t ty z bytes ht nS hzs hsz hf (h1 y) k2 gg h5 hlen oU (Nat.le_trans hbase k3);exact cz (hap ρ w _ v' w' r0 (r1.symm.trans hs) hrun) ⟨y,w1,fl,w,ha,h2,h3,h4',k2,YU.grown,ho,h4⟩
  ·intro ρ w vs hc hG hr;rw[t6] at hr;have r0:=hr.1;simp only[s6] at r0;exact⟨g6,G8 ρ w (r0.trans hq)⟩
 ·intro vs w hl hG;have G9:=Ar _ _ hG
  match vs,hl with
  | [a,s,v],_=>obtain⟨y,w1,fl,w2,ha,h2,h3,h4,h5,h6,h7,h8⟩:=hG;simp only[kA,e0,e1,e2,e3,e4,e5,e6];intro a0' p0 a1 p1 a2 p2 a3 p3 a4 p4 a5 p5 a6 p6;have z0:a0'=.pointer (some ⟨qb,k,none⟩):=p0;have z1:a1=lv:=p1;have z2:a2=ptr:=p2;have z3:some a=some a3:=p3;have z4:some s=some a4:=p4;have z5:some v=some a5:=p5;have z6:a6=.pointer (some ⟨qb,k,none⟩):=p6;injection z3 with z3;injection z4 with z4;injection z5 with z5;rw[z0,z1,z2,← z3,← z4,← z5,z6,ha];exact uU y s v w1 fl w2 w h2 h3 h4 h5 h6 h7 h8 G9
end
def Gc (y:Ex×Bool):List Value:=bl y.1++ [.bool y.2]
def X0 (y:Ex×Bool):Value:=.agg (Gc y).toArray
def orZ:Obj:=.cells #[.int .u8 0,.int .u8 0,.int .i64 0,.string ⟨#[]⟩,.string ⟨#[]⟩,.int .i64 0,.slice none 0 0,.bool false] 97
theorem AY (ρ:br)(w:World)(σ:aW)(big:Bool)(h:ρ.at w σ big):
  Calls Tryz.prog 87 #[ρ.ptr] w (xz iM X0 (fun _=>false) ρ w big fN σ):=by
 have aF:=h.jt;have hb:=aa w orZ;have h0:=h.later hb;have HQ:=hid (au.new w 97 #[.int .u8 0,.int .u8 0,.int .i64 0,.string ⟨#[]⟩,.string ⟨#[]⟩,.int .i64 0,.slice none 0 0,.bool false]);have hsz:(w.alloc orZ).heap.size=w.heap.size+1:=by simp
 unfold orZ at*;go_enter Tryz.func87,Tryz.ntmps87;go_wp2_with fail;refine(vg ρ _ σ big h0).mono ?_;rintro e w2 ⟨t,y,rfl,ht,d2,iF⟩;unfold ee bl;have hs2:=d2.size;go_wp2_with fail;have D3:=((dV.aL h hb).trans d2).later (aa w2 (.cells (Gc (y,false)).toArray 97));have HX:=au.new w2 97 (Gc (y,false)).toArray;have fy:=(d2.blk HQ.out (by omega)).alloc (.cells (Gc (y,false)).toArray 97);have K7:=Tr.at_.keep (qC (.cells (Gc (y,false)).toArray 97) (show w.heap.size+1≤_ by omega)) _ _ ht;have hs3:(w2.alloc (.cells (Gc (y,false)).toArray 97)).heap.size=w2.heap.size+1:=by simp
 unfold Gc bl at D3 HX fy K7 hs3;simp only[List.cons_append,List.nil_append] at D3 HX fy K7 hs3;generalize w2.alloc _=W3 at*;have Zj:=hid (OH iF);have hm:=dL ρ W3 _ big D3.at_ ⟨#[100,101,115,99]⟩;clear iF h0 hb HQ ht d2;refine hm.mono ?_;rintro e w4 ⟨rfl,d4⟩;have hdd:(ae cW σ).head (⟨#[100,101,115,99]⟩:ByteArray).data.toList=(ae cW σ).head mi:=rfl;rw[hdd];generalize (ae cW σ).head mi=dd at*;clear hdd;have xg:=d4.blk HX (by omega);have hx2:=HX.lt;have VL:=xg.cg 7 (.bool dd);simp only[List.setIfInBounds_toArray,List.set_cons_zero,List.set_cons_succ] at VL;have zx:=xg.frozen 7;have hxc:=xg.cell 7;have qL:=(d4.blk fy (by omega)).far (p:=⟨w2.heap.size,7,none⟩) (by simp;omega) (.bool dd);have D6:=(D3.trans d4).far aF (show w.heap.size≤w2.heap.size by omega) 7 (.bool dd);have V9:=hid (Tr.at_.keep (ir (Nat.le_refl _)) _ _ (Tr.at_.keep (zV 7 (.bool dd)) _ _ (Tr.at_.keep (eL d4.grown (by omega)) _ _ K7)));have yR:=hid D6;have rj:=hid qL;obtain⟨x0,x1,x2,x3,x4,x5,x6,x7⟩:=dc VL;obtain⟨y0,y1,y2,y3,y4,y5,y6,y7⟩:=dc qL;obtain⟨z0,z1,z2,z3,z4,z5,z6,z7⟩:=iD qL;clear xg VL qL HX fy D3 d4 hm D6 hx2;go_wp2_with fail;have HP:=AW rj.out y (.bool dd);have HR:=dc HP;unfold vh dR at HR;obtain⟨r0,r1,r2,r3,r4,r5,r6,r7⟩:=HR;refine bodyPost_ret (v:=X0 (y,dd)) ?_ rfl ?_
 ·simp[results,Tryz.results87,go_sem,r0,r1,r2,r3,r4,r5,r6,r7];rfl
 ·refine⟨(t,dd),(y,dd),rfl,⟨(V9.out.vh (Nat.lt_succ_self _) y (.bool dd)).more (by omega),rfl⟩,?_,Zj.out.2⟩;rw[Zj.out.1,Bool.or_false];exact yR.out.vh aF (Nat.le_refl _) y (.bool dd)
def ko (B:Nat)(v:Value)(w:World):Nat→Prop:=fun b=>B≤b∧b < w.heap.size∧some b≠v.ownBlock
theorem gX {B g:Nat} {v:Value} {w w':World}(h:w.grownBy w' (some g))(hg:g < B):∀b,ko B v w b→(∀o,w'.cell? ⟨b,o,none⟩=w.cell? ⟨b,o,none⟩)∧ko B v w' b:=fun b hb=>
 ⟨cell_of_heap (h.block b hb.2.1 (fun e=>by injection e with e;have:=hb.1;omega)),hb.1,Nat.lt_of_lt_of_le hb.2.1 h.size,hb.2.2⟩
theorem dP {B:Nat} {v:Value} {w w':World}(h:Below w.heap.size w w'):∀b,ko B v w b→(∀o,w'.cell? ⟨b,o,none⟩=w.cell? ⟨b,o,none⟩)∧ko B v w' b:=fun b hb=>
 ⟨cell_of_heap (h.block b hb.2.1),hb.1,Nat.lt_of_lt_of_le hb.2.1 h.size,hb.2.2⟩
theorem kH {B:Nat} {v v':Value} {w w':World}(h:w.grownBy w' v.ownBlock)(hv:v'.ownBlock=v.ownBlock∨v'.ownBlock=some w.heap.size):∀b,ko B v w b→(∀o,w'.cell? ⟨b,o,none⟩=w.cell? ⟨b,o,none⟩)∧ko B v' w' b:=fun b hb=>
 ⟨cell_of_heap (h.block b hb.2.1 hb.2.2),hb.1,Nat.lt_of_lt_of_le hb.2.1 h.size,fun e=>by
   rcases hv with hv | hv
   ·exact hb.2.2 (e.trans hv)
   ·rw[hv] at e;injection e with e;have:=hb.2.1;omega⟩
theorem wb {B B':Nat} {v:Value} {w:World}(hB:B'≤B)(hv:∀g,v.ownBlock=some g→g < B):∀b,eD B w b→(∀o,w.cell? ⟨b,o,none⟩=w.cell? ⟨b,o,none⟩)∧ko B' v w b:=fun b hb=>
 ⟨fun _=>rfl,Nat.le_trans hB hb.1,hb.2,fun e=>by have:=hv b e.symm;have:=hb.1;omega⟩
theorem sq {B B':Nat} {v:Value} {w:World}(hB:B'≤B):∀b,ko B v w b→(∀o,w.cell? ⟨b,o,none⟩=w.cell? ⟨b,o,none⟩)∧eD B' w b:=fun b hb=>⟨fun _=>rfl,Nat.le_trans hB hb.1,hb.2.1⟩
structure gY {α:Type} (E:El α) (T:TypeId) (w:World) (B:Nat) (v:Value) (l:List α):Prop where
 has:∃ys:List E.β,df E.f T E.size w B v ys∧jP (E.rel w (ko B v w)) l ys
section
variable {α:Type} {E:El α} {T:TypeId} {w w':World} {B g:Nat} {v:Value} {l:List α}
theorem gY.later (h:gY E T w B v l)(hb:Below w.heap.size w w'):gY E T w' B v l:=by obtain⟨ys,h1,h2⟩:=h.has;exact⟨ys,h1.later hb,h2.imp fun x y=>E.keep (dP hb)⟩
theorem gY.qM (h:gY E T w B v l) {G:Nat}(hG:v.ownBlock=some G):B≤G∧G < w.heap.size:=by obtain⟨ys,h1,h2⟩:=h.has;exact⟨(h1.lt hG).2.1,(h1.lt hG).1⟩
theorem gY.grown (h:gY E T w B v l)(hb:w.grownBy w' (some g))(hg:g < B):gY E T w' B v l:=by obtain⟨ys,h1,h2⟩:=h.has;exact⟨ys,h1.grown hb (fun e=>by have:=(h1.lt e).2.1;omega),h2.imp fun x y=>E.keep (gX hb hg)⟩
theorem gY.sl (h:gY E T w B v l) {B':Nat}(hB:B'≤B):∃y:Sl,v=eP y∧y.n=l.length∧E.sl w (eD B' w) y l:=by obtain⟨ys,h1,h2⟩:=h.has;obtain⟨A,c,hv,hr⟩:=sj E.hf h1 (S:=eD B' w) (fun g h3 h4=>⟨by omega,h4⟩);refine⟨⟨A,l.length,c⟩,?_,rfl,rfl,ys,hr,h2.imp fun x y=>E.keep (sq hB)⟩;rw[hv,h2.len];rfl
theorem gY.nil (E:El α)(T:TypeId)(w:World)(B:Nat):gY E T w B (.slice none 0 0) []:=⟨[],df.nil,.nil⟩
end
end Go.Proofs.YtcneefmaghoejaaGreatDoor
