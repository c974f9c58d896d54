/- Parts of the proof. -/
import Derived.Test.YtcneefmaghoejaaGreatDoorC13
namespace Go.Proofs.YtcneefmaghoejaaGreatDoor
open Go.Lib (hid)
open Go.ChangeShapes Go.WideShapes Go.ChangeAt Go.RowKit
set_option linter.unusedVariables false
set_option linter.unusedSimpArgs false
def gu (ρ:br)(W:World)(big:Bool)(p:Ps Tr)(σ:aW)(e:Ending)(w':World):Prop:=∃t y,e=.returned (ee y)∧Tr.at_ w' (eD W.heap.size w') t y∧dV ρ W w' (ae p σ) big∧aK p σ t
def uh (ρ:br)(m:Nat):Prop:=∀(lv:Nat) (z:Int) (σ:aW) (W:World) (big:Bool),z=lv→lv≤7→8*σ.left+(7 - lv)< m→ρ.at W σ big→Calls Tryz.prog 91 #[ρ.ptr,.int .i64 z] W (gu ρ W big (az lv) σ)
def lW:Obj:=.cells #[.int .u8 0,.int .u8 0,.int .i64 0,.string ⟨#[]⟩,.string ⟨#[]⟩,.int .i64 0,.slice none 0 0] 49
theorem ck {w:World} {q:Nat} {y:Ex}(h:au w q 49 (bl y).toArray):
  w.cell? ⟨q,0,none⟩=some (.int .u8 y.op)∧w.cell? ⟨q,1,none⟩=some (.int .u8 y.v.k)∧w.cell? ⟨q,2,none⟩=some (.int .i64 y.v.n)∧w.cell? ⟨q,3,none⟩=some (.string y.v.s)∧w.cell? ⟨q,4,none⟩=some (.string y.name)∧w.cell? ⟨q,5,none⟩=some (.int .i64 y.width)∧w.cell? ⟨q,6,none⟩=some (.slice y.A y.n y.c):=
 ⟨h.cell 0,h.cell 1,h.cell 2,h.cell 3,h.cell 4,h.cell 5,h.cell 6⟩
theorem bu {w:World} {q:Nat} {T:TypeId} {a b c d e f g:Value}(h:au w q T #[a,b,c,d,e,f,g]):
  w.cell? ⟨q,0,none⟩=some a∧w.cell? ⟨q,1,none⟩=some b∧w.cell? ⟨q,2,none⟩=some c∧w.cell? ⟨q,3,none⟩=some d∧w.cell? ⟨q,4,none⟩=some e∧w.cell? ⟨q,5,none⟩=some f∧w.cell? ⟨q,6,none⟩=some g:=
 ⟨h.cell 0,h.cell 1,h.cell 2,h.cell 3,h.cell 4,h.cell 5,h.cell 6⟩
theorem cQ {w:World} {q:Nat} {cs:Array Value}(h:au w q 49 cs):
  w.frozen? ⟨q,0,none⟩=false∧w.frozen? ⟨q,1,none⟩=false∧w.frozen? ⟨q,2,none⟩=false∧w.frozen? ⟨q,3,none⟩=false∧w.frozen? ⟨q,4,none⟩=false∧w.frozen? ⟨q,5,none⟩=false∧w.frozen? ⟨q,6,none⟩=false:=
 ⟨h.frozen 0,h.frozen 1,h.frozen 2,h.frozen 3,h.frozen 4,h.frozen 5,h.frozen 6⟩
def dR (w:World)(q:Nat)(y:Ex):World:=((((((w.setCell ⟨q,0,none⟩ (.int .u8 y.op)).setCell ⟨q,1,none⟩ (.int .u8 y.v.k)).setCell ⟨q,2,none⟩ (.int .i64 y.v.n)).setCell ⟨q,3,none⟩ (.string y.v.s)).setCell ⟨q,4,none⟩ (.string y.name)).setCell ⟨q,5,none⟩ (.int .i64 y.width)).setCell ⟨q,6,none⟩ (.slice y.A y.n y.c)
theorem cV {w:World} {q:Nat} {T:TypeId} {a b c d e f g:Value}(h:au w q T #[a,b,c,d,e,f,g])(y:Ex):au (dR w q y) q T (bl y).toArray:=by have:=((((((h.cg 0 (.int .u8 y.op)).cg 1 (.int .u8 y.v.k)).cg 2 (.int .i64 y.v.n)).cg 3 (.string y.v.s)).cg 4 (.string y.name)).cg 5 (.int .i64 y.width)).cg 6 (.slice y.A y.n y.c);simp only[List.setIfInBounds_toArray,List.set_cons_zero,List.set_cons_succ] at this;exact this
theorem Dl {w:World} {q p:Nat} {T:TypeId} {cs:Array Value}(h:au w p T cs)(hp:p≠q)(y:Ex):au (dR w q y) p T cs:=
 ((((((h.far (p:=⟨q,0,none⟩) hp _).far (p:=⟨q,1,none⟩) hp _).far (p:=⟨q,2,none⟩) hp _).far (p:=⟨q,3,none⟩) hp _).far (p:=⟨q,4,none⟩) hp _).far (p:=⟨q,5,none⟩) hp _).far (p:=⟨q,6,none⟩) hp _
theorem dV.dR {ρ:br} {W w:World} {σ:aW} {big:Bool} {q:Nat}(h:dV ρ W w σ big)(hW:ρ.g < W.heap.size)(hq:W.heap.size≤q)(y:Ex):dV ρ W (dR w q y) σ big:=
 ((((((h.far hW hq 0 _).far hW hq 1 _).far hW hq 2 _).far hW hq 3 _).far hW hq 4 _).far hW hq 5 _).far hW hq 6 _
theorem Ss {w:World} {q:Nat} {S:World→Nat→Prop}(hs:∀(w:World) (i:Nat) (u:Value),∀b,S w b→(∀o,(w.setCell ⟨q,i,none⟩ u).cell? ⟨b,o,none⟩=w.cell? ⟨b,o,none⟩)∧S (w.setCell ⟨q,i,none⟩ u) b)(y:Ex):∀b,S w b→(∀o,(Go.Proofs.YtcneefmaghoejaaGreatDoor.dR w q y).cell? ⟨b,o,none⟩=w.cell? ⟨b,o,none⟩)∧S (Go.Proofs.YtcneefmaghoejaaGreatDoor.dR w q y) b:=by intro b hb;obtain⟨c0,s0⟩:=hs w 0 (.int .u8 y.op) b hb;obtain⟨c1,s1⟩:=hs _ 1 (.int .u8 y.v.k) b s0;obtain⟨c2,s2⟩:=hs _ 2 (.int .i64 y.v.n) b s1;obtain⟨c3,s3⟩:=hs _ 3 (.string y.v.s) b s2;obtain⟨c4,s4⟩:=hs _ 4 (.string y.name) b s3;obtain⟨c5,s5⟩:=hs _ 5 (.int .i64 y.width) b s4;obtain⟨c6,s6⟩:=hs _ 6 (.slice y.A y.n y.c) b s5;exact⟨fun o=>(c6 o).trans ((c5 o).trans ((c4 o).trans ((c3 o).trans ((c2 o).trans ((c1 o).trans (c0 o)))))),s6⟩
theorem Tr.at_.dR {B q:Nat} {w:World} {t:Tr} {y:Ex}(h:t.at_ w (eD B w) y)(hq:q < B)(z:Ex):t.at_ (dR w q z) (eD B (Go.Proofs.YtcneefmaghoejaaGreatDoor.dR w q z)) y:=Tr.at_.keep (Ss (S:=fun w=>eD B w) (fun w i u=>iO hq i u) z) t y h
theorem cN {ρ:br} {w W:World} {big:Bool} {p:Ps Tr} {σ:aW} {q:Nat} {t:Tr} {y:Ex}(hg:ρ.g < w.heap.size)(hq:w.heap.size≤q)(hd:dV ρ w W (ae p σ) big)(ht:t.at_ W (eD (q+1) W) y)(hv:aK p σ t):gu ρ w big p σ (.returned (ee y)) (dR W q y):=
 ⟨t,y,rfl,(ht.dR (Nat.lt_succ_self q) y).more (by omega),hd.dR hg hq y,hv⟩
set_option maxHeartbeats 4000000
set_option maxRecDepth 100000
theorem J5 (ρ:br)(w:World)(σ:aW)(big:Bool)(h:ρ.at w σ big)(IH:uh ρ (8*σ.left+5)):
  Calls Tryz.prog 91 #[ρ.ptr,.int .i64 2] w (gu ρ w big (az 2) σ):=by
 have aF:=h.jt;have hb:=aa w lW;have h0:=h.later hb;have hm:=dL ρ _ σ big h0 ⟨#[110,111,116]⟩;have HQ:=hid (au.new w 49 #[.int .u8 0,.int .u8 0,.int .i64 0,.string ⟨#[]⟩,.string ⟨#[]⟩,.int .i64 0,.slice none 0 0]);have hsz:(w.alloc lW).heap.size=w.heap.size+1:=by simp
 unfold lW at*;rw[Me];cases hh:σ.head kD
 ·rw[show σ.head (⟨#[110,111,116]⟩:ByteArray).data.toList=false from hh,aG (s:=(⟨#[110,111,116]⟩:ByteArray).data.toList) hh] at hm;have lB:=hid hh;clear hh;go_enter Tryz.func91,Tryz.ntmps91;go_wp2_with (first
   |(go_at_call 23;refine hm.mono ?_;rintro e w1 ⟨rfl,d1⟩)
   |(go_at_call 91;refine(IH 3 _ σ w1 big rfl (by omega) (by omega) d1.at_).mono ?_;rintro e w2 ⟨t,y,rfl,ht,d2,iF⟩;unfold ee bl;have D:=(dV.aL h hb).trans (d1.trans d2);have jN:=d2.blk (d1.blk HQ.out (by omega)) (by omega);have hqs:=d2.size;have J6:=d1.size;have fy:=jN.alloc (.cells #[.int .u8 y.op,.int .u8 y.v.k,.int .i64 y.v.n,.string y.v.s,.string y.name,.int .i64 y.width,.slice y.A y.n y.c] 49);obtain⟨z0,z1,z2,z3,z4,z5,z6⟩:=cQ fy;obtain⟨y0,y1,y2,y3,y4,y5,y6⟩:=bu fy;obtain⟨x0,x1,x2,x3,x4,x5,x6⟩:=ck (au.new w2 49 (bl y).toArray);unfold bl at x0 x1 x2 x3 x4 x5 x6))
  have HP:=cV fy y;have HR:=ck HP;unfold dR at HR;obtain⟨r0,r1,r2,r3,r4,r5,r6⟩:=HR;refine bodyPost_ret (v:=ee y) ?_ rfl ?_
  ·simp[results,Tryz.results91,go_sem,r0,r1,r2,r3,r4,r5,r6];rfl
  ·refine cN aF (Nat.le_refl _) ?_ ((ht.later (aa w2 _)).more (by omega)) (rU lB.out iF);rw[ux lB.out];exact D.later (aa w2 _)
 ·rw[show σ.head (⟨#[110,111,116]⟩:ByteArray).data.toList=true from hh,aP (s:=(⟨#[110,111,116]⟩:ByteArray).data.toList) hh] at hm;have lB:=hid hh;obtain⟨l1,l2,l3⟩:=ll hh;clear hh;go_enter Tryz.func91,Tryz.ntmps91;go_wp2_with (first
   |(go_at_call 23;refine hm.mono ?_;rintro e w1 ⟨rfl,d1⟩)
   |(go_at_call 91;refine(IH 2 _ _ w1 big rfl (by omega) (by omega) d1.at_).mono ?_;rintro e w2 ⟨t,y,rfl,ht,d2,iF⟩;unfold ee bl;have D:=(dV.aL h hb).trans (d1.trans d2);have jN:=d2.blk (d1.blk HQ.out (by omega)) (by omega);have hqs:=d2.size;have J6:=d1.size;have fy:=jN.alloc (.cells #[.int .u8 y.op,.int .u8 y.v.k,.int .i64 y.v.n,.string y.v.s,.string y.name,.int .i64 y.width,.slice y.A y.n y.c] 49);obtain⟨z0,z1,z2,z3,z4,z5,z6⟩:=cQ fy;obtain⟨y0,y1,y2,y3,y4,y5,y6⟩:=bu fy))
  have HP:=cV fy (nU 4 w2.heap.size 1);have HR:=ck HP;unfold dR nU jm at HR;obtain⟨r0,r1,r2,r3,r4,r5,r6⟩:=HR;refine bodyPost_ret (v:=ee (nU 4 w2.heap.size 1)) ?_ rfl ?_
  ·simp[results,Tryz.results91,go_sem,r0,r1,r2,r3,r4,r5,r6];rfl
  ·refine cN aF (Nat.le_refl _) ?_ (rL 4 (au.new w2 49 (bl y).toArray) ⟨by omega,by simp⟩ ((ht.later (aa w2 _)).more (by omega))) (uy lB.out iF);rw[vU lB.out];exact D.later (aa w2 _)
theorem J7 (ρ:br)(w:World)(σ:aW)(big:Bool)(h:ρ.at w σ big)(IH:uh ρ (8*σ.left+1)):
  Calls Tryz.prog 91 #[ρ.ptr,.int .i64 6] w (gu ρ w big (az 6) σ):=by
 have aF:=h.jt;have hb:=aa w lW;have h0:=h.later hb;have hm:=dL ρ _ σ big h0 ⟨#[45]⟩;have HQ:=hid (au.new w 49 #[.int .u8 0,.int .u8 0,.int .i64 0,.string ⟨#[]⟩,.string ⟨#[]⟩,.int .i64 0,.slice none 0 0]);have hsz:(w.alloc lW).heap.size=w.heap.size+1:=by simp
 unfold lW at*;rw[Mi];cases hh:σ.head fu
 ·rw[show σ.head (⟨#[45]⟩:ByteArray).data.toList=false from hh,aG (s:=(⟨#[45]⟩:ByteArray).data.toList) hh] at hm;have lB:=hid hh;clear hh;go_enter Tryz.func91,Tryz.ntmps91;go_wp2_with (first
   |(go_at_call 23;refine hm.mono ?_;rintro e w1 ⟨rfl,d1⟩)
   |(go_at_call 91;refine(IH 7 _ σ w1 big rfl (by omega) (by omega) d1.at_).mono ?_;rintro e w2 ⟨t,y,rfl,ht,d2,iF⟩;unfold ee bl;have D:=(dV.aL h hb).trans (d1.trans d2);have jN:=d2.blk (d1.blk HQ.out (by omega)) (by omega);have hqs:=d2.size;have J6:=d1.size;have fy:=jN.alloc (.cells #[.int .u8 y.op,.int .u8 y.v.k,.int .i64 y.v.n,.string y.v.s,.string y.name,.int .i64 y.width,.slice y.A y.n y.c] 49);obtain⟨z0,z1,z2,z3,z4,z5,z6⟩:=cQ fy;obtain⟨y0,y1,y2,y3,y4,y5,y6⟩:=bu fy;obtain⟨x0,x1,x2,x3,x4,x5,x6⟩:=ck (au.new w2 49 (bl y).toArray);unfold bl at x0 x1 x2 x3 x4 x5 x6))
  have HP:=cV fy y;have HR:=ck HP;unfold dR at HR;obtain⟨r0,r1,r2,r3,r4,r5,r6⟩:=HR;refine bodyPost_ret (v:=ee y) ?_ rfl ?_
  ·simp[results,Tryz.results91,go_sem,r0,r1,r2,r3,r4,r5,r6];rfl
  ·refine cN aF (Nat.le_refl _) ?_ ((ht.later (aa w2 _)).more (by omega)) (rU lB.out iF);rw[ux lB.out];exact D.later (aa w2 _)
 ·rw[show σ.head (⟨#[45]⟩:ByteArray).data.toList=true from hh,aP (s:=(⟨#[45]⟩:ByteArray).data.toList) hh] at hm;have lB:=hid hh;obtain⟨l1,l2,l3⟩:=ll hh;clear hh;go_enter Tryz.func91,Tryz.ntmps91;go_wp2_with (first
   |(go_at_call 23;refine hm.mono ?_;rintro e w1 ⟨rfl,d1⟩)
   |(go_at_call 91;refine(IH 6 _ _ w1 big rfl (by omega) (by omega) d1.at_).mono ?_;rintro e w2 ⟨t,y,rfl,ht,d2,iF⟩;unfold ee bl;have D:=(dV.aL h hb).trans (d1.trans d2);have jN:=d2.blk (d1.blk HQ.out (by omega)) (by omega);have hqs:=d2.size;have J6:=d1.size;have fy:=jN.alloc (.cells #[.int .u8 y.op,.int .u8 y.v.k,.int .i64 y.v.n,.string y.v.s,.string y.name,.int .i64 y.width,.slice y.A y.n y.c] 49);obtain⟨z0,z1,z2,z3,z4,z5,z6⟩:=cQ fy;obtain⟨y0,y1,y2,y3,y4,y5,y6⟩:=bu fy))
  have HP:=cV fy (nU 3 w2.heap.size 1);have HR:=ck HP;unfold dR nU jm at HR;obtain⟨r0,r1,r2,r3,r4,r5,r6⟩:=HR;refine bodyPost_ret (v:=ee (nU 3 w2.heap.size 1)) ?_ rfl ?_
  ·simp[results,Tryz.results91,go_sem,r0,r1,r2,r3,r4,r5,r6];rfl
  ·refine cN aF (Nat.le_refl _) ?_ (rL 3 (au.new w2 49 (bl y).toArray) ⟨by omega,by simp⟩ ((ht.later (aa w2 _)).more (by omega))) (uy lB.out iF);rw[vU lB.out];exact D.later (aa w2 _)
theorem KF {lv:Nat} {t:Wd} {r:bH}:uZ lv t=((aW.good (t::r)).op lv).getD 0:=by unfold uZ aW.op aW.words;show _=(gT (opsL lv) (t::r)).getD 0;rw[OJ (opsL lv) t r]
theorem AH (lv:Nat)(z:Int)(hz:z=lv)(hlv:lv=0∨lv=1∨lv=3∨lv=4∨lv=5)(t:Tok)(w:World):
  Calls Tryz.prog 108 #[.int .i64 z,.agg #[.int .u8 t.w.k,.string ⟨t.w.s.toArray⟩,.int .i64 t.w.n,.int .i64 t.p]] w fun e w'=>e=.returned (.int .u8 (uZ lv t.w))∧Below w.heap.size w w':=by
 subst hz;exact KE lv hlv t w
structure xw (ρ:br) (w:World) (big:Bool) (lv:Nat) (σ:aW) (q qx:Nat) (wr:World) (bU:aW) (t:Tr) (y:Ex):Prop where
 did:dV ρ w wr bU big
 blk:au wr qx 49 (bl y).toArray
 res:au wr q 49 #[.int .u8 0,.int .u8 0,.int .i64 0,.string ⟨#[]⟩,.string ⟨#[]⟩,.int .i64 0,.slice none 0 0]
 tr:t.at_ wr (Bx (q+1) qx wr) y
 todo:ni lv σ t bU
 le:bU.left≤σ.left
def mX (y:Ex):Obj:=.cells (bl y).toArray 49
def oO (y z:Ex):Obj:=.cells (bl y++bl z).toArray 49
theorem xw.round {ρ:br} {w wr W2 Ws w3:World} {big:Bool} {lv:Nat} {σ bU:aW} {q qx:Nat} {t' t2:Tr} {y' v2:Ex} {l:bH} {bi:Int}(aF:ρ.g < w.heap.size)(zj:q=w.heap.size)(hqq:q+1≤qx)(A:xw ρ w big lv σ q qx wr bU t' y')(hW:Below wr.heap.size wr W2)(hst:dV ρ W2 Ws (.good l) big)(d2:dV ρ Ws w3 (ae (az (lv+1)) (.good l)) big)
  (zm:t2.at_ w3 (eD Ws.heap.size w3) v2) (hop:bU.op lv=some bi) (hl:bU.words.tail=l) (hlen:l.length < bU.left) (iF:aK (az (lv+1)) (.good l) t2):
  xw ρ w big lv σ q qx (dR ((w3.alloc (mX v2)).alloc (oO y' v2)) qx (nU bi (w3.heap.size+1) 2)) (ae (az (lv+1)) (.good l)) (lI bi [t',t2]) (nU bi (w3.heap.size+1) 2):=by
 have hz1:=d2.size;have hz2:=hst.size;have hz3:=hW.size;have H8:=A.blk.lt;have KG:Below w3.heap.size w3 ((w3.alloc (mX v2)).alloc (oO y' v2)):=ah.then (aa w3 _) (aa _ _)
 have hsz:((w3.alloc (mX v2)).alloc (oO y' v2)).heap.size=w3.heap.size+2:=by simp
 have hN:au ((w3.alloc (mX v2)).alloc (oO y' v2)) (w3.heap.size+1) 49 (bl y'++bl v2).toArray:=by have:=au.new (w3.alloc (mX v2)) 49 (bl y'++bl v2).toArray;rw[World.size_alloc] at this;exact this
 have hX:au ((w3.alloc (mX v2)).alloc (oO y' v2)) qx 49 (bl y').toArray:=(((A.blk.later hW).grown hst.grown (by simp;omega)).grown d2.grown (by simp;omega)).later KG;have hR:au ((w3.alloc (mX v2)).alloc (oO y' v2)) q 49 _:=(((A.res.later hW).grown hst.grown (by simp;omega)).grown d2.grown (by simp;omega)).later KG;have hD:dV ρ w ((w3.alloc (mX v2)).alloc (oO y' v2)) (ae (az (lv+1)) (.good l)) big:=(((A.did.later hW).trans hst).trans d2).later KG;have hT:(lI bi [t',t2]).at_ ((w3.alloc (mX v2)).alloc (oO y' v2)) (Bx (q+1) qx ((w3.alloc (mX v2)).alloc (oO y' v2))) (nU bi (w3.heap.size+1) 2):=by
  refine Ey bi hN ⟨by omega,by omega,by omega⟩ ?_ ?_
  ·exact Tr.at_.keep (eu KG) _ _ (Tr.at_.keep (eL d2.grown (by omega)) _ _ (Tr.at_.keep (eL hst.grown (by omega)) _ _ (Tr.at_.keep (eu hW) _ _ A.tr)))
  ·exact Tr.at_.keep (Gx (by omega) (by omega)) _ _ (zm.later KG)
 generalize (w3.alloc (mX v2)).alloc (oO y' v2)=W5 at*;refine⟨hD.dR aF (by omega) _,cV hX _,Dl hR (by omega) _,?_,?_,?_⟩
 ·exact Tr.at_.keep (Ss (S:=fun w=>Bx (q+1) qx w) (fun w i u=>zV i u) _) _ _ hT
 ·subst hl;exact ni.go A.todo hop iF
 ·have h5:=aW.cw (cI (lv+1)) (aW.good l);have e5:(aW.good l).left=l.length:=rfl;have:=A.le;omega
theorem zr (ρ:br)(w:World)(σ:aW)(big:Bool)(h:ρ.at w σ big)(lv:Nat)(z:Int)(hz:z=lv)(hlv:lv=0∨lv=1∨lv=4∨lv=5)(IH:uh ρ (8*σ.left+(7 - lv))):
  Calls Tryz.prog 91 #[ρ.ptr,.int .i64 z] w (gu ρ w big (az lv) σ):=by
 have aF:=h.jt;have hb:=aa w lW;have h0:=h.later hb;have HQ:=hid (au.new w 49 #[.int .u8 0,.int .u8 0,.int .i64 0,.string ⟨#[]⟩,.string ⟨#[]⟩,.int .i64 0,.slice none 0 0]);have hsz:(w.alloc lW).heap.size=w.heap.size+1:=by simp
 have hsm:=h.small;have V0:=hid hlv;have n2:(z==2)=false:=by rw[beq_eq_false_iff_ne];omega
 have n6:(z==6)=false:=by rw[beq_eq_false_iff_ne];omega
 have n7:(z==7)=false:=by rw[beq_eq_false_iff_ne];omega
 have n3:(z==3)=false:=by rw[beq_eq_false_iff_ne];omega
 have hz5:0≤z∧z≤5:=by omega
 have HZ:=hid hz;clear hlv hz;unfold lW at*;unfold br.ptr;go_enter Tryz.func91,Tryz.ntmps91;go_wp2_with (first
  |(go_at_call 91;refine(IH (lv+1) (z+1) σ _ big (by have:=HZ.out;omega) (by have:=V0.out;omega) (by have:=V0.out;omega) h0).mono ?_;rintro e w2 ⟨t,y,rfl,ht,d2,iF⟩;unfold ee bl))
 have hA:xw ρ w big lv σ w.heap.size w2.heap.size (w2.alloc (.cells #[.int .u8 y.op,.int .u8 y.v.k,.int .i64 y.v.n,.string y.v.s,.string y.name,.int .i64 y.width,.slice y.A y.n y.c] 49)) _ t y:=
  ⟨((dV.aL h hb).trans d2).later (aa _ _),au.new w2 _ _,(d2.blk HQ.out (by omega)).alloc _,Tr.at_.keep (qC _ (by rw[hsz];exact Nat.le_refl _)) _ _ ht,ni.start V0.out iF,aW.cw (cI _) σ⟩
 have Df:w.heap.size+1≤w2.heap.size:=by have:=d2.size;omega
 generalize w2.alloc _=W at*;generalize w2.heap.size=qx at*;have HA:=hid hA;clear hA ht d2 iF h0 hb HQ;go_loopg [] σ.left (fun k wr=>∃bU t' y',bU.left≤k∧xw ρ w big lv σ w.heap.size qx wr bU t' y');case atStart=>exact⟨_,_,_,aW.cw (cI _) σ,HA.out⟩
 case round=>
  obtain⟨bU,t',y',hk,hA'⟩:=hrel;have uX:=hid hA';obtain⟨tk,pl,bd,hpl,hlt,aaV,kU,bQ,hg,mM,mA,hp⟩:=hA'.did.at_.iB;have aaW:=hA'.did.at_.left;have HP:=hid hp;have Dk:=hid hpl;have HG:=hid hg;have pc:=hid bQ;have c2:=hp.c2;clear hA' hpl hg bQ kU HA hp;have aaX:=uX.out.blk.lt;by_cases qI:bd < 0
  ·obtain⟨l,rfl⟩:∃l,bU=.good l:=by
    match bU,pc.out with
    | .good l,_=>exact⟨l,rfl⟩
    | .bad m,bQ=>simp[aW.gp] at bQ;omega
   obtain⟨r,rfl⟩:=HG.out l rfl;have YZ:=KF (lv:=lv) (t:=tk.w) (r:=r);have hbz:=AH lv z HZ.out (by have:=V0.out;omega) tk;have e1:(ρ.n:Int) - (aW.good (tk.w::r)).left+1=(ρ.n:Int) - r.length:=by simp only[aW.left,List.length_cons];omega
   have e2:(aW.good (tk.w::r)).left=r.length+1:=rfl;have xf:=hid e1;have rR:=hid e2;clear e1 e2;generalize uZ lv tk.w=bi at*;have V5:=hid YZ;clear YZ;have k0:=fun y:Ext wr.heap.size wr=>(HP.out.later y.h).c0
   have k1:=fun y:Ext wr.heap.size wr=>(HP.out.later y.h).c1
   have m0:=fun y:Ext wr.heap.size wr=>(HP.out.later y.h).d0
   have m1:=fun y:Ext wr.heap.size wr=>(HP.out.later y.h).d1
   have m2:=fun y:Ext wr.heap.size wr=>(HP.out.later y.h).d2
   have m3:=fun y:Ext wr.heap.size wr=>(HP.out.later y.h).d3
   go_wp2_with fail;refine fY 13 wr.heap.size wr (Below.refl _ _) (by kernel_rfl) (by kernel_rfl) (by kernel_rfl) (by kernel_rfl) ?_;simp only[List.take_succ_cons,List.take_zero,List.drop_succ_cons,List.drop_zero];repeat (go_big_quiet_step (first
    |(go_at_call 108;exact ji (Nat.le_refl _) (hbz _))))
   refine wpQuiet_nil ?_;rintro W2 ⟨y2,QL⟩;have hW:=y2.h;rw[← QL] at hW;clear QL y2 k0 k1 m0 m1 m2 m3 c2;cases hop:(aW.good (tk.w::r)).op lv with
   | none=>
     have e0:bi=0:=by rw[V5.out,hop];rfl
     subst e0;obtain⟨hs1,hs2⟩:=ni.done uX.out.todo hop;have Dm:=hid hs1;have AJ:=hid hs2;clear hs1 hs2 hop;have yP:=uX.out.res.later hW;have rA:=uX.out.blk.later hW;have H8:=yP.lt;obtain⟨z0,z1,z2,z3,z4,z5,z6⟩:=cQ yP;obtain⟨y0,y1,y2,y3,y4,y5,y6⟩:=bu yP;obtain⟨x0,x1,x2,x3,x4,x5,x6⟩:=ck rA;have fQ:=hid yP;clear yP rA;go_wp2_with fail;have HP:=cV fQ.out y';have HR:=ck HP;unfold dR at HR;obtain⟨r0,r1,r2,r3,r4,r5,r6⟩:=HR;refine bodyPost_ret (v:=ee y') ?_ rfl ?_
     ·simp[results,Tryz.results91,go_sem,r0,r1,r2,r3,r4,r5,r6];rfl
     ·refine cN aF (Nat.le_refl _) ?_ (Tr.at_.keep (ir (Nat.le_refl _)) _ _ (Tr.at_.keep (eu hW) _ _ uX.out.tr)) AJ.out;rw[Dm.out];exact uX.out.did.later hW
   | some o=>
     have eo:bi=o:=by rw[V5.out,hop];rfl
     subst eo;obtain⟨ho1,mC,s,hs⟩:=Hi hop;have JD:tk.w.k≠0:=vI hs;have Sc:=hid hop;have e0:(bi==0)=false:=by rw[beq_eq_false_iff_ne];omega
     have kC:=uX.out.did.at_.later hW;obtain⟨q0,q1,q2,q3,f1,f2,f3⟩:=kC.facts;have e1:=xf.out;have hst:=br.at.step kC JD;have GD:r.length+1≤ρ.n:=by have:=kC.left;have:=rR.out;omega
     clear hop hs kC q0 q2 q3 f2 f3;go_wp2_with (first
      |(go_at_call 91;refine(IH (lv+1) (z+1) (.good r) _ big (by have:=HZ.out;omega) (by have:=V0.out;omega) (by have:=V0.out;have:=uX.out.le;have:=rR.out;have e5:(aW.good r).left=r.length:=rfl;omega) hst.at_).mono ?_;rintro e w3 ⟨t2,v2,rfl,zm,d2,OM⟩;unfold ee bl;have hz1:=d2.size;have hz2:=hst.size;have hz3:=hW.size;have B0:=((uX.out.blk.later hW).grown hst.grown (by simp;omega)).grown d2.grown (by simp;omega);have B1:=B0.alloc (.cells #[.int .u8 v2.op,.int .u8 v2.v.k,.int .i64 v2.v.n,.string v2.v.s,.string v2.name,.int .i64 v2.width,.slice v2.A v2.n v2.c] 49);have B2:=B1.alloc (.cells #[.int .u8 y'.op,.int .u8 y'.v.k,.int .i64 y'.v.n,.string y'.v.s,.string y'.name,.int .i64 y'.width,.slice y'.A y'.n y'.c,.int .u8 v2.op,.int .u8 v2.v.k,.int .i64 v2.v.n,.string v2.v.s,.string v2.name,.int .i64 v2.width,.slice v2.A v2.n v2.c] 49);have N1:=au.new w3 49 (bl v2).toArray;have X1:=ck B1;have X2:=ck B2;have X3:=cQ B2;have X4:=ck N1;unfold bl at X4;obtain⟨x0,x1,x2,x3,x4,x5,x6⟩:=X1;obtain⟨y0,y1,y2,y3,y4,y5,y6⟩:=X2;obtain⟨z0,z1,z2,z3,z4,z5,z6⟩:=X3;obtain⟨a0,a1,a2,a3,a4,a5,a6⟩:=X4;have zh:=hid B2;clear B0 B1 B2 N1))
     go_roundg (r.length);case measure=>have:=rR.out;omega
     case rel=>exact⟨_,_,_,aW.cw (cI (lv+1)) (aW.good r),xw.round aF rfl Df uX.out hW hst d2 zm Sc.out rfl (by rw[rR.out];exact Nat.lt_succ_self _) OM⟩
  ·skip
   obtain⟨m,rfl⟩:∃m,bU=.bad m:=by
    match bU,pc.out with
    | .good l,bQ=>simp[aW.gp] at bQ;omega
    | .bad m,_=>exact⟨m,rfl⟩
   obtain⟨hs1,hs2⟩:=ni.done uX.out.todo (Kt lv m);have Dm:=hid hs1;have AJ:=hid hs2;clear hs1 hs2;have yP:=uX.out.res;have rA:=uX.out.blk;have H8:=yP.lt;obtain⟨z0,z1,z2,z3,z4,z5,z6⟩:=cQ yP;obtain⟨y0,y1,y2,y3,y4,y5,y6⟩:=bu yP;obtain⟨x0,x1,x2,x3,x4,x5,x6⟩:=ck rA;have fQ:=hid yP;clear yP rA;go_wp2_with fail;have HP:=cV fQ.out y';have HR:=ck HP;unfold dR at HR;obtain⟨r0,r1,r2,r3,r4,r5,r6⟩:=HR;refine bodyPost_ret (v:=ee y') ?_ rfl ?_
   ·simp[results,Tryz.results91,go_sem,r0,r1,r2,r3,r4,r5,r6];rfl
   ·refine cN aF (Nat.le_refl _) ?_ (Tr.at_.keep (ir (Nat.le_refl _)) _ _ uX.out.tr) AJ.out;rw[Dm.out];exact uX.out.did
structure uB (ρ:br) (w:World) (big:Bool) (σ:aW) (q qx:Nat) (wr:World) (bU:aW) (t:Tr) (y:Ex):Prop where
 did:dV ρ w wr bU big
 blk:au wr qx 49 (bl y).toArray
 res:au wr q 49 #[.int .u8 0,.int .u8 0,.int .i64 0,.string ⟨#[]⟩,.string ⟨#[]⟩,.int .i64 0,.slice none 0 0]
 tr:t.at_ wr (Bx (q+1) qx wr) y
 todo:lZ σ t bU
 le:bU.left≤σ.left
theorem uB.more {ρ:br} {w wr W2:World} {big:Bool} {σ bU:aW} {q qx:Nat} {t':Tr} {y':Ex}(A:uB ρ w big σ q qx wr bU t' y')(d:dV ρ wr W2 bU big)(aF:ρ.g < q)(hqq:q≤qx):uB ρ w big σ q qx W2 bU t' y':=
 ⟨A.did.trans d,d.blk A.blk (by omega),d.blk A.res (by omega),Tr.at_.keep (eL d.grown (by omega)) _ _ A.tr,A.todo,A.le⟩
structure J8 (ρ:br) (w:World) (big:Bool) (σ:aW) (q qx:Nat) (W:World) (t:Tr) (y:Ex):Prop where
 did:dV ρ w W (ae (az 3) σ) big
 blk:au W qx 49 (bl y).toArray
 res:au W q 49 #[.int .u8 0,.int .u8 0,.int .i64 0,.string ⟨#[]⟩,.string ⟨#[]⟩,.int .i64 0,.slice none 0 0]
 tr:t.at_ W (eD (q+1) W) y
 gives:aK (az 3) σ t
theorem uB.round {ρ:br} {w wr W2 Ws w3:World} {big:Bool} {σ bU:aW} {q qx:Nat} {t' t2:Tr} {y' v2:Ex} {l:bH} {bi:Int}(aF:ρ.g < w.heap.size)(zj:q=w.heap.size)(hqq:q+1≤qx)(A:uB ρ w big σ q qx wr bU t' y')(hW:Below wr.heap.size wr W2)(hst:dV ρ W2 Ws (.good l) big)(d2:dV ρ Ws w3 (ae (az 4) (.good l)) big)
  (zm:t2.at_ w3 (eD Ws.heap.size w3) v2) (yh:bU.head pk=false) (hop:bU.op 3=some bi) (hl:bU.words.tail=l) (iF:aK (az 4) (.good l) t2):
  J8 ρ w big σ q qx (dR ((w3.alloc (mX v2)).alloc (oO y' v2)) qx (nU bi (w3.heap.size+1) 2)) (lI bi [t',t2]) (nU bi (w3.heap.size+1) 2):=by
 have hz1:=d2.size;have hz2:=hst.size;have hz3:=hW.size;have H8:=A.blk.lt;have KG:Below w3.heap.size w3 ((w3.alloc (mX v2)).alloc (oO y' v2)):=ah.then (aa w3 _) (aa _ _)
 have hsz:((w3.alloc (mX v2)).alloc (oO y' v2)).heap.size=w3.heap.size+2:=by simp
 have hN:au ((w3.alloc (mX v2)).alloc (oO y' v2)) (w3.heap.size+1) 49 (bl y'++bl v2).toArray:=by have:=au.new (w3.alloc (mX v2)) 49 (bl y'++bl v2).toArray;rw[World.size_alloc] at this;exact this
 have hX:au ((w3.alloc (mX v2)).alloc (oO y' v2)) qx 49 (bl y').toArray:=(((A.blk.later hW).grown hst.grown (by simp;omega)).grown d2.grown (by simp;omega)).later KG;have hR:au ((w3.alloc (mX v2)).alloc (oO y' v2)) q 49 _:=(((A.res.later hW).grown hst.grown (by simp;omega)).grown d2.grown (by simp;omega)).later KG;have hD:dV ρ w ((w3.alloc (mX v2)).alloc (oO y' v2)) (ae (az 4) (.good l)) big:=(((A.did.later hW).trans hst).trans d2).later KG;have hT:(lI bi [t',t2]).at_ ((w3.alloc (mX v2)).alloc (oO y' v2)) (Bx (q+1) qx ((w3.alloc (mX v2)).alloc (oO y' v2))) (nU bi (w3.heap.size+1) 2):=by
  refine Ey bi hN ⟨by omega,by omega,by omega⟩ ?_ ?_
  ·exact Tr.at_.keep (eu KG) _ _ (Tr.at_.keep (eL d2.grown (by omega)) _ _ (Tr.at_.keep (eL hst.grown (by omega)) _ _ (Tr.at_.keep (eu hW) _ _ A.tr)))
  ·exact Tr.at_.keep (Gx (by omega) (by omega)) _ _ (zm.later KG)
 obtain⟨e1,e2⟩:=lZ.some_ A.todo yh hop (y:=t2) (by rw[hl];exact iF);rw[hl] at e1;rw[← e1] at hD;generalize (w3.alloc (mX v2)).alloc (oO y' v2)=W5 at*;refine⟨hD.dR aF (by omega) _,cV hX _,Dl hR (by omega) _,?_,e2⟩;exact Tr.at_.keep (ir (Nat.le_refl _)) _ _ (Tr.at_.keep (Ss (S:=fun w=>Bx (q+1) qx w) (fun w i u=>zV i u) _) _ _ hT)
theorem pT (v:Val)(w:World):Calls Tryz.prog 120 #[.agg #[.int .u8 v.k,.int .i64 v.n,.string v.s]] w fun e w'=>e=.returned (.agg #[.int .u8 1,.int .u8 v.k,.int .i64 v.n,.string v.s,.string ⟨#[]⟩,.int .i64 0,.slice none 0 0])∧Below w.heap.size w w':=by go_enter Tryz.func120,Tryz.ntmps120;go_wp2_with fail;refine bodyPost_ret (v:=.agg #[.int .u8 1,.int .u8 v.k,.int .i64 v.n,.string v.s,.string ⟨#[]⟩,.int .i64 0,.slice none 0 0]) ?_ rfl ⟨rfl,ah.then (aa w _) (aa _ _)⟩;simp[results,Tryz.results120,go_sem]
theorem KH (ρ:br)(w:World)(big:Bool)(n:Nat)(h:ρ.at w (.bad n) big):
  Calls Tryz.prog 107 #[ρ.ptr] w (gu ρ w big (az 7) (.bad n)):=by
 have aF:=h.jt;have hb:=aa w lW;have h0:=h.later hb;have HQ:=hid (au.new w 49 #[.int .u8 0,.int .u8 0,.int .i64 0,.string ⟨#[]⟩,.string ⟨#[]⟩,.int .i64 0,.slice none 0 0]);have hsz:(w.alloc lW).heap.size=w.heap.size+1:=by simp
 unfold lW at*;unfold br.ptr;have kU:=h0.ET;obtain⟨c0,c1,c2,c3,f1,f2,f3⟩:=h0.facts;have qI:¬ρ.bad (.bad n)< 0:=by simpa [aW.gp] using kU
 have oq:=HQ.out;obtain⟨z0,z1,z2,z3,z4,z5,z6⟩:=cQ oq;obtain⟨y0,y1,y2,y3,y4,y5,y6⟩:=bu oq;go_enter Tryz.func107,Tryz.ntmps107;go_wp2_with fail;refine bodyPost_ret (v:=ee ⟨0,jm,⟨#[]⟩,0,none,0,0⟩) ?_ rfl ⟨lI 0 [],_,rfl,JR _ _ 0,?_,xr _ _ _⟩
 ·simp[results,Tryz.results107,go_sem,y0,y1,y2,y3,y4,y5,y6];rfl
 ·rw[Sg];exact dV.aL h hb
theorem KI (ρ:br)(w:World)(big:Bool)(t:Wd)(r:bH)(h:ρ.at w (.good (t::r)) big)(hk:t.k=2):
  Calls Tryz.prog 107 #[ρ.ptr] w (gu ρ w big (az 7) (.good (t::r))):=by
 have HK:=hid hk;clear hk;have aF:=h.jt;have hb:=aa w lW;have h0:=h.later hb;have HQ:=hid (au.new w 49 #[.int .u8 0,.int .u8 0,.int .i64 0,.string ⟨#[]⟩,.string ⟨#[]⟩,.int .i64 0,.slice none 0 0]);have hsz:(w.alloc lW).heap.size=w.heap.size+1:=by simp
 unfold lW at*;unfold br.ptr;obtain⟨tk,pl,bd,hpl,hlt,hsm,kU,bQ,hg,mM,mA,hp⟩:=h0.iB;obtain⟨r',gO⟩:=hg _ rfl;have Fi:t=tk.w:=by injection gO
 have qI:bd < 0:=by simpa [aW.gp] using bQ
 subst Fi;have nD:=h0.left;have oh:=hp.later (aa _ kT);have yN:=hp.later ((aa _ (.cells (bT tk) 46)).drew);have hb3:=(aa (w.alloc (.cells #[.int .u8 0,.int .u8 0,.int .i64 0,.string ⟨#[]⟩,.string ⟨#[]⟩,.int .i64 0,.slice none 0 0] 49)) (.cells (bT tk) 46)).drew;have HT:=(au.new (w.alloc (.cells #[.int .u8 0,.int .u8 0,.int .i64 0,.string ⟨#[]⟩,.string ⟨#[]⟩,.int .i64 0,.slice none 0 0] 49)) 46 (bT tk)).drew;rw[hsz] at HT;have HF:=hid (h0.later hb3);have HD:=hid ((dV.aL h hb).later hb3);have fy:=hid (HQ.out.later hb3);have uY:=(h0.later hb3).facts.2.2.2.2.1;have po:((w.alloc (.cells #[.int .u8 0,.int .u8 0,.int .i64 0,.string ⟨#[]⟩,.string ⟨#[]⟩,.int .i64 0,.slice none 0 0] 49)).alloc (.cells (bT tk) 46)).drew.heap.size=w.heap.size+2:=by simp
 have e1:(pl:Int)+1=(ρ.n:Int) - r.length:=by rw[hpl];simp only[aW.left,List.length_cons] at*;omega
 have Dk:=hid hpl;clear h hpl hg bQ kU gO h0 hb HQ;obtain⟨c0,c1,c2,d0,d1,d2,d3⟩:=hp;obtain⟨y0,y1,y2,z0,z1,z2,z3⟩:=oh;obtain⟨x0,x1,x2,v0,v1,v2,v3⟩:=yN;unfold kT at y0 y1 y2 z0 z1 z2 z3;go_enter Tryz.func107,Tryz.ntmps107;go_wp2_with fail;go_region;clear c0 c1 c2 d0 d1 d2 d3 y0 y1 y2 z0 z1 z2 z3 x0 v0 v1 v2 v3;obtain⟨u0,u1,u2,u3,_⟩:=aT HT;have yQ:=hid HT;clear HT;unfold bT at u0 u1 u2 u3 hb3 x1 x2 uY HF yQ HD fy po;generalize World.drew _=W at*;have hk:=HK.out;have hst:=br.at.step HF.out (show tk.w.k≠0 by omega);have HST:=hid hst;have HX:=yQ.out.far (p:=⟨ρ.g,1,none⟩) (by simp;omega) (.int .i64 ((ρ.n:Int) - r.length));obtain⟨s0,s1,s2,s3,_⟩:=aT HX;clear HX hst;go_wp2_with (go_at_call 120;refine(pT ⟨2,tk.w.n,⟨#[]⟩⟩ _).mono ?_;rintro e w4 ⟨rfl,b4⟩;have oq:=(fy.out.far (p:=⟨ρ.g,1,none⟩) (by simp;omega) (.int .i64 ((ρ.n:Int) - r.length))).later b4;have xx:=hid oq;have B4:=hid b4;obtain⟨z0,z1,z2,z3,z4,z5,z6⟩:=cQ oq;obtain⟨y0,y1,y2,y3,y4,y5,y6⟩:=bu oq;clear oq b4);have HP:=cV xx.out ⟨1,⟨2,tk.w.n,⟨#[]⟩⟩,⟨#[]⟩,0,none,0,0⟩;have HR:=ck HP;unfold dR at HR;obtain⟨r0,r1,r2,r3,r4,r5,r6⟩:=HR;refine bodyPost_ret (v:=ee ⟨1,⟨2,tk.w.n,⟨#[]⟩⟩,⟨#[]⟩,0,none,0,0⟩) ?_ rfl ?_
 ·simp[results,Tryz.results107,go_sem,r0,r1,r2,r3,r4,r5,r6];rfl
 ·refine cN (t:=mJ ⟨2,tk.w.n,ByteArray.empty⟩) aF (Nat.le_refl _) ?_ (xm _ _ _) (Hj HK.out).2;rw[(Hj HK.out).1];exact(HD.out.trans HST.out).later B4.out
theorem Hp (ρ:br)(w:World)(big:Bool)(t:Wd)(r:bH)(h:ρ.at w (.good (t::r)) big)(hk:t.k=3):
  Calls Tryz.prog 107 #[ρ.ptr] w (gu ρ w big (az 7) (.good (t::r))):=by
 have HK:=hid hk;clear hk;have aF:=h.jt;have hb:=aa w lW;have h0:=h.later hb;have HQ:=hid (au.new w 49 #[.int .u8 0,.int .u8 0,.int .i64 0,.string ⟨#[]⟩,.string ⟨#[]⟩,.int .i64 0,.slice none 0 0]);have hsz:(w.alloc lW).heap.size=w.heap.size+1:=by simp
 unfold lW at*;unfold br.ptr;obtain⟨tk,pl,bd,hpl,hlt,hsm,kU,bQ,hg,mM,mA,hp⟩:=h0.iB;obtain⟨r',gO⟩:=hg _ rfl;have Fi:t=tk.w:=by injection gO
 have qI:bd < 0:=by simpa [aW.gp] using bQ
 subst Fi;have nD:=h0.left;have oh:=hp.later (aa _ kT);have yN:=hp.later ((aa _ (.cells (bT tk) 46)).drew);have hb3:=(aa (w.alloc (.cells #[.int .u8 0,.int .u8 0,.int .i64 0,.string ⟨#[]⟩,.string ⟨#[]⟩,.int .i64 0,.slice none 0 0] 49)) (.cells (bT tk) 46)).drew;have HT:=(au.new (w.alloc (.cells #[.int .u8 0,.int .u8 0,.int .i64 0,.string ⟨#[]⟩,.string ⟨#[]⟩,.int .i64 0,.slice none 0 0] 49)) 46 (bT tk)).drew;rw[hsz] at HT;have HF:=hid (h0.later hb3);have HD:=hid ((dV.aL h hb).later hb3);have fy:=hid (HQ.out.later hb3);have uY:=(h0.later hb3).facts.2.2.2.2.1;have po:((w.alloc (.cells #[.int .u8 0,.int .u8 0,.int .i64 0,.string ⟨#[]⟩,.string ⟨#[]⟩,.int .i64 0,.slice none 0 0] 49)).alloc (.cells (bT tk) 46)).drew.heap.size=w.heap.size+2:=by simp
 have e1:(pl:Int)+1=(ρ.n:Int) - r.length:=by rw[hpl];simp only[aW.left,List.length_cons] at*;omega
 have Dk:=hid hpl;clear h hpl hg bQ kU gO h0 hb HQ;obtain⟨c0,c1,c2,d0,d1,d2,d3⟩:=hp;obtain⟨y0,y1,y2,z0,z1,z2,z3⟩:=oh;obtain⟨x0,x1,x2,v0,v1,v2,v3⟩:=yN;unfold kT at y0 y1 y2 z0 z1 z2 z3;go_enter Tryz.func107,Tryz.ntmps107;go_wp2_with fail;go_region;clear c0 c1 c2 d0 d1 d2 d3 y0 y1 y2 z0 z1 z2 z3 x0 v0 v1 v2 v3;obtain⟨u0,u1,u2,u3,_⟩:=aT HT;have yQ:=hid HT;clear HT;unfold bT at u0 u1 u2 u3 hb3 x1 x2 uY HF yQ HD fy po;generalize World.drew _=W at*;have hk:=HK.out;have hst:=br.at.step HF.out (show tk.w.k≠0 by omega);have HST:=hid hst;have HX:=yQ.out.far (p:=⟨ρ.g,1,none⟩) (by simp;omega) (.int .i64 ((ρ.n:Int) - r.length));obtain⟨s0,s1,s2,s3,_⟩:=aT HX;clear HX hst;go_wp2_with (go_at_call 120;refine(pT ⟨3,0,⟨tk.w.s.toArray⟩⟩ _).mono ?_;rintro e w4 ⟨rfl,b4⟩;have oq:=(fy.out.far (p:=⟨ρ.g,1,none⟩) (by simp;omega) (.int .i64 ((ρ.n:Int) - r.length))).later b4;have xx:=hid oq;have B4:=hid b4;obtain⟨z0,z1,z2,z3,z4,z5,z6⟩:=cQ oq;obtain⟨y0,y1,y2,y3,y4,y5,y6⟩:=bu oq;clear oq b4);have HP:=cV xx.out ⟨1,⟨3,0,⟨tk.w.s.toArray⟩⟩,⟨#[]⟩,0,none,0,0⟩;have HR:=ck HP;unfold dR at HR;obtain⟨r0,r1,r2,r3,r4,r5,r6⟩:=HR;refine bodyPost_ret (v:=ee ⟨1,⟨3,0,⟨tk.w.s.toArray⟩⟩,⟨#[]⟩,0,none,0,0⟩) ?_ rfl ?_
 ·simp[results,Tryz.results107,go_sem,r0,r1,r2,r3,r4,r5,r6];rfl
 ·refine cN (t:=mJ ⟨3,0,⟨tk.w.s.toArray⟩⟩) aF (Nat.le_refl _) ?_ (xm _ _ _) (Dg HK.out).2;rw[(Dg HK.out).1];exact(HD.out.trans HST.out).later B4.out
theorem eG (ρ:br)(w:World)(σ:aW)(big:Bool)(h:ρ.at w σ big)(s:ByteArray)(hh:σ.head s.data.toList=false):
  Calls Tryz.prog 23 #[ρ.ptr,.string s] w fun e w'=>e=.returned (.bool false)∧dV ρ w w' σ big:=by
 have:=dL ρ w σ big h s;rw[hh,aG hh] at this;exact this
theorem mO (ρ:br)(w:World)(σ:aW)(big:Bool)(h:ρ.at w σ big)(s:ByteArray)(hh:σ.head s.data.toList=true):
  Calls Tryz.prog 23 #[ρ.ptr,.string s] w fun e w'=>e=.returned (.bool true)∧dV ρ w w' (.good σ.words.tail) big:=by
 have:=dL ρ w σ big h s;rw[hh,aP hh] at this;exact this
theorem Hq (ρ:br)(w:World)(big:Bool)(t:Wd)(r:bH)(h:ρ.at w (.good (t::r)) big)(JC:Plain t)(h1:kO eE t=true):
  Calls Tryz.prog 107 #[ρ.ptr] w (gu ρ w big (az 7) (.good (t::r))):=by
 have lu:=hid JC;clear JC;have H1:=hid h1;clear h1;have aF:=h.jt;have hb:=aa w lW;have h0:=h.later hb;have HQ:=hid (au.new w 49 #[.int .u8 0,.int .u8 0,.int .i64 0,.string ⟨#[]⟩,.string ⟨#[]⟩,.int .i64 0,.slice none 0 0]);have hsz:(w.alloc lW).heap.size=w.heap.size+1:=by simp
 unfold lW at*;unfold br.ptr;obtain⟨tk,pl,bd,hpl,hlt,hsm,kU,bQ,hg,mM,mA,hp⟩:=h0.iB;obtain⟨r',gO⟩:=hg _ rfl;have Fi:t=tk.w:=by injection gO
 have qI:bd < 0:=by simpa [aW.gp] using bQ
 subst Fi;have nD:=h0.left;have oh:=hp.later (aa _ kT);have yN:=hp.later ((aa _ (.cells (bT tk) 46)).drew);have hb3:=(aa (w.alloc (.cells #[.int .u8 0,.int .u8 0,.int .i64 0,.string ⟨#[]⟩,.string ⟨#[]⟩,.int .i64 0,.slice none 0 0] 49)) (.cells (bT tk) 46)).drew;have HT:=(au.new (w.alloc (.cells #[.int .u8 0,.int .u8 0,.int .i64 0,.string ⟨#[]⟩,.string ⟨#[]⟩,.int .i64 0,.slice none 0 0] 49)) 46 (bT tk)).drew;rw[hsz] at HT;have HF:=hid (h0.later hb3);have HD:=hid ((dV.aL h hb).later hb3);have fy:=hid (HQ.out.later hb3);have uY:=(h0.later hb3).facts.2.2.2.2.1;have po:((w.alloc (.cells #[.int .u8 0,.int .u8 0,.int .i64 0,.string ⟨#[]⟩,.string ⟨#[]⟩,.int .i64 0,.slice none 0 0] 49)).alloc (.cells (bT tk) 46)).drew.heap.size=w.heap.size+2:=by simp
 have e1:(pl:Int)+1=(ρ.n:Int) - r.length:=by rw[hpl];simp only[aW.left,List.length_cons] at*;omega
 have Dk:=hid hpl;clear h hpl hg bQ kU gO h0 hb HQ;obtain⟨c0,c1,c2,d0,d1,d2,d3⟩:=hp;obtain⟨y0,y1,y2,z0,z1,z2,z3⟩:=oh;obtain⟨x0,x1,x2,v0,v1,v2,v3⟩:=yN;unfold kT at y0 y1 y2 z0 z1 z2 z3;go_enter Tryz.func107,Tryz.ntmps107;go_wp2_with fail;go_region;clear c0 c1 c2 d0 d1 d2 d3 y0 y1 y2 z0 z1 z2 z3 x0 v0 v1 v2 v3;obtain⟨u0,u1,u2,u3,_⟩:=aT HT;have yQ:=hid HT;clear HT;unfold bT at u0 u1 u2 u3 hb3 x1 x2 uY HF yQ HD fy po;generalize World.drew _=W at*;have n2:((tk.w.k:Int)==2)=false:=by rw[beq_eq_false_iff_ne];have:=lu.out.i;omega
 have n3:((tk.w.k:Int)==3)=false:=by rw[beq_eq_false_iff_ne];have:=lu.out.s;omega
 go_wp2_with fail;refine(mO ρ _ _ big HF.out ⟨#[116,114,117,101]⟩ (show(aW.good (tk.w::r)).head (⟨#[116,114,117,101]⟩:ByteArray).data.toList=true from H1.out)).mono ?_;rintro e w1 ⟨rfl,d1⟩;go_wp2_with fail;refine(pT ⟨1,1,⟨#[]⟩⟩ _).mono ?_;rintro e w9 ⟨rfl,b4⟩;have oq:=((d1.blk (fy.out) (by omega))).later b4;have xx:=hid oq;have B4:=hid b4;obtain⟨z0,z1,z2,z3,z4,z5,z6⟩:=cQ oq;obtain⟨y0,y1,y2,y3,y4,y5,y6⟩:=bu oq;have D1:=hid d1;clear oq b4;go_wp2_with fail;have HP:=cV xx.out ⟨1,⟨1,1,⟨#[]⟩⟩,⟨#[]⟩,0,none,0,0⟩;have HR:=ck HP;unfold dR at HR;obtain⟨r0,r1,r2,r3,r4,r5,r6⟩:=HR;refine bodyPost_ret (v:=ee ⟨1,⟨1,1,⟨#[]⟩⟩,⟨#[]⟩,0,none,0,0⟩) ?_ rfl ?_
 ·simp[results,Tryz.results107,go_sem,r0,r1,r2,r3,r4,r5,r6];rfl
 ·refine cN (t:=mJ ⟨1,1,ByteArray.empty⟩) aF (Nat.le_refl _) ?_ (xm _ _ _) (Dh lu.out H1.out).2;rw[(Dh lu.out H1.out).1];exact((HD.out).trans D1.out).later B4.out
theorem Fj (ρ:br)(w:World)(big:Bool)(t:Wd)(r:bH)(h:ρ.at w (.good (t::r)) big)(JC:Plain t)(h1:kO eE t=false)(h2:kO ei t=true):
  Calls Tryz.prog 107 #[ρ.ptr] w (gu ρ w big (az 7) (.good (t::r))):=by
 have lu:=hid JC;clear JC;have H1:=hid h1;have H2:=hid h2;clear h1 h2;have aF:=h.jt;have hb:=aa w lW;have h0:=h.later hb;have HQ:=hid (au.new w 49 #[.int .u8 0,.int .u8 0,.int .i64 0,.string ⟨#[]⟩,.string ⟨#[]⟩,.int .i64 0,.slice none 0 0]);have hsz:(w.alloc lW).heap.size=w.heap.size+1:=by simp
 unfold lW at*;unfold br.ptr;obtain⟨tk,pl,bd,hpl,hlt,hsm,kU,bQ,hg,mM,mA,hp⟩:=h0.iB;obtain⟨r',gO⟩:=hg _ rfl;have Fi:t=tk.w:=by injection gO
 have qI:bd < 0:=by simpa [aW.gp] using bQ
 subst Fi;have nD:=h0.left;have oh:=hp.later (aa _ kT);have yN:=hp.later ((aa _ (.cells (bT tk) 46)).drew);have hb3:=(aa (w.alloc (.cells #[.int .u8 0,.int .u8 0,.int .i64 0,.string ⟨#[]⟩,.string ⟨#[]⟩,.int .i64 0,.slice none 0 0] 49)) (.cells (bT tk) 46)).drew;have HT:=(au.new (w.alloc (.cells #[.int .u8 0,.int .u8 0,.int .i64 0,.string ⟨#[]⟩,.string ⟨#[]⟩,.int .i64 0,.slice none 0 0] 49)) 46 (bT tk)).drew;rw[hsz] at HT;have HF:=hid (h0.later hb3);have HD:=hid ((dV.aL h hb).later hb3);have fy:=hid (HQ.out.later hb3);have uY:=(h0.later hb3).facts.2.2.2.2.1;have po:((w.alloc (.cells #[.int .u8 0,.int .u8 0,.int .i64 0,.string ⟨#[]⟩,.string ⟨#[]⟩,.int .i64 0,.slice none 0 0] 49)).alloc (.cells (bT tk) 46)).drew.heap.size=w.heap.size+2:=by simp
 have e1:(pl:Int)+1=(ρ.n:Int) - r.length:=by rw[hpl];simp only[aW.left,List.length_cons] at*;omega
 have Dk:=hid hpl;clear h hpl hg bQ kU gO h0 hb HQ;obtain⟨c0,c1,c2,d0,d1,d2,d3⟩:=hp;obtain⟨y0,y1,y2,z0,z1,z2,z3⟩:=oh;obtain⟨x0,x1,x2,v0,v1,v2,v3⟩:=yN;unfold kT at y0 y1 y2 z0 z1 z2 z3;go_enter Tryz.func107,Tryz.ntmps107;go_wp2_with fail;go_region;clear c0 c1 c2 d0 d1 d2 d3 y0 y1 y2 z0 z1 z2 z3 x0 v0 v1 v2 v3;obtain⟨u0,u1,u2,u3,_⟩:=aT HT;have yQ:=hid HT;clear HT;unfold bT at u0 u1 u2 u3 hb3 x1 x2 uY HF yQ HD fy po;generalize World.drew _=W at*;have n2:((tk.w.k:Int)==2)=false:=by rw[beq_eq_false_iff_ne];have:=lu.out.i;omega
 have n3:((tk.w.k:Int)==3)=false:=by rw[beq_eq_false_iff_ne];have:=lu.out.s;omega
 go_wp2_with fail;refine(eG ρ _ _ big HF.out ⟨#[116,114,117,101]⟩ (show(aW.good (tk.w::r)).head (⟨#[116,114,117,101]⟩:ByteArray).data.toList=false from H1.out)).mono ?_;rintro e w1 ⟨rfl,d1⟩;go_wp2_with fail;refine(mO ρ _ _ big d1.at_ ⟨#[102,97,108,115,101]⟩ (show(aW.good (tk.w::r)).head (⟨#[102,97,108,115,101]⟩:ByteArray).data.toList=true from H2.out)).mono ?_;rintro e w2 ⟨rfl,d2⟩;go_wp2_with fail;refine(pT ⟨1,0,⟨#[]⟩⟩ _).mono ?_;rintro e w9 ⟨rfl,b4⟩;have oq:=((d2.blk ((d1.blk (fy.out) (by omega))) (by omega))).later b4;have xx:=hid oq;have B4:=hid b4;obtain⟨z0,z1,z2,z3,z4,z5,z6⟩:=cQ oq;obtain⟨y0,y1,y2,y3,y4,y5,y6⟩:=bu oq;have D1:=hid d1;have D2:=hid d2;clear oq b4;go_wp2_with fail;have HP:=cV xx.out ⟨1,⟨1,0,⟨#[]⟩⟩,⟨#[]⟩,0,none,0,0⟩;have HR:=ck HP;unfold dR at HR;obtain⟨r0,r1,r2,r3,r4,r5,r6⟩:=HR;refine bodyPost_ret (v:=ee ⟨1,⟨1,0,⟨#[]⟩⟩,⟨#[]⟩,0,none,0,0⟩) ?_ rfl ?_
 ·simp[results,Tryz.results107,go_sem,r0,r1,r2,r3,r4,r5,r6];rfl
 ·refine cN (t:=mJ ⟨1,0,ByteArray.empty⟩) aF (Nat.le_refl _) ?_ (xm _ _ _) (AB lu.out H1.out H2.out).2;rw[(AB lu.out H1.out H2.out).1];exact(((HD.out).trans D1.out).trans D2.out).later B4.out
theorem Hr (ρ:br)(w:World)(big:Bool)(t:Wd)(r:bH)(h:ρ.at w (.good (t::r)) big)(JC:Plain t)(h1:kO eE t=false)(h2:kO ei t=false)(h3:kO cE t=true):
  Calls Tryz.prog 107 #[ρ.ptr] w (gu ρ w big (az 7) (.good (t::r))):=by
 have lu:=hid JC;clear JC;have H1:=hid h1;have H2:=hid h2;have H3:=hid h3;clear h1 h2 h3;have aF:=h.jt;have hb:=aa w lW;have h0:=h.later hb;have HQ:=hid (au.new w 49 #[.int .u8 0,.int .u8 0,.int .i64 0,.string ⟨#[]⟩,.string ⟨#[]⟩,.int .i64 0,.slice none 0 0]);have hsz:(w.alloc lW).heap.size=w.heap.size+1:=by simp
 unfold lW at*;unfold br.ptr;obtain⟨tk,pl,bd,hpl,hlt,hsm,kU,bQ,hg,mM,mA,hp⟩:=h0.iB;obtain⟨r',gO⟩:=hg _ rfl;have Fi:t=tk.w:=by injection gO
 have qI:bd < 0:=by simpa [aW.gp] using bQ
 subst Fi;have nD:=h0.left;have oh:=hp.later (aa _ kT);have yN:=hp.later ((aa _ (.cells (bT tk) 46)).drew);have hb3:=(aa (w.alloc (.cells #[.int .u8 0,.int .u8 0,.int .i64 0,.string ⟨#[]⟩,.string ⟨#[]⟩,.int .i64 0,.slice none 0 0] 49)) (.cells (bT tk) 46)).drew;have HT:=(au.new (w.alloc (.cells #[.int .u8 0,.int .u8 0,.int .i64 0,.string ⟨#[]⟩,.string ⟨#[]⟩,.int .i64 0,.slice none 0 0] 49)) 46 (bT tk)).drew;rw[hsz] at HT;have HF:=hid (h0.later hb3);have HD:=hid ((dV.aL h hb).later hb3);have fy:=hid (HQ.out.later hb3);have uY:=(h0.later hb3).facts.2.2.2.2.1;have po:((w.alloc (.cells #[.int .u8 0,.int .u8 0,.int .i64 0,.string ⟨#[]⟩,.string ⟨#[]⟩,.int .i64 0,.slice none 0 0] 49)).alloc (.cells (bT tk) 46)).drew.heap.size=w.heap.size+2:=by simp
 have e1:(pl:Int)+1=(ρ.n:Int) - r.length:=by rw[hpl];simp only[aW.left,List.length_cons] at*;omega
 have Dk:=hid hpl;clear h hpl hg bQ kU gO h0 hb HQ;obtain⟨c0,c1,c2,d0,d1,d2,d3⟩:=hp;obtain⟨y0,y1,y2,z0,z1,z2,z3⟩:=oh;obtain⟨x0,x1,x2,v0,v1,v2,v3⟩:=yN;unfold kT at y0 y1 y2 z0 z1 z2 z3;go_enter Tryz.func107,Tryz.ntmps107;go_wp2_with fail;go_region;clear c0 c1 c2 d0 d1 d2 d3 y0 y1 y2 z0 z1 z2 z3 x0 v0 v1 v2 v3;obtain⟨u0,u1,u2,u3,_⟩:=aT HT;have yQ:=hid HT;clear HT;unfold bT at u0 u1 u2 u3 hb3 x1 x2 uY HF yQ HD fy po;generalize World.drew _=W at*;have n2:((tk.w.k:Int)==2)=false:=by rw[beq_eq_false_iff_ne];have:=lu.out.i;omega
 have n3:((tk.w.k:Int)==3)=false:=by rw[beq_eq_false_iff_ne];have:=lu.out.s;omega
 go_wp2_with fail;refine(eG ρ _ _ big HF.out ⟨#[116,114,117,101]⟩ (show(aW.good (tk.w::r)).head (⟨#[116,114,117,101]⟩:ByteArray).data.toList=false from H1.out)).mono ?_;rintro e w1 ⟨rfl,d1⟩;go_wp2_with fail;refine(eG ρ _ _ big d1.at_ ⟨#[102,97,108,115,101]⟩ (show(aW.good (tk.w::r)).head (⟨#[102,97,108,115,101]⟩:ByteArray).data.toList=false from H2.out)).mono ?_;rintro e w2 ⟨rfl,d2⟩;go_wp2_with fail;refine(mO ρ _ _ big d2.at_ ⟨#[110,117,108,108]⟩ (show(aW.good (tk.w::r)).head (⟨#[110,117,108,108]⟩:ByteArray).data.toList=true from H3.out)).mono ?_;rintro e w3 ⟨rfl,d3⟩;go_wp2_with fail;refine(pT ⟨0,0,⟨#[]⟩⟩ _).mono ?_;rintro e w9 ⟨rfl,b4⟩;have oq:=((d3.blk ((d2.blk ((d1.blk (fy.out) (by omega))) (by omega))) (by omega))).later b4;have xx:=hid oq;have B4:=hid b4;obtain⟨z0,z1,z2,z3,z4,z5,z6⟩:=cQ oq;obtain⟨y0,y1,y2,y3,y4,y5,y6⟩:=bu oq;have D1:=hid d1;have D2:=hid d2;have D3:=hid d3;clear oq b4;go_wp2_with fail;have HP:=cV xx.out ⟨1,⟨0,0,⟨#[]⟩⟩,⟨#[]⟩,0,none,0,0⟩;have HR:=ck HP;unfold dR at HR;obtain⟨r0,r1,r2,r3,r4,r5,r6⟩:=HR;refine bodyPost_ret (v:=ee ⟨1,⟨0,0,⟨#[]⟩⟩,⟨#[]⟩,0,none,0,0⟩) ?_ rfl ?_
 ·simp[results,Tryz.results107,go_sem,r0,r1,r2,r3,r4,r5,r6];rfl
 ·refine cN (t:=mJ cX) aF (Nat.le_refl _) ?_ (xm _ _ _) (Di lu.out H1.out H2.out H3.out).2;rw[(Di lu.out H1.out H2.out H3.out).1];exact((((HD.out).trans D1.out).trans D2.out).trans D3.out).later B4.out
end Go.Proofs.YtcneefmaghoejaaGreatDoor
