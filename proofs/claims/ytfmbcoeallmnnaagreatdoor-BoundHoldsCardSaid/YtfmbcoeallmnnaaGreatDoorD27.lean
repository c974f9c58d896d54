/- Parts of the proof. -/
import Derived.Test.YtfmbcoeallmnnaaGreatDoorD26
namespace Go.Proofs.YtfmbcoeallmnnaaGreatDoor.R
open Go.Lib (hid)
open Go.ChangeShapes Go.WideShapes Go.ChangeAt Go.RowKit
set_option linter.unusedVariables false
set_option linter.unusedSimpArgs false
def rE (lv:Nat)(t:Wd):Int:=(ix (opsL lv) [t]).getD 0
theorem La (ks:List (List UInt8×Int))(t:Wd)(r:fN):ix ks (t::r)=ix ks [t]:=by
 induction ks with
 | nil=>rfl
 | cons a ks ih=>obtain⟨s,o⟩:=a;simp only[ix,bV,ih];rfl
theorem VG {lv:Nat} {t:Wd}(h1:t.k≠1)(h4:t.k≠4):rE lv t=0:=by
 unfold rE;have:∀ks,ix ks [t]=none:=by
  intro ks;induction ks with
  | nil=>rfl
  | cons a ks ih=>obtain⟨s,o⟩:=a;simp[ix,bV,lR,h1,h4,ih]
 rw[this];rfl
theorem Jc {lv:Nat} {t:Wd}(h:t.k=1∨t.k=4):rE lv t=((opsL lv).lookup t.s).getD 0:=by
 unfold rE;congr 1;have hk:(t.k==1 || t.k==4)=true:=by rcases h with h | h <;> simp[h]
 generalize opsL lv=ks;induction ks with
 | nil=>rfl
 | cons a ks ih=>obtain⟨s,o⟩:=a;simp only[ix,bV,lR,hk,Bool.true_and,List.lookup];rw[ih];cases e:(t.s==s)<;> simp
def pW (lv:Nat)(t:Wd)(w:World)(e:Ending)(w':World):Prop:=e=.returned (.int .u8 (rE lv t))∧Below w.heap.size w w'
structure aaU (t:Wd):Prop where
 sign:t.k=1∨t.k=4
set_option maxHeartbeats 4000000
set_option maxRecDepth 100000
theorem mm (lv:Nat)(hlv:lv=0∨lv=1∨lv=4∨lv=5)(t:Tok)(w:World)(hk:t.w.k=1∨t.w.k=4):
  Calls Tryz.prog 141 #[.int .i64 lv,.agg (cr t)] w (pW lv t.w w):=by
 have HR:=hid (Jc (lv:=lv) hk);have hb:=aa w (.cells (cr t) 116);obtain⟨u0,u1,u2,u3,_⟩:=bl (ag.new w 116 (cr t));unfold pW;unfold cr at*;rcases hk with hk | hk
 ·have n1:((t.w.k:Int) != 1)=false:=by simp;omega
  clear hk hb;rcases hlv with rfl | rfl | rfl | rfl;all_goals
   generalize rE _ t.w=R at*;go_enter Tryz.func141,Tryz.ntmps141;go_wp2_with fail;all_goals
    go_ret;rw[HR.out];refine⟨?_,aa w _⟩;refine mg ?_;simp[opsL,List.lookup,Vo,Nx,Gi,ma,ek,Bt,tZ, *]
 ·have n1:((t.w.k:Int) != 1)=true:=by simp;omega
  have n2:((t.w.k:Int) != 4)=false:=by simp;omega
  clear hk hb;rcases hlv with rfl | rfl | rfl | rfl;all_goals
   generalize rE _ t.w=R at*;go_enter Tryz.func141,Tryz.ntmps141;go_wp2_with fail;all_goals
    go_ret;rw[HR.out];refine⟨?_,aa w _⟩;refine mg ?_;simp[opsL,List.lookup,Vo,Nx,Gi,ma,ek,Bt,tZ, *]
def tF:List (List UInt8):=[[61],[60,62],[60],[60,61],[62],[62,61]]
theorem Ou {x:List UInt8} {i:Nat}(hi:i < 6):∃y,tF[i]?=some y∧((opsL 3).drop i).lookup x=if x==y then some ((10:Int)+i)else((opsL 3).drop (i+1)).lookup x:=by rcases(by omega:i=0∨i=1∨i=2∨i=3∨i=4∨i=5)with rfl | rfl | rfl | rfl | rfl | rfl <;> refine⟨_,rfl,?_⟩<;> simp[opsL,List.lookup,Vq,YY,YZ,Za,Zb,Zc] <;> split <;> simp_all
theorem Gz (t:Tok)(w:World)(hk:t.w.k=1∨t.w.k=4):
  Calls Tryz.prog 141 #[.int .i64 (3:Nat),.agg (cr t)] w (pW 3 t.w w):=by
 have HR:=hid (Jc (lv:=3) hk);obtain⟨u0,u1,u2,u3,_⟩:=bl (ag.new w 116 (cr t));have hn:(((t.w.k:Int) != 1)=false)∨((((t.w.k:Int) != 1)=true)∧(((t.w.k:Int) != 4)=false)):=by
  rcases hk with hk | hk
  ·exact .inl (by simp;omega)
  ·exact .inr ⟨by simp;omega,by simp;omega⟩
 clear hk;have b1:=ae.then (aa w (.cells (cr t) 116)) (aa _ (.cells (aV tF) 9))
 have B1:=(ag.new w 116 (cr t)).alloc (.cells (aV tF) 9);have B2:=ag.new (w.alloc (.cells (cr t) 116)) 9 (aV tF);rw[World.size_alloc] at B2;have TC:=hid B1;have Xn:=hid B2;have hb:=hid b1;clear B1 B2 b1;unfold pW;have Zq:aV tF= #[.string ⟨#[61]⟩,.string ⟨#[60,62]⟩,.string ⟨#[60]⟩,.string ⟨#[60,61]⟩,.string ⟨#[62]⟩,.string ⟨#[62,61]⟩]:=rfl;rw[Zq] at TC Xn hb;unfold cr at*;generalize rE 3 t.w=R at*;rcases hn with n1 |⟨n1,n2⟩;all_goals
  go_enter Tryz.func141,Tryz.ntmps141;go_wp2_with fail;clear u0 u1 u2 u3;generalize (w.alloc _).alloc _=W at*;go_loopw [6] (fun u wr=>∃i:Nat,i≤6∧u=.int .i64 i∧Below W.heap.size W wr∧(opsL 3).lookup t.w.s=((opsL 3).drop i).lookup t.w.s) (fun u _=>6 - (intOf u).toNat);case atStart=>exact⟨0,Nat.zero_le _,rfl,Below.refl _ _,rfl⟩
  case round=>
   obtain⟨i,hi,rfl,mD,hlk⟩:=hrel;have Cs:=hid hlk;have jx:=hid mD;clear hlk mD;by_cases hlt:i < 6
   ·obtain⟨y,hy,hstep⟩:=Ou (x:=t.w.s) hlt;have HST:=hid hstep;have c2:=(Xn.out.later jx.out).cell i;rw[← Zq,show(aV tF)[i]?=some (.string ⟨y.toArray⟩) by simp[aV,hy,strOf]] at c2;have c1:=(TC.out.later jx.out).cell 1;have Zr:i < 6:=hlt;clear hy hstep;cases he:(t.w.s==y)
    ·have HE:=hid he;have t1:(y==t.w.s)=false:=by rw[beq_eq_false_iff_ne] at he ⊢;exact fun e=>he e.symm
     clear he;go_wp2_with fail;go_region;go_wp2_with fail;go_roundw;case rel=>refine⟨i+1,by omega,by go_num,jx.out.drew,?_⟩;rw[Cs.out,HST.out,HE.out];rfl
     case measure=>simp[intOf];omega
    ·have HE:=hid he;have t1:(y==t.w.s)=true:=by rw[beq_iff_eq] at he ⊢;exact he.symm
     clear he;go_wp2_with fail;go_region;go_wp2_with fail;go_ret;refine⟨?_,ae.then hb.out jx.out.drew⟩;rw[HR.out,Cs.out,HST.out,HE.out];refine mg ?_;rcases(by omega:i=0∨i=1∨i=2∨i=3∨i=4∨i=5)with rfl | rfl | rfl | rfl | rfl | rfl <;> rfl
   ·obtain rfl:i=6:=by omega
    go_wp2_with fail;go_ret;rw[HR.out,Cs.out];exact⟨rfl,ae.then hb.out jx.out⟩
theorem GA (lv:Nat)(hlv:lv=0∨lv=1∨lv=3∨lv=4∨lv=5)(t:Tok)(w:World):
  Calls Tryz.prog 141 #[.int .i64 lv,.agg (cr t)] w (pW lv t.w w):=by
 by_cases hk:t.w.k=1∨t.w.k=4
 ·rcases hlv with rfl | rfl | rfl | rfl | rfl
  ·exact mm 0 (by simp) t w hk
  ·exact mm 1 (by simp) t w hk
  ·exact Gz t w hk
  ·exact mm 4 (by simp) t w hk
  ·exact mm 5 (by simp) t w hk
 ·have hb:=aa w (.cells (cr t) 116);obtain⟨u0,u1,u2,u3,_⟩:=bl (ag.new w 116 (cr t));unfold pW;unfold cr at*;have HR:=hid (VG (lv:=lv) (fun e=>hk (.inl e)) (fun e=>hk (.inr e)));generalize rE lv t.w=R at*;have n1:((t.w.k:Int) != 1)=true:=by simp;omega
  have n2:((t.w.k:Int) != 4)=true:=by simp;omega
  go_enter Tryz.func141,Tryz.ntmps141;go_wp2_with fail;go_ret;rw[HR.out];exact⟨rfl,hb⟩
def dS (ρ:cB)(W:World)(big:Bool)(p:Ps Tr)(σ:aH)(e:Ending)(w':World):Prop:=∃t y,e=.returned (ji y)∧Tr.at_ w' (gK W.heap.size w') t y∧dH ρ W w' (af p σ) big∧au p σ t
def qq (ρ:cB)(m:Nat):Prop:=∀(lv:Nat) (z:Int) (σ:aH) (W:World) (big:Bool),z=lv→lv≤7→8*σ.left+(7 - lv)< m→ρ.at W σ big→Calls Tryz.prog 133 #[ρ.ptr,.int .i64 z] W (dS ρ W big (aq lv) σ)
def jn:Obj:=.cells #[.int .u8 0,.int .u8 0,.int .i64 0,.string ⟨#[]⟩,.string ⟨#[]⟩,.int .i64 0,.slice none 0 0] 34
theorem aS {w:World} {q:Nat} {y:Ex}(h:ag w q 34 (cW y).toArray):
  w.cell? ⟨q,0,none⟩=some (.int .u8 y.op)∧w.cell? ⟨q,1,none⟩=some (.int .u8 y.v.k)∧w.cell? ⟨q,2,none⟩=some (.int .i64 y.v.n)∧w.cell? ⟨q,3,none⟩=some (.string y.v.s)∧w.cell? ⟨q,4,none⟩=some (.string y.name)∧w.cell? ⟨q,5,none⟩=some (.int .i64 y.width)∧w.cell? ⟨q,6,none⟩=some (.slice y.A y.n y.c):=
 ⟨h.cell 0,h.cell 1,h.cell 2,h.cell 3,h.cell 4,h.cell 5,h.cell 6⟩
theorem aF {w:World} {q:Nat} {T:TypeId} {a b c d e f g:Value}(h:ag w q T #[a,b,c,d,e,f,g]):
  w.cell? ⟨q,0,none⟩=some a∧w.cell? ⟨q,1,none⟩=some b∧w.cell? ⟨q,2,none⟩=some c∧w.cell? ⟨q,3,none⟩=some d∧w.cell? ⟨q,4,none⟩=some e∧w.cell? ⟨q,5,none⟩=some f∧w.cell? ⟨q,6,none⟩=some g:=
 ⟨h.cell 0,h.cell 1,h.cell 2,h.cell 3,h.cell 4,h.cell 5,h.cell 6⟩
theorem bA {w:World} {q:Nat} {cs:Array Value}(h:ag w q 34 cs):
  w.frozen? ⟨q,0,none⟩=false∧w.frozen? ⟨q,1,none⟩=false∧w.frozen? ⟨q,2,none⟩=false∧w.frozen? ⟨q,3,none⟩=false∧w.frozen? ⟨q,4,none⟩=false∧w.frozen? ⟨q,5,none⟩=false∧w.frozen? ⟨q,6,none⟩=false:=
 ⟨h.frozen 0,h.frozen 1,h.frozen 2,h.frozen 3,h.frozen 4,h.frozen 5,h.frozen 6⟩
def cz (w:World)(q:Nat)(y:Ex):World:=((((((w.setCell ⟨q,0,none⟩ (.int .u8 y.op)).setCell ⟨q,1,none⟩ (.int .u8 y.v.k)).setCell ⟨q,2,none⟩ (.int .i64 y.v.n)).setCell ⟨q,3,none⟩ (.string y.v.s)).setCell ⟨q,4,none⟩ (.string y.name)).setCell ⟨q,5,none⟩ (.int .i64 y.width)).setCell ⟨q,6,none⟩ (.slice y.A y.n y.c)
theorem bI {w:World} {q:Nat} {T:TypeId} {a b c d e f g:Value}(h:ag w q T #[a,b,c,d,e,f,g])(y:Ex):ag (cz w q y) q T (cW y).toArray:=by have:=((((((h.cA 0 (.int .u8 y.op)).cA 1 (.int .u8 y.v.k)).cA 2 (.int .i64 y.v.n)).cA 3 (.string y.v.s)).cA 4 (.string y.name)).cA 5 (.int .i64 y.width)).cA 6 (.slice y.A y.n y.c);simp only[List.setIfInBounds_toArray,List.set_cons_zero,List.set_cons_succ] at this;exact this
theorem Ao {w:World} {q p:Nat} {T:TypeId} {cs:Array Value}(h:ag w p T cs)(hp:p≠q)(y:Ex):ag (cz w q y) p T cs:=
 ((((((h.far (p:=⟨q,0,none⟩) hp _).far (p:=⟨q,1,none⟩) hp _).far (p:=⟨q,2,none⟩) hp _).far (p:=⟨q,3,none⟩) hp _).far (p:=⟨q,4,none⟩) hp _).far (p:=⟨q,5,none⟩) hp _).far (p:=⟨q,6,none⟩) hp _
theorem dH.cz {ρ:cB} {W w:World} {σ:aH} {big:Bool} {q:Nat}(h:dH ρ W w σ big)(hW:ρ.g < W.heap.size)(hq:W.heap.size≤q)(y:Ex):dH ρ W (cz w q y) σ big:=
 ((((((h.far hW hq 0 _).far hW hq 1 _).far hW hq 2 _).far hW hq 3 _).far hW hq 4 _).far hW hq 5 _).far hW hq 6 _
theorem Ov {w:World} {q:Nat} {S:World→Nat→Prop}(hs:∀(w:World) (i:Nat) (u:Value),∀b,S w b→(∀o,(w.setCell ⟨q,i,none⟩ u).cell? ⟨b,o,none⟩=w.cell? ⟨b,o,none⟩)∧S (w.setCell ⟨q,i,none⟩ u) b)(y:Ex):∀b,S w b→(∀o,(Go.Proofs.YtfmbcoeallmnnaaGreatDoor.R.cz w q y).cell? ⟨b,o,none⟩=w.cell? ⟨b,o,none⟩)∧S (Go.Proofs.YtfmbcoeallmnnaaGreatDoor.R.cz w q y) b:=by intro b hb;obtain⟨c0,s0⟩:=hs w 0 (.int .u8 y.op) b hb;obtain⟨c1,s1⟩:=hs _ 1 (.int .u8 y.v.k) b s0;obtain⟨c2,s2⟩:=hs _ 2 (.int .i64 y.v.n) b s1;obtain⟨c3,s3⟩:=hs _ 3 (.string y.v.s) b s2;obtain⟨c4,s4⟩:=hs _ 4 (.string y.name) b s3;obtain⟨c5,s5⟩:=hs _ 5 (.int .i64 y.width) b s4;obtain⟨c6,s6⟩:=hs _ 6 (.slice y.A y.n y.c) b s5;exact⟨fun o=>(c6 o).trans ((c5 o).trans ((c4 o).trans ((c3 o).trans ((c2 o).trans ((c1 o).trans (c0 o)))))),s6⟩
theorem Tr.at_.cz {B q:Nat} {w:World} {t:Tr} {y:Ex}(h:t.at_ w (gK B w) y)(hq:q < B)(z:Ex):t.at_ (cz w q z) (gK B (Go.Proofs.YtfmbcoeallmnnaaGreatDoor.R.cz w q z)) y:=Tr.at_.keep (Ov (S:=fun w=>gK B w) (fun w i u=>kN hq i u) z) t y h
theorem bu {ρ:cB} {w W:World} {big:Bool} {p:Ps Tr} {σ:aH} {q:Nat} {t:Tr} {y:Ex}(hg:ρ.g < w.heap.size)(hq:w.heap.size≤q)(hd:dH ρ w W (af p σ) big)(ht:t.at_ W (gK (q+1) W) y)(hv:au p σ t):dS ρ w big p σ (.returned (ji y)) (cz W q y):=
 ⟨t,y,rfl,(ht.cz (Nat.lt_succ_self q) y).more (by omega),hd.cz hg hq y,hv⟩
theorem VH (ρ:cB)(w:World)(σ:aH)(big:Bool)(h:ρ.at w σ big)(IH:qq ρ (8*σ.left+5)):
  Calls Tryz.prog 133 #[ρ.ptr,.int .i64 2] w (dS ρ w big (aq 2) σ):=by
 have dh:=h.rP;have hb:=aa w jn;have h0:=h.later hb;have hm:=df ρ _ σ big h0 ⟨#[110,111,116]⟩;have HQ:=hid (ag.new w 34 #[.int .u8 0,.int .u8 0,.int .i64 0,.string ⟨#[]⟩,.string ⟨#[]⟩,.int .i64 0,.slice none 0 0]);have hsz:(w.alloc jn).heap.size=w.heap.size+1:=by simp
 unfold jn at*;rw[Rn];cases hh:σ.head lY
 ·rw[show σ.head (⟨#[110,111,116]⟩:ByteArray).data.toList=false from hh,aw (s:=(⟨#[110,111,116]⟩:ByteArray).data.toList) hh] at hm;have xY:=hid hh;clear hh;go_enter Tryz.func133,Tryz.ntmps133;go_wp2_with (first
   |(go_at_call 74;refine hm.mono ?_;rintro e w1 ⟨rfl,d1⟩)
   |(go_at_call 133;refine(IH 3 _ σ w1 big rfl (by omega) (by omega) d1.at_).mono ?_;rintro e w2 ⟨t,y,rfl,ht,d2,fP⟩;unfold ji cW;have D:=(dH.bP h hb).trans (d1.trans d2);have BN:=d2.blk (d1.blk HQ.out (by omega)) (by omega);have Zs:=d2.size;have VI:=d1.size;have gU:=BN.alloc (.cells #[.int .u8 y.op,.int .u8 y.v.k,.int .i64 y.v.n,.string y.v.s,.string y.name,.int .i64 y.width,.slice y.A y.n y.c] 34);obtain⟨z0,z1,z2,z3,z4,z5,z6⟩:=bA gU;obtain⟨y0,y1,y2,y3,y4,y5,y6⟩:=aF gU;obtain⟨x0,x1,x2,x3,x4,x5,x6⟩:=aS (ag.new w2 34 (cW y).toArray);unfold cW at x0 x1 x2 x3 x4 x5 x6))
  have HP:=bI gU y;have HR:=aS HP;unfold cz at HR;obtain⟨r0,r1,r2,r3,r4,r5,r6⟩:=HR;refine bodyPost_ret (v:=ji y) ?_ rfl ?_
  ·simp[results,Tryz.results133,go_sem,r0,r1,r2,r3,r4,r5,r6];rfl
  ·refine bu dh (Nat.le_refl _) ?_ ((ht.later (aa w2 _)).more (by omega)) (pB xY.out fP);rw[qJ xY.out];exact D.later (aa w2 _)
 ·rw[show σ.head (⟨#[110,111,116]⟩:ByteArray).data.toList=true from hh,aB (s:=(⟨#[110,111,116]⟩:ByteArray).data.toList) hh] at hm;have xY:=hid hh;obtain⟨l1,l2,l3⟩:=jD hh;clear hh;go_enter Tryz.func133,Tryz.ntmps133;go_wp2_with (first
   |(go_at_call 74;refine hm.mono ?_;rintro e w1 ⟨rfl,d1⟩)
   |(go_at_call 133;refine(IH 2 _ _ w1 big rfl (by omega) (by omega) d1.at_).mono ?_;rintro e w2 ⟨t,y,rfl,ht,d2,fP⟩;unfold ji cW;have D:=(dH.bP h hb).trans (d1.trans d2);have BN:=d2.blk (d1.blk HQ.out (by omega)) (by omega);have Zs:=d2.size;have VI:=d1.size;have gU:=BN.alloc (.cells #[.int .u8 y.op,.int .u8 y.v.k,.int .i64 y.v.n,.string y.v.s,.string y.name,.int .i64 y.width,.slice y.A y.n y.c] 34);obtain⟨z0,z1,z2,z3,z4,z5,z6⟩:=bA gU;obtain⟨y0,y1,y2,y3,y4,y5,y6⟩:=aF gU))
  have HP:=bI gU (xN 4 w2.heap.size 1);have HR:=aS HP;unfold cz xN jk at HR;obtain⟨r0,r1,r2,r3,r4,r5,r6⟩:=HR;refine bodyPost_ret (v:=ji (xN 4 w2.heap.size 1)) ?_ rfl ?_
  ·simp[results,Tryz.results133,go_sem,r0,r1,r2,r3,r4,r5,r6];rfl
  ·refine bu dh (Nat.le_refl _) ?_ (BJ 4 (ag.new w2 34 (cW y).toArray) ⟨by omega,by simp⟩ ((ht.later (aa w2 _)).more (by omega))) (qK xY.out fP);rw[tu xY.out];exact D.later (aa w2 _)
theorem VJ (ρ:cB)(w:World)(σ:aH)(big:Bool)(h:ρ.at w σ big)(IH:qq ρ (8*σ.left+1)):
  Calls Tryz.prog 133 #[ρ.ptr,.int .i64 6] w (dS ρ w big (aq 6) σ):=by
 have dh:=h.rP;have hb:=aa w jn;have h0:=h.later hb;have hm:=df ρ _ σ big h0 ⟨#[45]⟩;have HQ:=hid (ag.new w 34 #[.int .u8 0,.int .u8 0,.int .i64 0,.string ⟨#[]⟩,.string ⟨#[]⟩,.int .i64 0,.slice none 0 0]);have hsz:(w.alloc jn).heap.size=w.heap.size+1:=by simp
 unfold jn at*;rw[Rs];cases hh:σ.head ma
 ·rw[show σ.head (⟨#[45]⟩:ByteArray).data.toList=false from hh,aw (s:=(⟨#[45]⟩:ByteArray).data.toList) hh] at hm;have xY:=hid hh;clear hh;go_enter Tryz.func133,Tryz.ntmps133;go_wp2_with (first
   |(go_at_call 74;refine hm.mono ?_;rintro e w1 ⟨rfl,d1⟩)
   |(go_at_call 133;refine(IH 7 _ σ w1 big rfl (by omega) (by omega) d1.at_).mono ?_;rintro e w2 ⟨t,y,rfl,ht,d2,fP⟩;unfold ji cW;have D:=(dH.bP h hb).trans (d1.trans d2);have BN:=d2.blk (d1.blk HQ.out (by omega)) (by omega);have Zs:=d2.size;have VI:=d1.size;have gU:=BN.alloc (.cells #[.int .u8 y.op,.int .u8 y.v.k,.int .i64 y.v.n,.string y.v.s,.string y.name,.int .i64 y.width,.slice y.A y.n y.c] 34);obtain⟨z0,z1,z2,z3,z4,z5,z6⟩:=bA gU;obtain⟨y0,y1,y2,y3,y4,y5,y6⟩:=aF gU;obtain⟨x0,x1,x2,x3,x4,x5,x6⟩:=aS (ag.new w2 34 (cW y).toArray);unfold cW at x0 x1 x2 x3 x4 x5 x6))
  have HP:=bI gU y;have HR:=aS HP;unfold cz at HR;obtain⟨r0,r1,r2,r3,r4,r5,r6⟩:=HR;refine bodyPost_ret (v:=ji y) ?_ rfl ?_
  ·simp[results,Tryz.results133,go_sem,r0,r1,r2,r3,r4,r5,r6];rfl
  ·refine bu dh (Nat.le_refl _) ?_ ((ht.later (aa w2 _)).more (by omega)) (pB xY.out fP);rw[qJ xY.out];exact D.later (aa w2 _)
 ·rw[show σ.head (⟨#[45]⟩:ByteArray).data.toList=true from hh,aB (s:=(⟨#[45]⟩:ByteArray).data.toList) hh] at hm;have xY:=hid hh;obtain⟨l1,l2,l3⟩:=jD hh;clear hh;go_enter Tryz.func133,Tryz.ntmps133;go_wp2_with (first
   |(go_at_call 74;refine hm.mono ?_;rintro e w1 ⟨rfl,d1⟩)
   |(go_at_call 133;refine(IH 6 _ _ w1 big rfl (by omega) (by omega) d1.at_).mono ?_;rintro e w2 ⟨t,y,rfl,ht,d2,fP⟩;unfold ji cW;have D:=(dH.bP h hb).trans (d1.trans d2);have BN:=d2.blk (d1.blk HQ.out (by omega)) (by omega);have Zs:=d2.size;have VI:=d1.size;have gU:=BN.alloc (.cells #[.int .u8 y.op,.int .u8 y.v.k,.int .i64 y.v.n,.string y.v.s,.string y.name,.int .i64 y.width,.slice y.A y.n y.c] 34);obtain⟨z0,z1,z2,z3,z4,z5,z6⟩:=bA gU;obtain⟨y0,y1,y2,y3,y4,y5,y6⟩:=aF gU))
  have HP:=bI gU (xN 3 w2.heap.size 1);have HR:=aS HP;unfold cz xN jk at HR;obtain⟨r0,r1,r2,r3,r4,r5,r6⟩:=HR;refine bodyPost_ret (v:=ji (xN 3 w2.heap.size 1)) ?_ rfl ?_
  ·simp[results,Tryz.results133,go_sem,r0,r1,r2,r3,r4,r5,r6];rfl
  ·refine bu dh (Nat.le_refl _) ?_ (BJ 3 (ag.new w2 34 (cW y).toArray) ⟨by omega,by simp⟩ ((ht.later (aa w2 _)).more (by omega))) (qK xY.out fP);rw[tu xY.out];exact D.later (aa w2 _)
theorem ya {lv:Nat}(h:lv=0∨lv=1∨lv=4∨lv=5):aq lv=mb (aq (lv+1)) lv:=by
 rcases h with rfl | rfl | rfl | rfl
 ·exact Rl
 ·exact Rm
 ·exact Rp
 ·exact Rq
theorem Ed {lv:Nat} {l:fN} {o:Int}(h:ix (opsL lv) l=some o):5≤o∧o≤17∧∃s,bV s l=true:=by
 obtain⟨s,h1,h2⟩:=gS h;refine⟨?_,?_,s,h2⟩
 ·match lv,h1 with
  | 0,h1=>simp[opsL] at h1;omega
  | 1,h1=>simp[opsL] at h1;omega
  | 2,h1=>simp[opsL] at h1
  | 3,h1=>simp[opsL] at h1;omega
  | 4,h1=>simp[opsL] at h1;omega
  | 5,h1=>simp[opsL] at h1;omega
  | _+6,h1=>simp[opsL] at h1
 ·match lv,h1 with
  | 0,h1=>simp[opsL] at h1;omega
  | 1,h1=>simp[opsL] at h1;omega
  | 2,h1=>simp[opsL] at h1
  | 3,h1=>simp[opsL] at h1;omega
  | 4,h1=>simp[opsL] at h1;omega
  | 5,h1=>simp[opsL] at h1;omega
  | _+6,h1=>simp[opsL] at h1
structure kx (lv:Nat) (σ:aH) (x:Tr) (bB:aH):Prop where
 step:af (aq lv) σ=af (qI (aq (lv+1)) lv x) bB
 gives:∀z,au (qI (aq (lv+1)) lv x) bB z→au (aq lv) σ z
section
variable {lv:Nat} {σ bB:aH} {x y:Tr} {o:Int}
theorem kx.start (hlv:lv=0∨lv=1∨lv=4∨lv=5)(h:au (aq (lv+1)) σ x):kx lv σ x (af (aq (lv+1)) σ):=by
 refine⟨?_,fun z hz=>?_⟩
 ·rw[ya hlv,IP];exact az h
 ·rw[ya hlv,IP];exact aj h hz
theorem kx.go (k:kx lv σ x bB)(h:bB.op lv=some o)(hy:au (aq (lv+1)) (.good bB.words.tail) y):kx lv σ (gZ o [x,y]) (af (aq (lv+1)) (.good bB.words.tail)):=by
 refine⟨?_,fun z hz=>k.gives z ?_⟩
 ·rw[k.step,Aj (dr _),h];exact az hy
 ·exact vy (dr _) lv x z o bB h (aj hy hz)
theorem kx.done (k:kx lv σ x bB)(h:bB.op lv=none):af (aq lv) σ=bB∧au (aq lv) σ x:=by refine⟨?_,k.gives x (vx (dr _) lv x bB h)⟩;rw[k.step,Aj (dr _),h]
theorem GC (lv n:Nat):(aH.bad n).op lv=none:=lI _
end
theorem GD {lv:Nat} {t:Wd} {r:fN}:rE lv t=((aH.good (t::r)).op lv).getD 0:=by unfold rE aH.op aH.words;show _=(ix (opsL lv) (t::r)).getD 0;rw[La (opsL lv) t r]
theorem ye (lv:Nat)(z:Int)(hz:z=lv)(hlv:lv=0∨lv=1∨lv=3∨lv=4∨lv=5)(t:Tok)(w:World):
  Calls Tryz.prog 141 #[.int .i64 z,.agg #[.int .u8 t.w.k,.string ⟨t.w.s.toArray⟩,.int .i64 t.w.n,.int .i64 t.p]] w fun e w'=>e=.returned (.int .u8 (rE lv t.w))∧Below w.heap.size w w':=by
 subst hz;exact GA lv hlv t w
structure uo (ρ:cB) (w:World) (big:Bool) (lv:Nat) (σ:aH) (q qx:Nat) (wr:World) (bB:aH) (t:Tr) (y:Ex):Prop where
 did:dH ρ w wr bB big
 blk:ag wr qx 34 (cW y).toArray
 res:ag wr q 34 #[.int .u8 0,.int .u8 0,.int .i64 0,.string ⟨#[]⟩,.string ⟨#[]⟩,.int .i64 0,.slice none 0 0]
 tr:t.at_ wr (Bx (q+1) qx wr) y
 todo:kx lv σ t bB
 le:bB.left≤σ.left
def ky (y:Ex):Obj:=.cells (cW y).toArray 34
def lT (y z:Ex):Obj:=.cells (cW y++cW z).toArray 34
theorem uo.round {ρ:cB} {w wr W2 Ws w3:World} {big:Bool} {lv:Nat} {σ bB:aH} {q qx:Nat} {t' t2:Tr} {y' v2:Ex} {l:fN} {bi:Int}(dh:ρ.g < w.heap.size)(Lb:q=w.heap.size)(hqq:q+1≤qx)(A:uo ρ w big lv σ q qx wr bB t' y')(hW:Below wr.heap.size wr W2)(hst:dH ρ W2 Ws (.good l) big)(d2:dH ρ Ws w3 (af (aq (lv+1)) (.good l)) big)
  (Lc:t2.at_ w3 (gK Ws.heap.size w3) v2) (hop:bB.op lv=some bi) (hl:bB.words.tail=l) (hlen:l.length < bB.left) (fP:au (aq (lv+1)) (.good l) t2):
  uo ρ w big lv σ q qx (cz ((w3.alloc (ky v2)).alloc (lT y' v2)) qx (xN bi (w3.heap.size+1) 2)) (af (aq (lv+1)) (.good l)) (gZ bi [t',t2]) (xN bi (w3.heap.size+1) 2):=by
 have hz1:=d2.size;have hz2:=hst.size;have hz3:=hW.size;have Xo:=A.blk.lt;have GF:Below w3.heap.size w3 ((w3.alloc (ky v2)).alloc (lT y' v2)):=ae.then (aa w3 _) (aa _ _)
 have hsz:((w3.alloc (ky v2)).alloc (lT y' v2)).heap.size=w3.heap.size+2:=by simp
 have hN:ag ((w3.alloc (ky v2)).alloc (lT y' v2)) (w3.heap.size+1) 34 (cW y'++cW v2).toArray:=by have:=ag.new (w3.alloc (ky v2)) 34 (cW y'++cW v2).toArray;rw[World.size_alloc] at this;exact this
 have hX:ag ((w3.alloc (ky v2)).alloc (lT y' v2)) qx 34 (cW y').toArray:=(((A.blk.later hW).grown hst.grown (by simp;omega)).grown d2.grown (by simp;omega)).later GF;have hR:ag ((w3.alloc (ky v2)).alloc (lT y' v2)) q 34 _:=(((A.res.later hW).grown hst.grown (by simp;omega)).grown d2.grown (by simp;omega)).later GF;have hD:dH ρ w ((w3.alloc (ky v2)).alloc (lT y' v2)) (af (aq (lv+1)) (.good l)) big:=(((A.did.later hW).trans hst).trans d2).later GF;have hT:(gZ bi [t',t2]).at_ ((w3.alloc (ky v2)).alloc (lT y' v2)) (Bx (q+1) qx ((w3.alloc (ky v2)).alloc (lT y' v2))) (xN bi (w3.heap.size+1) 2):=by
  refine NP bi hN ⟨by omega,by omega,by omega⟩ ?_ ?_
  ·exact Tr.at_.keep (eI GF) _ _ (Tr.at_.keep (eH d2.grown (by omega)) _ _ (Tr.at_.keep (eH hst.grown (by omega)) _ _ (Tr.at_.keep (eI hW) _ _ A.tr)))
  ·exact Tr.at_.keep (Ty (by omega) (by omega)) _ _ (Lc.later GF)
 generalize (w3.alloc (ky v2)).alloc (lT y' v2)=W5 at*;refine⟨hD.cz dh (by omega) _,bI hX _,Ao hR (by omega) _,?_,?_,?_⟩
 ·exact Tr.at_.keep (Ov (S:=fun w=>Bx (q+1) qx w) (fun w i u=>BH i u) _) _ _ hT
 ·subst hl;exact kx.go A.todo hop fP
 ·have h5:=aH.bs (dr (lv+1)) (aH.good l);have e5:(aH.good l).left=l.length:=rfl;have:=A.le;omega
theorem vQ (ρ:cB)(w:World)(σ:aH)(big:Bool)(h:ρ.at w σ big)(lv:Nat)(z:Int)(hz:z=lv)(hlv:lv=0∨lv=1∨lv=4∨lv=5)(IH:qq ρ (8*σ.left+(7 - lv))):
  Calls Tryz.prog 133 #[ρ.ptr,.int .i64 z] w (dS ρ w big (aq lv) σ):=by
 have dh:=h.rP;have hb:=aa w jn;have h0:=h.later hb;have HQ:=hid (ag.new w 34 #[.int .u8 0,.int .u8 0,.int .i64 0,.string ⟨#[]⟩,.string ⟨#[]⟩,.int .i64 0,.slice none 0 0]);have hsz:(w.alloc jn).heap.size=w.heap.size+1:=by simp
 have hsm:=h.small;have Xp:=hid hlv;have n2:(z==2)=false:=by rw[beq_eq_false_iff_ne];omega
 have n6:(z==6)=false:=by rw[beq_eq_false_iff_ne];omega
 have n7:(z==7)=false:=by rw[beq_eq_false_iff_ne];omega
 have n3:(z==3)=false:=by rw[beq_eq_false_iff_ne];omega
 have hz5:0≤z∧z≤5:=by omega
 have HZ:=hid hz;clear hlv hz;unfold jn at*;unfold cB.ptr;go_enter Tryz.func133,Tryz.ntmps133;go_wp2_with (first
  |(go_at_call 133;refine(IH (lv+1) (z+1) σ _ big (by have:=HZ.out;omega) (by have:=Xp.out;omega) (by have:=Xp.out;omega) h0).mono ?_;rintro e w2 ⟨t,y,rfl,ht,d2,fP⟩;unfold ji cW))
 have hA:uo ρ w big lv σ w.heap.size w2.heap.size (w2.alloc (.cells #[.int .u8 y.op,.int .u8 y.v.k,.int .i64 y.v.n,.string y.v.s,.string y.name,.int .i64 y.width,.slice y.A y.n y.c] 34)) _ t y:=
  ⟨((dH.bP h hb).trans d2).later (aa _ _),ag.new w2 _ _,(d2.blk HQ.out (by omega)).alloc _,Tr.at_.keep (rB _ (by rw[hsz];exact Nat.le_refl _)) _ _ ht,kx.start Xp.out fP,aH.bs (dr _) σ⟩
 have Xq:w.heap.size+1≤w2.heap.size:=by have:=d2.size;omega
 generalize w2.alloc _=W at*;generalize w2.heap.size=qx at*;have HA:=hid hA;clear hA ht d2 fP h0 hb HQ;go_loopg [] σ.left (fun k wr=>∃bB t' y',bB.left≤k∧uo ρ w big lv σ w.heap.size qx wr bB t' y');case atStart=>exact⟨_,_,_,aH.bs (dr _) σ,HA.out⟩
 case round=>
  obtain⟨bB,t',y',hk,hA'⟩:=hrel;have GG:=hid hA';obtain⟨tk,pl,bd,hpl,hlt,Zt,mE,bh,hg,yM,rQ,hp⟩:=hA'.did.at_.nQ;have Zu:=hA'.did.at_.left;have HP:=hid hp;have Ec:=hid hpl;have HG:=hid hg;have ml:=hid bh;have c2:=hp.c2;clear hA' hpl hg bh mE HA hp;have Zv:=GG.out.blk.lt;by_cases rD:bd < 0
  ·obtain⟨l,rfl⟩:∃l,bB=.good l:=by
    match bB,ml.out with
    | .good l,_=>exact⟨l,rfl⟩
    | .bad m,bh=>simp[aH.dR] at bh;omega
   obtain⟨r,rfl⟩:=HG.out l rfl;have TE:=GD (lv:=lv) (t:=tk.w) (r:=r);have UL:=ye lv z HZ.out (by have:=Xp.out;omega) tk;have e1:(ρ.n:Int) - (aH.good (tk.w::r)).left+1=(ρ.n:Int) - r.length:=by simp only[aH.left,List.length_cons];omega
   have e2:(aH.good (tk.w::r)).left=r.length+1:=rfl;have G5:=hid e1;have Nn:=hid e2;clear e1 e2;generalize rE lv tk.w=bi at*;have Xr:=hid TE;clear TE;have k0:=fun y:Ext wr.heap.size wr=>(HP.out.later y.h).c0
   have k1:=fun y:Ext wr.heap.size wr=>(HP.out.later y.h).c1
   have m0:=fun y:Ext wr.heap.size wr=>(HP.out.later y.h).d0
   have m1:=fun y:Ext wr.heap.size wr=>(HP.out.later y.h).d1
   have m2:=fun y:Ext wr.heap.size wr=>(HP.out.later y.h).d2
   have m3:=fun y:Ext wr.heap.size wr=>(HP.out.later y.h).d3
   go_wp2_with fail;refine bD 13 wr.heap.size wr (Below.refl _ _) (by kernel_rfl) (by kernel_rfl) (by kernel_rfl) (by kernel_rfl) ?_;simp only[List.take_succ_cons,List.take_zero,List.drop_succ_cons,List.drop_zero];repeat (go_big_quiet_step (first
    |(go_at_call 141;exact aT (Nat.le_refl _) (UL _))))
   refine wpQuiet_nil ?_;rintro W2 ⟨y2,iq⟩;have hW:=y2.h;rw[← iq] at hW;clear iq y2 k0 k1 m0 m1 m2 m3 c2;cases hop:(aH.good (tk.w::r)).op lv with
   | none=>
     have e0:bi=0:=by rw[Xr.out,hop];rfl
     subst e0;obtain⟨hs1,hs2⟩:=kx.done GG.out.todo hop;have Iw:=hid hs1;have GH:=hid hs2;clear hs1 hs2 hop;have vC:=GG.out.res.later hW;have oC:=GG.out.blk.later hW;have Xo:=vC.lt;obtain⟨z0,z1,z2,z3,z4,z5,z6⟩:=bA vC;obtain⟨y0,y1,y2,y3,y4,y5,y6⟩:=aF vC;obtain⟨x0,x1,x2,x3,x4,x5,x6⟩:=aS oC;have pz:=hid vC;clear vC oC;go_wp2_with fail;have HP:=bI pz.out y';have HR:=aS HP;unfold cz at HR;obtain⟨r0,r1,r2,r3,r4,r5,r6⟩:=HR;refine bodyPost_ret (v:=ji y') ?_ rfl ?_
     ·simp[results,Tryz.results133,go_sem,r0,r1,r2,r3,r4,r5,r6];rfl
     ·refine bu dh (Nat.le_refl _) ?_ (Tr.at_.keep (lH (Nat.le_refl _)) _ _ (Tr.at_.keep (eI hW) _ _ GG.out.tr)) GH.out;rw[Iw.out];exact GG.out.did.later hW
   | some o=>
     have eo:bi=o:=by rw[Xr.out,hop];rfl
     subst eo;obtain⟨ho1,oL,s,hs⟩:=Ed hop;have Zw:tk.w.k≠0:=uS hs;have O9:=hid hop;have e0:(bi==0)=false:=by rw[beq_eq_false_iff_ne];omega
     have kI:=GG.out.did.at_.later hW;obtain⟨q0,q1,q2,q3,f1,f2,f3⟩:=kI.facts;have e1:=G5.out;have hst:=cB.at.step kI Zw;have Zr:r.length+1≤ρ.n:=by have:=kI.left;have:=Nn.out;omega
     clear hop hs kI q0 q2 q3 f2 f3;go_wp2_with (first
      |(go_at_call 133;refine(IH (lv+1) (z+1) (.good r) _ big (by have:=HZ.out;omega) (by have:=Xp.out;omega) (by have:=Xp.out;have:=GG.out.le;have:=Nn.out;have e5:(aH.good r).left=r.length:=rfl;omega) hst.at_).mono ?_;rintro e w3 ⟨t2,v2,rfl,Lc,d2,Ld⟩;unfold ji cW;have hz1:=d2.size;have hz2:=hst.size;have hz3:=hW.size;have B0:=((GG.out.blk.later hW).grown hst.grown (by simp;omega)).grown d2.grown (by simp;omega);have B1:=B0.alloc (.cells #[.int .u8 v2.op,.int .u8 v2.v.k,.int .i64 v2.v.n,.string v2.v.s,.string v2.name,.int .i64 v2.width,.slice v2.A v2.n v2.c] 34);have B2:=B1.alloc (.cells #[.int .u8 y'.op,.int .u8 y'.v.k,.int .i64 y'.v.n,.string y'.v.s,.string y'.name,.int .i64 y'.width,.slice y'.A y'.n y'.c,.int .u8 v2.op,.int .u8 v2.v.k,.int .i64 v2.v.n,.string v2.v.s,.string v2.name,.int .i64 v2.width,.slice v2.A v2.n v2.c] 34);have N1:=ag.new w3 34 (cW v2).toArray;have X1:=aS B1;have X2:=aS B2;have X3:=bA B2;have X4:=aS N1;unfold cW at X4;obtain⟨x0,x1,x2,x3,x4,x5,x6⟩:=X1;obtain⟨y0,y1,y2,y3,y4,y5,y6⟩:=X2;obtain⟨z0,z1,z2,z3,z4,z5,z6⟩:=X3;obtain⟨a0,a1,a2,a3,a4,a5,a6⟩:=X4;have Xn:=hid B2;clear B0 B1 B2 N1))
     go_roundg (r.length);case measure=>have:=Nn.out;omega
     case rel=>exact⟨_,_,_,aH.bs (dr (lv+1)) (aH.good r),uo.round dh rfl Xq GG.out hW hst d2 Lc O9.out rfl (by rw[Nn.out];exact Nat.lt_succ_self _) Ld⟩
  ·skip
   obtain⟨m,rfl⟩:∃m,bB=.bad m:=by
    match bB,ml.out with
    | .good l,bh=>simp[aH.dR] at bh;omega
    | .bad m,_=>exact⟨m,rfl⟩
   obtain⟨hs1,hs2⟩:=kx.done GG.out.todo (GC lv m);have Iw:=hid hs1;have GH:=hid hs2;clear hs1 hs2;have vC:=GG.out.res;have oC:=GG.out.blk;have Xo:=vC.lt;obtain⟨z0,z1,z2,z3,z4,z5,z6⟩:=bA vC;obtain⟨y0,y1,y2,y3,y4,y5,y6⟩:=aF vC;obtain⟨x0,x1,x2,x3,x4,x5,x6⟩:=aS oC;have pz:=hid vC;clear vC oC;go_wp2_with fail;have HP:=bI pz.out y';have HR:=aS HP;unfold cz at HR;obtain⟨r0,r1,r2,r3,r4,r5,r6⟩:=HR;refine bodyPost_ret (v:=ji y') ?_ rfl ?_
   ·simp[results,Tryz.results133,go_sem,r0,r1,r2,r3,r4,r5,r6];rfl
   ·refine bu dh (Nat.le_refl _) ?_ (Tr.at_.keep (lH (Nat.le_refl _)) _ _ GG.out.tr) GH.out;rw[Iw.out];exact GG.out.did
def GI (x:Tr):Ps Tr:=do
 if ← may qp then
  let n ← may lY
  must fG
  return gZ (if n then 19 else 18) [x]
 else ub (aq 4) x
structure jq (σ:aH) (x:Tr) (bB:aH):Prop where
 step:af (aq 3) σ=af (GI x) bB
 gives:∀z,au (GI x) bB z→au (aq 3) σ z
section
variable {σ bB:aH} {x y:Tr} {o:Int}
theorem jq.start (h:au (aq 4) σ x):jq σ x (af (aq 4) σ):=by
 have e:aq 3=(do let x ← aq 4;GI x):=by rw[Ro];rfl
 refine⟨?_,fun z hz=>?_⟩
 ·rw[e];exact az h
 ·rw[e];exact aj h hz
theorem jq.null (k:jq σ x bB)(h:bB.head qp=true):af (aq 3) σ=af (must fG) (af (may lY) (.good bB.words.tail))∧au (aq 3) σ (gZ (if (aH.good bB.words.tail).head lY then 19 else 18) [x]):=by
 constructor
 ·rw[k.step];unfold GI;rw[az (aI qp bB),h,aB h];simp only[if_true];rw[az (aI lY _)];rw[az (bM _ _)];exact bz _ _
 ·refine k.gives _ ?_;refine aj (aI qp bB) ?_;rw[h,aB h];refine aj (aI lY _) ?_;exact aj (bM _ _) (aW _ _)
theorem yf (h:bB.head qp=false):af (GI x) bB=af (ub (aq 4) x) bB∧∀z,au (ub (aq 4) x) bB z→au (GI x) bB z:=by
 constructor
 ·unfold GI;rw[az (aI qp bB),h,aw h];rfl
 ·intro z hz;refine aj (aI qp bB) ?_;rw[h,aw h];exact hz
theorem jq.none_ (k:jq σ x bB)(h:bB.head qp=false)(ho:bB.op 3=none):af (aq 3) σ=bB∧au (aq 3) σ x:=by
 obtain⟨h1,h2⟩:=yf (x:=x) h;rw[k.step,h1]
 match bB,ho with
 | .bad n,_=>exact⟨rfl,k.gives _ trivial⟩
 | .good l,ho=>have ho:ix (opsL 3) l=none:=ho;refine⟨by simp only[af,ub,ho],k.gives _ (h2 _ ?_)⟩;simp only[au,ub,ho]
theorem jq.some_ (k:jq σ x bB)(h:bB.head qp=false)(ho:bB.op 3=some o)(hy:au (aq 4) (.good bB.words.tail) y):af (aq 3) σ=af (aq 4) (.good bB.words.tail)∧au (aq 3) σ (gZ o [x,y]):=by
 obtain⟨h1,h2⟩:=yf (x:=x) h;rw[k.step,h1]
 match bB,ho with
 | .bad n,ho=>simp[aH.op,aH.words,lI] at ho
 | .good l,ho=>
   have ho:ix (opsL 3) l=some o:=ho;refine⟨?_,k.gives _ (h2 _ ?_)⟩
   ·simp only[af,ub,ho,ep,aH.words];cases aq 4 l.tail with
    | error n=>rfl
    | ok y=>rfl
   ·simp only[aH.words,au] at hy;simp only[au,ub,ho,ep];cases e:aq 4 l.tail with
    | error n=>trivial
    | ok y=>rw[e] at hy;simp only at hy;subst hy;rfl
end
structure qL (ρ:cB) (w:World) (big:Bool) (σ:aH) (q qx:Nat) (wr:World) (bB:aH) (t:Tr) (y:Ex):Prop where
 did:dH ρ w wr bB big
 blk:ag wr qx 34 (cW y).toArray
 res:ag wr q 34 #[.int .u8 0,.int .u8 0,.int .i64 0,.string ⟨#[]⟩,.string ⟨#[]⟩,.int .i64 0,.slice none 0 0]
 tr:t.at_ wr (Bx (q+1) qx wr) y
 todo:jq σ t bB
 le:bB.left≤σ.left
theorem qL.more {ρ:cB} {w wr W2:World} {big:Bool} {σ bB:aH} {q qx:Nat} {t':Tr} {y':Ex}(A:qL ρ w big σ q qx wr bB t' y')(d:dH ρ wr W2 bB big)(dh:ρ.g < q)(hqq:q≤qx):qL ρ w big σ q qx W2 bB t' y':=
 ⟨A.did.trans d,d.blk A.blk (by omega),d.blk A.res (by omega),Tr.at_.keep (eH d.grown (by omega)) _ _ A.tr,A.todo,A.le⟩
structure VK (ρ:cB) (w:World) (big:Bool) (σ:aH) (q qx:Nat) (W:World) (t:Tr) (y:Ex):Prop where
 did:dH ρ w W (af (aq 3) σ) big
 blk:ag W qx 34 (cW y).toArray
 res:ag W q 34 #[.int .u8 0,.int .u8 0,.int .i64 0,.string ⟨#[]⟩,.string ⟨#[]⟩,.int .i64 0,.slice none 0 0]
 tr:t.at_ W (gK (q+1) W) y
 gives:au (aq 3) σ t
theorem qL.round {ρ:cB} {w wr W2 Ws w3:World} {big:Bool} {σ bB:aH} {q qx:Nat} {t' t2:Tr} {y' v2:Ex} {l:fN} {bi:Int}(dh:ρ.g < w.heap.size)(Lb:q=w.heap.size)(hqq:q+1≤qx)(A:qL ρ w big σ q qx wr bB t' y')(hW:Below wr.heap.size wr W2)(hst:dH ρ W2 Ws (.good l) big)(d2:dH ρ Ws w3 (af (aq 4) (.good l)) big)
  (Lc:t2.at_ w3 (gK Ws.heap.size w3) v2) (qm:bB.head qp=false) (hop:bB.op 3=some bi) (hl:bB.words.tail=l) (fP:au (aq 4) (.good l) t2):
  VK ρ w big σ q qx (cz ((w3.alloc (ky v2)).alloc (lT y' v2)) qx (xN bi (w3.heap.size+1) 2)) (gZ bi [t',t2]) (xN bi (w3.heap.size+1) 2):=by
 have hz1:=d2.size;have hz2:=hst.size;have hz3:=hW.size;have Xo:=A.blk.lt;have GF:Below w3.heap.size w3 ((w3.alloc (ky v2)).alloc (lT y' v2)):=ae.then (aa w3 _) (aa _ _)
 have hsz:((w3.alloc (ky v2)).alloc (lT y' v2)).heap.size=w3.heap.size+2:=by simp
 have hN:ag ((w3.alloc (ky v2)).alloc (lT y' v2)) (w3.heap.size+1) 34 (cW y'++cW v2).toArray:=by have:=ag.new (w3.alloc (ky v2)) 34 (cW y'++cW v2).toArray;rw[World.size_alloc] at this;exact this
 have hX:ag ((w3.alloc (ky v2)).alloc (lT y' v2)) qx 34 (cW y').toArray:=(((A.blk.later hW).grown hst.grown (by simp;omega)).grown d2.grown (by simp;omega)).later GF;have hR:ag ((w3.alloc (ky v2)).alloc (lT y' v2)) q 34 _:=(((A.res.later hW).grown hst.grown (by simp;omega)).grown d2.grown (by simp;omega)).later GF;have hD:dH ρ w ((w3.alloc (ky v2)).alloc (lT y' v2)) (af (aq 4) (.good l)) big:=(((A.did.later hW).trans hst).trans d2).later GF;have hT:(gZ bi [t',t2]).at_ ((w3.alloc (ky v2)).alloc (lT y' v2)) (Bx (q+1) qx ((w3.alloc (ky v2)).alloc (lT y' v2))) (xN bi (w3.heap.size+1) 2):=by
  refine NP bi hN ⟨by omega,by omega,by omega⟩ ?_ ?_
  ·exact Tr.at_.keep (eI GF) _ _ (Tr.at_.keep (eH d2.grown (by omega)) _ _ (Tr.at_.keep (eH hst.grown (by omega)) _ _ (Tr.at_.keep (eI hW) _ _ A.tr)))
  ·exact Tr.at_.keep (Ty (by omega) (by omega)) _ _ (Lc.later GF)
 obtain⟨e1,e2⟩:=jq.some_ A.todo qm hop (y:=t2) (by rw[hl];exact fP);rw[hl] at e1;rw[← e1] at hD;generalize (w3.alloc (ky v2)).alloc (lT y' v2)=W5 at*;refine⟨hD.cz dh (by omega) _,bI hX _,Ao hR (by omega) _,?_,e2⟩;exact Tr.at_.keep (lH (Nat.le_refl _)) _ _ (Tr.at_.keep (Ov (S:=fun w=>Bx (q+1) qx w) (fun w i u=>BH i u) _) _ _ hT)
theorem Ow (n:Nat):af (aq 7) (.bad n)=.bad n:=rfl
section
variable {t:Wd} {r:fN} {x:Tr}
theorem yg {p:Ps Tr}(h:p (t::r)=.ok (x,r)):af p (.good (t::r))=.good r∧au p (.good (t::r)) x:=⟨BK h,NQ h⟩
theorem Ee (h:t.k=2):af (aq 7) (.good (t::r))=.good r∧au (aq 7) (.good (t::r)) (iH ⟨2,t.n,ByteArray.empty⟩):=yg (by rw[nO];simp only[kF,h,if_true])
theorem Ap (h:t.k=3):af (aq 7) (.good (t::r))=.good r∧au (aq 7) (.good (t::r)) (iH ⟨3,0,⟨t.s.toArray⟩⟩):=yg (by rw[nO];simp[kF,h])
structure Plain (t:Wd):Prop where
 i:t.k≠2
 s:t.k≠3
theorem Aq (hp:Plain t)(h:lR kq t=true):af (aq 7) (.good (t::r))=.good r∧au (aq 7) (.good (t::r)) (iH ⟨1,1,ByteArray.empty⟩):=yg (by rw[nO];simp only[kF,hp.i,hp.s,h,if_true,if_false])
theorem yh (hp:Plain t)(h1:lR kq t=false)(h:lR jL t=true):af (aq 7) (.good (t::r))=.good r∧au (aq 7) (.good (t::r)) (iH ⟨1,0,ByteArray.empty⟩):=yg (by rw[nO];simp[kF,hp.i,hp.s,h1,h])
theorem Ar (hp:Plain t)(h1:lR kq t=false)(h2:lR jL t=false)(h:lR fG t=true):af (aq 7) (.good (t::r))=.good r∧au (aq 7) (.good (t::r)) (iH fu):=yg (by rw[nO];simp[kF,hp.i,hp.s,h1,h2,h])
theorem Le (hp:Plain t)(h1:lR kq t=false)(h2:lR jL t=false)(h3:lR fG t=false)(h:lR cp t=true)(hx:au (aq 0) (.good r) x):
  af (aq 7) (.good (t::r))=af (must aP) (af (aq 0) (.good r))∧au (aq 7) (.good (t::r)) x:=by
 have e:aq 7 (t::r)=(do let x ← aq 0;must aP;return x:Ps Tr) r:=by rw[nO];simp[kF,hp.i,hp.s,h1,h2,h3,h]
 have e2:∀τ,af (aq 7) (.good (t::r))=τ↔af (do let x ← aq 0;must aP;return x:Ps Tr) (.good r)=τ:=fun τ=>by simp only[af,e]
 constructor
 ·rw[e2];rw[az hx,az (bM _ _)];exact bz _ _
 ·have:au (do let x ← aq 0;must aP;return x:Ps Tr) (.good r) x:=aj hx (aj (bM _ _) (aW _ _));simp only[au,e] at this ⊢;exact this
def iI (n:ByteArray):Ps Tr:=fun l=>if bV cp l then(match fO n with
 | none=> .error l.length
 | some op=>jh (aq 0) op l.tail)else .ok (eF n,l)
structure Au (t:Wd):Prop where
 p:Plain t
 wt:lR kq t=false
 wf:lR jL t=false
 wn:lR fG t=false
 wo:lR cp t=false
theorem nR {n:ByteArray}(h:Au t)(hn:au bL (.good (t::r)) n):af (aq 7) (.good (t::r))=af (iI n) (af bL (.good (t::r)))∧∀z,au (iI n) (af bL (.good (t::r))) z→au (aq 7) (.good (t::r)) z:=by
 have e:aq 7 (t::r)=(bL >>= iI) (t::r):=by rw[nO];simp[kF,h.p.i,h.p.s,h.wt,h.wf,h.wn,h.wo];rfl
 constructor
 ·have:af (aq 7) (.good (t::r))=af (bL >>= iI) (.good (t::r)):=by simp only[af,e]
  rw[this];exact az hn
 ·intro z hz;have:au (bL >>= iI) (.good (t::r)) z:=aj hn hz;simp only[au,e] at this ⊢;exact this
end
section
variable {n:ByteArray} {σ:aH} {z:Tr} {op:Int}
theorem Lf (h:σ.head cp=false):af (iI n) σ=σ∧au (iI n) σ (eF n):=by
 match σ,h with
 | .bad m,_=>exact⟨rfl,trivial⟩
 | .good l,h=>
   have h:bV cp l=false:=h;constructor
   ·simp[af,iI,h]
   ·simp[au,iI,h]
theorem GJ (h:σ.head cp=true)(hf:fO n=none):af (iI n) σ=.bad σ.left:=by obtain⟨t,r,rfl,ht⟩:=pS h;have h:bV cp (t::r)=true:=h;simp[af,iI,h,hf,aH.left]
theorem yi (h:σ.head cp=true)(hf:fO n=some op):af (iI n) σ=af (jh (aq 0) op) (.good σ.words.tail)∧∀z,au (jh (aq 0) op) (.good σ.words.tail) z→au (iI n) σ z:=by
 obtain⟨t,r,rfl,ht⟩:=pS h;have h:bV cp (t::r)=true:=h;constructor
 ·simp[af,iI,h,hf,aH.words]
 ·intro z hz;simp only[au,aH.words,List.tail_cons] at hz;simp only[au,iI,h,hf,if_true,List.tail_cons];exact hz
end
end Go.Proofs.YtfmbcoeallmnnaaGreatDoor.R
