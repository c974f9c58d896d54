/- Parts of the proof. -/
import Derived.Test.YtfmbcoeallmnnaaGreatDoorC25
namespace Go.Proofs.YtfmbcoeallmnnaaGreatDoor.R
open Go.Lib (hid)
open Go.ChangeShapes Go.WideShapes Go.ChangeAt Go.RowKit
set_option linter.unusedVariables false
set_option linter.unusedSimpArgs false
def qz (lv:Nat)(t:Wd):Int:=(gU (opsL lv) [t]).getD 0
theorem GX (ks:List (List UInt8×Int))(t:Wd)(r:fA):gU ks (t::r)=gU ks [t]:=by
 induction ks with
 | nil=>rfl
 | cons a ks ih=>obtain⟨s,o⟩:=a;simp only[gU,bQ,ih];rfl
theorem Re {lv:Nat} {t:Wd}(h1:t.k≠1)(h4:t.k≠4):qz lv t=0:=by
 unfold qz;have:∀ks,gU ks [t]=none:=by
  intro ks;induction ks with
  | nil=>rfl
  | cons a ks ih=>obtain⟨s,o⟩:=a;simp[gU,bQ,kW,h1,h4,ih]
 rw[this];rfl
theorem Fe {lv:Nat} {t:Wd}(h:t.k=1∨t.k=4):qz lv t=((opsL lv).lookup t.s).getD 0:=by
 unfold qz;congr 1;have hk:(t.k==1 || t.k==4)=true:=by rcases h with h | h <;> simp[h]
 generalize opsL lv=ks;induction ks with
 | nil=>rfl
 | cons a ks ih=>obtain⟨s,o⟩:=a;simp only[gU,bQ,kW,hk,Bool.true_and,List.lookup];rw[ih];cases e:(t.s==s)<;> simp
def oV (lv:Nat)(t:Wd)(w:World)(e:Ending)(w':World):Prop:=e=.returned (.int .u8 (qz lv t))∧Below w.heap.size w w'
structure ZI (t:Wd):Prop where
 sign:t.k=1∨t.k=4
set_option maxHeartbeats 4000000
set_option maxRecDepth 100000
theorem lI (lv:Nat)(hlv:lv=0∨lv=1∨lv=4∨lv=5)(t:Tok)(w:World)(hk:t.w.k=1∨t.w.k=4):
  Calls Tryz.prog 141 #[.int .i64 lv,.agg (cm t)] w (oV lv t.w w):=by
 have HR:=hid (Fe (lv:=lv) hk);have hb:=aa w (.cells (cm t) 116);obtain⟨u0,u1,u2,u3,_⟩:=aZ (ah.new w 116 (cm t));unfold oV;unfold cm at*;rcases hk with hk | hk
 ·have n1:((t.w.k:Int) != 1)=false:=by simp;omega
  clear hk hb;rcases hlv with rfl | rfl | rfl | rfl;all_goals
   generalize qz _ t.w=R at*;go_enter Tryz.func141,Tryz.ntmps141;go_wp2_with fail;all_goals
    go_ret;rw[HR.out];refine⟨?_,aa w _⟩;refine lC ?_;simp[opsL,List.lookup,QK,JK,De,lu,dZ,yQ,sj, *]
 ·have n1:((t.w.k:Int) != 1)=true:=by simp;omega
  have n2:((t.w.k:Int) != 4)=false:=by simp;omega
  clear hk hb;rcases hlv with rfl | rfl | rfl | rfl;all_goals
   generalize qz _ t.w=R at*;go_enter Tryz.func141,Tryz.ntmps141;go_wp2_with fail;all_goals
    go_ret;rw[HR.out];refine⟨?_,aa w _⟩;refine lC ?_;simp[opsL,List.lookup,QK,JK,De,lu,dZ,yQ,sj, *]
def zV:List (List UInt8):=[[61],[60,62],[60],[60,61],[62],[62,61]]
theorem Ky {x:List UInt8} {i:Nat}(hi:i < 6):∃y,zV[i]?=some y∧((opsL 3).drop i).lookup x=if x==y then some ((10:Int)+i)else((opsL 3).drop (i+1)).lookup x:=by rcases(by omega:i=0∨i=1∨i=2∨i=3∨i=4∨i=5)with rfl | rfl | rfl | rfl | rfl | rfl <;> refine⟨_,rfl,?_⟩<;> simp[opsL,List.lookup,QM,Uf,Ug,Uh,Ui,Uj] <;> split <;> simp_all
theorem Dv (t:Tok)(w:World)(hk:t.w.k=1∨t.w.k=4):
  Calls Tryz.prog 141 #[.int .i64 (3:Nat),.agg (cm t)] w (oV 3 t.w w):=by
 have HR:=hid (Fe (lv:=3) hk);obtain⟨u0,u1,u2,u3,_⟩:=aZ (ah.new w 116 (cm t));have hn:(((t.w.k:Int) != 1)=false)∨((((t.w.k:Int) != 1)=true)∧(((t.w.k:Int) != 4)=false)):=by
  rcases hk with hk | hk
  ·exact .inl (by simp;omega)
  ·exact .inr ⟨by simp;omega,by simp;omega⟩
 clear hk;have b1:=ae.then (aa w (.cells (cm t) 116)) (aa _ (.cells (aR zV) 9))
 have B1:=(ah.new w 116 (cm t)).alloc (.cells (aR zV) 9);have B2:=ah.new (w.alloc (.cells (cm t) 116)) 9 (aR zV);rw[World.size_alloc] at B2;have Us:=hid B1;have Sy:=hid B2;have hb:=hid b1;clear B1 B2 b1;unfold oV;have Uz:aR zV= #[.string ⟨#[61]⟩,.string ⟨#[60,62]⟩,.string ⟨#[60]⟩,.string ⟨#[60,61]⟩,.string ⟨#[62]⟩,.string ⟨#[62,61]⟩]:=rfl;rw[Uz] at Us Sy hb;unfold cm at*;generalize qz 3 t.w=R at*;rcases hn with n1 |⟨n1,n2⟩;all_goals
  go_enter Tryz.func141,Tryz.ntmps141;go_wp2_with fail;clear u0 u1 u2 u3;generalize (w.alloc _).alloc _=W at*;go_loopw [6] (fun u wr=>∃i:Nat,i≤6∧u=.int .i64 i∧Below W.heap.size W wr∧(opsL 3).lookup t.w.s=((opsL 3).drop i).lookup t.w.s) (fun u _=>6 - (intOf u).toNat);case atStart=>exact⟨0,Nat.zero_le _,rfl,Below.refl _ _,rfl⟩
  case round=>
   obtain⟨i,hi,rfl,kt,hlk⟩:=hrel;have zP:=hid hlk;have iZ:=hid kt;clear hlk kt;by_cases hlt:i < 6
   ·obtain⟨y,hy,hstep⟩:=Ky (x:=t.w.s) hlt;have HST:=hid hstep;have c2:=(Sy.out.later iZ.out).cell i;rw[← Uz,show(aR zV)[i]?=some (.string ⟨y.toArray⟩) by simp[aR,hy,strOf]] at c2;have c1:=(Us.out.later iZ.out).cell 1;have UA:i < 6:=hlt;clear hy hstep;cases he:(t.w.s==y)
    ·have HE:=hid he;have t1:(y==t.w.s)=false:=by rw[beq_eq_false_iff_ne] at he ⊢;exact fun e=>he e.symm
     clear he;go_wp2_with fail;go_region;go_wp2_with fail;go_roundw;case rel=>refine⟨i+1,by omega,by go_num,iZ.out.drew,?_⟩;rw[zP.out,HST.out,HE.out];rfl
     case measure=>simp[intOf];omega
    ·have HE:=hid he;have t1:(y==t.w.s)=true:=by rw[beq_iff_eq] at he ⊢;exact he.symm
     clear he;go_wp2_with fail;go_region;go_wp2_with fail;go_ret;refine⟨?_,ae.then hb.out iZ.out.drew⟩;rw[HR.out,zP.out,HST.out,HE.out];refine lC ?_;rcases(by omega:i=0∨i=1∨i=2∨i=3∨i=4∨i=5)with rfl | rfl | rfl | rfl | rfl | rfl <;> rfl
   ·obtain rfl:i=6:=by omega
    go_wp2_with fail;go_ret;rw[HR.out,zP.out];exact⟨rfl,ae.then hb.out iZ.out⟩
theorem Dw (lv:Nat)(hlv:lv=0∨lv=1∨lv=3∨lv=4∨lv=5)(t:Tok)(w:World):
  Calls Tryz.prog 141 #[.int .i64 lv,.agg (cm t)] w (oV lv t.w w):=by
 by_cases hk:t.w.k=1∨t.w.k=4
 ·rcases hlv with rfl | rfl | rfl | rfl | rfl
  ·exact lI 0 (by simp) t w hk
  ·exact lI 1 (by simp) t w hk
  ·exact Dv t w hk
  ·exact lI 4 (by simp) t w hk
  ·exact lI 5 (by simp) t w hk
 ·have hb:=aa w (.cells (cm t) 116);obtain⟨u0,u1,u2,u3,_⟩:=aZ (ah.new w 116 (cm t));unfold oV;unfold cm at*;have HR:=hid (Re (lv:=lv) (fun e=>hk (.inl e)) (fun e=>hk (.inr e)));generalize qz lv t.w=R at*;have n1:((t.w.k:Int) != 1)=true:=by simp;omega
  have n2:((t.w.k:Int) != 4)=true:=by simp;omega
  go_enter Tryz.func141,Tryz.ntmps141;go_wp2_with fail;go_ret;rw[HR.out];exact⟨rfl,hb⟩
def dO (ρ:cu)(W:World)(big:Bool)(p:Ps Tr)(σ:aF)(e:Ending)(w':World):Prop:=∃t y,e=.returned (iL y)∧Tr.at_ w' (gf W.heap.size w') t y∧dz ρ W w' (af p σ) big∧au p σ t
def px (ρ:cu)(m:Nat):Prop:=∀(lv:Nat) (z:Int) (σ:aF) (W:World) (big:Bool),z=lv→lv≤7→8*σ.left+(7 - lv)< m→ρ.at W σ big→Calls Tryz.prog 133 #[ρ.ptr,.int .i64 z] W (dO ρ W big (ar lv) σ)
def iQ:Obj:=.cells #[.int .u8 0,.int .u8 0,.int .i64 0,.string ⟨#[]⟩,.string ⟨#[]⟩,.int .i64 0,.slice none 0 0] 34
theorem ax {w:World} {q:Nat} {y:Ex}(h:ah w q 34 (cM y).toArray):
  w.cell? ⟨q,0,none⟩=some (.int .u8 y.op)∧w.cell? ⟨q,1,none⟩=some (.int .u8 y.v.k)∧w.cell? ⟨q,2,none⟩=some (.int .i64 y.v.n)∧w.cell? ⟨q,3,none⟩=some (.string y.v.s)∧w.cell? ⟨q,4,none⟩=some (.string y.name)∧w.cell? ⟨q,5,none⟩=some (.int .i64 y.width)∧w.cell? ⟨q,6,none⟩=some (.slice y.A y.n y.c):=
 ⟨h.cell 0,h.cell 1,h.cell 2,h.cell 3,h.cell 4,h.cell 5,h.cell 6⟩
theorem aC {w:World} {q:Nat} {T:TypeId} {a b c d e f g:Value}(h:ah w q T #[a,b,c,d,e,f,g]):
  w.cell? ⟨q,0,none⟩=some a∧w.cell? ⟨q,1,none⟩=some b∧w.cell? ⟨q,2,none⟩=some c∧w.cell? ⟨q,3,none⟩=some d∧w.cell? ⟨q,4,none⟩=some e∧w.cell? ⟨q,5,none⟩=some f∧w.cell? ⟨q,6,none⟩=some g:=
 ⟨h.cell 0,h.cell 1,h.cell 2,h.cell 3,h.cell 4,h.cell 5,h.cell 6⟩
theorem bu {w:World} {q:Nat} {cs:Array Value}(h:ah w q 34 cs):
  w.frozen? ⟨q,0,none⟩=false∧w.frozen? ⟨q,1,none⟩=false∧w.frozen? ⟨q,2,none⟩=false∧w.frozen? ⟨q,3,none⟩=false∧w.frozen? ⟨q,4,none⟩=false∧w.frozen? ⟨q,5,none⟩=false∧w.frozen? ⟨q,6,none⟩=false:=
 ⟨h.frozen 0,h.frozen 1,h.frozen 2,h.frozen 3,h.frozen 4,h.frozen 5,h.frozen 6⟩
def cr (w:World)(q:Nat)(y:Ex):World:=((((((w.setCell ⟨q,0,none⟩ (.int .u8 y.op)).setCell ⟨q,1,none⟩ (.int .u8 y.v.k)).setCell ⟨q,2,none⟩ (.int .i64 y.v.n)).setCell ⟨q,3,none⟩ (.string y.v.s)).setCell ⟨q,4,none⟩ (.string y.name)).setCell ⟨q,5,none⟩ (.int .i64 y.width)).setCell ⟨q,6,none⟩ (.slice y.A y.n y.c)
theorem bA {w:World} {q:Nat} {T:TypeId} {a b c d e f g:Value}(h:ah w q T #[a,b,c,d,e,f,g])(y:Ex):ah (cr w q y) q T (cM y).toArray:=by have:=((((((h.cn 0 (.int .u8 y.op)).cn 1 (.int .u8 y.v.k)).cn 2 (.int .i64 y.v.n)).cn 3 (.string y.v.s)).cn 4 (.string y.name)).cn 5 (.int .i64 y.width)).cn 6 (.slice y.A y.n y.c);simp only[List.setIfInBounds_toArray,List.set_cons_zero,List.set_cons_succ] at this;exact this
theorem xQ {w:World} {q p:Nat} {T:TypeId} {cs:Array Value}(h:ah w p T cs)(hp:p≠q)(y:Ex):ah (cr w q y) p T cs:=
 ((((((h.far (p:=⟨q,0,none⟩) hp _).far (p:=⟨q,1,none⟩) hp _).far (p:=⟨q,2,none⟩) hp _).far (p:=⟨q,3,none⟩) hp _).far (p:=⟨q,4,none⟩) hp _).far (p:=⟨q,5,none⟩) hp _).far (p:=⟨q,6,none⟩) hp _
theorem dz.cr {ρ:cu} {W w:World} {σ:aF} {big:Bool} {q:Nat}(h:dz ρ W w σ big)(hW:ρ.g < W.heap.size)(hq:W.heap.size≤q)(y:Ex):dz ρ W (cr w q y) σ big:=
 ((((((h.far hW hq 0 _).far hW hq 1 _).far hW hq 2 _).far hW hq 3 _).far hW hq 4 _).far hW hq 5 _).far hW hq 6 _
theorem Kz {w:World} {q:Nat} {S:World→Nat→Prop}(hs:∀(w:World) (i:Nat) (u:Value),∀b,S w b→(∀o,(w.setCell ⟨q,i,none⟩ u).cell? ⟨b,o,none⟩=w.cell? ⟨b,o,none⟩)∧S (w.setCell ⟨q,i,none⟩ u) b)(y:Ex):∀b,S w b→(∀o,(Go.Proofs.YtfmbcoeallmnnaaGreatDoor.R.cr w q y).cell? ⟨b,o,none⟩=w.cell? ⟨b,o,none⟩)∧S (Go.Proofs.YtfmbcoeallmnnaaGreatDoor.R.cr w q y) b:=by intro b hb;obtain⟨c0,s0⟩:=hs w 0 (.int .u8 y.op) b hb;obtain⟨c1,s1⟩:=hs _ 1 (.int .u8 y.v.k) b s0;obtain⟨c2,s2⟩:=hs _ 2 (.int .i64 y.v.n) b s1;obtain⟨c3,s3⟩:=hs _ 3 (.string y.v.s) b s2;obtain⟨c4,s4⟩:=hs _ 4 (.string y.name) b s3;obtain⟨c5,s5⟩:=hs _ 5 (.int .i64 y.width) b s4;obtain⟨c6,s6⟩:=hs _ 6 (.slice y.A y.n y.c) b s5;exact⟨fun o=>(c6 o).trans ((c5 o).trans ((c4 o).trans ((c3 o).trans ((c2 o).trans ((c1 o).trans (c0 o)))))),s6⟩
theorem Tr.at_.cr {B q:Nat} {w:World} {t:Tr} {y:Ex}(h:t.at_ w (gf B w) y)(hq:q < B)(z:Ex):t.at_ (cr w q z) (gf B (Go.Proofs.YtfmbcoeallmnnaaGreatDoor.R.cr w q z)) y:=Tr.at_.keep (Kz (S:=fun w=>gf B w) (fun w i u=>kj hq i u) z) t y h
theorem bl {ρ:cu} {w W:World} {big:Bool} {p:Ps Tr} {σ:aF} {q:Nat} {t:Tr} {y:Ex}(hg:ρ.g < w.heap.size)(hq:w.heap.size≤q)(hd:dz ρ w W (af p σ) big)(ht:t.at_ W (gf (q+1) W) y)(hv:au p σ t):dO ρ w big p σ (.returned (iL y)) (cr W q y):=
 ⟨t,y,rfl,(ht.cr (Nat.lt_succ_self q) y).more (by omega),hd.cr hg hq y,hv⟩
theorem Rf (ρ:cu)(w:World)(σ:aF)(big:Bool)(h:ρ.at w σ big)(IH:px ρ (8*σ.left+5)):
  Calls Tryz.prog 133 #[ρ.ptr,.int .i64 2] w (dO ρ w big (ar 2) σ):=by
 have cU:=h.qJ;have hb:=aa w iQ;have h0:=h.later hb;have hm:=cT ρ _ σ big h0 ⟨#[110,111,116]⟩;have HQ:=hid (ah.new w 34 #[.int .u8 0,.int .u8 0,.int .i64 0,.string ⟨#[]⟩,.string ⟨#[]⟩,.int .i64 0,.slice none 0 0]);have hsz:(w.alloc iQ).heap.size=w.heap.size+1:=by simp
 unfold iQ at*;rw[MZ];cases hh:σ.head ll
 ·rw[show σ.head (⟨#[110,111,116]⟩:ByteArray).data.toList=false from hh,av (s:=(⟨#[110,111,116]⟩:ByteArray).data.toList) hh] at hm;have vP:=hid hh;clear hh;go_enter Tryz.func133,Tryz.ntmps133;go_wp2_with (first
   |(go_at_call 74;refine hm.mono ?_;rintro e w1 ⟨rfl,d1⟩)
   |(go_at_call 133;refine(IH 3 _ σ w1 big rfl (by omega) (by omega) d1.at_).mono ?_;rintro e w2 ⟨t,y,rfl,ht,d2,fC⟩;unfold iL cM;have D:=(dz.bH h hb).trans (d1.trans d2);have zo:=d2.blk (d1.blk HQ.out (by omega)) (by omega);have UB:=d2.size;have Rg:=d1.size;have gC:=zo.alloc (.cells #[.int .u8 y.op,.int .u8 y.v.k,.int .i64 y.v.n,.string y.v.s,.string y.name,.int .i64 y.width,.slice y.A y.n y.c] 34);obtain⟨z0,z1,z2,z3,z4,z5,z6⟩:=bu gC;obtain⟨y0,y1,y2,y3,y4,y5,y6⟩:=aC gC;obtain⟨x0,x1,x2,x3,x4,x5,x6⟩:=ax (ah.new w2 34 (cM y).toArray);unfold cM at x0 x1 x2 x3 x4 x5 x6))
  have HP:=bA gC y;have HR:=ax HP;unfold cr at HR;obtain⟨r0,r1,r2,r3,r4,r5,r6⟩:=HR;refine bodyPost_ret (v:=iL y) ?_ rfl ?_
  ·simp[results,Tryz.results133,go_sem,r0,r1,r2,r3,r4,r5,r6];rfl
  ·refine bl cU (Nat.le_refl _) ?_ ((ht.later (aa w2 _)).more (by omega)) (oz vP.out fC);rw[pL vP.out];exact D.later (aa w2 _)
 ·rw[show σ.head (⟨#[110,111,116]⟩:ByteArray).data.toList=true from hh,az (s:=(⟨#[110,111,116]⟩:ByteArray).data.toList) hh] at hm;have vP:=hid hh;obtain⟨l1,l2,l3⟩:=je hh;clear hh;go_enter Tryz.func133,Tryz.ntmps133;go_wp2_with (first
   |(go_at_call 74;refine hm.mono ?_;rintro e w1 ⟨rfl,d1⟩)
   |(go_at_call 133;refine(IH 2 _ _ w1 big rfl (by omega) (by omega) d1.at_).mono ?_;rintro e w2 ⟨t,y,rfl,ht,d2,fC⟩;unfold iL cM;have D:=(dz.bH h hb).trans (d1.trans d2);have zo:=d2.blk (d1.blk HQ.out (by omega)) (by omega);have UB:=d2.size;have Rg:=d1.size;have gC:=zo.alloc (.cells #[.int .u8 y.op,.int .u8 y.v.k,.int .i64 y.v.n,.string y.v.s,.string y.name,.int .i64 y.width,.slice y.A y.n y.c] 34);obtain⟨z0,z1,z2,z3,z4,z5,z6⟩:=bu gC;obtain⟨y0,y1,y2,y3,y4,y5,y6⟩:=aC gC))
  have HP:=bA gC (vE 4 w2.heap.size 1);have HR:=ax HP;unfold cr vE iM at HR;obtain⟨r0,r1,r2,r3,r4,r5,r6⟩:=HR;refine bodyPost_ret (v:=iL (vE 4 w2.heap.size 1)) ?_ rfl ?_
  ·simp[results,Tryz.results133,go_sem,r0,r1,r2,r3,r4,r5,r6];rfl
  ·refine bl cU (Nat.le_refl _) ?_ (zh 4 (ah.new w2 34 (cM y).toArray) ⟨by omega,by simp⟩ ((ht.later (aa w2 _)).more (by omega))) (pM vP.out fC);rw[rA vP.out];exact D.later (aa w2 _)
theorem Rh (ρ:cu)(w:World)(σ:aF)(big:Bool)(h:ρ.at w σ big)(IH:px ρ (8*σ.left+1)):
  Calls Tryz.prog 133 #[ρ.ptr,.int .i64 6] w (dO ρ w big (ar 6) σ):=by
 have cU:=h.qJ;have hb:=aa w iQ;have h0:=h.later hb;have hm:=cT ρ _ σ big h0 ⟨#[45]⟩;have HQ:=hid (ah.new w 34 #[.int .u8 0,.int .u8 0,.int .i64 0,.string ⟨#[]⟩,.string ⟨#[]⟩,.int .i64 0,.slice none 0 0]);have hsz:(w.alloc iQ).heap.size=w.heap.size+1:=by simp
 unfold iQ at*;rw[Nd];cases hh:σ.head lu
 ·rw[show σ.head (⟨#[45]⟩:ByteArray).data.toList=false from hh,av (s:=(⟨#[45]⟩:ByteArray).data.toList) hh] at hm;have vP:=hid hh;clear hh;go_enter Tryz.func133,Tryz.ntmps133;go_wp2_with (first
   |(go_at_call 74;refine hm.mono ?_;rintro e w1 ⟨rfl,d1⟩)
   |(go_at_call 133;refine(IH 7 _ σ w1 big rfl (by omega) (by omega) d1.at_).mono ?_;rintro e w2 ⟨t,y,rfl,ht,d2,fC⟩;unfold iL cM;have D:=(dz.bH h hb).trans (d1.trans d2);have zo:=d2.blk (d1.blk HQ.out (by omega)) (by omega);have UB:=d2.size;have Rg:=d1.size;have gC:=zo.alloc (.cells #[.int .u8 y.op,.int .u8 y.v.k,.int .i64 y.v.n,.string y.v.s,.string y.name,.int .i64 y.width,.slice y.A y.n y.c] 34);obtain⟨z0,z1,z2,z3,z4,z5,z6⟩:=bu gC;obtain⟨y0,y1,y2,y3,y4,y5,y6⟩:=aC gC;obtain⟨x0,x1,x2,x3,x4,x5,x6⟩:=ax (ah.new w2 34 (cM y).toArray);unfold cM at x0 x1 x2 x3 x4 x5 x6))
  have HP:=bA gC y;have HR:=ax HP;unfold cr at HR;obtain⟨r0,r1,r2,r3,r4,r5,r6⟩:=HR;refine bodyPost_ret (v:=iL y) ?_ rfl ?_
  ·simp[results,Tryz.results133,go_sem,r0,r1,r2,r3,r4,r5,r6];rfl
  ·refine bl cU (Nat.le_refl _) ?_ ((ht.later (aa w2 _)).more (by omega)) (oz vP.out fC);rw[pL vP.out];exact D.later (aa w2 _)
 ·rw[show σ.head (⟨#[45]⟩:ByteArray).data.toList=true from hh,az (s:=(⟨#[45]⟩:ByteArray).data.toList) hh] at hm;have vP:=hid hh;obtain⟨l1,l2,l3⟩:=je hh;clear hh;go_enter Tryz.func133,Tryz.ntmps133;go_wp2_with (first
   |(go_at_call 74;refine hm.mono ?_;rintro e w1 ⟨rfl,d1⟩)
   |(go_at_call 133;refine(IH 6 _ _ w1 big rfl (by omega) (by omega) d1.at_).mono ?_;rintro e w2 ⟨t,y,rfl,ht,d2,fC⟩;unfold iL cM;have D:=(dz.bH h hb).trans (d1.trans d2);have zo:=d2.blk (d1.blk HQ.out (by omega)) (by omega);have UB:=d2.size;have Rg:=d1.size;have gC:=zo.alloc (.cells #[.int .u8 y.op,.int .u8 y.v.k,.int .i64 y.v.n,.string y.v.s,.string y.name,.int .i64 y.width,.slice y.A y.n y.c] 34);obtain⟨z0,z1,z2,z3,z4,z5,z6⟩:=bu gC;obtain⟨y0,y1,y2,y3,y4,y5,y6⟩:=aC gC))
  have HP:=bA gC (vE 3 w2.heap.size 1);have HR:=ax HP;unfold cr vE iM at HR;obtain⟨r0,r1,r2,r3,r4,r5,r6⟩:=HR;refine bodyPost_ret (v:=iL (vE 3 w2.heap.size 1)) ?_ rfl ?_
  ·simp[results,Tryz.results133,go_sem,r0,r1,r2,r3,r4,r5,r6];rfl
  ·refine bl cU (Nat.le_refl _) ?_ (zh 3 (ah.new w2 34 (cM y).toArray) ⟨by omega,by simp⟩ ((ht.later (aa w2 _)).more (by omega))) (pM vP.out fC);rw[rA vP.out];exact D.later (aa w2 _)
theorem vR {lv:Nat}(h:lv=0∨lv=1∨lv=4∨lv=5):ar lv=ly (ar (lv+1)) lv:=by
 rcases h with rfl | rfl | rfl | rfl
 ·exact MW
 ·exact MX
 ·exact Nb
 ·exact Nc
theorem Bo {lv:Nat} {l:fA} {o:Int}(h:gU (opsL lv) l=some o):5≤o∧o≤17∧∃s,bQ s l=true:=by
 obtain⟨s,h1,h2⟩:=gw h;refine⟨?_,?_,s,h2⟩
 ·match lv,h1 with
  | 0,h1=>simp[opsL] at h1;omega
  | 1,h1=>simp[opsL] at h1;omega
  | 2,h1=>simp[opsL] at h1
  | 3,h1=>simp[opsL] at h1;omega
  | 4,h1=>simp[opsL] at h1;omega
  | 5,h1=>simp[opsL] at h1;omega
  | _+6,h1=>simp[opsL] at h1
 ·match lv,h1 with
  | 0,h1=>simp[opsL] at h1;omega
  | 1,h1=>simp[opsL] at h1;omega
  | 2,h1=>simp[opsL] at h1
  | 3,h1=>simp[opsL] at h1;omega
  | 4,h1=>simp[opsL] at h1;omega
  | 5,h1=>simp[opsL] at h1;omega
  | _+6,h1=>simp[opsL] at h1
structure jO (lv:Nat) (σ:aF) (x:Tr) (bw:aF):Prop where
 step:af (ar lv) σ=af (pK (ar (lv+1)) lv x) bw
 gives:∀z,au (pK (ar (lv+1)) lv x) bw z→au (ar lv) σ z
section
variable {lv:Nat} {σ bw:aF} {x y:Tr} {o:Int}
theorem jO.start (hlv:lv=0∨lv=1∨lv=4∨lv=5)(h:au (ar (lv+1)) σ x):jO lv σ x (af (ar (lv+1)) σ):=by
 refine⟨?_,fun z hz=>?_⟩
 ·rw[vR hlv,ES];exact ay h
 ·rw[vR hlv,ES];exact aj h hz
theorem jO.go (k:jO lv σ x bw)(h:bw.op lv=some o)(hy:au (ar (lv+1)) (.good bw.words.tail) y):jO lv σ (gH o [x,y]) (af (ar (lv+1)) (.good bw.words.tail)):=by
 refine⟨?_,fun z hz=>k.gives z ?_⟩
 ·rw[k.step,xM (df _),h];exact ay hy
 ·exact tU (df _) lv x z o bw h (aj hy hz)
theorem jO.done (k:jO lv σ x bw)(h:bw.op lv=none):af (ar lv) σ=bw∧au (ar lv) σ x:=by refine⟨?_,k.gives x (tT (df _) lv x bw h)⟩;rw[k.step,xM (df _),h]
theorem Dx (lv n:Nat):(aF.bad n).op lv=none:=kO _
end
theorem Dy {lv:Nat} {t:Wd} {r:fA}:qz lv t=((aF.good (t::r)).op lv).getD 0:=by unfold qz aF.op aF.words;show _=(gU (opsL lv) (t::r)).getD 0;rw[GX (opsL lv) t r]
theorem vS (lv:Nat)(z:Int)(hz:z=lv)(hlv:lv=0∨lv=1∨lv=3∨lv=4∨lv=5)(t:Tok)(w:World):
  Calls Tryz.prog 141 #[.int .i64 z,.agg #[.int .u8 t.w.k,.string ⟨t.w.s.toArray⟩,.int .i64 t.w.n,.int .i64 t.p]] w fun e w'=>e=.returned (.int .u8 (qz lv t.w))∧Below w.heap.size w w':=by
 subst hz;exact Dw lv hlv t w
structure sI (ρ:cu) (w:World) (big:Bool) (lv:Nat) (σ:aF) (q qx:Nat) (wr:World) (bw:aF) (t:Tr) (y:Ex):Prop where
 did:dz ρ w wr bw big
 blk:ah wr qx 34 (cM y).toArray
 res:ah wr q 34 #[.int .u8 0,.int .u8 0,.int .i64 0,.string ⟨#[]⟩,.string ⟨#[]⟩,.int .i64 0,.slice none 0 0]
 tr:t.at_ wr (Bx (q+1) qx wr) y
 todo:jO lv σ t bw
 le:bw.left≤σ.left
def jP (y:Ex):Obj:=.cells (cM y).toArray 34
def kX (y z:Ex):Obj:=.cells (cM y++cM z).toArray 34
theorem sI.round {ρ:cu} {w wr W2 Ws w3:World} {big:Bool} {lv:Nat} {σ bw:aF} {q qx:Nat} {t' t2:Tr} {y' v2:Ex} {l:fA} {bi:Int}(cU:ρ.g < w.heap.size)(GY:q=w.heap.size)(ZJ:q+1≤qx)(A:sI ρ w big lv σ q qx wr bw t' y')(hW:Below wr.heap.size wr W2)(hst:dz ρ W2 Ws (.good l) big)(d2:dz ρ Ws w3 (af (ar (lv+1)) (.good l)) big)
  (GZ:t2.at_ w3 (gf Ws.heap.size w3) v2) (hop:bw.op lv=some bi) (hl:bw.words.tail=l) (hlen:l.length < bw.left) (fC:au (ar (lv+1)) (.good l) t2):
  sI ρ w big lv σ q qx (cr ((w3.alloc (jP v2)).alloc (kX y' v2)) qx (vE bi (w3.heap.size+1) 2)) (af (ar (lv+1)) (.good l)) (gH bi [t',t2]) (vE bi (w3.heap.size+1) 2):=by
 have hz1:=d2.size;have hz2:=hst.size;have hz3:=hW.size;have Sz:=A.blk.lt;have Dz:Below w3.heap.size w3 ((w3.alloc (jP v2)).alloc (kX y' v2)):=ae.then (aa w3 _) (aa _ _)
 have hsz:((w3.alloc (jP v2)).alloc (kX y' v2)).heap.size=w3.heap.size+2:=by simp
 have hN:ah ((w3.alloc (jP v2)).alloc (kX y' v2)) (w3.heap.size+1) 34 (cM y'++cM v2).toArray:=by have:=ah.new (w3.alloc (jP v2)) 34 (cM y'++cM v2).toArray;rw[World.size_alloc] at this;exact this
 have hX:ah ((w3.alloc (jP v2)).alloc (kX y' v2)) qx 34 (cM y').toArray:=(((A.blk.later hW).grown hst.grown (by simp;omega)).grown d2.grown (by simp;omega)).later Dz;have hR:ah ((w3.alloc (jP v2)).alloc (kX y' v2)) q 34 _:=(((A.res.later hW).grown hst.grown (by simp;omega)).grown d2.grown (by simp;omega)).later Dz;have hD:dz ρ w ((w3.alloc (jP v2)).alloc (kX y' v2)) (af (ar (lv+1)) (.good l)) big:=(((A.did.later hW).trans hst).trans d2).later Dz;have hT:(gH bi [t',t2]).at_ ((w3.alloc (jP v2)).alloc (kX y' v2)) (Bx (q+1) qx ((w3.alloc (jP v2)).alloc (kX y' v2))) (vE bi (w3.heap.size+1) 2):=by
  refine JZ bi hN ⟨by omega,by omega,by omega⟩ ?_ ?_
  ·exact Tr.at_.keep (eC Dz) _ _ (Tr.at_.keep (eB d2.grown (by omega)) _ _ (Tr.at_.keep (eB hst.grown (by omega)) _ _ (Tr.at_.keep (eC hW) _ _ A.tr)))
  ·exact Tr.at_.keep (OY (by omega) (by omega)) _ _ (GZ.later Dz)
 generalize (w3.alloc (jP v2)).alloc (kX y' v2)=W5 at*;refine⟨hD.cr cU (by omega) _,bA hX _,xQ hR (by omega) _,?_,?_,?_⟩
 ·exact Tr.at_.keep (Kz (S:=fun w=>Bx (q+1) qx w) (fun w i u=>zf i u) _) _ _ hT
 ·subst hl;exact jO.go A.todo hop fC
 ·have h5:=aF.bh (df (lv+1)) (aF.good l);have e5:(aF.good l).left=l.length:=rfl;have:=A.le;omega
theorem uw (ρ:cu)(w:World)(σ:aF)(big:Bool)(h:ρ.at w σ big)(lv:Nat)(z:Int)(hz:z=lv)(hlv:lv=0∨lv=1∨lv=4∨lv=5)(IH:px ρ (8*σ.left+(7 - lv))):
  Calls Tryz.prog 133 #[ρ.ptr,.int .i64 z] w (dO ρ w big (ar lv) σ):=by
 have cU:=h.qJ;have hb:=aa w iQ;have h0:=h.later hb;have HQ:=hid (ah.new w 34 #[.int .u8 0,.int .u8 0,.int .i64 0,.string ⟨#[]⟩,.string ⟨#[]⟩,.int .i64 0,.slice none 0 0]);have hsz:(w.alloc iQ).heap.size=w.heap.size+1:=by simp
 have hsm:=h.small;have SA:=hid hlv;have n2:(z==2)=false:=by rw[beq_eq_false_iff_ne];omega
 have n6:(z==6)=false:=by rw[beq_eq_false_iff_ne];omega
 have n7:(z==7)=false:=by rw[beq_eq_false_iff_ne];omega
 have n3:(z==3)=false:=by rw[beq_eq_false_iff_ne];omega
 have U3:0≤z∧z≤5:=by omega
 have HZ:=hid hz;clear hlv hz;unfold iQ at*;unfold cu.ptr;go_enter Tryz.func133,Tryz.ntmps133;go_wp2_with (first
  |(go_at_call 133;refine(IH (lv+1) (z+1) σ _ big (by have:=HZ.out;omega) (by have:=SA.out;omega) (by have:=SA.out;omega) h0).mono ?_;rintro e w2 ⟨t,y,rfl,ht,d2,fC⟩;unfold iL cM))
 have hA:sI ρ w big lv σ w.heap.size w2.heap.size (w2.alloc (.cells #[.int .u8 y.op,.int .u8 y.v.k,.int .i64 y.v.n,.string y.v.s,.string y.name,.int .i64 y.width,.slice y.A y.n y.c] 34)) _ t y:=
  ⟨((dz.bH h hb).trans d2).later (aa _ _),ah.new w2 _ _,(d2.blk HQ.out (by omega)).alloc _,Tr.at_.keep (qs _ (by rw[hsz];exact Nat.le_refl _)) _ _ ht,jO.start SA.out fC,aF.bh (df _) σ⟩
 have SB:w.heap.size+1≤w2.heap.size:=by have:=d2.size;omega
 generalize w2.alloc _=W at*;generalize w2.heap.size=qx at*;have HA:=hid hA;clear hA ht d2 fC h0 hb HQ;go_loopg [] σ.left (fun k wr=>∃bw t' y',bw.left≤k∧sI ρ w big lv σ w.heap.size qx wr bw t' y');case atStart=>exact⟨_,_,_,aF.bh (df _) σ,HA.out⟩
 case round=>
  obtain⟨bw,t',y',hk,hA'⟩:=hrel;have DA:=hid hA';obtain⟨tk,pl,bd,hpl,hlt,UC,lV,aX,hg,wI,uN,hp⟩:=hA'.did.at_.mY;have UD:=hA'.did.at_.left;have HP:=hid hp;have Bn:=hid hpl;have HG:=hid hg;have lH:=hid aX;have c2:=hp.c2;clear hA' hpl hg aX lV HA hp;have UE:=DA.out.blk.lt;by_cases qw:bd < 0
  ·obtain⟨l,rfl⟩:∃l,bw=.good l:=by
    match bw,lH.out with
    | .good l,_=>exact⟨l,rfl⟩
    | .bad m,aX=>simp[aF.dN] at aX;omega
   obtain⟨r,rfl⟩:=HG.out l rfl;have Pc:=Dy (lv:=lv) (t:=tk.w) (r:=r);have UF:=vS lv z HZ.out (by have:=SA.out;omega) tk;have e1:(ρ.n:Int) - (aF.good (tk.w::r)).left+1=(ρ.n:Int) - r.length:=by simp only[aF.left,List.length_cons];omega
   have e2:(aF.good (tk.w::r)).left=r.length+1:=rfl;have ed:=hid e1;have JD:=hid e2;clear e1 e2;generalize qz lv tk.w=bi at*;have SC:=hid Pc;clear Pc;have k0:=fun y:Ext wr.heap.size wr=>(HP.out.later y.h).c0
   have k1:=fun y:Ext wr.heap.size wr=>(HP.out.later y.h).c1
   have m0:=fun y:Ext wr.heap.size wr=>(HP.out.later y.h).d0
   have m1:=fun y:Ext wr.heap.size wr=>(HP.out.later y.h).d1
   have m2:=fun y:Ext wr.heap.size wr=>(HP.out.later y.h).d2
   have m3:=fun y:Ext wr.heap.size wr=>(HP.out.later y.h).d3
   go_wp2_with fail;refine cZ 13 wr.heap.size wr (Below.refl _ _) (by kernel_rfl) (by kernel_rfl) (by kernel_rfl) (by kernel_rfl) ?_;simp only[List.take_succ_cons,List.take_zero,List.drop_succ_cons,List.drop_zero];repeat (go_big_quiet_step (first
    |(go_at_call 141;exact dP (Nat.le_refl _) (UF _))))
   refine wpQuiet_nil ?_;rintro W2 ⟨y2,uj⟩;have hW:=y2.h;rw[← uj] at hW;clear uj y2 k0 k1 m0 m1 m2 m3 c2;cases hop:(aF.good (tk.w::r)).op lv with
   | none=>
     have e0:bi=0:=by rw[SC.out,hop];rfl
     subst e0;obtain⟨hs1,hs2⟩:=jO.done DA.out.todo hop;have ED:=hid hs1;have DB:=hid hs2;clear hs1 hs2 hop;have tY:=DA.out.res.later hW;have nC:=DA.out.blk.later hW;have Sz:=tY.lt;obtain⟨z0,z1,z2,z3,z4,z5,z6⟩:=bu tY;obtain⟨y0,y1,y2,y3,y4,y5,y6⟩:=aC tY;obtain⟨x0,x1,x2,x3,x4,x5,x6⟩:=ax nC;have ox:=hid tY;clear tY nC;go_wp2_with fail;have HP:=bA ox.out y';have HR:=ax HP;unfold cr at HR;obtain⟨r0,r1,r2,r3,r4,r5,r6⟩:=HR;refine bodyPost_ret (v:=iL y') ?_ rfl ?_
     ·simp[results,Tryz.results133,go_sem,r0,r1,r2,r3,r4,r5,r6];rfl
     ·refine bl cU (Nat.le_refl _) ?_ (Tr.at_.keep (kN (Nat.le_refl _)) _ _ (Tr.at_.keep (eC hW) _ _ DA.out.tr)) DB.out;rw[ED.out];exact DA.out.did.later hW
   | some o=>
     have eo:bi=o:=by rw[SC.out,hop];rfl
     subst eo;obtain⟨L1,uh,s,hs⟩:=Bo hop;have UG:tk.w.k≠0:=tC hs;have Xx:=hid hop;have e0:(bi==0)=false:=by rw[beq_eq_false_iff_ne];omega
     have jY:=DA.out.did.at_.later hW;obtain⟨q0,q1,q2,q3,f1,f2,f3⟩:=jY.facts;have e1:=ed.out;have hst:=cu.at.step jY UG;have UA:r.length+1≤ρ.n:=by have:=jY.left;have:=JD.out;omega
     clear hop hs jY q0 q2 q3 f2 f3;go_wp2_with (first
      |(go_at_call 133;refine(IH (lv+1) (z+1) (.good r) _ big (by have:=HZ.out;omega) (by have:=SA.out;omega) (by have:=SA.out;have:=DA.out.le;have:=JD.out;have e5:(aF.good r).left=r.length:=rfl;omega) hst.at_).mono ?_;rintro e w3 ⟨t2,v2,rfl,GZ,d2,Ha⟩;unfold iL cM;have hz1:=d2.size;have hz2:=hst.size;have hz3:=hW.size;have B0:=((DA.out.blk.later hW).grown hst.grown (by simp;omega)).grown d2.grown (by simp;omega);have B1:=B0.alloc (.cells #[.int .u8 v2.op,.int .u8 v2.v.k,.int .i64 v2.v.n,.string v2.v.s,.string v2.name,.int .i64 v2.width,.slice v2.A v2.n v2.c] 34);have B2:=B1.alloc (.cells #[.int .u8 y'.op,.int .u8 y'.v.k,.int .i64 y'.v.n,.string y'.v.s,.string y'.name,.int .i64 y'.width,.slice y'.A y'.n y'.c,.int .u8 v2.op,.int .u8 v2.v.k,.int .i64 v2.v.n,.string v2.v.s,.string v2.name,.int .i64 v2.width,.slice v2.A v2.n v2.c] 34);have N1:=ah.new w3 34 (cM v2).toArray;have X1:=ax B1;have X2:=ax B2;have X3:=bu B2;have X4:=ax N1;unfold cM at X4;obtain⟨x0,x1,x2,x3,x4,x5,x6⟩:=X1;obtain⟨y0,y1,y2,y3,y4,y5,y6⟩:=X2;obtain⟨z0,z1,z2,z3,z4,z5,z6⟩:=X3;obtain⟨a0,a1,a2,a3,a4,a5,a6⟩:=X4;have Sy:=hid B2;clear B0 B1 B2 N1))
     go_roundg (r.length);case measure=>have:=JD.out;omega
     case rel=>exact⟨_,_,_,aF.bh (df (lv+1)) (aF.good r),sI.round cU rfl SB DA.out hW hst d2 GZ Xx.out rfl (by rw[JD.out];exact Nat.lt_succ_self _) Ha⟩
  ·skip
   obtain⟨m,rfl⟩:∃m,bw=.bad m:=by
    match bw,lH.out with
    | .good l,aX=>simp[aF.dN] at aX;omega
    | .bad m,_=>exact⟨m,rfl⟩
   obtain⟨hs1,hs2⟩:=jO.done DA.out.todo (Dx lv m);have ED:=hid hs1;have DB:=hid hs2;clear hs1 hs2;have tY:=DA.out.res;have nC:=DA.out.blk;have Sz:=tY.lt;obtain⟨z0,z1,z2,z3,z4,z5,z6⟩:=bu tY;obtain⟨y0,y1,y2,y3,y4,y5,y6⟩:=aC tY;obtain⟨x0,x1,x2,x3,x4,x5,x6⟩:=ax nC;have ox:=hid tY;clear tY nC;go_wp2_with fail;have HP:=bA ox.out y';have HR:=ax HP;unfold cr at HR;obtain⟨r0,r1,r2,r3,r4,r5,r6⟩:=HR;refine bodyPost_ret (v:=iL y') ?_ rfl ?_
   ·simp[results,Tryz.results133,go_sem,r0,r1,r2,r3,r4,r5,r6];rfl
   ·refine bl cU (Nat.le_refl _) ?_ (Tr.at_.keep (kN (Nat.le_refl _)) _ _ DA.out.tr) DB.out;rw[ED.out];exact DA.out.did
def DD (x:Tr):Ps Tr:=do
 if ← may pw then
  let n ← may ll
  must fo
  return gH (if n then 19 else 18) [x]
 else sq (ar 4) x
structure iT (σ:aF) (x:Tr) (bw:aF):Prop where
 step:af (ar 3) σ=af (DD x) bw
 gives:∀z,au (DD x) bw z→au (ar 3) σ z
section
variable {σ bw:aF} {x y:Tr} {o:Int}
theorem iT.start (h:au (ar 4) σ x):iT σ x (af (ar 4) σ):=by
 have e:ar 3=(do let x ← ar 4;DD x):=by rw[Na];rfl
 refine⟨?_,fun z hz=>?_⟩
 ·rw[e];exact ay h
 ·rw[e];exact aj h hz
theorem iT.null (k:iT σ x bw)(h:bw.head pw=true):af (ar 3) σ=af (must fo) (af (may ll) (.good bw.words.tail))∧au (ar 3) σ (gH (if (aF.good bw.words.tail).head ll then 19 else 18) [x]):=by
 constructor
 ·rw[k.step];unfold DD;rw[ay (aG pw bw),h,az h];simp only[if_true];rw[ay (aG ll _)];rw[ay (bF _ _)];exact bs _ _
 ·refine k.gives _ ?_;refine aj (aG pw bw) ?_;rw[h,az h];refine aj (aG ll _) ?_;exact aj (bF _ _) (aT _ _)
theorem vT (h:bw.head pw=false):af (DD x) bw=af (sq (ar 4) x) bw∧∀z,au (sq (ar 4) x) bw z→au (DD x) bw z:=by
 constructor
 ·unfold DD;rw[ay (aG pw bw),h,av h];rfl
 ·intro z hz;refine aj (aG pw bw) ?_;rw[h,av h];exact hz
theorem iT.none_ (k:iT σ x bw)(h:bw.head pw=false)(ho:bw.op 3=none):af (ar 3) σ=bw∧au (ar 3) σ x:=by
 obtain⟨h1,h2⟩:=vT (x:=x) h;rw[k.step,h1]
 match bw,ho with
 | .bad n,_=>exact⟨rfl,k.gives _ trivial⟩
 | .good l,ho=>have ho:gU (opsL 3) l=none:=ho;refine⟨by simp only[af,sq,ho],k.gives _ (h2 _ ?_)⟩;simp only[au,sq,ho]
theorem iT.some_ (k:iT σ x bw)(h:bw.head pw=false)(ho:bw.op 3=some o)(hy:au (ar 4) (.good bw.words.tail) y):af (ar 3) σ=af (ar 4) (.good bw.words.tail)∧au (ar 3) σ (gH o [x,y]):=by
 obtain⟨h1,h2⟩:=vT (x:=x) h;rw[k.step,h1]
 match bw,ho with
 | .bad n,ho=>simp[aF.op,aF.words,kO] at ho
 | .good l,ho=>
   have ho:gU (opsL 3) l=some o:=ho;refine⟨?_,k.gives _ (h2 _ ?_)⟩
   ·simp only[af,sq,ho,ee,aF.words];cases ar 4 l.tail with
    | error n=>rfl
    | ok y=>rfl
   ·simp only[aF.words,au] at hy;simp only[au,sq,ho,ee];cases e:ar 4 l.tail with
    | error n=>trivial
    | ok y=>rw[e] at hy;simp only at hy;subst hy;rfl
end
structure pN (ρ:cu) (w:World) (big:Bool) (σ:aF) (q qx:Nat) (wr:World) (bw:aF) (t:Tr) (y:Ex):Prop where
 did:dz ρ w wr bw big
 blk:ah wr qx 34 (cM y).toArray
 res:ah wr q 34 #[.int .u8 0,.int .u8 0,.int .i64 0,.string ⟨#[]⟩,.string ⟨#[]⟩,.int .i64 0,.slice none 0 0]
 tr:t.at_ wr (Bx (q+1) qx wr) y
 todo:iT σ t bw
 le:bw.left≤σ.left
theorem pN.more {ρ:cu} {w wr W2:World} {big:Bool} {σ bw:aF} {q qx:Nat} {t':Tr} {y':Ex}(A:pN ρ w big σ q qx wr bw t' y')(d:dz ρ wr W2 bw big)(cU:ρ.g < q)(ZJ:q≤qx):pN ρ w big σ q qx W2 bw t' y':=
 ⟨A.did.trans d,d.blk A.blk (by omega),d.blk A.res (by omega),Tr.at_.keep (eB d.grown (by omega)) _ _ A.tr,A.todo,A.le⟩
structure Ri (ρ:cu) (w:World) (big:Bool) (σ:aF) (q qx:Nat) (W:World) (t:Tr) (y:Ex):Prop where
 did:dz ρ w W (af (ar 3) σ) big
 blk:ah W qx 34 (cM y).toArray
 res:ah W q 34 #[.int .u8 0,.int .u8 0,.int .i64 0,.string ⟨#[]⟩,.string ⟨#[]⟩,.int .i64 0,.slice none 0 0]
 tr:t.at_ W (gf (q+1) W) y
 gives:au (ar 3) σ t
theorem pN.round {ρ:cu} {w wr W2 Ws w3:World} {big:Bool} {σ bw:aF} {q qx:Nat} {t' t2:Tr} {y' v2:Ex} {l:fA} {bi:Int}(cU:ρ.g < w.heap.size)(GY:q=w.heap.size)(ZJ:q+1≤qx)(A:pN ρ w big σ q qx wr bw t' y')(hW:Below wr.heap.size wr W2)(hst:dz ρ W2 Ws (.good l) big)(d2:dz ρ Ws w3 (af (ar 4) (.good l)) big)
  (GZ:t2.at_ w3 (gf Ws.heap.size w3) v2) (pn:bw.head pw=false) (hop:bw.op 3=some bi) (hl:bw.words.tail=l) (fC:au (ar 4) (.good l) t2):
  Ri ρ w big σ q qx (cr ((w3.alloc (jP v2)).alloc (kX y' v2)) qx (vE bi (w3.heap.size+1) 2)) (gH bi [t',t2]) (vE bi (w3.heap.size+1) 2):=by
 have hz1:=d2.size;have hz2:=hst.size;have hz3:=hW.size;have Sz:=A.blk.lt;have Dz:Below w3.heap.size w3 ((w3.alloc (jP v2)).alloc (kX y' v2)):=ae.then (aa w3 _) (aa _ _)
 have hsz:((w3.alloc (jP v2)).alloc (kX y' v2)).heap.size=w3.heap.size+2:=by simp
 have hN:ah ((w3.alloc (jP v2)).alloc (kX y' v2)) (w3.heap.size+1) 34 (cM y'++cM v2).toArray:=by have:=ah.new (w3.alloc (jP v2)) 34 (cM y'++cM v2).toArray;rw[World.size_alloc] at this;exact this
 have hX:ah ((w3.alloc (jP v2)).alloc (kX y' v2)) qx 34 (cM y').toArray:=(((A.blk.later hW).grown hst.grown (by simp;omega)).grown d2.grown (by simp;omega)).later Dz;have hR:ah ((w3.alloc (jP v2)).alloc (kX y' v2)) q 34 _:=(((A.res.later hW).grown hst.grown (by simp;omega)).grown d2.grown (by simp;omega)).later Dz;have hD:dz ρ w ((w3.alloc (jP v2)).alloc (kX y' v2)) (af (ar 4) (.good l)) big:=(((A.did.later hW).trans hst).trans d2).later Dz;have hT:(gH bi [t',t2]).at_ ((w3.alloc (jP v2)).alloc (kX y' v2)) (Bx (q+1) qx ((w3.alloc (jP v2)).alloc (kX y' v2))) (vE bi (w3.heap.size+1) 2):=by
  refine JZ bi hN ⟨by omega,by omega,by omega⟩ ?_ ?_
  ·exact Tr.at_.keep (eC Dz) _ _ (Tr.at_.keep (eB d2.grown (by omega)) _ _ (Tr.at_.keep (eB hst.grown (by omega)) _ _ (Tr.at_.keep (eC hW) _ _ A.tr)))
  ·exact Tr.at_.keep (OY (by omega) (by omega)) _ _ (GZ.later Dz)
 obtain⟨e1,e2⟩:=iT.some_ A.todo pn hop (y:=t2) (by rw[hl];exact fC);rw[hl] at e1;rw[← e1] at hD;generalize (w3.alloc (jP v2)).alloc (kX y' v2)=W5 at*;refine⟨hD.cr cU (by omega) _,bA hX _,xQ hR (by omega) _,?_,e2⟩;exact Tr.at_.keep (kN (Nat.le_refl _)) _ _ (Tr.at_.keep (Kz (S:=fun w=>Bx (q+1) qx w) (fun w i u=>zf i u) _) _ _ hT)
theorem KA (n:Nat):af (ar 7) (.bad n)=.bad n:=rfl
section
variable {t:Wd} {r:fA} {x:Tr}
theorem vU {p:Ps Tr}(h:p (t::r)=.ok (x,r)):af p (.good (t::r))=.good r∧au p (.good (t::r)) x:=⟨zi h,Ka h⟩
theorem Bp (h:t.k=2):af (ar 7) (.good (t::r))=.good r∧au (ar 7) (.good (t::r)) (ig ⟨2,t.n,ByteArray.empty⟩):=vU (by rw[mW];simp only[jU,h,if_true])
theorem xR (h:t.k=3):af (ar 7) (.good (t::r))=.good r∧au (ar 7) (.good (t::r)) (ig ⟨3,0,⟨t.s.toArray⟩⟩):=vU (by rw[mW];simp[jU,h])
structure Plain (t:Wd):Prop where
 i:t.k≠2
 s:t.k≠3
theorem xS (hp:Plain t)(h:kW jK t=true):af (ar 7) (.good (t::r))=.good r∧au (ar 7) (.good (t::r)) (ig ⟨1,1,ByteArray.empty⟩):=vU (by rw[mW];simp only[jU,hp.i,hp.s,h,if_true,if_false])
theorem vV (hp:Plain t)(h1:kW jK t=false)(h:kW jn t=true):af (ar 7) (.good (t::r))=.good r∧au (ar 7) (.good (t::r)) (ig ⟨1,0,ByteArray.empty⟩):=vU (by rw[mW];simp[jU,hp.i,hp.s,h1,h])
theorem xT (hp:Plain t)(h1:kW jK t=false)(h2:kW jn t=false)(h:kW fo t=true):af (ar 7) (.good (t::r))=.good r∧au (ar 7) (.good (t::r)) (ig fg):=vU (by rw[mW];simp[jU,hp.i,hp.s,h1,h2,h])
theorem Hb (hp:Plain t)(h1:kW jK t=false)(h2:kW jn t=false)(h3:kW fo t=false)(h:kW cj t=true)(hx:au (ar 0) (.good r) x):
  af (ar 7) (.good (t::r))=af (must aN) (af (ar 0) (.good r))∧au (ar 7) (.good (t::r)) x:=by
 have e:ar 7 (t::r)=(do let x ← ar 0;must aN;return x:Ps Tr) r:=by rw[mW];simp[jU,hp.i,hp.s,h1,h2,h3,h]
 have e2:∀τ,af (ar 7) (.good (t::r))=τ↔af (do let x ← ar 0;must aN;return x:Ps Tr) (.good r)=τ:=fun τ=>by simp only[af,e]
 constructor
 ·rw[e2];rw[ay hx,ay (bF _ _)];exact bs _ _
 ·have:au (do let x ← ar 0;must aN;return x:Ps Tr) (.good r) x:=aj hx (aj (bF _ _) (aT _ _));simp only[au,e] at this ⊢;exact this
def ij (n:ByteArray):Ps Tr:=fun l=>if bQ cj l then(match fB n with
 | none=> .error l.length
 | some op=>iK (ar 0) op l.tail)else .ok (jJ n,l)
structure xU (t:Wd):Prop where
 p:Plain t
 wt:kW jK t=false
 wf:kW jn t=false
 wn:kW fo t=false
 wo:kW cj t=false
theorem mZ {n:ByteArray}(h:xU t)(hn:au bE (.good (t::r)) n):af (ar 7) (.good (t::r))=af (ij n) (af bE (.good (t::r)))∧∀z,au (ij n) (af bE (.good (t::r))) z→au (ar 7) (.good (t::r)) z:=by
 have e:ar 7 (t::r)=(bE >>= ij) (t::r):=by rw[mW];simp[jU,h.p.i,h.p.s,h.wt,h.wf,h.wn,h.wo];rfl
 constructor
 ·have:af (ar 7) (.good (t::r))=af (bE >>= ij) (.good (t::r)):=by simp only[af,e]
  rw[this];exact ay hn
 ·intro z hz;have:au (bE >>= ij) (.good (t::r)) z:=aj hn hz;simp only[au,e] at this ⊢;exact this
end
section
variable {n:ByteArray} {σ:aF} {z:Tr} {op:Int}
theorem Hc (h:σ.head cj=false):af (ij n) σ=σ∧au (ij n) σ (jJ n):=by
 match σ,h with
 | .bad m,_=>exact⟨rfl,trivial⟩
 | .good l,h=>
   have h:bQ cj l=false:=h;constructor
   ·simp[af,ij,h]
   ·simp[au,ij,h]
theorem DF (h:σ.head cj=true)(hf:fB n=none):af (ij n) σ=.bad σ.left:=by obtain⟨t,r,rfl,ht⟩:=oP h;have h:bQ cj (t::r)=true:=h;simp[af,ij,h,hf,aF.left]
theorem vW (h:σ.head cj=true)(hf:fB n=some op):af (ij n) σ=af (iK (ar 0) op) (.good σ.words.tail)∧∀z,au (iK (ar 0) op) (.good σ.words.tail) z→au (ij n) σ z:=by
 obtain⟨t,r,rfl,ht⟩:=oP h;have h:bQ cj (t::r)=true:=h;constructor
 ·simp[af,ij,h,hf,aF.words]
 ·intro z hz;simp only[au,aF.words,List.tail_cons] at hz;simp only[au,ij,h,hf,if_true,List.tail_cons];exact hz
end
end Go.Proofs.YtfmbcoeallmnnaaGreatDoor.R
