/- Parts of the proof. -/
import Derived.Test.YtehhdlgjfdnafaaGreatDoorXE12
namespace Go.Proofs.YtehhdlgjfdnafaaGreatDoor
variable{p:Prop}
set_option maxHeartbeats 90000000
set_option maxRecDepth 100000
open Go.Lib (hid)
open Go.ChangeShapes Go.WideShapes Go.ChangeAt Go.RowKit List
set_option linter.unusedVariables false
set_option linter.unusedSimpArgs false
theorem Np{α β:Type}(x:α)(f:α->Ps β):((pure x:Ps α)>>=f)=f x:=rfl
def Z0 (nm:ByteArray):Ps Tr:=λ l=>match kL nm with
 | none=> .error (l.length+1)
 | some op=>po (aO 0) op l
variable{nm:ByteArray}{l:aF}
theorem Yq(h:kL nm=none):Z0 nm l=.error (l.length+1):=by unfold Z0;rw[h]
variable{op:Int}
theorem vZ(h:kL nm=some op):Z0 nm l=po (aO 0) op l:=by unfold Z0;rw[h]
theorem Z1 (W:Ps Tr):po W 20=(do let n <- mq;must bg;let x <- W;must aG;return .mk 20 bU ByteArray.empty n [x]):=by unfold po qL um qj;rw[if_neg Tac,if_pos rfl,if_neg Tac];simp only[ir,Np]
variable{W:Ps Tr}
theorem UF(h:ar eK l=true):po W 22 l=(do must aG;return mB 21 []:Ps Tr) l.tail:=by unfold po countP;rw[if_pos rfl,bK];simp only[h,if_true]
theorem Nq(Xn:op=22->ar eK l=false)(Kq:op≠20)(F3:op≠27)(h28:op≠28):po W op l=(do let x <- W;must aG;return .mk op bU ByteArray.empty 0 [x]:Ps Tr) l:=by
 have ha:qL W op=(do let x <- W;must aG;return .mk op bU ByteArray.empty 0 [x]):=by unfold qL um qj;rw[if_neg Kq,if_neg Taa];simp only[ir,Np]
 unfold po countP;by_cases h:op=22
 ·subst h;rw[if_pos rfl,bK];simp only[Xn rfl,ha];rfl
 ·rw[if_neg h,ha]
theorem Yr(h:op=27\/op=28):po W op=(do let x <- W;must bg;let y <- W;must aG;return .mk op bU ByteArray.empty 0 [x,y]):=by unfold po qL um qj;rw[if_neg Taa,if_neg Taa,if_pos h];simp only[ir,Np]
variable{α β:Type}
theorem Bp(f:α->β)(k:List UInt8):∀l:List (List UInt8×α),(l.map λ x=>(x.1,f x.2)).lookup k=(l.lookup k).map f
 | []=>rfl
 |(x,v)::l=>by simp only[map_cons,lookup_cons,Bp f k l];cases k==x <;> rfl
def Z2:List (List UInt8×Value):=WV.map λ x=>(x.1,.int .u8 x.2)
theorem UG (nm:ByteArray):(Z2.lookup nm.data.toList).getD (.int .u8 0)=.int .u8 ((kL nm).getD 0):=by unfold Z2 kL;rw[Bp (λ o:Int=>Value.int .u8 o)];cases WV.lookup nm.data.toList <;> rfl
theorem Z3(h:kL nm=some op):20<=op/\op<=28/\op≠21:=by
 unfold kL at h
 have:∀(l:List (List UInt8×Int)),(∀x∈l,20<=x.2/\x.2<=28/\x.2≠21)->∀k o,l.lookup k=some o->20<=o/\o<=28/\o≠21:=by
  intro l
  induction l with
  | nil=>intro _ k o h;simp at h
  | cons x l ih=>
    intro hl k o h;obtain⟨x1,x2⟩:=x;rw[lookup_cons] at h;cases hk:(k==x1)
    ·rw[hk] at h;exact ih (λ y hy=>hl y (mem_cons_of_mem _ hy)) k o h
    ·rw[hk] at h;simp only at h;injection h with h;have:=hl (x1,x2) Tae;simp only at this;omega
 exact this WV Tac _ _ h
structure K2 (W:World) (G qx:Nat) (t:Tr) (y:Ex):Prop where
 blk:av W G 36 (aL y).toArray
 tr:t.at_ W (Bx (qx+1) G W) y
 lt:qx < G
variable{W':World}{G qx:Nat}{y:Ex}
theorem K2.later{W:World}  {t:Tr} (h:K2 W G qx t y)(hb:Below W.heap.size W W'):K2 W' G qx t y:=⟨h.blk.later hb,Tr.at_.keep (gB hb) _ _ h.tr,h.lt⟩
variable{ρ:bj}{lg dp:Bool}
theorem K2.go{W:World}    {t:Tr} (h:K2 W G qx t y)(d:aU ρ W W' l lg dp)(hg:ρ.g < qx):K2 W' G qx t y:=
 ⟨d.blk h.blk (by have:=h.lt;omega),Tr.at_.keep (ik d.grown Taa) _ _ h.tr,h.lt⟩
variable{w:World}{t0:Wd}
theorem bj.fy.back(h:ρ.fy w l lg dp)(h0:(dO.good (t0::l)).of ρ.ws):aU ρ w (w.setCell ⟨ρ.g,1,none⟩ (.int .i64 ((ρ.n:Int) - ((l.length:Int)+1)))) (t0::l) lg dp:=by
 have hB:=av.cr h.blk 1 (.int .i64 ((ρ.n:Int) - ((l.length:Int)+1)));have e:(ρ.uL l lg dp).setIfInBounds 1 (.int .i64 ((ρ.n:Int) - ((l.length:Int)+1)))=ρ.uL (t0::l) lg dp:=by unfold bj.uL;simp
 rw[e] at hB;exact⟨h.set hB (bn (az (Below.refl _ _)) 1 _) h0,bn (az (Below.refl _ _)) 1 _⟩
variable{q:Nat}
theorem eH(h:av w q 36 (aL y).toArray):
  w.cell? ⟨q,0,none⟩=some (.int .u8 y.op)/\w.cell? ⟨q,1,none⟩=some (.int .u8 y.v.k)/\w.cell? ⟨q,2,none⟩=some (.int .i64 y.v.n)/\w.cell? ⟨q,3,none⟩=some (.string y.v.s)/\w.cell? ⟨q,4,none⟩=some (.string y.name)/\w.cell? ⟨q,5,none⟩=some (.int .i64 y.width)/\w.cell? ⟨q,6,none⟩=some (.slice y.A y.n y.c):=
 ⟨h.cell 0,h.cell 1,h.cell 2,h.cell 3,h.cell 4,h.cell 5,h.cell 6⟩
variable{T:TypeId}{cs:Array Value}
theorem eM(h:av w q T cs):
  w.frozen? ⟨q,0,none⟩=false/\w.frozen? ⟨q,1,none⟩=false/\w.frozen? ⟨q,2,none⟩=false/\w.frozen? ⟨q,3,none⟩=false/\w.frozen? ⟨q,4,none⟩=false/\w.frozen? ⟨q,5,none⟩=false/\w.frozen? ⟨q,6,none⟩=false:=
 ⟨h.frozen 0,h.frozen 1,h.frozen 2,h.frozen 3,h.frozen 4,h.frozen 5,h.frozen 6⟩
def fx (op width:Int):Ex:=⟨op,rJ,⟨#[]⟩,width,none,0,0⟩
def Cy (op width:Int)(G:Nat):Ex:=⟨op,rJ,⟨#[]⟩,width,some ⟨G,0,none⟩,1,1⟩
theorem UH (w:World)(S:Nat->Prop)(op width:Int):(Tr.mk op bU ByteArray.empty width []).at_ w S (fx op width):=by unfold Tr.at_;exact Ze9
section
variable {ρ:bj} {w wr:World} {lg dp:Bool} {q qx:Nat} {l':aF} {t1:Tr} {y1:Ex} {op width:Int}
theorem mz.EY {n:Int}(A:mz ρ w lg dp q qx wr l' (.mk op bU ByteArray.empty 0 []) (fx op 0))(aZ:ρ.g < w.heap.size)(hq:w.heap.size<=q)(Gd:q < qx):mz ρ w lg dp q qx (wr.setCell ⟨qx,5,none⟩ (.int .i64 n)) l' (.mk op bU ByteArray.empty n []) (fx op n):=by refine⟨A.did.far aZ Taa _ _,?_,A.res.far (p:=⟨qx,5,none⟩) Tad _,UH _ _ _ _⟩;have:=A.blk.cr 5 (.int .i64 n);exact this
theorem zeM.Kbg(h:p:=by
 refine⟨(A.did.far aZ Taa _ _).later hb,?_,(A.res.far (p:=⟨qx,6,none⟩) Tad _).alloc _,?_⟩
 ·have:=A.blk.cr 6 (.slice (some ⟨wr.heap.size,0,none⟩) 1 1);exact this.alloc _
 ·unfold Tr.at_;refine⟨rfl,rfl,rfl,rfl,rfl,[y1],uj qi (by simpa using hN) ⟨by omega,hN.lt,by omega⟩,Tr.Ey ?_⟩;exact Tr.at_.keep (gB hb) _ _ (Tr.at_.keep (Ka (q:=qx) 6 _) _ _ (Tr.at_.keep (Mp hB Taa) _ _ hat))):p:=h
theorem mz.Nr {B:Nat}(A:mz ρ w lg dp q qx wr l' (.mk op bU ByteArray.empty width []) (fx op width))(aZ:ρ.g < w.heap.size)(hq:w.heap.size<=q)(Gd:q < qx)(hB:qx < B)(hat:t1.at_ wr (ep B wr) y1):
  mz ρ w lg dp q qx ((wr.setCell ⟨qx,6,none⟩ (.slice (some ⟨wr.heap.size,0,none⟩) 1 1)).alloc (.cells (aL y1).toArray 36)) l' (.mk op bU ByteArray.empty width [t1]) (Cy op width wr.heap.size):=by
 open zeM in exact Zci
theorem zeN.Kbg(h:p:=by exact⟨hN,Tr.at_.keep (gB hb) _ _ (Tr.at_.keep (λ b hb=>(M0 (p:=qx) (B:=qx+1) (q:=wr.heap.size) Taa 6 _) b ⟨by have:=hb.1;omega,hb.2,by have:=hb.2;omega⟩) _ _ hat),hx⟩):p:=h
theorem mz.Z4 {B:Nat} {t0:Tr} {y0:Ex}(A:mz ρ w lg dp q qx wr l' t0 y0)(Gd:q < qx)(hB:qx < B)(hat:t1.at_ wr (ep B wr) y1):
  K2 ((wr.setCell ⟨qx,6,none⟩ (.slice (some ⟨wr.heap.size,0,none⟩) 1 1)).alloc (.cells (aL y1).toArray 36)) wr.heap.size qx t1 y1:=by
 open zeN in exact Zci
theorem mz.Tq {W:World} {A:Option Addr} {c G:Nat} {t2:Tr} {y2:Ex}(D:aU ρ w W l' lg dp)(X:av W qx 36 (aL (Cy op 0 G)).toArray)(R:av W q 36 dz)(aZ:ρ.g < w.heap.size)(hq:w.heap.size<=q)(Gd:q < qx)
  (tS:RL aL 7 W (ep (qx+1) W) A [y1,y2]) (h1:t1.at_ W (ep (qx+1) W) y1) (h2:t2.at_ W (ep (qx+1) W) y2):mz ρ w lg dp q qx (W.setCell ⟨qx,6,none⟩ (.slice A 2 c)) l' (.mk op bU ByteArray.empty 0 [t1,t2]) ⟨op,rJ,⟨#[]⟩,0,A,2,c⟩:=by
 have hk:∀b,ep (qx+1) W b->(∀o,(W.setCell ⟨qx,6,none⟩ (.slice A 2 c)).cell? ⟨b,o,none⟩=W.cell? ⟨b,o,none⟩)/\Bx (q+1) qx (W.setCell ⟨qx,6,none⟩ (.slice A 2 c)) b:=λ b hb=>
  ⟨((ot (Nat.lt_succ_self qx) 6 _) b hb).1,by have:=hb.1;omega,by simpa [World.setCell] using hb.2,by have:=hb.1;omega⟩
 refine⟨D.far aZ Taa _ _,?_,R.far (p:=⟨qx,6,none⟩) Tad _,?_⟩
 ·have:=X.cr 6 (.slice A 2 c);exact this
 ·unfold Tr.at_;exact⟨rfl,rfl,rfl,rfl,rfl,[y1,y2],tS.keep hk,Tr.Ez (Tr.at_.keep hk _ _ h1) (Tr.at_.keep hk _ _ h2)⟩
end
def mh (v:Val):Ex:=⟨1,v,⟨#[]⟩,0,none,0,0⟩
theorem sI (k n:Int)(s:ByteArray)(w:World):Calls Tryz.prog 242 #[.agg #[.int .u8 k,.int .i64 n,.string s]] w λ e w'=>e=.returned (dA (mh ⟨k,n,s⟩))/\Below w.heap.size w w':=by
 have hb:=af.then (aa w (.cells #[.int .u8 k,.int .i64 n,.string s] 32)) (aa _ (.cells dz 36))
 have hQ:=av.new (w.alloc (.cells #[.int .u8 k,.int .i64 n,.string s] 32)) 36 dz;rw[show(w.alloc (.cells #[.int .u8 k,.int .i64 n,.string s] 32)).heap.size=w.heap.size+1 by simp] at hQ;have HQ:=hid hQ;have HB:=hid hb;clear hQ hb;go_enter Tryz.func242,Tryz.ntmps242;go_wp2_with (first
  |(refine wpList_store_row rfl 36 (.tmp 2) (.tmp 4) rfl (w.heap.size+1) (aL (mh ⟨k,n,s⟩)).toArray rfl rfl 36 dz HQ.out aC rfl (cD _) ?_
    have HR:=hid (HQ.out.row (aL (mh ⟨k,n,s⟩)).toArray)))
 refine bodyPost_ret (v:=dA (mh ⟨k,n,s⟩)) (results_cell_row Tryz.results242 _ _ (w.heap.size+1) 36 (aL (mh ⟨k,n,s⟩)).toArray (0,0) _ rfl HR.out Tryz.underlying36 rfl aC) rfl ⟨rfl,?_⟩;exact HB.out.trans (aJ (cx _ (w.heap.size+1) _) HB.out.size (Nat.le_succ _))
theorem wb (w:World)(S:Nat->Prop)(v:Val):(oM v).at_ w S (mh v):=RN w S v
variable{t:Wd}{r:aF}
theorem Z7(h:t.k=2):ek W (t::r)=.ok (oM ⟨2,t.n,ByteArray.empty⟩,r):=by simp[ek,h]
theorem Ys(h:t.k=3):ek W (t::r)=.ok (oM ⟨3,0,⟨t.s.toArray⟩⟩,r):=by simp[ek,h]
section
variable {W:Ps Tr} {l:aF} (h2:∀t r,l=t::r->t.k≠2/\t.k≠3) (hne:l≠ [])
include h2 hne
theorem Yt (h:ar dZ l=true):ek W l=.ok (oM ⟨1,1,ByteArray.empty⟩,l.tail):=by
 match l,hne with
 | t::r,_=>obtain⟨a,b⟩:=h2 t r rfl;have h:fW dZ t=true:=h;simp[ek,a,b,h]
theorem UI (h1:ar dZ l=false)(h:ar dI l=true):ek W l=.ok (oM ⟨1,0,ByteArray.empty⟩,l.tail):=by
 match l,hne with
 | t::r,_=>obtain⟨a,b⟩:=h2 t r rfl;have h1:fW dZ t=false:=h1;have h:fW dI t=true:=h;simp[ek,a,b,h,h1]
theorem Yu (h1:ar dZ l=false)(h3:ar dI l=false)(h:ar bE l=true):ek W l=.ok (oM bU,l.tail):=by
 match l,hne with
 | t::r,_=>obtain⟨a,b⟩:=h2 t r rfl;have h1:fW dZ t=false:=h1;have h3:fW dI t=false:=h3;have h:fW bE t=true:=h;simp[ek,a,b,h,h1,h3]
theorem Yv (h1:ar dZ l=false)(h3:ar dI l=false)(h4:ar bE l=false)(h:ar bp l=true):ek W l=(do let x <- W;must aG;return x:Ps Tr) l.tail:=by
 match l,hne with
 | t::r,_=>obtain⟨a,b⟩:=h2 t r rfl;have h1:fW dZ t=false:=h1;have h3:fW dI t=false:=h3;have h4:fW bE t=false:=h4;have h:fW bp t=true:=h;simp only[ek,a,b,h,h1,h3,h4,if_true,if_false,tail_cons];rfl
theorem UJ (h1:ar dZ l=false)(h3:ar dI l=false)(h4:ar bE l=false)(h:ar bp l=false):ek W l=kT W l:=by
 match l,hne with
 | t::r,_=>obtain⟨a,b⟩:=h2 t r rfl;have h1:fW dZ t=false:=h1;have h3:fW dI t=false:=h3;have h4:fW bE t=false:=h4;have h:fW bp t=false:=h;simp only[ek,a,b,h,h1,h3,h4,if_true,if_false];rfl
end
variable{n:Nat}
theorem Z8(h:ct l=.error n):kT W l=.error n:=ak h
theorem Z9(h:ct l=.ok (nm,r))(ho:ar bp r=false):kT W l=.ok (ui nm,r):=by unfold kT;refine(ag h).trans ?_;simp only[ho];rfl
theorem aaa(h:ct l=.ok (nm,r))(ho:ar bp r=true):kT (aO 0) l=Z0 nm r.tail:=by unfold kT;refine(ag h).trans ?_;obtain⟨t,q,rfl,_⟩:=ez ho;simp only[ho,if_true];unfold Z0;cases kL nm <;> rfl
def Yw (nm:ByteArray):Ex:=⟨2,rJ,nm,0,none,0,0⟩
theorem zfL.KbH(h:p:=by
 have hst:=bj.fy.step (t:=t.w) (l:=r) Ta6 TaA;have eC:=hid (fw.out.trans hst);have jw:=hid (oL.out.far (p:=⟨ρ.g,1,none⟩) Tad (.int .i64 ((ρ.n:Int) - r.length)));clear hst;unfold bj.ptr;go_wp2_with fail;refine(sI 2 t.w.n ⟨#[]⟩ _).mono ?_;rintro e w3 ⟨rfl,b3⟩;have jv:=hid (eC.out.later b3);have lL:=hid (jw.out.later b3);clear b3 eC jw fw oL DL u0 u1 u2 u3 v0 v1 v2 v3 c0 c1 c2 c3 f1 f2 f3;go_wp2_with (first
  |(refine wpList_store_row rfl 36 (.tmp 2) (.tmp 22) rfl w.heap.size (aL (mh ⟨2,t.w.n,⟨#[]⟩⟩)).toArray rfl rfl 36 dz lL.out aC rfl (cD _) ?_
    have HR:=hid (lL.out.row (aL (mh ⟨2,t.w.n,⟨#[]⟩⟩)).toArray)))
 refine bodyPost_ret (v:=dA (mh ⟨2,t.w.n,⟨#[]⟩⟩)) (results_cell_row Tryz.results241 _ _ w.heap.size 36 (aL (mh ⟨2,t.w.n,⟨#[]⟩⟩)).toArray (0,0) _ rfl HR.out Tryz.underlying36 rfl aC) rfl ?_;exact bM aZ jv.out (wb _ _ ⟨2,t.w.n,⟨#[]⟩⟩) (by rw[HL.out];exact Z7 HK.out)):p:=h
theorem zdb.KaK(h:p:=by open zfL in exact ZdN):p:=h
theorem zcN.KaB(h:p:=by
 have HK:=hid hk;have g2:((t.w.k:Int)==2)=true:=by simp;omega
 open zdb in exact Zba):p:=h
theorem LN (ρ:bj)(w:World)(l:aF)(lg dp:Bool)(h:ρ.fy w l lg dp)(hk:∀t r,l=t::r->t.k=2):
  Calls Tryz.prog 241 #[ρ.ptr] w (eR ρ w lg dp (ek (aO 0)) l):=by
 open zcN in exact ZaX
theorem zfM.KbH(h:p:=by
 have hst:=bj.fy.step (t:=t.w) (l:=r) Ta6 TaA;have eC:=hid (fw.out.trans hst);have jw:=hid (oL.out.far (p:=⟨ρ.g,1,none⟩) Tad (.int .i64 ((ρ.n:Int) - r.length)));clear hst;unfold bj.ptr;go_wp2_with fail;refine(sI 3 0 ⟨t.w.s.toArray⟩ _).mono ?_;rintro e w3 ⟨rfl,b3⟩;have jv:=hid (eC.out.later b3);have lL:=hid (jw.out.later b3);clear b3 eC jw fw oL DL u0 u1 u2 u3 v0 v1 v2 v3 c0 c1 c2 c3 f1 f2 f3;go_wp2_with (first
  |(refine wpList_store_row rfl 36 (.tmp 2) (.tmp 37) rfl w.heap.size (aL (mh ⟨3,0,⟨t.w.s.toArray⟩⟩)).toArray rfl rfl 36 dz lL.out aC rfl (cD _) ?_
    have HR:=hid (lL.out.row (aL (mh ⟨3,0,⟨t.w.s.toArray⟩⟩)).toArray)))
 refine bodyPost_ret (v:=dA (mh ⟨3,0,⟨t.w.s.toArray⟩⟩)) (results_cell_row Tryz.results241 _ _ w.heap.size 36 (aL (mh ⟨3,0,⟨t.w.s.toArray⟩⟩)).toArray (0,0) _ rfl HR.out Tryz.underlying36 rfl aC) rfl ?_;exact bM aZ jv.out (wb _ _ ⟨3,0,⟨t.w.s.toArray⟩⟩) (by rw[HL.out];exact Ys HK.out)):p:=h
theorem zdc.KaK(h:p:=by open zfM in exact ZdN):p:=h
theorem zcO.KaB(h:p:=by
 have HK:=hid hk;have g2:((t.w.k:Int)==2)=false:=by simp;omega
 have g3:((t.w.k:Int)==3)=true:=by simp;omega
 open zdc in exact Zba):p:=h
theorem IQ (ρ:bj)(w:World)(l:aF)(lg dp:Bool)(h:ρ.fy w l lg dp)(hk:∀t r,l=t::r->t.k=3):
  Calls Tryz.prog 241 #[ρ.ptr] w (eR ρ w lg dp (ek (aO 0)) l):=by
 open zcO in exact ZaX
theorem zaI.Kad(h:p:=by
 generalize w1.alloc _=W1 at*;generalize w1.heap.size=tb at*;obtain⟨u0,u1,u2,u3,v0,v1,v2,v3⟩:=aI DL.out;have hm:=bk ρ W1 l lg dp fw.out.at_ ⟨#[116,114,117,101]⟩;rw[show(⟨#[116,114,117,101]⟩:ByteArray).data.toList=dZ from rfl,dM,cg dM] at hm;go_wp2_with fail;refine hm.mono ?_;clear hm;rintro e w2 ⟨rfl,d⟩;have eC:=hid (fw.out.trans d);have jw:=hid (d.blk oL.out Taa);clear d fw oL DL u0 u1 u2 u3 v0 v1 v2 v3;generalize hW2:w2=W2 at*;clear hW2;go_wp2_with fail;refine(sI 1 1 ⟨#[]⟩ _).mono ?_;rintro e w9 ⟨rfl,b9⟩;have HD9:=hid (eC.out.later b9);have Nf:=hid (jw.out.later b9);clear b9 eC jw;go_wp2_with (first
  |(refine wpList_store_row rfl 36 (.tmp 2) (.tmp 42) rfl w.heap.size (aL (mh ⟨1,1,⟨#[]⟩⟩)).toArray rfl rfl 36 dz Nf.out aC rfl (cD _) ?_
    have HR:=hid (Nf.out.row (aL (mh ⟨1,1,⟨#[]⟩⟩)).toArray)))
 refine bodyPost_ret (v:=dA (mh ⟨1,1,⟨#[]⟩⟩)) (results_cell_row Tryz.results241 _ _ w.heap.size 36 (aL (mh ⟨1,1,⟨#[]⟩⟩)).toArray (0,0) _ rfl HR.out Tryz.underlying36 rfl aC) rfl ?_;exact bM aZ HD9.out (wb _ _ ⟨1,1,⟨#[]⟩⟩) (Yt Yx.out TaV dM)):p:=h
theorem Qf (ρ:bj)(w:World)(l:aF)(lg dp:Bool)(h:ρ.fy w l lg dp)(hk:∀t r,l=t::r->t.k≠2/\t.k≠3)(dM:ar dZ l=true):
  Calls Tryz.prog 241 #[ρ.ptr] w (eR ρ w lg dp (ek (aO 0)) l):=by have Yx:=hid hk;open zaI in exact Zag
theorem zaJ.Kad(h:p:=by
 generalize w1.alloc _=W1 at*;generalize w1.heap.size=tb at*;obtain⟨u0,u1,u2,u3,v0,v1,v2,v3⟩:=aI DL.out;have hm:=bk ρ W1 l lg dp fw.out.at_ ⟨#[116,114,117,101]⟩;rw[show(⟨#[116,114,117,101]⟩:ByteArray).data.toList=dZ from rfl,dM,bS dM] at hm;go_wp2_with fail;refine hm.mono ?_;clear hm;rintro e w2 ⟨rfl,d⟩;have eC:=hid (fw.out.trans d);have jw:=hid (d.blk oL.out Taa);clear d fw oL DL u0 u1 u2 u3 v0 v1 v2 v3;generalize hW2:w2=W2 at*;clear hW2;have hm:=bk ρ W2 l lg dp eC.out.at_ ⟨#[102,97,108,115,101]⟩;rw[show(⟨#[102,97,108,115,101]⟩:ByteArray).data.toList=dI from rfl,ej,cg ej] at hm;go_wp2_with fail;refine hm.mono ?_;clear hm;rintro e w3 ⟨rfl,d⟩;have jv:=hid (eC.out.trans d);have lL:=hid (d.blk jw.out Taa);clear d eC jw;generalize hW3:w3=W3 at*;clear hW3;go_wp2_with fail;refine(sI 1 0 ⟨#[]⟩ _).mono ?_;rintro e w9 ⟨rfl,b9⟩;have HD9:=hid (jv.out.later b9);have Nf:=hid (lL.out.later b9);clear b9 jv lL;go_wp2_with (first
  |(refine wpList_store_row rfl 36 (.tmp 2) (.tmp 47) rfl w.heap.size (aL (mh ⟨1,0,⟨#[]⟩⟩)).toArray rfl rfl 36 dz Nf.out aC rfl (cD _) ?_
    have HR:=hid (Nf.out.row (aL (mh ⟨1,0,⟨#[]⟩⟩)).toArray)))
 refine bodyPost_ret (v:=dA (mh ⟨1,0,⟨#[]⟩⟩)) (results_cell_row Tryz.results241 _ _ w.heap.size 36 (aL (mh ⟨1,0,⟨#[]⟩⟩)).toArray (0,0) _ rfl HR.out Tryz.underlying36 rfl aC) rfl ?_;exact bM aZ HD9.out (wb _ _ ⟨1,0,⟨#[]⟩⟩) (UI Yx.out TaV dM ej)):p:=h
theorem Qg (ρ:bj)(w:World)(l:aF)(lg dp:Bool)(h:ρ.fy w l lg dp)(hk:∀t r,l=t::r->t.k≠2/\t.k≠3)(dM:ar dZ l=false)(ej:ar dI l=true):
  Calls Tryz.prog 241 #[ρ.ptr] w (eR ρ w lg dp (ek (aO 0)) l):=by have Yx:=hid hk;open zaJ in exact Zag
theorem zaK.Kad(h:p:=by
 generalize w1.alloc _=W1 at*;generalize w1.heap.size=tb at*;obtain⟨u0,u1,u2,u3,v0,v1,v2,v3⟩:=aI DL.out;have hm:=bk ρ W1 l lg dp fw.out.at_ ⟨#[116,114,117,101]⟩;rw[show(⟨#[116,114,117,101]⟩:ByteArray).data.toList=dZ from rfl,dM,bS dM] at hm;go_wp2_with fail;refine hm.mono ?_;clear hm;rintro e w2 ⟨rfl,d⟩;have eC:=hid (fw.out.trans d);have jw:=hid (d.blk oL.out Taa);clear d fw oL DL u0 u1 u2 u3 v0 v1 v2 v3;generalize hW2:w2=W2 at*;clear hW2;have hm:=bk ρ W2 l lg dp eC.out.at_ ⟨#[102,97,108,115,101]⟩;rw[show(⟨#[102,97,108,115,101]⟩:ByteArray).data.toList=dI from rfl,ej,bS ej] at hm;go_wp2_with fail;refine hm.mono ?_;clear hm;rintro e w3 ⟨rfl,d⟩;have jv:=hid (eC.out.trans d);have lL:=hid (d.blk jw.out Taa);clear d eC jw;generalize hW3:w3=W3 at*;clear hW3;have hm:=bk ρ W3 l lg dp jv.out.at_ ⟨#[110,117,108,108]⟩;rw[show(⟨#[110,117,108,108]⟩:ByteArray).data.toList=bE from rfl,iZ,cg iZ] at hm;go_wp2_with fail;refine hm.mono ?_;clear hm;rintro e w4 ⟨rfl,d⟩;have oF:=hid (jv.out.trans d);have Ct:=hid (d.blk lL.out Taa);clear d jv lL;generalize Fy:w4=W4 at*;clear Fy;go_wp2_with fail;refine(sI 0 0 ⟨#[]⟩ _).mono ?_;rintro e w9 ⟨rfl,b9⟩;have HD9:=hid (oF.out.later b9);have Nf:=hid (Ct.out.later b9);clear b9 oF Ct;go_wp2_with (first
  |(refine wpList_store_row rfl 36 (.tmp 2) (.tmp 52) rfl w.heap.size (aL (mh ⟨0,0,⟨#[]⟩⟩)).toArray rfl rfl 36 dz Nf.out aC rfl (cD _) ?_
    have HR:=hid (Nf.out.row (aL (mh ⟨0,0,⟨#[]⟩⟩)).toArray)))
 refine bodyPost_ret (v:=dA (mh ⟨0,0,⟨#[]⟩⟩)) (results_cell_row Tryz.results241 _ _ w.heap.size 36 (aL (mh ⟨0,0,⟨#[]⟩⟩)).toArray (0,0) _ rfl HR.out Tryz.underlying36 rfl aC) rfl ?_;exact bM aZ HD9.out (wb _ _ ⟨0,0,⟨#[]⟩⟩) (Yu Yx.out TaV dM ej iZ)):p:=h
theorem Qh (ρ:bj)(w:World)(l:aF)(lg dp:Bool)(h:ρ.fy w l lg dp)(hk:∀t r,l=t::r->t.k≠2/\t.k≠3)(dM:ar dZ l=false)(ej:ar dI l=false)(iZ:ar bE l=true):
  Calls Tryz.prog 241 #[ρ.ptr] w (eR ρ w lg dp (ek (aO 0)) l):=by have Yx:=hid hk;open zaK in exact Zag
def LC:Ps Wd
 | []=> .error 0
 | t::r=>if t.k=2 then .ok (t,r)else .error (t::r).length
theorem Qa (ρ:bj)(w:World)(l:aF)(lg dp:Bool)(h:ρ.fy w l lg dp):
  Calls Tryz.prog 153 #[ρ.ptr,.int .u8 2] w (GP ρ w LC l λ t r v w'=>v=.agg (bV (ρ.tok l))/\t=(ρ.tok l).w/\(0<=t.n/\t.n<=9223372036854775807)/\aU ρ w w' r lg dp):=by
 obtain⟨t,r,pl,oa,hl,hlt,hsm,hpl,zo,xY,uA,hp⟩:=h.lp;have h0:=h.later (aa w xh);have hb0:=aa w xh;have eB:=gL ρ _ l lg dp h0;have rp:=h.left;have aZ:=h.mE;have HH:=hid h;rw[<- oa] at eB ⊢;have HL:=hid hl;unfold xh at eB hb0;clear oa hpl zo hp hlt h h0 hl;have aeX:=hid eB;clear eB;by_cases hk:t.w.k=2
 ·have HK:=hid hk;have g1:((t.w.k:Int) != 2)=false:=by simp;omega
  clear hk;go_enter Tryz.func153,Tryz.ntmps153;go_wp2_with fail;refine aeX.out.mono ?_;rintro e w1 ⟨rfl,b1⟩;have hZ:=av.new w 81 #[.int .u8 0,.string ⟨#[]⟩,.int .i64 0,.int .i64 0];have HZ:=hid ((hZ.later b1).alloc (.cells (bV t) 81));have HT:=hid (av.new w1 81 (bV t));have hg1:ρ.g < w1.heap.size:=Nat.lt_of_lt_of_le aZ (Nat.le_trans Tae b1.size);have hg2:w.heap.size < w1.heap.size:=Nat.lt_of_lt_of_le Tae b1.size;have hb:=af.then (af.then hb0 b1) (aa w1 (.cells (bV t) 81));have HB:=hid hb;have HW:=hid (HH.out.later hb);obtain⟨c0,c1,c2,c3,f1,f2,f3⟩:=(HH.out.later hb).facts;obtain⟨u0,u1,u2,u3,v0,v1,v2,v3⟩:=aI HT.out;have e1:(ρ.n:Int) - ((r.length:Int)+1)+1=(ρ.n:Int) - r.length:=by omega
  rw[show(l.length:Int)=(r.length:Int)+1 by rw[HL.out];rfl] at c1;clear hZ hb b1 hb0;have tS:r.length+1<=ρ.n:=by have:=HL.out;rw[this] at rp;simpa using rp.2
  have hstep:=bj.fy.step (t:=t.w) (l:=r) (by have:=HW.out;rw[HL.out] at this;exact this) TaA;have wG:=HT.out.far (p:=⟨ρ.g,1,none⟩) Tad (.int .i64 ((ρ.n:Int) - r.length));have BV:=HZ.out.far (p:=⟨ρ.g,1,none⟩) Tad (.int .i64 ((ρ.n:Int) - r.length));have HT3:=hid wG;have BM:=hid BV;have jv:=hid ((aU.aA HH.out HB.out).trans hstep);clear HT HZ wG BV hstep HW HH rp;unfold bV at*;unfold bj.ptr;go_upto_region 2 with fail;generalize (w1.alloc _)=W1 at*;go_upto_region 5 with fail;refine wp_region_lit ?_;refine wpList_load_row rfl 81 (.tmp 5) rfl w1.heap.size rfl 81 (bV t) (0,0) _ HT3.out Tryz.underlying81 rfl tE ?_;refine wpList_store_row rfl 81 (.tmp 4) (.tmp 21) rfl w.heap.size (bV t) rfl rfl 81 #[.int .u8 0,.string ⟨#[]⟩,.int .i64 0,.int .i64 0] BM.out tE rfl (by simp[bV,Value.oneCell']) ?_;refine wpList_nil ?_;have HR:=BM.out.row (bV t);have HDF:=jv.out.own aZ (cx _ w.heap.size (bV t)) (λ G e=>by injection e with e;omega);have JQ:=hid HR;have ajs:=hid HDF;clear HR HDF HT3 BM jv HB c0 c1 c2 c3 f1 f2 f3 u0 u1 u2 u3 v0 v1 v2 v3;generalize (World.setRow _ w.heap.size (bV t))=WF at*;go_wp2_with fail;refine bodyPost_ret (v:=.agg (bV t)) (results_cell_row Tryz.results153 _ _ w.heap.size 81 (bV t) (0,0) _ rfl JQ.out Tryz.underlying81 rfl tE) rfl ?_;refine GP.ok (x:=t.w) (r:=r) ?_ ⟨rfl,rfl,⟨xY,uA⟩,ajs.out⟩;rw[HL.out];simp only[LC,if_pos HK.out]
 ·have g1:((t.w.k:Int) != 2)=true:=by simp;omega
  have HK:=hid hk;clear hk;go_enter Tryz.func153,Tryz.ntmps153;go_wp2_with fail;refine aeX.out.mono ?_;rintro e w1 ⟨rfl,b1⟩;have hb:=af.then (af.then hb0 b1) (aa w1 (.cells (bV t) 81));have hf:=jk ρ _ l lg dp (HH.out.later hb);have HB:=hid hb;unfold bV at*;clear hb b1 hb0;go_wp2_with fail;refine hf.mono ?_;rintro e w2 ⟨rfl,hg2⟩;go_wp2_with fail;refine aj rfl ?_;refine GP.err (n:=l.length) ?_ ⟨rfl,ai (az HB.out) hg2⟩;rw[HL.out];simp only[LC,if_neg HK.out]
theorem Yj(h:LC l=.ok (t,r)):mq l=.ok (t.n,r):=by
 match l with
 | []=>cases h
 | x::q=>
   simp only[LC,mq] at h ⊢;split at h
   ·rename_i hk;injection h with h;injection h with h1 h2;subst h1;subst h2;rw[if_pos hk]
   ·cases h
theorem Uy(h:LC l=.error n):mq l=.error n:=by
 match l with
 | []=>injection h with h;rw[<- h];rfl
 | x::q=>
   simp only[LC,mq] at h ⊢;split at h
   ·cases h
   ·rename_i hk;rw[if_neg hk];injection h with h;rw[h]
theorem dP (ρ:bj)(w:World)(l:aF)(lg dp:Bool)(h:ρ.fy w l lg dp):
  Calls Tryz.prog 117 #[ρ.ptr] w (GP ρ w mq l λ n r v w'=>v=.int .i64 n/\(0<=n/\n<=9223372036854775807)/\aU ρ w w' r lg dp):=by
 have hk:=Qa ρ w l lg dp h;go_enter Tryz.func117,Tryz.ntmps117;go_wp2_with fail;refine hk.mono ?_;clear hk;intro e w1 hp;rcases hp.cases with ⟨t,r,v,ay,rfl,rfl,ht,hn,d1⟩|⟨n,au,rfl,hg⟩
 ·have HT:=hid ht;clear ht hp;generalize ρ.tok l=tk at*;have QO:=xy (.int .u8 tk.w.k) (.string ⟨tk.w.s.toArray⟩) (.int .i64 tk.w.n) (.int .i64 tk.p);unfold bV;go_wp2_with fail;go_ret;exact GP.ok (Yj ay) ⟨by rw[HT.out];rfl,hn,d1⟩
 ·clear hp;go_wp2_with fail;exact aj rfl (GP.err (Uy au) ⟨rfl,hg⟩)
theorem dN (ρ:bj)(w:World)(l:aF)(lg dp:Bool)(h:ρ.fy w l lg dp):
  Calls Tryz.prog 112 #[ρ.ptr] w (GP ρ w ct l λ x r v w'=>v=.string x/\aU ρ w w' r lg dp):=by
 obtain⟨t,r,pl,oa,hl,hlt,hsm,hpl,zo,xY,uA,hp⟩:=h.lp;have eB:=gL ρ w l lg dp h;have rp:=h.left;have aZ:=h.mE;have HH:=hid h;rw[<- oa] at eB;have HL:=hid hl;have tS:r.length+1<=ρ.n:=by have:=rp.2;rw[hl] at this;simpa using this
 have PZ:=hid (show(l.length:Int)=(r.length:Int)+1 by rw[hl];rfl);clear oa hpl zo hp hlt h hl rp;go_enter Tryz.func112,Tryz.ntmps112;go_wp2_with fail;refine eB.mono ?_;clear eB;rintro e w1 ⟨rfl,b1⟩;have HT:=hid (av.new w1 81 (bV t));have hg1:ρ.g < w1.heap.size:=Nat.lt_of_lt_of_le aZ b1.size;have HB:=hid (af.then b1 (aa w1 (.cells (bV t) 81)));clear b1;unfold bV at*;go_upto_region 2 with fail;generalize (w1.alloc _)=W1 at*;obtain⟨u0,u1,u2,u3,v0,v1,v2,v3⟩:=aI HT.out;have HW:=hid (HH.out.later HB.out);have hres:=λ B hE=>uZ (B:=B) ⟨t.w.s.toArray⟩ W1 hE
 obtain⟨B,hB,hE⟩:=HW.out.env;have hres:=hres B hE;have ja:(⟨t.w.s.toArray⟩:ByteArray).data.toList=t.w.s:=by simp
 rw[ja] at hres;have HE:=hid hE;have Bh:=jk ρ W1 l lg dp HW.out;have e1:(ρ.n:Int) - ((r.length:Int)+1)+1=(ρ.n:Int) - r.length:=by omega
 clear hE hB ja;by_cases hk:t.w.k=1
 ·have HK:=hid hk;have g1:((t.w.k:Int) != 1)=false:=by simp;omega
  clear hk;cases hr:jT t.w.s
  ·rw[hr] at hres;have HR:=hid hr;clear hr Bh;go_wp2_with fail;refine hres.mono ?_;clear hres;rintro e w2 ⟨rfl,b2⟩;obtain⟨c0,c1,c2,c3,f1,f2,f3⟩:=(HW.out.later b2).facts;rw[PZ.out] at c1;have hT2:=(HT.out.later b2).far (p:=⟨ρ.g,1,none⟩) Tad (.int .i64 ((ρ.n:Int) - r.length));have z1:=hT2.cell 1;have hst:=bj.fy.step (t:=t.w) (l:=r) (by have:=HW.out.later b2;rw[HL.out] at this;exact this) TaA;have HD:=hid ((aU.aA HH.out (af.then HB.out b2)).trans hst);simp only[Uaa] at z1;clear hT2 hst b2 HW HT u0 u1 u2 u3 v0 v1 v2 v3;unfold bj.ptr;go_wp2_with fail;go_ret;refine GP.ok (x:=⟨t.w.s.toArray⟩) (r:=r) ?_ ⟨rfl,HD.out⟩;rw[HL.out];simp only[ct,HK.out,HR.out,and_self,if_true]
  ·rw[hr] at hres;have HR:=hid hr;clear hr Bh;go_wp2_with fail;refine hres.mono ?_;clear hres;rintro e w2 ⟨rfl,b2⟩;have hf:=jk ρ w2 l lg dp (HW.out.later b2);have px:=hid (af.then HB.out b2);clear b2;go_wp2_with fail;refine hf.mono ?_;rintro e w3 ⟨rfl,hg2⟩;go_wp2_with fail;refine aj rfl ?_;refine GP.err (n:=l.length) ?_ ⟨rfl,ai (az px.out) hg2⟩;rw[HL.out];simp only[ct,HK.out,HR.out];rfl
 ·have HK:=hid hk;have g1:((t.w.k:Int) != 1)=true:=by simp;omega
  clear hk hres;go_wp2_with fail;refine Bh.mono ?_;rintro e w3 ⟨rfl,hg2⟩;go_wp2_with fail;refine aj rfl ?_;refine GP.err (n:=l.length) ?_ ⟨rfl,ai (az HB.out) hg2⟩;rw[HL.out];simp only[ct];rw[if_neg (by intro hh;exact HK.out hh.1)]
theorem Qe:(Tryz.prog.info? 36).map (λ i=>(i.zero,i.size,i.bytes))=some (some (.agg dz),7,88):=by kernel_rfl
theorem zfj.Kbv(h:p:=by
 clear d oV uy k0 k1 k2 k3 k4 k5 k6 f0 f1 f2 f3 f4 f5 f6;generalize hW2:w2=W2 at*;clear hW2;obtain⟨k0,k1,k2,k3,k4,k5,k6⟩:=eH (fV.out).blk;obtain⟨f0,f1,f2,f3,f4,f5,f6⟩:=eM (fV.out).blk;unfold fx at k0 k1 k2 k3 k4 k5 k6;simp only at k0 k1 k2 k3 k4 k5 k6;go_wp2_with fail;refine(IH l W2 (Nat.le_refl _) fV.out.did.at_).mono ?_;intro e w3 hp;rcases hp.cases with ⟨t3,r3,v,ay,rfl,y3,rfl,hat,d⟩|⟨m,au,rfl,hg⟩;case inr=>have HF:=hid (wu.out.trans (ak au));have HG:=hid (fV.out.did.grown);clear hp au;go_wp2_with fail;exact aj rfl (bl HF.out HG.out hg)
 clear k0 k1 k2 k3 k4 k5 k6 f0 f1 f2 f3 f4 f5 f6;have tq:=hid (wu.out.trans (ag ay));have Ra:r3.length<=l.length:=Nat.le_trans ((bR 0).len ay) (Nat.le_refl _);have zx:=fV.out.go d Taa Taa;have mf:=hid (zx.Nr aZ (Nat.le_refl _) Gd fV.out.blk.lt hat);have Z5:=zx.blk.lt;have zI:=hid zx;obtain⟨k0,k1,k2,k3,k4,k5,k6⟩:=eH (zI.out).blk;obtain⟨f0,f1,f2,f3,f4,f5,f6⟩:=eM (zI.out).blk;unfold fx at k0 k1 k2 k3 k4 k5 k6;simp only at k0 k1 k2 k3 k4 k5 k6;clear hp ay zx d hat fV wu;unfold dA;unfold aL at mf ⊢;go_upto_region 15 with fail;clear zI Z5 k0 k1 k2 k3 k4 k5 k6 f0 f1 f2 f3 f4 f5 f6;generalize (World.alloc _ _)=W3 at*;generalize w3.heap.size=G3 at*;replace mf:=hid (show mz ρ w lg dp w.heap.size qx W3 r3 (.mk 22 bU ByteArray.empty 0 [t3]) (Cy 22 0 G3)from mf.out);have hb:=aa W3 (.cells (aK [aG]) 9);have HB:=hid (mf.out.later hb);have uK:=mf.out.did.lt;have hm:=aR ρ _ _ lg dp HB.out.did.at_ [aG] W3.heap.size 1 rfl (av.new W3 _ _) Taa Taa;clear hb;unfold aK strOf at hm HB;simp only[map_cons,map_nil] at hm HB;rw[show aG.toArray= #[41] from rfl] at hm HB;go_wp2_with fail;refine hm.mono ?_;clear hm;intro e w4 hp;rcases hp.cases with ⟨_,r4,v,ay,rfl,rfl,d⟩|⟨m,au,rfl,hg⟩;case inr=>have HF:=hid (tq.out.trans (ak (show must aG r3=.error m by rw[<- ax];exact au)));have HG:=hid (HB.out.did.grown);clear hp au;go_wp2_with fail;exact aj rfl (bl HF.out HG.out hg)
 have jx:must aG r3=.ok ((),r4):=by rw[<- ax];exact ay
 have JA:=hid (tq.out.trans (ag jx));have hl4:r4.length<=l.length:=Nat.le_trans ((cq aG).len jx) Ra;have pT:=hid (HB.out.go d Taa Taa);clear hp ay jx d HB mf tq uK;generalize Fy:w4=W4 at*;clear Fy;have HT:=hid (Tr.at_.keep (jF (Nat.le_refl _)) _ _ pT.out.tr);go_wp2_with (first
  |(refine wpList_load_row rfl 36 (.tmp 7) rfl qx rfl 36 (aL (Cy 22 0 G3)).toArray (0,0) _ pT.out.blk Tryz.underlying36 rfl aC ?_)
  |(refine wpList_store_row rfl 36 (.tmp 6) (.tmp 70) rfl w.heap.size (aL (Cy 22 0 G3)).toArray rfl rfl 36 dz pT.out.res aC rfl (cD _) ?_
    have HR:=hid (pT.out.res.row (aL (Cy 22 0 G3)).toArray)))
 refine bodyPost_ret (v:=dA (Cy 22 0 G3)) (results_cell_row Tryz.results243 _ _ w.heap.size 36 (aL (Cy 22 0 G3)).toArray (0,0) _ rfl HR.out Tryz.underlying36 rfl aC) rfl ?_;exact bM aZ pT.out.did HT.out (JA.out.trans rfl)):p:=h
theorem zfk.Kbv(h:p:=by
 have hl2:l.tail.length<=l.length:=by simp
 clear d oV uy k0 k1 k2 k3 k4 k5 k6 f0 f1 f2 f3 f4 f5 f6;generalize hW2:w2=W2 at*;clear hW2;have hb:=aa W2 (.cells (aK [aG]) 9);have HB:=hid (fV.out.later hb);have uK:=fV.out.did.lt;have hm:=aR ρ _ _ lg dp HB.out.did.at_ [aG] W2.heap.size 1 rfl (av.new W2 _ _) Taa Taa;clear hb;unfold aK strOf at hm HB;simp only[map_cons,map_nil] at hm HB;rw[show aG.toArray= #[41] from rfl] at hm HB;go_wp2_with fail;refine hm.mono ?_;clear hm;intro e w3 hp;rcases hp.cases with ⟨_,r3,v,ay,rfl,rfl,d⟩|⟨m,au,rfl,hg⟩;case inr=>have HF:=hid (wu.out.trans (ak (show must aG l.tail=.error m by rw[<- ax];exact au)));have HG:=hid (HB.out.did.grown);clear hp au;go_wp2_with fail;exact aj rfl (bl HF.out HG.out hg)
 have jx:must aG l.tail=.ok ((),r3):=by rw[<- ax];exact ay
 have tq:=hid (wu.out.trans (ag jx));have Ra:r3.length<=l.length:=Nat.le_trans ((cq aG).len jx) hl2;have mf:=hid (HB.out.go d Taa Taa);clear hp ay jx d HB fV wu uK;generalize hW3:w3=W3 at*;clear hW3;go_wp2_with (first
  |(refine wpList_store_row rfl 36 (.tmp 6) (.tmp 44) rfl w.heap.size (aL (fx 21 0)).toArray rfl rfl 36 dz mf.out.res aC rfl (cD _) ?_
    have HR:=hid (mf.out.res.row (aL (fx 21 0)).toArray)))
 refine bodyPost_ret (v:=dA (fx 21 0)) (results_cell_row Tryz.results243 _ _ w.heap.size 36 (aL (fx 21 0)).toArray (0,0) _ rfl HR.out Tryz.underlying36 rfl aC) rfl ?_;exact bM aZ mf.out.did (UH _ _ 21 0) (tq.out.trans rfl)):p:=h
theorem LK (ρ:bj)(w:World)(l:aF)(lg dp:Bool)(h:ρ.fy w l lg dp)(nm:ByteArray)(t0:Wd)(h0:(dO.good (t0::l)).of ρ.ws)(IH:∀(l2:aF) (W:World),l2.length<=l.length->ρ.fy W l2 lg dp->Calls Tryz.prog 154 #[ρ.ptr] W (eR ρ W lg dp (aO 0) l2)):
  Calls Tryz.prog 243 #[ρ.ptr,.string nm,.int .i64 ((ρ.n:Int) - ((l.length:Int)+1))] w (eR ρ w lg dp (Z0 nm) l):=by
 obtain⟨op,hv⟩:∃op,(kL nm).getD 0=op:=⟨_,rfl⟩;have aZ:=h.mE;have hb:=aa w (.cells dz 36);have hsz:(w.alloc (.cells dz 36)).heap.size=w.heap.size+1:=by simp
 have HQ:=hid (av.new w 36 dz);have HD:=hid (aU.aA h hb);have HM:=kJ.new (w.alloc (.cells dz 36));have HG:=az (p:=w.heap.size+1) (aa (w.alloc (.cells dz 36)) (.map #[] 0));rw[hsz] at HM;have Wb:= @run_makeMap Tryz.prog;clear h hb;have hlen:=h0.1.length_le;unfold dz at HM HG hsz;go_enter Tryz.func243,Tryz.ntmps243;go_upto_region 1 with fail;refine wp_region_lit ?_;refine fH rfl 158 rfl ?_;rw[show(w.alloc _).heap.size=w.heap.size+1 from hsz];refine bh Tryz.underlying158 Tryz.underlying9 rfl _ _ _ rfl (w.heap.size+1) rfl [98,117,99,107,101,116] rfl (.int .u8 20) rfl HM Tac ?_;clear HM;intro wm HM iu;replace HG:=ai HG iu;clear iu;refine bh Tryz.underlying158 Tryz.underlying9 rfl _ _ _ rfl (w.heap.size+1) rfl [99,111,117,110,116] rfl (.int .u8 22) rfl HM Tac ?_;clear HM;intro wm HM iu;replace HG:=ai HG iu;clear iu;refine bh Tryz.underlying158 Tryz.underlying9 rfl _ _ _ rfl (w.heap.size+1) rfl [115,117,109] rfl (.int .u8 23) rfl HM Tac ?_;clear HM;intro wm HM iu;replace HG:=ai HG iu;clear iu;refine bh Tryz.underlying158 Tryz.underlying9 rfl _ _ _ rfl (w.heap.size+1) rfl [109,105,110] rfl (.int .u8 24) rfl HM Tac ?_;clear HM;intro wm HM iu;replace HG:=ai HG iu;clear iu;refine bh Tryz.underlying158 Tryz.underlying9 rfl _ _ _ rfl (w.heap.size+1) rfl [109,97,120] rfl (.int .u8 25) rfl HM Tac ?_;clear HM;intro wm HM iu;replace HG:=ai HG iu;clear iu;refine bh Tryz.underlying158 Tryz.underlying9 rfl _ _ _ rfl (w.heap.size+1) rfl [97,118,103] rfl (.int .u8 26) rfl HM Tac ?_
 clear HM;intro wm HM iu;replace HG:=ai HG iu;clear iu;refine bh Tryz.underlying158 Tryz.underlying9 rfl _ _ _ rfl (w.heap.size+1) rfl [102,105,114,115,116] rfl (.int .u8 27) rfl HM Tac ?_;clear HM;intro wm HM iu;replace HG:=ai HG iu;clear iu;refine bh Tryz.underlying158 Tryz.underlying9 rfl _ _ _ rfl (w.heap.size+1) rfl [108,97,115,116] rfl (.int .u8 28) rfl HM Tac ?_;clear HM;intro wm HM iu;replace HG:=ai HG iu;clear iu;have Ns:=hid HM;have HGG:=hid HG;clear HM HG hsz;have fw:=hid (HD.out.own aZ HGG.out (λ G e=>by injection e with e;omega));have hqm:=HQ.out.grown HGG.out Tae;have Nt:mz ρ w lg dp w.heap.size wm.heap.size (wm.alloc (.cells (aL (fx op 0)).toArray 36)) l (.mk op bU ByteArray.empty 0 []) (fx op 0):=⟨fw.out.later (aa _ _),av.new wm _ _,hqm.alloc _,UH _ _ _ _⟩;have oV:=hid Nt;have Gd:w.heap.size < wm.heap.size:=hqm.lt;have hgx:ρ.g < wm.heap.size:=by omega
 clear Nt fw HQ HD hqm HGG;unfold aL fx rJ at oV;simp only[Act.put,Uac];go_upto_region 2 with (first
  |(refine fc Tryz.underlying158 Tryz.underlying9 rfl _ _ rfl (w.heap.size+1) rfl nm rfl (l:=Z2) Ns.out (z:=.int .u8 0) Tryz.zeroValue5 ?_
    rw[UG nm,hv]))
 clear Ns Wb;generalize wm.alloc _=W1 at*;generalize wm.heap.size=qx at*;replace oV:=hid (show mz ρ w lg dp w.heap.size qx W1 l (.mk op bU ByteArray.empty 0 []) (fx op 0)from oV.out)
 cases hf:kL nm with
 | none=>rw[hf] at hv;have hv:0=op:=hv;subst hv;have hA:=oV.out.did.at_;have ub:=hA.back h0;have QO:=hA.facts.2.2.2.2.1;have gw:=hA.facts.2.1;have HF:=hid (jk ρ _ (t0::l) lg dp ub.at_);have HG:=hid (ai oV.out.did.grown ub.grown);obtain⟨k0,k1,k2,k3,k4,k5,k6⟩:=eH oV.out.blk;unfold fx at k0;simp only at k0;clear hA ub oV k1 k2 k3 k4 k5 k6;unfold bj.ptr at*;go_wp2_with fail;refine HF.out.mono ?_;rintro e w3 ⟨rfl,hg⟩;go_wp2_with fail;exact aj rfl (bl (n:=l.length+1) (Yq hf) HG.out hg)
 | some o=>
   rw[hf] at hv;have hv:o=op:=hv;subst hv;obtain⟨h1,h2,h3⟩:=Z3 hf;by_cases Kq:o=20
   ·subst Kq;clear h1 h2 h3;have uy:=hid ((vZ hf).trans (congrFun (Z1 (aO 0)) l));obtain⟨k0,k1,k2,k3,k4,k5,k6⟩:=eH (oV.out).blk;obtain⟨f0,f1,f2,f3,f4,f5,f6⟩:=eM (oV.out).blk;unfold fx at k0 k1 k2 k3 k4 k5 k6;simp only at k0 k1 k2 k3 k4 k5 k6;go_wp2_with fail;refine(dP ρ W1 l lg dp oV.out.did.at_).mono ?_;intro e w2 hp;rcases hp.cases with ⟨n,r2,v,ay,rfl,rfl,hn,d⟩|⟨m,au,rfl,hg⟩;case inr=>have HF:=hid (uy.out.trans (ak au));have HG:=hid (oV.out.did.grown);clear hp au;go_wp2_with fail;exact aj rfl (bl HF.out HG.out hg)
    have wu:=hid (uy.out.trans (ag ay));have hl2:r2.length<=l.length:=Nat.le_trans (ku.len ay) (Nat.le_refl _);have zx:=oV.out.go d Taa Taa;have fV:=hid (zx.EY (n:=n) aZ (Nat.le_refl _) Gd);have zI:=hid zx;obtain⟨k0,k1,k2,k3,k4,k5,k6⟩:=eH (zI.out).blk;obtain⟨f0,f1,f2,f3,f4,f5,f6⟩:=eM (zI.out).blk;unfold fx at k0 k1 k2 k3 k4 k5 k6;simp only at k0 k1 k2 k3 k4 k5 k6;clear hp ay zx d oV uy;go_upto_region 7 with fail;clear zI k0 k1 k2 k3 k4 k5 k6 f0 f1 f2 f3 f4 f5 f6;generalize w2.setCell _ _=W2 at*;have hb:=aa W2 (.cells (aK [bg]) 9);have HB:=hid (fV.out.later hb);have uK:=fV.out.did.lt;have hm:=aR ρ _ _ lg dp HB.out.did.at_ [bg] W2.heap.size 1 rfl (av.new W2 _ _) Taa Taa;clear hb;unfold aK strOf at hm HB;simp only[map_cons,map_nil] at hm HB;rw[show bg.toArray= #[44] from rfl] at hm HB;go_wp2_with fail;refine hm.mono ?_;clear hm;intro e w3 hp;rcases hp.cases with ⟨_,r3,v,ay,rfl,rfl,d⟩|⟨m,au,rfl,hg⟩;case inr=>have HF:=hid (wu.out.trans (ak (show must bg r2=.error m by rw[<- ax];exact au)));have HG:=hid (HB.out.did.grown);clear hp au;go_wp2_with fail;exact aj rfl (bl HF.out HG.out hg)
    have jx:must bg r2=.ok ((),r3):=by rw[<- ax];exact ay
    have tq:=hid (wu.out.trans (ag jx));have Ra:r3.length<=l.length:=Nat.le_trans ((cq bg).len jx) hl2;have mf:=hid (HB.out.go d Taa Taa);clear hp ay jx d HB fV wu uK;generalize hW3:w3=W3 at*;clear hW3;obtain⟨k0,k1,k2,k3,k4,k5,k6⟩:=eH (mf.out).blk;obtain⟨f0,f1,f2,f3,f4,f5,f6⟩:=eM (mf.out).blk;unfold fx at k0 k1 k2 k3 k4 k5 k6;simp only at k0 k1 k2 k3 k4 k5 k6;go_wp2_with fail;refine(IH r3 W3 Ra mf.out.did.at_).mono ?_;intro e w4 hp;rcases hp.cases with ⟨t4,r4,v,ay,rfl,y4,rfl,hat,d⟩|⟨m,au,rfl,hg⟩;case inr=>have HF:=hid (tq.out.trans (ak au));have HG:=hid (mf.out.did.grown);clear hp au;go_wp2_with fail;exact aj rfl (bl HF.out HG.out hg)
    clear k0 k1 k2 k3 k4 k5 k6 f0 f1 f2 f3 f4 f5 f6;have JA:=hid (tq.out.trans (ag ay));have hl4:r4.length<=l.length:=Nat.le_trans ((bR 0).len ay) Ra;have zx:=mf.out.go d Taa Taa;have pT:=hid (zx.Nr aZ (Nat.le_refl _) Gd mf.out.blk.lt hat);have Z5:=zx.blk.lt;have zI:=hid zx;obtain⟨k0,k1,k2,k3,k4,k5,k6⟩:=eH (zI.out).blk;obtain⟨f0,f1,f2,f3,f4,f5,f6⟩:=eM (zI.out).blk;unfold fx at k0 k1 k2 k3 k4 k5 k6;simp only at k0 k1 k2 k3 k4 k5 k6;clear hp ay zx d hat mf tq;unfold dA;unfold aL at pT ⊢;go_upto_region 15 with fail;clear zI Z5 k0 k1 k2 k3 k4 k5 k6 f0 f1 f2 f3 f4 f5 f6;generalize (World.alloc _ _)=W4 at*;generalize w4.heap.size=G4 at*;replace pT:=hid (show mz ρ w lg dp w.heap.size qx W4 r4 (.mk 20 bU ByteArray.empty n [t4]) (Cy 20 n G4)from pT.out);have hb:=aa W4 (.cells (aK [aG]) 9);have HB:=hid (pT.out.later hb);have uK:=pT.out.did.lt;have hm:=aR ρ _ _ lg dp HB.out.did.at_ [aG] W4.heap.size 1 rfl (av.new W4 _ _) Taa Taa;clear hb;unfold aK strOf at hm HB;simp only[map_cons,map_nil] at hm HB;rw[show aG.toArray= #[41] from rfl] at hm HB;go_wp2_with fail;refine hm.mono ?_;clear hm;intro e w5 hp;rcases hp.cases with ⟨_,r5,v,ay,rfl,rfl,d⟩|⟨m,au,rfl,hg⟩;case inr=>have HF:=hid (JA.out.trans (ak (show must aG r4=.error m by rw[<- ax];exact au)));have HG:=hid (HB.out.did.grown);clear hp au;go_wp2_with fail;exact aj rfl (bl HF.out HG.out hg)
    have jx:must aG r4=.ok ((),r5):=by rw[<- ax];exact ay
    have HE5:=hid (JA.out.trans (ag jx));have hl5:r5.length<=l.length:=Nat.le_trans ((cq aG).len jx) hl4;have Cx:=hid (HB.out.go d Taa Taa);clear hp ay jx d HB pT JA uK;generalize Z6:w5=W5 at*;clear Z6;have HT:=hid (Tr.at_.keep (jF (Nat.le_refl _)) _ _ Cx.out.tr);go_wp2_with (first
     |(refine wpList_load_row rfl 36 (.tmp 7) rfl qx rfl 36 (aL (Cy 20 n G4)).toArray (0,0) _ Cx.out.blk Tryz.underlying36 rfl aC ?_)
     |(refine wpList_store_row rfl 36 (.tmp 6) (.tmp 70) rfl w.heap.size (aL (Cy 20 n G4)).toArray rfl rfl 36 dz Cx.out.res aC rfl (cD _) ?_
       have HR:=hid (Cx.out.res.row (aL (Cy 20 n G4)).toArray)))
    refine bodyPost_ret (v:=dA (Cy 20 n G4)) (results_cell_row Tryz.results243 _ _ w.heap.size 36 (aL (Cy 20 n G4)).toArray (0,0) _ rfl HR.out Tryz.underlying36 rfl aC) rfl ?_;exact bM aZ Cx.out.did HT.out (HE5.out.trans rfl)
   by_cases Xn:o=22
   ·subst Xn;clear h1 h2 h3 Kq;cases hst:ar eK l
    ·have uy:=hid ((vZ hf).trans (Nq (W:=aO 0) (l:=l) (λ _=>hst) Tac Tac Tac));have hm:=bk ρ W1 l lg dp oV.out.did.at_ ⟨#[42]⟩;rw[show(⟨#[42]⟩:ByteArray).data.toList=eK from rfl,hst,bS hst] at hm;open zfj in exact Zc0
    ·have uy:=hid ((vZ hf).trans (UF hst));have hm:=bk ρ W1 l lg dp oV.out.did.at_ ⟨#[42]⟩;rw[show(⟨#[42]⟩:ByteArray).data.toList=eK from rfl,hst,cg hst] at hm;open zfk in exact Zc0
   by_cases F3:o=27\/o=28
   ·have b0:(o==0)=false:=by rw[beq_eq_false_iff_ne];omega
    have b20:(o==20)=false:=by rw[beq_eq_false_iff_ne];omega
    have b22:(o==22)=false:=by rw[beq_eq_false_iff_ne];omega
    have H2:=hid F3
    have hb:(o==27)=true\/((o==27)=false/\(o==28)=true):=by
     rcases F3 with h | h
     ·left;rw[beq_iff_eq];exact h
     ·right;rw[beq_eq_false_iff_ne,beq_iff_eq];omega
    clear h1 h2 h3 Kq Xn F3
    rcases hb with b27 |⟨b27,b28⟩;all_goals
     have uy:=hid ((vZ hf).trans (congrFun (Yr (W:=aO 0) (op:=o) H2.out) l));obtain⟨k0,k1,k2,k3,k4,k5,k6⟩:=eH (oV.out).blk;obtain⟨f0,f1,f2,f3,f4,f5,f6⟩:=eM (oV.out).blk;unfold fx at k0 k1 k2 k3 k4 k5 k6;simp only at k0 k1 k2 k3 k4 k5 k6;go_wp2_with fail;refine(IH l W1 (Nat.le_refl _) oV.out.did.at_).mono ?_;intro e w2 hp;rcases hp.cases with ⟨t2,r2,v,ay,rfl,y2,rfl,hat,d⟩|⟨m,au,rfl,hg⟩;case inr=>have HF:=hid (uy.out.trans (ak au));have HG:=hid (oV.out.did.grown);clear hp au;go_wp2_with fail;exact aj rfl (bl HF.out HG.out hg)
     clear k0 k1 k2 k3 k4 k5 k6 f0 f1 f2 f3 f4 f5 f6;have wu:=hid (uy.out.trans (ag ay));have hl2:r2.length<=l.length:=Nat.le_trans ((bR 0).len ay) (Nat.le_refl _);have zx:=oV.out.go d Taa Taa;have fV:=hid (zx.Nr aZ (Nat.le_refl _) Gd oV.out.blk.lt hat);have MZ:=hid (zx.Z4 Gd oV.out.blk.lt hat);have Z5:=zx.blk.lt;have zI:=hid zx;obtain⟨k0,k1,k2,k3,k4,k5,k6⟩:=eH (zI.out).blk;obtain⟨f0,f1,f2,f3,f4,f5,f6⟩:=eM (zI.out).blk;unfold fx at k0 k1 k2 k3 k4 k5 k6;simp only at k0 k1 k2 k3 k4 k5 k6;clear hp ay zx d hat oV uy;unfold dA;unfold aL at fV MZ ⊢;go_upto_region 13 with fail
     clear zI Z5 k0 k1 k2 k3 k4 k5 k6 f0 f1 f2 f3 f4 f5 f6;generalize (World.alloc _ _)=W2 at*;generalize w2.heap.size=G2 at*;replace fV:=hid (show mz ρ w lg dp w.heap.size qx W2 r2 (.mk o bU ByteArray.empty 0 [t2]) (Cy o 0 G2)from fV.out);replace MZ:=hid (show K2 W2 G2 qx t2 y2 from MZ.out);have hb:=aa W2 (.cells (aK [bg]) 9);have HB:=hid (fV.out.later hb);have uK:=fV.out.did.lt;have hm:=aR ρ _ _ lg dp HB.out.did.at_ [bg] W2.heap.size 1 rfl (av.new W2 _ _) Taa Taa;have HKB:=hid (MZ.out.later hb);clear MZ hb;unfold aK strOf at hm HB HKB;simp only[map_cons,map_nil] at hm HB HKB;rw[show bg.toArray= #[44] from rfl] at hm HB HKB;go_wp2_with fail;refine hm.mono ?_;clear hm;intro e w3 hp;rcases hp.cases with ⟨_,r3,v,ay,rfl,rfl,d⟩|⟨m,au,rfl,hg⟩;case inr=>have HF:=hid (wu.out.trans (ak (show must bg r2=.error m by rw[<- ax];exact au)));have HG:=hid (HB.out.did.grown);clear hp au;go_wp2_with fail;exact aj rfl (bl HF.out HG.out hg)
     have jx:must bg r2=.ok ((),r3):=by rw[<- ax];exact ay
     have tq:=hid (wu.out.trans (ag jx));have Ra:r3.length<=l.length:=Nat.le_trans ((cq bg).len jx) hl2;have mf:=hid (HB.out.go d Taa Taa);have HK3:=hid (HKB.out.go d Taa);clear HKB hp ay jx d HB fV wu uK;generalize hW3:w3=W3 at*;clear hW3;have HC:=hid (show W3.cell? ⟨qx,6,none⟩=some (.slice (some ⟨G2,0,none⟩) 1 1)from mf.out.blk.cell 6);cases xk:aO 0 r3 with
     | error m=>
       have Bn:=hid xk;clear xk;go_wp2_with fail;refine uN (P:=Tryz.prog) (H:=λ W=>W.cell? ⟨qx,6,none⟩=some (.slice (some ⟨G2,0,none⟩) 1 1)) (E:=λ C W=>C=[qH (ρ.placeOf m)]/\w.grownBy W (some ρ.g)) (w0:=W3) (s0:=7) (s1:=0) (d0:=60) (d1:=61) (d2:=62) (d3:=63) (d4:=64) (d5:=65) (d6:=66) (vs0:=.pointer (some ⟨qx,0,none⟩)) (vs1:=ρ.ptr) (u0:=.pointer (some ⟨qx,6,none⟩)) (u1:=.slice (some ⟨G2,0,none⟩) 1 1) (u2:=ρ.ptr) (F:=154) (args:= #[ρ.ptr]) Tab Tab Tab Tab rfl rfl HC.out (λ w' w'' hh hl=>(hl.cell (bY hh)).trans hh) ?_ ?_ ?_ ?_ Tab ?_ ?_
       ·intro ρ' w' hH hc h';simp[go_sem,h']
       ·intro ρ' w' hH hc h';simp[go_sem,h',hH]
       ·intro ρ' w' hH hc h';simp[go_sem,h']
       ·intro ρ' w' hc h';simp[go_sem,h',hc.const,hc.func]
       ·intro w' hw';refine(IH r3 w' Ra (mf.out.did.at_.later hw')).mono ?_;intro e w'' hp;rcases hp.cases with ⟨t3,r3,v,ay,_⟩|⟨m',au,rfl,hg⟩
        ·rw[Bn.out] at ay;cases ay
        ·rw[Bn.out] at au;injection au with au;subst au;exact⟨_,rfl,rfl,ai (mf.out.did.later hw').grown hg⟩
       ·rintro C a W hd ⟨rfl,hg⟩;have hE:=bl (lg:=lg) (dp:=dp) (tq.out.trans (ak Bn.out)) (az (Below.refl _ _)) hg;simp only[Exit.inBlock,Exit.then];exact aj (P:=Tryz.prog) (fn:=Tryz.f243) hd hE
     | ok x=>
       obtain⟨t9,r9⟩:=x;have Bn:=hid xk;clear xk;have HK:=HK3.out;go_wp2_with fail;refine Ht (P:=Tryz.prog) (f:=aL) (val:=dA) (e:=36) (size:=7) (base:=G2) (l:=[y2]) (lv:=.slice (some ⟨G2,0,none⟩) 1 1) (Post:=λ z W W'=>t9.at_ W' (ep W.heap.size W') z/\aU ρ W W' r9 lg dp) (w0:=W3) (q:=7) (d0:=60) (d1:=61) (d2:=62) (d3:=63) (d4:=64) (d5:=65) (d6:=66) (qb:=qx) (k:=6) (g:=ρ.g) (pq:=.pointer (some ⟨qx,0,none⟩)) (ptr:=ρ.ptr) (F:=154) (args:= #[ρ.ptr]) 24 24 _ 88 Tab Tab Tab Tab Tab rfl rfl ?_ ?_ ?_ ?_ ?_ ?_ ?_ Tryz.underlying24 Qe rfl Taa (λ _=>rfl) (by intro y u hu;simp[aL] at hu;rcases hu with rfl | rfl | rfl | rfl | rfl | rfl | rfl <;> rfl) (XS (λ _=>rfl) HK.blk (Nat.le_refl _)) HC.out Taa ?_ ?_ Tae Tae (Nat.le_of_lt HK.blk.lt) ?_ ?_ ?_
       ·intro ρ' w' h';simp[go_sem,h']
       ·intro ρ' w' h';simp[go_sem,h']
       ·intro ρ' w' h' hc';simp[go_sem,h',hc']
       ·intro ρ' w' h';simp[go_sem,h']
       ·intro ρ' w' hc' h';simp[go_sem,h',hc'.const,hc'.func]
       ·intro ρ' w' y' h';simp[go_sem,h',dA,aL]
       ·intro ρ' w' s' v' We pV mV rq;simp only[execOp,resolve,invoke,builtin,Sem.run_bind,Sem.run_pure,Result.andThen_ok,map_toArray,map_cons,map_nil,pV,mV,rq]
       ·have:=HK.lt;simp[Value.ownBlock];omega
       ·have:=HK.lt;simp[Value.ownBlock];omega
       ·intro w' hw';refine(IH r3 w' Ra (mf.out.did.at_.later hw')).mono ?_;intro e w'' hp;rcases hp.cases with ⟨t3,r3,v,ay,rfl,z,rfl,hat,d2⟩|⟨m,au,_⟩
        ·rw[Bn.out] at ay;injection ay with ay;injection ay with h1 h2;subst h1 h2;exact⟨z,rfl,hat,d2⟩
        ·rw[Bn.out] at au;cases au
       ·rintro z w' w'' ⟨_,dd⟩;exact dd.grown
       intro z s v' V1 V1' V2 V3 tO ⟨ht9,d9⟩ hl2 xk kD nV ajI gw;have hgG:=HK.lt;obtain⟨A9,c9,Rn,tS⟩:=KN qi nV (S:=ep (qx+1) V3) (λ g h1 h2=>⟨by omega,h2⟩);have Rn:v'=.slice A9 2 c9:=Rn;subst Rn;have kD:V2.grownBy V3 (some G2):=kD;have hz1:W3.heap.size<=V1.heap.size:=tO.size;have hz2:=d9.size;have hz3:V1'.heap.size<=V2.heap.size:=hl2.size;have uK:=HK.blk.lt;have D9:=(((mf.out.did.later tO).trans d9).later hl2).own aZ kD (λ g h=>by injection h with h;omega);have hX9:=(((mf.out.blk.later tO).grown d9.grown Tad).later hl2).grown kD Tad;have hR9:=(((mf.out.res.later tO).grown d9.grown Tad).later hl2).grown kD Tad;have ht1:=Tr.at_.keep (MT kD G2 (λ g h=>by injection h with h;exact h.symm)) _ _ (Tr.at_.keep (gB hl2) _ _ (Tr.at_.keep (ik d9.grown Taa) _ _ (Tr.at_.keep (gB tO) _ _ HK.tr)));have afg:Tr.at_ _ _ t9 z:=Tr.at_.keep (λ b hb=>⟨λ _=>rfl,(⟨by have:=hb.1;omega,hb.2,by have:=hb.1;omega⟩:Bx (qx+1) G2 V2 b)⟩) t9 z (ht9.later hl2);have Jy:=Tr.at_.keep (MT kD G2 (λ g h=>by injection h with h;exact h.symm)) _ _ afg;have eZ:=hid (mz.Tq (c:=c9) D9 hX9 hR9 aZ (Nat.le_refl _) Gd tS (Tr.at_.keep (jF (Nat.le_refl _)) _ _ ht1) (Tr.at_.keep (jF (Nat.le_refl _)) _ _ Jy));have bH:=hid (tq.out.trans (ag Bn.out));have hl9:r9.length<=l.length:=Nat.le_trans ((bR 0).len Bn.out) Ra;have hf9:=hX9.frozen 6;clear tO ht9 d9 hl2 xk kD nV ajI tS hz1 hz2 hz3 D9 hX9 hR9 ht1 afg Jy mf tq HC HK HK3 uK hgG;simp only[Act.put,Uac];go_upto_region 15 with fail
       clear gw hf9;generalize (V3.setCell _ _)=W9 at*;have hb:=aa W9 (.cells (aK [aG]) 9);have HB:=hid (eZ.out.later hb);have uK:=eZ.out.did.lt;have hm:=aR ρ _ _ lg dp HB.out.did.at_ [aG] W9.heap.size 1 rfl (av.new W9 _ _) Taa Taa;clear hb;unfold aK strOf at hm HB;simp only[map_cons,map_nil] at hm HB;rw[show aG.toArray= #[41] from rfl] at hm HB;go_wp2_with fail;refine hm.mono ?_;clear hm;intro e uF hp;rcases hp.cases with ⟨_,r10,v,ay,rfl,rfl,d⟩|⟨m,au,rfl,hg⟩;case inr=>have HF:=hid (bH.out.trans (ak (show must aG r9=.error m by rw[<- ax];exact au)));have HG:=hid (HB.out.did.grown);clear hp au;go_wp2_with fail;exact aj rfl (bl HF.out HG.out hg)
       have jx:must aG r9=.ok ((),r10):=by rw[<- ax];exact ay
       have LM:=hid (bH.out.trans (ag jx));have aqh:r10.length<=l.length:=Nat.le_trans ((cq aG).len jx) hl9;have Bq:=hid (HB.out.go d Taa Taa);clear hp ay jx d HB eZ bH uK;generalize ajK:uF=W10 at*;clear ajK;have HT:=hid (Tr.at_.keep (jF (Nat.le_refl _)) _ _ Bq.out.tr);go_wp2_with (first
        |(refine wpList_load_row rfl 36 (.tmp 7) rfl qx rfl 36 (aL (⟨o,rJ,⟨#[]⟩,0,A9,2,c9⟩)).toArray (0,0) _ Bq.out.blk Tryz.underlying36 rfl aC ?_)
        |(refine wpList_store_row rfl 36 (.tmp 6) (.tmp 70) rfl w.heap.size (aL (⟨o,rJ,⟨#[]⟩,0,A9,2,c9⟩)).toArray rfl rfl 36 dz Bq.out.res aC rfl (cD _) ?_
          have HR:=hid (Bq.out.res.row (aL (⟨o,rJ,⟨#[]⟩,0,A9,2,c9⟩)).toArray)))
       refine bodyPost_ret (v:=dA (⟨o,rJ,⟨#[]⟩,0,A9,2,c9⟩)) (results_cell_row Tryz.results243 _ _ w.heap.size 36 (aL (⟨o,rJ,⟨#[]⟩,0,A9,2,c9⟩)).toArray (0,0) _ rfl HR.out Tryz.underlying36 rfl aC) rfl ?_;exact bM aZ Bq.out.did HT.out (LM.out.trans rfl)
   have h28:o≠28:=λ h=>F3 (.inr h)
   replace F3:o≠27:=λ h=>F3 (.inl h)
   have uy:=hid ((vZ hf).trans (Nq (W:=aO 0) (l:=l) (λ h=>absurd h Xn) Kq F3 h28));have b0:(o==0)=false:=by rw[beq_eq_false_iff_ne];omega
   have b20:(o==20)=false:=by rw[beq_eq_false_iff_ne];omega
   have b22:(o==22)=false:=by rw[beq_eq_false_iff_ne];omega
   have b27:(o==27)=false:=by rw[beq_eq_false_iff_ne];omega
   have b28:(o==28)=false:=by rw[beq_eq_false_iff_ne];omega
   obtain⟨k0,k1,k2,k3,k4,k5,k6⟩:=eH (oV.out).blk;obtain⟨f0,f1,f2,f3,f4,f5,f6⟩:=eM (oV.out).blk;unfold fx at k0 k1 k2 k3 k4 k5 k6;simp only at k0 k1 k2 k3 k4 k5 k6;go_wp2_with fail;refine(IH l W1 (Nat.le_refl _) oV.out.did.at_).mono ?_;intro e w2 hp;rcases hp.cases with ⟨t2,r2,v,ay,rfl,y2,rfl,hat,d⟩|⟨m,au,rfl,hg⟩;case inr=>have HF:=hid (uy.out.trans (ak au));have HG:=hid (oV.out.did.grown);clear hp au;go_wp2_with fail;exact aj rfl (bl HF.out HG.out hg)
   clear k0 k1 k2 k3 k4 k5 k6 f0 f1 f2 f3 f4 f5 f6;have wu:=hid (uy.out.trans (ag ay));have hl2:r2.length<=l.length:=Nat.le_trans ((bR 0).len ay) (Nat.le_refl _);have zx:=oV.out.go d Taa Taa;have fV:=hid (zx.Nr aZ (Nat.le_refl _) Gd oV.out.blk.lt hat);have Z5:=zx.blk.lt;have zI:=hid zx;obtain⟨k0,k1,k2,k3,k4,k5,k6⟩:=eH (zI.out).blk;obtain⟨f0,f1,f2,f3,f4,f5,f6⟩:=eM (zI.out).blk;unfold fx at k0 k1 k2 k3 k4 k5 k6;simp only at k0 k1 k2 k3 k4 k5 k6;clear hp ay zx d hat oV uy;unfold dA;unfold aL at fV ⊢;go_upto_region 15 with fail;clear zI Z5 k0 k1 k2 k3 k4 k5 k6 f0 f1 f2 f3 f4 f5 f6;generalize (World.alloc _ _)=W2 at*;generalize w2.heap.size=G2 at*;replace fV:=hid (show mz ρ w lg dp w.heap.size qx W2 r2 (.mk o bU ByteArray.empty 0 [t2]) (Cy o 0 G2)from fV.out);have hb:=aa W2 (.cells (aK [aG]) 9);have HB:=hid (fV.out.later hb);have uK:=fV.out.did.lt;have hm:=aR ρ _ _ lg dp HB.out.did.at_ [aG] W2.heap.size 1 rfl (av.new W2 _ _) Taa Taa;clear hb;unfold aK strOf at hm HB;simp only[map_cons,map_nil] at hm HB;rw[show aG.toArray= #[41] from rfl] at hm HB;go_wp2_with fail;refine hm.mono ?_;clear hm;intro e w3 hp;rcases hp.cases with ⟨_,r3,v,ay,rfl,rfl,d⟩|⟨m,au,rfl,hg⟩;case inr=>have HF:=hid (wu.out.trans (ak (show must aG r2=.error m by rw[<- ax];exact au)));have HG:=hid (HB.out.did.grown);clear hp au;go_wp2_with fail;exact aj rfl (bl HF.out HG.out hg)
   have jx:must aG r2=.ok ((),r3):=by rw[<- ax];exact ay
   have tq:=hid (wu.out.trans (ag jx));have Ra:r3.length<=l.length:=Nat.le_trans ((cq aG).len jx) hl2;have mf:=hid (HB.out.go d Taa Taa);clear hp ay jx d HB fV wu uK;generalize hW3:w3=W3 at*;clear hW3;have HT:=hid (Tr.at_.keep (jF (Nat.le_refl _)) _ _ mf.out.tr);go_wp2_with (first
    |(refine wpList_load_row rfl 36 (.tmp 7) rfl qx rfl 36 (aL (Cy o 0 G2)).toArray (0,0) _ mf.out.blk Tryz.underlying36 rfl aC ?_)
    |(refine wpList_store_row rfl 36 (.tmp 6) (.tmp 70) rfl w.heap.size (aL (Cy o 0 G2)).toArray rfl rfl 36 dz mf.out.res aC rfl (cD _) ?_
      have HR:=hid (mf.out.res.row (aL (Cy o 0 G2)).toArray)))
   refine bodyPost_ret (v:=dA (Cy o 0 G2)) (results_cell_row Tryz.results243 _ _ w.heap.size 36 (aL (Cy o 0 G2)).toArray (0,0) _ rfl HR.out Tryz.underlying36 rfl aC) rfl ?_;exact bM aZ mf.out.did HT.out (tq.out.trans rfl)
end Go.Proofs.YtehhdlgjfdnafaaGreatDoor
