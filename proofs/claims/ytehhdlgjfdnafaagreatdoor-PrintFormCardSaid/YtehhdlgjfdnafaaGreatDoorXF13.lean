/- Parts of the proof. -/
import Derived.Test.YtehhdlgjfdnafaaGreatDoorXF12
namespace Go.Proofs.YtehhdlgjfdnafaaGreatDoor
variable{p:Prop}
set_option maxHeartbeats 90000000
set_option maxRecDepth 100000
open Go.Lib (hid)
open Go.ChangeShapes Go.WideShapes Go.ChangeAt Go.RowKit List
set_option linter.unusedVariables false
set_option linter.unusedSimpArgs false
theorem RJ{α β:Type}(x:α)(f:α->Ps β):((pure x:Ps α)>>=f)=f x:=rfl
def fnP (nm:ByteArray):Ps Tr:=λ l=>match lB nm with
 | none=> .error (l.length+1)
 | some op=>ou (aW 0) op l
variable{nm:ByteArray}{l:aK}
theorem abl(h:lB nm=none):fnP nm l=.error (l.length+1):=by unfold fnP;rw[h]
variable{op:Int}
theorem yG(h:lB nm=some op):fnP nm l=ou (aW 0) op l:=by unfold fnP;rw[h]
theorem agG (W:Ps Tr):ou W 20=(do let n <- lZ;must bt;let x <- W;must aM;return .mk 20 aV ByteArray.empty n [x]):=by unfold ou nY rY ot;rw[if_neg Tab,if_pos rfl,if_neg Tab];simp only[ji,RJ]
variable{W:Ps Tr}
theorem ZY(h:ar fq l=true):ou W 22 l=(do must aM;return lO 21 []:Ps Tr) l.tail:=by unfold ou countP;rw[if_pos rfl,cg];simp only[h,if_true]
theorem RM(h22:op=22->ar fq l=false)(Mj:op≠20)(Xn:op≠27)(h28:op≠28):ou W op l=(do let x <- W;must aM;return .mk op aV ByteArray.empty 0 [x]:Ps Tr) l:=by
 have ha:nY W op=(do let x <- W;must aM;return .mk op aV ByteArray.empty 0 [x]):=by unfold nY rY ot;rw[if_neg Mj,if_neg Taa];simp only[ji,RJ]
 unfold ou countP;by_cases h:op=22
 ·subst h;rw[if_pos rfl,cg];simp only[h22 rfl,ha];rfl
 ·rw[if_neg h,ha]
theorem abn(h:op=27\/op=28):ou W op=(do let x <- W;must bt;let y <- W;must aM;return .mk op aV ByteArray.empty 0 [x,y]):=by unfold ou nY rY ot;rw[if_neg Taa,if_neg Taa,if_pos h];simp only[ji,RJ]
variable{α β:Type}
theorem DO(f:α->β)(k:List UInt8):∀l:List (List UInt8×α),(l.map λ x=>(x.1,f x.2)).lookup k=(l.lookup k).map f
 | []=>rfl
 |(x,v)::l=>by simp only[map_cons,lookup_cons,DO f k l];cases k==x <;> rfl
def agH:List (List UInt8×Value):=XW.map λ x=>(x.1,.int .u8 x.2)
theorem ZZ (nm:ByteArray):(agH.lookup nm.data.toList).getD (.int .u8 0)=.int .u8 ((lB nm).getD 0):=by unfold agH lB;rw[DO (λ o:Int=>Value.int .u8 o)];cases XW.lookup nm.data.toList <;> rfl
theorem agI(h:lB nm=some op):20<=op/\op<=28/\op≠21:=by
 unfold lB at h
 have:∀(l:List (List UInt8×Int)),(∀x∈l,20<=x.2/\x.2<=28/\x.2≠21)->∀k o,l.lookup k=some o->20<=o/\o<=28/\o≠21:=by
  intro l
  induction l with
  | nil=>intro _ k o h;simp at h
  | cons x l ih=>
    intro hl k o h;obtain⟨x1,x2⟩:=x;rw[lookup_cons] at h;cases hk:(k==x1)
    ·rw[hk] at h;exact ih (λ y hy=>hl y (mem_cons_of_mem _ hy)) k o h
    ·rw[hk] at h;simp only at h;injection h with h;have:=hl (x1,x2) Tad;simp only at this;omega
 exact this XW Tab _ _ h
structure K2 (W:World) (G qx:Nat) (t:Tr) (y:Ex):Prop where
 blk:av W G 36 (aU y).toArray
 tr:t.at_ W (Bx (qx+1) G W) y
 lt:qx < G
variable{W':World}{G qx:Nat}{y:Ex}
theorem K2.later{W:World}  {t:Tr} (h:K2 W G qx t y)(hb:Below W.heap.size W W'):K2 W' G qx t y:=⟨h.blk.later hb,Tr.at_.keep (iu hb) _ _ h.tr,h.lt⟩
variable{ρ:bw}{lg dp:Bool}
theorem K2.go{W:World}    {t:Tr} (h:K2 W G qx t y)(d:bh ρ W W' l lg dp)(hg:ρ.g < qx):K2 W' G qx t y:=
 ⟨d.blk h.blk (by have:=h.lt;omega),Tr.at_.keep (je d.grown Taa) _ _ h.tr,h.lt⟩
variable{w:World}{t0:Wd}
theorem bw.gh.back(h:ρ.gh w l lg dp)(h0:(eu.good (t0::l)).of ρ.ws):bh ρ w (w.setCell ⟨ρ.g,1,none⟩ (.int .i64 ((ρ.n:Int) - ((l.length:Int)+1)))) (t0::l) lg dp:=by
 have hB:=av.cJ h.blk 1 (.int .i64 ((ρ.n:Int) - ((l.length:Int)+1)));have e:(ρ.xm l lg dp).setIfInBounds 1 (.int .i64 ((ρ.n:Int) - ((l.length:Int)+1)))=ρ.xm (t0::l) lg dp:=by unfold bw.xm;simp
 rw[e] at hB;exact⟨h.set hB (bE (aD (Below.refl _ _)) 1 _) h0,bE (aD (Below.refl _ _)) 1 _⟩
variable{q:Nat}
theorem fj(h:av w q 36 (aU y).toArray):
  w.cell? ⟨q,0,none⟩=some (.int .u8 y.op)/\w.cell? ⟨q,1,none⟩=some (.int .u8 y.v.k)/\w.cell? ⟨q,2,none⟩=some (.int .i64 y.v.n)/\w.cell? ⟨q,3,none⟩=some (.string y.v.s)/\w.cell? ⟨q,4,none⟩=some (.string y.name)/\w.cell? ⟨q,5,none⟩=some (.int .i64 y.width)/\w.cell? ⟨q,6,none⟩=some (.slice y.A y.n y.c):=
 ⟨h.cell 0,h.cell 1,h.cell 2,h.cell 3,h.cell 4,h.cell 5,h.cell 6⟩
variable{T:TypeId}{cs:Array Value}
theorem fu(h:av w q T cs):
  w.frozen? ⟨q,0,none⟩=false/\w.frozen? ⟨q,1,none⟩=false/\w.frozen? ⟨q,2,none⟩=false/\w.frozen? ⟨q,3,none⟩=false/\w.frozen? ⟨q,4,none⟩=false/\w.frozen? ⟨q,5,none⟩=false/\w.frozen? ⟨q,6,none⟩=false:=
 ⟨h.frozen 0,h.frozen 1,h.frozen 2,h.frozen 3,h.frozen 4,h.frozen 5,h.frozen 6⟩
def fx (op width:Int):Ex:=⟨op,tQ,⟨#[]⟩,width,none,0,0⟩
def FE (op width:Int)(G:Nat):Ex:=⟨op,tQ,⟨#[]⟩,width,some ⟨G,0,none⟩,1,1⟩
theorem D5 (w:World)(S:Nat->Prop)(op width:Int):(Tr.mk op aV ByteArray.empty width []).at_ w S (fx op width):=by unfold Tr.at_;exact Zfh
section
variable {ρ:bw} {w wr:World} {lg dp:Bool} {q qx:Nat} {l':aK} {t1:Tr} {y1:Ex} {op width:Int}
theorem nV.DR {n:Int}(A:nV ρ w lg dp q qx wr l' (.mk op aV ByteArray.empty 0 []) (fx op 0))(br:ρ.g < w.heap.size)(hq:w.heap.size<=q)(Kz:q < qx):nV ρ w lg dp q qx (wr.setCell ⟨qx,5,none⟩ (.int .i64 n)) l' (.mk op aV ByteArray.empty n []) (fx op n):=by refine⟨A.did.far br Taa _ _,?_,A.res.far (p:=⟨qx,5,none⟩) Tae _,D5 _ _ _ _⟩;have:=A.blk.cJ 5 (.int .i64 n);exact this
theorem zeT.Kbi(h:p:=by
 refine⟨(A.did.far br Taa _ _).later hb,?_,(A.res.far (p:=⟨qx,6,none⟩) Tae _).alloc _,?_⟩
 ·have:=A.blk.cJ 6 (.slice (some ⟨wr.heap.size,0,none⟩) 1 1);exact this.alloc _
 ·unfold Tr.at_;refine⟨rfl,rfl,rfl,rfl,rfl,[y1],CP tP (by simpa using hN) ⟨by omega,hN.lt,by omega⟩,Tr.IL ?_⟩;exact Tr.at_.keep (iu hb) _ _ (Tr.at_.keep (Ov (q:=qx) 6 _) _ _ (Tr.at_.keep (QU hB Taa) _ _ hat))):p:=h
theorem nV.RN {B:Nat}(A:nV ρ w lg dp q qx wr l' (.mk op aV ByteArray.empty width []) (fx op width))(br:ρ.g < w.heap.size)(hq:w.heap.size<=q)(Kz:q < qx)(hB:qx < B)(hat:t1.at_ wr (eI B wr) y1):
  nV ρ w lg dp q qx ((wr.setCell ⟨qx,6,none⟩ (.slice (some ⟨wr.heap.size,0,none⟩) 1 1)).alloc (.cells (aU y1).toArray 36)) l' (.mk op aV ByteArray.empty width [t1]) (FE op width wr.heap.size):=by
 open zeT in exact Zcl
theorem zeU.Kbi(h:p:=by exact⟨hN,Tr.at_.keep (iu hb) _ _ (Tr.at_.keep (λ b hb=>(afd (p:=qx) (B:=qx+1) (q:=wr.heap.size) Taa 6 _) b ⟨by have:=hb.1;omega,hb.2,by have:=hb.2;omega⟩) _ _ hat),hx⟩):p:=h
theorem nV.agJ {B:Nat} {t0:Tr} {y0:Ex}(A:nV ρ w lg dp q qx wr l' t0 y0)(Kz:q < qx)(hB:qx < B)(hat:t1.at_ wr (eI B wr) y1):
  K2 ((wr.setCell ⟨qx,6,none⟩ (.slice (some ⟨wr.heap.size,0,none⟩) 1 1)).alloc (.cells (aU y1).toArray 36)) wr.heap.size qx t1 y1:=by
 open zeU in exact Zcl
theorem nV.amp {W:World} {A:Option Addr} {c G:Nat} {t2:Tr} {y2:Ex}(D:bh ρ w W l' lg dp)(X:av W qx 36 (aU (FE op 0 G)).toArray)(R:av W q 36 dT)(br:ρ.g < w.heap.size)(hq:w.heap.size<=q)(Kz:q < qx)
  (wq:RL aU 7 W (eI (qx+1) W) A [y1,y2]) (h1:t1.at_ W (eI (qx+1) W) y1) (h2:t2.at_ W (eI (qx+1) W) y2):nV ρ w lg dp q qx (W.setCell ⟨qx,6,none⟩ (.slice A 2 c)) l' (.mk op aV ByteArray.empty 0 [t1,t2]) ⟨op,tQ,⟨#[]⟩,0,A,2,c⟩:=by
 have hk:∀b,eI (qx+1) W b->(∀o,(W.setCell ⟨qx,6,none⟩ (.slice A 2 c)).cell? ⟨b,o,none⟩=W.cell? ⟨b,o,none⟩)/\Bx (q+1) qx (W.setCell ⟨qx,6,none⟩ (.slice A 2 c)) b:=λ b hb=>
  ⟨((pW (Nat.lt_succ_self qx) 6 _) b hb).1,by have:=hb.1;omega,by simpa [World.setCell] using hb.2,by have:=hb.1;omega⟩
 refine⟨D.far br Taa _ _,?_,R.far (p:=⟨qx,6,none⟩) Tae _,?_⟩
 ·have:=X.cJ 6 (.slice A 2 c);exact this
 ·unfold Tr.at_;exact⟨rfl,rfl,rfl,rfl,rfl,[y1,y2],wq.keep hk,Tr.QR (Tr.at_.keep hk _ _ h1) (Tr.at_.keep hk _ _ h2)⟩
end
def nM (v:Val):Ex:=⟨1,v,⟨#[]⟩,0,none,0,0⟩
theorem uw (k n:Int)(s:ByteArray)(w:World):Calls Tryz.prog 242 #[.agg #[.int .u8 k,.int .i64 n,.string s]] w λ e w'=>e=.returned (eb (nM ⟨k,n,s⟩))/\Below w.heap.size w w':=by
 have hb:=af.then (aa w (.cells #[.int .u8 k,.int .i64 n,.string s] 32)) (aa _ (.cells dT 36))
 have hQ:=av.new (w.alloc (.cells #[.int .u8 k,.int .i64 n,.string s] 32)) 36 dT;rw[show(w.alloc (.cells #[.int .u8 k,.int .i64 n,.string s] 32)).heap.size=w.heap.size+1 by simp] at hQ;have HQ:=hid hQ;have HB:=hid hb;clear hQ hb;go_enter Tryz.func242,Tryz.ntmps242;go_wp2_with (first
  |(refine wpList_store_row rfl 36 (.tmp 2) (.tmp 4) rfl (w.heap.size+1) (aU (nM ⟨k,n,s⟩)).toArray rfl rfl 36 dT HQ.out aI rfl (cV _) ?_
    have HR:=hid (HQ.out.row (aU (nM ⟨k,n,s⟩)).toArray)))
 refine bodyPost_ret (v:=eb (nM ⟨k,n,s⟩)) (results_cell_row Tryz.results242 _ _ (w.heap.size+1) 36 (aU (nM ⟨k,n,s⟩)).toArray (0,0) _ rfl HR.out Tryz.underlying36 rfl aI) rfl ⟨rfl,?_⟩;exact HB.out.trans (aQ (cP _ (w.heap.size+1) _) HB.out.size (Nat.le_succ _))
theorem yH (w:World)(S:Nat->Prop)(v:Val):(mI v).at_ w S (nM v):=XS w S v
variable{t:Wd}{r:aK}
theorem agM(h:t.k=2):dZ W (t::r)=.ok (mI ⟨2,t.n,ByteArray.empty⟩,r):=by simp[dZ,h]
theorem abo(h:t.k=3):dZ W (t::r)=.ok (mI ⟨3,0,⟨t.s.toArray⟩⟩,r):=by simp[dZ,h]
section
variable {W:Ps Tr} {l:aK} (h2:∀t r,l=t::r->t.k≠2/\t.k≠3) (hne:l≠ [])
include h2 hne
theorem abp (h:ar eK l=true):dZ W l=.ok (mI ⟨1,1,ByteArray.empty⟩,l.tail):=by
 match l,hne with
 | t::r,_=>obtain⟨a,b⟩:=h2 t r rfl;have h:gV eK t=true:=h;simp[dZ,a,b,h]
theorem D7 (h1:ar eK l=false)(h:ar eh l=true):dZ W l=.ok (mI ⟨1,0,ByteArray.empty⟩,l.tail):=by
 match l,hne with
 | t::r,_=>obtain⟨a,b⟩:=h2 t r rfl;have h1:gV eK t=false:=h1;have h:gV eh t=true:=h;simp[dZ,a,b,h,h1]
theorem abq (h1:ar eK l=false)(h3:ar eh l=false)(h:ar bT l=true):dZ W l=.ok (mI aV,l.tail):=by
 match l,hne with
 | t::r,_=>obtain⟨a,b⟩:=h2 t r rfl;have h1:gV eK t=false:=h1;have h3:gV eh t=false:=h3;have h:gV bT t=true:=h;simp[dZ,a,b,h,h1,h3]
theorem abr (h1:ar eK l=false)(h3:ar eh l=false)(h4:ar bT l=false)(h:ar bG l=true):dZ W l=(do let x <- W;must aM;return x:Ps Tr) l.tail:=by
 match l,hne with
 | t::r,_=>obtain⟨a,b⟩:=h2 t r rfl;have h1:gV eK t=false:=h1;have h3:gV eh t=false:=h3;have h4:gV bT t=false:=h4;have h:gV bG t=true:=h;simp only[dZ,a,b,h,h1,h3,h4,if_true,if_false,tail_cons];rfl
theorem D8 (h1:ar eK l=false)(h3:ar eh l=false)(h4:ar bT l=false)(h:ar bG l=false):dZ W l=kU W l:=by
 match l,hne with
 | t::r,_=>obtain⟨a,b⟩:=h2 t r rfl;have h1:gV eK t=false:=h1;have h3:gV eh t=false:=h3;have h4:gV bT t=false:=h4;have h:gV bG t=false:=h;simp only[dZ,a,b,h,h1,h3,h4,if_true,if_false];rfl
end
variable{n:Nat}
theorem agN(h:cC l=.error n):kU W l=.error n:=ak h
theorem agO(h:cC l=.ok (nm,r))(ho:ar bG r=false):kU W l=.ok (rV nm,r):=by unfold kU;refine(ag h).trans ?_;simp only[ho];rfl
theorem agP(h:cC l=.ok (nm,r))(ho:ar bG r=true):kU (aW 0) l=fnP nm r.tail:=by unfold kU;refine(ag h).trans ?_;obtain⟨t,q,rfl,_⟩:=eU ho;simp only[ho,if_true];unfold fnP;cases lB nm <;> rfl
def abt (nm:ByteArray):Ex:=⟨2,tQ,nm,0,none,0,0⟩
theorem zfW.KbL(h:p:=by
 have hst:=bw.gh.step (t:=t.w) (l:=r) Tba TaB;have eZ:=hid (gb.out.trans hst);have ku:=hid (qF.out.far (p:=⟨ρ.g,1,none⟩) Tae (.int .i64 ((ρ.n:Int) - r.length)));clear hst;unfold bw.ptr;go_wp2_with fail;refine(uw 2 t.w.n ⟨#[]⟩ _).mono ?_;rintro e w3 ⟨rfl,b3⟩;have kt:=hid (eZ.out.later b3);have nh:=hid (ku.out.later b3);clear b3 eZ ku gb qF GV u0 u1 u2 u3 v0 v1 v2 v3 c0 c1 c2 c3 f1 f2 f3;go_wp2_with (first
  |(refine wpList_store_row rfl 36 (.tmp 2) (.tmp 22) rfl w.heap.size (aU (nM ⟨2,t.w.n,⟨#[]⟩⟩)).toArray rfl rfl 36 dT nh.out aI rfl (cV _) ?_
    have HR:=hid (nh.out.row (aU (nM ⟨2,t.w.n,⟨#[]⟩⟩)).toArray)))
 refine bodyPost_ret (v:=eb (nM ⟨2,t.w.n,⟨#[]⟩⟩)) (results_cell_row Tryz.results241 _ _ w.heap.size 36 (aU (nM ⟨2,t.w.n,⟨#[]⟩⟩)).toArray (0,0) _ rfl HR.out Tryz.underlying36 rfl aI) rfl ?_;exact cm br kt.out (yH _ _ ⟨2,t.w.n,⟨#[]⟩⟩) (by rw[HL.out];exact agM HK.out)):p:=h
theorem zdb.KaK(h:p:=by open zfW in exact ZdT):p:=h
theorem zcL.KaA(h:p:=by
 have HK:=hid hk;have g2:((t.w.k:Int)==2)=true:=by simp;omega
 open zdb in exact Zbb):p:=h
theorem PT (ρ:bw)(w:World)(l:aK)(lg dp:Bool)(h:ρ.gh w l lg dp)(hk:∀t r,l=t::r->t.k=2):
  Calls Tryz.prog 241 #[ρ.ptr] w (fC ρ w lg dp (dZ (aW 0)) l):=by
 open zcL in exact ZaX
theorem zfX.KbL(h:p:=by
 have hst:=bw.gh.step (t:=t.w) (l:=r) Tba TaB;have eZ:=hid (gb.out.trans hst);have ku:=hid (qF.out.far (p:=⟨ρ.g,1,none⟩) Tae (.int .i64 ((ρ.n:Int) - r.length)));clear hst;unfold bw.ptr;go_wp2_with fail;refine(uw 3 0 ⟨t.w.s.toArray⟩ _).mono ?_;rintro e w3 ⟨rfl,b3⟩;have kt:=hid (eZ.out.later b3);have nh:=hid (ku.out.later b3);clear b3 eZ ku gb qF GV u0 u1 u2 u3 v0 v1 v2 v3 c0 c1 c2 c3 f1 f2 f3;go_wp2_with (first
  |(refine wpList_store_row rfl 36 (.tmp 2) (.tmp 37) rfl w.heap.size (aU (nM ⟨3,0,⟨t.w.s.toArray⟩⟩)).toArray rfl rfl 36 dT nh.out aI rfl (cV _) ?_
    have HR:=hid (nh.out.row (aU (nM ⟨3,0,⟨t.w.s.toArray⟩⟩)).toArray)))
 refine bodyPost_ret (v:=eb (nM ⟨3,0,⟨t.w.s.toArray⟩⟩)) (results_cell_row Tryz.results241 _ _ w.heap.size 36 (aU (nM ⟨3,0,⟨t.w.s.toArray⟩⟩)).toArray (0,0) _ rfl HR.out Tryz.underlying36 rfl aI) rfl ?_;exact cm br kt.out (yH _ _ ⟨3,0,⟨t.w.s.toArray⟩⟩) (by rw[HL.out];exact abo HK.out)):p:=h
theorem zdc.KaK(h:p:=by open zfX in exact ZdT):p:=h
theorem zcM.KaA(h:p:=by
 have HK:=hid hk;have g2:((t.w.k:Int)==2)=false:=by simp;omega
 have g3:((t.w.k:Int)==3)=true:=by simp;omega
 open zdc in exact Zbb):p:=h
theorem Mk (ρ:bw)(w:World)(l:aK)(lg dp:Bool)(h:ρ.gh w l lg dp)(hk:∀t r,l=t::r->t.k=3):
  Calls Tryz.prog 241 #[ρ.ptr] w (fC ρ w lg dp (dZ (aW 0)) l):=by
 open zcM in exact ZaX
theorem zaI.Kad(h:p:=by
 generalize w1.alloc _=W1 at*;generalize w1.heap.size=tb at*;obtain⟨u0,u1,u2,u3,v0,v1,v2,v3⟩:=aO GV.out;have hm:=bz ρ W1 l lg dp gb.out.at_ ⟨#[116,114,117,101]⟩;rw[show(⟨#[116,114,117,101]⟩:ByteArray).data.toList=eK from rfl,eo,cE eo] at hm;go_wp2_with fail;refine hm.mono ?_;clear hm;rintro e w2 ⟨rfl,d⟩;have eZ:=hid (gb.out.trans d);have ku:=hid (d.blk qF.out Taa);clear d gb qF GV u0 u1 u2 u3 v0 v1 v2 v3;generalize hW2:w2=W2 at*;clear hW2;go_wp2_with fail;refine(uw 1 1 ⟨#[]⟩ _).mono ?_;rintro e w9 ⟨rfl,b9⟩;have HD9:=hid (eZ.out.later b9);have Rz:=hid (ku.out.later b9);clear b9 eZ ku;go_wp2_with (first
  |(refine wpList_store_row rfl 36 (.tmp 2) (.tmp 42) rfl w.heap.size (aU (nM ⟨1,1,⟨#[]⟩⟩)).toArray rfl rfl 36 dT Rz.out aI rfl (cV _) ?_
    have HR:=hid (Rz.out.row (aU (nM ⟨1,1,⟨#[]⟩⟩)).toArray)))
 refine bodyPost_ret (v:=eb (nM ⟨1,1,⟨#[]⟩⟩)) (results_cell_row Tryz.results241 _ _ w.heap.size 36 (aU (nM ⟨1,1,⟨#[]⟩⟩)).toArray (0,0) _ rfl HR.out Tryz.underlying36 rfl aI) rfl ?_;exact cm br HD9.out (yH _ _ ⟨1,1,⟨#[]⟩⟩) (abp HKK.out TaV eo)):p:=h
theorem Vh (ρ:bw)(w:World)(l:aK)(lg dp:Bool)(h:ρ.gh w l lg dp)(hk:∀t r,l=t::r->t.k≠2/\t.k≠3)(eo:ar eK l=true):
  Calls Tryz.prog 241 #[ρ.ptr] w (fC ρ w lg dp (dZ (aW 0)) l):=by have HKK:=hid hk;open zaI in exact Zag
theorem zaJ.Kad(h:p:=by
 generalize w1.alloc _=W1 at*;generalize w1.heap.size=tb at*;obtain⟨u0,u1,u2,u3,v0,v1,v2,v3⟩:=aO GV.out;have hm:=bz ρ W1 l lg dp gb.out.at_ ⟨#[116,114,117,101]⟩;rw[show(⟨#[116,114,117,101]⟩:ByteArray).data.toList=eK from rfl,eo,cy eo] at hm;go_wp2_with fail;refine hm.mono ?_;clear hm;rintro e w2 ⟨rfl,d⟩;have eZ:=hid (gb.out.trans d);have ku:=hid (d.blk qF.out Taa);clear d gb qF GV u0 u1 u2 u3 v0 v1 v2 v3;generalize hW2:w2=W2 at*;clear hW2;have hm:=bz ρ W2 l lg dp eZ.out.at_ ⟨#[102,97,108,115,101]⟩;rw[show(⟨#[102,97,108,115,101]⟩:ByteArray).data.toList=eh from rfl,eM,cE eM] at hm;go_wp2_with fail;refine hm.mono ?_;clear hm;rintro e w3 ⟨rfl,d⟩;have kt:=hid (eZ.out.trans d);have nh:=hid (d.blk ku.out Taa);clear d eZ ku;generalize hW3:w3=W3 at*;clear hW3;go_wp2_with fail;refine(uw 1 0 ⟨#[]⟩ _).mono ?_;rintro e w9 ⟨rfl,b9⟩;have HD9:=hid (kt.out.later b9);have Rz:=hid (nh.out.later b9);clear b9 kt nh;go_wp2_with (first
  |(refine wpList_store_row rfl 36 (.tmp 2) (.tmp 47) rfl w.heap.size (aU (nM ⟨1,0,⟨#[]⟩⟩)).toArray rfl rfl 36 dT Rz.out aI rfl (cV _) ?_
    have HR:=hid (Rz.out.row (aU (nM ⟨1,0,⟨#[]⟩⟩)).toArray)))
 refine bodyPost_ret (v:=eb (nM ⟨1,0,⟨#[]⟩⟩)) (results_cell_row Tryz.results241 _ _ w.heap.size 36 (aU (nM ⟨1,0,⟨#[]⟩⟩)).toArray (0,0) _ rfl HR.out Tryz.underlying36 rfl aI) rfl ?_;exact cm br HD9.out (yH _ _ ⟨1,0,⟨#[]⟩⟩) (D7 HKK.out TaV eo eM)):p:=h
theorem Vi (ρ:bw)(w:World)(l:aK)(lg dp:Bool)(h:ρ.gh w l lg dp)(hk:∀t r,l=t::r->t.k≠2/\t.k≠3)(eo:ar eK l=false)(eM:ar eh l=true):
  Calls Tryz.prog 241 #[ρ.ptr] w (fC ρ w lg dp (dZ (aW 0)) l):=by have HKK:=hid hk;open zaJ in exact Zag
theorem zaK.Kad(h:p:=by
 generalize w1.alloc _=W1 at*;generalize w1.heap.size=tb at*;obtain⟨u0,u1,u2,u3,v0,v1,v2,v3⟩:=aO GV.out;have hm:=bz ρ W1 l lg dp gb.out.at_ ⟨#[116,114,117,101]⟩;rw[show(⟨#[116,114,117,101]⟩:ByteArray).data.toList=eK from rfl,eo,cy eo] at hm;go_wp2_with fail;refine hm.mono ?_;clear hm;rintro e w2 ⟨rfl,d⟩;have eZ:=hid (gb.out.trans d);have ku:=hid (d.blk qF.out Taa);clear d gb qF GV u0 u1 u2 u3 v0 v1 v2 v3;generalize hW2:w2=W2 at*;clear hW2;have hm:=bz ρ W2 l lg dp eZ.out.at_ ⟨#[102,97,108,115,101]⟩;rw[show(⟨#[102,97,108,115,101]⟩:ByteArray).data.toList=eh from rfl,eM,cy eM] at hm;go_wp2_with fail;refine hm.mono ?_;clear hm;rintro e w3 ⟨rfl,d⟩;have kt:=hid (eZ.out.trans d);have nh:=hid (d.blk ku.out Taa);clear d eZ ku;generalize hW3:w3=W3 at*;clear hW3;have hm:=bz ρ W3 l lg dp kt.out.at_ ⟨#[110,117,108,108]⟩;rw[show(⟨#[110,117,108,108]⟩:ByteArray).data.toList=bT from rfl,jM,cE jM] at hm;go_wp2_with fail;refine hm.mono ?_;clear hm;rintro e w4 ⟨rfl,d⟩;have qh:=hid (kt.out.trans d);have Fy:=hid (d.blk nh.out Taa);clear d kt nh;generalize Jw:w4=W4 at*;clear Jw;go_wp2_with fail;refine(uw 0 0 ⟨#[]⟩ _).mono ?_;rintro e w9 ⟨rfl,b9⟩;have HD9:=hid (qh.out.later b9);have Rz:=hid (Fy.out.later b9);clear b9 qh Fy;go_wp2_with (first
  |(refine wpList_store_row rfl 36 (.tmp 2) (.tmp 52) rfl w.heap.size (aU (nM ⟨0,0,⟨#[]⟩⟩)).toArray rfl rfl 36 dT Rz.out aI rfl (cV _) ?_
    have HR:=hid (Rz.out.row (aU (nM ⟨0,0,⟨#[]⟩⟩)).toArray)))
 refine bodyPost_ret (v:=eb (nM ⟨0,0,⟨#[]⟩⟩)) (results_cell_row Tryz.results241 _ _ w.heap.size 36 (aU (nM ⟨0,0,⟨#[]⟩⟩)).toArray (0,0) _ rfl HR.out Tryz.underlying36 rfl aI) rfl ?_;exact cm br HD9.out (yH _ _ ⟨0,0,⟨#[]⟩⟩) (abq HKK.out TaV eo eM jM)):p:=h
theorem Vj (ρ:bw)(w:World)(l:aK)(lg dp:Bool)(h:ρ.gh w l lg dp)(hk:∀t r,l=t::r->t.k≠2/\t.k≠3)(eo:ar eK l=false)(eM:ar eh l=false)(jM:ar bT l=true):
  Calls Tryz.prog 241 #[ρ.ptr] w (fC ρ w lg dp (dZ (aW 0)) l):=by have HKK:=hid hk;open zaK in exact Zag
def PJ:Ps Wd
 | []=> .error 0
 | t::r=>if t.k=2 then .ok (t,r)else .error (t::r).length
theorem Vc (ρ:bw)(w:World)(l:aK)(lg dp:Bool)(h:ρ.gh w l lg dp):
  Calls Tryz.prog 153 #[ρ.ptr,.int .u8 2] w (GP ρ w PJ l λ t r v w'=>v=.agg (cA (ρ.tok l))/\t=(ρ.tok l).w/\(0<=t.n/\t.n<=9223372036854775807)/\bh ρ w w' r lg dp):=by
 obtain⟨t,r,pl,rv,hl,hlt,hsm,hpl,Ch,Bd,Cf,hp⟩:=h.mN;have h0:=h.later (aa w zM);have hb0:=aa w zM;have eX:=iD ρ _ l lg dp h0;have tD:=h.left;have br:=h.od;have HH:=hid h;rw[<- rv] at eX ⊢;have HL:=hid hl;unfold zM at eX hb0;clear rv hpl Ch hp hlt h h0 hl;have ami:=hid eX;clear eX;by_cases hk:t.w.k=2
 ·have HK:=hid hk;have g1:((t.w.k:Int) != 2)=false:=by simp;omega
  clear hk;go_enter Tryz.func153,Tryz.ntmps153;go_wp2_with fail;refine ami.out.mono ?_;rintro e w1 ⟨rfl,b1⟩;have hZ:=av.new w 81 #[.int .u8 0,.string ⟨#[]⟩,.int .i64 0,.int .i64 0];have HZ:=hid ((hZ.later b1).alloc (.cells (cA t) 81));have HT:=hid (av.new w1 81 (cA t));have hg1:ρ.g < w1.heap.size:=Nat.lt_of_lt_of_le br (Nat.le_trans Tad b1.size);have hg2:w.heap.size < w1.heap.size:=Nat.lt_of_lt_of_le Tad b1.size;have hb:=af.then (af.then hb0 b1) (aa w1 (.cells (cA t) 81));have HB:=hid hb;have HW:=hid (HH.out.later hb);obtain⟨c0,c1,c2,c3,f1,f2,f3⟩:=(HH.out.later hb).facts;obtain⟨u0,u1,u2,u3,v0,v1,v2,v3⟩:=aO HT.out;have e1:(ρ.n:Int) - ((r.length:Int)+1)+1=(ρ.n:Int) - r.length:=by omega
  rw[show(l.length:Int)=(r.length:Int)+1 by rw[HL.out];rfl] at c1;clear hZ hb b1 hb0;have wq:r.length+1<=ρ.n:=by have:=HL.out;rw[this] at tD;simpa using tD.2
  have hstep:=bw.gh.step (t:=t.w) (l:=r) (by have:=HW.out;rw[HL.out] at this;exact this) TaB;have zz:=HT.out.far (p:=⟨ρ.g,1,none⟩) Tae (.int .i64 ((ρ.n:Int) - r.length));have Ku:=HZ.out.far (p:=⟨ρ.g,1,none⟩) Tae (.int .i64 ((ρ.n:Int) - r.length));have HT3:=hid zz;have Kv:=hid Ku;have kt:=hid ((bh.aF HH.out HB.out).trans hstep);clear HT HZ zz Ku hstep HW HH tD;unfold cA at*;unfold bw.ptr;go_upto_region 2 with fail;generalize (w1.alloc _)=W1 at*;go_upto_region 5 with fail;refine wp_region_lit ?_;refine wpList_load_row rfl 81 (.tmp 5) rfl w1.heap.size rfl 81 (cA t) (0,0) _ HT3.out Tryz.underlying81 rfl vE ?_;refine wpList_store_row rfl 81 (.tmp 4) (.tmp 21) rfl w.heap.size (cA t) rfl rfl 81 #[.int .u8 0,.string ⟨#[]⟩,.int .i64 0,.int .i64 0] Kv.out vE rfl (by simp[cA,Value.oneCell']) ?_;refine wpList_nil ?_;have HR:=Kv.out.row (cA t);have HDF:=kt.out.own br (cP _ w.heap.size (cA t)) (λ G e=>by injection e with e;omega);have Og:=hid HR;have arq:=hid HDF;clear HR HDF HT3 Kv kt HB c0 c1 c2 c3 f1 f2 f3 u0 u1 u2 u3 v0 v1 v2 v3;generalize (World.setRow _ w.heap.size (cA t))=WF at*;go_wp2_with fail;refine bodyPost_ret (v:=.agg (cA t)) (results_cell_row Tryz.results153 _ _ w.heap.size 81 (cA t) (0,0) _ rfl Og.out Tryz.underlying81 rfl vE) rfl ?_;refine GP.ok (x:=t.w) (r:=r) ?_ ⟨rfl,rfl,⟨Bd,Cf⟩,arq.out⟩;rw[HL.out];simp only[PJ,if_pos HK.out]
 ·have g1:((t.w.k:Int) != 2)=true:=by simp;omega
  have HK:=hid hk;clear hk;go_enter Tryz.func153,Tryz.ntmps153;go_wp2_with fail;refine ami.out.mono ?_;rintro e w1 ⟨rfl,b1⟩;have hb:=af.then (af.then hb0 b1) (aa w1 (.cells (cA t) 81));have hf:=jX ρ _ l lg dp (HH.out.later hb);have HB:=hid hb;unfold cA at*;clear hb b1 hb0;go_wp2_with fail;refine hf.mono ?_;rintro e w2 ⟨rfl,hg2⟩;go_wp2_with fail;refine aj rfl ?_;refine GP.err (n:=l.length) ?_ ⟨rfl,ai (aD HB.out) hg2⟩;rw[HL.out];simp only[PJ,if_neg HK.out]
theorem abd(h:PJ l=.ok (t,r)):lZ l=.ok (t.n,r):=by
 match l with
 | []=>cases h
 | x::q=>
   simp only[PJ,lZ] at h ⊢;split at h
   ·rename_i hk;injection h with h;injection h with h1 h2;subst h1;subst h2;rw[if_pos hk]
   ·cases h
theorem ZQ(h:PJ l=.error n):lZ l=.error n:=by
 match l with
 | []=>injection h with h;rw[<- h];rfl
 | x::q=>
   simp only[PJ,lZ] at h ⊢;split at h
   ·cases h
   ·rename_i hk;rw[if_neg hk];injection h with h;rw[h]
theorem ey (ρ:bw)(w:World)(l:aK)(lg dp:Bool)(h:ρ.gh w l lg dp):
  Calls Tryz.prog 117 #[ρ.ptr] w (GP ρ w lZ l λ n r v w'=>v=.int .i64 n/\(0<=n/\n<=9223372036854775807)/\bh ρ w w' r lg dp):=by
 have hk:=Vc ρ w l lg dp h;go_enter Tryz.func117,Tryz.ntmps117;go_wp2_with fail;refine hk.mono ?_;clear hk;intro e w1 hp;rcases hp.cases with ⟨t,r,v,aC,rfl,rfl,ht,hn,d1⟩|⟨n,au,rfl,hg⟩
 ·have HT:=hid ht;clear ht hp;generalize ρ.tok l=tk at*;have Xa:=Aa (.int .u8 tk.w.k) (.string ⟨tk.w.s.toArray⟩) (.int .i64 tk.w.n) (.int .i64 tk.p);unfold cA;go_wp2_with fail;go_ret;exact GP.ok (abd aC) ⟨by rw[HT.out];rfl,hn,d1⟩
 ·clear hp;go_wp2_with fail;exact aj rfl (GP.err (ZQ au) ⟨rfl,hg⟩)
theorem ep (ρ:bw)(w:World)(l:aK)(lg dp:Bool)(h:ρ.gh w l lg dp):
  Calls Tryz.prog 112 #[ρ.ptr] w (GP ρ w cC l λ x r v w'=>v=.string x/\bh ρ w w' r lg dp):=by
 obtain⟨t,r,pl,rv,hl,hlt,hsm,hpl,Ch,Bd,Cf,hp⟩:=h.mN;have eX:=iD ρ w l lg dp h;have tD:=h.left;have br:=h.od;have HH:=hid h;rw[<- rv] at eX;have HL:=hid hl;have wq:r.length+1<=ρ.n:=by have:=tD.2;rw[hl] at this;simpa using this
 have Vb:=hid (show(l.length:Int)=(r.length:Int)+1 by rw[hl];rfl);clear rv hpl Ch hp hlt h hl tD;go_enter Tryz.func112,Tryz.ntmps112;go_wp2_with fail;refine eX.mono ?_;clear eX;rintro e w1 ⟨rfl,b1⟩;have HT:=hid (av.new w1 81 (cA t));have hg1:ρ.g < w1.heap.size:=Nat.lt_of_lt_of_le br b1.size;have HB:=hid (af.then b1 (aa w1 (.cells (cA t) 81)));clear b1;unfold cA at*;go_upto_region 2 with fail;generalize (w1.alloc _)=W1 at*;obtain⟨u0,u1,u2,u3,v0,v1,v2,v3⟩:=aO HT.out;have HW:=hid (HH.out.later HB.out);have hres:=λ B hE=>xI (B:=B) ⟨t.w.s.toArray⟩ W1 hE
 obtain⟨B,hB,hE⟩:=HW.out.env;have hres:=hres B hE;have ki:(⟨t.w.s.toArray⟩:ByteArray).data.toList=t.w.s:=by simp
 rw[ki] at hres;have HE:=hid hE;have DG:=jX ρ W1 l lg dp HW.out;have e1:(ρ.n:Int) - ((r.length:Int)+1)+1=(ρ.n:Int) - r.length:=by omega
 clear hE hB ki;by_cases hk:t.w.k=1
 ·have HK:=hid hk;have g1:((t.w.k:Int) != 1)=false:=by simp;omega
  clear hk;cases hr:kP t.w.s
  ·rw[hr] at hres;have HR:=hid hr;clear hr DG;go_wp2_with fail;refine hres.mono ?_;clear hres;rintro e w2 ⟨rfl,b2⟩;obtain⟨c0,c1,c2,c3,f1,f2,f3⟩:=(HW.out.later b2).facts;rw[Vb.out] at c1;have hT2:=(HT.out.later b2).far (p:=⟨ρ.g,1,none⟩) Tae (.int .i64 ((ρ.n:Int) - r.length));have z1:=hT2.cell 1;have hst:=bw.gh.step (t:=t.w) (l:=r) (by have:=HW.out.later b2;rw[HL.out] at this;exact this) TaB;have HD:=hid ((bh.aF HH.out (af.then HB.out b2)).trans hst);simp only[Uaa] at z1;clear hT2 hst b2 HW HT u0 u1 u2 u3 v0 v1 v2 v3;unfold bw.ptr;go_wp2_with fail;go_ret;refine GP.ok (x:=⟨t.w.s.toArray⟩) (r:=r) ?_ ⟨rfl,HD.out⟩;rw[HL.out];simp only[cC,HK.out,HR.out,and_self,if_true]
  ·rw[hr] at hres;have HR:=hid hr;clear hr DG;go_wp2_with fail;refine hres.mono ?_;clear hres;rintro e w2 ⟨rfl,b2⟩;have hf:=jX ρ w2 l lg dp (HW.out.later b2);have vT:=hid (af.then HB.out b2);clear b2;go_wp2_with fail;refine hf.mono ?_;rintro e w3 ⟨rfl,hg2⟩;go_wp2_with fail;refine aj rfl ?_;refine GP.err (n:=l.length) ?_ ⟨rfl,ai (aD vT.out) hg2⟩;rw[HL.out];simp only[cC,HK.out,HR.out];rfl
 ·have HK:=hid hk;have g1:((t.w.k:Int) != 1)=true:=by simp;omega
  clear hk hres;go_wp2_with fail;refine DG.mono ?_;rintro e w3 ⟨rfl,hg2⟩;go_wp2_with fail;refine aj rfl ?_;refine GP.err (n:=l.length) ?_ ⟨rfl,ai (aD HB.out) hg2⟩;rw[HL.out];simp only[cC];rw[if_neg (by intro hh;exact HK.out hh.1)]
theorem Vg:(Tryz.prog.info? 36).map (λ i=>(i.zero,i.size,i.bytes))=some (some (.agg dT),7,88):=by kernel_rfl
theorem zfs.Kby(h:p:=by
 clear d qL wX k0 k1 k2 k3 k4 k5 k6 f0 f1 f2 f3 f4 f5 f6;generalize hW2:w2=W2 at*;clear hW2;obtain⟨k0,k1,k2,k3,k4,k5,k6⟩:=fj (ia.out).blk;obtain⟨f0,f1,f2,f3,f4,f5,f6⟩:=fu (ia.out).blk;unfold fx at k0 k1 k2 k3 k4 k5 k6;simp only at k0 k1 k2 k3 k4 k5 k6;go_wp2_with fail;refine(IH l W2 (Nat.le_refl _) ia.out.did.at_).mono ?_;intro e w3 hp;rcases hp.cases with ⟨t3,r3,v,aC,rfl,y3,rfl,hat,d⟩|⟨m,au,rfl,hg⟩;case inr=>have HF:=hid (zq.out.trans (ak au));have HG:=hid (ia.out.did.grown);clear hp au;go_wp2_with fail;exact aj rfl (bD HF.out HG.out hg)
 clear k0 k1 k2 k3 k4 k5 k6 f0 f1 f2 f3 f4 f5 f6;have vx:=hid (zq.out.trans (ag aC));have Xk:r3.length<=l.length:=Nat.le_trans ((cw 0).len aC) (Nat.le_refl _);have Cl:=ia.out.go d Taa Taa;have nK:=hid (Cl.RN br (Nat.le_refl _) Kz ia.out.blk.lt hat);have hxw:=Cl.blk.lt;have CF:=hid Cl;obtain⟨k0,k1,k2,k3,k4,k5,k6⟩:=fj (CF.out).blk;obtain⟨f0,f1,f2,f3,f4,f5,f6⟩:=fu (CF.out).blk;unfold fx at k0 k1 k2 k3 k4 k5 k6;simp only at k0 k1 k2 k3 k4 k5 k6;clear hp aC Cl d hat ia zq;unfold eb;unfold aU at nK ⊢;go_upto_region 15 with fail;clear CF hxw k0 k1 k2 k3 k4 k5 k6 f0 f1 f2 f3 f4 f5 f6;generalize (World.alloc _ _)=W3 at*;generalize w3.heap.size=G3 at*;replace nK:=hid (show nV ρ w lg dp w.heap.size qx W3 r3 (.mk 22 aV ByteArray.empty 0 [t3]) (FE 22 0 G3)from nK.out);have hb:=aa W3 (.cells (aR [aM]) 9);have HB:=hid (nK.out.later hb);have xk:=nK.out.did.lt;have hm:=aY ρ _ _ lg dp HB.out.did.at_ [aM] W3.heap.size 1 rfl (av.new W3 _ _) Taa Taa;clear hb;unfold aR strOf at hm HB;simp only[map_cons,map_nil] at hm HB;rw[show aM.toArray= #[41] from rfl] at hm HB;go_wp2_with fail;refine hm.mono ?_;clear hm;intro e w4 hp;rcases hp.cases with ⟨_,r4,v,aC,rfl,rfl,d⟩|⟨m,au,rfl,hg⟩;case inr=>have HF:=hid (vx.out.trans (ak (show must aM r3=.error m by rw[<- aB];exact au)));have HG:=hid (HB.out.did.grown);clear hp au;go_wp2_with fail;exact aj rfl (bD HF.out HG.out hg)
 have kA:must aM r3=.ok ((),r4):=by rw[<- aB];exact aC
 have NI:=hid (vx.out.trans (ag kA));have hl4:r4.length<=l.length:=Nat.le_trans ((cI aM).len kA) Xk;have rO:=hid (HB.out.go d Taa Taa);clear hp aC kA d HB nK vx xk;generalize Jw:w4=W4 at*;clear Jw;have HT:=hid (Tr.at_.keep (kT (Nat.le_refl _)) _ _ rO.out.tr);go_wp2_with (first
  |(refine wpList_load_row rfl 36 (.tmp 7) rfl qx rfl 36 (aU (FE 22 0 G3)).toArray (0,0) _ rO.out.blk Tryz.underlying36 rfl aI ?_)
  |(refine wpList_store_row rfl 36 (.tmp 6) (.tmp 70) rfl w.heap.size (aU (FE 22 0 G3)).toArray rfl rfl 36 dT rO.out.res aI rfl (cV _) ?_
    have HR:=hid (rO.out.res.row (aU (FE 22 0 G3)).toArray)))
 refine bodyPost_ret (v:=eb (FE 22 0 G3)) (results_cell_row Tryz.results243 _ _ w.heap.size 36 (aU (FE 22 0 G3)).toArray (0,0) _ rfl HR.out Tryz.underlying36 rfl aI) rfl ?_;exact cm br rO.out.did HT.out (NI.out.trans rfl)):p:=h
theorem zft.Kby(h:p:=by
 have hl2:l.tail.length<=l.length:=by simp
 clear d qL wX k0 k1 k2 k3 k4 k5 k6 f0 f1 f2 f3 f4 f5 f6;generalize hW2:w2=W2 at*;clear hW2;have hb:=aa W2 (.cells (aR [aM]) 9);have HB:=hid (ia.out.later hb);have xk:=ia.out.did.lt;have hm:=aY ρ _ _ lg dp HB.out.did.at_ [aM] W2.heap.size 1 rfl (av.new W2 _ _) Taa Taa;clear hb;unfold aR strOf at hm HB;simp only[map_cons,map_nil] at hm HB;rw[show aM.toArray= #[41] from rfl] at hm HB;go_wp2_with fail;refine hm.mono ?_;clear hm;intro e w3 hp;rcases hp.cases with ⟨_,r3,v,aC,rfl,rfl,d⟩|⟨m,au,rfl,hg⟩;case inr=>have HF:=hid (zq.out.trans (ak (show must aM l.tail=.error m by rw[<- aB];exact au)));have HG:=hid (HB.out.did.grown);clear hp au;go_wp2_with fail;exact aj rfl (bD HF.out HG.out hg)
 have kA:must aM l.tail=.ok ((),r3):=by rw[<- aB];exact aC
 have vx:=hid (zq.out.trans (ag kA));have Xk:r3.length<=l.length:=Nat.le_trans ((cI aM).len kA) hl2;have nK:=hid (HB.out.go d Taa Taa);clear hp aC kA d HB ia zq xk;generalize hW3:w3=W3 at*;clear hW3;go_wp2_with (first
  |(refine wpList_store_row rfl 36 (.tmp 6) (.tmp 44) rfl w.heap.size (aU (fx 21 0)).toArray rfl rfl 36 dT nK.out.res aI rfl (cV _) ?_
    have HR:=hid (nK.out.res.row (aU (fx 21 0)).toArray)))
 refine bodyPost_ret (v:=eb (fx 21 0)) (results_cell_row Tryz.results243 _ _ w.heap.size 36 (aU (fx 21 0)).toArray (0,0) _ rfl HR.out Tryz.underlying36 rfl aI) rfl ?_;exact cm br nK.out.did (D5 _ _ 21 0) (vx.out.trans rfl)):p:=h
theorem PR (ρ:bw)(w:World)(l:aK)(lg dp:Bool)(h:ρ.gh w l lg dp)(nm:ByteArray)(t0:Wd)(h0:(eu.good (t0::l)).of ρ.ws)(IH:∀(l2:aK) (W:World),l2.length<=l.length->ρ.gh W l2 lg dp->Calls Tryz.prog 154 #[ρ.ptr] W (fC ρ W lg dp (aW 0) l2)):
  Calls Tryz.prog 243 #[ρ.ptr,.string nm,.int .i64 ((ρ.n:Int) - ((l.length:Int)+1))] w (fC ρ w lg dp (fnP nm) l):=by
 obtain⟨op,hv⟩:∃op,(lB nm).getD 0=op:=⟨_,rfl⟩;have br:=h.od;have hb:=aa w (.cells dT 36);have hsz:(w.alloc (.cells dT 36)).heap.size=w.heap.size+1:=by simp
 have HQ:=hid (av.new w 36 dT);have HD:=hid (bh.aF h hb);have HM:=mD.new (w.alloc (.cells dT 36));have HG:=aD (p:=w.heap.size+1) (aa (w.alloc (.cells dT 36)) (.map #[] 0));rw[hsz] at HM;have V6:= @run_makeMap Tryz.prog;clear h hb;have hlen:=h0.1.length_le;unfold dT at HM HG hsz;go_enter Tryz.func243,Tryz.ntmps243;go_upto_region 1 with fail;refine wp_region_lit ?_;refine gG rfl 158 rfl ?_;rw[show(w.alloc _).heap.size=w.heap.size+1 from hsz];refine bu Tryz.underlying158 Tryz.underlying9 rfl _ _ _ rfl (w.heap.size+1) rfl [98,117,99,107,101,116] rfl (.int .u8 20) rfl HM Tab ?_;clear HM;intro wm HM jk;replace HG:=ai HG jk;clear jk;refine bu Tryz.underlying158 Tryz.underlying9 rfl _ _ _ rfl (w.heap.size+1) rfl [99,111,117,110,116] rfl (.int .u8 22) rfl HM Tab ?_;clear HM;intro wm HM jk;replace HG:=ai HG jk;clear jk;refine bu Tryz.underlying158 Tryz.underlying9 rfl _ _ _ rfl (w.heap.size+1) rfl [115,117,109] rfl (.int .u8 23) rfl HM Tab ?_;clear HM;intro wm HM jk;replace HG:=ai HG jk;clear jk;refine bu Tryz.underlying158 Tryz.underlying9 rfl _ _ _ rfl (w.heap.size+1) rfl [109,105,110] rfl (.int .u8 24) rfl HM Tab ?_;clear HM;intro wm HM jk;replace HG:=ai HG jk;clear jk;refine bu Tryz.underlying158 Tryz.underlying9 rfl _ _ _ rfl (w.heap.size+1) rfl [109,97,120] rfl (.int .u8 25) rfl HM Tab ?_;clear HM;intro wm HM jk;replace HG:=ai HG jk;clear jk;refine bu Tryz.underlying158 Tryz.underlying9 rfl _ _ _ rfl (w.heap.size+1) rfl [97,118,103] rfl (.int .u8 26) rfl HM Tab ?_
 clear HM;intro wm HM jk;replace HG:=ai HG jk;clear jk;refine bu Tryz.underlying158 Tryz.underlying9 rfl _ _ _ rfl (w.heap.size+1) rfl [102,105,114,115,116] rfl (.int .u8 27) rfl HM Tab ?_;clear HM;intro wm HM jk;replace HG:=ai HG jk;clear jk;refine bu Tryz.underlying158 Tryz.underlying9 rfl _ _ _ rfl (w.heap.size+1) rfl [108,97,115,116] rfl (.int .u8 28) rfl HM Tab ?_;clear HM;intro wm HM jk;replace HG:=ai HG jk;clear jk;have RO:=hid HM;have HGG:=hid HG;clear HM HG hsz;have gb:=hid (HD.out.own br HGG.out (λ G e=>by injection e with e;omega));have hqm:=HQ.out.grown HGG.out Tad;have RP:nV ρ w lg dp w.heap.size wm.heap.size (wm.alloc (.cells (aU (fx op 0)).toArray 36)) l (.mk op aV ByteArray.empty 0 []) (fx op 0):=⟨gb.out.later (aa _ _),av.new wm _ _,hqm.alloc _,D5 _ _ _ _⟩;have qL:=hid RP;have Kz:w.heap.size < wm.heap.size:=hqm.lt;have hgx:ρ.g < wm.heap.size:=by omega
 clear RP gb HQ HD hqm HGG;unfold aU fx tQ at qL;simp only[Act.put,Uac];go_upto_region 2 with (first
  |(refine fI Tryz.underlying158 Tryz.underlying9 rfl _ _ rfl (w.heap.size+1) rfl nm rfl (l:=agH) RO.out (z:=.int .u8 0) Tryz.zeroValue5 ?_
    rw[ZZ nm,hv]))
 clear RO V6;generalize wm.alloc _=W1 at*;generalize wm.heap.size=qx at*;replace qL:=hid (show nV ρ w lg dp w.heap.size qx W1 l (.mk op aV ByteArray.empty 0 []) (fx op 0)from qL.out)
 cases hf:lB nm with
 | none=>rw[hf] at hv;have hv:0=op:=hv;subst hv;have hA:=qL.out.did.at_;have xG:=hA.back h0;have Xa:=hA.facts.2.2.2.2.1;have iq:=hA.facts.2.1;have HF:=hid (jX ρ _ (t0::l) lg dp xG.at_);have HG:=hid (ai qL.out.did.grown xG.grown);obtain⟨k0,k1,k2,k3,k4,k5,k6⟩:=fj qL.out.blk;unfold fx at k0;simp only at k0;clear hA xG qL k1 k2 k3 k4 k5 k6;unfold bw.ptr at*;go_wp2_with fail;refine HF.out.mono ?_;rintro e w3 ⟨rfl,hg⟩;go_wp2_with fail;exact aj rfl (bD (n:=l.length+1) (abl hf) HG.out hg)
 | some o=>
   rw[hf] at hv;have hv:o=op:=hv;subst hv;obtain⟨h1,h2,h3⟩:=agI hf;by_cases Mj:o=20
   ·subst Mj;clear h1 h2 h3;have wX:=hid ((yG hf).trans (congrFun (agG (aW 0)) l));obtain⟨k0,k1,k2,k3,k4,k5,k6⟩:=fj (qL.out).blk;obtain⟨f0,f1,f2,f3,f4,f5,f6⟩:=fu (qL.out).blk;unfold fx at k0 k1 k2 k3 k4 k5 k6;simp only at k0 k1 k2 k3 k4 k5 k6;go_wp2_with fail;refine(ey ρ W1 l lg dp qL.out.did.at_).mono ?_;intro e w2 hp;rcases hp.cases with ⟨n,r2,v,aC,rfl,rfl,hn,d⟩|⟨m,au,rfl,hg⟩;case inr=>have HF:=hid (wX.out.trans (ak au));have HG:=hid (qL.out.did.grown);clear hp au;go_wp2_with fail;exact aj rfl (bD HF.out HG.out hg)
    have zq:=hid (wX.out.trans (ag aC));have hl2:r2.length<=l.length:=Nat.le_trans (mh.len aC) (Nat.le_refl _);have Cl:=qL.out.go d Taa Taa;have ia:=hid (Cl.DR (n:=n) br (Nat.le_refl _) Kz);have CF:=hid Cl;obtain⟨k0,k1,k2,k3,k4,k5,k6⟩:=fj (CF.out).blk;obtain⟨f0,f1,f2,f3,f4,f5,f6⟩:=fu (CF.out).blk;unfold fx at k0 k1 k2 k3 k4 k5 k6;simp only at k0 k1 k2 k3 k4 k5 k6;clear hp aC Cl d qL wX;go_upto_region 7 with fail;clear CF k0 k1 k2 k3 k4 k5 k6 f0 f1 f2 f3 f4 f5 f6;generalize w2.setCell _ _=W2 at*;have hb:=aa W2 (.cells (aR [bt]) 9);have HB:=hid (ia.out.later hb);have xk:=ia.out.did.lt;have hm:=aY ρ _ _ lg dp HB.out.did.at_ [bt] W2.heap.size 1 rfl (av.new W2 _ _) Taa Taa;clear hb;unfold aR strOf at hm HB;simp only[map_cons,map_nil] at hm HB;rw[show bt.toArray= #[44] from rfl] at hm HB;go_wp2_with fail;refine hm.mono ?_;clear hm;intro e w3 hp;rcases hp.cases with ⟨_,r3,v,aC,rfl,rfl,d⟩|⟨m,au,rfl,hg⟩;case inr=>have HF:=hid (zq.out.trans (ak (show must bt r2=.error m by rw[<- aB];exact au)));have HG:=hid (HB.out.did.grown);clear hp au;go_wp2_with fail;exact aj rfl (bD HF.out HG.out hg)
    have kA:must bt r2=.ok ((),r3):=by rw[<- aB];exact aC
    have vx:=hid (zq.out.trans (ag kA));have Xk:r3.length<=l.length:=Nat.le_trans ((cI bt).len kA) hl2;have nK:=hid (HB.out.go d Taa Taa);clear hp aC kA d HB ia zq xk;generalize hW3:w3=W3 at*;clear hW3;obtain⟨k0,k1,k2,k3,k4,k5,k6⟩:=fj (nK.out).blk;obtain⟨f0,f1,f2,f3,f4,f5,f6⟩:=fu (nK.out).blk;unfold fx at k0 k1 k2 k3 k4 k5 k6;simp only at k0 k1 k2 k3 k4 k5 k6;go_wp2_with fail;refine(IH r3 W3 Xk nK.out.did.at_).mono ?_;intro e w4 hp;rcases hp.cases with ⟨t4,r4,v,aC,rfl,y4,rfl,hat,d⟩|⟨m,au,rfl,hg⟩;case inr=>have HF:=hid (vx.out.trans (ak au));have HG:=hid (nK.out.did.grown);clear hp au;go_wp2_with fail;exact aj rfl (bD HF.out HG.out hg)
    clear k0 k1 k2 k3 k4 k5 k6 f0 f1 f2 f3 f4 f5 f6;have NI:=hid (vx.out.trans (ag aC));have hl4:r4.length<=l.length:=Nat.le_trans ((cw 0).len aC) Xk;have Cl:=nK.out.go d Taa Taa;have rO:=hid (Cl.RN br (Nat.le_refl _) Kz nK.out.blk.lt hat);have hxw:=Cl.blk.lt;have CF:=hid Cl;obtain⟨k0,k1,k2,k3,k4,k5,k6⟩:=fj (CF.out).blk;obtain⟨f0,f1,f2,f3,f4,f5,f6⟩:=fu (CF.out).blk;unfold fx at k0 k1 k2 k3 k4 k5 k6;simp only at k0 k1 k2 k3 k4 k5 k6;clear hp aC Cl d hat nK vx;unfold eb;unfold aU at rO ⊢;go_upto_region 15 with fail;clear CF hxw k0 k1 k2 k3 k4 k5 k6 f0 f1 f2 f3 f4 f5 f6;generalize (World.alloc _ _)=W4 at*;generalize w4.heap.size=G4 at*;replace rO:=hid (show nV ρ w lg dp w.heap.size qx W4 r4 (.mk 20 aV ByteArray.empty n [t4]) (FE 20 n G4)from rO.out);have hb:=aa W4 (.cells (aR [aM]) 9);have HB:=hid (rO.out.later hb);have xk:=rO.out.did.lt;have hm:=aY ρ _ _ lg dp HB.out.did.at_ [aM] W4.heap.size 1 rfl (av.new W4 _ _) Taa Taa;clear hb;unfold aR strOf at hm HB;simp only[map_cons,map_nil] at hm HB;rw[show aM.toArray= #[41] from rfl] at hm HB;go_wp2_with fail;refine hm.mono ?_;clear hm;intro e w5 hp;rcases hp.cases with ⟨_,r5,v,aC,rfl,rfl,d⟩|⟨m,au,rfl,hg⟩;case inr=>have HF:=hid (NI.out.trans (ak (show must aM r4=.error m by rw[<- aB];exact au)));have HG:=hid (HB.out.did.grown);clear hp au;go_wp2_with fail;exact aj rfl (bD HF.out HG.out hg)
    have kA:must aM r4=.ok ((),r5):=by rw[<- aB];exact aC
    have HE5:=hid (NI.out.trans (ag kA));have hl5:r5.length<=l.length:=Nat.le_trans ((cI aM).len kA) hl4;have FD:=hid (HB.out.go d Taa Taa);clear hp aC kA d HB rO NI xk;generalize hW5:w5=W5 at*;clear hW5;have HT:=hid (Tr.at_.keep (kT (Nat.le_refl _)) _ _ FD.out.tr);go_wp2_with (first
     |(refine wpList_load_row rfl 36 (.tmp 7) rfl qx rfl 36 (aU (FE 20 n G4)).toArray (0,0) _ FD.out.blk Tryz.underlying36 rfl aI ?_)
     |(refine wpList_store_row rfl 36 (.tmp 6) (.tmp 70) rfl w.heap.size (aU (FE 20 n G4)).toArray rfl rfl 36 dT FD.out.res aI rfl (cV _) ?_
       have HR:=hid (FD.out.res.row (aU (FE 20 n G4)).toArray)))
    refine bodyPost_ret (v:=eb (FE 20 n G4)) (results_cell_row Tryz.results243 _ _ w.heap.size 36 (aU (FE 20 n G4)).toArray (0,0) _ rfl HR.out Tryz.underlying36 rfl aI) rfl ?_;exact cm br FD.out.did HT.out (HE5.out.trans rfl)
   by_cases h22:o=22
   ·subst h22;clear h1 h2 h3 Mj;cases hst:ar fq l
    ·have wX:=hid ((yG hf).trans (RM (W:=aW 0) (l:=l) (λ _=>hst) Tab Tab Tab));have hm:=bz ρ W1 l lg dp qL.out.did.at_ ⟨#[42]⟩;rw[show(⟨#[42]⟩:ByteArray).data.toList=fq from rfl,hst,cy hst] at hm;open zfs in exact Zc4
    ·have wX:=hid ((yG hf).trans (ZY hst));have hm:=bz ρ W1 l lg dp qL.out.did.at_ ⟨#[42]⟩;rw[show(⟨#[42]⟩:ByteArray).data.toList=fq from rfl,hst,cE hst] at hm;open zft in exact Zc4
   by_cases Xn:o=27\/o=28
   ·have b0:(o==0)=false:=by rw[beq_eq_false_iff_ne];omega
    have b20:(o==20)=false:=by rw[beq_eq_false_iff_ne];omega
    have b22:(o==22)=false:=by rw[beq_eq_false_iff_ne];omega
    have H2:=hid Xn
    have hb:(o==27)=true\/((o==27)=false/\(o==28)=true):=by
     rcases Xn with h | h
     ·left;rw[beq_iff_eq];exact h
     ·right;rw[beq_eq_false_iff_ne,beq_iff_eq];omega
    clear h1 h2 h3 Mj h22 Xn
    rcases hb with b27 |⟨b27,b28⟩;all_goals
     have wX:=hid ((yG hf).trans (congrFun (abn (W:=aW 0) (op:=o) H2.out) l));obtain⟨k0,k1,k2,k3,k4,k5,k6⟩:=fj (qL.out).blk;obtain⟨f0,f1,f2,f3,f4,f5,f6⟩:=fu (qL.out).blk;unfold fx at k0 k1 k2 k3 k4 k5 k6;simp only at k0 k1 k2 k3 k4 k5 k6;go_wp2_with fail;refine(IH l W1 (Nat.le_refl _) qL.out.did.at_).mono ?_;intro e w2 hp;rcases hp.cases with ⟨t2,r2,v,aC,rfl,y2,rfl,hat,d⟩|⟨m,au,rfl,hg⟩;case inr=>have HF:=hid (wX.out.trans (ak au));have HG:=hid (qL.out.did.grown);clear hp au;go_wp2_with fail;exact aj rfl (bD HF.out HG.out hg)
     clear k0 k1 k2 k3 k4 k5 k6 f0 f1 f2 f3 f4 f5 f6;have zq:=hid (wX.out.trans (ag aC));have hl2:r2.length<=l.length:=Nat.le_trans ((cw 0).len aC) (Nat.le_refl _);have Cl:=qL.out.go d Taa Taa;have ia:=hid (Cl.RN br (Nat.le_refl _) Kz qL.out.blk.lt hat);have Rs:=hid (Cl.agJ Kz qL.out.blk.lt hat);have hxw:=Cl.blk.lt;have CF:=hid Cl;obtain⟨k0,k1,k2,k3,k4,k5,k6⟩:=fj (CF.out).blk;obtain⟨f0,f1,f2,f3,f4,f5,f6⟩:=fu (CF.out).blk;unfold fx at k0 k1 k2 k3 k4 k5 k6;simp only at k0 k1 k2 k3 k4 k5 k6;clear hp aC Cl d hat qL wX;unfold eb;unfold aU at ia Rs ⊢;go_upto_region 13 with fail
     clear CF hxw k0 k1 k2 k3 k4 k5 k6 f0 f1 f2 f3 f4 f5 f6;generalize (World.alloc _ _)=W2 at*;generalize w2.heap.size=G2 at*;replace ia:=hid (show nV ρ w lg dp w.heap.size qx W2 r2 (.mk o aV ByteArray.empty 0 [t2]) (FE o 0 G2)from ia.out);replace Rs:=hid (show K2 W2 G2 qx t2 y2 from Rs.out);have hb:=aa W2 (.cells (aR [bt]) 9);have HB:=hid (ia.out.later hb);have xk:=ia.out.did.lt;have hm:=aY ρ _ _ lg dp HB.out.did.at_ [bt] W2.heap.size 1 rfl (av.new W2 _ _) Taa Taa;have HKB:=hid (Rs.out.later hb);clear Rs hb;unfold aR strOf at hm HB HKB;simp only[map_cons,map_nil] at hm HB HKB;rw[show bt.toArray= #[44] from rfl] at hm HB HKB;go_wp2_with fail;refine hm.mono ?_;clear hm;intro e w3 hp;rcases hp.cases with ⟨_,r3,v,aC,rfl,rfl,d⟩|⟨m,au,rfl,hg⟩;case inr=>have HF:=hid (zq.out.trans (ak (show must bt r2=.error m by rw[<- aB];exact au)));have HG:=hid (HB.out.did.grown);clear hp au;go_wp2_with fail;exact aj rfl (bD HF.out HG.out hg)
     have kA:must bt r2=.ok ((),r3):=by rw[<- aB];exact aC
     have vx:=hid (zq.out.trans (ag kA));have Xk:r3.length<=l.length:=Nat.le_trans ((cI bt).len kA) hl2;have nK:=hid (HB.out.go d Taa Taa);have HK3:=hid (HKB.out.go d Taa);clear HKB hp aC kA d HB ia zq xk;generalize hW3:w3=W3 at*;clear hW3;have HC:=hid (show W3.cell? ⟨qx,6,none⟩=some (.slice (some ⟨G2,0,none⟩) 1 1)from nK.out.blk.cell 6);cases zP:aW 0 r3 with
     | error m=>
       have DM:=hid zP;clear zP;go_wp2_with fail;refine xo (P:=Tryz.prog) (H:=λ W=>W.cell? ⟨qx,6,none⟩=some (.slice (some ⟨G2,0,none⟩) 1 1)) (E:=λ C W=>C=[sy (ρ.placeOf m)]/\w.grownBy W (some ρ.g)) (w0:=W3) (s0:=7) (s1:=0) (d0:=60) (d1:=61) (d2:=62) (d3:=63) (d4:=64) (d5:=65) (d6:=66) (vs0:=.pointer (some ⟨qx,0,none⟩)) (vs1:=ρ.ptr) (u0:=.pointer (some ⟨qx,6,none⟩)) (u1:=.slice (some ⟨G2,0,none⟩) 1 1) (u2:=ρ.ptr) (F:=154) (args:= #[ρ.ptr]) Tac Tac Tac Tac rfl rfl HC.out (λ w' w'' hh hl=>(hl.cell (ax hh)).trans hh) ?_ ?_ ?_ ?_ Tac ?_ ?_
       ·intro ρ' w' hH hc h';simp[go_sem,h']
       ·intro ρ' w' hH hc h';simp[go_sem,h',hH]
       ·intro ρ' w' hH hc h';simp[go_sem,h']
       ·intro ρ' w' hc h';simp[go_sem,h',hc.const,hc.func]
       ·intro w' hw';refine(IH r3 w' Xk (nK.out.did.at_.later hw')).mono ?_;intro e w'' hp;rcases hp.cases with ⟨t3,r3,v,aC,_⟩|⟨m',au,rfl,hg⟩
        ·rw[DM.out] at aC;cases aC
        ·rw[DM.out] at au;injection au with au;subst au;exact⟨_,rfl,rfl,ai (nK.out.did.later hw').grown hg⟩
       ·rintro C a W hd ⟨rfl,hg⟩;have hE:=bD (lg:=lg) (dp:=dp) (vx.out.trans (ak DM.out)) (aD (Below.refl _ _)) hg;simp only[Exit.inBlock,Exit.then];exact aj (P:=Tryz.prog) (fn:=Tryz.f243) hd hE
     | ok x=>
       obtain⟨t9,r9⟩:=x;have DM:=hid zP;clear zP;have HK:=HK3.out;go_wp2_with fail;refine Lz (P:=Tryz.prog) (f:=aU) (val:=eb) (e:=36) (size:=7) (base:=G2) (l:=[y2]) (lv:=.slice (some ⟨G2,0,none⟩) 1 1) (Post:=λ z W W'=>t9.at_ W' (eI W.heap.size W') z/\bh ρ W W' r9 lg dp) (w0:=W3) (q:=7) (d0:=60) (d1:=61) (d2:=62) (d3:=63) (d4:=64) (d5:=65) (d6:=66) (qb:=qx) (k:=6) (g:=ρ.g) (pq:=.pointer (some ⟨qx,0,none⟩)) (ptr:=ρ.ptr) (F:=154) (args:= #[ρ.ptr]) 24 24 _ 88 Tac Tac Tac Tac Tac rfl rfl ?_ ?_ ?_ ?_ ?_ ?_ ?_ Tryz.underlying24 Vg rfl Taa (λ _=>rfl) (by intro y u hu;simp[aU] at hu;rcases hu with rfl | rfl | rfl | rfl | rfl | rfl | rfl <;> rfl) (aaM (λ _=>rfl) HK.blk (Nat.le_refl _)) HC.out Taa ?_ ?_ Tad Tad (Nat.le_of_lt HK.blk.lt) ?_ ?_ ?_
       ·intro ρ' w' h';simp[go_sem,h']
       ·intro ρ' w' h';simp[go_sem,h']
       ·intro ρ' w' h' hc';simp[go_sem,h',hc']
       ·intro ρ' w' h';simp[go_sem,h']
       ·intro ρ' w' hc' h';simp[go_sem,h',hc'.const,hc'.func]
       ·intro ρ' w' y' h';simp[go_sem,h',eb,aU]
       ·intro ρ' w' s' v' X5 rQ oH tE;simp only[execOp,resolve,invoke,builtin,Sem.run_bind,Sem.run_pure,Result.andThen_ok,map_toArray,map_cons,map_nil,rQ,oH,tE]
       ·have:=HK.lt;simp[Value.ownBlock];omega
       ·have:=HK.lt;simp[Value.ownBlock];omega
       ·intro w' hw';refine(IH r3 w' Xk (nK.out.did.at_.later hw')).mono ?_;intro e w'' hp;rcases hp.cases with ⟨t3,r3,v,aC,rfl,z,rfl,hat,d2⟩|⟨m,au,_⟩
        ·rw[DM.out] at aC;injection aC with aC;injection aC with h1 h2;subst h1 h2;exact⟨z,rfl,hat,d2⟩
        ·rw[DM.out] at au;cases au
       ·rintro z w' w'' ⟨_,dd⟩;exact dd.grown
       intro z s v' V1 V1' V2 V3 wb ⟨ht9,d9⟩ hl2 zP mm pN arG iq;have hgG:=HK.lt;obtain⟨A9,c9,Xw,wq⟩:=OZ tP pN (S:=eI (qx+1) V3) (λ g h1 h2=>⟨by omega,h2⟩);have Xw:v'=.slice A9 2 c9:=Xw;subst Xw;have mm:V2.grownBy V3 (some G2):=mm;have hz1:W3.heap.size<=V1.heap.size:=wb.size;have hz2:=d9.size;have hz3:V1'.heap.size<=V2.heap.size:=hl2.size;have xk:=HK.blk.lt;have D9:=(((nK.out.did.later wb).trans d9).later hl2).own br mm (λ g h=>by injection h with h;omega);have hX9:=(((nK.out.blk.later wb).grown d9.grown Tae).later hl2).grown mm Tae;have hR9:=(((nK.out.res.later wb).grown d9.grown Tae).later hl2).grown mm Tae;have ht1:=Tr.at_.keep (Rq mm G2 (λ g h=>by injection h with h;exact h.symm)) _ _ (Tr.at_.keep (iu hl2) _ _ (Tr.at_.keep (je d9.grown Taa) _ _ (Tr.at_.keep (iu wb) _ _ HK.tr)));have ams:Tr.at_ _ _ t9 z:=Tr.at_.keep (λ b hb=>⟨λ _=>rfl,(⟨by have:=hb.1;omega,hb.2,by have:=hb.1;omega⟩:Bx (qx+1) G2 V2 b)⟩) t9 z (ht9.later hl2);have Ry:=Tr.at_.keep (Rq mm G2 (λ g h=>by injection h with h;exact h.symm)) _ _ ams;have fH:=hid (nV.amp (c:=c9) D9 hX9 hR9 br (Nat.le_refl _) Kz wq (Tr.at_.keep (kT (Nat.le_refl _)) _ _ ht1) (Tr.at_.keep (kT (Nat.le_refl _)) _ _ Ry));have cf:=hid (vx.out.trans (ag DM.out));have hl9:r9.length<=l.length:=Nat.le_trans ((cw 0).len DM.out) Xk;have hf9:=hX9.frozen 6;clear wb ht9 d9 hl2 zP mm pN arG wq hz1 hz2 hz3 D9 hX9 hR9 ht1 ams Ry nK vx HC HK HK3 xk hgG;simp only[Act.put,Uac];go_upto_region 15 with fail
       clear iq hf9;generalize (V3.setCell _ _)=W9 at*;have hb:=aa W9 (.cells (aR [aM]) 9);have HB:=hid (fH.out.later hb);have xk:=fH.out.did.lt;have hm:=aY ρ _ _ lg dp HB.out.did.at_ [aM] W9.heap.size 1 rfl (av.new W9 _ _) Taa Taa;clear hb;unfold aR strOf at hm HB;simp only[map_cons,map_nil] at hm HB;rw[show aM.toArray= #[41] from rfl] at hm HB;go_wp2_with fail;refine hm.mono ?_;clear hm;intro e xg hp;rcases hp.cases with ⟨_,r10,v,aC,rfl,rfl,d⟩|⟨m,au,rfl,hg⟩;case inr=>have HF:=hid (cf.out.trans (ak (show must aM r9=.error m by rw[<- aB];exact au)));have HG:=hid (HB.out.did.grown);clear hp au;go_wp2_with fail;exact aj rfl (bD HF.out HG.out hg)
       have kA:must aM r9=.ok ((),r10):=by rw[<- aB];exact aC
       have PS:=hid (cf.out.trans (ag kA));have ayp:r10.length<=l.length:=Nat.le_trans ((cI aM).len kA) hl9;have DT:=hid (HB.out.go d Taa Taa);clear hp aC kA d HB fH cf xk;generalize arI:xg=W10 at*;clear arI;have HT:=hid (Tr.at_.keep (kT (Nat.le_refl _)) _ _ DT.out.tr);go_wp2_with (first
        |(refine wpList_load_row rfl 36 (.tmp 7) rfl qx rfl 36 (aU (⟨o,tQ,⟨#[]⟩,0,A9,2,c9⟩)).toArray (0,0) _ DT.out.blk Tryz.underlying36 rfl aI ?_)
        |(refine wpList_store_row rfl 36 (.tmp 6) (.tmp 70) rfl w.heap.size (aU (⟨o,tQ,⟨#[]⟩,0,A9,2,c9⟩)).toArray rfl rfl 36 dT DT.out.res aI rfl (cV _) ?_
          have HR:=hid (DT.out.res.row (aU (⟨o,tQ,⟨#[]⟩,0,A9,2,c9⟩)).toArray)))
       refine bodyPost_ret (v:=eb (⟨o,tQ,⟨#[]⟩,0,A9,2,c9⟩)) (results_cell_row Tryz.results243 _ _ w.heap.size 36 (aU (⟨o,tQ,⟨#[]⟩,0,A9,2,c9⟩)).toArray (0,0) _ rfl HR.out Tryz.underlying36 rfl aI) rfl ?_;exact cm br DT.out.did HT.out (PS.out.trans rfl)
   have h28:o≠28:=λ h=>Xn (.inr h)
   replace Xn:o≠27:=λ h=>Xn (.inl h)
   have wX:=hid ((yG hf).trans (RM (W:=aW 0) (l:=l) (λ h=>absurd h h22) Mj Xn h28));have b0:(o==0)=false:=by rw[beq_eq_false_iff_ne];omega
   have b20:(o==20)=false:=by rw[beq_eq_false_iff_ne];omega
   have b22:(o==22)=false:=by rw[beq_eq_false_iff_ne];omega
   have b27:(o==27)=false:=by rw[beq_eq_false_iff_ne];omega
   have b28:(o==28)=false:=by rw[beq_eq_false_iff_ne];omega
   obtain⟨k0,k1,k2,k3,k4,k5,k6⟩:=fj (qL.out).blk;obtain⟨f0,f1,f2,f3,f4,f5,f6⟩:=fu (qL.out).blk;unfold fx at k0 k1 k2 k3 k4 k5 k6;simp only at k0 k1 k2 k3 k4 k5 k6;go_wp2_with fail;refine(IH l W1 (Nat.le_refl _) qL.out.did.at_).mono ?_;intro e w2 hp;rcases hp.cases with ⟨t2,r2,v,aC,rfl,y2,rfl,hat,d⟩|⟨m,au,rfl,hg⟩;case inr=>have HF:=hid (wX.out.trans (ak au));have HG:=hid (qL.out.did.grown);clear hp au;go_wp2_with fail;exact aj rfl (bD HF.out HG.out hg)
   clear k0 k1 k2 k3 k4 k5 k6 f0 f1 f2 f3 f4 f5 f6;have zq:=hid (wX.out.trans (ag aC));have hl2:r2.length<=l.length:=Nat.le_trans ((cw 0).len aC) (Nat.le_refl _);have Cl:=qL.out.go d Taa Taa;have ia:=hid (Cl.RN br (Nat.le_refl _) Kz qL.out.blk.lt hat);have hxw:=Cl.blk.lt;have CF:=hid Cl;obtain⟨k0,k1,k2,k3,k4,k5,k6⟩:=fj (CF.out).blk;obtain⟨f0,f1,f2,f3,f4,f5,f6⟩:=fu (CF.out).blk;unfold fx at k0 k1 k2 k3 k4 k5 k6;simp only at k0 k1 k2 k3 k4 k5 k6;clear hp aC Cl d hat qL wX;unfold eb;unfold aU at ia ⊢;go_upto_region 15 with fail;clear CF hxw k0 k1 k2 k3 k4 k5 k6 f0 f1 f2 f3 f4 f5 f6;generalize (World.alloc _ _)=W2 at*;generalize w2.heap.size=G2 at*;replace ia:=hid (show nV ρ w lg dp w.heap.size qx W2 r2 (.mk o aV ByteArray.empty 0 [t2]) (FE o 0 G2)from ia.out);have hb:=aa W2 (.cells (aR [aM]) 9);have HB:=hid (ia.out.later hb);have xk:=ia.out.did.lt;have hm:=aY ρ _ _ lg dp HB.out.did.at_ [aM] W2.heap.size 1 rfl (av.new W2 _ _) Taa Taa;clear hb;unfold aR strOf at hm HB;simp only[map_cons,map_nil] at hm HB;rw[show aM.toArray= #[41] from rfl] at hm HB;go_wp2_with fail;refine hm.mono ?_;clear hm;intro e w3 hp;rcases hp.cases with ⟨_,r3,v,aC,rfl,rfl,d⟩|⟨m,au,rfl,hg⟩;case inr=>have HF:=hid (zq.out.trans (ak (show must aM r2=.error m by rw[<- aB];exact au)));have HG:=hid (HB.out.did.grown);clear hp au;go_wp2_with fail;exact aj rfl (bD HF.out HG.out hg)
   have kA:must aM r2=.ok ((),r3):=by rw[<- aB];exact aC
   have vx:=hid (zq.out.trans (ag kA));have Xk:r3.length<=l.length:=Nat.le_trans ((cI aM).len kA) hl2;have nK:=hid (HB.out.go d Taa Taa);clear hp aC kA d HB ia zq xk;generalize hW3:w3=W3 at*;clear hW3;have HT:=hid (Tr.at_.keep (kT (Nat.le_refl _)) _ _ nK.out.tr);go_wp2_with (first
    |(refine wpList_load_row rfl 36 (.tmp 7) rfl qx rfl 36 (aU (FE o 0 G2)).toArray (0,0) _ nK.out.blk Tryz.underlying36 rfl aI ?_)
    |(refine wpList_store_row rfl 36 (.tmp 6) (.tmp 70) rfl w.heap.size (aU (FE o 0 G2)).toArray rfl rfl 36 dT nK.out.res aI rfl (cV _) ?_
      have HR:=hid (nK.out.res.row (aU (FE o 0 G2)).toArray)))
   refine bodyPost_ret (v:=eb (FE o 0 G2)) (results_cell_row Tryz.results243 _ _ w.heap.size 36 (aU (FE o 0 G2)).toArray (0,0) _ rfl HR.out Tryz.underlying36 rfl aI) rfl ?_;exact cm br nK.out.did HT.out (vx.out.trans rfl)
end Go.Proofs.YtehhdlgjfdnafaaGreatDoor
