/- Parts of the proof. -/
import Derived.Test.YtehhdlgjfdnafaaGreatDoorXB12
namespace Go.Proofs.YtehhdlgjfdnafaaGreatDoor
variable{p:Prop}
set_option maxHeartbeats 90000000
set_option maxRecDepth 100000
open Go.Lib (hid)
open Go.ChangeShapes Go.WideShapes Go.ChangeAt Go.RowKit List
set_option linter.unusedVariables false
set_option linter.unusedSimpArgs false
theorem QR{α β:Type}(x:α)(f:α->Ps β):((pure x:Ps α)>>=f)=f x:=rfl
def fnP (nm:ByteArray):Ps Tr:=λ l=>match lW nm with
 | none=> .error (l.length+1)
 | some op=>pV (aU 0) op l
variable{nm:ByteArray}{l:aI}
theorem aaf(h:lW nm=none):fnP nm l=.error (l.length+1):=by unfold fnP;rw[h]
variable{op:Int}
theorem xR(h:lW nm=some op):fnP nm l=pV (aU 0) op l:=by unfold fnP;rw[h]
theorem afk (W:Ps Tr):pV W 20=(do let n <- nh;must bk;let x <- W;must aM;return .mk 20 ct ByteArray.empty n [x]):=by unfold pV rT vP rv;rw[if_neg Tab,if_pos rfl,if_neg Tab];simp only[iT,QR]
variable{W:Ps Tr}
theorem Za(h:ar fe l=true):pV W 22 l=(do must aM;return nr 21 []:Ps Tr) l.tail:=by unfold pV countP;rw[if_pos rfl,bQ];simp only[h,if_true]
theorem QS(h22:op=22->ar fe l=false)(Pc:op≠20)(h27:op≠27)(h28:op≠28):pV W op l=(do let x <- W;must aM;return .mk op ct ByteArray.empty 0 [x]:Ps Tr) l:=by
 have ha:rT W op=(do let x <- W;must aM;return .mk op ct ByteArray.empty 0 [x]):=by unfold rT vP rv;rw[if_neg Pc,if_neg Taa];simp only[iT,QR]
 unfold pV countP;by_cases h:op=22
 ·subst h;rw[if_pos rfl,bQ];simp only[h22 rfl,ha];rfl
 ·rw[if_neg h,ha]
theorem aah(h:op=27\/op=28):pV W op=(do let x <- W;must bk;let y <- W;must aM;return .mk op ct ByteArray.empty 0 [x,y]):=by unfold pV rT vP rv;rw[if_neg Taa,if_neg Taa,if_pos h];simp only[iT,QR]
variable{α β:Type}
theorem Df(f:α->β)(k:List UInt8):∀l:List (List UInt8×α),(l.map λ x=>(x.1,f x.2)).lookup k=(l.lookup k).map f
 | []=>rfl
 |(x,v)::l=>by simp only[map_cons,lookup_cons,Df f k l];cases k==x <;> rfl
def afl:List (List UInt8×Value):=R3.map λ x=>(x.1,.int .u8 x.2)
theorem Zb (nm:ByteArray):(afl.lookup nm.data.toList).getD (.int .u8 0)=.int .u8 ((lW nm).getD 0):=by unfold afl lW;rw[Df (λ o:Int=>Value.int .u8 o)];cases R3.lookup nm.data.toList <;> rfl
theorem afm(h:lW nm=some op):20<=op/\op<=28/\op≠21:=by
 unfold lW at h
 have:∀(l:List (List UInt8×Int)),(∀x∈l,20<=x.2/\x.2<=28/\x.2≠21)->∀k o,l.lookup k=some o->20<=o/\o<=28/\o≠21:=by
  intro l
  induction l with
  | nil=>intro _ k o h;simp at h
  | cons x l ih=>
    intro hl k o h;obtain⟨x1,x2⟩:=x;rw[lookup_cons] at h;cases hk:(k==x1)
    ·rw[hk] at h;exact ih (λ y hy=>hl y (mem_cons_of_mem _ hy)) k o h
    ·rw[hk] at h;simp only at h;injection h with h;have:=hl (x1,x2) Tae;simp only at this;omega
 exact this R3 Tab _ _ h
structure K2 (W:World) (G qx:Nat) (t:Tr) (y:Ex):Prop where
 blk:av W G 36 (aT y).toArray
 tr:t.at_ W (Bx (qx+1) G W) y
 lt:qx < G
variable{W':World}{G qx:Nat}{y:Ex}
theorem K2.later{W:World}  {t:Tr} (h:K2 W G qx t y)(hb:Below W.heap.size W W'):K2 W' G qx t y:=⟨h.blk.later hb,Tr.at_.keep (gX hb) _ _ h.tr,h.lt⟩
variable{ρ:bp}{lg dp:Bool}
theorem K2.go{W:World}    {t:Tr} (h:K2 W G qx t y)(d:aY ρ W W' l lg dp)(hg:ρ.g < qx):K2 W' G qx t y:=
 ⟨d.blk h.blk (by have:=h.lt;omega),Tr.at_.keep (iM d.grown Taa) _ _ h.tr,h.lt⟩
variable{w:World}{t0:Wd}
theorem bp.fU.back(h:ρ.fU w l lg dp)(h0:(dX.good (t0::l)).of ρ.ws):aY ρ w (w.setCell ⟨ρ.g,1,none⟩ (.int .i64 ((ρ.n:Int) - ((l.length:Int)+1)))) (t0::l) lg dp:=by
 have hB:=av.cC h.blk 1 (.int .i64 ((ρ.n:Int) - ((l.length:Int)+1)));have e:(ρ.wz l lg dp).setIfInBounds 1 (.int .i64 ((ρ.n:Int) - ((l.length:Int)+1)))=ρ.wz (t0::l) lg dp:=by unfold bp.wz;simp
 rw[e] at hB;exact⟨h.set hB (bu (aB (Below.refl _ _)) 1 _) h0,bu (aB (Below.refl _ _)) 1 _⟩
variable{q:Nat}
theorem eX(h:av w q 36 (aT y).toArray):
  w.cell? ⟨q,0,none⟩=some (.int .u8 y.op)/\w.cell? ⟨q,1,none⟩=some (.int .u8 y.v.k)/\w.cell? ⟨q,2,none⟩=some (.int .i64 y.v.n)/\w.cell? ⟨q,3,none⟩=some (.string y.v.s)/\w.cell? ⟨q,4,none⟩=some (.string y.name)/\w.cell? ⟨q,5,none⟩=some (.int .i64 y.width)/\w.cell? ⟨q,6,none⟩=some (.slice y.A y.n y.c):=
 ⟨h.cell 0,h.cell 1,h.cell 2,h.cell 3,h.cell 4,h.cell 5,h.cell 6⟩
variable{T:TypeId}{cs:Array Value}
theorem fh(h:av w q T cs):
  w.frozen? ⟨q,0,none⟩=false/\w.frozen? ⟨q,1,none⟩=false/\w.frozen? ⟨q,2,none⟩=false/\w.frozen? ⟨q,3,none⟩=false/\w.frozen? ⟨q,4,none⟩=false/\w.frozen? ⟨q,5,none⟩=false/\w.frozen? ⟨q,6,none⟩=false:=
 ⟨h.frozen 0,h.frozen 1,h.frozen 2,h.frozen 3,h.frozen 4,h.frozen 5,h.frozen 6⟩
def fx (op width:Int):Ex:=⟨op,sV,⟨#[]⟩,width,none,0,0⟩
def EM (op width:Int)(G:Nat):Ex:=⟨op,sV,⟨#[]⟩,width,some ⟨G,0,none⟩,1,1⟩
theorem Zc (w:World)(S:Nat->Prop)(op width:Int):(Tr.mk op ct ByteArray.empty width []).at_ w S (fx op width):=by unfold Tr.at_;exact Zfp
section
variable {ρ:bp} {w wr:World} {lg dp:Bool} {q qx:Nat} {l':aI} {t1:Tr} {y1:Ex} {op width:Int}
theorem ni.Dg {n:Int}(A:ni ρ w lg dp q qx wr l' (.mk op ct ByteArray.empty 0 []) (fx op 0))(bj:ρ.g < w.heap.size)(hq:w.heap.size<=q)(JM:q < qx):ni ρ w lg dp q qx (wr.setCell ⟨qx,5,none⟩ (.int .i64 n)) l' (.mk op ct ByteArray.empty n []) (fx op n):=by refine⟨A.did.far bj Taa _ _,?_,A.res.far (p:=⟨qx,5,none⟩) Tad _,Zc _ _ _ _⟩;have:=A.blk.cC 5 (.int .i64 n);exact this
theorem zfj.Kbo(h:p:=by
 refine⟨(A.did.far bj Taa _ _).later hb,?_,(A.res.far (p:=⟨qx,6,none⟩) Tad _).alloc _,?_⟩
 ·have:=A.blk.cC 6 (.slice (some ⟨wr.heap.size,0,none⟩) 1 1);exact this.alloc _
 ·unfold Tr.at_;refine⟨rfl,rfl,rfl,rfl,rfl,[y1],Cg sU (by simpa using hN) ⟨by omega,hN.lt,by omega⟩,Tr.Hr ?_⟩;exact Tr.at_.keep (gX hb) _ _ (Tr.at_.keep (Nw (q:=qx) 6 _) _ _ (Tr.at_.keep (Qh hB Taa) _ _ hat))):p:=h
theorem ni.QU {B:Nat}(A:ni ρ w lg dp q qx wr l' (.mk op ct ByteArray.empty width []) (fx op width))(bj:ρ.g < w.heap.size)(hq:w.heap.size<=q)(JM:q < qx)(hB:qx < B)(hat:t1.at_ wr (eC B wr) y1):
  ni ρ w lg dp q qx ((wr.setCell ⟨qx,6,none⟩ (.slice (some ⟨wr.heap.size,0,none⟩) 1 1)).alloc (.cells (aT y1).toArray 36)) l' (.mk op ct ByteArray.empty width [t1]) (EM op width wr.heap.size):=by
 open zfj in exact Zct
theorem zfk.Kbo(h:p:=by exact⟨hN,Tr.at_.keep (gX hb) _ _ (Tr.at_.keep (λ b hb=>(adS (p:=qx) (B:=qx+1) (q:=wr.heap.size) Taa 6 _) b ⟨by have:=hb.1;omega,hb.2,by have:=hb.2;omega⟩) _ _ hat),hx⟩):p:=h
theorem ni.afn {B:Nat} {t0:Tr} {y0:Ex}(A:ni ρ w lg dp q qx wr l' t0 y0)(JM:q < qx)(hB:qx < B)(hat:t1.at_ wr (eC B wr) y1):
  K2 ((wr.setCell ⟨qx,6,none⟩ (.slice (some ⟨wr.heap.size,0,none⟩) 1 1)).alloc (.cells (aT y1).toArray 36)) wr.heap.size qx t1 y1:=by
 open zfk in exact Zct
theorem ni.akU {W:World} {A:Option Addr} {c G:Nat} {t2:Tr} {y2:Ex}(D:aY ρ w W l' lg dp)(X:av W qx 36 (aT (EM op 0 G)).toArray)(R:av W q 36 dF)(bj:ρ.g < w.heap.size)(hq:w.heap.size<=q)(JM:q < qx)
  (vx:RL aT 7 W (eC (qx+1) W) A [y1,y2]) (h1:t1.at_ W (eC (qx+1) W) y1) (h2:t2.at_ W (eC (qx+1) W) y2):ni ρ w lg dp q qx (W.setCell ⟨qx,6,none⟩ (.slice A 2 c)) l' (.mk op ct ByteArray.empty 0 [t1,t2]) ⟨op,sV,⟨#[]⟩,0,A,2,c⟩:=by
 have hk:∀b,eC (qx+1) W b->(∀o,(W.setCell ⟨qx,6,none⟩ (.slice A 2 c)).cell? ⟨b,o,none⟩=W.cell? ⟨b,o,none⟩)/\Bx (q+1) qx (W.setCell ⟨qx,6,none⟩ (.slice A 2 c)) b:=λ b hb=>
  ⟨((pc (Nat.lt_succ_self qx) 6 _) b hb).1,by have:=hb.1;omega,by simpa [World.setCell] using hb.2,by have:=hb.1;omega⟩
 refine⟨D.far bj Taa _ _,?_,R.far (p:=⟨qx,6,none⟩) Tad _,?_⟩
 ·have:=X.cC 6 (.slice A 2 c);exact this
 ·unfold Tr.at_;exact⟨rfl,rfl,rfl,rfl,rfl,[y1,y2],vx.keep hk,Tr.Qg (Tr.at_.keep hk _ _ h1) (Tr.at_.keep hk _ _ h2)⟩
end
def mW (v:Val):Ex:=⟨1,v,⟨#[]⟩,0,none,0,0⟩
theorem tQ (k n:Int)(s:ByteArray)(w:World):Calls Tryz.prog 242 #[.agg #[.int .u8 k,.int .i64 n,.string s]] w λ e w'=>e=.returned (dN (mW ⟨k,n,s⟩))/\Below w.heap.size w w':=by
 have hb:=af.then (aa w (.cells #[.int .u8 k,.int .i64 n,.string s] 32)) (aa _ (.cells dF 36))
 have hQ:=av.new (w.alloc (.cells #[.int .u8 k,.int .i64 n,.string s] 32)) 36 dF;rw[show(w.alloc (.cells #[.int .u8 k,.int .i64 n,.string s] 32)).heap.size=w.heap.size+1 by simp] at hQ;have HQ:=hid hQ;have HB:=hid hb;clear hQ hb;go_enter Tryz.func242,Tryz.ntmps242;go_wp2_with (first
  |(refine wpList_store_row rfl 36 (.tmp 2) (.tmp 4) rfl (w.heap.size+1) (aT (mW ⟨k,n,s⟩)).toArray rfl rfl 36 dF HQ.out aF rfl (cL _) ?_
    have HR:=hid (HQ.out.row (aT (mW ⟨k,n,s⟩)).toArray)))
 refine bodyPost_ret (v:=dN (mW ⟨k,n,s⟩)) (results_cell_row Tryz.results242 _ _ (w.heap.size+1) 36 (aT (mW ⟨k,n,s⟩)).toArray (0,0) _ rfl HR.out Tryz.underlying36 rfl aF) rfl ⟨rfl,?_⟩;exact HB.out.trans (aO (cH _ (w.heap.size+1) _) HB.out.size (Nat.le_succ _))
theorem xS (w:World)(S:Nat->Prop)(v:Val):(pG v).at_ w S (mW v):=WV w S v
variable{t:Wd}{r:aI}
theorem afq(h:t.k=2):eD W (t::r)=.ok (pG ⟨2,t.n,ByteArray.empty⟩,r):=by simp[eD,h]
theorem aai(h:t.k=3):eD W (t::r)=.ok (pG ⟨3,0,⟨t.s.toArray⟩⟩,r):=by simp[eD,h]
section
variable {W:Ps Tr} {l:aI} (h2:∀t r,l=t::r->t.k≠2/\t.k≠3) (hne:l≠ [])
include h2 hne
theorem aaj (h:ar eu l=true):eD W l=.ok (pG ⟨1,1,ByteArray.empty⟩,l.tail):=by
 match l,hne with
 | t::r,_=>obtain⟨a,b⟩:=h2 t r rfl;have h:gJ eu t=true:=h;simp[eD,a,b,h]
theorem Zd (h1:ar eu l=false)(h:ar dP l=true):eD W l=.ok (pG ⟨1,0,ByteArray.empty⟩,l.tail):=by
 match l,hne with
 | t::r,_=>obtain⟨a,b⟩:=h2 t r rfl;have h1:gJ eu t=false:=h1;have h:gJ dP t=true:=h;simp[eD,a,b,h,h1]
theorem aak (h1:ar eu l=false)(h3:ar dP l=false)(h:ar bK l=true):eD W l=.ok (pG ct,l.tail):=by
 match l,hne with
 | t::r,_=>obtain⟨a,b⟩:=h2 t r rfl;have h1:gJ eu t=false:=h1;have h3:gJ dP t=false:=h3;have h:gJ bK t=true:=h;simp[eD,a,b,h,h1,h3]
theorem aal (h1:ar eu l=false)(h3:ar dP l=false)(h4:ar bK l=false)(h:ar bz l=true):eD W l=(do let x <- W;must aM;return x:Ps Tr) l.tail:=by
 match l,hne with
 | t::r,_=>obtain⟨a,b⟩:=h2 t r rfl;have h1:gJ eu t=false:=h1;have h3:gJ dP t=false:=h3;have h4:gJ bK t=false:=h4;have h:gJ bz t=true:=h;simp only[eD,a,b,h,h1,h3,h4,if_true,if_false,tail_cons];rfl
theorem Ze (h1:ar eu l=false)(h3:ar dP l=false)(h4:ar bK l=false)(h:ar bz l=false):eD W l=ma W l:=by
 match l,hne with
 | t::r,_=>obtain⟨a,b⟩:=h2 t r rfl;have h1:gJ eu t=false:=h1;have h3:gJ dP t=false:=h3;have h4:gJ bK t=false:=h4;have h:gJ bz t=false:=h;simp only[eD,a,b,h,h1,h3,h4,if_true,if_false];rfl
end
variable{n:Nat}
theorem afr(h:cD l=.error n):ma W l=.error n:=ak h
theorem afs(h:cD l=.ok (nm,r))(ho:ar bz r=false):ma W l=.ok (vN nm,r):=by unfold ma;refine(ag h).trans ?_;simp only[ho];rfl
theorem afu(h:cD l=.ok (nm,r))(ho:ar bz r=true):ma (aU 0) l=fnP nm r.tail:=by unfold ma;refine(ag h).trans ?_;obtain⟨t,q,rfl,_⟩:=eK ho;simp only[ho,if_true];unfold fnP;cases lW nm <;> rfl
def aam (nm:ByteArray):Ex:=⟨2,sV,nm,0,none,0,0⟩
theorem zgo.KbS(h:p:=by
 have hst:=bp.fU.step (t:=t.w) (l:=r) Ta5 TaA;have eP:=hid (fT.out.trans hst);have jS:=hid (pF.out.far (p:=⟨ρ.g,1,none⟩) Tad (.int .i64 ((ρ.n:Int) - r.length)));clear hst;unfold bp.ptr;go_wp2_with fail;refine(tQ 2 t.w.n ⟨#[]⟩ _).mono ?_;rintro e w3 ⟨rfl,b3⟩;have jR:=hid (eP.out.later b3);have mD:=hid (jS.out.later b3);clear b3 eP jS fT pF Ga u0 u1 u2 u3 v0 v1 v2 v3 c0 c1 c2 c3 f1 f2 f3;go_wp2_with (first
  |(refine wpList_store_row rfl 36 (.tmp 2) (.tmp 22) rfl w.heap.size (aT (mW ⟨2,t.w.n,⟨#[]⟩⟩)).toArray rfl rfl 36 dF mD.out aF rfl (cL _) ?_
    have HR:=hid (mD.out.row (aT (mW ⟨2,t.w.n,⟨#[]⟩⟩)).toArray)))
 refine bodyPost_ret (v:=dN (mW ⟨2,t.w.n,⟨#[]⟩⟩)) (results_cell_row Tryz.results241 _ _ w.heap.size 36 (aT (mW ⟨2,t.w.n,⟨#[]⟩⟩)).toArray (0,0) _ rfl HR.out Tryz.underlying36 rfl aF) rfl ?_;exact bV bj jR.out (xS _ _ ⟨2,t.w.n,⟨#[]⟩⟩) (by rw[HL.out];exact afq HK.out)):p:=h
theorem zdu.KaO(h:p:=by open zgo in exact Zd2):p:=h
theorem zc4.KaE(h:p:=by
 have HK:=hid hk;have g2:((t.w.k:Int)==2)=true:=by simp;omega
 open zdu in exact Zbg):p:=h
theorem Ph (ρ:bp)(w:World)(l:aI)(lg dp:Bool)(h:ρ.fU w l lg dp)(hk:∀t r,l=t::r->t.k=2):
  Calls Tryz.prog 241 #[ρ.ptr] w (fq ρ w lg dp (eD (aU 0)) l):=by
 open zc4 in exact Za1
theorem zgp.KbS(h:p:=by
 have hst:=bp.fU.step (t:=t.w) (l:=r) Ta5 TaA;have eP:=hid (fT.out.trans hst);have jS:=hid (pF.out.far (p:=⟨ρ.g,1,none⟩) Tad (.int .i64 ((ρ.n:Int) - r.length)));clear hst;unfold bp.ptr;go_wp2_with fail;refine(tQ 3 0 ⟨t.w.s.toArray⟩ _).mono ?_;rintro e w3 ⟨rfl,b3⟩;have jR:=hid (eP.out.later b3);have mD:=hid (jS.out.later b3);clear b3 eP jS fT pF Ga u0 u1 u2 u3 v0 v1 v2 v3 c0 c1 c2 c3 f1 f2 f3;go_wp2_with (first
  |(refine wpList_store_row rfl 36 (.tmp 2) (.tmp 37) rfl w.heap.size (aT (mW ⟨3,0,⟨t.w.s.toArray⟩⟩)).toArray rfl rfl 36 dF mD.out aF rfl (cL _) ?_
    have HR:=hid (mD.out.row (aT (mW ⟨3,0,⟨t.w.s.toArray⟩⟩)).toArray)))
 refine bodyPost_ret (v:=dN (mW ⟨3,0,⟨t.w.s.toArray⟩⟩)) (results_cell_row Tryz.results241 _ _ w.heap.size 36 (aT (mW ⟨3,0,⟨t.w.s.toArray⟩⟩)).toArray (0,0) _ rfl HR.out Tryz.underlying36 rfl aF) rfl ?_;exact bV bj jR.out (xS _ _ ⟨3,0,⟨t.w.s.toArray⟩⟩) (by rw[HL.out];exact aai HK.out)):p:=h
theorem zdv.KaO(h:p:=by open zgp in exact Zd2):p:=h
theorem zc5.KaE(h:p:=by
 have HK:=hid hk;have g2:((t.w.k:Int)==2)=false:=by simp;omega
 have g3:((t.w.k:Int)==3)=true:=by simp;omega
 open zdv in exact Zbg):p:=h
theorem Lq (ρ:bp)(w:World)(l:aI)(lg dp:Bool)(h:ρ.fU w l lg dp)(hk:∀t r,l=t::r->t.k=3):
  Calls Tryz.prog 241 #[ρ.ptr] w (fq ρ w lg dp (eD (aU 0)) l):=by
 open zc5 in exact Za1
theorem zaI.Kad(h:p:=by
 generalize w1.alloc _=W1 at*;generalize w1.heap.size=tb at*;obtain⟨u0,u1,u2,u3,v0,v1,v2,v3⟩:=aN Ga.out;have hm:=br ρ W1 l lg dp fT.out.at_ ⟨#[116,114,117,101]⟩;rw[show(⟨#[116,114,117,101]⟩:ByteArray).data.toList=eu from rfl,dT,cw dT] at hm;go_wp2_with fail;refine hm.mono ?_;clear hm;rintro e w2 ⟨rfl,d⟩;have eP:=hid (fT.out.trans d);have jS:=hid (d.blk pF.out Taa);clear d fT pF Ga u0 u1 u2 u3 v0 v1 v2 v3;generalize hW2:w2=W2 at*;clear hW2;go_wp2_with fail;refine(tQ 1 1 ⟨#[]⟩ _).mono ?_;rintro e w9 ⟨rfl,b9⟩;have HD9:=hid (eP.out.later b9);have QJ:=hid (jS.out.later b9);clear b9 eP jS;go_wp2_with (first
  |(refine wpList_store_row rfl 36 (.tmp 2) (.tmp 42) rfl w.heap.size (aT (mW ⟨1,1,⟨#[]⟩⟩)).toArray rfl rfl 36 dF QJ.out aF rfl (cL _) ?_
    have HR:=hid (QJ.out.row (aT (mW ⟨1,1,⟨#[]⟩⟩)).toArray)))
 refine bodyPost_ret (v:=dN (mW ⟨1,1,⟨#[]⟩⟩)) (results_cell_row Tryz.results241 _ _ w.heap.size 36 (aT (mW ⟨1,1,⟨#[]⟩⟩)).toArray (0,0) _ rfl HR.out Tryz.underlying36 rfl aF) rfl ?_;exact bV bj HD9.out (xS _ _ ⟨1,1,⟨#[]⟩⟩) (aaj HKK.out TaV dT)):p:=h
theorem Un (ρ:bp)(w:World)(l:aI)(lg dp:Bool)(h:ρ.fU w l lg dp)(hk:∀t r,l=t::r->t.k≠2/\t.k≠3)(dT:ar eu l=true):
  Calls Tryz.prog 241 #[ρ.ptr] w (fq ρ w lg dp (eD (aU 0)) l):=by have HKK:=hid hk;open zaI in exact Zag
theorem zaJ.Kad(h:p:=by
 generalize w1.alloc _=W1 at*;generalize w1.heap.size=tb at*;obtain⟨u0,u1,u2,u3,v0,v1,v2,v3⟩:=aN Ga.out;have hm:=br ρ W1 l lg dp fT.out.at_ ⟨#[116,114,117,101]⟩;rw[show(⟨#[116,114,117,101]⟩:ByteArray).data.toList=eu from rfl,dT,ck dT] at hm;go_wp2_with fail;refine hm.mono ?_;clear hm;rintro e w2 ⟨rfl,d⟩;have eP:=hid (fT.out.trans d);have jS:=hid (d.blk pF.out Taa);clear d fT pF Ga u0 u1 u2 u3 v0 v1 v2 v3;generalize hW2:w2=W2 at*;clear hW2;have hm:=br ρ W2 l lg dp eP.out.at_ ⟨#[102,97,108,115,101]⟩;rw[show(⟨#[102,97,108,115,101]⟩:ByteArray).data.toList=dP from rfl,ez,cw ez] at hm;go_wp2_with fail;refine hm.mono ?_;clear hm;rintro e w3 ⟨rfl,d⟩;have jR:=hid (eP.out.trans d);have mD:=hid (d.blk jS.out Taa);clear d eP jS;generalize hW3:w3=W3 at*;clear hW3;go_wp2_with fail;refine(tQ 1 0 ⟨#[]⟩ _).mono ?_;rintro e w9 ⟨rfl,b9⟩;have HD9:=hid (jR.out.later b9);have QJ:=hid (mD.out.later b9);clear b9 jR mD;go_wp2_with (first
  |(refine wpList_store_row rfl 36 (.tmp 2) (.tmp 47) rfl w.heap.size (aT (mW ⟨1,0,⟨#[]⟩⟩)).toArray rfl rfl 36 dF QJ.out aF rfl (cL _) ?_
    have HR:=hid (QJ.out.row (aT (mW ⟨1,0,⟨#[]⟩⟩)).toArray)))
 refine bodyPost_ret (v:=dN (mW ⟨1,0,⟨#[]⟩⟩)) (results_cell_row Tryz.results241 _ _ w.heap.size 36 (aT (mW ⟨1,0,⟨#[]⟩⟩)).toArray (0,0) _ rfl HR.out Tryz.underlying36 rfl aF) rfl ?_;exact bV bj HD9.out (xS _ _ ⟨1,0,⟨#[]⟩⟩) (Zd HKK.out TaV dT ez)):p:=h
theorem Uo (ρ:bp)(w:World)(l:aI)(lg dp:Bool)(h:ρ.fU w l lg dp)(hk:∀t r,l=t::r->t.k≠2/\t.k≠3)(dT:ar eu l=false)(ez:ar dP l=true):
  Calls Tryz.prog 241 #[ρ.ptr] w (fq ρ w lg dp (eD (aU 0)) l):=by have HKK:=hid hk;open zaJ in exact Zag
theorem zaK.Kad(h:p:=by
 generalize w1.alloc _=W1 at*;generalize w1.heap.size=tb at*;obtain⟨u0,u1,u2,u3,v0,v1,v2,v3⟩:=aN Ga.out;have hm:=br ρ W1 l lg dp fT.out.at_ ⟨#[116,114,117,101]⟩;rw[show(⟨#[116,114,117,101]⟩:ByteArray).data.toList=eu from rfl,dT,ck dT] at hm;go_wp2_with fail;refine hm.mono ?_;clear hm;rintro e w2 ⟨rfl,d⟩;have eP:=hid (fT.out.trans d);have jS:=hid (d.blk pF.out Taa);clear d fT pF Ga u0 u1 u2 u3 v0 v1 v2 v3;generalize hW2:w2=W2 at*;clear hW2;have hm:=br ρ W2 l lg dp eP.out.at_ ⟨#[102,97,108,115,101]⟩;rw[show(⟨#[102,97,108,115,101]⟩:ByteArray).data.toList=dP from rfl,ez,ck ez] at hm;go_wp2_with fail;refine hm.mono ?_;clear hm;rintro e w3 ⟨rfl,d⟩;have jR:=hid (eP.out.trans d);have mD:=hid (d.blk jS.out Taa);clear d eP jS;generalize hW3:w3=W3 at*;clear hW3;have hm:=br ρ W3 l lg dp jR.out.at_ ⟨#[110,117,108,108]⟩;rw[show(⟨#[110,117,108,108]⟩:ByteArray).data.toList=bK from rfl,jy,cw jy] at hm;go_wp2_with fail;refine hm.mono ?_;clear hm;rintro e w4 ⟨rfl,d⟩;have pj:=hid (jR.out.trans d);have EH:=hid (d.blk mD.out Taa);clear d jR mD;generalize IB:w4=W4 at*;clear IB;go_wp2_with fail;refine(tQ 0 0 ⟨#[]⟩ _).mono ?_;rintro e w9 ⟨rfl,b9⟩;have HD9:=hid (pj.out.later b9);have QJ:=hid (EH.out.later b9);clear b9 pj EH;go_wp2_with (first
  |(refine wpList_store_row rfl 36 (.tmp 2) (.tmp 52) rfl w.heap.size (aT (mW ⟨0,0,⟨#[]⟩⟩)).toArray rfl rfl 36 dF QJ.out aF rfl (cL _) ?_
    have HR:=hid (QJ.out.row (aT (mW ⟨0,0,⟨#[]⟩⟩)).toArray)))
 refine bodyPost_ret (v:=dN (mW ⟨0,0,⟨#[]⟩⟩)) (results_cell_row Tryz.results241 _ _ w.heap.size 36 (aT (mW ⟨0,0,⟨#[]⟩⟩)).toArray (0,0) _ rfl HR.out Tryz.underlying36 rfl aF) rfl ?_;exact bV bj HD9.out (xS _ _ ⟨0,0,⟨#[]⟩⟩) (aak HKK.out TaV dT ez jy)):p:=h
theorem Up (ρ:bp)(w:World)(l:aI)(lg dp:Bool)(h:ρ.fU w l lg dp)(hk:∀t r,l=t::r->t.k≠2/\t.k≠3)(dT:ar eu l=false)(ez:ar dP l=false)(jy:ar bK l=true):
  Calls Tryz.prog 241 #[ρ.ptr] w (fq ρ w lg dp (eD (aU 0)) l):=by have HKK:=hid hk;open zaK in exact Zag
def OV:Ps Wd
 | []=> .error 0
 | t::r=>if t.k=2 then .ok (t,r)else .error (t::r).length
theorem Ui (ρ:bp)(w:World)(l:aI)(lg dp:Bool)(h:ρ.fU w l lg dp):
  Calls Tryz.prog 153 #[ρ.ptr,.int .u8 2] w (GP ρ w OV l λ t r v w'=>v=.agg (cn (ρ.tok l))/\t=(ρ.tok l).w/\(0<=t.n/\t.n<=9223372036854775807)/\aY ρ w w' r lg dp):=by
 obtain⟨t,r,pl,qD,hl,hlt,hsm,hpl,Bw,Ai,vv,hp⟩:=h.mh;have h0:=h.later (aa w zg);have hb0:=aa w zg;have eN:=ie ρ _ l lg dp h0;have sD:=h.left;have bj:=h.nt;have HH:=hid h;rw[<- qD] at eN ⊢;have HL:=hid hl;unfold zg at eN hb0;clear qD hpl Bw hp hlt h h0 hl;have akM:=hid eN;clear eN;by_cases hk:t.w.k=2
 ·have HK:=hid hk;have g1:((t.w.k:Int) != 2)=false:=by simp;omega
  clear hk;go_enter Tryz.func153,Tryz.ntmps153;go_wp2_with fail;refine akM.out.mono ?_;rintro e w1 ⟨rfl,b1⟩;have hZ:=av.new w 81 #[.int .u8 0,.string ⟨#[]⟩,.int .i64 0,.int .i64 0];have HZ:=hid ((hZ.later b1).alloc (.cells (cn t) 81));have HT:=hid (av.new w1 81 (cn t));have hg1:ρ.g < w1.heap.size:=Nat.lt_of_lt_of_le bj (Nat.le_trans Tae b1.size);have hg2:w.heap.size < w1.heap.size:=Nat.lt_of_lt_of_le Tae b1.size;have hb:=af.then (af.then hb0 b1) (aa w1 (.cells (cn t) 81));have HB:=hid hb;have HW:=hid (HH.out.later hb);obtain⟨c0,c1,c2,c3,f1,f2,f3⟩:=(HH.out.later hb).facts;obtain⟨u0,u1,u2,u3,v0,v1,v2,v3⟩:=aN HT.out;have e1:(ρ.n:Int) - ((r.length:Int)+1)+1=(ρ.n:Int) - r.length:=by omega
  rw[show(l.length:Int)=(r.length:Int)+1 by rw[HL.out];rfl] at c1;clear hZ hb b1 hb0;have vx:r.length+1<=ρ.n:=by have:=HL.out;rw[this] at sD;simpa using sD.2
  have hstep:=bp.fU.step (t:=t.w) (l:=r) (by have:=HW.out;rw[HL.out] at this;exact this) TaA;have yP:=HT.out.far (p:=⟨ρ.g,1,none⟩) Tad (.int .i64 ((ρ.n:Int) - r.length));have JG:=HZ.out.far (p:=⟨ρ.g,1,none⟩) Tad (.int .i64 ((ρ.n:Int) - r.length));have HT3:=hid yP;have JH:=hid JG;have jR:=hid ((aY.aC HH.out HB.out).trans hstep);clear HT HZ yP JG hstep HW HH sD;unfold cn at*;unfold bp.ptr;go_upto_region 2 with fail;generalize (w1.alloc _)=W1 at*;go_upto_region 5 with fail;refine wp_region_lit ?_;refine wpList_load_row rfl 81 (.tmp 5) rfl w1.heap.size rfl 81 (cn t) (0,0) _ HT3.out Tryz.underlying81 rfl uR ?_;refine wpList_store_row rfl 81 (.tmp 4) (.tmp 21) rfl w.heap.size (cn t) rfl rfl 81 #[.int .u8 0,.string ⟨#[]⟩,.int .i64 0,.int .i64 0] JH.out uR rfl (by simp[cn,Value.oneCell']) ?_;refine wpList_nil ?_;have HR:=JH.out.row (cn t);have HDF:=jR.out.own bj (cH _ w.heap.size (cn t)) (λ G e=>by injection e with e;omega);have Nk:=hid HR;have apW:=hid HDF;clear HR HDF HT3 JH jR HB c0 c1 c2 c3 f1 f2 f3 u0 u1 u2 u3 v0 v1 v2 v3;generalize (World.setRow _ w.heap.size (cn t))=WF at*;go_wp2_with fail;refine bodyPost_ret (v:=.agg (cn t)) (results_cell_row Tryz.results153 _ _ w.heap.size 81 (cn t) (0,0) _ rfl Nk.out Tryz.underlying81 rfl uR) rfl ?_;refine GP.ok (x:=t.w) (r:=r) ?_ ⟨rfl,rfl,⟨Ai,vv⟩,apW.out⟩;rw[HL.out];simp only[OV,if_pos HK.out]
 ·have g1:((t.w.k:Int) != 2)=true:=by simp;omega
  have HK:=hid hk;clear hk;go_enter Tryz.func153,Tryz.ntmps153;go_wp2_with fail;refine akM.out.mono ?_;rintro e w1 ⟨rfl,b1⟩;have hb:=af.then (af.then hb0 b1) (aa w1 (.cells (cn t) 81));have hf:=jH ρ _ l lg dp (HH.out.later hb);have HB:=hid hb;unfold cn at*;clear hb b1 hb0;go_wp2_with fail;refine hf.mono ?_;rintro e w2 ⟨rfl,hg2⟩;go_wp2_with fail;refine aj rfl ?_;refine GP.err (n:=l.length) ?_ ⟨rfl,ai (aB HB.out) hg2⟩;rw[HL.out];simp only[OV,if_neg HK.out]
theorem Z8(h:OV l=.ok (t,r)):nh l=.ok (t.n,r):=by
 match l with
 | []=>cases h
 | x::q=>
   simp only[OV,nh] at h ⊢;split at h
   ·rename_i hk;injection h with h;injection h with h1 h2;subst h1;subst h2;rw[if_pos hk]
   ·cases h
theorem YT(h:OV l=.error n):nh l=.error n:=by
 match l with
 | []=>injection h with h;rw[<- h];rfl
 | x::q=>
   simp only[OV,nh] at h ⊢;split at h
   ·cases h
   ·rename_i hk;rw[if_neg hk];injection h with h;rw[h]
theorem dY (ρ:bp)(w:World)(l:aI)(lg dp:Bool)(h:ρ.fU w l lg dp):
  Calls Tryz.prog 117 #[ρ.ptr] w (GP ρ w nh l λ n r v w'=>v=.int .i64 n/\(0<=n/\n<=9223372036854775807)/\aY ρ w w' r lg dp):=by
 have hk:=Ui ρ w l lg dp h;go_enter Tryz.func117,Tryz.ntmps117;go_wp2_with fail;refine hk.mono ?_;clear hk;intro e w1 hp;rcases hp.cases with ⟨t,r,v,az,rfl,rfl,ht,hn,d1⟩|⟨n,au,rfl,hg⟩
 ·have HT:=hid ht;clear ht hp;generalize ρ.tok l=tk at*;have VQ:=zB (.int .u8 tk.w.k) (.string ⟨tk.w.s.toArray⟩) (.int .i64 tk.w.n) (.int .i64 tk.p);unfold cn;go_wp2_with fail;go_ret;exact GP.ok (Z8 az) ⟨by rw[HT.out];rfl,hn,d1⟩
 ·clear hp;go_wp2_with fail;exact aj rfl (GP.err (YT au) ⟨rfl,hg⟩)
theorem dU (ρ:bp)(w:World)(l:aI)(lg dp:Bool)(h:ρ.fU w l lg dp):
  Calls Tryz.prog 112 #[ρ.ptr] w (GP ρ w cD l λ x r v w'=>v=.string x/\aY ρ w w' r lg dp):=by
 obtain⟨t,r,pl,qD,hl,hlt,hsm,hpl,Bw,Ai,vv,hp⟩:=h.mh;have eN:=ie ρ w l lg dp h;have sD:=h.left;have bj:=h.nt;have HH:=hid h;rw[<- qD] at eN;have HL:=hid hl;have vx:r.length+1<=ρ.n:=by have:=sD.2;rw[hl] at this;simpa using this
 have Uh:=hid (show(l.length:Int)=(r.length:Int)+1 by rw[hl];rfl);clear qD hpl Bw hp hlt h hl sD;go_enter Tryz.func112,Tryz.ntmps112;go_wp2_with fail;refine eN.mono ?_;clear eN;rintro e w1 ⟨rfl,b1⟩;have HT:=hid (av.new w1 81 (cn t));have hg1:ρ.g < w1.heap.size:=Nat.lt_of_lt_of_le bj b1.size;have HB:=hid (af.then b1 (aa w1 (.cells (cn t) 81)));clear b1;unfold cn at*;go_upto_region 2 with fail;generalize (w1.alloc _)=W1 at*;obtain⟨u0,u1,u2,u3,v0,v1,v2,v3⟩:=aN HT.out;have HW:=hid (HH.out.later HB.out);have hres:=λ B hE=>wZ (B:=B) ⟨t.w.s.toArray⟩ W1 hE
 obtain⟨B,hB,hE⟩:=HW.out.env;have hres:=hres B hE;have jk:(⟨t.w.s.toArray⟩:ByteArray).data.toList=t.w.s:=by simp
 rw[jk] at hres;have HE:=hid hE;have CY:=jH ρ W1 l lg dp HW.out;have e1:(ρ.n:Int) - ((r.length:Int)+1)+1=(ρ.n:Int) - r.length:=by omega
 clear hE hB jk;by_cases hk:t.w.k=1
 ·have HK:=hid hk;have g1:((t.w.k:Int) != 1)=false:=by simp;omega
  clear hk;cases hr:kO t.w.s
  ·rw[hr] at hres;have HR:=hid hr;clear hr CY;go_wp2_with fail;refine hres.mono ?_;clear hres;rintro e w2 ⟨rfl,b2⟩;obtain⟨c0,c1,c2,c3,f1,f2,f3⟩:=(HW.out.later b2).facts;rw[Uh.out] at c1;have hT2:=(HT.out.later b2).far (p:=⟨ρ.g,1,none⟩) Tad (.int .i64 ((ρ.n:Int) - r.length));have z1:=hT2.cell 1;have hst:=bp.fU.step (t:=t.w) (l:=r) (by have:=HW.out.later b2;rw[HL.out] at this;exact this) TaA;have HD:=hid ((aY.aC HH.out (af.then HB.out b2)).trans hst);simp only[Uaa] at z1;clear hT2 hst b2 HW HT u0 u1 u2 u3 v0 v1 v2 v3;unfold bp.ptr;go_wp2_with fail;go_ret;refine GP.ok (x:=⟨t.w.s.toArray⟩) (r:=r) ?_ ⟨rfl,HD.out⟩;rw[HL.out];simp only[cD,HK.out,HR.out,and_self,if_true]
  ·rw[hr] at hres;have HR:=hid hr;clear hr CY;go_wp2_with fail;refine hres.mono ?_;clear hres;rintro e w2 ⟨rfl,b2⟩;have hf:=jH ρ w2 l lg dp (HW.out.later b2);have qc:=hid (af.then HB.out b2);clear b2;go_wp2_with fail;refine hf.mono ?_;rintro e w3 ⟨rfl,hg2⟩;go_wp2_with fail;refine aj rfl ?_;refine GP.err (n:=l.length) ?_ ⟨rfl,ai (aB qc.out) hg2⟩;rw[HL.out];simp only[cD,HK.out,HR.out];rfl
 ·have HK:=hid hk;have g1:((t.w.k:Int) != 1)=true:=by simp;omega
  clear hk hres;go_wp2_with fail;refine CY.mono ?_;rintro e w3 ⟨rfl,hg2⟩;go_wp2_with fail;refine aj rfl ?_;refine GP.err (n:=l.length) ?_ ⟨rfl,ai (aB HB.out) hg2⟩;rw[HL.out];simp only[cD];rw[if_neg (by intro hh;exact HK.out hh.1)]
theorem Um:(Tryz.prog.info? 36).map (λ i=>(i.zero,i.size,i.bytes))=some (some (.agg dF),7,88):=by exact Zhj
theorem zfU.KbF(h:p:=by
 clear d pK vU k0 k1 k2 k3 k4 k5 k6 f0 f1 f2 f3 f4 f5 f6;generalize hW2:w2=W2 at*;clear hW2;obtain⟨k0,k1,k2,k3,k4,k5,k6⟩:=eX (gP.out).blk;obtain⟨f0,f1,f2,f3,f4,f5,f6⟩:=fh (gP.out).blk;unfold fx at k0 k1 k2 k3 k4 k5 k6;simp only at k0 k1 k2 k3 k4 k5 k6;go_wp2_with fail;refine(IH l W2 (Nat.le_refl _) gP.out.did.at_).mono ?_;intro e w3 hp;rcases hp.cases with ⟨t3,r3,v,az,rfl,y3,rfl,hat,d⟩|⟨m,au,rfl,hg⟩;case inr=>have HF:=hid (yI.out.trans (ak au));have HG:=hid (gP.out.did.grown);clear hp au;go_wp2_with fail;exact aj rfl (bt HF.out HG.out hg)
 clear k0 k1 k2 k3 k4 k5 k6 f0 f1 f2 f3 f4 f5 f6;have uK:=hid (yI.out.trans (ag az));have We:r3.length<=l.length:=Nat.le_trans ((cg 0).len az) (Nat.le_refl _);have BC:=gP.out.go d Taa Taa;have mU:=hid (BC.QU bj (Nat.le_refl _) JM gP.out.blk.lt hat);have hxw:=BC.blk.lt;have BS:=hid BC;obtain⟨k0,k1,k2,k3,k4,k5,k6⟩:=eX (BS.out).blk;obtain⟨f0,f1,f2,f3,f4,f5,f6⟩:=fh (BS.out).blk;unfold fx at k0 k1 k2 k3 k4 k5 k6;simp only at k0 k1 k2 k3 k4 k5 k6;clear hp az BC d hat gP yI;unfold dN;unfold aT at mU ⊢;go_upto_region 15 with fail;clear BS hxw k0 k1 k2 k3 k4 k5 k6 f0 f1 f2 f3 f4 f5 f6;generalize (World.alloc _ _)=W3 at*;generalize w3.heap.size=G3 at*;replace mU:=hid (show ni ρ w lg dp w.heap.size qx W3 r3 (.mk 22 ct ByteArray.empty 0 [t3]) (EM 22 0 G3)from mU.out);have hb:=aa W3 (.cells (aP [aM]) 9);have HB:=hid (mU.out.later hb);have wy:=mU.out.did.lt;have hm:=aW ρ _ _ lg dp HB.out.did.at_ [aM] W3.heap.size 1 rfl (av.new W3 _ _) Taa Taa;clear hb;unfold aP strOf at hm HB;simp only[map_cons,map_nil] at hm HB;rw[show aM.toArray= #[41] from rfl] at hm HB;go_wp2_with fail;refine hm.mono ?_;clear hm;intro e w4 hp;rcases hp.cases with ⟨_,r4,v,az,rfl,rfl,d⟩|⟨m,au,rfl,hg⟩;case inr=>have HF:=hid (uK.out.trans (ak (show must aM r3=.error m by rw[<- ay];exact au)));have HG:=hid (HB.out.did.grown);clear hp au;go_wp2_with fail;exact aj rfl (bt HF.out HG.out hg)
 have jW:must aM r3=.ok ((),r4):=by rw[<- ay];exact az
 have MO:=hid (uK.out.trans (ag jW));have hl4:r4.length<=l.length:=Nat.le_trans ((cB aM).len jW) We;have qX:=hid (HB.out.go d Taa Taa);clear hp az jW d HB mU uK wy;generalize IB:w4=W4 at*;clear IB;have HT:=hid (Tr.at_.keep (ku (Nat.le_refl _)) _ _ qX.out.tr);go_wp2_with (first
  |(refine wpList_load_row rfl 36 (.tmp 7) rfl qx rfl 36 (aT (EM 22 0 G3)).toArray (0,0) _ qX.out.blk Tryz.underlying36 rfl aF ?_)
  |(refine wpList_store_row rfl 36 (.tmp 6) (.tmp 70) rfl w.heap.size (aT (EM 22 0 G3)).toArray rfl rfl 36 dF qX.out.res aF rfl (cL _) ?_
    have HR:=hid (qX.out.res.row (aT (EM 22 0 G3)).toArray)))
 refine bodyPost_ret (v:=dN (EM 22 0 G3)) (results_cell_row Tryz.results243 _ _ w.heap.size 36 (aT (EM 22 0 G3)).toArray (0,0) _ rfl HR.out Tryz.underlying36 rfl aF) rfl ?_;exact bV bj qX.out.did HT.out (MO.out.trans rfl)):p:=h
theorem zfV.KbF(h:p:=by
 have hl2:l.tail.length<=l.length:=by simp
 clear d pK vU k0 k1 k2 k3 k4 k5 k6 f0 f1 f2 f3 f4 f5 f6;generalize hW2:w2=W2 at*;clear hW2;have hb:=aa W2 (.cells (aP [aM]) 9);have HB:=hid (gP.out.later hb);have wy:=gP.out.did.lt;have hm:=aW ρ _ _ lg dp HB.out.did.at_ [aM] W2.heap.size 1 rfl (av.new W2 _ _) Taa Taa;clear hb;unfold aP strOf at hm HB;simp only[map_cons,map_nil] at hm HB;rw[show aM.toArray= #[41] from rfl] at hm HB;go_wp2_with fail;refine hm.mono ?_;clear hm;intro e w3 hp;rcases hp.cases with ⟨_,r3,v,az,rfl,rfl,d⟩|⟨m,au,rfl,hg⟩;case inr=>have HF:=hid (yI.out.trans (ak (show must aM l.tail=.error m by rw[<- ay];exact au)));have HG:=hid (HB.out.did.grown);clear hp au;go_wp2_with fail;exact aj rfl (bt HF.out HG.out hg)
 have jW:must aM l.tail=.ok ((),r3):=by rw[<- ay];exact az
 have uK:=hid (yI.out.trans (ag jW));have We:r3.length<=l.length:=Nat.le_trans ((cB aM).len jW) hl2;have mU:=hid (HB.out.go d Taa Taa);clear hp az jW d HB gP yI wy;generalize hW3:w3=W3 at*;clear hW3;go_wp2_with (first
  |(refine wpList_store_row rfl 36 (.tmp 6) (.tmp 44) rfl w.heap.size (aT (fx 21 0)).toArray rfl rfl 36 dF mU.out.res aF rfl (cL _) ?_
    have HR:=hid (mU.out.res.row (aT (fx 21 0)).toArray)))
 refine bodyPost_ret (v:=dN (fx 21 0)) (results_cell_row Tryz.results243 _ _ w.heap.size 36 (aT (fx 21 0)).toArray (0,0) _ rfl HR.out Tryz.underlying36 rfl aF) rfl ?_;exact bV bj mU.out.did (Zc _ _ 21 0) (uK.out.trans rfl)):p:=h
theorem Pf (ρ:bp)(w:World)(l:aI)(lg dp:Bool)(h:ρ.fU w l lg dp)(nm:ByteArray)(t0:Wd)(h0:(dX.good (t0::l)).of ρ.ws)(IH:∀(l2:aI) (W:World),l2.length<=l.length->ρ.fU W l2 lg dp->Calls Tryz.prog 154 #[ρ.ptr] W (fq ρ W lg dp (aU 0) l2)):
  Calls Tryz.prog 243 #[ρ.ptr,.string nm,.int .i64 ((ρ.n:Int) - ((l.length:Int)+1))] w (fq ρ w lg dp (fnP nm) l):=by
 obtain⟨op,hv⟩:∃op,(lW nm).getD 0=op:=⟨_,rfl⟩;have bj:=h.nt;have hb:=aa w (.cells dF 36);have hsz:(w.alloc (.cells dF 36)).heap.size=w.heap.size+1:=by simp
 have HQ:=hid (av.new w 36 dF);have HD:=hid (aY.aC h hb);have HM:=lT.new (w.alloc (.cells dF 36));have HG:=aB (p:=w.heap.size+1) (aa (w.alloc (.cells dF 36)) (.map #[] 0));rw[hsz] at HM;have N8:= @run_makeMap Tryz.prog;clear h hb;have hlen:=h0.1.length_le;unfold dF at HM HG hsz;go_enter Tryz.func243,Tryz.ntmps243;go_upto_region 1 with fail;refine wp_region_lit ?_;refine gp rfl 158 rfl ?_;rw[show(w.alloc _).heap.size=w.heap.size+1 from hsz];refine bl Tryz.underlying158 Tryz.underlying9 rfl _ _ _ rfl (w.heap.size+1) rfl [98,117,99,107,101,116] rfl (.int .u8 20) rfl HM Tab ?_;clear HM;intro wm HM iU;replace HG:=ai HG iU;clear iU;refine bl Tryz.underlying158 Tryz.underlying9 rfl _ _ _ rfl (w.heap.size+1) rfl [99,111,117,110,116] rfl (.int .u8 22) rfl HM Tab ?_;clear HM;intro wm HM iU;replace HG:=ai HG iU;clear iU;refine bl Tryz.underlying158 Tryz.underlying9 rfl _ _ _ rfl (w.heap.size+1) rfl [115,117,109] rfl (.int .u8 23) rfl HM Tab ?_;clear HM;intro wm HM iU;replace HG:=ai HG iU;clear iU;refine bl Tryz.underlying158 Tryz.underlying9 rfl _ _ _ rfl (w.heap.size+1) rfl [109,105,110] rfl (.int .u8 24) rfl HM Tab ?_;clear HM;intro wm HM iU;replace HG:=ai HG iU;clear iU;refine bl Tryz.underlying158 Tryz.underlying9 rfl _ _ _ rfl (w.heap.size+1) rfl [109,97,120] rfl (.int .u8 25) rfl HM Tab ?_;clear HM;intro wm HM iU;replace HG:=ai HG iU;clear iU;refine bl Tryz.underlying158 Tryz.underlying9 rfl _ _ _ rfl (w.heap.size+1) rfl [97,118,103] rfl (.int .u8 26) rfl HM Tab ?_
 clear HM;intro wm HM iU;replace HG:=ai HG iU;clear iU;refine bl Tryz.underlying158 Tryz.underlying9 rfl _ _ _ rfl (w.heap.size+1) rfl [102,105,114,115,116] rfl (.int .u8 27) rfl HM Tab ?_;clear HM;intro wm HM iU;replace HG:=ai HG iU;clear iU;refine bl Tryz.underlying158 Tryz.underlying9 rfl _ _ _ rfl (w.heap.size+1) rfl [108,97,115,116] rfl (.int .u8 28) rfl HM Tab ?_;clear HM;intro wm HM iU;replace HG:=ai HG iU;clear iU;have QV:=hid HM;have HGG:=hid HG;clear HM HG hsz;have fT:=hid (HD.out.own bj HGG.out (λ G e=>by injection e with e;omega));have hqm:=HQ.out.grown HGG.out Tae;have QY:ni ρ w lg dp w.heap.size wm.heap.size (wm.alloc (.cells (aT (fx op 0)).toArray 36)) l (.mk op ct ByteArray.empty 0 []) (fx op 0):=⟨fT.out.later (aa _ _),av.new wm _ _,hqm.alloc _,Zc _ _ _ _⟩;have pK:=hid QY;have JM:w.heap.size < wm.heap.size:=hqm.lt;have hgx:ρ.g < wm.heap.size:=by omega
 clear QY fT HQ HD hqm HGG;unfold aT fx sV at pK;simp only[Act.put,Uac];go_upto_region 2 with (first
  |(refine fC Tryz.underlying158 Tryz.underlying9 rfl _ _ rfl (w.heap.size+1) rfl nm rfl (l:=afl) QV.out (z:=.int .u8 0) Tryz.zeroValue5 ?_
    rw[Zb nm,hv]))
 clear QV N8;generalize wm.alloc _=W1 at*;generalize wm.heap.size=qx at*;replace pK:=hid (show ni ρ w lg dp w.heap.size qx W1 l (.mk op ct ByteArray.empty 0 []) (fx op 0)from pK.out)
 cases hf:lW nm with
 | none=>rw[hf] at hv;have hv:0=op:=hv;subst hv;have hA:=pK.out.did.at_;have vH:=hA.back h0;have VQ:=hA.facts.2.2.2.2.1;have fW:=hA.facts.2.1;have HF:=hid (jH ρ _ (t0::l) lg dp vH.at_);have HG:=hid (ai pK.out.did.grown vH.grown);obtain⟨k0,k1,k2,k3,k4,k5,k6⟩:=eX pK.out.blk;unfold fx at k0;simp only at k0;clear hA vH pK k1 k2 k3 k4 k5 k6;unfold bp.ptr at*;go_wp2_with fail;refine HF.out.mono ?_;rintro e w3 ⟨rfl,hg⟩;go_wp2_with fail;exact aj rfl (bt (n:=l.length+1) (aaf hf) HG.out hg)
 | some o=>
   rw[hf] at hv;have hv:o=op:=hv;subst hv;obtain⟨h1,h2,h3⟩:=afm hf;by_cases Pc:o=20
   ·subst Pc;clear h1 h2 h3;have vU:=hid ((xR hf).trans (congrFun (afk (aU 0)) l));obtain⟨k0,k1,k2,k3,k4,k5,k6⟩:=eX (pK.out).blk;obtain⟨f0,f1,f2,f3,f4,f5,f6⟩:=fh (pK.out).blk;unfold fx at k0 k1 k2 k3 k4 k5 k6;simp only at k0 k1 k2 k3 k4 k5 k6;go_wp2_with fail;refine(dY ρ W1 l lg dp pK.out.did.at_).mono ?_;intro e w2 hp;rcases hp.cases with ⟨n,r2,v,az,rfl,rfl,hn,d⟩|⟨m,au,rfl,hg⟩;case inr=>have HF:=hid (vU.out.trans (ak au));have HG:=hid (pK.out.did.grown);clear hp au;go_wp2_with fail;exact aj rfl (bt HF.out HG.out hg)
    have yI:=hid (vU.out.trans (ag az));have hl2:r2.length<=l.length:=Nat.le_trans (lF.len az) (Nat.le_refl _);have BC:=pK.out.go d Taa Taa;have gP:=hid (BC.Dg (n:=n) bj (Nat.le_refl _) JM);have BS:=hid BC;obtain⟨k0,k1,k2,k3,k4,k5,k6⟩:=eX (BS.out).blk;obtain⟨f0,f1,f2,f3,f4,f5,f6⟩:=fh (BS.out).blk;unfold fx at k0 k1 k2 k3 k4 k5 k6;simp only at k0 k1 k2 k3 k4 k5 k6;clear hp az BC d pK vU;go_upto_region 7 with fail;clear BS k0 k1 k2 k3 k4 k5 k6 f0 f1 f2 f3 f4 f5 f6;generalize w2.setCell _ _=W2 at*;have hb:=aa W2 (.cells (aP [bk]) 9);have HB:=hid (gP.out.later hb);have wy:=gP.out.did.lt;have hm:=aW ρ _ _ lg dp HB.out.did.at_ [bk] W2.heap.size 1 rfl (av.new W2 _ _) Taa Taa;clear hb;unfold aP strOf at hm HB;simp only[map_cons,map_nil] at hm HB;rw[show bk.toArray= #[44] from rfl] at hm HB;go_wp2_with fail;refine hm.mono ?_;clear hm;intro e w3 hp;rcases hp.cases with ⟨_,r3,v,az,rfl,rfl,d⟩|⟨m,au,rfl,hg⟩;case inr=>have HF:=hid (yI.out.trans (ak (show must bk r2=.error m by rw[<- ay];exact au)));have HG:=hid (HB.out.did.grown);clear hp au;go_wp2_with fail;exact aj rfl (bt HF.out HG.out hg)
    have jW:must bk r2=.ok ((),r3):=by rw[<- ay];exact az
    have uK:=hid (yI.out.trans (ag jW));have We:r3.length<=l.length:=Nat.le_trans ((cB bk).len jW) hl2;have mU:=hid (HB.out.go d Taa Taa);clear hp az jW d HB gP yI wy;generalize hW3:w3=W3 at*;clear hW3;obtain⟨k0,k1,k2,k3,k4,k5,k6⟩:=eX (mU.out).blk;obtain⟨f0,f1,f2,f3,f4,f5,f6⟩:=fh (mU.out).blk;unfold fx at k0 k1 k2 k3 k4 k5 k6;simp only at k0 k1 k2 k3 k4 k5 k6;go_wp2_with fail;refine(IH r3 W3 We mU.out.did.at_).mono ?_;intro e w4 hp;rcases hp.cases with ⟨t4,r4,v,az,rfl,y4,rfl,hat,d⟩|⟨m,au,rfl,hg⟩;case inr=>have HF:=hid (uK.out.trans (ak au));have HG:=hid (mU.out.did.grown);clear hp au;go_wp2_with fail;exact aj rfl (bt HF.out HG.out hg)
    clear k0 k1 k2 k3 k4 k5 k6 f0 f1 f2 f3 f4 f5 f6;have MO:=hid (uK.out.trans (ag az));have hl4:r4.length<=l.length:=Nat.le_trans ((cg 0).len az) We;have BC:=mU.out.go d Taa Taa;have qX:=hid (BC.QU bj (Nat.le_refl _) JM mU.out.blk.lt hat);have hxw:=BC.blk.lt;have BS:=hid BC;obtain⟨k0,k1,k2,k3,k4,k5,k6⟩:=eX (BS.out).blk;obtain⟨f0,f1,f2,f3,f4,f5,f6⟩:=fh (BS.out).blk;unfold fx at k0 k1 k2 k3 k4 k5 k6;simp only at k0 k1 k2 k3 k4 k5 k6;clear hp az BC d hat mU uK;unfold dN;unfold aT at qX ⊢;go_upto_region 15 with fail;clear BS hxw k0 k1 k2 k3 k4 k5 k6 f0 f1 f2 f3 f4 f5 f6;generalize (World.alloc _ _)=W4 at*;generalize w4.heap.size=G4 at*;replace qX:=hid (show ni ρ w lg dp w.heap.size qx W4 r4 (.mk 20 ct ByteArray.empty n [t4]) (EM 20 n G4)from qX.out);have hb:=aa W4 (.cells (aP [aM]) 9);have HB:=hid (qX.out.later hb);have wy:=qX.out.did.lt;have hm:=aW ρ _ _ lg dp HB.out.did.at_ [aM] W4.heap.size 1 rfl (av.new W4 _ _) Taa Taa;clear hb;unfold aP strOf at hm HB;simp only[map_cons,map_nil] at hm HB;rw[show aM.toArray= #[41] from rfl] at hm HB;go_wp2_with fail;refine hm.mono ?_;clear hm;intro e w5 hp;rcases hp.cases with ⟨_,r5,v,az,rfl,rfl,d⟩|⟨m,au,rfl,hg⟩;case inr=>have HF:=hid (MO.out.trans (ak (show must aM r4=.error m by rw[<- ay];exact au)));have HG:=hid (HB.out.did.grown);clear hp au;go_wp2_with fail;exact aj rfl (bt HF.out HG.out hg)
    have jW:must aM r4=.ok ((),r5):=by rw[<- ay];exact az
    have HE5:=hid (MO.out.trans (ag jW));have hl5:r5.length<=l.length:=Nat.le_trans ((cB aM).len jW) hl4;have EL:=hid (HB.out.go d Taa Taa);clear hp az jW d HB qX MO wy;generalize hW5:w5=W5 at*;clear hW5;have HT:=hid (Tr.at_.keep (ku (Nat.le_refl _)) _ _ EL.out.tr);go_wp2_with (first
     |(refine wpList_load_row rfl 36 (.tmp 7) rfl qx rfl 36 (aT (EM 20 n G4)).toArray (0,0) _ EL.out.blk Tryz.underlying36 rfl aF ?_)
     |(refine wpList_store_row rfl 36 (.tmp 6) (.tmp 70) rfl w.heap.size (aT (EM 20 n G4)).toArray rfl rfl 36 dF EL.out.res aF rfl (cL _) ?_
       have HR:=hid (EL.out.res.row (aT (EM 20 n G4)).toArray)))
    refine bodyPost_ret (v:=dN (EM 20 n G4)) (results_cell_row Tryz.results243 _ _ w.heap.size 36 (aT (EM 20 n G4)).toArray (0,0) _ rfl HR.out Tryz.underlying36 rfl aF) rfl ?_;exact bV bj EL.out.did HT.out (HE5.out.trans rfl)
   by_cases h22:o=22
   ·subst h22;clear h1 h2 h3 Pc;cases hst:ar fe l
    ·have vU:=hid ((xR hf).trans (QS (W:=aU 0) (l:=l) (λ _=>hst) Tab Tab Tab));have hm:=br ρ W1 l lg dp pK.out.did.at_ ⟨#[42]⟩;rw[show(⟨#[42]⟩:ByteArray).data.toList=fe from rfl,hst,ck hst] at hm;open zfU in exact Zdf
    ·have vU:=hid ((xR hf).trans (Za hst));have hm:=br ρ W1 l lg dp pK.out.did.at_ ⟨#[42]⟩;rw[show(⟨#[42]⟩:ByteArray).data.toList=fe from rfl,hst,cw hst] at hm;open zfV in exact Zdf
   by_cases h27:o=27\/o=28
   ·have b0:(o==0)=false:=by rw[beq_eq_false_iff_ne];omega
    have b20:(o==20)=false:=by rw[beq_eq_false_iff_ne];omega
    have b22:(o==22)=false:=by rw[beq_eq_false_iff_ne];omega
    have H2:=hid h27
    have hb:(o==27)=true\/((o==27)=false/\(o==28)=true):=by
     rcases h27 with h | h
     ·left;rw[beq_iff_eq];exact h
     ·right;rw[beq_eq_false_iff_ne,beq_iff_eq];omega
    clear h1 h2 h3 Pc h22 h27
    rcases hb with b27 |⟨b27,b28⟩;all_goals
     have vU:=hid ((xR hf).trans (congrFun (aah (W:=aU 0) (op:=o) H2.out) l));obtain⟨k0,k1,k2,k3,k4,k5,k6⟩:=eX (pK.out).blk;obtain⟨f0,f1,f2,f3,f4,f5,f6⟩:=fh (pK.out).blk;unfold fx at k0 k1 k2 k3 k4 k5 k6;simp only at k0 k1 k2 k3 k4 k5 k6;go_wp2_with fail;refine(IH l W1 (Nat.le_refl _) pK.out.did.at_).mono ?_;intro e w2 hp;rcases hp.cases with ⟨t2,r2,v,az,rfl,y2,rfl,hat,d⟩|⟨m,au,rfl,hg⟩;case inr=>have HF:=hid (vU.out.trans (ak au));have HG:=hid (pK.out.did.grown);clear hp au;go_wp2_with fail;exact aj rfl (bt HF.out HG.out hg)
     clear k0 k1 k2 k3 k4 k5 k6 f0 f1 f2 f3 f4 f5 f6;have yI:=hid (vU.out.trans (ag az));have hl2:r2.length<=l.length:=Nat.le_trans ((cg 0).len az) (Nat.le_refl _);have BC:=pK.out.go d Taa Taa;have gP:=hid (BC.QU bj (Nat.le_refl _) JM pK.out.blk.lt hat);have JK:=hid (BC.afn JM pK.out.blk.lt hat);have hxw:=BC.blk.lt;have BS:=hid BC;obtain⟨k0,k1,k2,k3,k4,k5,k6⟩:=eX (BS.out).blk;obtain⟨f0,f1,f2,f3,f4,f5,f6⟩:=fh (BS.out).blk;unfold fx at k0 k1 k2 k3 k4 k5 k6;simp only at k0 k1 k2 k3 k4 k5 k6;clear hp az BC d hat pK vU;unfold dN;unfold aT at gP JK ⊢;go_upto_region 13 with fail
     clear BS hxw k0 k1 k2 k3 k4 k5 k6 f0 f1 f2 f3 f4 f5 f6;generalize (World.alloc _ _)=W2 at*;generalize w2.heap.size=G2 at*;replace gP:=hid (show ni ρ w lg dp w.heap.size qx W2 r2 (.mk o ct ByteArray.empty 0 [t2]) (EM o 0 G2)from gP.out);replace JK:=hid (show K2 W2 G2 qx t2 y2 from JK.out);have hb:=aa W2 (.cells (aP [bk]) 9);have HB:=hid (gP.out.later hb);have wy:=gP.out.did.lt;have hm:=aW ρ _ _ lg dp HB.out.did.at_ [bk] W2.heap.size 1 rfl (av.new W2 _ _) Taa Taa;have HKB:=hid (JK.out.later hb);clear JK hb;unfold aP strOf at hm HB HKB;simp only[map_cons,map_nil] at hm HB HKB;rw[show bk.toArray= #[44] from rfl] at hm HB HKB;go_wp2_with fail;refine hm.mono ?_;clear hm;intro e w3 hp;rcases hp.cases with ⟨_,r3,v,az,rfl,rfl,d⟩|⟨m,au,rfl,hg⟩;case inr=>have HF:=hid (yI.out.trans (ak (show must bk r2=.error m by rw[<- ay];exact au)));have HG:=hid (HB.out.did.grown);clear hp au;go_wp2_with fail;exact aj rfl (bt HF.out HG.out hg)
     have jW:must bk r2=.ok ((),r3):=by rw[<- ay];exact az
     have uK:=hid (yI.out.trans (ag jW));have We:r3.length<=l.length:=Nat.le_trans ((cB bk).len jW) hl2;have mU:=hid (HB.out.go d Taa Taa);have HK3:=hid (HKB.out.go d Taa);clear HKB hp az jW d HB gP yI wy;generalize hW3:w3=W3 at*;clear hW3;have HC:=hid (show W3.cell? ⟨qx,6,none⟩=some (.slice (some ⟨G2,0,none⟩) 1 1)from mU.out.blk.cell 6);cases zj:aU 0 r3 with
     | error m=>
       have Dd:=hid zj;clear zj;go_wp2_with fail;refine wE (P:=Tryz.prog) (H:=λ W=>W.cell? ⟨qx,6,none⟩=some (.slice (some ⟨G2,0,none⟩) 1 1)) (E:=λ C W=>C=[rG (ρ.placeOf m)]/\w.grownBy W (some ρ.g)) (w0:=W3) (s0:=7) (s1:=0) (d0:=60) (d1:=61) (d2:=62) (d3:=63) (d4:=64) (d5:=65) (d6:=66) (vs0:=.pointer (some ⟨qx,0,none⟩)) (vs1:=ρ.ptr) (u0:=.pointer (some ⟨qx,6,none⟩)) (u1:=.slice (some ⟨G2,0,none⟩) 1 1) (u2:=ρ.ptr) (F:=154) (args:= #[ρ.ptr]) Tac Tac Tac Tac rfl rfl HC.out (λ w' w'' hh hl=>(hl.cell (ax hh)).trans hh) ?_ ?_ ?_ ?_ Tac ?_ ?_
       ·intro ρ' w' hH hc h';simp[go_sem,h']
       ·intro ρ' w' hH hc h';simp[go_sem,h',hH]
       ·intro ρ' w' hH hc h';simp[go_sem,h']
       ·intro ρ' w' hc h';simp[go_sem,h',hc.const,hc.func]
       ·intro w' hw';refine(IH r3 w' We (mU.out.did.at_.later hw')).mono ?_;intro e w'' hp;rcases hp.cases with ⟨t3,r3,v,az,_⟩|⟨m',au,rfl,hg⟩
        ·rw[Dd.out] at az;cases az
        ·rw[Dd.out] at au;injection au with au;subst au;exact⟨_,rfl,rfl,ai (mU.out.did.later hw').grown hg⟩
       ·rintro C a W hd ⟨rfl,hg⟩;have hE:=bt (lg:=lg) (dp:=dp) (uK.out.trans (ak Dd.out)) (aB (Below.refl _ _)) hg;simp only[Exit.inBlock,Exit.then];exact aj (P:=Tryz.prog) (fn:=Tryz.f243) hd hE
     | ok x=>
       obtain⟨t9,r9⟩:=x;have Dd:=hid zj;clear zj;have HK:=HK3.out;go_wp2_with fail;refine KJ (P:=Tryz.prog) (f:=aT) (val:=dN) (e:=36) (size:=7) (base:=G2) (l:=[y2]) (lv:=.slice (some ⟨G2,0,none⟩) 1 1) (Post:=λ z W W'=>t9.at_ W' (eC W.heap.size W') z/\aY ρ W W' r9 lg dp) (w0:=W3) (q:=7) (d0:=60) (d1:=61) (d2:=62) (d3:=63) (d4:=64) (d5:=65) (d6:=66) (qb:=qx) (k:=6) (g:=ρ.g) (pq:=.pointer (some ⟨qx,0,none⟩)) (ptr:=ρ.ptr) (F:=154) (args:= #[ρ.ptr]) 24 24 _ 88 Tac Tac Tac Tac Tac rfl rfl ?_ ?_ ?_ ?_ ?_ ?_ ?_ Tryz.underlying24 Um rfl Taa (λ _=>rfl) (by intro y u hu;simp[aT] at hu;rcases hu with rfl | rfl | rfl | rfl | rfl | rfl | rfl <;> rfl) (Y0 (λ _=>rfl) HK.blk (Nat.le_refl _)) HC.out Taa ?_ ?_ Tae Tae (Nat.le_of_lt HK.blk.lt) ?_ ?_ ?_
       ·intro ρ' w' h';simp[go_sem,h']
       ·intro ρ' w' h';simp[go_sem,h']
       ·intro ρ' w' h' hc';simp[go_sem,h',hc']
       ·intro ρ' w' h';simp[go_sem,h']
       ·intro ρ' w' hc' h';simp[go_sem,h',hc'.const,hc'.func]
       ·intro ρ' w' y' h';simp[go_sem,h',dN,aT]
       ·intro ρ' w' s' v' O4 qZ nK sF;simp only[execOp,resolve,invoke,builtin,Sem.run_bind,Sem.run_pure,Result.andThen_ok,map_toArray,map_cons,map_nil,qZ,nK,sF]
       ·have:=HK.lt;simp[Value.ownBlock];omega
       ·have:=HK.lt;simp[Value.ownBlock];omega
       ·intro w' hw';refine(IH r3 w' We (mU.out.did.at_.later hw')).mono ?_;intro e w'' hp;rcases hp.cases with ⟨t3,r3,v,az,rfl,z,rfl,hat,d2⟩|⟨m,au,_⟩
        ·rw[Dd.out] at az;injection az with az;injection az with h1 h2;subst h1 h2;exact⟨z,rfl,hat,d2⟩
        ·rw[Dd.out] at au;cases au
       ·rintro z w' w'' ⟨_,dd⟩;exact dd.grown
       intro z s v' V1 V1' V2 V3 vt ⟨ht9,d9⟩ hl2 zj lJ oQ aql fW;have hgG:=HK.lt;obtain⟨A9,c9,Wu,vx⟩:=Od sU oQ (S:=eC (qx+1) V3) (λ g h1 h2=>⟨by omega,h2⟩);have Wu:v'=.slice A9 2 c9:=Wu;subst Wu;have lJ:V2.grownBy V3 (some G2):=lJ;have hz1:W3.heap.size<=V1.heap.size:=vt.size;have hz2:=d9.size;have hz3:V1'.heap.size<=V2.heap.size:=hl2.size;have wy:=HK.blk.lt;have D9:=(((mU.out.did.later vt).trans d9).later hl2).own bj lJ (λ g h=>by injection h with h;omega);have hX9:=(((mU.out.blk.later vt).grown d9.grown Tad).later hl2).grown lJ Tad;have hR9:=(((mU.out.res.later vt).grown d9.grown Tad).later hl2).grown lJ Tad;have ht1:=Tr.at_.keep (QB lJ G2 (λ g h=>by injection h with h;exact h.symm)) _ _ (Tr.at_.keep (gX hl2) _ _ (Tr.at_.keep (iM d9.grown Taa) _ _ (Tr.at_.keep (gX vt) _ _ HK.tr)));have akY:Tr.at_ _ _ t9 z:=Tr.at_.keep (λ b hb=>⟨λ _=>rfl,(⟨by have:=hb.1;omega,hb.2,by have:=hb.1;omega⟩:Bx (qx+1) G2 V2 b)⟩) t9 z (ht9.later hl2);have QI:=Tr.at_.keep (QB lJ G2 (λ g h=>by injection h with h;exact h.symm)) _ _ akY;have fB:=hid (ni.akU (c:=c9) D9 hX9 hR9 bj (Nat.le_refl _) JM vx (Tr.at_.keep (ku (Nat.le_refl _)) _ _ ht1) (Tr.at_.keep (ku (Nat.le_refl _)) _ _ QI));have bN:=hid (uK.out.trans (ag Dd.out));have hl9:r9.length<=l.length:=Nat.le_trans ((cg 0).len Dd.out) We;have hf9:=hX9.frozen 6;clear vt ht9 d9 hl2 zj lJ oQ aql vx hz1 hz2 hz3 D9 hX9 hR9 ht1 akY QI mU uK HC HK HK3 wy hgG;simp only[Act.put,Uac];go_upto_region 15 with fail
       clear fW hf9;generalize (V3.setCell _ _)=W9 at*;have hb:=aa W9 (.cells (aP [aM]) 9);have HB:=hid (fB.out.later hb);have wy:=fB.out.did.lt;have hm:=aW ρ _ _ lg dp HB.out.did.at_ [aM] W9.heap.size 1 rfl (av.new W9 _ _) Taa Taa;clear hb;unfold aP strOf at hm HB;simp only[map_cons,map_nil] at hm HB;rw[show aM.toArray= #[41] from rfl] at hm HB;go_wp2_with fail;refine hm.mono ?_;clear hm;intro e wa hp;rcases hp.cases with ⟨_,r10,v,az,rfl,rfl,d⟩|⟨m,au,rfl,hg⟩;case inr=>have HF:=hid (bN.out.trans (ak (show must aM r9=.error m by rw[<- ay];exact au)));have HG:=hid (HB.out.did.grown);clear hp au;go_wp2_with fail;exact aj rfl (bt HF.out HG.out hg)
       have jW:must aM r9=.ok ((),r10):=by rw[<- ay];exact az
       have Pg:=hid (bN.out.trans (ag jW));have awT:r10.length<=l.length:=Nat.le_trans ((cB aM).len jW) hl9;have Dh:=hid (HB.out.go d Taa Taa);clear hp az jW d HB fB bN wy;generalize aqn:wa=W10 at*;clear aqn;have HT:=hid (Tr.at_.keep (ku (Nat.le_refl _)) _ _ Dh.out.tr);go_wp2_with (first
        |(refine wpList_load_row rfl 36 (.tmp 7) rfl qx rfl 36 (aT (⟨o,sV,⟨#[]⟩,0,A9,2,c9⟩)).toArray (0,0) _ Dh.out.blk Tryz.underlying36 rfl aF ?_)
        |(refine wpList_store_row rfl 36 (.tmp 6) (.tmp 70) rfl w.heap.size (aT (⟨o,sV,⟨#[]⟩,0,A9,2,c9⟩)).toArray rfl rfl 36 dF Dh.out.res aF rfl (cL _) ?_
          have HR:=hid (Dh.out.res.row (aT (⟨o,sV,⟨#[]⟩,0,A9,2,c9⟩)).toArray)))
       refine bodyPost_ret (v:=dN (⟨o,sV,⟨#[]⟩,0,A9,2,c9⟩)) (results_cell_row Tryz.results243 _ _ w.heap.size 36 (aT (⟨o,sV,⟨#[]⟩,0,A9,2,c9⟩)).toArray (0,0) _ rfl HR.out Tryz.underlying36 rfl aF) rfl ?_;exact bV bj Dh.out.did HT.out (Pg.out.trans rfl)
   have h28:o≠28:=λ h=>h27 (.inr h)
   replace h27:o≠27:=λ h=>h27 (.inl h)
   have vU:=hid ((xR hf).trans (QS (W:=aU 0) (l:=l) (λ h=>absurd h h22) Pc h27 h28));have b0:(o==0)=false:=by rw[beq_eq_false_iff_ne];omega
   have b20:(o==20)=false:=by rw[beq_eq_false_iff_ne];omega
   have b22:(o==22)=false:=by rw[beq_eq_false_iff_ne];omega
   have b27:(o==27)=false:=by rw[beq_eq_false_iff_ne];omega
   have b28:(o==28)=false:=by rw[beq_eq_false_iff_ne];omega
   obtain⟨k0,k1,k2,k3,k4,k5,k6⟩:=eX (pK.out).blk;obtain⟨f0,f1,f2,f3,f4,f5,f6⟩:=fh (pK.out).blk;unfold fx at k0 k1 k2 k3 k4 k5 k6;simp only at k0 k1 k2 k3 k4 k5 k6;go_wp2_with fail;refine(IH l W1 (Nat.le_refl _) pK.out.did.at_).mono ?_;intro e w2 hp;rcases hp.cases with ⟨t2,r2,v,az,rfl,y2,rfl,hat,d⟩|⟨m,au,rfl,hg⟩;case inr=>have HF:=hid (vU.out.trans (ak au));have HG:=hid (pK.out.did.grown);clear hp au;go_wp2_with fail;exact aj rfl (bt HF.out HG.out hg)
   clear k0 k1 k2 k3 k4 k5 k6 f0 f1 f2 f3 f4 f5 f6;have yI:=hid (vU.out.trans (ag az));have hl2:r2.length<=l.length:=Nat.le_trans ((cg 0).len az) (Nat.le_refl _);have BC:=pK.out.go d Taa Taa;have gP:=hid (BC.QU bj (Nat.le_refl _) JM pK.out.blk.lt hat);have hxw:=BC.blk.lt;have BS:=hid BC;obtain⟨k0,k1,k2,k3,k4,k5,k6⟩:=eX (BS.out).blk;obtain⟨f0,f1,f2,f3,f4,f5,f6⟩:=fh (BS.out).blk;unfold fx at k0 k1 k2 k3 k4 k5 k6;simp only at k0 k1 k2 k3 k4 k5 k6;clear hp az BC d hat pK vU;unfold dN;unfold aT at gP ⊢;go_upto_region 15 with fail;clear BS hxw k0 k1 k2 k3 k4 k5 k6 f0 f1 f2 f3 f4 f5 f6;generalize (World.alloc _ _)=W2 at*;generalize w2.heap.size=G2 at*;replace gP:=hid (show ni ρ w lg dp w.heap.size qx W2 r2 (.mk o ct ByteArray.empty 0 [t2]) (EM o 0 G2)from gP.out);have hb:=aa W2 (.cells (aP [aM]) 9);have HB:=hid (gP.out.later hb);have wy:=gP.out.did.lt;have hm:=aW ρ _ _ lg dp HB.out.did.at_ [aM] W2.heap.size 1 rfl (av.new W2 _ _) Taa Taa;clear hb;unfold aP strOf at hm HB;simp only[map_cons,map_nil] at hm HB;rw[show aM.toArray= #[41] from rfl] at hm HB;go_wp2_with fail;refine hm.mono ?_;clear hm;intro e w3 hp;rcases hp.cases with ⟨_,r3,v,az,rfl,rfl,d⟩|⟨m,au,rfl,hg⟩;case inr=>have HF:=hid (yI.out.trans (ak (show must aM r2=.error m by rw[<- ay];exact au)));have HG:=hid (HB.out.did.grown);clear hp au;go_wp2_with fail;exact aj rfl (bt HF.out HG.out hg)
   have jW:must aM r2=.ok ((),r3):=by rw[<- ay];exact az
   have uK:=hid (yI.out.trans (ag jW));have We:r3.length<=l.length:=Nat.le_trans ((cB aM).len jW) hl2;have mU:=hid (HB.out.go d Taa Taa);clear hp az jW d HB gP yI wy;generalize hW3:w3=W3 at*;clear hW3;have HT:=hid (Tr.at_.keep (ku (Nat.le_refl _)) _ _ mU.out.tr);go_wp2_with (first
    |(refine wpList_load_row rfl 36 (.tmp 7) rfl qx rfl 36 (aT (EM o 0 G2)).toArray (0,0) _ mU.out.blk Tryz.underlying36 rfl aF ?_)
    |(refine wpList_store_row rfl 36 (.tmp 6) (.tmp 70) rfl w.heap.size (aT (EM o 0 G2)).toArray rfl rfl 36 dF mU.out.res aF rfl (cL _) ?_
      have HR:=hid (mU.out.res.row (aT (EM o 0 G2)).toArray)))
   refine bodyPost_ret (v:=dN (EM o 0 G2)) (results_cell_row Tryz.results243 _ _ w.heap.size 36 (aT (EM o 0 G2)).toArray (0,0) _ rfl HR.out Tryz.underlying36 rfl aF) rfl ?_;exact bV bj mU.out.did HT.out (uK.out.trans rfl)
end Go.Proofs.YtehhdlgjfdnafaaGreatDoor
