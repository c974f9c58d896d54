/- Parts of the proof. -/
import Derived.Test.YtcneefmaghoejaaGreatDoorC19
namespace Go.Proofs.YtcneefmaghoejaaGreatDoor
open Go.Lib (hid)
set_option linter.unusedSimpArgs false
set_option linter.unusedVariables false
theorem dG {α β:Type} {p:Ps α} {f:α→Ps β} {l r:bH} {y:β}(h:(p >>= f) l=.ok (y,r)):∃x m,p l=.ok (x,m)∧f x m=.ok (y,r):=by
 rw[fw] at h;cases e:p l with
 | error n=>rw[e] at h;cases h
 | ok z=>rw[e] at h;exact⟨z.1,z.2,rfl,h⟩
theorem iZ {α:Type} {x y:α} {l r:bH}(h:(pure x:Ps α) l=.ok (y,r)):y=x∧r=l:=by have h:(Except.ok (x,l):Except Nat (α×bH))=.ok (y,r):=h;injection h with h;injection h with h1 h2;exact⟨h1.symm,h2.symm⟩
theorem Fp {s:List UInt8} {b:Bool} {l r:bH}(h:may s l=.ok (b,r)):(b=true∧av s l=true∧r=l.tail∧r.length+1=l.length)∨(b=false∧av s l=false∧r=l):=by
 unfold may at h;split at h
 ·rename_i hh;injection h with h;injection h with h1 h2;obtain⟨t,q,rfl,_⟩:=fP hh;exact .inl ⟨h1.symm,hh,h2.symm,by rw[← h2];simp⟩
 ·rename_i hh;injection h with h;injection h with h1 h2;exact .inr ⟨h1.symm,by simpa using hh,h2.symm⟩
theorem wj {s:List UInt8} {l r:bH}(h:must s l=.ok ((),r)):av s l=true∧r=l.tail∧r.length+1=l.length:=by
 unfold must at h;split at h
 ·rename_i hh;injection h with h;injection h with h1 h2;obtain⟨t,q,rfl,_⟩:=fP hh;exact⟨hh,h2.symm,by rw[← h2];simp⟩
 ·cases h
def TQ (p:Ps Tr):Prop:=∀l t r,p l=.ok (t,r)→t.thin∧t.depth+r.length≤l.length
theorem Dr (op:Int)(x:Tr):(lI op [x]).depth=x.depth+1:=by simp[lI,Tr.depth,Tr.pn]
theorem Ds (op:Int)(x y:Tr):(lI op [x,y]).depth=max x.depth y.depth+1:=by simp[lI,Tr.depth,Tr.pn]
theorem Ii {op:Int} {x:Tr}(h:x.thin):(lI op [x]).thin:=by unfold lI Tr.thin;exact⟨by simp,h,trivial⟩
theorem Ij {op:Int} {x y:Tr}(h:x.thin)(k:y.thin):(lI op [x,y]).thin:=by unfold lI Tr.thin;exact⟨by simp,h,k,trivial⟩
theorem Ik {below:Ps Tr}(hb:TQ below)(lv:Nat):∀(f:Nat) (x:Tr) (n:Nat) (l:bH) (t:Tr) (r:bH),x.thin→x.depth+l.length≤n→lM below lv f x l=.ok (t,r)→t.thin∧t.depth+r.length≤n
 | 0,x,n,l,t,r,hx,hn,h=>by obtain⟨rfl,rfl⟩:=iZ h;exact⟨hx,hn⟩
 | f+1,x,n,l,t,r,hx,hn,h=>by
   simp only[lM] at h;cases e:gT (opsL lv) l with
   | none=>rw[e] at h;injection h with h;injection h with h1 h2;subst h1;subst h2;exact⟨hx,hn⟩
   | some o=>rw[e] at h;obtain⟨y,m,h1,h2⟩:=dG h;obtain⟨k1,k2⟩:=hb _ _ _ h1;obtain⟨s,_,hs⟩:=kf e;obtain⟨w,q,rfl,_⟩:=fP hs;simp only[List.tail_cons,List.length_cons] at*;refine Ik hb lv f _ n _ _ _ (Ij hx k1) ?_ h2;rw[Ds];omega
theorem zC {below:Ps Tr}(hb:TQ below)(lv:Nat):TQ (lY below lv):=by intro l t r h;obtain⟨x,m,h1,h2⟩:=dG h;obtain⟨k1,k2⟩:=hb _ _ _ h1;exact Ik hb lv _ x _ m t r k1 k2 h2
theorem Zr {same below:Ps Tr}(hs:TQ same)(hb:TQ below)(s:List UInt8)(op:Int):TQ (EB s op same below):=by
 intro l t r h;obtain⟨b,m,h1,h2⟩:=dG h;rcases Fp h1 with ⟨rfl,_,_,hl⟩|⟨rfl,_,rfl⟩
 ·obtain⟨x,m2,h3,h4⟩:=dG h2;obtain⟨rfl,rfl⟩:=iZ h4;obtain⟨k1,k2⟩:=hs _ _ _ h3;exact⟨Ii k1,by rw[Dr];omega⟩
 ·exact hb _ _ _ h2
theorem L9 {below:Ps Tr}(hb:TQ below):TQ (vG below):=by
 intro l t r h;obtain⟨x,m,h1,h2⟩:=dG h;obtain⟨k1,k2⟩:=hb _ _ _ h1;obtain⟨b,m2,h3,h4⟩:=dG h2;rcases Fp h3 with ⟨rfl,_,_,hl⟩|⟨rfl,_,rfl⟩
 ·obtain⟨n,m3,h5,h6⟩:=dG h4;obtain⟨_,m4,h7,h8⟩:=dG h6;obtain⟨rfl,rfl⟩:=iZ h8;have:=(cj kD).len h5;obtain⟨_,_,hm⟩:=wj h7;exact⟨Ii k1,by rw[Dr];omega⟩
 ·have h4:rN below x m2=_:=h4;unfold rN at h4;cases e:gT (opsL 3) m2 with
  | none=>rw[e] at h4;injection h4 with h4;injection h4 with h5 h6;subst h5;subst h6;exact⟨k1,k2⟩
  | some o=>rw[e] at h4;obtain⟨y,m3,h5,h6⟩:=dG h4;obtain⟨rfl,rfl⟩:=iZ h6;obtain⟨k3,k4⟩:=hb _ _ _ h5;obtain⟨s,_,hs⟩:=kf e;obtain⟨w,q,rfl,_⟩:=fP hs;simp only[List.tail_cons,List.length_cons] at*;exact⟨Ij k1 k3,by rw[Ds];omega⟩
theorem MO {whole:Ps Tr}(hb:TQ whole)(op:Int):TQ (nW whole op):=by
 intro l t r h;obtain⟨width,m,h1,h2⟩:=dG h;obtain⟨x,m2,h3,h4⟩:=dG h2;obtain⟨ys,m3,h5,h6⟩:=dG h4;obtain⟨_,m4,h7,h8⟩:=dG h6;obtain⟨rfl,rfl⟩:=iZ h8;obtain⟨_,_,hm⟩:=wj h7;obtain⟨k1,k2⟩:=hb _ _ _ h3;have hw:m.length≤l.length:=by
  unfold ml at h1;split at h1
  ·obtain⟨n,q,g1,g2⟩:=dG h1;obtain⟨_,q2,g3,g4⟩:=dG g2;obtain⟨_,rfl⟩:=iZ g4;have:=cC.len g1;have:=(aM ax).len g3;omega
  ·obtain⟨_,rfl⟩:=iZ h1;exact Nat.le_refl _
 have hy:(ys=[]∧m3=m2)∨∃y,ys=[y]∧y.thin∧y.depth+m3.length≤m2.length:=by
  unfold jZ at h5;split at h5
  ·obtain⟨_,q,g1,g2⟩:=dG h5;obtain⟨y,q2,g3,g4⟩:=dG g2;obtain⟨rfl,rfl⟩:=iZ g4;obtain⟨a1,a2⟩:=hb _ _ _ g3;have:=(aM ax).len g1;exact .inr ⟨y,rfl,a1,by omega⟩
  ·obtain⟨rfl,rfl⟩:=iZ h5;exact .inl ⟨rfl,rfl⟩
 rcases hy with ⟨rfl,rfl⟩|⟨y,rfl,a1,a2⟩
 ·refine⟨by unfold Tr.thin;exact⟨by simp,k1,trivial⟩,?_⟩;simp only[Tr.depth,Tr.pn];omega
 ·refine⟨by unfold Tr.thin;exact⟨by simp,k1,a1,trivial⟩,?_⟩;simp only[Tr.depth,Tr.pn];omega
theorem Fq {t:Tr} {r l:bH}(h:t.thin)(hd:t.depth=1)(hr:r.length < l.length):t.thin∧t.depth+r.length≤l.length:=⟨h,by omega⟩
theorem xC (op:Int)(v:Val)(n:ByteArray)(k:Int):(Tr.mk op v n k []).thin:=by unfold Tr.thin;exact⟨by simp,trivial⟩
theorem vo (op:Int)(v:Val)(n:ByteArray)(k:Int):(Tr.mk op v n k []).depth=1:=by simp[Tr.depth,Tr.pn]
theorem M0 {whole:Ps Tr}(hb:TQ whole)(op:Int):TQ (jn whole op):=by
 intro l t r h;unfold jn at h;split at h
 ·obtain⟨b,m,h1,h2⟩:=dG h;rcases Fp h1 with ⟨rfl,_,_,hl⟩|⟨rfl,_,rfl⟩
  ·obtain⟨_,m2,h3,h4⟩:=dG h2;obtain⟨rfl,rfl⟩:=iZ h4;obtain⟨_,_,hm⟩:=wj h3;exact Fq (xC _ _ _ _) (vo _ _ _ _) (by omega)
  ·exact MO hb 22 _ _ _ h2
 ·exact MO hb op _ _ _ h
theorem SI {whole:Ps Tr}(hb:TQ whole):TQ (nX whole):=by
 intro l t r h;obtain⟨n,m,h1,h2⟩:=dG h;have hn:m.length < l.length:=by
  unfold aN at h1;split at h1
  ·cases h1
  ·split at h1
   ·injection h1 with h1;injection h1 with _ h1;subst h1;simp
   ·cases h1
 have h2:(if av aX m then(match fT n with | none=> .error m.length | some op=>jn whole op m.tail)else .ok (Ch n,m):Except Nat (Tr×bH))=_:=h2;split at h2
 ·rename_i hh;cases e:fT n with
  | none=>rw[e] at h2;cases h2
  | some op=>rw[e] at h2;obtain⟨k1,k2⟩:=M0 hb op _ _ _ h2;exact⟨k1,by simp at k2;omega⟩
 ·injection h2 with h2;injection h2 with h3 h4;subst h3;subst h4;exact Fq (xC _ _ _ _) (vo _ _ _ _) hn
theorem Xf {whole:Ps Tr}(hb:TQ whole):TQ (fB whole):=by
 intro l t r h
 match l with
 | []=>cases h
 | a::q=>
   simp only[fB] at h;have lf:∀v,(.ok (mJ v,q):Except Nat (Tr×bH))=.ok (t,r)→t.thin∧t.depth+r.length≤(a::q).length:=by intro v e;injection e with e;injection e with e1 e2;subst e1;subst e2;exact Fq (xC _ _ _ _) (vo _ _ _ _) (by simp)
   split at h
   ·exact lf _ h
   split at h
   ·exact lf _ h
   split at h
   ·exact lf _ h
   split at h
   ·exact lf _ h
   split at h
   ·exact lf _ h
   split at h
   ·obtain⟨x,m,h1,h2⟩:=dG h;obtain⟨_,m2,h3,h4⟩:=dG h2;obtain⟨rfl,rfl⟩:=iZ h4;obtain⟨k1,k2⟩:=hb _ _ _ h1;obtain⟨_,_,hm⟩:=wj h3;exact⟨k1,by simp;omega⟩
   ·exact SI hb _ _ _ h
theorem SJ:TQ xp:=by intro l t r h;cases h
theorem sy:∀f lv,TQ (pE f lv)
 | 0,lv=>by unfold pE;exact SJ
 | f+1,0=>by unfold pE;exact zC (sy f 1) 0
 | f+1,1=>by unfold pE;exact zC (sy f 2) 1
 | f+1,2=>by unfold pE;exact Zr (sy f 2) (sy f 3) _ _
 | f+1,3=>by unfold pE;exact L9 (sy f 4)
 | f+1,4=>by unfold pE;exact zC (sy f 5) 4
 | f+1,5=>by unfold pE;exact zC (sy f 6) 5
 | f+1,6=>by unfold pE;exact Zr (sy f 6) (sy f 7) _ _
 | f+1,lv+7=>by unfold pE;exact Xf (sy f 0)
theorem MP:TQ cW:=fun l t r h=>sy _ _ l t r h
open Go.ChangeShapes Go.WideShapes Go.ChangeAt Go.RowKit
def MQ (ρ:br)(W:World)(lg dp:Bool)(l:bH)(e:Ending)(w':World):Prop:=
 GP ρ W cW l (fun t r v w'=>∃y:Ex,v=ee y∧t.at_ w' (eD W.heap.size w') y∧bJ ρ W w' r lg (dp || decide (32 < t.depth))) e w'
theorem yo {ρ:br} {w W:World} {lg dp b:Bool} {l r:bH} {t:Tr} {y:Ex}(hg:ρ.g < w.heap.size)(hd:bJ ρ w W r lg b)(hb:b=(dp || decide (32 < t.depth)))(ht:t.at_ W (eD (w.heap.size+1) W) y)(hp:cW l=.ok (t,r)):MQ ρ w lg dp l (.returned (ee y)) (W.setRow w.heap.size (bl y).toArray):=
 GP.ok hp ⟨y,rfl,(Tr.at_.keep (iP W (Nat.lt_succ_self _) _) t y ht).more (Nat.le_succ _),hb▸hd.own hg (dH W w.heap.size _) (fun G e=>by injection e with e;omega)⟩
theorem br.ij.deep {ρ:br} {w:World} {l:bH} {lg dp:Bool}(h:ρ.ij w l lg dp)(b:Bool):bJ ρ w (w.setCell ⟨ρ.g,3,none⟩ (.bool b)) l lg b:=by have hB:=au.cg h.blk 3 (.bool b);exact⟨h.set hB (cd (aH (Below.refl _ _)) 3 _) h.of,cd (aH (Below.refl _ _)) 3 _⟩
theorem br.ij.abu {ρ:br} {w:World} {l:bH} {lg dp:Bool}(h:ρ.ij w l lg dp)(b:Bool):bJ ρ w (w.setCell ⟨ρ.g,2,none⟩ (.bool b)) l b dp:=by have hB:=au.cg h.blk 2 (.bool b);exact⟨h.set hB (cd (aH (Below.refl _ _)) 2 _) h.of,cd (aH (Below.refl _ _)) 2 _⟩
set_option maxHeartbeats 4000000
set_option maxRecDepth 100000
theorem lr (ρ:br)(w:World)(l:bH)(lg dp:Bool)(h:ρ.ij w l lg dp):
  Calls Tryz.prog 77 #[ρ.ptr] w (MQ ρ w lg dp l):=by
 have aF:=h.jt;have hsm:=h.small;have QJ:=h.left.2;have hb:=aa w (.cells eK 49);have HQ:=hid (au.new w 49 eK);have HD:=hid (bJ.aL h hb);have hm:=afX ρ _ l lg dp (h.later hb);have hsz:(w.alloc (.cells eK 49)).heap.size=w.heap.size+1:=by simp
 clear h hb;unfold eK at hm hsz;go_enter Tryz.func77,Tryz.ntmps77;go_wp2_with fail;refine hm.mono ?_;clear hm;intro e w2 hp;rcases hp.cases with ⟨t,r,v,aO,rfl,y,rfl,hat,d2⟩|⟨m,ar,rfl,hg⟩;case inr=>have HG:=hid HD.out.grown;have HE:=hid ar;clear hp HQ HD hsz ar;go_wp2_with fail;exact ag rfl (GP.err HE.out ⟨rfl,af HG.out hg⟩)
 have hs2:w.heap.size+1≤w2.heap.size:=by have:=d2.size;omega
 have hx:=aa w2 (.cells (bl y).toArray 49);have jf:=hid ((HD.out.trans d2).later hx);have jN:=hid ((d2.blk HQ.out (by omega)).later hx);have kR:=hid (au.new w2 49 (bl y).toArray);have kC:=(hat.more (show w.heap.size+1≤_ by omega)).later hx;have vN:=hid kC;obtain⟨Zs,akT⟩:=MP l t r aO;have hgd:=Tr.abt (w:=w2.alloc (.cells (bl y).toArray 49)) (S:=eD (w.heap.size+1) _) (fun b hb=>hb.2) t y kC Zs (by omega) _ (Below.refl _ _);have oM:=hid aO;have hxg:w2.heap.size≠ρ.g:=by omega
 have hqg:w.heap.size < w2.heap.size:=by omega
 clear hp hat kC d2 aO hx HQ HD hsz Zs;unfold ee at*;unfold bl at*;go_upto_region 2 with fail
 generalize (w2.alloc _)=W2 at*;generalize w2.heap.size=qx at*;obtain⟨c0,c1,c2,c3,f1,f2,f3⟩:=jf.out.at_.facts;cases OY:dp
 ·rw[OY] at c3;have HDP:=hid OY;clear OY;obtain⟨k0,k1,k2,k3,k4,k5,k6⟩:=fX (y:=y) kR.out;unfold br.ptr;go_wp2_with fail;refine hgd.mono ?_;clear hgd;rintro e w3 ⟨rfl,b3⟩;have jL:=hid (jf.out.later b3);have fy:=hid (jN.out.later b3);have Fs:=hid (kR.out.later b3);have HT3:=hid (vN.out.later b3);clear b3 jf jN kR vN c0 c1 c2 c3 f1 f2 f3 k0 k1 k2 k3 k4 k5 k6;obtain⟨c0,c1,c2,c3,f1,f2,f3⟩:=jL.out.at_.facts;have hst:=jL.out.at_.deep (decide (32 < t.depth));have jX:=hid (jL.out.trans hst);have mE:=hid (fy.out.far (p:=⟨ρ.g,3,none⟩) (by simp;omega) (.bool (decide (32 < t.depth))));have sk:=hid (Fs.out.far (p:=⟨ρ.g,3,none⟩) (by simp;omega) (.bool (decide (32 < t.depth))));have HT4:=hid (HT3.out.set (q:=ρ.g) (by omega) 3 (.bool (decide (32 < t.depth))));have hdec:decide ((t.depth:Int)> 32)=decide (32 < t.depth):=by rw[decide_eq_decide];omega
  generalize kU:decide (32 < t.depth)=bd at*;have HBD:=hid kU;clear kU;clear hst jL fy Fs HT3;go_wp2_with (first
   |(refine wpList_load_row rfl 49 (.tmp 3) rfl qx rfl 49 (bl y).toArray (0,0) _ sk.out Tryz.underlying49 rfl aR ?_)
   |(refine wpList_store_row rfl 49 (.tmp 2) (.tmp 18) rfl w.heap.size (bl y).toArray rfl rfl 49 eK mE.out aR rfl (dM _) ?_
     have HR:=hid (mE.out.row (bl y).toArray)))
  refine bodyPost_ret (v:=ee y) (results_cell_row Tryz.results77 _ _ w.heap.size 49 (bl y).toArray (0,0) _ rfl HR.out Tryz.underlying49 rfl aR) rfl ?_;exact yo aF jX.out (by rw[HDP.out];exact HBD.out.symm) HT4.out oM.out
 ·rw[OY] at c3;have HDP:=hid OY;clear OY hgd;have hst:=jf.out.at_.deep true;have jX:=hid (jf.out.trans hst);have mE:=hid (jN.out.far (p:=⟨ρ.g,3,none⟩) (by simp;omega) (.bool true));have sk:=hid (kR.out.far (p:=⟨ρ.g,3,none⟩) (by simp;omega) (.bool true));have HT4:=hid (vN.out.set (q:=ρ.g) (by omega) 3 (.bool true));clear hst jf jN kR vN;unfold bl at sk;unfold br.ptr;go_wp2_with (first
   |(refine wpList_load_row rfl 49 (.tmp 3) rfl qx rfl 49 (bl y).toArray (0,0) _ sk.out Tryz.underlying49 rfl aR ?_)
   |(refine wpList_store_row rfl 49 (.tmp 2) (.tmp 18) rfl w.heap.size (bl y).toArray rfl rfl 49 eK mE.out aR rfl (dM _) ?_
     have HR:=hid (mE.out.row (bl y).toArray)))
  refine bodyPost_ret (v:=ee y) (results_cell_row Tryz.results77 _ _ w.heap.size 49 (bl y).toArray (0,0) _ rfl HR.out Tryz.underlying49 rfl aR) rfl ?_;exact yo aF jX.out (by rw[HDP.out];rfl) HT4.out oM.out
def SK (ρ:br)(W:World)(lg dp:Bool)(s:List UInt8)(l:bH)(e:Ending)(w':World):Prop:=
 GP ρ W (cL s) l (fun ts r v w'=>∃y:Sl,v=eP y∧gL.sl w' (eD W.heap.size w') y ts∧bJ ρ W w' r lg (dp || dU ts)) e w'
theorem OZ {s:List UInt8} {l:bH}(h:av s l=false):cL s l=.ok ([],l):=by unfold cL;rw[dK];simp only[h];rfl
theorem KU {s:List UInt8} {l:bH}(h:av s l=true):cL s l=(do let x ← cW;return [x]:Ps (List Tr)) l.tail:=by unfold cL;rw[dK];simp only[h,if_true]
theorem vp (ρ:br)(w:World)(l:bH)(lg dp:Bool)(h:ρ.ij w l lg dp)(s:List UInt8):
  Calls Tryz.prog 79 #[ρ.ptr,.string ⟨s.toArray⟩] w (SK ρ w lg dp s l):=by
 have aF:=h.jt;have hm:=bX ρ w l lg dp h ⟨s.toArray⟩;rw[show(⟨s.toArray⟩:ByteArray).data.toList=s by simp] at hm;cases hh:av s l
 ·rw[hh,dm hh] at hm;have HE:=hid (OZ hh);clear h hh;go_enter Tryz.func79,Tryz.ntmps79;go_wp2_with fail;refine hm.mono ?_;clear hm;rintro e w1 ⟨rfl,d⟩;go_wp2_with fail;go_ret;exact GP.ok HE.out ⟨Sl.nil,rfl,gL.nj _ _,by rw[show dU []=false from rfl,Bool.or_false];exact d⟩
 ·rw[hh,dy hh] at hm;have HE:=hid (KU hh);clear h hh;go_enter Tryz.func79,Tryz.ntmps79;go_wp2_with fail;refine hm.mono ?_;clear hm;rintro e w1 ⟨rfl,d⟩;go_wp2_with fail;refine(lr ρ w1 l.tail lg dp d.at_).mono ?_;intro e w2 hp;rcases hp.cases with ⟨t,r,v,aO,rfl,y,rfl,hat,d2⟩|⟨m,ar,rfl,hg⟩
  ·have hx:=aa w2 (.cells (bl y).toArray 49);have hs1:=d.size;have hs2:=d2.size;have HS:=hid (SE (S:=eD w.heap.size (w2.alloc (.cells (bl y).toArray 49))) (au.new w2 49 (bl y).toArray) ⟨by omega,by simp⟩ ((hat.more hs1).later hx));have HD:=hid ((d.trans d2).later hx);have oM:=hid (HE.out.trans (ak aO));clear hp aO hat d d2 hx hs1 hs2;unfold ee;unfold bl at*;go_wp2_with fail;go_ret;refine GP.ok (x:=[t]) (r:=r) (oM.out.trans rfl) ⟨⟨some ⟨w2.heap.size,0,none⟩,1,1⟩,rfl,HS.out,?_⟩;have hdb:dU [t]=decide (32 < t.depth):=by simp[dU]
   rw[hdb];exact HD.out
  ·have HG:=hid d.grown;have HF:=hid (HE.out.trans (ai ar));clear hp ar d;go_wp2_with fail;exact ag rfl (GP.err HF.out ⟨rfl,af HG.out hg⟩)
def um {α:Type}(ρ:br)(W0:World)(Be pA:α→Bool)(el:Ps α)(St:List α→World→Prop)(acc:List α)(lg dp:Bool)(l:bH)(e:Ending)(W':World):Prop:=match el l with
 | .ok (x,r)=>e=.returned (.tuple #[])∧St (acc++ [x]) W'∧bJ ρ W0 W' r (lg || Be x) (dp || pA x)
 | .error n=>gh ρ W0 n e W'
theorem um.ok {α:Type} {ρ:br} {W0:World} {Be pA:α→Bool} {el:Ps α} {St:List α→World→Prop} {acc:List α} {lg dp:Bool} {l r:bH} {x:α} {W':World}(h:el l=.ok (x,r))(hs:St (acc++ [x]) W')(hd:bJ ρ W0 W' r (lg || Be x) (dp || pA x)):um ρ W0 Be pA el St acc lg dp l (.returned (.tuple #[])) W':=by unfold um;rw[h];exact⟨rfl,hs,hd⟩
theorem um.err {α:Type} {ρ:br} {W0:World} {Be pA:α→Bool} {el:Ps α} {St:List α→World→Prop} {acc:List α} {lg dp:Bool} {l:bH} {n:Nat} {e:Ending} {W':World}(h:el l=.error n)(k:gh ρ W0 n e W'):um ρ W0 Be pA el St acc lg dp l e W':=by unfold um;rw[h];exact k
structure M3 {α:Type} (ρ:br) (W0:World) (Be pA:α→Bool) (el:Ps α) (fK:FuncId) (Bf:Array Value) (St:List α→World→Prop):Prop where
 xD:cy el
 en:∀args w,(callFunc fK args).run Tryz.prog w=.ok (.enter fK args) w
 keep:∀acc w w',St acc w→w.grownBy w' (some ρ.g)→W0.heap.size≤w.heap.size→St acc w'
 read:∀acc W l lg dp,acc.length≤5000→St acc W→bJ ρ W0 W l lg dp→Calls Tryz.prog fK Bf W (um ρ W0 Be pA el St acc lg dp l)
def gZ {α:Type}(ρ:br)(W0:World)(Be pA:α→Bool)(el:Ps α)(St:List α→World→Prop)(lg dp:Bool)(l:bH)(e:Ending)(W':World):Prop:=
 match dx el l with
 | .ok (xs,r)=>e=.returned (.tuple #[])∧St xs W'∧bJ ρ W0 W' r ((lg || xs.any Be)|| decide (64 < xs.length)) (dp || xs.any pA)
 | .error n=>gh ρ W0 n e W'
section
variable {α:Type} {ρ:br} {W0:World} {Be pA:α→Bool} {el:Ps α} {St:List α→World→Prop} {lg dp:Bool} {l:bH}
theorem gZ.ok {xs:List α} {r:bH} {W':World}(h:dx el l=.ok (xs,r))(hs:St xs W')(hd:bJ ρ W0 W' r ((lg || xs.any Be)|| decide (64 < xs.length)) (dp || xs.any pA)):gZ ρ W0 Be pA el St lg dp l (.returned (.tuple #[])) W':=by unfold gZ;rw[h];exact⟨rfl,hs,hd⟩
theorem gZ.err {n:Nat} {e:Ending} {W':World}(h:dx el l=.error n)(k:gh ρ W0 n e W'):gZ ρ W0 Be pA el St lg dp l e W':=by unfold gZ;rw[h];exact k
end
section
variable {α:Type} {l:bH}
theorem Xg {el:Ps α}(hs:cy el) {acc:List α} {l:bH}(h:av ax l=false):uw el acc l=.ok (acc,l):=by rw[pO hs,dK];simp only[h];rfl
theorem SL {el:Ps α}(hs:cy el) {acc:List α} {l:bH}(h:av ax l=true):uw el acc l=(do let y ← el;uw el (acc++ [y]):Ps (List α)) l.tail:=by rw[pO hs,dK];simp only[h,if_true]
end
theorem Bg {α:Type}(ρ:br)(W0:World)(Be pA:α→Bool)(el:Ps α)(fK:FuncId)(Bf:Array Value)(St:List α→World→Prop)(L:M3 ρ W0 Be pA el fK Bf St)(w:World)(l:bH)(lg dp:Bool)(h:bJ ρ W0 w l lg dp)(h0:St [] w)(aF:ρ.g < W0.heap.size):
  Calls Tryz.prog 72 #[ρ.ptr,.func (.func fK) #[] Bf] w (gZ ρ W0 Be pA el St lg dp l):=by
 have HH:=hid h;have hsm:=h.at_.small;have QJ:=h.at_.left.2;have en:=L.en;have NQ:=L.read [] w l lg dp (by simp) h0 h;have HL:=hid L;clear h h0 L;go_enter Tryz.func72,Tryz.ntmps72;go_wp2_with fail;refine NQ.mono ?_;clear NQ;intro e w1 hp;unfold um at hp;cases hx:el l with
 | error m=>rw[hx] at hp;obtain⟨rfl,hg⟩:=hp;have HF:=hid (show dx el l=.error m by rw[ze];exact ai hx);clear hx;go_wp2_with fail;exact ag rfl (gZ.err HF.out ⟨rfl,hg⟩)
 | ok z=>
   obtain⟨x,r⟩:=z;rw[hx] at hp;obtain⟨rfl,hs,hd⟩:=hp;have oI:=HL.out.xD.len hx;have HE:=hid (show dx el l=uw el [x] r by rw[ze];exact ak hx);have HS:=hid hs;have HD:=hid hd;clear hx hs hd HH;go_wp2_with fail;go_loopg [4] r.length (fun k u wr=>∃(acc:List α) (l':bH),0 < acc.length∧acc.length+l'.length≤5001∧l'.length≤k∧u=.int .i64 acc.length∧St acc wr∧bJ ρ W0 wr l' (lg || acc.any Be) (dp || acc.any pA)∧dx el l=uw el acc l');case atStart=>exact⟨[x],r,by simp,by simp;omega,Nat.le_refl _,rfl,HS.out,by simpa using HD.out,HE.out⟩
   case round=>
    obtain⟨acc,l',EH,akV,hk,rfl,hs,hd,he⟩:=hrel;have AJ:=hid hs;have jf:=hid hd;have rR:=hid he;have hm:=bX ρ wr l' (lg || acc.any Be) (dp || acc.any pA) hd.at_ ⟨#[44]⟩;rw[show(⟨#[44]⟩:ByteArray).data.toList=ax from rfl] at hm;clear hs hd he HS HD HE;have hsz:=jf.out.size;cases hh:av ax l'
    ·rw[hh,dm hh] at hm;have HF:=hid (rR.out.trans (Xg HL.out.xD hh));clear hh;go_wp2_with fail;refine hm.mono ?_;clear hm;rintro e w2 ⟨rfl,d⟩;have HS3:=hid (HL.out.keep _ _ _ AJ.out d.grown hsz);have jL:=hid (jf.out.trans d);clear d AJ jf rR;obtain⟨lg2,M4⟩:∃b:Bool,b=(lg || acc.any Be):=⟨_,rfl⟩;rw[← M4] at jL;have abv:=hid M4;clear M4;obtain⟨c0,c1,c2,c3,f1,f2,f3⟩:=jL.out.at_.facts;have po:=jL.out.size;have hst:=jL.out.at_.abu (lg2 || decide (64 < acc.length));have HS4:=hid (HL.out.keep _ _ _ HS3.out hst.grown po);have jX:=hid (jL.out.trans hst);clear hst;unfold br.ptr;cases uT:lg2
     ·rw[uT] at c2;have Zt:=hid uT;have hdec:decide ((acc.length:Int)> 64)=decide (64 < acc.length):=by rw[decide_eq_decide];omega
      rw[uT,Bool.false_or] at HS4 jX;have HX:=hid (show gZ ρ W0 Be pA el St lg dp l (.returned (.tuple #[])) _ from gZ.ok HF.out HS4.out (by rw[← abv.out,Zt.out,Bool.false_or];exact jX.out));clear uT;generalize decide (64 < acc.length)=bd at*;go_wp2_with fail;go_end0;exact HX.out
     ·rw[uT] at c2;have Zt:=hid uT;rw[uT,Bool.true_or] at HS4 jX;have HX:=hid (show gZ ρ W0 Be pA el St lg dp l (.returned (.tuple #[])) _ from gZ.ok HF.out HS4.out (by rw[← abv.out,Zt.out,Bool.true_or];exact jX.out));clear uT;go_wp2_with fail;go_end0;exact HX.out
    ·rw[hh,dy hh] at hm;have HF:=hid (rR.out.trans (SL HL.out.xD hh));have hhl:=om hh;clear hh;go_wp2_with fail;refine hm.mono ?_;clear hm;rintro e w2 ⟨rfl,d⟩;have NQ:=HL.out.read acc w2 l'.tail (lg || acc.any Be) (dp || acc.any pA) (by omega) (HL.out.keep _ _ _ AJ.out d.grown hsz) (jf.out.trans d);clear d AJ jf rR;go_wp2_with fail;refine NQ.mono ?_;clear NQ;intro e w3 hp;unfold um at hp;cases hx:el l'.tail with
     | error m=>rw[hx] at hp;obtain⟨rfl,hg⟩:=hp;have HG:=hid (HF.out.trans (ai hx));clear hx;go_wp2_with fail;exact ag rfl (gZ.err HG.out ⟨rfl,hg⟩)
     | ok z=>
       obtain⟨x2,r2⟩:=z;rw[hx] at hp;obtain⟨rfl,hs,hd⟩:=hp;have akW:=HL.out.xD.len hx;have HG:=hid (HF.out.trans (ak hx));have M5:=hid hs;have vx:=hid hd;clear hx hs hd;go_wp2_with fail;go_roundg (r2.length);case measure=>omega
       case rel=>exact⟨acc++ [x2],r2,by simp,by simp;omega,Nat.le_refl _,by simp,M5.out,by have:=vx.out;simpa [List.any_append,Bool.or_assoc] using this,HG.out⟩
def ru {α:Type}(ρ:br)(W0:World)(pA:α→Bool)(el:Ps α)(St:List α→World→Prop)(acc:List α)(lg dp:Bool)(l:bH)(e:Ending)(W':World):Prop:=match el l with
 | .ok (x,r)=>e=.returned (.tuple #[])∧St (acc++ [x]) W'∧bJ ρ W0 W' r lg (dp || pA x)
 | .error n=>gh ρ W0 n e W'
theorem ru.ok {α:Type} {ρ:br} {W0:World} {pA:α→Bool} {el:Ps α} {St:List α→World→Prop} {acc:List α} {lg dp:Bool} {l r:bH} {x:α} {W':World}(h:el l=.ok (x,r))(hs:St (acc++ [x]) W')(hd:bJ ρ W0 W' r lg (dp || pA x)):ru ρ W0 pA el St acc lg dp l (.returned (.tuple #[])) W':=by unfold ru;rw[h];exact⟨rfl,hs,hd⟩
theorem ru.err {α:Type} {ρ:br} {W0:World} {pA:α→Bool} {el:Ps α} {St:List α→World→Prop} {acc:List α} {lg dp:Bool} {l:bH} {n:Nat} {e:Ending} {W':World}(h:el l=.error n)(k:gh ρ W0 n e W'):ru ρ W0 pA el St acc lg dp l e W':=by unfold ru;rw[h];exact k
structure M6 {α:Type} (ρ:br) (W0:World) (pA:α→Bool) (el:Ps α) (fK:FuncId) (Bf:Array Value) (St:List α→World→Prop):Prop where
 xD:cy el
 en:∀args w,(callFunc fK args).run Tryz.prog w=.ok (.enter fK args) w
 keep:∀acc w w',St acc w→w.grownBy w' (some ρ.g)→W0.heap.size≤w.heap.size→St acc w'
 read:∀acc W l lg dp,acc.length≤5000→St acc W→bJ ρ W0 W l lg dp→Calls Tryz.prog fK Bf W (ru ρ W0 pA el St acc lg dp l)
def jx {α:Type}(ρ:br)(W0:World)(pA:α→Bool)(el:Ps α)(St:List α→World→Prop)(lg dp:Bool)(l:bH)(e:Ending)(W':World):Prop:=
 match dx el l with
 | .ok (xs,r)=>e=.returned (.tuple #[])∧St xs W'∧bJ ρ W0 W' r (lg || decide (64 < xs.length)) (dp || xs.any pA)
 | .error n=>gh ρ W0 n e W'
section
variable {α:Type} {ρ:br} {W0:World} {pA:α→Bool} {el:Ps α} {St:List α→World→Prop} {lg dp:Bool} {l:bH}
theorem jx.ok {xs:List α} {r:bH} {W':World}(h:dx el l=.ok (xs,r))(hs:St xs W')(hd:bJ ρ W0 W' r (lg || decide (64 < xs.length)) (dp || xs.any pA)):jx ρ W0 pA el St lg dp l (.returned (.tuple #[])) W':=by unfold jx;rw[h];exact⟨rfl,hs,hd⟩
theorem jx.err {n:Nat} {e:Ending} {W':World}(h:dx el l=.error n)(k:gh ρ W0 n e W'):jx ρ W0 pA el St lg dp l e W':=by unfold jx;rw[h];exact k
end
theorem Dt {α:Type}(xs:List α)(b:Bool):(b || xs.any fun _=>false)=b:=by rw[show(xs.any fun _=>false)=false by simp];simp
theorem nP {α:Type}(ρ:br)(W0:World)(pA:α→Bool)(el:Ps α)(fK:FuncId)(Bf:Array Value)(St:List α→World→Prop)(L:M6 ρ W0 pA el fK Bf St)(w:World)(l:bH)(lg dp:Bool)(h:bJ ρ W0 w l lg dp)(h0:St [] w)(aF:ρ.g < W0.heap.size):
  Calls Tryz.prog 72 #[ρ.ptr,.func (.func fK) #[] Bf] w (jx ρ W0 pA el St lg dp l):=by
 have LL:M3 ρ W0 (fun _=>false) pA el fK Bf St:=⟨L.xD,L.en,L.keep,fun acc W l lg dp hn hs hd=>(L.read acc W l lg dp hn hs hd).mono fun e W' hp=>by
  unfold ru at hp
  cases hx:el l with
  | error m=>rw[hx] at hp;exact um.err hx hp
  | ok z=>
    obtain⟨x,r⟩:=z
    rw[hx] at hp
    obtain⟨rfl,hs,hd⟩:=hp
    exact um.ok hx hs (by rw[Bool.or_false];exact hd)⟩
 refine(Bg ρ W0 (fun _=>false) pA el fK Bf St LL w l lg dp h h0 aF).mono fun e W' hp=>?_
 unfold gZ at hp;cases hx:dx el l with
 | error m=>rw[hx] at hp;exact jx.err hx hp
 | ok z=>obtain⟨xs,r⟩:=z;rw[hx] at hp;obtain⟨rfl,hs,hd⟩:=hp;rw[Dt] at hd;exact jx.ok hx hs hd
def Cu (v:Val):Value:=.agg (fI v).toArray
def Xh (ρ:br)(W:World)(big:Bool)(σ:aW)(e:Ending)(w':World):Prop:=∃v:Val,e=.returned (Cu v)∧dV ρ W w' (ae jq σ) big∧aK jq σ v
def M7:Obj:=.cells #[.int .u8 0,.int .i64 0,.string ⟨#[]⟩] 33
theorem mS {w:World} {q:Nat} {T:TypeId} {a b c:Value}(h:au w q T #[a,b,c]):w.cell? ⟨q,0,none⟩=some a∧w.cell? ⟨q,1,none⟩=some b∧w.cell? ⟨q,2,none⟩=some c:=⟨h.cell 0,h.cell 1,h.cell 2⟩
theorem wk {w:World} {q:Nat} {T:TypeId} {cs:Array Value}(h:au w q T cs):w.frozen? ⟨q,0,none⟩=false∧w.frozen? ⟨q,1,none⟩=false∧w.frozen? ⟨q,2,none⟩=false:=⟨h.frozen 0,h.frozen 1,h.frozen 2⟩
def qO (w:World)(q:Nat)(v:Val):World:=((w.setCell ⟨q,0,none⟩ (.int .u8 v.k)).setCell ⟨q,1,none⟩ (.int .i64 v.n)).setCell ⟨q,2,none⟩ (.string v.s)
theorem vq {w:World} {q:Nat} {T:TypeId} {a b c:Value}(h:au w q T #[a,b,c])(v:Val):au (qO w q v) q T (fI v).toArray:=by have:=((h.cg 0 (.int .u8 v.k)).cg 1 (.int .i64 v.n)).cg 2 (.string v.s);simp only[List.setIfInBounds_toArray,List.set_cons_zero,List.set_cons_succ] at this;exact this
theorem dV.qO {ρ:br} {W w:World} {σ:aW} {big:Bool} {q:Nat}(h:dV ρ W w σ big)(hW:ρ.g < W.heap.size)(hq:W.heap.size≤q)(v:Val):dV ρ W (qO w q v) σ big:=((h.far hW hq 0 _).far hW hq 1 _).far hW hq 2 _
theorem pV (ρ:br)(w:World)(σ:aW)(big:Bool)(h:ρ.at w σ big):
  Calls Tryz.prog 56 #[ρ.ptr] w (Xh ρ w big σ):=by
 have aF:=h.jt;have hb:=aa w M7;have h0:=h.later hb;have HQ:=hid (au.new w 33 #[.int .u8 0,.int .i64 0,.string ⟨#[]⟩]);have hsz:(w.alloc M7).heap.size=w.heap.size+1:=by simp
 unfold M7 at*;cases hn:σ.head cE
 ·have hm:=eG ρ _ σ big h0 ⟨#[110,117,108,108]⟩ hn;have HN:=hid hn;clear hn;cases hs:σ.head fu;all_goals
   have HS:=hid hs;have WV:=fun W' h'=>dL ρ W' σ big h' ⟨#[45]⟩
   rw[show σ.head (⟨#[45]⟩:ByteArray).data.toList=_ from hs] at WV;clear hs;go_enter Tryz.func56,Tryz.ntmps56;go_wp2_with fail;refine hm.mono ?_;rintro e w1 ⟨rfl,d1⟩;go_wp2_with fail;refine(WV _ d1.at_).mono ?_;rintro e w2 ⟨rfl,d2⟩;go_wp2_with fail;refine(gM ρ _ _ big d2.at_).mono ?_;rintro e w3 ⟨k,JD,Af,rfl,d3,Zh⟩;have HE:=hid (WK HN.out Zh);have fy:=d3.blk (d2.blk (d1.blk HQ.out (by omega)) (by have:=d1.size;omega)) (by have:=d1.size;have:=d2.size;omega);have HD:=hid ((((dV.aL h hb).trans d1).trans d2).trans d3);have rj:=hid fy;obtain⟨y0,y1,y2⟩:=mS fy;obtain⟨z0,z1,z2⟩:=wk fy;have hmul: -9223372036854775808≤ -k∧ -k≤9223372036854775807:=by omega
   clear fy d1 d2 d3 Zh hm WV;go_wp2_with fail
  ·skip
   have HP:=vq rj.out ⟨2,k,⟨#[]⟩⟩;have HR:=mS HP;unfold qO at HR;obtain⟨r0,r1,r2⟩:=HR;refine bodyPost_ret (v:=Cu ⟨2,k,⟨#[]⟩⟩) ?_ rfl ?_
   ·simp[results,Tryz.results56,go_sem,r0,r1,r2];rfl
   ·refine⟨⟨2,k,⟨#[]⟩⟩,rfl,?_,by have:=HE.out.2;rw[HS.out] at this;exact this⟩;rw[HE.out.1];exact HD.out.qO aF (Nat.le_refl _) ⟨2,k,⟨#[]⟩⟩
  ·skip
   have HP:=vq rj.out ⟨2, -k,⟨#[]⟩⟩;have HR:=mS HP;unfold qO at HR;obtain⟨r0,r1,r2⟩:=HR;refine bodyPost_ret (v:=Cu ⟨2, -k,⟨#[]⟩⟩) ?_ rfl ?_
   ·simp[results,Tryz.results56,go_sem,r0,r1,r2];rfl
   ·refine⟨⟨2, -k,⟨#[]⟩⟩,rfl,?_,by have:=HE.out.2;rw[HS.out] at this;exact this⟩;rw[HE.out.1];exact HD.out.qO aF (Nat.le_refl _) ⟨2, -k,⟨#[]⟩⟩
 ·have hm:=mO ρ _ σ big h0 ⟨#[110,117,108,108]⟩ hn;have HE:=hid (Sj hn);clear hn;go_enter Tryz.func56,Tryz.ntmps56;go_wp2_with fail;refine hm.mono ?_;rintro e w1 ⟨rfl,d1⟩;have fy:=d1.blk HQ.out (by omega);have HD:=hid ((dV.aL h hb).trans d1);have rj:=hid fy;obtain⟨y0,y1,y2⟩:=mS fy;obtain⟨z0,z1,z2⟩:=wk fy;clear fy d1 hm;go_wp2_with fail;have HP:=vq rj.out ⟨0,0,⟨#[]⟩⟩;have HR:=mS HP;unfold qO at HR;obtain⟨r0,r1,r2⟩:=HR;refine bodyPost_ret (v:=Cu ⟨0,0,⟨#[]⟩⟩) ?_ rfl ?_
  ·simp[results,Tryz.results56,go_sem,r0,r1,r2];rfl
  ·refine⟨⟨0,0,⟨#[]⟩⟩,rfl,?_,HE.out.2⟩;rw[HE.out.1];exact HD.out.qO aF (Nat.le_refl _) ⟨0,0,⟨#[]⟩⟩
theorem Il (ρ:br)(w:World)(σ:aW)(big:Bool)(h:ρ.at w σ big):
  Calls Tryz.prog 52 #[ρ.ptr] w (SD gL ρ w big mL σ):=by
 have aF:=h.jt;have hb:=aa w (.cells (aj [aX]) 9);go_enter Tryz.func52,Tryz.ntmps52;go_wp2_with fail;refine(bk ρ _ σ big (h.later hb) [aX] w.heap.size 1 rfl (au.new w _ _) (by omega) (by omega)).mono ?_;rintro e w1 ⟨rfl,d1⟩;go_wp2_with fail;refine(AZ ρ _ _ big d1.at_).mono ?_;rintro e w2 ⟨l,y,rfl,hy,d2,iF⟩;unfold eP;go_wp2_with fail;have b3:=aa w2 (.cells (aj [aq]) 9);refine(bk ρ _ _ _ (d2.at_.later b3) [aq] w2.heap.size 1 rfl (au.new w2 _ _) (by have:=d2.lt;omega) (by omega)).mono ?_;rintro e w3 ⟨rfl,d3⟩;simp only[aw] at d1 d2 d3 iF;go_wp2_with fail;go_ret;have hr:=WN iF;refine⟨l,y,rfl,El.lies.more (El.lies.grown (El.lies.later hy b3) d3.grown (by have:=d1.lt;omega)) (by have:=d1.size;simp at this;omega),?_,hr.2⟩;rw[hr.1];exact(((dV.aL h hb).trans d1).trans (d2.later b3)).trans d3
def M8 (y:ByteArray×Int):List Value:=[.string y.1,.int .u8 y.2]
def Xi (y:ByteArray×Int):Value:=.agg (M8 y).toArray
def coZ:Obj:=.cells #[.string ⟨#[]⟩,.int .u8 0] 71
theorem gP {w:World} {q:Nat} {T:TypeId} {a b:Value}(h:au w q T #[a,b]):w.cell? ⟨q,0,none⟩=some a∧w.cell? ⟨q,1,none⟩=some b∧w.frozen? ⟨q,0,none⟩=false∧w.frozen? ⟨q,1,none⟩=false:=⟨h.cell 0,h.cell 1,h.frozen 0,h.frozen 1⟩
theorem yq (ρ:br)(w:World)(σ:aW)(big:Bool)(h:ρ.at w σ big):
  Calls Tryz.prog 89 #[ρ.ptr] w (xz pJ Xi (fun _=>false) ρ w big eX σ):=by
 have aF:=h.jt;have hb:=aa w coZ;have h0:=h.later hb;have HQ:=hid (au.new w 71 #[.string ⟨#[]⟩,.int .u8 0]);have hsz:(w.alloc coZ).heap.size=w.heap.size+1:=by simp
 unfold coZ at*;have one:=ki [jK,gm,gS] (ae aN σ);have cs:(ae aN σ).one [jK,gm,gS]=jK∨(ae aN σ).one [jK,gm,gS]=gm∨(ae aN σ).one [jK,gm,gS]=gS∨((ae aN σ).one [jK,gm,gS]=[]∧∃m,ae (dC [jK,gm,gS]) (ae aN σ)=.bad m):=by
  rcases jC [jK,gm,gS] (ae aN σ)with ⟨s,hs,h1,_⟩|⟨h1,h2,_⟩
  ·simp only[List.mem_cons,List.not_mem_nil,or_false] at hs;rw[h1];rcases hs with rfl | rfl | rfl <;> simp
  ·exact .inr (.inr (.inr ⟨h1,_,h2⟩))
 have ONE:=hid one;have CS:=hid cs;clear one cs;go_enter Tryz.func89,Tryz.ntmps89;go_wp2_with fail;refine(dY ρ _ σ big h0).mono ?_;rintro e w2 ⟨n,rfl,d2,eh⟩;have hs2:=d2.size;go_wp2_with fail;have b3:=ah.then (aa w2 (.cells #[.string n,.int .u8 0] 71)) (aa _ (.cells (aj [jK,gm,gS]) 9))
 have hB:au ((w2.alloc (.cells #[.string n,.int .u8 0] 71)).alloc (.cells (aj [jK,gm,gS]) 9)) (w2.heap.size+1) 9 (aj [jK,gm,gS]):=by have:=au.new (w2.alloc (.cells #[.string n,.int .u8 0] 71)) 9 (aj [jK,gm,gS]);rwa [World.size_alloc] at this
 refine(gV ρ _ _ big (d2.at_.later b3) [jK,gm,gS] (w2.heap.size+1) 3 rfl hB (by have:=d2.lt;omega) (by omega)).mono ?_;rintro e w3 ⟨rfl,d3⟩;have HX:=((au.new w2 71 #[.string n,.int .u8 0]).alloc (.cells (aj [jK,gm,gS]) 9)).grown d3.grown (by simp;have:=d2.lt;omega);have fy:=((d2.blk HQ.out (by omega)).later b3).grown d3.grown (by simp;omega);have HD:=hid (((dV.aL h hb).trans d2).later b3 |>.trans d3);have pC:=hid HX;have rj:=hid fy;have OO:=hid eh;have hx3:=HX.lt;obtain⟨x0,x1,xf0,xf1⟩:=gP HX;clear HX fy d2 d3 b3 hB eh h0 hb HQ;rcases CS.out with hc | hc | hc |⟨hc,rv⟩
 ·rw[hc];have HC:=hid hc;clear hc;have sk:=pC.out.cg 1 (.int .u8 2);simp only[List.setIfInBounds_toArray,List.set_cons_zero,List.set_cons_succ] at sk;have mE:=rj.out.far (p:=⟨w2.heap.size,1,none⟩) (by simp;omega) (.int .u8 2);have jX:=hid (HD.out.far aF (show w.heap.size≤w2.heap.size by omega) 1 (.int .u8 2));have Bc:=hid mE;obtain⟨a0,a1,af0,af1⟩:=gP sk;obtain⟨y0,y1,z0,z1⟩:=gP mE;clear sk mE;unfold strOf jK;go_wp2_with fail;have HP:=(Bc.out.cg 0 (.string n)).cg 1 (.int .u8 2);simp only[List.setIfInBounds_toArray,List.set_cons_zero,List.set_cons_succ] at HP;obtain⟨r0,r1,_,_⟩:=gP HP;refine bodyPost_ret (v:=Xi (n,2)) ?_ rfl ?_
  ·simp[results,Tryz.results89,go_sem,r0,r1];rfl
  ·have hcc:=qK OO.out ONE.out;rw[HC.out] at hcc;refine⟨(n,2),(n,2),rfl,rfl,?_,hcc.2⟩;rw[hcc.1,Bool.or_false];exact(jX.out.far aF (Nat.le_refl _) 0 (.string n)).far aF (Nat.le_refl _) 1 (.int .u8 2)
 ·rw[hc];have HC:=hid hc;clear hc;have sk:=pC.out.cg 1 (.int .u8 1);simp only[List.setIfInBounds_toArray,List.set_cons_zero,List.set_cons_succ] at sk;have mE:=rj.out.far (p:=⟨w2.heap.size,1,none⟩) (by simp;omega) (.int .u8 1);have jX:=hid (HD.out.far aF (show w.heap.size≤w2.heap.size by omega) 1 (.int .u8 1));have Bc:=hid mE;obtain⟨a0,a1,af0,af1⟩:=gP sk;obtain⟨y0,y1,z0,z1⟩:=gP mE;clear sk mE;unfold strOf gm;go_wp2_with fail;have HP:=(Bc.out.cg 0 (.string n)).cg 1 (.int .u8 1);simp only[List.setIfInBounds_toArray,List.set_cons_zero,List.set_cons_succ] at HP;obtain⟨r0,r1,_,_⟩:=gP HP;refine bodyPost_ret (v:=Xi (n,1)) ?_ rfl ?_
  ·simp[results,Tryz.results89,go_sem,r0,r1];rfl
  ·have hcc:=qK OO.out ONE.out;rw[HC.out] at hcc;refine⟨(n,1),(n,1),rfl,rfl,?_,hcc.2⟩;rw[hcc.1,Bool.or_false];exact(jX.out.far aF (Nat.le_refl _) 0 (.string n)).far aF (Nat.le_refl _) 1 (.int .u8 1)
 ·rw[hc];have HC:=hid hc;clear hc;have sk:=pC.out.cg 1 (.int .u8 3);simp only[List.setIfInBounds_toArray,List.set_cons_zero,List.set_cons_succ] at sk;have mE:=rj.out.far (p:=⟨w2.heap.size,1,none⟩) (by simp;omega) (.int .u8 3);have jX:=hid (HD.out.far aF (show w.heap.size≤w2.heap.size by omega) 1 (.int .u8 3));have Bc:=hid mE;obtain⟨a0,a1,af0,af1⟩:=gP sk;obtain⟨y0,y1,z0,z1⟩:=gP mE;clear sk mE;unfold strOf gS;go_wp2_with fail;have HP:=(Bc.out.cg 0 (.string n)).cg 1 (.int .u8 3);simp only[List.setIfInBounds_toArray,List.set_cons_zero,List.set_cons_succ] at HP;obtain⟨r0,r1,_,_⟩:=gP HP;refine bodyPost_ret (v:=Xi (n,3)) ?_ rfl ?_
  ·simp[results,Tryz.results89,go_sem,r0,r1];rfl
  ·have hcc:=qK OO.out ONE.out;rw[HC.out] at hcc;refine⟨(n,3),(n,3),rfl,rfl,?_,hcc.2⟩;rw[hcc.1,Bool.or_false];exact(jX.out.far aF (Nat.le_refl _) 0 (.string n)).far aF (Nat.le_refl _) 1 (.int .u8 3)
 ·have age:=hid rv;clear rv;rw[hc];have HC:=hid hc;clear hc;have sk:=pC.out;have mE:=rj.out;have jX:=HD;have Bc:=hid mE;obtain⟨a0,a1,af0,af1⟩:=gP sk;obtain⟨y0,y1,z0,z1⟩:=gP mE;clear sk mE;unfold strOf;go_wp2_with fail;have HP:=(Bc.out.cg 0 (.string n)).cg 1 (.int .u8 0);simp only[List.setIfInBounds_toArray,List.set_cons_zero,List.set_cons_succ] at HP;obtain⟨r0,r1,_,_⟩:=gP HP;refine bodyPost_ret (v:=Xi (n,0)) ?_ rfl ?_
  ·simp[results,Tryz.results89,go_sem,r0,r1];rfl
  ·have hcc:=qK OO.out ONE.out;have hb2:ae eX σ=ae (dC [jK,gm,gS]) (ae aN σ):=hcc.1;obtain⟨m,hm⟩:=age.out;refine⟨(n,0),(n,0),rfl,rfl,?_,lT (hb2.trans hm) _⟩;rw[hb2,Bool.or_false];exact(jX.out.far aF (Nat.le_refl _) 0 (.string n)).far aF (Nat.le_refl _) 1 (.int .u8 0)
end Go.Proofs.YtcneefmaghoejaaGreatDoor
