/- Parts of the proof. -/
import Derived.Test.YtehhdlgjfdnafaaGreatDoorXF16
import Derived.Test.YtehhdlgjfdnafaaGreatDoorXF17
import Derived.Test.YtehhdlgjfdnafaaGreatDoorXF19
namespace Go.Proofs.YtehhdlgjfdnafaaGreatDoor
variable{p:Prop}
set_option maxHeartbeats 90000000
set_option maxRecDepth 100000
open Go.Lib (hid)
open Go.ChangeShapes Go.WideShapes Go.ChangeAt Go.RowKit List
set_option linter.unusedVariables false
set_option linter.unusedSimpArgs false
def RQ (ρ:bw)(W:World)(lg dp:Bool)(l:aK)(e:Ending)(w':World):Prop:=
 GP ρ W eD l (λ t r v w'=>∃y:Ex,v=eb y/\t.at_ w' (eI W.heap.size w') y/\bh ρ W w' r lg (dp || decide (32 < t.depth))) e w'
variable{ρ:bw}{w W:World}{lg dp b:Bool}{l r:aK}{t:Tr}{y:Ex}
theorem Bi(hg:ρ.g < w.heap.size)(hd:bh ρ w W r lg b)(hb:b=(dp || decide (32 < t.depth)))(ht:t.at_ W (eI (w.heap.size+1) W) y)(hp:eD l=.ok (t,r)):RQ ρ w lg dp l (.returned (eb y)) (W.setRow w.heap.size (aU y).toArray):=
 GP.ok hp ⟨y,rfl,(Tr.at_.keep (iZ W (Nat.lt_succ_self _) _) t y ht).more (Nat.le_succ _),hb▸hd.own hg (cP W w.heap.size _) (λ G e=>by injection e with e;omega)⟩
theorem bw.gh.deep(h:ρ.gh w l lg dp)(b:Bool):bh ρ w (w.setCell ⟨ρ.g,3,none⟩ (.bool b)) l lg b:=by have hB:=av.cJ h.blk 3 (.bool b);exact⟨h.set hB (bE (aD (Below.refl _ _)) 3 _) h.of,bE (aD (Below.refl _ _)) 3 _⟩
theorem bw.gh.amu(h:ρ.gh w l lg dp)(b:Bool):bh ρ w (w.setCell ⟨ρ.g,2,none⟩ (.bool b)) l b dp:=by have hB:=av.cJ h.blk 2 (.bool b);exact⟨h.set hB (bE (aD (Below.refl _ _)) 2 _) h.of,bE (aD (Below.refl _ _)) 2 _⟩
theorem lI (ρ:bw)(w:World)(l:aK)(lg dp:Bool)(h:ρ.gh w l lg dp):
  Calls Tryz.prog 120 #[ρ.ptr] w (RQ ρ w lg dp l):=by
 have br:=h.od;have hsm:=h.small;have Xl:=h.left.2;have hb:=aa w (.cells dT 36);have HQ:=hid (av.new w 36 dT);have HD:=hid (bh.aF h hb);have hm:=arM ρ _ l lg dp (h.later hb);have hsz:(w.alloc (.cells dT 36)).heap.size=w.heap.size+1:=by simp
 clear h hb;unfold dT at hm hsz;go_enter Tryz.func120,Tryz.ntmps120;go_wp2_with fail;refine hm.mono ?_;clear hm;intro e w2 hp;rcases hp.cases with ⟨t,r,v,aC,rfl,y,rfl,hat,d2⟩|⟨m,au,rfl,hg⟩;case inr=>have HG:=hid HD.out.grown;have HE:=hid au;clear hp HQ HD hsz au;go_wp2_with fail;exact aj rfl (GP.err HE.out ⟨rfl,ai HG.out hg⟩)
 have hs2:w.heap.size+1<=w2.heap.size:=by have:=d2.size;omega
 have hx:=aa w2 (.cells (aU y).toArray 36);have eZ:=hid ((HD.out.trans d2).later hx);have ku:=hid ((d2.blk HQ.out Taa).later hx);have rN:=hid (av.new w2 36 (aU y).toArray);have qE:=(hat.more (show w.heap.size+1<=_ by omega)).later hx;have zz:=hid qE;obtain⟨aeg,ayw⟩:=aaT l t r aC;have hgd:=Tr.alk (w:=w2.alloc (.cells (aU y).toArray 36)) (S:=eI (w.heap.size+1) _) (λ b hb=>hb.2) t y qE aeg Taa _ (Below.refl _ _);have jy:=hid aC;have hxg:w2.heap.size≠ρ.g:=by omega
 have hqg:w.heap.size < w2.heap.size:=by omega
 clear hp hat qE d2 aC hx HQ HD hsz aeg;unfold eb at*;unfold aU at*;go_upto_region 2 with fail;generalize (w2.alloc _)=W2 at*;generalize w2.heap.size=qx at*;obtain⟨c0,c1,c2,c3,f1,f2,f3⟩:=eZ.out.at_.facts;cases PU:dp
 ·rw[PU] at c3;have HDP:=hid PU;clear PU;obtain⟨k0,k1,k2,k3,k4,k5,k6⟩:=fj (y:=y) rN.out;unfold bw.ptr;go_wp2_with fail;refine hgd.mono ?_;clear hgd;rintro e w3 ⟨rfl,b3⟩;have kt:=hid (eZ.out.later b3);have nh:=hid (ku.out.later b3);have JM:=hid (rN.out.later b3);have HT3:=hid (zz.out.later b3);clear b3 eZ ku rN zz c0 c1 c2 c3 f1 f2 f3 k0 k1 k2 k3 k4 k5 k6;obtain⟨c0,c1,c2,c3,f1,f2,f3⟩:=kt.out.at_.facts;have hst:=kt.out.at_.deep (decide (32 < t.depth));have qh:=hid (kt.out.trans hst);have Fy:=hid (nh.out.far (p:=⟨ρ.g,3,none⟩) Tae (.bool (decide (32 < t.depth))));have Mm:=hid (JM.out.far (p:=⟨ρ.g,3,none⟩) Tae (.bool (decide (32 < t.depth))));have HT4:=hid (HT3.out.set (q:=ρ.g) Taa 3 (.bool (decide (32 < t.depth))));have hdec:decide ((t.depth:Int)> 32)=decide (32 < t.depth):=by rw[decide_eq_decide];omega
  generalize BH:decide (32 < t.depth)=bd at*;have HBD:=hid BH;clear BH hst kt nh JM HT3;go_wp2_with (first
   |(refine wpList_load_row rfl 36 (.tmp 3) rfl qx rfl 36 (aU y).toArray (0,0) _ Mm.out Tryz.underlying36 rfl aI ?_)
   |(refine wpList_store_row rfl 36 (.tmp 2) (.tmp 18) rfl w.heap.size (aU y).toArray rfl rfl 36 dT Fy.out aI rfl (cV _) ?_
     have HR:=hid (Fy.out.row (aU y).toArray)))
  refine bodyPost_ret (v:=eb y) (results_cell_row Tryz.results120 _ _ w.heap.size 36 (aU y).toArray (0,0) _ rfl HR.out Tryz.underlying36 rfl aI) rfl ?_;exact Bi br qh.out (by rw[HDP.out];exact HBD.out.symm) HT4.out jy.out
 ·rw[PU] at c3;have HDP:=hid PU;clear PU hgd;have hst:=eZ.out.at_.deep true;have qh:=hid (eZ.out.trans hst);have Fy:=hid (ku.out.far (p:=⟨ρ.g,3,none⟩) Tae (.bool true));have Mm:=hid (rN.out.far (p:=⟨ρ.g,3,none⟩) Tae (.bool true));have HT4:=hid (zz.out.set (q:=ρ.g) Taa 3 (.bool true));clear hst eZ ku rN zz;unfold aU at Mm;unfold bw.ptr;go_wp2_with (first
   |(refine wpList_load_row rfl 36 (.tmp 3) rfl qx rfl 36 (aU y).toArray (0,0) _ Mm.out Tryz.underlying36 rfl aI ?_)
   |(refine wpList_store_row rfl 36 (.tmp 2) (.tmp 18) rfl w.heap.size (aU y).toArray rfl rfl 36 dT Fy.out aI rfl (cV _) ?_
     have HR:=hid (Fy.out.row (aU y).toArray)))
  refine bodyPost_ret (v:=eb y) (results_cell_row Tryz.results120 _ _ w.heap.size 36 (aU y).toArray (0,0) _ rfl HR.out Tryz.underlying36 rfl aI) rfl ?_;exact Bi br qh.out (by rw[HDP.out];rfl) HT4.out jy.out
def E1 (ρ:bw)(W:World)(lg dp:Bool)(s:List UInt8)(l:aK)(e:Ending)(w':World):Prop:=
 GP ρ W (fU s) l (λ ts r v w'=>∃y:Sl,v=fN y/\fy.sl w' (eI W.heap.size w') y ts/\bh ρ W w' r lg (dp || di ts)) e w'
variable{s:List UInt8}
theorem Vk(h:ar s l=false):fU s l=.ok ([],l):=by unfold fU;exact Zgp
theorem PV(h:ar s l=true):fU s l=(do let x <- eD;return [x]:Ps (List Tr)) l.tail:=by unfold fU;exact Zgn
theorem xp (ρ:bw)(w:World)(l:aK)(lg dp:Bool)(h:ρ.gh w l lg dp)(s:List UInt8):
  Calls Tryz.prog 122 #[ρ.ptr,.string ⟨s.toArray⟩] w (E1 ρ w lg dp s l):=by
 have br:=h.od;have hm:=bz ρ w l lg dp h ⟨s.toArray⟩;rw[show(⟨s.toArray⟩:ByteArray).data.toList=s by simp] at hm;cases hh:ar s l
 ·rw[hh,cy hh] at hm;have HE:=hid (Vk hh);clear h hh;go_enter Tryz.func122,Tryz.ntmps122;go_wp2_with fail;refine hm.mono ?_;clear hm;rintro e w1 ⟨rfl,d⟩;go_wp2_with fail;go_ret;exact GP.ok HE.out ⟨Sl.nil,rfl,fy.nT _ _,by rw[show di []=false from rfl,Bool.or_false];exact d⟩
 ·rw[hh,cE hh] at hm;have HE:=hid (PV hh);clear h hh;go_enter Tryz.func122,Tryz.ntmps122;go_wp2_with fail;refine hm.mono ?_;clear hm;rintro e w1 ⟨rfl,d⟩;go_wp2_with fail;refine(lI ρ w1 l.tail lg dp d.at_).mono ?_;intro e w2 hp;rcases hp.cases with ⟨t,r,v,aC,rfl,y,rfl,hat,d2⟩|⟨m,au,rfl,hg⟩
  ·have hx:=aa w2 (.cells (aU y).toArray 36);have hs1:=d.size;have hs2:=d2.size;have HS:=hid (YL (S:=eI w.heap.size (w2.alloc (.cells (aU y).toArray 36))) (av.new w2 36 (aU y).toArray) ⟨by omega,by simp⟩ ((hat.more hs1).later hx));have HD:=hid ((d.trans d2).later hx);have jy:=hid (HE.out.trans (ag aC));clear hp aC hat d d2 hx hs1 hs2;unfold eb;unfold aU at*;go_wp2_with fail;go_ret;refine GP.ok (x:=[t]) (r:=r) (jy.out.trans rfl) ⟨⟨some ⟨w2.heap.size,0,none⟩,1,1⟩,rfl,HS.out,?_⟩;have hdb:di [t]=decide (32 < t.depth):=by simp[di]
   rw[hdb];exact HD.out
  ·have HG:=hid d.grown;have HF:=hid (HE.out.trans (ak au));clear hp au d;go_wp2_with fail;exact aj rfl (GP.err HF.out ⟨rfl,ai HG.out hg⟩)
variable{α:Type}
def vW(ρ:bw)(W0:World)(DU qM:α->Bool)(el:Ps α)(St:List α->World->Prop)(acc:List α)(lg dp:Bool)(l:aK)(e:Ending)(W':World):Prop:=match el l with
 | .ok (x,r)=>e=.returned (.tuple #[])/\St (acc++ [x]) W'/\bh ρ W0 W' r (lg || DU x) (dp || qM x)
 | .error n=>iE ρ W0 n e W'
variable{DU qM:α->Bool}{el:Ps α}{St:List α->World->Prop}{x:α}{W':World}
theorem vW.ok{W0:World}    {acc:List α}    (h:el l=.ok (x,r))(hs:St (acc++ [x]) W')(hd:bh ρ W0 W' r (lg || DU x) (dp || qM x)):vW ρ W0 DU qM el St acc lg dp l (.returned (.tuple #[])) W':=by unfold vW;rw[h];exact⟨rfl,hs,hd⟩
variable{n:Nat}{e:Ending}
theorem vW.err{W0:World}    {acc:List α}     (h:el l=.error n)(k:iE ρ W0 n e W'):vW ρ W0 DU qM el St acc lg dp l e W':=by unfold vW;rw[h];exact k
structure agS {α:Type} (ρ:bw) (W0:World) (DU qM:α->Bool) (el:Ps α) (fK:FuncId) (mf:Array Value) (St:List α->World->Prop):Prop where
 Vl:cU el
 en:∀args w,(callFunc fK args).run Tryz.prog w=.ok (.enter fK args) w
 keep:∀acc w w',St acc w->w.grownBy w' (some ρ.g)->W0.heap.size<=w.heap.size->St acc w'
 read:∀acc W l lg dp,acc.length<=5000->St acc W->bh ρ W0 W l lg dp->Calls Tryz.prog fK mf W (vW ρ W0 DU qM el St acc lg dp l)
def fR(ρ:bw)(W0:World)(DU qM:α->Bool)(el:Ps α)(St:List α->World->Prop)(lg dp:Bool)(l:aK)(e:Ending)(W':World):Prop:=
 match dN el l with
 | .ok (xs,r)=>e=.returned (.tuple #[])/\St xs W'/\bh ρ W0 W' r ((lg || xs.any DU)|| decide (64 < xs.length)) (dp || xs.any qM)
 | .error n=>iE ρ W0 n e W'
section
variable {α:Type} {ρ:bw} {W0:World} {DU qM:α->Bool} {el:Ps α} {St:List α->World->Prop} {lg dp:Bool} {l:aK}
theorem fR.ok {xs:List α} {r:aK} {W':World}(h:dN el l=.ok (xs,r))(hs:St xs W')(hd:bh ρ W0 W' r ((lg || xs.any DU)|| decide (64 < xs.length)) (dp || xs.any qM)):fR ρ W0 DU qM el St lg dp l (.returned (.tuple #[])) W':=by unfold fR;rw[h];exact⟨rfl,hs,hd⟩
theorem fR.err {n:Nat} {e:Ending} {W':World}(h:dN el l=.error n)(k:iE ρ W0 n e W'):fR ρ W0 DU qM el St lg dp l e W':=by unfold fR;rw[h];exact k
end
section
variable {α:Type} {l:aK}
theorem abw {el:Ps α}(hs:cU el) {acc:List α} {l:aK}(h:ar bt l=false):yh el acc l=.ok (acc,l):=by rw[yi hs,cg];simp only[h];rfl
theorem E2 {el:Ps α}(hs:cU el) {acc:List α} {l:aK}(h:ar bt l=true):yh el acc l=(do let y <- el;yh el (acc++ [y]):Ps (List α)) l.tail:=by rw[yi hs,cg];simp only[h,if_true]
end
theorem DV(ρ:bw)(W0:World)(DU qM:α->Bool)(el:Ps α)(fK:FuncId)(mf:Array Value)(St:List α->World->Prop)(L:agS ρ W0 DU qM el fK mf St)(w:World)(l:aK)(lg dp:Bool)(h:bh ρ W0 w l lg dp)(h0:St [] w)(br:ρ.g < W0.heap.size):
  Calls Tryz.prog 115 #[ρ.ptr,.func (.func fK) #[] mf] w (fR ρ W0 DU qM el St lg dp l):=by
 have HH:=hid h;have hsm:=h.at_.small;have Xl:=h.at_.left.2;have en:=L.en;have NL:=L.read [] w l lg dp Tad h0 h;have HL:=hid L;clear h h0 L;go_enter Tryz.func115,Tryz.ntmps115;go_wp2_with fail;refine NL.mono ?_;clear NL;intro e w1 hp;unfold vW at hp
 cases hx:el l with
 | error m=>rw[hx] at hp;obtain⟨rfl,hg⟩:=hp;have HF:=hid (show dN el l=.error m by rw[Jk];exact ak hx);clear hx;go_wp2_with fail;exact aj rfl (fR.err HF.out ⟨rfl,hg⟩)
 | ok z=>
   obtain⟨x,r⟩:=z;rw[hx] at hp;obtain⟨rfl,hs,hd⟩:=hp;have wq:=HL.out.Vl.len hx;have HE:=hid (show dN el l=yh el [x] r by rw[Jk];exact ag hx);have HS:=hid hs;have HD:=hid hd;clear hx hs hd HH;go_wp2_with fail;go_loopg [4] r.length (λ k u wr=>∃(acc:List α) (l':aK),0 < acc.length/\acc.length+l'.length<=5001/\l'.length<=k/\u=.int .i64 acc.length/\St acc wr/\bh ρ W0 wr l' (lg || acc.any DU) (dp || acc.any qM)/\dN el l=yh el acc l');case atStart=>exact⟨[x],r,by simp,by simp;omega,Nat.le_refl _,rfl,HS.out,by simpa using HD.out,HE.out⟩
   case round=>
    obtain⟨acc,l',NZ,ayy,hk,rfl,hs,hd,he⟩:=hrel;have vp:=hid hs;have eZ:=hid hd;have zq:=hid he;have hm:=bz ρ wr l' (lg || acc.any DU) (dp || acc.any qM) hd.at_ ⟨#[44]⟩;rw[show(⟨#[44]⟩:ByteArray).data.toList=bt from rfl] at hm;clear hs hd he HS HD HE;have hsz:=eZ.out.size;cases hh:ar bt l'
    ·rw[hh,cy hh] at hm;have HF:=hid (zq.out.trans (abw HL.out.Vl hh));clear hh;go_wp2_with fail;refine hm.mono ?_;clear hm;rintro e w2 ⟨rfl,d⟩;have HS3:=hid (HL.out.keep _ _ _ vp.out d.grown hsz);have kt:=hid (eZ.out.trans d);clear d vp eZ zq;obtain⟨lg2,agT⟩:∃b:Bool,b=(lg || acc.any DU):=⟨_,rfl⟩;rw[<- agT] at kt;have amv:=hid agT;clear agT;obtain⟨c0,c1,c2,c3,f1,f2,f3⟩:=kt.out.at_.facts;have Zq:=kt.out.size;have hst:=kt.out.at_.amu (lg2 || decide (64 < acc.length));have HS4:=hid (HL.out.keep _ _ _ HS3.out hst.grown Zq);have qh:=hid (kt.out.trans hst);clear hst;unfold bw.ptr;cases Dn:lg2
     ·rw[Dn] at c2;have HLG:=hid Dn;have hdec:decide ((acc.length:Int)> 64)=decide (64 < acc.length):=by rw[decide_eq_decide];omega
      rw[Dn,Bool.false_or] at HS4 qh;have HX:=hid (show fR ρ W0 DU qM el St lg dp l (.returned (.tuple #[])) _ from fR.ok HF.out HS4.out (by rw[<- amv.out,HLG.out,Bool.false_or];exact qh.out));clear Dn;generalize decide (64 < acc.length)=bd at*;go_wp2_with fail;go_end0;exact HX.out
     ·rw[Dn] at c2;have HLG:=hid Dn;rw[Dn,Bool.true_or] at HS4 qh;have HX:=hid (show fR ρ W0 DU qM el St lg dp l (.returned (.tuple #[])) _ from fR.ok HF.out HS4.out (by rw[<- amv.out,HLG.out,Bool.true_or];exact qh.out));clear Dn;go_wp2_with fail;go_end0;exact HX.out
    ·rw[hh,cE hh] at hm;have HF:=hid (zq.out.trans (E2 HL.out.Vl hh));have hhl:=pA hh;clear hh;go_wp2_with fail;refine hm.mono ?_;clear hm;rintro e w2 ⟨rfl,d⟩;have NL:=HL.out.read acc w2 l'.tail (lg || acc.any DU) (dp || acc.any qM) Taa (HL.out.keep _ _ _ vp.out d.grown hsz) (eZ.out.trans d);clear d vp eZ zq;go_wp2_with fail;refine NL.mono ?_;clear NL;intro e w3 hp;unfold vW at hp
     cases hx:el l'.tail with
     | error m=>rw[hx] at hp;obtain⟨rfl,hg⟩:=hp;have HG:=hid (HF.out.trans (ak hx));clear hx;go_wp2_with fail;exact aj rfl (fR.err HG.out ⟨rfl,hg⟩)
     | ok z=>
       obtain⟨x2,r2⟩:=z;rw[hx] at hp;obtain⟨rfl,hs,hd⟩:=hp;have ayz:=HL.out.Vl.len hx;have HG:=hid (HF.out.trans (ag hx));have V8:=hid hs;have EZ:=hid hd;clear hx hs hd;go_wp2_with fail;go_roundg (r2.length);case measure=>omega
       case rel=>exact⟨acc++ [x2],r2,by simp,by simp;omega,Nat.le_refl _,by simp,V8.out,by have:=EZ.out;simpa [any_append,Bool.or_assoc] using this,HG.out⟩
def tC(ρ:bw)(W0:World)(qM:α->Bool)(el:Ps α)(St:List α->World->Prop)(acc:List α)(lg dp:Bool)(l:aK)(e:Ending)(W':World):Prop:=match el l with
 | .ok (x,r)=>e=.returned (.tuple #[])/\St (acc++ [x]) W'/\bh ρ W0 W' r lg (dp || qM x)
 | .error n=>iE ρ W0 n e W'
theorem tC.ok{W0:World}    {acc:List α}    (h:el l=.ok (x,r))(hs:St (acc++ [x]) W')(hd:bh ρ W0 W' r lg (dp || qM x)):tC ρ W0 qM el St acc lg dp l (.returned (.tuple #[])) W':=by unfold tC;rw[h];exact⟨rfl,hs,hd⟩
theorem tC.err{W0:World}    {acc:List α}     (h:el l=.error n)(k:iE ρ W0 n e W'):tC ρ W0 qM el St acc lg dp l e W':=by unfold tC;rw[h];exact k
structure Lst {α:Type} (ρ:bw) (W0:World) (qM:α->Bool) (el:Ps α) (fK:FuncId) (mf:Array Value) (St:List α->World->Prop):Prop where
 Vl:cU el
 en:∀args w,(callFunc fK args).run Tryz.prog w=.ok (.enter fK args) w
 keep:∀acc w w',St acc w->w.grownBy w' (some ρ.g)->W0.heap.size<=w.heap.size->St acc w'
 read:∀acc W l lg dp,acc.length<=5000->St acc W->bh ρ W0 W l lg dp->Calls Tryz.prog fK mf W (tC ρ W0 qM el St acc lg dp l)
def jb(ρ:bw)(W0:World)(qM:α->Bool)(el:Ps α)(St:List α->World->Prop)(lg dp:Bool)(l:aK)(e:Ending)(W':World):Prop:=
 match dN el l with
 | .ok (xs,r)=>e=.returned (.tuple #[])/\St xs W'/\bh ρ W0 W' r (lg || decide (64 < xs.length)) (dp || xs.any qM)
 | .error n=>iE ρ W0 n e W'
section
variable {α:Type} {ρ:bw} {W0:World} {qM:α->Bool} {el:Ps α} {St:List α->World->Prop} {lg dp:Bool} {l:aK}
theorem jb.ok {xs:List α} {r:aK} {W':World}(h:dN el l=.ok (xs,r))(hs:St xs W')(hd:bh ρ W0 W' r (lg || decide (64 < xs.length)) (dp || xs.any qM)):jb ρ W0 qM el St lg dp l (.returned (.tuple #[])) W':=by unfold jb;rw[h];exact⟨rfl,hs,hd⟩
theorem jb.err {n:Nat} {e:Ending} {W':World}(h:dN el l=.error n)(k:iE ρ W0 n e W'):jb ρ W0 qM el St lg dp l e W':=by unfold jb;rw[h];exact k
end
theorem GX(xs:List α)(b:Bool):(b || xs.any λ _=>false)=b:=by rw[show(xs.any λ _=>false)=false by simp];simp
theorem oT(ρ:bw)(W0:World)(qM:α->Bool)(el:Ps α)(fK:FuncId)(mf:Array Value)(St:List α->World->Prop)(L:Lst ρ W0 qM el fK mf St)(w:World)(l:aK)(lg dp:Bool)(h:bh ρ W0 w l lg dp)(h0:St [] w)(br:ρ.g < W0.heap.size):
  Calls Tryz.prog 115 #[ρ.ptr,.func (.func fK) #[] mf] w (jb ρ W0 qM el St lg dp l):=by
 have LL:agS ρ W0 (λ _=>false) qM el fK mf St:=⟨L.Vl,L.en,L.keep,λ acc W l lg dp hn hs hd=>(L.read acc W l lg dp hn hs hd).mono λ e W' hp=>by
  unfold tC at hp
  cases hx:el l with
  | error m=>rw[hx] at hp;exact vW.err hx hp
  | ok z=>
    obtain⟨x,r⟩:=z
    rw[hx] at hp
    obtain⟨rfl,hs,hd⟩:=hp
    exact vW.ok hx hs (by rw[Bool.or_false];exact hd)⟩
 refine(DV ρ W0 (λ _=>false) qM el fK mf St LL w l lg dp h h0 br).mono λ e W' hp=>?_
 unfold fR at hp
 cases hx:dN el l with
 | error m=>rw[hx] at hp;exact jb.err hx hp
 | ok z=>obtain⟨xs,r⟩:=z;rw[hx] at hp;obtain⟨rfl,hs,hd⟩:=hp;rw[GX] at hd;exact jb.ok hx hs hd
structure vX where
 ρ:bw
 W0:World
 TQ:TypeId
 qb:Nat
 k:Nat
 pb:Nat
 B:Nat
 cs:Array Value
 os:List (Nat×TypeId×Array Value)
 Kp:World->(Nat->Prop)->Prop
structure vX.Fit (γ:vX):Prop where
 gg:γ.ρ.g < γ.W0.heap.size
 q0:γ.W0.heap.size<=γ.qb
 p0:γ.ρ.g < γ.pb
 pq:γ.pb≠γ.qb
 qB:γ.qb < γ.B
 pB:γ.pb < γ.B
 os:∀x∈γ.os,γ.W0.heap.size<=x.1/\x.1≠γ.qb/\x.1 < γ.B
 kS:γ.k < γ.cs.size
 kp:∀w w' S S',γ.Kp w S->(∀b,S b->(∀o,w'.cell? ⟨b,o,none⟩=w.cell? ⟨b,o,none⟩)/\S' b)->γ.Kp w' S'
structure vX.at_ {α:Type} (γ:vX) (E:El α) (T:TypeId) (v:Value) (acc:List α) (W:World):Prop where
 blk:av W γ.qb γ.TQ (γ.cs.setIfInBounds γ.k v)
 row:jK E T W γ.B v acc
 kp:γ.Kp W (oz γ.B v W)
 sz:γ.B<=W.heap.size
 vF:av W γ.pb 77 #[γ.ρ.ptr]
 E3:∀x∈γ.os,av W x.1 x.2.1 x.2.2
def vX.acc(γ:vX)(E:El α)(T:TypeId)(acc:List α)(W:World):Prop:=∃v,γ.at_ E T v acc W
section
variable {α:Type} {γ:vX} {E:El α} {T:TypeId} {v v':Value} {acc:List α} {W W' W2:World}
theorem vX.at_.later (A:γ.at_ E T v acc W)(F:γ.Fit)(h:Below W.heap.size W W'):γ.at_ E T v acc W':=
 ⟨A.blk.later h,A.row.later h,F.kp _ _ _ _ A.kp (fP h),Nat.le_trans A.sz h.size,A.vF.later h,λ x hx=>(A.E3 x hx).later h⟩
theorem vX.at_.grown (A:γ.at_ E T v acc W)(F:γ.Fit)(h:W.grownBy W' (some γ.ρ.g)):γ.at_ E T v acc W':=by have h1:=F.gg;have h2:=F.q0;have h3:=F.p0;have h4:=F.qB;exact⟨A.blk.grown h Tae,A.row.grown h Taa,F.kp _ _ _ _ A.kp (pz h Taa),Nat.le_trans A.sz h.size,A.vF.grown h Tae,λ x hx=>(A.E3 x hx).grown h (by have:=F.os x hx;simp;omega)⟩
theorem vX.at_.ge (A:γ.at_ E T v acc W) {G:Nat}(hG:v.ownBlock=some G):γ.B<=G/\G < W.heap.size:=A.row.Ju hG
theorem vX.at_.cell (A:γ.at_ E T v acc W)(F:γ.Fit):W.cell? ⟨γ.qb,γ.k,none⟩=some v:=by rw[A.blk.cell];simp[F.kS]
theorem vX.at_.ptr (A:γ.at_ E T v acc W):W.cell? ⟨γ.pb,0,none⟩=some γ.ρ.ptr:=A.vF.cell 0
theorem vX.at_.push {n0:Nat} {x:α} {y:E.β} {l:aK} {lg dp:Bool}(A:γ.at_ E T v acc W)(F:γ.Fit)(D:bh γ.ρ γ.W0 W l lg dp)(hr:E.rel W (eI n0 W) x y)(Bd:γ.B<=n0)(hv0:∀G,v.ownBlock=some G->G < n0) {ys:List E.β}(ha:iK (E.rel W (oz γ.B v W)) acc ys)
  {W1:World} (hl:Below W.heap.size W W1) (mm:W1.grownBy W2 v.ownBlock) (pN:cT E.f T E.size W2 γ.B v' (ys++ [y])) (hv:v'.ownBlock=v.ownBlock\/v'.ownBlock=some W1.heap.size):
  W2.cell? ⟨γ.qb,γ.k,none⟩=some v/\W2.frozen? ⟨γ.qb,γ.k,none⟩=false/\γ.at_ E T v' (acc++ [x]) (W2.setCell ⟨γ.qb,γ.k,none⟩ v')/\bh γ.ρ γ.W0 (W2.setCell ⟨γ.qb,γ.k,none⟩ v') l lg dp:=by
 have h1:=F.gg;have h2:=F.q0;have h3:=F.p0;have h4:=F.qB;have h5:=F.pB;have h6:=F.pq;have X8:∀(q:Nat),q < γ.B->some q≠v.ownBlock:=λ q hq e'=>by have:=(A.ge e'.symm).1;omega
 have hX:=(A.blk.later hl).grown mm (X8 _ h4);have LY:=hX.cJ γ.k v';rw[Array.setIfInBounds_setIfInBounds] at LY;have pP:=uh (B:=γ.B) mm hv;have Mc:∀b,eI n0 W b->(∀o,(W2.setCell ⟨γ.qb,γ.k,none⟩ v').cell? ⟨b,o,none⟩=W.cell? ⟨b,o,none⟩)/\oz γ.B v' (W2.setCell ⟨γ.qb,γ.k,none⟩ v') b:=λ b hb=>by obtain⟨c1,s1⟩:=DC Bd hv0 b hb;obtain⟨c2,s2⟩:=fP hl b s1;obtain⟨c3,s3⟩:=pP b s2;obtain⟨c4,s4⟩:=ui h4 γ.k v' b s3;exact⟨λ o=>(c4 o).trans ((c3 o).trans ((c2 o).trans (c1 o))),s4⟩
 have hol:∀b,oz γ.B v W b->(∀o,(W2.setCell ⟨γ.qb,γ.k,none⟩ v').cell? ⟨b,o,none⟩=W.cell? ⟨b,o,none⟩)/\oz γ.B v' (W2.setCell ⟨γ.qb,γ.k,none⟩ v') b:=λ b hb=>by obtain⟨c2,s2⟩:=fP hl b hb;obtain⟨c3,s3⟩:=pP b s2;obtain⟨c4,s4⟩:=ui h4 γ.k v' b s3;exact⟨λ o=>(c4 o).trans ((c3 o).trans (c2 o)),s4⟩
 have arQ:∀G,v'.ownBlock=some G->γ.qb < G:=λ G hG=>by have:=(pN.lt hG).2.1;omega
 refine⟨by rw[hX.cell];simp[F.kS],hX.frozen _,⟨LY,⟨ys++ [y],pN.keep λ g hg=>Below.heap_setCell W2 ⟨γ.qb,γ.k,none⟩ v' g (by have:=arQ g hg;simp;omega),iK.append (ha.imp λ _ _=>E.keep hol) (.one (E.keep Mc hr))⟩,F.kp _ _ _ _ A.kp hol,by have:=A.sz;have:=hl.size;have:=mm.size;simp[World.setCell];omega,((A.vF.later hl).grown mm (X8 _ h5)).far (p:=⟨γ.qb,γ.k,none⟩) Tae v',λ z hz=>?_⟩,?_⟩
 ·obtain⟨a,b,c⟩:=F.os z hz;exact(((A.E3 z hz).later hl).grown mm (X8 _ c)).far (p:=⟨γ.qb,γ.k,none⟩) Tae v'
 ·exact((D.later hl).own h1 mm (λ G hG=>by have:=(A.ge hG).1;omega)).far h1 h2 _ _
end
theorem Mn:∀y,∀u∈kR.f y,u.oneCell'=true:=by intro y u hu;simp[kR,aU] at hu;exact Zex
theorem Vm:∀y,∀u∈oq.f y,u.oneCell'=true:=by intro y u hu;simp[oq,aU] at hu;exact Zex
theorem abx:∀y,∀u∈AK.f y,u.oneCell'=true:=by intro y u hu;simp[AK,aU] at hu;exact Zex
theorem JN:∀y,∀u∈AJ.f y,u.oneCell'=true:=by
 intro y u hu;simp[AJ] at hu;rcases hu with rfl | rfl <;> rfl
theorem row_one:∀y,∀u∈xM.f y,u.oneCell'=true:=by intro y u hu;simp[xM] at hu;rcases hu with rfl;rfl
theorem agV:∀y,∀u∈fy.f y,u.oneCell'=true:=by intro y u hu;simp[fy,aU] at hu;exact Zhc
variable{f:α->List Value}{size:Nat}{v:Value}
theorem nO{e:TypeId}   {B:Nat}  {l:List α}(h:cT f e size w B v l):∃A n c,v=.slice A n c:=by obtain⟨A,c,h⟩:=h.form;exact⟨A,_,c,h⟩
variable{γ:vX}{E:El α}{T:TypeId}{ops:Array Oper}{rest:List Oper}{o:Oper}{a:Act}{Q:Exit->Act->World->Prop}
theorem ez{acc:List α}      (A:γ.at_ E T v acc W)(F:γ.Fit)(hgd:o.guard=none)(s x:Operand)(t:TypeId)
  (ho:o.op=.call { callee:=.builtin .append,args:= #[s,x],argTypes:= #[t,t] })
  (z:Value) (bytes:Nat) (ht:Tryz.prog.underlying t=some (.slice T)) (nk:(Tryz.prog.info? T).map (λ i=>(i.zero,i.size,i.bytes))=some (some z,E.size,bytes)) (hzs:z.cells.size=E.size) (hsz:0 < E.size)
  (y:E.β) (h1:∀u∈E.f y,u.oneCell'=true) (hs:a.eval s=v) (hx:a.eval x=.slice (some ⟨W.heap.size,0,none⟩) 1 1)
  (hlen:(acc.length+1)*bytes<=140737488355328) (tF:acc.length+1<=140737488355328) (hB:γ.B<=W.heap.size)
  (h:∀(ys:List E.β) v' W2,iK (E.rel W (oz γ.B v W)) acc ys->cT E.f T E.size W2 γ.B v' (ys++ [y])->(W.alloc (.cells (E.f y).toArray T)).grownBy W2 v.ownBlock->(v'.ownBlock=v.ownBlock\/v'.ownBlock=some (W.alloc (.cells (E.f y).toArray T)).heap.size)->wpList Tryz.prog ops Q rest (a.put o.dst v') W2):wpList Tryz.prog ops Q (o::rest) a (W.alloc (.cells (E.f y).toArray T)):=by obtain⟨ys,hown,ha⟩:=A.row.has;have hl:=ha.len;exact xi hgd s x t ho z bytes ht nk hzs hsz y (E.hf y) h1 hs (hown.later (aa W _)) W.heap.size hx (av.new W _ _) (by rw[hl];exact hlen) (by rw[hl];exact tF) Tae (λ v' W2 h2 h3 h4=>h ys v' W2 ha h2 h3 h4)
theorem amw (b0 b1 b2 b3 b4 b5 b6 u0 u1 u2 u3 u4 u5 u6:Value)(C:List Value):∀A:List Value,(((((((A++(b0::b1::b2::b3::b4::b5::b6::C)).set A.length u0).set (A.length+1) u1).set (A.length+2) u2).set (A.length+3) u3).set (A.length+4) u4).set (A.length+5) u5).set (A.length+6) u6=A++(u0::u1::u2::u3::u4::u5::u6::C)
 | []=>rfl
 | a::A=>by have ih:=amw b0 b1 b2 b3 b4 b5 b6 u0 u1 u2 u3 u4 u5 u6 C A;simp only[cons_append,length_cons,show∀k,A.length+1+k=(A.length+k)+1 from λ k=>by omega,set_cons_succ,ih]
def qs (w:World)(g off:Nat)(y:Ex):World:=((((((w.setCell ⟨g,off,none⟩ (.int .u8 y.op)).setCell ⟨g,off+1,none⟩ (.int .u8 y.v.k)).setCell ⟨g,off+2,none⟩ (.int .i64 y.v.n)).setCell ⟨g,off+3,none⟩ (.string y.v.s)).setCell ⟨g,off+4,none⟩ (.string y.name)).setCell ⟨g,off+5,none⟩ (.int .i64 y.width)).setCell ⟨g,off+6,none⟩ (.slice y.A y.n y.c)
theorem Vn (w:World)(g off:Nat)(y:Ex)(b:Nat)(h:b≠g):(qs w g off y).heap[b]?=w.heap[b]?:=by
 unfold qs;have f:=λ(w:World) (i:Nat) (u:Value)=>Below.heap_setCell w ⟨g,i,none⟩ u b Tam
 rw[f,f,f,f,f,f,f]
theorem DW (w:World)(g off:Nat)(y:Ex):(qs w g off y).heap.size=w.heap.size:=by simp[qs,World.setCell]
theorem Mo (w:World)(g off:Nat)(y:Ex):w.grownBy (qs w g off y) (some g):=
 bE (bE (bE (bE (bE (bE (bE (aD (Below.refl _ _)) _ _) _ _) _ _) _ _) _ _) _ _) _ _
variable{G m c:Nat}{ys:List Ex}{z:Ex}
theorem E4{B:Nat}  (h:cT aU T 7 w B (.slice (some ⟨G,0,none⟩) m c) (ys++ [z])):cT aU T 7 (qs w G (ys.length*7) y) B (.slice (some ⟨G,0,none⟩) m c) (ys++ [y]):=by
 obtain⟨h1,h2⟩:=h
 have hA:(ys.flatMap aU).length=ys.length*7:=by
  clear h1 h2
  induction ys with
  | nil=>rfl
  | cons a l ih=>simp only[flatMap_cons,length_append,ih,length_cons,show(aU a).length=7 from rfl];omega
 rcases h2 with ⟨h2,_⟩|⟨g,cap,cur,hv,hb,hh,hnc,hcm,hcs,AD⟩
 ·injection h2 with h2;cases h2
 injection hv with hv1 hv2 hv3;injection hv1 with hv1;injection hv1 with hv1 _ _;subst hv1 hv3
 have E5:cur.toList=ys.flatMap aU++(aU z++cur.toList.drop ((ys++ [z]).length*7)):=by
  conv=>lhs;rw[<- take_append_drop ((ys++ [z]).length*7) cur.toList,AD]
  rw[flatMap_append,flatMap_cons,flatMap_nil,append_nil,append_assoc]
 have hB:av w G T cur:=hh;have hP:av (qs w G (ys.length*7) y) G T _:=((((((hB.cJ (ys.length*7) (.int .u8 y.op)).cJ (ys.length*7+1) (.int .u8 y.v.k)).cJ (ys.length*7+2) (.int .i64 y.v.n)).cJ (ys.length*7+3) (.string y.v.s)).cJ (ys.length*7+4) (.string y.name)).cJ (ys.length*7+5) (.int .i64 y.width)).cJ (ys.length*7+6) (.slice y.A y.n y.c);refine⟨by simp only[flatMap_append,flatMap_cons,flatMap_nil,append_nil,length_append,hA,length_cons,length_nil,show(aU y).length=7 from rfl];omega,.inr ⟨G,c,_,by rw[hv2,length_append,length_append];rfl,hb,hP,by rw[length_append] at hnc ⊢;exact hnc,hcm,by simpa using hcs,?_⟩⟩;simp only[Array.toList_setIfInBounds];rw[E5,<- hA];have e:=amw (.int .u8 z.op) (.int .u8 z.v.k) (.int .i64 z.v.n) (.string z.v.s) (.string z.name) (.int .i64 z.width) (.slice z.A z.n z.c) (.int .u8 y.op) (.int .u8 y.v.k) (.int .i64 y.v.n) (.string y.v.s) (.string y.name) (.int .i64 y.width) (.slice y.A y.n y.c) (cur.toList.drop ((ys++ [z]).length*7)) (ys.flatMap aU);have e2:ys.flatMap aU++(aU z++cur.toList.drop ((ys++ [z]).length*7))=ys.flatMap aU++(.int .u8 z.op:: .int .u8 z.v.k:: .int .i64 z.v.n:: .string z.v.s:: .string z.name:: .int .i64 z.width:: .slice z.A z.n z.c::cur.toList.drop ((ys++ [z]).length*7)):=rfl;rw[e2,e,flatMap_append,flatMap_cons,flatMap_nil,append_nil];have e3:ys.flatMap aU++(.int .u8 y.op:: .int .u8 y.v.k:: .int .i64 y.v.n:: .string y.v.s:: .string y.name:: .int .i64 y.width:: .slice y.A y.n y.c::cur.toList.drop ((ys++ [z]).length*7))=(ys.flatMap aU++aU y)++cur.toList.drop ((ys++ [z]).length*7):=by rw[append_assoc];rfl
 rw[e3,take_append_of_le_length TaA,take_of_length_le TaA]
def zeroE:Ex:=⟨0,⟨0,0,⟨#[]⟩⟩,⟨#[]⟩,0,none,0,0⟩
structure Mp (γ:vX) (v:Value) (acc:List Tr) (lg dp:Bool) (l r:aK) (t:Tr) (n0:Nat) (c z:Option Value) (w:World):Prop where
 sz:n0<=w.heap.size
 at_:γ.at_ fy 36 v acc w
 no:c=none->bh γ.ρ γ.W0 w l lg dp
 yes:∀x,c=some x->∃y,x=eb y/\t.at_ w (eI n0 w) y/\bh γ.ρ γ.W0 w r lg (dp || decide (32 < t.depth))
 zero:∀x,z=some x->∃g0,x=.slice (some ⟨g0,0,none⟩) 1 1/\av w g0 36 dT/\n0<=g0
structure RR (γ:vX) (v:Value) (acc:List Tr) (lg dp:Bool) (r:aK) (t:Tr) (a c:Value) (s p:Bool) (w:World):Prop where
 sz:γ.B<=w.heap.size
 blk:av w γ.qb γ.TQ (γ.cs.setIfInBounds γ.k (if p then a else v))
 kp:γ.Kp w (oz γ.B a w)
 vF:av w γ.pb 77 #[γ.ρ.ptr]
 E3:∀x∈γ.os,av w x.1 x.2.1 x.2.2
 did:bh γ.ρ γ.W0 w r lg (dp || decide (32 < t.depth))
 row:∃(G cap:Nat) (ys:List Ex) (y:Ex),a=.slice (some ⟨G,0,none⟩) (acc.length+1) cap/\c=eb y/\ys.length=acc.length/\t.at_ w (oz γ.B a w) y/\iK (Tr.at_ w (oz γ.B a w)) acc ys/\cT aU 36 7 w γ.B a (ys++ [if s then y else zeroE])
section
variable {γ:vX} {v a c:Value} {acc:List Tr} {lg dp s p:Bool} {l r:aK} {t:Tr} {n0:Nat} {co z:Option Value} {w w':World}
theorem Mp.later (A:Mp γ v acc lg dp l r t n0 co z w)(F:γ.Fit)(h:Below w.heap.size w w'):Mp γ v acc lg dp l r t n0 co z w':=
 ⟨Nat.le_trans A.sz h.size,A.at_.later F h,λ e=>(A.no e).later h,λ x e=>by obtain⟨y,h1,h2,h3⟩:=A.yes x e;exact⟨y,h1,h2.later h,h3.later h⟩,λ x e=>by obtain⟨g0,h1,h2,h3⟩:=A.zero x e;exact⟨g0,h1,h2.later h,h3⟩⟩
theorem RR.later (A:RR γ v acc lg dp r t a c s p w)(F:γ.Fit)(h:Below w.heap.size w w'):RR γ v acc lg dp r t a c s p w':=
 ⟨Nat.le_trans A.sz h.size,A.blk.later h,F.kp _ _ _ _ A.kp (fP h),A.vF.later h,λ x hx=>(A.E3 x hx).later h,A.did.later h,by
   obtain⟨G,cap,ys,y,h1,h2,h3,h4,h5,h6⟩:=A.row
   exact⟨G,cap,ys,y,h1,h2,h3,Tr.at_.keep (fP h) _ _ h4,h5.imp λ _ _ k=>Tr.at_.keep (fP h) _ _ k,h6.later h⟩⟩
theorem Mp.start (A:γ.at_ fy 36 v acc w)(D:bh γ.ρ γ.W0 w l lg dp):Mp γ v acc lg dp l r t w.heap.size none none w:=
 ⟨Nat.le_refl _,A,λ _=>D,λ x e=>(by cases e),λ x e=>(by cases e)⟩
theorem Mp.call (A:Mp γ v acc lg dp l r t n0 none z w)(F:γ.Fit)(hn:γ.B<=n0) {y:Ex}(hat:t.at_ w' (eI w.heap.size w') y)(d:bh γ.ρ w w' r lg (dp || decide (32 < t.depth))):Mp γ v acc lg dp l r t n0 (some (eb y)) z w':=by have h1:=F.gg;have h2:=F.q0;have h3:=F.qB;exact⟨Nat.le_trans A.sz d.size,A.at_.grown F d.grown,λ e=>(by cases e),λ x e=>(by injection e with e;exact⟨y,e.symm,hat.more A.sz,(A.no rfl).trans d⟩),λ x e=>(by obtain⟨g0,k1,k2,k3⟩:=A.zero x e;exact⟨g0,k1,d.blk k2 Taa,k3⟩)⟩
theorem Mp.aei (A:Mp γ v acc lg dp l r t n0 co none w)(F:γ.Fit):Mp γ v acc lg dp l r t n0 co (some (.slice (some ⟨w.heap.size,0,none⟩) 1 1)) (w.alloc (.cells dT 36)):=by have B:=A.later F (aa w (.cells dT 36));exact⟨B.sz,B.at_,B.no,B.yes,λ x e=>by injection e with e;exact⟨w.heap.size,e.symm,av.new w _ _,A.sz⟩⟩
theorem Mp.app {cv zv:Value}(A:Mp γ v acc lg dp l r t n0 (some cv) (some zv) w)(F:γ.Fit)(hn:γ.B<=n0)(hv0:∀G,v.ownBlock=some G->G < n0)(hlen:acc.length<=5000):∃v' w',(Builtin.append_ #[24,24] 24 #[v,zv]).run Tryz.prog w=.ok v' w'/\RR γ v acc lg dp r t v' cv false false w':=by
 have h1:=F.gg;have h2:=F.q0;have h3:=F.p0;have h4:=F.qB;have h5:=F.pB;obtain⟨g0,rfl,hz,hg0⟩:=A.zero _ rfl;obtain⟨y,rfl,hat,hd⟩:=A.yes _ rfl;obtain⟨(ys:List Ex),ho,ha⟩:=A.at_.row.has;have zZ:ys.length=acc.length:=ha.len;have X8:∀(q:Nat),q < γ.B->some q≠v.ownBlock:=λ q hq e'=>by have:=(A.at_.ge e'.symm).1;omega
 obtain⟨v',w',hr,pN,har,hv⟩:=sY (P:=Tryz.prog) (f:=aU) (e:=36) (size:=7) (base:=γ.B) (y:=zeroE) (w:=w) 24 24 _ 88 Tryz.underlying24 Jn rfl Tab (λ _=>rfl) (agV zeroE) ho g0 hz (by rw[zZ];omega) (by rw[zZ];omega) A.at_.sz;have mm:=har.grown;have hk:=uh (B:=γ.B) mm hv;obtain⟨G,cap,ki,hGb,_⟩:=pN.cell (f:=aU) (λ _=>rfl) (k:=acc.length) (x:=zeroE) (by rw[<- zZ];simp);refine⟨v',w',hr,Nat.le_trans A.at_.sz mm.size,?_,F.kp _ _ _ _ A.at_.kp hk,A.at_.vF.grown mm (X8 _ h5),λ x hx=>(A.at_.E3 x hx).grown mm (X8 _ (F.os x hx).2.2),hd.own h1 mm (λ G hG=>by have:=(A.at_.ge hG).1;omega),G,cap,ys,y,?_,rfl,zZ,?_,ha.imp λ _ _ k=>Tr.at_.keep hk _ _ k,pN⟩
 ·simp only[Bool.false_eq_true,if_false];exact A.at_.blk.grown mm (X8 _ h4)
 ·rw[ki];simp[zZ]
 ·exact Tr.at_.keep hk _ _ (Tr.at_.keep (DC hn hv0) _ _ hat)
theorem RR.elem {G cap:Nat} {y:Ex}(A:RR γ v acc lg dp r t a (eb y) false p w)(F:γ.Fit)(ha:a=.slice (some ⟨G,0,none⟩) (acc.length+1) cap):RR γ v acc lg dp r t a (eb y) true p (qs w G (acc.length*7) y):=by
 have h1:=F.gg;have h2:=F.q0;have h3:=F.p0;have h4:=F.qB;have h5:=F.pB;obtain⟨G',cap',ys,y',e1,e2,e3,e4,e5,e6⟩:=A.row;have hG:G'=G/\cap'=cap:=by rw[ha] at e1;injection e1 with e1 _ e1c;injection e1 with e1;injection e1 with e1 _ _;exact⟨e1.symm,e1c.symm⟩
 obtain⟨rfl,rfl⟩:=hG;have hy:y'=y:=by obtain⟨a1,⟨a2,a3,a4⟩,a5,a6,a7,a8,a9⟩:=y;obtain⟨b1,⟨b2,b3,b4⟩,b5,b6,b7,b8,b9⟩:=y';unfold eb aU at e2;simp only[Value.agg.injEq] at e2;simp at e2;obtain⟨rfl,rfl,rfl,rfl,rfl,rfl,rfl,rfl,rfl⟩:=e2;rfl
 subst hy;have hown:a.ownBlock=some G':=by rw[ha];rfl
 have FO:γ.B<=G':=(e6.lt hown).2.1;have hg:=Mo w G' (acc.length*7) y'
 have hk:∀b,oz γ.B a w b->(∀o,(qs w G' (acc.length*7) y').cell? ⟨b,o,none⟩=w.cell? ⟨b,o,none⟩)/\oz γ.B a (qs w G' (acc.length*7) y') b:=λ b hb=>
  ⟨cell_of_heap (Vn w G' _ y' b (λ e=>hb.2.2 (by rw[hown,e]))),hb.1,by rw[DW];exact hb.2.1,hb.2.2⟩
 refine⟨by rw[DW];exact A.sz,A.blk.grown hg Tae,F.kp _ _ _ _ A.kp hk,A.vF.grown hg Tae,λ x hx=>(A.E3 x hx).grown hg (by have:=(F.os x hx).2.2;simp;omega),A.did.own h1 hg (λ G hG=>by injection hG with hG;omega),G',cap',ys,y',ha,rfl,e3,Tr.at_.keep hk _ _ e4,e5.imp λ _ _ k=>Tr.at_.keep hk _ _ k,?_⟩;have e6:cT aU 36 7 w γ.B a (ys++ [zeroE]):=e6;rw[ha] at e6 ⊢;rw[<- e3] at e6 ⊢;exact E4 e6
theorem RR.list (A:RR γ v acc lg dp r t a c s false w)(F:γ.Fit):RR γ v acc lg dp r t a c s true (w.setCell ⟨γ.qb,γ.k,none⟩ a):=by
 have h1:=F.gg;have h2:=F.q0;have h3:=F.p0;have h4:=F.qB;have h5:=F.pB;have h6:=F.pq;obtain⟨G,cap,ys,y,e1,e2,e3,e4,e5,e6⟩:=A.row;have hk:=ui (v:=a) (w:=w) h4 γ.k a;have hb:=A.blk.cJ γ.k a;rw[Array.setIfInBounds_setIfInBounds] at hb;have hown:a.ownBlock=some G:=by rw[e1];rfl
 have FO:γ.B<=G:=(e6.lt hown).2.1;exact⟨by have:=A.sz;simpa [World.setCell] using this,hb,F.kp _ _ _ _ A.kp hk,A.vF.far (p:=⟨γ.qb,γ.k,none⟩) Tae a,λ x hx=>(A.E3 x hx).far (p:=⟨γ.qb,γ.k,none⟩) (by have:=(F.os x hx).2.1;simp;omega) a,A.did.far h1 h2 _ _,G,cap,ys,y,e1,e2,e3,Tr.at_.keep hk _ _ e4,e5.imp λ _ _ k=>Tr.at_.keep hk _ _ k,e6.keep λ g hg=>by rw[hown] at hg;injection hg with hg;exact Below.heap_setCell w ⟨γ.qb,γ.k,none⟩ a g Tae⟩
theorem RR.done (A:RR γ v acc lg dp r t a c true true w):γ.at_ fy 36 a (acc++ [t]) w:=by obtain⟨G,cap,ys,y,e1,e2,e3,e4,e5,e6⟩:=A.row;exact⟨A.blk,⟨ys++ [y],e6,iK.append e5 (.one e4)⟩,A.kp,A.sz,A.vF,A.E3⟩
end
def JO (o0 o1 o2 o3 o4 o5 o6 o7 o8 o9 nL:Oper)(s0 s1 d0 d1 d2 d3 d4 d5 d6 d7 d9:Tmp):Bool:=
 (tmpsOf o0== [s0])&&(bN [o0,o1,o2,o3,o4,o5,o6,o7,o8,o9,nL] o0 s0==none)&&(tmpsOf o1== [d0])&&(bN [o0,o1,o2,o3,o4,o5,o6,o7,o8,o9,nL] o1 d0==some 0)&&(tmpsOf o2== [s1])&&(bN [o0,o1,o2,o3,o4,o5,o6,o7,o8,o9,nL] o2 s1==none)&&(tmpsOf o3== [d2])&&(bN [o0,o1,o2,o3,o4,o5,o6,o7,o8,o9,nL] o3 d2==some 2)&&(tmpsOf o4== [d1])&&(bN [o0,o1,o2,o3,o4,o5,o6,o7,o8,o9,nL] o4 d1==some 1)&&(tmpsOf o5== [])&&(tmpsOf o6== [d1,d5])&&(bN [o0,o1,o2,o3,o4,o5,o6,o7,o8,o9,nL] o6 d1==some 1)&&(bN [o0,o1,o2,o3,o4,o5,o6,o7,o8,o9,nL] o6 d5==some 5)&&(tmpsOf o7== [d6,d4])&&(bN [o0,o1,o2,o3,o4,o5,o6,o7,o8,o9,nL] o7 d6==some 6)&&(bN [o0,o1,o2,o3,o4,o5,o6,o7,o8,o9,nL] o7 d4==some 4)&&(tmpsOf o8== [d7,d3])&&(bN [o0,o1,o2,o3,o4,o5,o6,o7,o8,o9,nL] o8 d7==some 7)&&(bN [o0,o1,o2,o3,o4,o5,o6,o7,o8,o9,nL] o8 d3==some 3)&&(tmpsOf o9== [s0])&&(bN [o0,o1,o2,o3,o4,o5,o6,o7,o8,o9,nL] o9 s0==none)&&(tmpsOf nL== [d9,d6])&&(bN [o0,o1,o2,o3,o4,o5,o6,o7,o8,o9,nL] nL d9==some 9)&&(bN [o0,o1,o2,o3,o4,o5,o6,o7,o8,o9,nL] nL d6==some 6)&& o0.guard.isNone && o1.guard.isNone && o2.guard.isNone && o3.guard.isNone && o4.guard.isNone && o5.guard.isNone && o6.guard.isNone && o7.guard.isNone && o8.guard.isNone && o9.guard.isNone && nL.guard.isNone && gj o6 1 && gj o6 3 && gj o6 5 && gj o7 6 && gj o8 6 && gj nL 6
def gY (γ:vX)(v:Value)(acc:List Tr)(lg dp:Bool)(l r:aK)(t:Tr)(n0:Nat)(σ:Nat->Option Value)(w:World):Prop:=
 match σ 6 with
 | none=>σ 7=none/\σ 8=none/\σ 10=none/\(∀x,σ 1=some x->x=v)/\Mp γ v acc lg dp l r t n0 (σ 3) (σ 5) w
 | some a=>(σ 1).isSome=true/\(σ 5).isSome=true/\(∀x,σ 1=some x->x=v)/\∃c,σ 3=some c/\RR γ v acc lg dp r t a c (σ 8).isSome (σ 10).isSome w/\∀x,σ 7=some x->∃G cap,a=.slice (some ⟨G,0,none⟩) (acc.length+1) cap/\x=.pointer (some ⟨G,acc.length*7,none⟩)
variable{n0:Nat}
theorem PY(F:γ.Fit)  {acc:List Tr}    (σ:Nat->Option Value)(w:World)(h:gY γ v acc lg dp l r t n0 σ w):gY γ v acc lg dp l r t n0 σ w.drew:=by
 have hb:Below w.heap.size w w.drew:=(Below.refl _ _).drew;unfold gY at*
 cases ha:σ 6 with
 | none=>exact Zgt
 | some a=>exact ZfZ
section
variable {γ:vX} {v:Value} {acc:List Tr} {lg dp:Bool} {l r:aK} {t:Tr} {w0:World} {Q:Exit->Act->World->Prop} {a0:Act} {id:Nat} {o0 o1 o2 o3 o4 o5 o6 o7 o8 o9 nL:Oper} {s0 s1 d0 d1 d2 d3 d4 d5 d6 d7 d9:Tmp} {vs0 vs1:Value} {F:FuncId} {args:Array Value}
theorem zc3.KaH(h:p:=by show gY γ v acc lg dp l r t w0.heap.size _ _;unfold gY;exact ZeN):p:=h
theorem zfw.KbA(h:p:=by have hrun:=hsp ρ w (some ⟨G,0,none⟩) (acc.length+1) cap r0 (r1.symm.trans e1) hcell (hB.blk.frozen _);unfold zm;rw[hrun];show gY γ v acc lg dp l r t w0.heap.size _ _;unfold gY;exact Zea):p:=h
theorem zfY.KbM(h:p:=by show gY γ v acc lg dp l r t w0.heap.size _ _;unfold gY;exact Zeo):p:=h
theorem zhx.Kcs(h:p:=by show gY γ v acc lg dp l r t w0.heap.size _ _;unfold gY;exact ZeH):p:=h
theorem zhU.KcC(h:p:=by rw[if_pos Tab] at r1;refine⟨g6,?_⟩;rw[if_pos Tab];have ux:=hno Tab;unfold gY at hG;rw[ux] at hG;obtain⟨k1,k2,k3,k4,hA⟩:=hG;have agX:=he 3 (dt.1 amy) Tab;have agY:=he 1 (dt.1 amx) Tab;obtain⟨cv,hcv⟩:=Option.isSome_iff_exists.1 agX;obtain⟨lv,hlv⟩:=Option.isSome_iff_exists.1 agY;rw[hcv,r1] at hA;obtain⟨v',w',tE,hPB⟩:=hA.app Ft hB0 hv0 hlen;refine ae (hap ρ w (ρ (.tmp d5)) v' w' (k4 _ r0) rfl tE) ?_;show gY γ v acc lg dp l r t w0.heap.size _ _;unfold gY;exact ZcY):p:=h
theorem zhW.KcD(h:p:=by rw[if_neg Tab] at r1;refine⟨g7,?_⟩;rw[if_pos Tab];have ux:=hno Tab;unfold gY at hG;have ha:=he 6 (dt.1 amz) Tab;open zfY in exact ZdV):p:=h
theorem zd9.Ka4(h:p:=by
 refine Bj [] [o0,o1,o2,o3,o4,o5,o6,o7,o8,o9,nL] Tad (λ i=>if i=0 then .pointer (some ⟨γ.qb,γ.k,none⟩)else if i=2 then γ.ρ.ptr else if i=4 then .int .i64 (acc.length:Int)else if i=9 then .pointer (some ⟨γ.qb,γ.k,none⟩)else undef) [1,3,5,6,7,8,10] (gY γ v acc lg dp l r t w0.heap.size) (PY Ft) ⟨rfl,rfl,rfl,(λ x e=>by cases e),Mp.start A D⟩ hm aC hz rfl ?_ ?_
 ·refine⟨?_,?_,?_,?_,?_,?_,?_,?_,?_,?_,?_,trivial⟩
  ·intro ρ w σ hcs hG hr he hno;rw[t0] at hr;have r0:=hr.1;simp only[uq] at r0;refine⟨g0,?_⟩;exact hfa ρ w (r0.trans JH)
  ·intro ρ w σ hcs hG hr he hno;rw[t1] at hr;have r0:=hr.1;simp only[ur] at r0;unfold mR at r0;rw[if_neg Tab] at r0;refine⟨g1,?_⟩;rw[if_pos Tab];have ux:=hno Tab;unfold gY at hG
   have ha:σ 6=none:=by
    cases ha:σ 6 with
    | none=>rfl
    | some a=>rw[ha] at hG;have:=hG.1;rw[ux] at this;cases this
   rw[ha] at hG;obtain⟨k1,k2,k3,k4,hA⟩:=hG;refine ae (Us ρ w r0 (hA.at_.cell Ft)) ?_;show gY γ v acc lg dp l r t w0.heap.size _ _;unfold gY;exact Zep
  ·intro ρ w σ hcs hG hr he hno;rw[t2] at hr;have r0:=hr.1;simp only[uu] at r0;refine⟨g2,?_⟩;refine PZ ρ w (r0.trans Me) ?_;unfold gY at hG
   cases ha:σ 6 with
   | none=>rw[ha] at hG;exact hG.2.2.2.2.at_.ptr
   | some a=>exact Zhe
  ·intro ρ w σ hcs hG hr he hno;rw[t3] at hr;have r0:=hr.1;simp only[uv] at r0;unfold mR at r0;rw[if_neg Tab] at r0;refine⟨g3,?_⟩;rw[if_pos Tab];have ux:=hno Tab;unfold gY at hG
   have ha:σ 6=none:=by
    cases ha:σ 6 with
    | none=>rfl
    | some a=>exact Zha
   open zhx in exact Zgc
  ·intro ρ w σ hcs hG hr he hno;rw[t4] at hr;have r0:=hr.1;simp only[DK] at r0;unfold mR at r0;rw[if_pos Tab] at r0;refine⟨g4,?_⟩;refine Xl ρ w ?_;unfold gY at hG
   cases ha:σ 6 with
   | none=>rw[ha] at hG;exact hG.2.2.2.1 _ r0
   | some a=>rw[ha] at hG;exact hG.2.2.1 _ r0
  ·intro ρ w σ hcs hG hr he hno;rw[t5] at hr;refine⟨g5,?_⟩;rw[if_pos Tab];have ux:=hno Tab;unfold gY at hG
   have ha:σ 6=none:=by
    cases ha:σ 6 with
    | none=>rfl
    | some a=>rw[ha] at hG;have:=hG.2.1;rw[ux] at this;cases this
   rw[ha] at hG;obtain⟨k1,k2,k3,k4,hA⟩:=hG;rw[ux] at hA;refine ae (hz0 ρ w hcs) ?_;show gY γ v acc lg dp l r t w0.heap.size _ _;unfold gY;exact ZeZ
  ·open zhU in exact Zgw
  ·open zhW in exact Zgx
  ·intro ρ w σ hcs hG hr he hno;rw[t8] at hr;have r0:=hr.1;simp only[Mg] at r0;unfold mR at r0;rw[if_pos Tab] at r0;have r1:=hr.2.1;simp only[Mh] at r1;unfold mR at r1;rw[if_pos Tab] at r1;refine⟨g8,?_⟩;rw[if_pos Tab];have ux:=hno Tab;unfold gY at hG;have ha:=he 6 (dt.1 amA) Tab;open zc3 in exact Za8
  ·intro ρ w σ hcs hG hr he hno;rw[t9] at hr;have r0:=hr.1;simp only[ZV] at r0;refine⟨g9,?_⟩;exact hfb ρ w (r0.trans JH)
  ·intro ρ w σ hcs hG hr he hno;rw[t10] at hr;have r0:=hr.1;simp only[aej] at r0;unfold mR at r0;rw[if_neg Tab] at r0;have r1:=hr.2.1;simp only[aek] at r1;unfold mR at r1;rw[if_pos Tab] at r1;refine⟨g10,?_⟩;rw[if_pos Tab];have ux:=hno Tab;unfold gY at hG;have ha:=he 6 (dt.1 ael) Tab;open zfw in exact Zdb
 ·intro σ w hall hG;have ha:=hall 6 Tab;obtain⟨a,ha⟩:=Option.isSome_iff_exists.1 ha;have h8:=hall 8 Tab;have h10:=hall 10 Tab;unfold gY at hG;exact ZeK):p:=h
theorem Mq (Ft:γ.Fit)
  (hm:Tryz.prog.follows .mixedOrders=true) (aC:dn [o0,o1,o2,o3,o4,o5,o6,o7,o8,o9,nL] a0.tmps.size [o0,o1,o2,o3,o4,o5,o6,o7,o8,o9,nL] 0=true) (hz:dQ ([o0,o1,o2,o3,o4,o5,o6,o7,o8,o9,nL]++ []) [] 11=true) (tA:JO o0 o1 o2 o3 o4 o5 o6 o7 o8 o9 nL s0 s1 d0 d1 d2 d3 d4 d5 d6 d7 d9=true)
  (JH:a0.eval (.tmp s0)=vs0) (Me:a0.eval (.tmp s1)=vs1)
  (hfa:∀ρ w,ρ (.tmp s0)=vs0->(execOp ρ o0).run Tryz.prog w=.ok (.value (.pointer (some ⟨γ.qb,γ.k,none⟩))) w) (hfb:∀ρ w,ρ (.tmp s0)=vs0->(execOp ρ o9).run Tryz.prog w=.ok (.value (.pointer (some ⟨γ.qb,γ.k,none⟩))) w)
  (Us:∀ρ w,ρ (.tmp d0)=.pointer (some ⟨γ.qb,γ.k,none⟩)->w.cell? ⟨γ.qb,γ.k,none⟩=some v->(execOp ρ o1).run Tryz.prog w=.ok (.value v) w)
  (PZ:∀ρ w,ρ (.tmp s1)=vs1->w.cell? ⟨γ.pb,0,none⟩=some γ.ρ.ptr->(execOp ρ o2).run Tryz.prog w=.ok (.value γ.ρ.ptr) w)
  (iq:∀ρ w,cu ρ->ρ (.tmp d2)=γ.ρ.ptr->(execOp ρ o3).run Tryz.prog w=.ok (.enter F args) w)
  (Xl:∀ρ w,ρ (.tmp d1)=v->(execOp ρ o4).run Tryz.prog w=.ok (.value (.int .i64 (acc.length:Int))) w)
  (hz0:∀ρ w,cu ρ->(execOp ρ o5).run Tryz.prog w=.ok (.value (.slice (some ⟨w.heap.size,0,none⟩) 1 1)) (w.alloc (.cells dT 36)))
  (hap:∀ρ w x v' w',ρ (.tmp d1)=v->ρ (.tmp d5)=x->(Builtin.append_ #[24,24] 24 #[v,x]).run Tryz.prog w=.ok v' w'->(execOp ρ o6).run Tryz.prog w=.ok (.value v') w')
  (hix:∀ρ w G cap,ρ (.tmp d6)=.slice (some ⟨G,0,none⟩) (acc.length+1) cap->ρ (.tmp d4)=.int .i64 (acc.length:Int)->(execOp ρ o7).run Tryz.prog w=.ok (.value (.pointer (some ⟨G,acc.length*7,none⟩))) w)
  (hst:∀ρ w G (y:Ex),ρ (.tmp d7)=.pointer (some ⟨G,acc.length*7,none⟩)->ρ (.tmp d3)=eb y->(∀j u,dT[j]?=some u->w.cell? ⟨G,acc.length*7+j,none⟩=some u)->(∀i,w.frozen? ⟨G,i,none⟩=false)->(execOp ρ o8).run Tryz.prog w=.ok .skip (qs w G (acc.length*7) y))
  (hsp:∀ρ w A n c,ρ (.tmp d9)=.pointer (some ⟨γ.qb,γ.k,none⟩)->ρ (.tmp d6)=.slice A n c->w.cell? ⟨γ.qb,γ.k,none⟩=some v->w.frozen? ⟨γ.qb,γ.k,none⟩=false->(execOp ρ nL).run Tryz.prog w=.ok .skip (w.setCell ⟨γ.qb,γ.k,none⟩ (.slice A n c)))
  (A:γ.at_ fy 36 v acc w0) (D:bh γ.ρ γ.W0 w0 l lg dp) (hlen:acc.length<=5000)
  (jw:∀w,γ.ρ.gh w l lg dp->Calls Tryz.prog F args w λ e w'=>∃y,e=.returned (eb y)/\t.at_ w' (eI w.heap.size w') y/\bh γ.ρ w w' r lg (dp || decide (32 < t.depth)))
  (uf:∀a' w,a'.defers=a0.defers->γ.acc fy 36 (acc++ [t]) w->bh γ.ρ γ.W0 w r lg (dp || decide (32 < t.depth))->wpList Tryz.prog [o0,o1,o2,o3,o4,o5,o6,o7,o8,o9,nL].toArray Q [] a' w):
  (Code.region id [o0,o1,o2,o3,o4,o5,o6,o7,o8,o9,nL].toArray true).wp Tryz.prog Q a0 w0:=by simp only[JO,Bool.and_eq_true,beq_iff_eq,Option.isNone_iff_eq_none] at tA;obtain⟨⟨⟨⟨⟨⟨⟨⟨⟨⟨⟨⟨⟨⟨⟨⟨⟨⟨⟨⟨⟨⟨⟨⟨⟨⟨⟨⟨⟨⟨⟨⟨⟨⟨⟨⟨⟨⟨⟨⟨⟨t0,uq⟩,t1⟩,ur⟩,t2⟩,uu⟩,t3⟩,uv⟩,t4⟩,DK⟩,t5⟩,t6⟩,BL⟩,Mf⟩,t7⟩,JJ⟩,E6⟩,t8⟩,Mg⟩,Mh⟩,t9⟩,ZV⟩,t10⟩,aej⟩,aek⟩,g0⟩,g1⟩,g2⟩,g3⟩,g4⟩,g5⟩,g6⟩,g7⟩,g8⟩,g9⟩,g10⟩,amx⟩,amy⟩,abz⟩,amz⟩,amA⟩,ael⟩:=tA;open zd9 in exact ZbN
theorem yI (Ft:γ.Fit) {E:List PanicEntry->World->Prop}
  (hm:Tryz.prog.follows .mixedOrders=true) (aC:dn [o0,o1,o2,o3,o4,o5,o6,o7,o8,o9,nL] a0.tmps.size [o0,o1,o2,o3,o4,o5,o6,o7,o8,o9,nL] 0=true) (hz:dQ ([o0,o1,o2,o3,o4,o5,o6,o7,o8,o9,nL]++ []) [] 11=true) (tA:JO o0 o1 o2 o3 o4 o5 o6 o7 o8 o9 nL s0 s1 d0 d1 d2 d3 d4 d5 d6 d7 d9=true)
  (JH:a0.eval (.tmp s0)=vs0) (Me:a0.eval (.tmp s1)=vs1)
  (hfa:∀ρ w,ρ (.tmp s0)=vs0->(execOp ρ o0).run Tryz.prog w=.ok (.value (.pointer (some ⟨γ.qb,γ.k,none⟩))) w) (hfb:∀ρ w,ρ (.tmp s0)=vs0->(execOp ρ o9).run Tryz.prog w=.ok (.value (.pointer (some ⟨γ.qb,γ.k,none⟩))) w)
  (Us:∀ρ w,ρ (.tmp d0)=.pointer (some ⟨γ.qb,γ.k,none⟩)->w.cell? ⟨γ.qb,γ.k,none⟩=some v->(execOp ρ o1).run Tryz.prog w=.ok (.value v) w)
  (PZ:∀ρ w,ρ (.tmp s1)=vs1->w.cell? ⟨γ.pb,0,none⟩=some γ.ρ.ptr->(execOp ρ o2).run Tryz.prog w=.ok (.value γ.ρ.ptr) w)
  (iq:∀ρ w,cu ρ->ρ (.tmp d2)=γ.ρ.ptr->(execOp ρ o3).run Tryz.prog w=.ok (.enter F args) w)
  (Xl:∀ρ w,ρ (.tmp d1)=v->(execOp ρ o4).run Tryz.prog w=.ok (.value (.int .i64 (acc.length:Int))) w)
  (hz0:∀ρ w,cu ρ->(execOp ρ o5).run Tryz.prog w=.ok (.value (.slice (some ⟨w.heap.size,0,none⟩) 1 1)) (w.alloc (.cells dT 36)))
  (xG:GR [o0,o1,o2,o3,o4,o5,o6,o7,o8,o9,nL] 3 [6,7,8,9,10]=true) (A:γ.at_ fy 36 v acc w0)
  (jw:∀w,af w0 w->Calls Tryz.prog F args w λ e w'=>∃C,e=.panicked C/\E C w') (hQ:∀C a w,a.defers=a0.defers->E C w->Q (.panic C) a w):
  (Code.region id [o0,o1,o2,o3,o4,o5,o6,o7,o8,o9,nL].toArray true).wp Tryz.prog Q a0 w0:=by
 simp only[JO,Bool.and_eq_true,beq_iff_eq,Option.isNone_iff_eq_none] at tA;obtain⟨⟨⟨⟨⟨⟨⟨⟨⟨⟨⟨⟨⟨⟨⟨⟨⟨⟨⟨⟨⟨⟨⟨⟨⟨⟨⟨⟨⟨⟨⟨⟨⟨⟨⟨⟨⟨⟨⟨⟨⟨t0,uq⟩,t1⟩,ur⟩,t2⟩,uu⟩,t3⟩,uv⟩,t4⟩,DK⟩,t5⟩,t6⟩,BL⟩,Mf⟩,t7⟩,JJ⟩,E6⟩,t8⟩,Mg⟩,Mh⟩,t9⟩,ZV⟩,t10⟩,aej⟩,aek⟩,g0⟩,g1⟩,g2⟩,g3⟩,g4⟩,g5⟩,g6⟩,g7⟩,g8⟩,g9⟩,g10⟩,amx⟩,amy⟩,abz⟩,amz⟩,amA⟩,ael⟩:=tA;refine mo [] [o0,o1,o2,o3,o4,o5,o6,o7,o8,o9,nL] Tad 3 [6,7,8,9,10] E af af.refl (λ _ _ _=>af.trans) af.drew (λ i _ x=>if i=0 then x=(.pointer (some ⟨γ.qb,γ.k,none⟩))else if i=1 then x=(v)else if i=2 then x=(γ.ρ.ptr)else if i=4 then x=(.int .i64 (acc.length:Int))else if i=9 then x=(.pointer (some ⟨γ.qb,γ.k,none⟩))else True) (λ _ _ _ _ h _=>h) hm aC hz (by show 3 < 11;decide) xG ?_ hQ;refine⟨?_,?_,?_,?_,?_,?_,Zc0,Zc0,Zc0,Zc0,Zc0,trivial⟩
 ·refine .inr λ ρ w hcs hG hr=>?_
  rw[t0] at hr;have r0:=hr.1;simp only[uq] at r0;refine⟨g0,?_⟩;exact ae (hfa ρ w (r0.trans JH)) ⟨af.refl _,rfl⟩
 ·refine .inr λ ρ w hcs hG hr=>?_
  rw[t1] at hr;have r0:=hr.1;simp only[ur] at r0;refine⟨g1,?_⟩;exact ae (Us ρ w r0 ((A.later Ft hG).cell Ft)) ⟨af.refl _,rfl⟩
 ·refine .inr λ ρ w hcs hG hr=>?_
  rw[t2] at hr;have r0:=hr.1;simp only[uu] at r0;refine⟨g2,?_⟩;exact ZgG
 ·refine .inr λ ρ w hcs hG hr=>?_
  rw[t3] at hr;have r0:=hr.1;simp only[uv] at r0;refine⟨g3,?_⟩;have hrun:=iq ρ w hcs r0;exact Zd8
 ·refine .inr λ ρ w hcs hG hr=>?_
  rw[t4] at hr;have r0:=hr.1;simp only[DK] at r0;refine⟨g4,?_⟩;exact ae (Xl ρ w r0) ⟨af.refl _,rfl⟩
 ·refine .inr λ ρ w hcs hG hr=>?_
  rw[t5] at hr;refine⟨g5,?_⟩;exact ae (hz0 ρ w hcs) ⟨aa _ _,trivial⟩
end
def RS (o0 o1 o2 o3 o4 o5 o6 o7 o8:Oper)(s0 s1 d0 d1 d2 d3 d4 d5 d6:Tmp):Bool:=
 (tmpsOf o0== [s0])&&(bN [o0,o1,o2,o3,o4,o5,o6,o7,o8] o0 s0==none)&&(tmpsOf o1== [s1])&&(bN [o0,o1,o2,o3,o4,o5,o6,o7,o8] o1 s1==none)&&(tmpsOf o2== [d1])&&(bN [o0,o1,o2,o3,o4,o5,o6,o7,o8] o2 d1==some 1)&&(tmpsOf o3== [d0])&&(bN [o0,o1,o2,o3,o4,o5,o6,o7,o8] o3 d0==some 0)&&(tmpsOf o4== [])&&(tmpsOf o5== [d0,d4])&&(bN [o0,o1,o2,o3,o4,o5,o6,o7,o8] o5 d0==some 0)&&(bN [o0,o1,o2,o3,o4,o5,o6,o7,o8] o5 d4==some 4)&&(tmpsOf o6== [d5,d3])&&(bN [o0,o1,o2,o3,o4,o5,o6,o7,o8] o6 d5==some 5)&&(bN [o0,o1,o2,o3,o4,o5,o6,o7,o8] o6 d3==some 3)&&(tmpsOf o7== [d6,d2])&&(bN [o0,o1,o2,o3,o4,o5,o6,o7,o8] o7 d6==some 6)&&(bN [o0,o1,o2,o3,o4,o5,o6,o7,o8] o7 d2==some 2)&&(tmpsOf o8== [s0,d5])&&(bN [o0,o1,o2,o3,o4,o5,o6,o7,o8] o8 s0==none)&&(bN [o0,o1,o2,o3,o4,o5,o6,o7,o8] o8 d5==some 5)&& o0.guard.isNone && o1.guard.isNone && o2.guard.isNone && o3.guard.isNone && o4.guard.isNone && o5.guard.isNone && o6.guard.isNone && o7.guard.isNone && o8.guard.isNone && gj o5 0 && gj o5 2 && gj o5 4 && gj o6 5 && gj o7 5 && gj o8 5
def mE (γ:vX)(v:Value)(acc:List Tr)(lg dp:Bool)(l r:aK)(t:Tr)(n0:Nat)(σ:Nat->Option Value)(w:World):Prop:=
 match σ 5 with
 | none=>σ 6=none/\σ 7=none/\σ 8=none/\(∀x,σ 0=some x->x=v)/\Mp γ v acc lg dp l r t n0 (σ 2) (σ 4) w
 | some a=>(σ 0).isSome=true/\(σ 4).isSome=true/\(∀x,σ 0=some x->x=v)/\∃c,σ 2=some c/\RR γ v acc lg dp r t a c (σ 7).isSome (σ 8).isSome w/\∀x,σ 6=some x->∃G cap,a=.slice (some ⟨G,0,none⟩) (acc.length+1) cap/\x=.pointer (some ⟨G,acc.length*7,none⟩)
theorem Vo(F:γ.Fit)  {acc:List Tr}    (σ:Nat->Option Value)(w:World)(h:mE γ v acc lg dp l r t n0 σ w):mE γ v acc lg dp l r t n0 σ w.drew:=by
 have hb:Below w.heap.size w w.drew:=(Below.refl _ _).drew;unfold mE at*
 cases ha:σ 5 with
 | none=>exact Zgt
 | some a=>exact ZfZ
section
variable {γ:vX} {v:Value} {acc:List Tr} {lg dp:Bool} {l r:aK} {t:Tr} {w0:World} {Q:Exit->Act->World->Prop} {a0:Act} {id:Nat} {o0 o1 o2 o3 o4 o5 o6 o7 o8:Oper} {s0 s1 d0 d1 d2 d3 d4 d5 d6:Tmp} {vs0 vs1:Value} {F:FuncId} {args:Array Value}
theorem zc4.KaH(h:p:=by show mE γ v acc lg dp l r t w0.heap.size _ _;unfold mE;exact ZeN):p:=h
theorem zfx.KbA(h:p:=by have hrun:=hsp ρ w (some ⟨G,0,none⟩) (acc.length+1) cap ((r0.trans JH).trans hs0) (r1.symm.trans e1) hcell (hB.blk.frozen _);unfold zm;rw[hrun];show mE γ v acc lg dp l r t w0.heap.size _ _;unfold mE;exact Zea):p:=h
theorem zfZ.KbM(h:p:=by show mE γ v acc lg dp l r t w0.heap.size _ _;unfold mE;exact Zeo):p:=h
theorem zhy.Kcs(h:p:=by show mE γ v acc lg dp l r t w0.heap.size _ _;unfold mE;exact ZeH):p:=h
theorem zhV.KcC(h:p:=by rw[if_neg Tab] at r1;refine⟨g6,?_⟩;rw[if_pos Tab];have ux:=hno Tab;unfold mE at hG;have ha:=he 5 (dt.1 abz) Tab;open zfZ in exact ZdV):p:=h
theorem zhX.KcD(h:p:=by rw[if_pos Tab] at r1;refine⟨g7,?_⟩;rw[if_pos Tab];have ux:=hno Tab;unfold mE at hG;have ha:=he 5 (dt.1 amE) Tab;open zc4 in exact Za8):p:=h
theorem zea.Ka4(h:p:=by
 refine Bj [] [o0,o1,o2,o3,o4,o5,o6,o7,o8] Tad (λ i=>if i=1 then γ.ρ.ptr else if i=3 then .int .i64 (acc.length:Int)else undef) [0,2,4,5,6,7,8] (mE γ v acc lg dp l r t w0.heap.size) (Vo Ft) ⟨rfl,rfl,rfl,(λ x e=>by cases e),Mp.start A D⟩ hm aC hz rfl ?_ ?_
 ·refine⟨?_,?_,?_,?_,?_,?_,?_,?_,?_,trivial⟩
  ·intro ρ w σ hcs hG hr he hno;rw[t0] at hr;have r0:=hr.1;simp only[uq] at r0;refine⟨g0,?_⟩;rw[if_pos Tab];have ux:=hno Tab;unfold mE at hG
   have ha:σ 5=none:=by
    cases ha:σ 5 with
    | none=>rfl
    | some a=>rw[ha] at hG;have:=hG.1;rw[ux] at this;cases this
   rw[ha] at hG;obtain⟨k1,k2,k3,k4,hA⟩:=hG;refine ae (Us ρ w ((r0.trans JH).trans hs0) (hA.at_.cell Ft)) ?_;show mE γ v acc lg dp l r t w0.heap.size _ _;unfold mE;exact Zep
  ·intro ρ w σ hcs hG hr he hno;rw[t1] at hr;have r0:=hr.1;simp only[ur] at r0;refine⟨g1,?_⟩;refine PZ ρ w (r0.trans Me) ?_;unfold mE at hG
   cases ha:σ 5 with
   | none=>rw[ha] at hG;exact hG.2.2.2.2.at_.ptr
   | some a=>exact Zhe
  ·intro ρ w σ hcs hG hr he hno;rw[t2] at hr;have r0:=hr.1;simp only[uu] at r0;unfold mR at r0;rw[if_neg Tab] at r0;refine⟨g2,?_⟩;rw[if_pos Tab];have ux:=hno Tab;unfold mE at hG
   have ha:σ 5=none:=by
    cases ha:σ 5 with
    | none=>rfl
    | some a=>exact Zha
   open zhy in exact Zgc
  ·intro ρ w σ hcs hG hr he hno;rw[t3] at hr;have r0:=hr.1;simp only[uv] at r0;unfold mR at r0;rw[if_pos Tab] at r0;refine⟨g3,?_⟩;refine Xl ρ w ?_;unfold mE at hG
   cases ha:σ 5 with
   | none=>rw[ha] at hG;exact hG.2.2.2.1 _ r0
   | some a=>rw[ha] at hG;exact hG.2.2.1 _ r0
  ·intro ρ w σ hcs hG hr he hno;rw[t4] at hr;refine⟨g4,?_⟩;rw[if_pos Tab];have ux:=hno Tab;unfold mE at hG
   have ha:σ 5=none:=by
    cases ha:σ 5 with
    | none=>rfl
    | some a=>rw[ha] at hG;have:=hG.2.1;rw[ux] at this;cases this
   rw[ha] at hG;obtain⟨k1,k2,k3,k4,hA⟩:=hG;rw[ux] at hA;refine ae (hz0 ρ w hcs) ?_;show mE γ v acc lg dp l r t w0.heap.size _ _;unfold mE;exact ZeZ
  ·intro ρ w σ hcs hG hr he hno;rw[t5] at hr;have r0:=hr.1;simp only[JI] at r0;unfold mR at r0;rw[if_pos Tab] at r0;have r1:=hr.2.1;simp only[ZU] at r1;unfold mR at r1;rw[if_pos Tab] at r1;refine⟨g5,?_⟩;rw[if_pos Tab];have ux:=hno Tab;unfold mE at hG;rw[ux] at hG;obtain⟨k1,k2,k3,k4,hA⟩:=hG;have agX:=he 2 (dt.1 amD) Tab;have agY:=he 0 (dt.1 amC) Tab;obtain⟨cv,hcv⟩:=Option.isSome_iff_exists.1 agX;obtain⟨lv,hlv⟩:=Option.isSome_iff_exists.1 agY;rw[hcv,r1] at hA;obtain⟨v',w',tE,hPB⟩:=hA.app Ft hB0 hv0 hlen;refine ae (hap ρ w (ρ (.tmp d4)) v' w' (k4 _ r0) rfl tE) ?_;show mE γ v acc lg dp l r t w0.heap.size _ _;unfold mE;exact ZcY
  ·open zhV in exact Zgw
  ·open zhX in exact Zgx
  ·intro ρ w σ hcs hG hr he hno;rw[t8] at hr;have r0:=hr.1;simp only[Mg] at r0;have r1:=hr.2.1;simp only[Mh] at r1;unfold mR at r1;rw[if_pos Tab] at r1;refine⟨g8,?_⟩;rw[if_pos Tab];have ux:=hno Tab;unfold mE at hG;have ha:=he 5 (dt.1 amF) Tab;open zfx in exact Zdb
 ·intro σ w hall hG;have ha:=hall 5 Tab;obtain⟨a,ha⟩:=Option.isSome_iff_exists.1 ha;have h8:=hall 7 Tab;have h10:=hall 8 Tab;unfold mE at hG;exact ZeK):p:=h
theorem Qa (Ft:γ.Fit)
  (hm:Tryz.prog.follows .mixedOrders=true) (aC:dn [o0,o1,o2,o3,o4,o5,o6,o7,o8] a0.tmps.size [o0,o1,o2,o3,o4,o5,o6,o7,o8] 0=true) (hz:dQ ([o0,o1,o2,o3,o4,o5,o6,o7,o8]++ []) [] 9=true) (tA:RS o0 o1 o2 o3 o4 o5 o6 o7 o8 s0 s1 d0 d1 d2 d3 d4 d5 d6=true)
  (JH:a0.eval (.tmp s0)=vs0) (Me:a0.eval (.tmp s1)=vs1)
  (hs0:vs0=.pointer (some ⟨γ.qb,γ.k,none⟩))
  (Us:∀ρ w,ρ (.tmp s0)=.pointer (some ⟨γ.qb,γ.k,none⟩)->w.cell? ⟨γ.qb,γ.k,none⟩=some v->(execOp ρ o0).run Tryz.prog w=.ok (.value v) w)
  (PZ:∀ρ w,ρ (.tmp s1)=vs1->w.cell? ⟨γ.pb,0,none⟩=some γ.ρ.ptr->(execOp ρ o1).run Tryz.prog w=.ok (.value γ.ρ.ptr) w)
  (iq:∀ρ w,cu ρ->ρ (.tmp d1)=γ.ρ.ptr->(execOp ρ o2).run Tryz.prog w=.ok (.enter F args) w)
  (Xl:∀ρ w,ρ (.tmp d0)=v->(execOp ρ o3).run Tryz.prog w=.ok (.value (.int .i64 (acc.length:Int))) w)
  (hz0:∀ρ w,cu ρ->(execOp ρ o4).run Tryz.prog w=.ok (.value (.slice (some ⟨w.heap.size,0,none⟩) 1 1)) (w.alloc (.cells dT 36)))
  (hap:∀ρ w x v' w',ρ (.tmp d0)=v->ρ (.tmp d4)=x->(Builtin.append_ #[24,24] 24 #[v,x]).run Tryz.prog w=.ok v' w'->(execOp ρ o5).run Tryz.prog w=.ok (.value v') w')
  (hix:∀ρ w G cap,ρ (.tmp d5)=.slice (some ⟨G,0,none⟩) (acc.length+1) cap->ρ (.tmp d3)=.int .i64 (acc.length:Int)->(execOp ρ o6).run Tryz.prog w=.ok (.value (.pointer (some ⟨G,acc.length*7,none⟩))) w)
  (hst:∀ρ w G (y:Ex),ρ (.tmp d6)=.pointer (some ⟨G,acc.length*7,none⟩)->ρ (.tmp d2)=eb y->(∀j u,dT[j]?=some u->w.cell? ⟨G,acc.length*7+j,none⟩=some u)->(∀i,w.frozen? ⟨G,i,none⟩=false)->(execOp ρ o7).run Tryz.prog w=.ok .skip (qs w G (acc.length*7) y))
  (hsp:∀ρ w A n c,ρ (.tmp s0)=.pointer (some ⟨γ.qb,γ.k,none⟩)->ρ (.tmp d5)=.slice A n c->w.cell? ⟨γ.qb,γ.k,none⟩=some v->w.frozen? ⟨γ.qb,γ.k,none⟩=false->(execOp ρ o8).run Tryz.prog w=.ok .skip (w.setCell ⟨γ.qb,γ.k,none⟩ (.slice A n c)))
  (A:γ.at_ fy 36 v acc w0) (D:bh γ.ρ γ.W0 w0 l lg dp) (hlen:acc.length<=5000)
  (jw:∀w,γ.ρ.gh w l lg dp->Calls Tryz.prog F args w λ e w'=>∃y,e=.returned (eb y)/\t.at_ w' (eI w.heap.size w') y/\bh γ.ρ w w' r lg (dp || decide (32 < t.depth)))
  (uf:∀a' w,a'.defers=a0.defers->γ.acc fy 36 (acc++ [t]) w->bh γ.ρ γ.W0 w r lg (dp || decide (32 < t.depth))->wpList Tryz.prog [o0,o1,o2,o3,o4,o5,o6,o7,o8].toArray Q [] a' w):
  (Code.region id [o0,o1,o2,o3,o4,o5,o6,o7,o8].toArray true).wp Tryz.prog Q a0 w0:=by simp only[RS,Bool.and_eq_true,beq_iff_eq,Option.isNone_iff_eq_none] at tA;obtain⟨⟨⟨⟨⟨⟨⟨⟨⟨⟨⟨⟨⟨⟨⟨⟨⟨⟨⟨⟨⟨⟨⟨⟨⟨⟨⟨⟨⟨⟨⟨⟨⟨⟨⟨t0,uq⟩,t1⟩,ur⟩,t2⟩,uu⟩,t3⟩,uv⟩,t4⟩,t5⟩,JI⟩,ZU⟩,t6⟩,BL⟩,Mf⟩,t7⟩,JJ⟩,E6⟩,t8⟩,Mg⟩,Mh⟩,g0⟩,g1⟩,g2⟩,g3⟩,g4⟩,g5⟩,g6⟩,g7⟩,g8⟩,amC⟩,amD⟩,arU⟩,abz⟩,amE⟩,amF⟩:=tA;open zea in exact ZbN
theorem Ab (Ft:γ.Fit) {E:List PanicEntry->World->Prop}
  (hm:Tryz.prog.follows .mixedOrders=true) (aC:dn [o0,o1,o2,o3,o4,o5,o6,o7,o8] a0.tmps.size [o0,o1,o2,o3,o4,o5,o6,o7,o8] 0=true) (hz:dQ ([o0,o1,o2,o3,o4,o5,o6,o7,o8]++ []) [] 9=true) (tA:RS o0 o1 o2 o3 o4 o5 o6 o7 o8 s0 s1 d0 d1 d2 d3 d4 d5 d6=true)
  (JH:a0.eval (.tmp s0)=vs0) (Me:a0.eval (.tmp s1)=vs1)
  (hs0:vs0=.pointer (some ⟨γ.qb,γ.k,none⟩))
  (Us:∀ρ w,ρ (.tmp s0)=.pointer (some ⟨γ.qb,γ.k,none⟩)->w.cell? ⟨γ.qb,γ.k,none⟩=some v->(execOp ρ o0).run Tryz.prog w=.ok (.value v) w)
  (PZ:∀ρ w,ρ (.tmp s1)=vs1->w.cell? ⟨γ.pb,0,none⟩=some γ.ρ.ptr->(execOp ρ o1).run Tryz.prog w=.ok (.value γ.ρ.ptr) w)
  (iq:∀ρ w,cu ρ->ρ (.tmp d1)=γ.ρ.ptr->(execOp ρ o2).run Tryz.prog w=.ok (.enter F args) w)
  (Xl:∀ρ w,ρ (.tmp d0)=v->(execOp ρ o3).run Tryz.prog w=.ok (.value (.int .i64 (acc.length:Int))) w)
  (hz0:∀ρ w,cu ρ->(execOp ρ o4).run Tryz.prog w=.ok (.value (.slice (some ⟨w.heap.size,0,none⟩) 1 1)) (w.alloc (.cells dT 36)))
  (xG:GR [o0,o1,o2,o3,o4,o5,o6,o7,o8] 2 [5,6,7,8]=true) (A:γ.at_ fy 36 v acc w0)
  (jw:∀w,af w0 w->Calls Tryz.prog F args w λ e w'=>∃C,e=.panicked C/\E C w') (hQ:∀C a w,a.defers=a0.defers->E C w->Q (.panic C) a w):
  (Code.region id [o0,o1,o2,o3,o4,o5,o6,o7,o8].toArray true).wp Tryz.prog Q a0 w0:=by
 simp only[RS,Bool.and_eq_true,beq_iff_eq,Option.isNone_iff_eq_none] at tA;obtain⟨⟨⟨⟨⟨⟨⟨⟨⟨⟨⟨⟨⟨⟨⟨⟨⟨⟨⟨⟨⟨⟨⟨⟨⟨⟨⟨⟨⟨⟨⟨⟨⟨⟨⟨t0,uq⟩,t1⟩,ur⟩,t2⟩,uu⟩,t3⟩,uv⟩,t4⟩,t5⟩,JI⟩,ZU⟩,t6⟩,BL⟩,Mf⟩,t7⟩,JJ⟩,E6⟩,t8⟩,Mg⟩,Mh⟩,g0⟩,g1⟩,g2⟩,g3⟩,g4⟩,g5⟩,g6⟩,g7⟩,g8⟩,amC⟩,amD⟩,arU⟩,abz⟩,amE⟩,amF⟩:=tA;refine mo [] [o0,o1,o2,o3,o4,o5,o6,o7,o8] Tad 2 [5,6,7,8] E af af.refl (λ _ _ _=>af.trans) af.drew (λ i _ x=>if i=0 then x=(v)else if i=1 then x=(γ.ρ.ptr)else if i=3 then x=(.int .i64 (acc.length:Int))else True) (λ _ _ _ _ h _=>h) hm aC hz (by show 2 < 9;decide) xG ?_ hQ;refine⟨?_,?_,?_,?_,?_,Zc0,Zc0,Zc0,Zc0,trivial⟩
 ·refine .inr λ ρ w hcs hG hr=>?_
  rw[t0] at hr;have r0:=hr.1;simp only[uq] at r0;refine⟨g0,?_⟩;exact ae (Us ρ w ((r0.trans JH).trans hs0) ((A.later Ft hG).cell Ft)) ⟨af.refl _,rfl⟩
 ·refine .inr λ ρ w hcs hG hr=>?_
  rw[t1] at hr;have r0:=hr.1;simp only[ur] at r0;refine⟨g1,?_⟩;exact ZgG
 ·refine .inr λ ρ w hcs hG hr=>?_
  rw[t2] at hr;have r0:=hr.1;simp only[uu] at r0;refine⟨g2,?_⟩;have hrun:=iq ρ w hcs r0;exact Zd8
 ·refine .inr λ ρ w hcs hG hr=>?_
  rw[t3] at hr;have r0:=hr.1;simp only[uv] at r0;refine⟨g3,?_⟩;exact ae (Xl ρ w r0) ⟨af.refl _,rfl⟩
 ·refine .inr λ ρ w hcs hG hr=>?_
  rw[t4] at hr;refine⟨g4,?_⟩;exact ae (hz0 ρ w hcs) ⟨aa _ _,trivial⟩
end
end Go.Proofs.YtehhdlgjfdnafaaGreatDoor
