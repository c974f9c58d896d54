/- Parts of the proof. -/
import Derived.Test.YtehhdlgjfdnafaaGreatDoorXB16
import Derived.Test.YtehhdlgjfdnafaaGreatDoorXB17
import Derived.Test.YtehhdlgjfdnafaaGreatDoorXB18
namespace Go.Proofs.YtehhdlgjfdnafaaGreatDoor
variable{p:Prop}
set_option maxHeartbeats 90000000
set_option maxRecDepth 100000
open Go.Lib (hid)
open Go.ChangeShapes Go.WideShapes Go.ChangeAt Go.RowKit List
set_option linter.unusedVariables false
set_option linter.unusedSimpArgs false
def Ra (ρ:bp)(W:World)(lg dp:Bool)(l:aI)(e:Ending)(w':World):Prop:=
 GP ρ W eJ l (λ t r v w'=>∃y:Ex,v=dN y/\t.at_ w' (eC W.heap.size w') y/\aY ρ W w' r lg (dp || decide (32 < t.depth))) e w'
variable{ρ:bp}{w W:World}{lg dp b:Bool}{l r:aI}{t:Tr}{y:Ex}
theorem Ap(hg:ρ.g < w.heap.size)(hd:aY ρ w W r lg b)(hb:b=(dp || decide (32 < t.depth)))(ht:t.at_ W (eC (w.heap.size+1) W) y)(hp:eJ l=.ok (t,r)):Ra ρ w lg dp l (.returned (dN y)) (W.setRow w.heap.size (aT y).toArray):=
 GP.ok hp ⟨y,rfl,(Tr.at_.keep (iI W (Nat.lt_succ_self _) _) t y ht).more (Nat.le_succ _),hb▸hd.own hg (cH W w.heap.size _) (λ G e=>by injection e with e;omega)⟩
theorem bp.fU.deep(h:ρ.fU w l lg dp)(b:Bool):aY ρ w (w.setCell ⟨ρ.g,3,none⟩ (.bool b)) l lg b:=by have hB:=av.cC h.blk 3 (.bool b);exact⟨h.set hB (bu (aB (Below.refl _ _)) 3 _) h.of,bu (aB (Below.refl _ _)) 3 _⟩
theorem bp.fU.ala(h:ρ.fU w l lg dp)(b:Bool):aY ρ w (w.setCell ⟨ρ.g,2,none⟩ (.bool b)) l b dp:=by have hB:=av.cC h.blk 2 (.bool b);exact⟨h.set hB (bu (aB (Below.refl _ _)) 2 _) h.of,bu (aB (Below.refl _ _)) 2 _⟩
theorem kK (ρ:bp)(w:World)(l:aI)(lg dp:Bool)(h:ρ.fU w l lg dp):
  Calls Tryz.prog 120 #[ρ.ptr] w (Ra ρ w lg dp l):=by
 have bj:=h.nt;have hsm:=h.small;have Wh:=h.left.2;have hb:=aa w (.cells dF 36);have HQ:=hid (av.new w 36 dF);have HD:=hid (aY.aC h hb);have hm:=aqr ρ _ l lg dp (h.later hb);have hsz:(w.alloc (.cells dF 36)).heap.size=w.heap.size+1:=by simp
 clear h hb;unfold dF at hm hsz;go_enter Tryz.func120,Tryz.ntmps120;go_wp2_with fail;refine hm.mono ?_;clear hm;intro e w2 hp;rcases hp.cases with ⟨t,r,v,az,rfl,y,rfl,hat,d2⟩|⟨m,au,rfl,hg⟩;case inr=>have HG:=hid HD.out.grown;have HE:=hid au;clear hp HQ HD hsz au;go_wp2_with fail;exact aj rfl (GP.err HE.out ⟨rfl,ai HG.out hg⟩)
 have hs2:w.heap.size+1<=w2.heap.size:=by have:=d2.size;omega
 have hx:=aa w2 (.cells (aT y).toArray 36);have eP:=hid ((HD.out.trans d2).later hx);have jS:=hid ((d2.blk HQ.out Taa).later hx);have qW:=hid (av.new w2 36 (aT y).toArray);have pD:=(hat.more (show w.heap.size+1<=_ by omega)).later hx;have yP:=hid pD;obtain⟨acV,axa⟩:=Y7 l t r az;have hgd:=Tr.ajT (w:=w2.alloc (.cells (aT y).toArray 36)) (S:=eC (w.heap.size+1) _) (λ b hb=>hb.2) t y pD acV Taa _ (Below.refl _ _);have jh:=hid az;have hxg:w2.heap.size≠ρ.g:=by omega
 have hqg:w.heap.size < w2.heap.size:=by omega
 clear hp hat pD d2 az hx HQ HD hsz acV;unfold dN at*;unfold aT at*;go_upto_region 2 with fail;generalize (w2.alloc _)=W2 at*;generalize w2.heap.size=qx at*;obtain⟨c0,c1,c2,c3,f1,f2,f3⟩:=eP.out.at_.facts;cases Zg:dp
 ·rw[Zg] at c3;have HDP:=hid Zg;clear Zg;obtain⟨k0,k1,k2,k3,k4,k5,k6⟩:=eX (y:=y) qW.out;unfold bp.ptr;go_wp2_with fail;refine hgd.mono ?_;clear hgd;rintro e w3 ⟨rfl,b3⟩;have jR:=hid (eP.out.later b3);have mD:=hid (jS.out.later b3);have IZ:=hid (qW.out.later b3);have HT3:=hid (yP.out.later b3);clear b3 eP jS qW yP c0 c1 c2 c3 f1 f2 f3 k0 k1 k2 k3 k4 k5 k6;obtain⟨c0,c1,c2,c3,f1,f2,f3⟩:=jR.out.at_.facts;have hst:=jR.out.at_.deep (decide (32 < t.depth));have pj:=hid (jR.out.trans hst);have EH:=hid (mD.out.far (p:=⟨ρ.g,3,none⟩) Tad (.bool (decide (32 < t.depth))));have Ls:=hid (IZ.out.far (p:=⟨ρ.g,3,none⟩) Tad (.bool (decide (32 < t.depth))));have HT4:=hid (HT3.out.set (q:=ρ.g) Taa 3 (.bool (decide (32 < t.depth))));have hdec:decide ((t.depth:Int)> 32)=decide (32 < t.depth):=by rw[decide_eq_decide];omega
  generalize AP:decide (32 < t.depth)=bd at*;have HBD:=hid AP;clear AP hst jR mD IZ HT3;go_wp2_with (first
   |(refine wpList_load_row rfl 36 (.tmp 3) rfl qx rfl 36 (aT y).toArray (0,0) _ Ls.out Tryz.underlying36 rfl aF ?_)
   |(refine wpList_store_row rfl 36 (.tmp 2) (.tmp 18) rfl w.heap.size (aT y).toArray rfl rfl 36 dF EH.out aF rfl (cL _) ?_
     have HR:=hid (EH.out.row (aT y).toArray)))
  refine bodyPost_ret (v:=dN y) (results_cell_row Tryz.results120 _ _ w.heap.size 36 (aT y).toArray (0,0) _ rfl HR.out Tryz.underlying36 rfl aF) rfl ?_;exact Ap bj pj.out (by rw[HDP.out];exact HBD.out.symm) HT4.out jh.out
 ·rw[Zg] at c3;have HDP:=hid Zg;clear Zg hgd;have hst:=eP.out.at_.deep true;have pj:=hid (eP.out.trans hst);have EH:=hid (jS.out.far (p:=⟨ρ.g,3,none⟩) Tad (.bool true));have Ls:=hid (qW.out.far (p:=⟨ρ.g,3,none⟩) Tad (.bool true));have HT4:=hid (yP.out.set (q:=ρ.g) Taa 3 (.bool true));clear hst eP jS qW yP;unfold aT at Ls;unfold bp.ptr;go_wp2_with (first
   |(refine wpList_load_row rfl 36 (.tmp 3) rfl qx rfl 36 (aT y).toArray (0,0) _ Ls.out Tryz.underlying36 rfl aF ?_)
   |(refine wpList_store_row rfl 36 (.tmp 2) (.tmp 18) rfl w.heap.size (aT y).toArray rfl rfl 36 dF EH.out aF rfl (cL _) ?_
     have HR:=hid (EH.out.row (aT y).toArray)))
  refine bodyPost_ret (v:=dN y) (results_cell_row Tryz.results120 _ _ w.heap.size 36 (aT y).toArray (0,0) _ rfl HR.out Tryz.underlying36 rfl aF) rfl ?_;exact Ap bj pj.out (by rw[HDP.out];rfl) HT4.out jh.out
def Zh (ρ:bp)(W:World)(lg dp:Bool)(s:List UInt8)(l:aI)(e:Ending)(w':World):Prop:=
 GP ρ W (gR s) l (λ ts r v w'=>∃y:Sl,v=fF y/\eE.sl w' (eC W.heap.size w') y ts/\aY ρ W w' r lg (dp || cZ ts)) e w'
variable{s:List UInt8}
theorem Uq(h:ar s l=false):gR s l=.ok ([],l):=by unfold gR;exact Zgz
theorem Pj(h:ar s l=true):gR s l=(do let x <- eJ;return [x]:Ps (List Tr)) l.tail:=by unfold gR;exact Zgw
theorem wF (ρ:bp)(w:World)(l:aI)(lg dp:Bool)(h:ρ.fU w l lg dp)(s:List UInt8):
  Calls Tryz.prog 122 #[ρ.ptr,.string ⟨s.toArray⟩] w (Zh ρ w lg dp s l):=by
 have bj:=h.nt;have hm:=br ρ w l lg dp h ⟨s.toArray⟩;rw[show(⟨s.toArray⟩:ByteArray).data.toList=s by simp] at hm;cases hh:ar s l
 ·rw[hh,ck hh] at hm;have HE:=hid (Uq hh);clear h hh;go_enter Tryz.func122,Tryz.ntmps122;go_wp2_with fail;refine hm.mono ?_;clear hm;rintro e w1 ⟨rfl,d⟩;go_wp2_with fail;go_ret;exact GP.ok HE.out ⟨Sl.nil,rfl,eE.mb _ _,by rw[show cZ []=false from rfl,Bool.or_false];exact d⟩
 ·rw[hh,cw hh] at hm;have HE:=hid (Pj hh);clear h hh;go_enter Tryz.func122,Tryz.ntmps122;go_wp2_with fail;refine hm.mono ?_;clear hm;rintro e w1 ⟨rfl,d⟩;go_wp2_with fail;refine(kK ρ w1 l.tail lg dp d.at_).mono ?_;intro e w2 hp;rcases hp.cases with ⟨t,r,v,az,rfl,y,rfl,hat,d2⟩|⟨m,au,rfl,hg⟩
  ·have hx:=aa w2 (.cells (aT y).toArray 36);have hs1:=d.size;have hs2:=d2.size;have HS:=hid (XQ (S:=eC w.heap.size (w2.alloc (.cells (aT y).toArray 36))) (av.new w2 36 (aT y).toArray) ⟨by omega,by simp⟩ ((hat.more hs1).later hx));have HD:=hid ((d.trans d2).later hx);have jh:=hid (HE.out.trans (ag az));clear hp az hat d d2 hx hs1 hs2;unfold dN;unfold aT at*;go_wp2_with fail;go_ret;refine GP.ok (x:=[t]) (r:=r) (jh.out.trans rfl) ⟨⟨some ⟨w2.heap.size,0,none⟩,1,1⟩,rfl,HS.out,?_⟩;have hdb:cZ [t]=decide (32 < t.depth):=by simp[cZ]
   rw[hdb];exact HD.out
  ·have HG:=hid d.grown;have HF:=hid (HE.out.trans (ak au));clear hp au d;go_wp2_with fail;exact aj rfl (GP.err HF.out ⟨rfl,ai HG.out hg⟩)
variable{α:Type}
def vo(ρ:bp)(W0:World)(Di pL:α->Bool)(el:Ps α)(St:List α->World->Prop)(acc:List α)(lg dp:Bool)(l:aI)(e:Ending)(W':World):Prop:=match el l with
 | .ok (x,r)=>e=.returned (.tuple #[])/\St (acc++ [x]) W'/\aY ρ W0 W' r (lg || Di x) (dp || pL x)
 | .error n=>ig ρ W0 n e W'
variable{Di pL:α->Bool}{el:Ps α}{St:List α->World->Prop}{x:α}{W':World}
theorem vo.ok{W0:World}    {acc:List α}    (h:el l=.ok (x,r))(hs:St (acc++ [x]) W')(hd:aY ρ W0 W' r (lg || Di x) (dp || pL x)):vo ρ W0 Di pL el St acc lg dp l (.returned (.tuple #[])) W':=by unfold vo;rw[h];exact⟨rfl,hs,hd⟩
variable{n:Nat}{e:Ending}
theorem vo.err{W0:World}    {acc:List α}     (h:el l=.error n)(k:ig ρ W0 n e W'):vo ρ W0 Di pL el St acc lg dp l e W':=by unfold vo;rw[h];exact k
structure afx {α:Type} (ρ:bp) (W0:World) (Di pL:α->Bool) (el:Ps α) (fK:FuncId) (lD:Array Value) (St:List α->World->Prop):Prop where
 Ur:cK el
 en:∀args w,(callFunc fK args).run Tryz.prog w=.ok (.enter fK args) w
 keep:∀acc w w',St acc w->w.grownBy w' (some ρ.g)->W0.heap.size<=w.heap.size->St acc w'
 read:∀acc W l lg dp,acc.length<=5000->St acc W->aY ρ W0 W l lg dp->Calls Tryz.prog fK lD W (vo ρ W0 Di pL el St acc lg dp l)
def fM(ρ:bp)(W0:World)(Di pL:α->Bool)(el:Ps α)(St:List α->World->Prop)(lg dp:Bool)(l:aI)(e:Ending)(W':World):Prop:=
 match dI el l with
 | .ok (xs,r)=>e=.returned (.tuple #[])/\St xs W'/\aY ρ W0 W' r ((lg || xs.any Di)|| decide (64 < xs.length)) (dp || xs.any pL)
 | .error n=>ig ρ W0 n e W'
section
variable {α:Type} {ρ:bp} {W0:World} {Di pL:α->Bool} {el:Ps α} {St:List α->World->Prop} {lg dp:Bool} {l:aI}
theorem fM.ok {xs:List α} {r:aI} {W':World}(h:dI el l=.ok (xs,r))(hs:St xs W')(hd:aY ρ W0 W' r ((lg || xs.any Di)|| decide (64 < xs.length)) (dp || xs.any pL)):fM ρ W0 Di pL el St lg dp l (.returned (.tuple #[])) W':=by unfold fM;rw[h];exact⟨rfl,hs,hd⟩
theorem fM.err {n:Nat} {e:Ending} {W':World}(h:dI el l=.error n)(k:ig ρ W0 n e W'):fM ρ W0 Di pL el St lg dp l e W':=by unfold fM;rw[h];exact k
end
section
variable {α:Type} {l:aI}
theorem aap {el:Ps α}(hs:cK el) {acc:List α} {l:aI}(h:ar bk l=false):xB el acc l=.ok (acc,l):=by rw[xC hs,bQ];simp only[h];rfl
theorem Zi {el:Ps α}(hs:cK el) {acc:List α} {l:aI}(h:ar bk l=true):xB el acc l=(do let y <- el;xB el (acc++ [y]):Ps (List α)) l.tail:=by rw[xC hs,bQ];simp only[h,if_true]
end
theorem Dj(ρ:bp)(W0:World)(Di pL:α->Bool)(el:Ps α)(fK:FuncId)(lD:Array Value)(St:List α->World->Prop)(L:afx ρ W0 Di pL el fK lD St)(w:World)(l:aI)(lg dp:Bool)(h:aY ρ W0 w l lg dp)(h0:St [] w)(bj:ρ.g < W0.heap.size):
  Calls Tryz.prog 115 #[ρ.ptr,.func (.func fK) #[] lD] w (fM ρ W0 Di pL el St lg dp l):=by
 have HH:=hid h;have hsm:=h.at_.small;have Wh:=h.at_.left.2;have en:=L.en;have MU:=L.read [] w l lg dp Tae h0 h;have HL:=hid L;clear h h0 L;go_enter Tryz.func115,Tryz.ntmps115;go_wp2_with fail;refine MU.mono ?_;clear MU;intro e w1 hp;unfold vo at hp
 cases hx:el l with
 | error m=>rw[hx] at hp;obtain⟨rfl,hg⟩:=hp;have HF:=hid (show dI el l=.error m by rw[Il];exact ak hx);clear hx;go_wp2_with fail;exact aj rfl (fM.err HF.out ⟨rfl,hg⟩)
 | ok z=>
   obtain⟨x,r⟩:=z;rw[hx] at hp;obtain⟨rfl,hs,hd⟩:=hp;have vx:=HL.out.Ur.len hx;have HE:=hid (show dI el l=xB el [x] r by rw[Il];exact ag hx);have HS:=hid hs;have HD:=hid hd;clear hx hs hd HH;go_wp2_with fail;go_loopg [4] r.length (λ k u wr=>∃(acc:List α) (l':aI),0 < acc.length/\acc.length+l'.length<=5001/\l'.length<=k/\u=.int .i64 acc.length/\St acc wr/\aY ρ W0 wr l' (lg || acc.any Di) (dp || acc.any pL)/\dI el l=xB el acc l');case atStart=>exact⟨[x],r,by simp,by simp;omega,Nat.le_refl _,rfl,HS.out,by simpa using HD.out,HE.out⟩
   case round=>
    obtain⟨acc,l',Nf,axc,hk,rfl,hs,hd,he⟩:=hrel;have uD:=hid hs;have eP:=hid hd;have yI:=hid he;have hm:=br ρ wr l' (lg || acc.any Di) (dp || acc.any pL) hd.at_ ⟨#[44]⟩;rw[show(⟨#[44]⟩:ByteArray).data.toList=bk from rfl] at hm;clear hs hd he HS HD HE;have hsz:=eP.out.size;cases hh:ar bk l'
    ·rw[hh,ck hh] at hm;have HF:=hid (yI.out.trans (aap HL.out.Ur hh));clear hh;go_wp2_with fail;refine hm.mono ?_;clear hm;rintro e w2 ⟨rfl,d⟩;have HS3:=hid (HL.out.keep _ _ _ uD.out d.grown hsz);have jR:=hid (eP.out.trans d);clear d uD eP yI;obtain⟨lg2,afy⟩:∃b:Bool,b=(lg || acc.any Di):=⟨_,rfl⟩;rw[<- afy] at jR;have alb:=hid afy;clear afy;obtain⟨c0,c1,c2,c3,f1,f2,f3⟩:=jR.out.at_.facts;have Yu:=jR.out.size;have hst:=jR.out.at_.ala (lg2 || decide (64 < acc.length));have HS4:=hid (HL.out.keep _ _ _ HS3.out hst.grown Yu);have pj:=hid (jR.out.trans hst);clear hst;unfold bp.ptr;cases EC:lg2
     ·rw[EC] at c2;have HLG:=hid EC;have hdec:decide ((acc.length:Int)> 64)=decide (64 < acc.length):=by rw[decide_eq_decide];omega
      rw[EC,Bool.false_or] at HS4 pj;have HX:=hid (show fM ρ W0 Di pL el St lg dp l (.returned (.tuple #[])) _ from fM.ok HF.out HS4.out (by rw[<- alb.out,HLG.out,Bool.false_or];exact pj.out));clear EC;generalize decide (64 < acc.length)=bd at*;go_wp2_with fail;go_end0;exact HX.out
     ·rw[EC] at c2;have HLG:=hid EC;rw[EC,Bool.true_or] at HS4 pj;have HX:=hid (show fM ρ W0 Di pL el St lg dp l (.returned (.tuple #[])) _ from fM.ok HF.out HS4.out (by rw[<- alb.out,HLG.out,Bool.true_or];exact pj.out));clear EC;go_wp2_with fail;go_end0;exact HX.out
    ·rw[hh,cw hh] at hm;have HF:=hid (yI.out.trans (Zi HL.out.Ur hh));have hhl:=oB hh;clear hh;go_wp2_with fail;refine hm.mono ?_;clear hm;rintro e w2 ⟨rfl,d⟩;have MU:=HL.out.read acc w2 l'.tail (lg || acc.any Di) (dp || acc.any pL) Taa (HL.out.keep _ _ _ uD.out d.grown hsz) (eP.out.trans d);clear d uD eP yI;go_wp2_with fail;refine MU.mono ?_;clear MU;intro e w3 hp;unfold vo at hp
     cases hx:el l'.tail with
     | error m=>rw[hx] at hp;obtain⟨rfl,hg⟩:=hp;have HG:=hid (HF.out.trans (ak hx));clear hx;go_wp2_with fail;exact aj rfl (fM.err HG.out ⟨rfl,hg⟩)
     | ok z=>
       obtain⟨x2,r2⟩:=z;rw[hx] at hp;obtain⟨rfl,hs,hd⟩:=hp;have axd:=HL.out.Ur.len hx;have HG:=hid (HF.out.trans (ag hx));have O0:=hid hs;have Eh:=hid hd;clear hx hs hd;go_wp2_with fail;go_roundg (r2.length);case measure=>omega
       case rel=>exact⟨acc++ [x2],r2,by simp,by simp;omega,Nat.le_refl _,by simp,O0.out,by have:=Eh.out;simpa [any_append,Bool.or_assoc] using this,HG.out⟩
def sy(ρ:bp)(W0:World)(pL:α->Bool)(el:Ps α)(St:List α->World->Prop)(acc:List α)(lg dp:Bool)(l:aI)(e:Ending)(W':World):Prop:=match el l with
 | .ok (x,r)=>e=.returned (.tuple #[])/\St (acc++ [x]) W'/\aY ρ W0 W' r lg (dp || pL x)
 | .error n=>ig ρ W0 n e W'
theorem sy.ok{W0:World}    {acc:List α}    (h:el l=.ok (x,r))(hs:St (acc++ [x]) W')(hd:aY ρ W0 W' r lg (dp || pL x)):sy ρ W0 pL el St acc lg dp l (.returned (.tuple #[])) W':=by unfold sy;rw[h];exact⟨rfl,hs,hd⟩
theorem sy.err{W0:World}    {acc:List α}     (h:el l=.error n)(k:ig ρ W0 n e W'):sy ρ W0 pL el St acc lg dp l e W':=by unfold sy;rw[h];exact k
structure Lst {α:Type} (ρ:bp) (W0:World) (pL:α->Bool) (el:Ps α) (fK:FuncId) (lD:Array Value) (St:List α->World->Prop):Prop where
 Ur:cK el
 en:∀args w,(callFunc fK args).run Tryz.prog w=.ok (.enter fK args) w
 keep:∀acc w w',St acc w->w.grownBy w' (some ρ.g)->W0.heap.size<=w.heap.size->St acc w'
 read:∀acc W l lg dp,acc.length<=5000->St acc W->aY ρ W0 W l lg dp->Calls Tryz.prog fK lD W (sy ρ W0 pL el St acc lg dp l)
def iK(ρ:bp)(W0:World)(pL:α->Bool)(el:Ps α)(St:List α->World->Prop)(lg dp:Bool)(l:aI)(e:Ending)(W':World):Prop:=
 match dI el l with
 | .ok (xs,r)=>e=.returned (.tuple #[])/\St xs W'/\aY ρ W0 W' r (lg || decide (64 < xs.length)) (dp || xs.any pL)
 | .error n=>ig ρ W0 n e W'
section
variable {α:Type} {ρ:bp} {W0:World} {pL:α->Bool} {el:Ps α} {St:List α->World->Prop} {lg dp:Bool} {l:aI}
theorem iK.ok {xs:List α} {r:aI} {W':World}(h:dI el l=.ok (xs,r))(hs:St xs W')(hd:aY ρ W0 W' r (lg || decide (64 < xs.length)) (dp || xs.any pL)):iK ρ W0 pL el St lg dp l (.returned (.tuple #[])) W':=by unfold iK;rw[h];exact⟨rfl,hs,hd⟩
theorem iK.err {n:Nat} {e:Ending} {W':World}(h:dI el l=.error n)(k:ig ρ W0 n e W'):iK ρ W0 pL el St lg dp l e W':=by unfold iK;rw[h];exact k
end
theorem Gb(xs:List α)(b:Bool):(b || xs.any λ _=>false)=b:=by rw[show(xs.any λ _=>false)=false by simp];simp
theorem nS(ρ:bp)(W0:World)(pL:α->Bool)(el:Ps α)(fK:FuncId)(lD:Array Value)(St:List α->World->Prop)(L:Lst ρ W0 pL el fK lD St)(w:World)(l:aI)(lg dp:Bool)(h:aY ρ W0 w l lg dp)(h0:St [] w)(bj:ρ.g < W0.heap.size):
  Calls Tryz.prog 115 #[ρ.ptr,.func (.func fK) #[] lD] w (iK ρ W0 pL el St lg dp l):=by
 have LL:afx ρ W0 (λ _=>false) pL el fK lD St:=⟨L.Ur,L.en,L.keep,λ acc W l lg dp hn hs hd=>(L.read acc W l lg dp hn hs hd).mono λ e W' hp=>by
  unfold sy at hp
  cases hx:el l with
  | error m=>rw[hx] at hp;exact vo.err hx hp
  | ok z=>
    obtain⟨x,r⟩:=z
    rw[hx] at hp
    obtain⟨rfl,hs,hd⟩:=hp
    exact vo.ok hx hs (by rw[Bool.or_false];exact hd)⟩
 refine(Dj ρ W0 (λ _=>false) pL el fK lD St LL w l lg dp h h0 bj).mono λ e W' hp=>?_
 unfold fM at hp
 cases hx:dI el l with
 | error m=>rw[hx] at hp;exact iK.err hx hp
 | ok z=>obtain⟨xs,r⟩:=z;rw[hx] at hp;obtain⟨rfl,hs,hd⟩:=hp;rw[Gb] at hd;exact iK.ok hx hs hd
structure vp where
 ρ:bp
 W0:World
 TQ:TypeId
 qb:Nat
 k:Nat
 pb:Nat
 B:Nat
 cs:Array Value
 os:List (Nat×TypeId×Array Value)
 Kp:World->(Nat->Prop)->Prop
structure vp.Fit (γ:vp):Prop where
 gg:γ.ρ.g < γ.W0.heap.size
 q0:γ.W0.heap.size<=γ.qb
 p0:γ.ρ.g < γ.pb
 pq:γ.pb≠γ.qb
 qB:γ.qb < γ.B
 pB:γ.pb < γ.B
 os:∀x∈γ.os,γ.W0.heap.size<=x.1/\x.1≠γ.qb/\x.1 < γ.B
 kS:γ.k < γ.cs.size
 kp:∀w w' S S',γ.Kp w S->(∀b,S b->(∀o,w'.cell? ⟨b,o,none⟩=w.cell? ⟨b,o,none⟩)/\S' b)->γ.Kp w' S'
structure vp.at_ {α:Type} (γ:vp) (E:El α) (T:TypeId) (v:Value) (acc:List α) (W:World):Prop where
 blk:av W γ.qb γ.TQ (γ.cs.setIfInBounds γ.k v)
 row:jw E T W γ.B v acc
 kp:γ.Kp W (nG γ.B v W)
 sz:γ.B<=W.heap.size
 uS:av W γ.pb 77 #[γ.ρ.ptr]
 Zj:∀x∈γ.os,av W x.1 x.2.1 x.2.2
def vp.acc(γ:vp)(E:El α)(T:TypeId)(acc:List α)(W:World):Prop:=∃v,γ.at_ E T v acc W
section
variable {α:Type} {γ:vp} {E:El α} {T:TypeId} {v v':Value} {acc:List α} {W W' W2:World}
theorem vp.at_.later (A:γ.at_ E T v acc W)(F:γ.Fit)(h:Below W.heap.size W W'):γ.at_ E T v acc W':=
 ⟨A.blk.later h,A.row.later h,F.kp _ _ _ _ A.kp (fJ h),Nat.le_trans A.sz h.size,A.uS.later h,λ x hx=>(A.Zj x hx).later h⟩
theorem vp.at_.grown (A:γ.at_ E T v acc W)(F:γ.Fit)(h:W.grownBy W' (some γ.ρ.g)):γ.at_ E T v acc W':=by have h1:=F.gg;have h2:=F.q0;have h3:=F.p0;have h4:=F.qB;exact⟨A.blk.grown h Tad,A.row.grown h Taa,F.kp _ _ _ _ A.kp (oz h Taa),Nat.le_trans A.sz h.size,A.uS.grown h Tad,λ x hx=>(A.Zj x hx).grown h (by have:=F.os x hx;simp;omega)⟩
theorem vp.at_.ge (A:γ.at_ E T v acc W) {G:Nat}(hG:v.ownBlock=some G):γ.B<=G/\G < W.heap.size:=A.row.Iz hG
theorem vp.at_.cell (A:γ.at_ E T v acc W)(F:γ.Fit):W.cell? ⟨γ.qb,γ.k,none⟩=some v:=by rw[A.blk.cell];simp[F.kS]
theorem vp.at_.ptr (A:γ.at_ E T v acc W):W.cell? ⟨γ.pb,0,none⟩=some γ.ρ.ptr:=A.uS.cell 0
theorem vp.at_.push {n0:Nat} {x:α} {y:E.β} {l:aI} {lg dp:Bool}(A:γ.at_ E T v acc W)(F:γ.Fit)(D:aY γ.ρ γ.W0 W l lg dp)(hr:E.rel W (eC n0 W) x y)(Ai:γ.B<=n0)(hv0:∀G,v.ownBlock=some G->G < n0) {ys:List E.β}(ha:fE (E.rel W (nG γ.B v W)) acc ys)
  {W1:World} (hl:Below W.heap.size W W1) (lJ:W1.grownBy W2 v.ownBlock) (oQ:cJ E.f T E.size W2 γ.B v' (ys++ [y])) (hv:v'.ownBlock=v.ownBlock\/v'.ownBlock=some W1.heap.size):
  W2.cell? ⟨γ.qb,γ.k,none⟩=some v/\W2.frozen? ⟨γ.qb,γ.k,none⟩=false/\γ.at_ E T v' (acc++ [x]) (W2.setCell ⟨γ.qb,γ.k,none⟩ v')/\aY γ.ρ γ.W0 (W2.setCell ⟨γ.qb,γ.k,none⟩ v') l lg dp:=by
 have h1:=F.gg;have h2:=F.q0;have h3:=F.p0;have h4:=F.qB;have h5:=F.pB;have h6:=F.pq;have O8:∀(q:Nat),q < γ.B->some q≠v.ownBlock:=λ q hq e'=>by have:=(A.ge e'.symm).1;omega
 have hX:=(A.blk.later hl).grown lJ (O8 _ h4);have Lf:=hX.cC γ.k v';rw[Array.setIfInBounds_setIfInBounds] at Lf;have oV:=tG (B:=γ.B) lJ hv;have IP:∀b,eC n0 W b->(∀o,(W2.setCell ⟨γ.qb,γ.k,none⟩ v').cell? ⟨b,o,none⟩=W.cell? ⟨b,o,none⟩)/\nG γ.B v' (W2.setCell ⟨γ.qb,γ.k,none⟩ v') b:=λ b hb=>by obtain⟨c1,s1⟩:=CV Ai hv0 b hb;obtain⟨c2,s2⟩:=fJ hl b s1;obtain⟨c3,s3⟩:=oV b s2;obtain⟨c4,s4⟩:=tH h4 γ.k v' b s3;exact⟨λ o=>(c4 o).trans ((c3 o).trans ((c2 o).trans (c1 o))),s4⟩
 have hol:∀b,nG γ.B v W b->(∀o,(W2.setCell ⟨γ.qb,γ.k,none⟩ v').cell? ⟨b,o,none⟩=W.cell? ⟨b,o,none⟩)/\nG γ.B v' (W2.setCell ⟨γ.qb,γ.k,none⟩ v') b:=λ b hb=>by obtain⟨c2,s2⟩:=fJ hl b hb;obtain⟨c3,s3⟩:=oV b s2;obtain⟨c4,s4⟩:=tH h4 γ.k v' b s3;exact⟨λ o=>(c4 o).trans ((c3 o).trans (c2 o)),s4⟩
 have aqv:∀G,v'.ownBlock=some G->γ.qb < G:=λ G hG=>by have:=(oQ.lt hG).2.1;omega
 refine⟨by rw[hX.cell];simp[F.kS],hX.frozen _,⟨Lf,⟨ys++ [y],oQ.keep λ g hg=>Below.heap_setCell W2 ⟨γ.qb,γ.k,none⟩ v' g (by have:=aqv g hg;simp;omega),fE.append (ha.imp λ _ _=>E.keep hol) (.one (E.keep IP hr))⟩,F.kp _ _ _ _ A.kp hol,by have:=A.sz;have:=hl.size;have:=lJ.size;simp[World.setCell];omega,((A.uS.later hl).grown lJ (O8 _ h5)).far (p:=⟨γ.qb,γ.k,none⟩) Tad v',λ z hz=>?_⟩,?_⟩
 ·obtain⟨a,b,c⟩:=F.os z hz;exact(((A.Zj z hz).later hl).grown lJ (O8 _ c)).far (p:=⟨γ.qb,γ.k,none⟩) Tad v'
 ·exact((D.later hl).own h1 lJ (λ G hG=>by have:=(A.ge hG).1;omega)).far h1 h2 _ _
end
theorem Lt:∀y,∀u∈iX.f y,u.oneCell'=true:=by intro y u hu;simp[iX,aT] at hu;exact ZeH
theorem Us:∀y,∀u∈kt.f y,u.oneCell'=true:=by intro y u hu;simp[kt,aT] at hu;exact ZeH
theorem aaq:∀y,∀u∈sT.f y,u.oneCell'=true:=by intro y u hu;simp[sT,aT] at hu;exact ZeH
theorem Ja:∀y,∀u∈sS.f y,u.oneCell'=true:=by
 intro y u hu;simp[sS] at hu;rcases hu with rfl | rfl <;> rfl
theorem row_one:∀y,∀u∈rR.f y,u.oneCell'=true:=by intro y u hu;simp[rR] at hu;rcases hu with rfl;rfl
theorem afA:∀y,∀u∈eE.f y,u.oneCell'=true:=by intro y u hu;simp[eE,aT] at hu;exact Zhp
variable{f:α->List Value}{size:Nat}{v:Value}
theorem mY{e:TypeId}   {B:Nat}  {l:List α}(h:cJ f e size w B v l):∃A n c,v=.slice A n c:=by obtain⟨A,c,h⟩:=h.form;exact⟨A,_,c,h⟩
variable{γ:vp}{E:El α}{T:TypeId}{ops:Array Oper}{rest:List Oper}{o:Oper}{a:Act}{Q:Exit->Act->World->Prop}
theorem dZ{acc:List α}      (A:γ.at_ E T v acc W)(F:γ.Fit)(hgd:o.guard=none)(s x:Operand)(t:TypeId)
  (ho:o.op=.call { callee:=.builtin .append,args:= #[s,x],argTypes:= #[t,t] })
  (z:Value) (bytes:Nat) (ht:Tryz.prog.underlying t=some (.slice T)) (mH:(Tryz.prog.info? T).map (λ i=>(i.zero,i.size,i.bytes))=some (some z,E.size,bytes)) (hzs:z.cells.size=E.size) (hsz:0 < E.size)
  (y:E.β) (h1:∀u∈E.f y,u.oneCell'=true) (hs:a.eval s=v) (hx:a.eval x=.slice (some ⟨W.heap.size,0,none⟩) 1 1)
  (hlen:(acc.length+1)*bytes<=140737488355328) (sH:acc.length+1<=140737488355328) (hB:γ.B<=W.heap.size)
  (h:∀(ys:List E.β) v' W2,fE (E.rel W (nG γ.B v W)) acc ys->cJ E.f T E.size W2 γ.B v' (ys++ [y])->(W.alloc (.cells (E.f y).toArray T)).grownBy W2 v.ownBlock->(v'.ownBlock=v.ownBlock\/v'.ownBlock=some (W.alloc (.cells (E.f y).toArray T)).heap.size)->wpList Tryz.prog ops Q rest (a.put o.dst v') W2):wpList Tryz.prog ops Q (o::rest) a (W.alloc (.cells (E.f y).toArray T)):=by obtain⟨ys,hown,ha⟩:=A.row.has;have hl:=ha.len;exact wq hgd s x t ho z bytes ht mH hzs hsz y (E.hf y) h1 hs (hown.later (aa W _)) W.heap.size hx (av.new W _ _) (by rw[hl];exact hlen) (by rw[hl];exact sH) Tad (λ v' W2 h2 h3 h4=>h ys v' W2 ha h2 h3 h4)
theorem alc (b0 b1 b2 b3 b4 b5 b6 u0 u1 u2 u3 u4 u5 u6:Value)(C:List Value):∀A:List Value,(((((((A++(b0::b1::b2::b3::b4::b5::b6::C)).set A.length u0).set (A.length+1) u1).set (A.length+2) u2).set (A.length+3) u3).set (A.length+4) u4).set (A.length+5) u5).set (A.length+6) u6=A++(u0::u1::u2::u3::u4::u5::u6::C)
 | []=>rfl
 | a::A=>by have ih:=alc b0 b1 b2 b3 b4 b5 b6 u0 u1 u2 u3 u4 u5 u6 C A;simp only[cons_append,length_cons,show∀k,A.length+1+k=(A.length+k)+1 from λ k=>by omega,set_cons_succ,ih]
def py (w:World)(g off:Nat)(y:Ex):World:=((((((w.setCell ⟨g,off,none⟩ (.int .u8 y.op)).setCell ⟨g,off+1,none⟩ (.int .u8 y.v.k)).setCell ⟨g,off+2,none⟩ (.int .i64 y.v.n)).setCell ⟨g,off+3,none⟩ (.string y.v.s)).setCell ⟨g,off+4,none⟩ (.string y.name)).setCell ⟨g,off+5,none⟩ (.int .i64 y.width)).setCell ⟨g,off+6,none⟩ (.slice y.A y.n y.c)
theorem Ut (w:World)(g off:Nat)(y:Ex)(b:Nat)(h:b≠g):(py w g off y).heap[b]?=w.heap[b]?:=by
 unfold py;have f:=λ(w:World) (i:Nat) (u:Value)=>Below.heap_setCell w ⟨g,i,none⟩ u b Tam
 rw[f,f,f,f,f,f,f]
theorem Dk (w:World)(g off:Nat)(y:Ex):(py w g off y).heap.size=w.heap.size:=by simp[py,World.setCell]
theorem Lu (w:World)(g off:Nat)(y:Ex):w.grownBy (py w g off y) (some g):=
 bu (bu (bu (bu (bu (bu (bu (aB (Below.refl _ _)) _ _) _ _) _ _) _ _) _ _) _ _) _ _
variable{G m c:Nat}{ys:List Ex}{z:Ex}
theorem Zk{B:Nat}  (h:cJ aT T 7 w B (.slice (some ⟨G,0,none⟩) m c) (ys++ [z])):cJ aT T 7 (py w G (ys.length*7) y) B (.slice (some ⟨G,0,none⟩) m c) (ys++ [y]):=by
 obtain⟨h1,h2⟩:=h
 have hA:(ys.flatMap aT).length=ys.length*7:=by
  clear h1 h2
  induction ys with
  | nil=>rfl
  | cons a l ih=>simp only[flatMap_cons,length_append,ih,length_cons,show(aT a).length=7 from rfl];omega
 rcases h2 with ⟨h2,_⟩|⟨g,cap,cur,hv,hb,hh,hnc,hcm,hcs,zU⟩
 ·injection h2 with h2;cases h2
 injection hv with hv1 hv2 hv3;injection hv1 with hv1;injection hv1 with hv1 _ _;subst hv1 hv3
 have Zl:cur.toList=ys.flatMap aT++(aT z++cur.toList.drop ((ys++ [z]).length*7)):=by
  conv=>lhs;rw[<- take_append_drop ((ys++ [z]).length*7) cur.toList,zU]
  rw[flatMap_append,flatMap_cons,flatMap_nil,append_nil,append_assoc]
 have hB:av w G T cur:=hh;have hP:av (py w G (ys.length*7) y) G T _:=((((((hB.cC (ys.length*7) (.int .u8 y.op)).cC (ys.length*7+1) (.int .u8 y.v.k)).cC (ys.length*7+2) (.int .i64 y.v.n)).cC (ys.length*7+3) (.string y.v.s)).cC (ys.length*7+4) (.string y.name)).cC (ys.length*7+5) (.int .i64 y.width)).cC (ys.length*7+6) (.slice y.A y.n y.c);refine⟨by simp only[flatMap_append,flatMap_cons,flatMap_nil,append_nil,length_append,hA,length_cons,length_nil,show(aT y).length=7 from rfl];omega,.inr ⟨G,c,_,by rw[hv2,length_append,length_append];rfl,hb,hP,by rw[length_append] at hnc ⊢;exact hnc,hcm,by simpa using hcs,?_⟩⟩;simp only[Array.toList_setIfInBounds];rw[Zl,<- hA];have e:=alc (.int .u8 z.op) (.int .u8 z.v.k) (.int .i64 z.v.n) (.string z.v.s) (.string z.name) (.int .i64 z.width) (.slice z.A z.n z.c) (.int .u8 y.op) (.int .u8 y.v.k) (.int .i64 y.v.n) (.string y.v.s) (.string y.name) (.int .i64 y.width) (.slice y.A y.n y.c) (cur.toList.drop ((ys++ [z]).length*7)) (ys.flatMap aT);have e2:ys.flatMap aT++(aT z++cur.toList.drop ((ys++ [z]).length*7))=ys.flatMap aT++(.int .u8 z.op:: .int .u8 z.v.k:: .int .i64 z.v.n:: .string z.v.s:: .string z.name:: .int .i64 z.width:: .slice z.A z.n z.c::cur.toList.drop ((ys++ [z]).length*7)):=rfl;rw[e2,e,flatMap_append,flatMap_cons,flatMap_nil,append_nil];have e3:ys.flatMap aT++(.int .u8 y.op:: .int .u8 y.v.k:: .int .i64 y.v.n:: .string y.v.s:: .string y.name:: .int .i64 y.width:: .slice y.A y.n y.c::cur.toList.drop ((ys++ [z]).length*7))=(ys.flatMap aT++aT y)++cur.toList.drop ((ys++ [z]).length*7):=by rw[append_assoc];rfl
 rw[e3,take_append_of_le_length Taz,take_of_length_le Taz]
def zeroE:Ex:=⟨0,⟨0,0,⟨#[]⟩⟩,⟨#[]⟩,0,none,0,0⟩
structure Lv (γ:vp) (v:Value) (acc:List Tr) (lg dp:Bool) (l r:aI) (t:Tr) (n0:Nat) (c z:Option Value) (w:World):Prop where
 sz:n0<=w.heap.size
 at_:γ.at_ eE 36 v acc w
 no:c=none->aY γ.ρ γ.W0 w l lg dp
 yes:∀x,c=some x->∃y,x=dN y/\t.at_ w (eC n0 w) y/\aY γ.ρ γ.W0 w r lg (dp || decide (32 < t.depth))
 zero:∀x,z=some x->∃g0,x=.slice (some ⟨g0,0,none⟩) 1 1/\av w g0 36 dF/\n0<=g0
structure Rb (γ:vp) (v:Value) (acc:List Tr) (lg dp:Bool) (r:aI) (t:Tr) (a c:Value) (s p:Bool) (w:World):Prop where
 sz:γ.B<=w.heap.size
 blk:av w γ.qb γ.TQ (γ.cs.setIfInBounds γ.k (if p then a else v))
 kp:γ.Kp w (nG γ.B a w)
 uS:av w γ.pb 77 #[γ.ρ.ptr]
 Zj:∀x∈γ.os,av w x.1 x.2.1 x.2.2
 did:aY γ.ρ γ.W0 w r lg (dp || decide (32 < t.depth))
 row:∃(G cap:Nat) (ys:List Ex) (y:Ex),a=.slice (some ⟨G,0,none⟩) (acc.length+1) cap/\c=dN y/\ys.length=acc.length/\t.at_ w (nG γ.B a w) y/\fE (Tr.at_ w (nG γ.B a w)) acc ys/\cJ aT 36 7 w γ.B a (ys++ [if s then y else zeroE])
section
variable {γ:vp} {v a c:Value} {acc:List Tr} {lg dp s p:Bool} {l r:aI} {t:Tr} {n0:Nat} {co z:Option Value} {w w':World}
theorem Lv.later (A:Lv γ v acc lg dp l r t n0 co z w)(F:γ.Fit)(h:Below w.heap.size w w'):Lv γ v acc lg dp l r t n0 co z w':=
 ⟨Nat.le_trans A.sz h.size,A.at_.later F h,λ e=>(A.no e).later h,λ x e=>by obtain⟨y,h1,h2,h3⟩:=A.yes x e;exact⟨y,h1,h2.later h,h3.later h⟩,λ x e=>by obtain⟨g0,h1,h2,h3⟩:=A.zero x e;exact⟨g0,h1,h2.later h,h3⟩⟩
theorem Rb.later (A:Rb γ v acc lg dp r t a c s p w)(F:γ.Fit)(h:Below w.heap.size w w'):Rb γ v acc lg dp r t a c s p w':=
 ⟨Nat.le_trans A.sz h.size,A.blk.later h,F.kp _ _ _ _ A.kp (fJ h),A.uS.later h,λ x hx=>(A.Zj x hx).later h,A.did.later h,by
   obtain⟨G,cap,ys,y,h1,h2,h3,h4,h5,h6⟩:=A.row
   exact⟨G,cap,ys,y,h1,h2,h3,Tr.at_.keep (fJ h) _ _ h4,h5.imp λ _ _ k=>Tr.at_.keep (fJ h) _ _ k,h6.later h⟩⟩
theorem Lv.start (A:γ.at_ eE 36 v acc w)(D:aY γ.ρ γ.W0 w l lg dp):Lv γ v acc lg dp l r t w.heap.size none none w:=
 ⟨Nat.le_refl _,A,λ _=>D,λ x e=>(by cases e),λ x e=>(by cases e)⟩
theorem Lv.call (A:Lv γ v acc lg dp l r t n0 none z w)(F:γ.Fit)(hn:γ.B<=n0) {y:Ex}(hat:t.at_ w' (eC w.heap.size w') y)(d:aY γ.ρ w w' r lg (dp || decide (32 < t.depth))):Lv γ v acc lg dp l r t n0 (some (dN y)) z w':=by have h1:=F.gg;have h2:=F.q0;have h3:=F.qB;exact⟨Nat.le_trans A.sz d.size,A.at_.grown F d.grown,λ e=>(by cases e),λ x e=>(by injection e with e;exact⟨y,e.symm,hat.more A.sz,(A.no rfl).trans d⟩),λ x e=>(by obtain⟨g0,k1,k2,k3⟩:=A.zero x e;exact⟨g0,k1,d.blk k2 Taa,k3⟩)⟩
theorem Lv.acX (A:Lv γ v acc lg dp l r t n0 co none w)(F:γ.Fit):Lv γ v acc lg dp l r t n0 co (some (.slice (some ⟨w.heap.size,0,none⟩) 1 1)) (w.alloc (.cells dF 36)):=by have B:=A.later F (aa w (.cells dF 36));exact⟨B.sz,B.at_,B.no,B.yes,λ x e=>by injection e with e;exact⟨w.heap.size,e.symm,av.new w _ _,A.sz⟩⟩
theorem Lv.app {cv zv:Value}(A:Lv γ v acc lg dp l r t n0 (some cv) (some zv) w)(F:γ.Fit)(hn:γ.B<=n0)(hv0:∀G,v.ownBlock=some G->G < n0)(hlen:acc.length<=5000):∃v' w',(Builtin.append_ #[24,24] 24 #[v,zv]).run Tryz.prog w=.ok v' w'/\Rb γ v acc lg dp r t v' cv false false w':=by
 have h1:=F.gg;have h2:=F.q0;have h3:=F.p0;have h4:=F.qB;have h5:=F.pB;obtain⟨g0,rfl,hz,hg0⟩:=A.zero _ rfl;obtain⟨y,rfl,hat,hd⟩:=A.yes _ rfl;obtain⟨(ys:List Ex),ho,ha⟩:=A.at_.row.has;have zz:ys.length=acc.length:=ha.len;have O8:∀(q:Nat),q < γ.B->some q≠v.ownBlock:=λ q hq e'=>by have:=(A.at_.ge e'.symm).1;omega
 obtain⟨v',w',hr,oQ,har,hv⟩:=rW (P:=Tryz.prog) (f:=aT) (e:=36) (size:=7) (base:=γ.B) (y:=zeroE) (w:=w) 24 24 _ 88 Tryz.underlying24 Ip rfl Tab (λ _=>rfl) (afA zeroE) ho g0 hz (by rw[zz];omega) (by rw[zz];omega) A.at_.sz;have lJ:=har.grown;have hk:=tG (B:=γ.B) lJ hv;obtain⟨G,cap,jk,hGb,_⟩:=oQ.cell (f:=aT) (λ _=>rfl) (k:=acc.length) (x:=zeroE) (by rw[<- zz];simp);refine⟨v',w',hr,Nat.le_trans A.at_.sz lJ.size,?_,F.kp _ _ _ _ A.at_.kp hk,A.at_.uS.grown lJ (O8 _ h5),λ x hx=>(A.at_.Zj x hx).grown lJ (O8 _ (F.os x hx).2.2),hd.own h1 lJ (λ G hG=>by have:=(A.at_.ge hG).1;omega),G,cap,ys,y,?_,rfl,zz,?_,ha.imp λ _ _ k=>Tr.at_.keep hk _ _ k,oQ⟩
 ·simp only[Bool.false_eq_true,if_false];exact A.at_.blk.grown lJ (O8 _ h4)
 ·rw[jk];simp[zz]
 ·exact Tr.at_.keep hk _ _ (Tr.at_.keep (CV hn hv0) _ _ hat)
theorem Rb.elem {G cap:Nat} {y:Ex}(A:Rb γ v acc lg dp r t a (dN y) false p w)(F:γ.Fit)(ha:a=.slice (some ⟨G,0,none⟩) (acc.length+1) cap):Rb γ v acc lg dp r t a (dN y) true p (py w G (acc.length*7) y):=by
 have h1:=F.gg;have h2:=F.q0;have h3:=F.p0;have h4:=F.qB;have h5:=F.pB;obtain⟨G',cap',ys,y',e1,e2,e3,e4,e5,e6⟩:=A.row;have hG:G'=G/\cap'=cap:=by rw[ha] at e1;injection e1 with e1 _ e1c;injection e1 with e1;injection e1 with e1 _ _;exact⟨e1.symm,e1c.symm⟩
 obtain⟨rfl,rfl⟩:=hG;have hy:y'=y:=by obtain⟨a1,⟨a2,a3,a4⟩,a5,a6,a7,a8,a9⟩:=y;obtain⟨b1,⟨b2,b3,b4⟩,b5,b6,b7,b8,b9⟩:=y';unfold dN aT at e2;simp only[Value.agg.injEq] at e2;simp at e2;obtain⟨rfl,rfl,rfl,rfl,rfl,rfl,rfl,rfl,rfl⟩:=e2;rfl
 subst hy;have hown:a.ownBlock=some G':=by rw[ha];rfl
 have EX:γ.B<=G':=(e6.lt hown).2.1;have hg:=Lu w G' (acc.length*7) y'
 have hk:∀b,nG γ.B a w b->(∀o,(py w G' (acc.length*7) y').cell? ⟨b,o,none⟩=w.cell? ⟨b,o,none⟩)/\nG γ.B a (py w G' (acc.length*7) y') b:=λ b hb=>
  ⟨cell_of_heap (Ut w G' _ y' b (λ e=>hb.2.2 (by rw[hown,e]))),hb.1,by rw[Dk];exact hb.2.1,hb.2.2⟩
 refine⟨by rw[Dk];exact A.sz,A.blk.grown hg Tad,F.kp _ _ _ _ A.kp hk,A.uS.grown hg Tad,λ x hx=>(A.Zj x hx).grown hg (by have:=(F.os x hx).2.2;simp;omega),A.did.own h1 hg (λ G hG=>by injection hG with hG;omega),G',cap',ys,y',ha,rfl,e3,Tr.at_.keep hk _ _ e4,e5.imp λ _ _ k=>Tr.at_.keep hk _ _ k,?_⟩;have e6:cJ aT 36 7 w γ.B a (ys++ [zeroE]):=e6;rw[ha] at e6 ⊢;rw[<- e3] at e6 ⊢;exact Zk e6
theorem Rb.list (A:Rb γ v acc lg dp r t a c s false w)(F:γ.Fit):Rb γ v acc lg dp r t a c s true (w.setCell ⟨γ.qb,γ.k,none⟩ a):=by
 have h1:=F.gg;have h2:=F.q0;have h3:=F.p0;have h4:=F.qB;have h5:=F.pB;have h6:=F.pq;obtain⟨G,cap,ys,y,e1,e2,e3,e4,e5,e6⟩:=A.row;have hk:=tH (v:=a) (w:=w) h4 γ.k a;have hb:=A.blk.cC γ.k a;rw[Array.setIfInBounds_setIfInBounds] at hb;have hown:a.ownBlock=some G:=by rw[e1];rfl
 have EX:γ.B<=G:=(e6.lt hown).2.1;exact⟨by have:=A.sz;simpa [World.setCell] using this,hb,F.kp _ _ _ _ A.kp hk,A.uS.far (p:=⟨γ.qb,γ.k,none⟩) Tad a,λ x hx=>(A.Zj x hx).far (p:=⟨γ.qb,γ.k,none⟩) (by have:=(F.os x hx).2.1;simp;omega) a,A.did.far h1 h2 _ _,G,cap,ys,y,e1,e2,e3,Tr.at_.keep hk _ _ e4,e5.imp λ _ _ k=>Tr.at_.keep hk _ _ k,e6.keep λ g hg=>by rw[hown] at hg;injection hg with hg;exact Below.heap_setCell w ⟨γ.qb,γ.k,none⟩ a g Tad⟩
theorem Rb.done (A:Rb γ v acc lg dp r t a c true true w):γ.at_ eE 36 a (acc++ [t]) w:=by obtain⟨G,cap,ys,y,e1,e2,e3,e4,e5,e6⟩:=A.row;exact⟨A.blk,⟨ys++ [y],e6,fE.append e5 (.one e4)⟩,A.kp,A.sz,A.uS,A.Zj⟩
end
theorem aat(h:eJ l=.ok (t,r))(ha:ar lR r=false):nZ l=.ok ((t,ByteArray.empty),r):=by unfold nZ;refine(ag h).trans ?_;rw[bQ];simp only[ha];rfl
theorem Zo(h:eJ l=.ok (t,r))(ha:ar lR r=true):nZ l=(do let n <- cD;return (t,n):Ps (Tr×ByteArray)) r.tail:=by unfold nZ;refine(ag h).trans ?_;rw[bQ];simp only[ha,if_true]
theorem Zp(h:eJ l=.ok (t,r)):lu l=.ok ((t,ar lZ r),iJ lZ r):=by unfold lu;refine(ag h).trans ?_;exact(ag (tL lZ r)).trans rfl
variable{w':World}{g q:Nat}
theorem gq(h:w.grownBy w' (some g))(hq:w.heap.size<=q)(i:Nat)(u:Value):w.grownBy (w'.setCell ⟨q,i,none⟩ u) (some g):=
 ⟨h.os,h.tape,h.output,by simpa [World.setCell] using h.size,λ k hk Q5=>(Below.heap_setCell w' ⟨q,i,none⟩ u k Tad).trans (h.block k hk Q5)⟩
theorem LC:(Tryz.prog.info? 86).map (λ i=>(i.zero,i.size,i.bytes))=some (some (.agg #[.int .u8 0,.int .u8 0,.int .i64 0,.string ⟨#[]⟩,.string ⟨#[]⟩,.int .i64 0,.slice none 0 0,.bool false]),8,96):=by exact Zhj
theorem zD:(Tryz.prog.info? 53).map (λ i=>(i.zero,i.size,i.bytes))=some (some (.agg #[.string ⟨#[]⟩,.int .u8 0]),2,24):=by exact Zhj
theorem Uw:(Tryz.prog.info? 55).map (λ i=>(i.zero,i.size,i.bytes))=some (some (.agg #[.string ⟨#[]⟩,.int .u8 0,.int .u8 0,.int .i64 0,.string ⟨#[]⟩,.string ⟨#[]⟩,.int .i64 0,.slice none 0 0]),8,104):=by exact Zhj
theorem Ux:(Tryz.prog.info? 24).map (λ i=>(i.zero,i.size,i.bytes))=some (some (.slice none 0 0),1,24):=by exact Zhj
theorem zih.KcG(h:p:=by
 have hm:=br γ.ρ W2 r lg _ eP.out.at_ ⟨#[97,115]⟩;rw[show(⟨#[97,115]⟩:ByteArray).data.toList=lR from rfl] at hm;have hx2:=qW.out.lt;cases hh:ar lR r
 ·rw[hh,ck hh] at hm;have HE:=hid (aat jh.out hh);clear hh;go_wp2_with fail;refine hm.mono ?_;clear hm p0;rintro e w3 ⟨rfl,d⟩;have jR:=hid (eP.out.trans d);have IZ:=hid (d.blk qW.out Taa);have Ek:=hid (ai zE.out d.grown);clear d eP qW zE;have hA:=gP.out.grown F Ek.out;have uQ:=hid hA;have kq:=hA.cell F;rw[hk] at kq;have Pp:=hA.sz;clear hA;go_wp2_with (first
   |(refine wpList_load_row rfl 51 (.tmp 2) rfl w2.heap.size rfl 51 _ (0,0) _ IZ.out Tryz.underlying51 rfl TaQ ?_)
   |(at_builtin
     refine dZ uQ.out F rfl _ _ 23 rfl _ 104 Tryz.underlying23 zu rfl Tab (y,⟨#[]⟩) (Lt _) rfl rfl Taa Taa Pp ?_
     intro ys v' W3 ha oQ lJ hv
     obtain⟨A9,n9,c9,rfl⟩:=mY oQ
     obtain⟨Pq,Pr,wG,wH⟩:=uQ.out.push F jR.out (x:=(t,ByteArray.empty)) (y:=(y,⟨#[]⟩)) ⟨Tr.at_.keep (eU Ek.out Taa) _ _ yP.out,rfl⟩ P4 P3.out ha (aa _ _) lJ oQ Tay
     rw[hk] at Pq Pr wG wH
     have Pt:=hid wG
     have Pu:=hid wH
     clear wG wH ha oQ lJ hv))
  exact Zgo
 ·rw[hh,cw hh] at hm;have HE:=hid (Zo jh.out hh);clear hh;go_wp2_with fail;refine hm.mono ?_;clear hm p0;rintro e w3 ⟨rfl,d⟩;have jR:=hid (eP.out.trans d);have IZ:=hid (d.blk qW.out Taa);have Ek:=hid (ai zE.out d.grown);clear d eP qW zE;have p0:=(gP.out.grown F Ek.out).ptr;generalize r.tail=r3 at*;go_wp2_with fail;refine(dU γ.ρ w3 r3 lg _ jR.out.at_).mono ?_;intro e w4 hp;rcases hp.cases with ⟨nm,r4,v4,az,rfl,rfl,d⟩|⟨m,au,rfl,hg⟩;case inr=>have HE:=hid (HE.out.trans (ak au));have HG:=hid jR.out.grown;clear hp au;go_wp2_with fail;exact aj rfl (sy.err HE.out ⟨rfl,ai HG.out hg⟩)
  have MO:=hid ((HE.out.trans (ag az)).trans rfl);have pj:=hid ((jR.out.trans d).far bj (by omega:γ.W0.heap.size<=w2.heap.size) 7 (.string nm));have hX4:=d.blk IZ.out Taa;have Wj:=hX4.cC 7 (.string nm);simp only[Uac] at Wj;have FQ:=hid Wj;have hG4:=ai Ek.out d.grown;have EO:=hid (gq hG4 (Nat.le_refl w2.heap.size) 7 (.string nm));have k7:=hX4.cell 7;have f7:=hX4.frozen 7;have p4:=(gP.out.grown F hG4).ptr;simp only[getElem?_toArray,getElem?_cons_succ,getElem?_cons_zero] at k7;clear hp az d jR IZ Ek hX4 Wj hG4 p0;go_upto_region 3 with fail
  clear k7 f7 p4;generalize IB:w4.setCell _ _=W4 at*;clear IB;have hA:=gP.out.grown F EO.out;have uQ:=hid hA;have kq:=hA.cell F;rw[hk] at kq;have Pp:=hA.sz;clear hA;go_wp2_with (first
   |(refine wpList_load_row rfl 51 (.tmp 2) rfl w2.heap.size rfl 51 _ (0,0) _ FQ.out Tryz.underlying51 rfl TaQ ?_)
   |(at_builtin
     refine dZ uQ.out F rfl _ _ 23 rfl _ 104 Tryz.underlying23 zu rfl Tab (y,nm) (Lt _) rfl rfl Taa Taa Pp ?_
     intro ys v' W3 ha oQ lJ hv
     obtain⟨A9,n9,c9,rfl⟩:=mY oQ
     obtain⟨Pq,Pr,wG,wH⟩:=uQ.out.push F pj.out (x:=(t,nm)) (y:=(y,nm)) ⟨Tr.at_.keep (eU EO.out Taa) _ _ yP.out,rfl⟩ P4 P3.out ha (aa _ _) lJ oQ Tay
     rw[hk] at Pq Pr wG wH
     have Pt:=hid wG
     have Pu:=hid wH
     clear wG wH ha oQ lJ hv))
  go_end0;exact sy.ok MO.out ⟨_,Pt.out⟩ Pu.out):p:=h
theorem zdP.KaX(h:p:=by
 have hm:=kK γ.ρ W l lg dp hd.at_;clear A hd;go_enter Tryz.func150,Tryz.ntmps150;go_wp2_with fail;refine hm.mono ?_;clear hm;intro e w2 hp;rcases hp.cases with ⟨t,r,v2,az,rfl,y,rfl,hat,d2⟩|⟨m,au,rfl,hg⟩;case inr=>have HE:=hid (show nZ l=.error m from ak au);have HG:=hid HD.out.grown;clear hp au;go_wp2_with fail;exact aj rfl (sy.err HE.out ⟨rfl,ai HG.out hg⟩)
 have hs2:=d2.size;have gP:=hid (HA.out.grown F d2.grown);have yP:=hid hat;have eP:=hid ((HD.out.trans d2).later (aa w2 (.cells (MJ (y,⟨#[]⟩)).toArray 51)));have qW:=hid (av.new w2 51 (MJ (y,⟨#[]⟩)).toArray);have zE:=hid (aB (p:=γ.ρ.g) (aa w2 (.cells (MJ (y,⟨#[]⟩)).toArray 51)));have jh:=hid az;have hgx:γ.ρ.g < w2.heap.size:=by have:=d2.lt;omega
 clear hp hat d2 az HA HD p0;unfold dN MJ at*;open zih in exact Zgu):p:=h
theorem Po (γ:vp)(F:γ.Fit)(Uv:γ.TQ=28)(hk:γ.k=0)(acc:List (Tr×ByteArray))(W:World)(l:aI)(lg dp:Bool)(hn:acc.length<=5000)(hs:γ.acc iX 51 acc W)(hd:aY γ.ρ γ.W0 W l lg dp):
  Calls Tryz.prog 150 #[.pointer (some ⟨γ.pb,0,none⟩),.pointer (some ⟨γ.qb,0,none⟩)] W (sy γ.ρ γ.W0 (λ x=>decide (32 < x.1.depth)) nZ (γ.acc iX 51) acc lg dp l):=by
 open zdP in exact Zbs
theorem zii.KcG(h:p:=by
 have hm:=br γ.ρ W2 r lg _ eP.out.at_ ⟨#[100,101,115,99]⟩;rw[show(⟨#[100,101,115,99]⟩:ByteArray).data.toList=lZ from rfl] at hm;have hx2:=qW.out.lt;have HE:=hid (Zp jh.out);generalize ar lZ r=ds at*;generalize iJ lZ r=r3 at*;go_wp2_with fail;refine hm.mono ?_;clear hm p0;rintro e w4 ⟨rfl,d⟩;have pj:=hid ((eP.out.trans d).far bj (by omega:γ.W0.heap.size<=w2.heap.size) 7 (.bool ds));have hX4:=d.blk qW.out Taa;have Wj:=hX4.cC 7 (.bool ds);simp only[Uac] at Wj;have FQ:=hid Wj;have hG4:=ai zE.out d.grown;have EO:=hid (gq hG4 (Nat.le_refl w2.heap.size) 7 (.bool ds));have k7:=hX4.cell 7;have f7:=hX4.frozen 7;simp only[getElem?_toArray,getElem?_cons_succ,getElem?_cons_zero] at k7;clear d eP qW zE hX4 Wj hG4;go_upto_region 2 with fail
 clear k7 f7;generalize IB:w4.setCell _ _=W4 at*;clear IB;have hA:=gP.out.grown F EO.out;have uQ:=hid hA;have kq:=hA.cell F;rw[hk] at kq;have Pp:=hA.sz;clear hA;go_wp2_with (first
  |(refine wpList_load_row rfl 86 (.tmp 2) rfl w2.heap.size rfl 86 _ (0,0) _ FQ.out Tryz.underlying86 rfl TaQ ?_)
  |(at_builtin
    refine dZ uQ.out F rfl _ _ 25 rfl _ 96 Tryz.underlying25 LC rfl Tab (y,ds) (Us _) rfl rfl Taa Taa Pp ?_
    intro ys v' W3 ha oQ lJ hv
    obtain⟨A9,n9,c9,rfl⟩:=mY oQ
    obtain⟨Pq,Pr,wG,wH⟩:=uQ.out.push F pj.out (x:=(t,ds)) (y:=(y,ds)) ⟨Tr.at_.keep (eU EO.out Taa) _ _ yP.out,rfl⟩ P4 P3.out ha (aa _ _) lJ oQ Tay
    rw[hk] at Pq Pr wG wH
    have Pt:=hid wG
    have Pu:=hid wH
    clear wG wH ha oQ lJ hv))
 exact Zgo):p:=h
theorem zdQ.KaX(h:p:=by
 have hm:=kK γ.ρ W l lg dp hd.at_;clear A hd;go_enter Tryz.func152,Tryz.ntmps152;go_wp2_with fail;refine hm.mono ?_;clear hm;intro e w2 hp;rcases hp.cases with ⟨t,r,v2,az,rfl,y,rfl,hat,d2⟩|⟨m,au,rfl,hg⟩;case inr=>have HE:=hid (show lu l=.error m from ak au);have HG:=hid HD.out.grown;clear hp au;go_wp2_with fail;exact aj rfl (sy.err HE.out ⟨rfl,ai HG.out hg⟩)
 have hs2:=d2.size;have gP:=hid (HA.out.grown F d2.grown);have yP:=hid hat;have eP:=hid ((HD.out.trans d2).later (aa w2 (.cells (orC (y,false)).toArray 86)));have qW:=hid (av.new w2 86 (orC (y,false)).toArray);have zE:=hid (aB (p:=γ.ρ.g) (aa w2 (.cells (orC (y,false)).toArray 86)));have jh:=hid az;have hgx:γ.ρ.g < w2.heap.size:=by have:=d2.lt;omega
 clear hp hat d2 az HA HD p0;unfold dN orC at*;open zii in exact Zgu):p:=h
theorem LD (γ:vp)(F:γ.Fit)(Uv:γ.TQ=28)(hk:γ.k=6)(acc:List (Tr×Bool))(W:World)(l:aI)(lg dp:Bool)(hn:acc.length<=5000)(hs:γ.acc kt 86 acc W)(hd:aY γ.ρ γ.W0 W l lg dp):
  Calls Tryz.prog 152 #[.pointer (some ⟨γ.pb,0,none⟩),.pointer (some ⟨γ.qb,0,none⟩)] W (sy γ.ρ γ.W0 (λ x=>decide (32 < x.1.depth)) lu (γ.acc kt 86) acc lg dp l):=by
 open zdQ in exact Zbs
theorem uU:∀ {ks:List (List UInt8)} {l r:aI} {s:List UInt8},kP ks l=.ok (s,r)->s∈ks
 | [],l,r,s,h=>by cases h
 | k::ks,l,r,s,h=>by
   cases hh:ar k l
   ·rw[IK hh] at h;exact mem_cons_of_mem _ (uU h)
   ·rw[Bz hh] at h;injection h with h;injection h with h1 h2;simp[<- h1]
theorem zhn.Kcg(h:p:=by
 have hb3:=aa W2 (.cells (aP [Ch,vO,yT]) 9);have jR:=hid (eP.out.later hb3);have IZ:=hid (qW.out.later hb3);have Ek:=hid (ai zE.out (aB hb3));have lJ:=eP.out.lt;have hm:=qE γ.ρ _ r lg dp jR.out.at_ [Ch,vO,yT] W2.heap.size 3 rfl (av.new W2 _ _) Taa Taa;clear hb3 eP qW zE;unfold aP strOf at hm jR IZ Ek;simp only[map_cons,map_nil] at hm jR IZ Ek;rw[show Ch.toArray= #[105,110,116] from rfl,show vO.toArray= #[98,111,111,108] from rfl,show yT.toArray= #[116,101,120,116] from rfl] at hm jR IZ Ek;go_wp2_with fail;refine hm.mono ?_;clear hm p0;intro e w4 hp;rcases hp.cases with ⟨ty,r4,v4,az,rfl,rfl,d⟩|⟨m,au,rfl,hg⟩;case inr=>have HE:=hid (show iD l=.error m from(ag jh.out).trans (ak au));have HG:=hid jR.out.grown;clear hp au;go_wp2_with fail;exact aj rfl (sy.err HE.out ⟨rfl,ai HG.out hg⟩)
 have HE:=hid (show iD l=.ok ((nm,typeOf ty),r4)from(ag jh.out).trans ((ag az).trans rfl));have sB:=uU az;have pj:=hid (jR.out.trans d);have Ls:=hid (d.blk IZ.out Taa);have JJ:=hid (ai Ek.out d.grown);clear hp az d jR IZ Ek jh;have k1:=Ls.out.cell 1;have f1:=Ls.out.frozen 1;simp only[getElem?_toArray,getElem?_cons_succ,getElem?_cons_zero] at k1;simp only[mem_cons,not_mem_nil,or_false] at sB;rcases sB with rfl | rfl | rfl
 ·have FQ:=hid (Ls.out.cC 1 (.int .u8 2));have Eh:=hid (pj.out.far bj (by omega:γ.W0.heap.size<=w2.heap.size) 1 (.int .u8 2));have EO:=hid (gq JJ.out (Nat.le_refl w2.heap.size) 1 (.int .u8 2));clear Ls pj JJ;simp only[Uac] at FQ;unfold Ch;go_upto_region 7 with fail
  clear k1 f1;generalize IB:w4.setCell _ _=W4 at*;clear IB;have hA:=gP.out.grown F EO.out;have uQ:=hid hA;have kq:=hA.cell F;rw[hk] at kq;have Pp:=hA.sz;clear hA;go_wp2_with (first
   |(refine wpList_load_row rfl 53 (.tmp 2) rfl w2.heap.size rfl 53 _ (0,0) _ FQ.out Tryz.underlying53 rfl TaQ ?_)
   |(at_builtin
     refine dZ uQ.out F rfl _ _ 22 rfl _ 24 Tryz.underlying22 zD rfl Tab (nm,2) (Ja _) rfl rfl Taa Taa Pp ?_
     intro ys v' W3 ha oQ lJ hv
     obtain⟨A9,n9,c9,rfl⟩:=mY oQ
     obtain⟨Pq,Pr,wG,wH⟩:=uQ.out.push F Eh.out (x:=(nm,2)) (y:=(nm,2)) TaQ P4 P3.out ha (aa _ _) lJ oQ Tay
     rw[hk] at Pq Pr wG wH
     have Pt:=hid wG
     have Pu:=hid wH
     clear wG wH ha oQ lJ hv))
  exact ZdD
 ·have FQ:=hid (Ls.out.cC 1 (.int .u8 1));have Eh:=hid (pj.out.far bj (by omega:γ.W0.heap.size<=w2.heap.size) 1 (.int .u8 1));have EO:=hid (gq JJ.out (Nat.le_refl w2.heap.size) 1 (.int .u8 1));clear Ls pj JJ;simp only[Uac] at FQ;unfold vO;go_upto_region 7 with fail
  clear k1 f1;generalize IB:w4.setCell _ _=W4 at*;clear IB;have hA:=gP.out.grown F EO.out;have uQ:=hid hA;have kq:=hA.cell F;rw[hk] at kq;have Pp:=hA.sz;clear hA;go_wp2_with (first
   |(refine wpList_load_row rfl 53 (.tmp 2) rfl w2.heap.size rfl 53 _ (0,0) _ FQ.out Tryz.underlying53 rfl TaQ ?_)
   |(at_builtin
     refine dZ uQ.out F rfl _ _ 22 rfl _ 24 Tryz.underlying22 zD rfl Tab (nm,1) (Ja _) rfl rfl Taa Taa Pp ?_
     intro ys v' W3 ha oQ lJ hv
     obtain⟨A9,n9,c9,rfl⟩:=mY oQ
     obtain⟨Pq,Pr,wG,wH⟩:=uQ.out.push F Eh.out (x:=(nm,1)) (y:=(nm,1)) TaQ P4 P3.out ha (aa _ _) lJ oQ Tay
     rw[hk] at Pq Pr wG wH
     have Pt:=hid wG
     have Pu:=hid wH
     clear wG wH ha oQ lJ hv))
  exact ZdD
 ·have FQ:=hid (Ls.out.cC 1 (.int .u8 3));have Eh:=hid (pj.out.far bj (by omega:γ.W0.heap.size<=w2.heap.size) 1 (.int .u8 3));have EO:=hid (gq JJ.out (Nat.le_refl w2.heap.size) 1 (.int .u8 3));clear Ls pj JJ;simp only[Uac] at FQ;unfold yT;go_upto_region 7 with fail
  clear k1 f1;generalize IB:w4.setCell _ _=W4 at*;clear IB;have hA:=gP.out.grown F EO.out;have uQ:=hid hA;have kq:=hA.cell F;rw[hk] at kq;have Pp:=hA.sz;clear hA;go_wp2_with (first
   |(refine wpList_load_row rfl 53 (.tmp 2) rfl w2.heap.size rfl 53 _ (0,0) _ FQ.out Tryz.underlying53 rfl TaQ ?_)
   |(at_builtin
     refine dZ uQ.out F rfl _ _ 22 rfl _ 24 Tryz.underlying22 zD rfl Tab (nm,3) (Ja _) rfl rfl Taa Taa Pp ?_
     intro ys v' W3 ha oQ lJ hv
     obtain⟨A9,n9,c9,rfl⟩:=mY oQ
     obtain⟨Pq,Pr,wG,wH⟩:=uQ.out.push F Eh.out (x:=(nm,3)) (y:=(nm,3)) TaQ P4 P3.out ha (aa _ _) lJ oQ Tay
     rw[hk] at Pq Pr wG wH
     have Pt:=hid wG
     have Pu:=hid wH
     clear wG wH ha oQ lJ hv))
  exact ZdD):p:=h
theorem zdR.KaX(h:p:=by
 have hm:=dU γ.ρ W l lg dp hd.at_;clear A hd;go_enter Tryz.func116,Tryz.ntmps116;go_wp2_with fail;refine hm.mono ?_;clear hm;intro e w2 hp;rcases hp.cases with ⟨nm,r,v2,az,rfl,rfl,d2⟩|⟨m,au,rfl,hg⟩;case inr=>have HE:=hid (show iD l=.error m from ak au);have HG:=hid HD.out.grown;clear hp au;go_wp2_with fail;exact aj rfl (sy.err HE.out ⟨rfl,ai HG.out hg⟩)
 have hs2:=d2.size;have gP:=hid (HA.out.grown F d2.grown);have eP:=hid ((HD.out.trans d2).later (aa w2 (.cells #[.string nm,.int .u8 0] 53)));have qW:=hid (av.new w2 53 #[.string nm,.int .u8 0]);have zE:=hid (aB (p:=γ.ρ.g) (aa w2 (.cells #[.string nm,.int .u8 0] 53)));open zhn in exact ZeL):p:=h
theorem Jc (γ:vp)(F:γ.Fit)(Uv:γ.TQ=34)(hk:γ.k=2)(acc:List (ByteArray×Int))(W:World)(l:aI)(lg dp:Bool)(hn:acc.length<=5000)(hs:γ.acc sS 53 acc W)(hd:aY γ.ρ γ.W0 W l lg dp):
  Calls Tryz.prog 116 #[.pointer (some ⟨γ.pb,0,none⟩),.pointer (some ⟨γ.qb,0,none⟩)] W (sy γ.ρ γ.W0 (λ _=>false) iD (γ.acc sS 53) acc lg dp l):=by
 open zdR in exact Zbs
theorem zho.Kcg(h:p:=by
 have hb3:=aa W2 (.cells (aP [Ht]) 9);have jR:=hid (eP.out.later hb3);have IZ:=hid (qW.out.later hb3);have Ek:=hid (ai zE.out (aB hb3));have lJ:=eP.out.lt;have hm:=aW γ.ρ _ r lg dp jR.out.at_ [Ht] W2.heap.size 1 rfl (av.new W2 _ _) Taa Taa;clear hb3 eP qW zE;unfold aP strOf at hm jR IZ Ek;simp only[map_cons,map_nil] at hm jR IZ Ek;rw[show Ht.toArray= #[61] from rfl] at hm jR IZ Ek;go_wp2_with fail;refine hm.mono ?_;clear hm p0;intro e w4 hp;rcases hp.cases with ⟨_,r4,v4,az,rfl,rfl,d⟩|⟨m,au,rfl,hg⟩;case inr=>have HE:=hid (show xh l=.error m from(ag jh.out).trans (ak (show must Ht r=.error m by rw[<- ay];exact au)));have HG:=hid jR.out.grown;clear hp au;go_wp2_with fail;exact aj rfl (sy.err HE.out ⟨rfl,ai HG.out hg⟩)
 have jW:must Ht r=.ok ((),r4):=by rw[<- ay];exact az
 have MO:=hid (show xh l=(do let x <- eJ;return (nm,x):Ps (ByteArray×Tr)) r4 from(ag jh.out).trans (ag jW));have pj:=hid (jR.out.trans d);have Ls:=hid (d.blk IZ.out Taa);have JJ:=hid (ai Ek.out d.grown);have p0:=(gP.out.grown F JJ.out).ptr;have MN:=Ls.out.lt;clear hp az jW d jR IZ Ek jh;go_wp2_with fail;refine(kK γ.ρ w4 r4 lg dp pj.out.at_).mono ?_;intro e w5 hp;rcases hp.cases with ⟨t,r5,v5,az,rfl,y,rfl,hat,d⟩|⟨m,au,rfl,hg⟩;case inr=>have HE:=hid (MO.out.trans (ak au));have HG:=hid pj.out.grown;clear hp au;go_wp2_with fail;exact aj rfl (sy.err HE.out ⟨rfl,ai HG.out hg⟩)
 have HE:=hid ((MO.out.trans (ag az)).trans rfl);have Wj:=d.blk Ls.out Taa;have FQ:=hid ((((((((Wj.cC 1 (.int .u8 y.op)).cC 2 (.int .u8 y.v.k)).cC 3 (.int .i64 y.v.n)).cC 4 (.string y.v.s)).cC 5 (.string y.name)).cC 6 (.int .i64 y.width)).cC 7 (.slice y.A y.n y.c)));have Eh:=hid (((((((((pj.out.trans d).far bj (by omega:γ.W0.heap.size<=w2.heap.size) 1 (.int .u8 y.op)).far bj (by omega:γ.W0.heap.size<=w2.heap.size) 2 (.int .u8 y.v.k)).far bj (by omega:γ.W0.heap.size<=w2.heap.size) 3 (.int .i64 y.v.n)).far bj (by omega:γ.W0.heap.size<=w2.heap.size) 4 (.string y.v.s)).far bj (by omega:γ.W0.heap.size<=w2.heap.size) 5 (.string y.name)).far bj (by omega:γ.W0.heap.size<=w2.heap.size) 6 (.int .i64 y.width)).far bj (by omega:γ.W0.heap.size<=w2.heap.size) 7 (.slice y.A y.n y.c)));have EO:=hid ((gq (gq (gq (gq (gq (gq (gq (ai JJ.out d.grown) (Nat.le_refl w2.heap.size) 1 (.int .u8 y.op)) (Nat.le_refl w2.heap.size) 2 (.int .u8 y.v.k)) (Nat.le_refl w2.heap.size) 3 (.int .i64 y.v.n)) (Nat.le_refl w2.heap.size) 4 (.string y.v.s)) (Nat.le_refl w2.heap.size) 5 (.string y.name)) (Nat.le_refl w2.heap.size) 6 (.int .i64 y.width)) (Nat.le_refl w2.heap.size) 7 (.slice y.A y.n y.c)));have HT5:=hid ((((((((hat.set (q:=w2.heap.size) MN 1 (.int .u8 y.op)).set (q:=w2.heap.size) MN 2 (.int .u8 y.v.k)).set (q:=w2.heap.size) MN 3 (.int .i64 y.v.n)).set (q:=w2.heap.size) MN 4 (.string y.v.s)).set (q:=w2.heap.size) MN 5 (.string y.name)).set (q:=w2.heap.size) MN 6 (.int .i64 y.width)).set (q:=w2.heap.size) MN 7 (.slice y.A y.n y.c)))
 obtain⟨k0,k1,k2,k3,k4,k5,k6,k7⟩:=jt Wj;obtain⟨f0,f1,f2,f3,f4,f5,f6,f7⟩:=rB Wj;clear hp az Wj hat d pj Ls JJ MO p0;simp only[Uac] at FQ;unfold dN aT;go_upto_region 3 with fail
 clear k0 k1 k2 k3 k4 k5 k6 k7 f0 f1 f2 f3 f4 f5 f6 f7;generalize hW5:(World.setCell _ _ _)=W5 at*;clear hW5;have hA:=gP.out.grown F EO.out;have uQ:=hid hA;have kq:=hA.cell F;rw[hk] at kq;have Pp:=hA.sz;clear hA;go_wp2_with (first
  |(refine wpList_load_row rfl 55 (.tmp 2) rfl w2.heap.size rfl 55 _ (0,0) _ FQ.out Tryz.underlying55 rfl TaQ ?_)
  |(at_builtin
    refine dZ uQ.out F rfl _ _ 30 rfl _ 104 Tryz.underlying30 Uw rfl Tab (nm,y) (aaq _) rfl rfl Taa Taa Pp ?_
    intro ys v' W3 ha oQ lJ hv
    obtain⟨A9,n9,c9,rfl⟩:=mY oQ
    obtain⟨Pq,Pr,wG,wH⟩:=uQ.out.push F Eh.out (x:=(nm,t)) (y:=(nm,y)) ⟨rfl,HT5.out.more Taa⟩ P4 P3.out ha (aa _ _) lJ oQ Tay
    rw[hk] at Pq Pr wG wH
    have Pt:=hid wG
    have Pu:=hid wH
    clear wG wH ha oQ lJ hv))
 exact Zgo):p:=h
theorem zdS.KaX(h:p:=by
 have hm:=dU γ.ρ W l lg dp hd.at_;clear A hd;go_enter Tryz.func121,Tryz.ntmps121;go_wp2_with fail;refine hm.mono ?_;clear hm;intro e w2 hp;rcases hp.cases with ⟨nm,r,v2,az,rfl,rfl,d2⟩|⟨m,au,rfl,hg⟩;case inr=>have HE:=hid (show xh l=.error m from ak au);have HG:=hid HD.out.grown;clear hp au;go_wp2_with fail;exact aj rfl (sy.err HE.out ⟨rfl,ai HG.out hg⟩)
 have hs2:=d2.size;have gP:=hid (HA.out.grown F d2.grown);have eP:=hid ((HD.out.trans d2).later (aa w2 (.cells #[.string nm,.int .u8 0,.int .u8 0,.int .i64 0,.string ⟨#[]⟩,.string ⟨#[]⟩,.int .i64 0,.slice none 0 0] 55)));have qW:=hid (av.new w2 55 #[.string nm,.int .u8 0,.int .u8 0,.int .i64 0,.string ⟨#[]⟩,.string ⟨#[]⟩,.int .i64 0,.slice none 0 0]);have zE:=hid (aB (p:=γ.ρ.g) (aa w2 (.cells #[.string nm,.int .u8 0,.int .u8 0,.int .i64 0,.string ⟨#[]⟩,.string ⟨#[]⟩,.int .i64 0,.slice none 0 0] 55)));open zho in exact ZeL):p:=h
theorem Uy (γ:vp)(F:γ.Fit)(Uv:γ.TQ=34)(hk:γ.k=20)(acc:List (ByteArray×Tr))(W:World)(l:aI)(lg dp:Bool)(hn:acc.length<=5000)(hs:γ.acc sT 55 acc W)(hd:aY γ.ρ γ.W0 W l lg dp):
  Calls Tryz.prog 121 #[.pointer (some ⟨γ.pb,0,none⟩),.pointer (some ⟨γ.qb,0,none⟩)] W (sy γ.ρ γ.W0 (λ x=>decide (32 < x.2.depth)) xh (γ.acc sT 55) acc lg dp l):=by
 open zdS in exact Zbs
end Go.Proofs.YtehhdlgjfdnafaaGreatDoor
