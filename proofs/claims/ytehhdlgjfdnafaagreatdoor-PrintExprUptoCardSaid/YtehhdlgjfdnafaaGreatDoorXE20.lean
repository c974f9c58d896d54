/- Parts of the proof. -/
import Derived.Test.YtehhdlgjfdnafaaGreatDoorXE16
import Derived.Test.YtehhdlgjfdnafaaGreatDoorXE17
import Derived.Test.YtehhdlgjfdnafaaGreatDoorXE18
namespace Go.Proofs.YtehhdlgjfdnafaaGreatDoor
variable{p:Prop}
set_option maxHeartbeats 90000000
set_option maxRecDepth 100000
open Go.Lib (hid)
open Go.ChangeShapes Go.WideShapes Go.ChangeAt Go.RowKit List
set_option linter.unusedVariables false
set_option linter.unusedSimpArgs false
def Nu (ρ:bj)(W:World)(lg dp:Bool)(l:aF)(e:Ending)(w':World):Prop:=
 GP ρ W ey l (λ t r v w'=>∃y:Ex,v=dA y/\t.at_ w' (ep W.heap.size w') y/\aU ρ W w' r lg (dp || decide (32 < t.depth))) e w'
variable{ρ:bj}{w W:World}{lg dp b:Bool}{l r:aF}{t:Tr}{y:Ex}
theorem yl(hg:ρ.g < w.heap.size)(hd:aU ρ w W r lg b)(hb:b=(dp || decide (32 < t.depth)))(ht:t.at_ W (ep (w.heap.size+1) W) y)(hp:ey l=.ok (t,r)):Nu ρ w lg dp l (.returned (dA y)) (W.setRow w.heap.size (aL y).toArray):=
 GP.ok hp ⟨y,rfl,(Tr.at_.keep (ie W (Nat.lt_succ_self _) _) t y ht).more (Nat.le_succ _),hb▸hd.own hg (cx W w.heap.size _) (λ G e=>by injection e with e;omega)⟩
theorem bj.fy.deep(h:ρ.fy w l lg dp)(b:Bool):aU ρ w (w.setCell ⟨ρ.g,3,none⟩ (.bool b)) l lg b:=by have hB:=av.cr h.blk 3 (.bool b);exact⟨h.set hB (bn (az (Below.refl _ _)) 3 _) h.of,bn (az (Below.refl _ _)) 3 _⟩
theorem bj.fy.afi(h:ρ.fy w l lg dp)(b:Bool):aU ρ w (w.setCell ⟨ρ.g,2,none⟩ (.bool b)) l b dp:=by have hB:=av.cr h.blk 2 (.bool b);exact⟨h.set hB (bn (az (Below.refl _ _)) 2 _) h.of,bn (az (Below.refl _ _)) 2 _⟩
theorem jS (ρ:bj)(w:World)(l:aF)(lg dp:Bool)(h:ρ.fy w l lg dp):
  Calls Tryz.prog 120 #[ρ.ptr] w (Nu ρ w lg dp l):=by
 have aZ:=h.mE;have hsm:=h.small;have Rb:=h.left.2;have hb:=aa w (.cells dz 36);have HQ:=hid (av.new w 36 dz);have HD:=hid (aU.aA h hb);have hm:=ajO ρ _ l lg dp (h.later hb);have hsz:(w.alloc (.cells dz 36)).heap.size=w.heap.size+1:=by simp
 clear h hb;unfold dz at hm hsz;go_enter Tryz.func120,Tryz.ntmps120;go_wp2_with fail;refine hm.mono ?_;clear hm;intro e w2 hp;rcases hp.cases with ⟨t,r,v,ay,rfl,y,rfl,hat,d2⟩|⟨m,au,rfl,hg⟩;case inr=>have HG:=hid HD.out.grown;have HE:=hid au;clear hp HQ HD hsz au;go_wp2_with fail;exact aj rfl (GP.err HE.out ⟨rfl,ai HG.out hg⟩)
 have hs2:w.heap.size+1<=w2.heap.size:=by have:=d2.size;omega
 have hx:=aa w2 (.cells (aL y).toArray 36);have eC:=hid ((HD.out.trans d2).later hx);have jw:=hid ((d2.blk HQ.out Taa).later hx);have oq:=hid (av.new w2 36 (aL y).toArray);have oK:=(hat.more (show w.heap.size+1<=_ by omega)).later hx;have wG:=hid oK;obtain⟨F6,aqo⟩:=XZ l t r ay;have hgd:=Tr.acL (w:=w2.alloc (.cells (aL y).toArray 36)) (S:=ep (w.heap.size+1) _) (λ b hb=>hb.2) t y oK F6 Taa _ (Below.refl _ _);have iI:=hid ay;have hxg:w2.heap.size≠ρ.g:=by omega
 have hqg:w.heap.size < w2.heap.size:=by omega
 clear hp hat oK d2 ay hx HQ HD hsz F6;unfold dA at*;unfold aL at*;go_upto_region 2 with fail;generalize (w2.alloc _)=W2 at*;generalize w2.heap.size=qx at*;obtain⟨c0,c1,c2,c3,f1,f2,f3⟩:=eC.out.at_.facts;cases UL:dp
 ·rw[UL] at c3;have HDP:=hid UL;clear UL;obtain⟨k0,k1,k2,k3,k4,k5,k6⟩:=eH (y:=y) oq.out;unfold bj.ptr;go_wp2_with fail;refine hgd.mono ?_;clear hgd;rintro e w3 ⟨rfl,b3⟩;have jv:=hid (eC.out.later b3);have lL:=hid (jw.out.later b3);have BQ:=hid (oq.out.later b3);have HT3:=hid (wG.out.later b3);clear b3 eC jw oq wG c0 c1 c2 c3 f1 f2 f3 k0 k1 k2 k3 k4 k5 k6;obtain⟨c0,c1,c2,c3,f1,f2,f3⟩:=jv.out.at_.facts;have hst:=jv.out.at_.deep (decide (32 < t.depth));have oF:=hid (jv.out.trans hst);have Ct:=hid (lL.out.far (p:=⟨ρ.g,3,none⟩) Tad (.bool (decide (32 < t.depth))));have Cz:=hid (BQ.out.far (p:=⟨ρ.g,3,none⟩) Tad (.bool (decide (32 < t.depth))));have HT4:=hid (HT3.out.set (q:=ρ.g) Taa 3 (.bool (decide (32 < t.depth))));have hdec:decide ((t.depth:Int)> 32)=decide (32 < t.depth):=by rw[decide_eq_decide];omega
  generalize yG:decide (32 < t.depth)=bd at*;have HBD:=hid yG;clear yG hst jv lL BQ HT3;go_wp2_with (first
   |(refine wpList_load_row rfl 36 (.tmp 3) rfl qx rfl 36 (aL y).toArray (0,0) _ Cz.out Tryz.underlying36 rfl aC ?_)
   |(refine wpList_store_row rfl 36 (.tmp 2) (.tmp 18) rfl w.heap.size (aL y).toArray rfl rfl 36 dz Ct.out aC rfl (cD _) ?_
     have HR:=hid (Ct.out.row (aL y).toArray)))
  refine bodyPost_ret (v:=dA y) (results_cell_row Tryz.results120 _ _ w.heap.size 36 (aL y).toArray (0,0) _ rfl HR.out Tryz.underlying36 rfl aC) rfl ?_;exact yl aZ oF.out (by rw[HDP.out];exact HBD.out.symm) HT4.out iI.out
 ·rw[UL] at c3;have HDP:=hid UL;clear UL hgd;have hst:=eC.out.at_.deep true;have oF:=hid (eC.out.trans hst);have Ct:=hid (jw.out.far (p:=⟨ρ.g,3,none⟩) Tad (.bool true));have Cz:=hid (oq.out.far (p:=⟨ρ.g,3,none⟩) Tad (.bool true));have HT4:=hid (wG.out.set (q:=ρ.g) Taa 3 (.bool true));clear hst eC jw oq wG;unfold aL at Cz;unfold bj.ptr;go_wp2_with (first
   |(refine wpList_load_row rfl 36 (.tmp 3) rfl qx rfl 36 (aL y).toArray (0,0) _ Cz.out Tryz.underlying36 rfl aC ?_)
   |(refine wpList_store_row rfl 36 (.tmp 2) (.tmp 18) rfl w.heap.size (aL y).toArray rfl rfl 36 dz Ct.out aC rfl (cD _) ?_
     have HR:=hid (Ct.out.row (aL y).toArray)))
  refine bodyPost_ret (v:=dA y) (results_cell_row Tryz.results120 _ _ w.heap.size 36 (aL y).toArray (0,0) _ rfl HR.out Tryz.underlying36 rfl aC) rfl ?_;exact yl aZ oF.out (by rw[HDP.out];rfl) HT4.out iI.out
def UM (ρ:bj)(W:World)(lg dp:Bool)(s:List UInt8)(l:aF)(e:Ending)(w':World):Prop:=
 GP ρ W (gj s) l (λ ts r v w'=>∃y:Sl,v=eU y/\eJ.sl w' (ep W.heap.size w') y ts/\aU ρ W w' r lg (dp || cR ts)) e w'
variable{s:List UInt8}
theorem Qi(h:ar s l=false):gj s l=.ok ([],l):=by unfold gj;exact Zgh
theorem LO(h:ar s l=true):gj s l=(do let x <- ey;return [x]:Ps (List Tr)) l.tail:=by unfold gj;exact Zgf
theorem uO (ρ:bj)(w:World)(l:aF)(lg dp:Bool)(h:ρ.fy w l lg dp)(s:List UInt8):
  Calls Tryz.prog 122 #[ρ.ptr,.string ⟨s.toArray⟩] w (UM ρ w lg dp s l):=by
 have aZ:=h.mE;have hm:=bk ρ w l lg dp h ⟨s.toArray⟩;rw[show(⟨s.toArray⟩:ByteArray).data.toList=s by simp] at hm;cases hh:ar s l
 ·rw[hh,bS hh] at hm;have HE:=hid (Qi hh);clear h hh;go_enter Tryz.func122,Tryz.ntmps122;go_wp2_with fail;refine hm.mono ?_;clear hm;rintro e w1 ⟨rfl,d⟩;go_wp2_with fail;go_ret;exact GP.ok HE.out ⟨Sl.nil,rfl,eJ.kV _ _,by rw[show cR []=false from rfl,Bool.or_false];exact d⟩
 ·rw[hh,cg hh] at hm;have HE:=hid (LO hh);clear h hh;go_enter Tryz.func122,Tryz.ntmps122;go_wp2_with fail;refine hm.mono ?_;clear hm;rintro e w1 ⟨rfl,d⟩;go_wp2_with fail;refine(jS ρ w1 l.tail lg dp d.at_).mono ?_;intro e w2 hp;rcases hp.cases with ⟨t,r,v,ay,rfl,y,rfl,hat,d2⟩|⟨m,au,rfl,hg⟩
  ·have hx:=aa w2 (.cells (aL y).toArray 36);have hs1:=d.size;have hs2:=d2.size;have HS:=hid (Tk (S:=ep w.heap.size (w2.alloc (.cells (aL y).toArray 36))) (av.new w2 36 (aL y).toArray) ⟨by omega,by simp⟩ ((hat.more hs1).later hx));have HD:=hid ((d.trans d2).later hx);have iI:=hid (HE.out.trans (ag ay));clear hp ay hat d d2 hx hs1 hs2;unfold dA;unfold aL at*;go_wp2_with fail;go_ret;refine GP.ok (x:=[t]) (r:=r) (iI.out.trans rfl) ⟨⟨some ⟨w2.heap.size,0,none⟩,1,1⟩,rfl,HS.out,?_⟩;have hdb:cR [t]=decide (32 < t.depth):=by simp[cR]
   rw[hdb];exact HD.out
  ·have HG:=hid d.grown;have HF:=hid (HE.out.trans (ak au));clear hp au d;go_wp2_with fail;exact aj rfl (GP.err HF.out ⟨rfl,ai HG.out hg⟩)
variable{α:Type}
def tL(ρ:bj)(W0:World)(Br oW:α->Bool)(el:Ps α)(St:List α->World->Prop)(acc:List α)(lg dp:Bool)(l:aF)(e:Ending)(W':World):Prop:=match el l with
 | .ok (x,r)=>e=.returned (.tuple #[])/\St (acc++ [x]) W'/\aU ρ W0 W' r (lg || Br x) (dp || oW x)
 | .error n=>gM ρ W0 n e W'
variable{Br oW:α->Bool}{el:Ps α}{St:List α->World->Prop}{x:α}{W':World}
theorem tL.ok{W0:World}    {acc:List α}    (h:el l=.ok (x,r))(hs:St (acc++ [x]) W')(hd:aU ρ W0 W' r (lg || Br x) (dp || oW x)):tL ρ W0 Br oW el St acc lg dp l (.returned (.tuple #[])) W':=by unfold tL;rw[h];exact⟨rfl,hs,hd⟩
variable{n:Nat}{e:Ending}
theorem tL.err{W0:World}    {acc:List α}     (h:el l=.error n)(k:gM ρ W0 n e W'):tL ρ W0 Br oW el St acc lg dp l e W':=by unfold tL;rw[h];exact k
structure aad {α:Type} (ρ:bj) (W0:World) (Br oW:α->Bool) (el:Ps α) (fK:FuncId) (kt:Array Value) (St:List α->World->Prop):Prop where
 Qj:cC el
 en:∀args w,(callFunc fK args).run Tryz.prog w=.ok (.enter fK args) w
 keep:∀acc w w',St acc w->w.grownBy w' (some ρ.g)->W0.heap.size<=w.heap.size->St acc w'
 read:∀acc W l lg dp,acc.length<=5000->St acc W->aU ρ W0 W l lg dp->Calls Tryz.prog fK kt W (tL ρ W0 Br oW el St acc lg dp l)
def fp(ρ:bj)(W0:World)(Br oW:α->Bool)(el:Ps α)(St:List α->World->Prop)(lg dp:Bool)(l:aF)(e:Ending)(W':World):Prop:=
 match dC el l with
 | .ok (xs,r)=>e=.returned (.tuple #[])/\St xs W'/\aU ρ W0 W' r ((lg || xs.any Br)|| decide (64 < xs.length)) (dp || xs.any oW)
 | .error n=>gM ρ W0 n e W'
section
variable {α:Type} {ρ:bj} {W0:World} {Br oW:α->Bool} {el:Ps α} {St:List α->World->Prop} {lg dp:Bool} {l:aF}
theorem fp.ok {xs:List α} {r:aF} {W':World}(h:dC el l=.ok (xs,r))(hs:St xs W')(hd:aU ρ W0 W' r ((lg || xs.any Br)|| decide (64 < xs.length)) (dp || xs.any oW)):fp ρ W0 Br oW el St lg dp l (.returned (.tuple #[])) W':=by unfold fp;rw[h];exact⟨rfl,hs,hd⟩
theorem fp.err {n:Nat} {e:Ending} {W':World}(h:dC el l=.error n)(k:gM ρ W0 n e W'):fp ρ W0 Br oW el St lg dp l e W':=by unfold fp;rw[h];exact k
end
section
variable {α:Type} {l:aF}
theorem Yz {el:Ps α}(hs:cC el) {acc:List α} {l:aF}(h:ar bg l=false):vF el acc l=.ok (acc,l):=by rw[vG hs,bK];simp only[h];rfl
theorem UN {el:Ps α}(hs:cC el) {acc:List α} {l:aF}(h:ar bg l=true):vF el acc l=(do let y <- el;vF el (acc++ [y]):Ps (List α)) l.tail:=by rw[vG hs,bK];simp only[h,if_true]
end
theorem Bt(ρ:bj)(W0:World)(Br oW:α->Bool)(el:Ps α)(fK:FuncId)(kt:Array Value)(St:List α->World->Prop)(L:aad ρ W0 Br oW el fK kt St)(w:World)(l:aF)(lg dp:Bool)(h:aU ρ W0 w l lg dp)(h0:St [] w)(aZ:ρ.g < W0.heap.size):
  Calls Tryz.prog 115 #[ρ.ptr,.func (.func fK) #[] kt] w (fp ρ W0 Br oW el St lg dp l):=by
 have HH:=hid h;have hsm:=h.at_.small;have Rb:=h.at_.left.2;have en:=L.en;have FY:=L.read [] w l lg dp Tae h0 h;have HL:=hid L;clear h h0 L;go_enter Tryz.func115,Tryz.ntmps115;go_wp2_with fail;refine FY.mono ?_;clear FY;intro e w1 hp;unfold tL at hp
 cases hx:el l with
 | error m=>rw[hx] at hp;obtain⟨rfl,hg⟩:=hp;have HF:=hid (show dC el l=.error m by rw[ET];exact ak hx);clear hx;go_wp2_with fail;exact aj rfl (fp.err HF.out ⟨rfl,hg⟩)
 | ok z=>
   obtain⟨x,r⟩:=z;rw[hx] at hp;obtain⟨rfl,hs,hd⟩:=hp;have tS:=HL.out.Qj.len hx;have HE:=hid (show dC el l=vF el [x] r by rw[ET];exact ag hx);have HS:=hid hs;have HD:=hid hd;clear hx hs hd HH;go_wp2_with fail;go_loopg [4] r.length (λ k u wr=>∃(acc:List α) (l':aF),0 < acc.length/\acc.length+l'.length<=5001/\l'.length<=k/\u=.int .i64 acc.length/\St acc wr/\aU ρ W0 wr l' (lg || acc.any Br) (dp || acc.any oW)/\dC el l=vF el acc l');case atStart=>exact⟨[x],r,by simp,by simp;omega,Nat.le_refl _,rfl,HS.out,by simpa using HD.out,HE.out⟩
   case round=>
    obtain⟨acc,l',JL,aqq,hk,rfl,hs,hd,he⟩:=hrel;have rk:=hid hs;have eC:=hid hd;have wu:=hid he;have hm:=bk ρ wr l' (lg || acc.any Br) (dp || acc.any oW) hd.at_ ⟨#[44]⟩;rw[show(⟨#[44]⟩:ByteArray).data.toList=bg from rfl] at hm;clear hs hd he HS HD HE;have hsz:=eC.out.size;cases hh:ar bg l'
    ·rw[hh,bS hh] at hm;have HF:=hid (wu.out.trans (Yz HL.out.Qj hh));clear hh;go_wp2_with fail;refine hm.mono ?_;clear hm;rintro e w2 ⟨rfl,d⟩;have HS3:=hid (HL.out.keep _ _ _ rk.out d.grown hsz);have jv:=hid (eC.out.trans d);clear d rk eC wu;obtain⟨lg2,aae⟩:∃b:Bool,b=(lg || acc.any Br):=⟨_,rfl⟩;rw[<- aae] at jv;have afj:=hid aae;clear aae;obtain⟨c0,c1,c2,c3,f1,f2,f3⟩:=jv.out.at_.facts;have TZ:=jv.out.size;have hst:=jv.out.at_.afi (lg2 || decide (64 < acc.length));have Q9:=hid (HL.out.keep _ _ _ HS3.out hst.grown TZ);have oF:=hid (jv.out.trans hst);clear hst;unfold bj.ptr;cases Co:lg2
     ·rw[Co] at c2;have HLG:=hid Co;have hdec:decide ((acc.length:Int)> 64)=decide (64 < acc.length):=by rw[decide_eq_decide];omega
      rw[Co,Bool.false_or] at Q9 oF;have HX:=hid (show fp ρ W0 Br oW el St lg dp l (.returned (.tuple #[])) _ from fp.ok HF.out Q9.out (by rw[<- afj.out,HLG.out,Bool.false_or];exact oF.out));clear Co;generalize decide (64 < acc.length)=bd at*;go_wp2_with fail;go_end0;exact HX.out
     ·rw[Co] at c2;have HLG:=hid Co;rw[Co,Bool.true_or] at Q9 oF;have HX:=hid (show fp ρ W0 Br oW el St lg dp l (.returned (.tuple #[])) _ from fp.ok HF.out Q9.out (by rw[<- afj.out,HLG.out,Bool.true_or];exact oF.out));clear Co;go_wp2_with fail;go_end0;exact HX.out
    ·rw[hh,cg hh] at hm;have HF:=hid (wu.out.trans (UN HL.out.Qj hh));have hhl:=nP hh;clear hh;go_wp2_with fail;refine hm.mono ?_;clear hm;rintro e w2 ⟨rfl,d⟩;have FY:=HL.out.read acc w2 l'.tail (lg || acc.any Br) (dp || acc.any oW) Taa (HL.out.keep _ _ _ rk.out d.grown hsz) (eC.out.trans d);clear d rk eC wu;go_wp2_with fail;refine FY.mono ?_;clear FY;intro e w3 hp;unfold tL at hp
     cases hx:el l'.tail with
     | error m=>rw[hx] at hp;obtain⟨rfl,hg⟩:=hp;have HG:=hid (HF.out.trans (ak hx));clear hx;go_wp2_with fail;exact aj rfl (fp.err HG.out ⟨rfl,hg⟩)
     | ok z=>
       obtain⟨x2,r2⟩:=z;rw[hx] at hp;obtain⟨rfl,hs,hd⟩:=hp;have aqr:=HL.out.Qj.len hx;have HG:=hid (HF.out.trans (ag hx));have Wf:=hid hs;have BP:=hid hd;clear hx hs hd;go_wp2_with fail;go_roundg (r2.length);case measure=>omega
       case rel=>exact⟨acc++ [x2],r2,by simp,by simp;omega,Nat.le_refl _,by simp,Wf.out,by have:=BP.out;simpa [any_append,Bool.or_assoc] using this,HG.out⟩
def ri(ρ:bj)(W0:World)(oW:α->Bool)(el:Ps α)(St:List α->World->Prop)(acc:List α)(lg dp:Bool)(l:aF)(e:Ending)(W':World):Prop:=match el l with
 | .ok (x,r)=>e=.returned (.tuple #[])/\St (acc++ [x]) W'/\aU ρ W0 W' r lg (dp || oW x)
 | .error n=>gM ρ W0 n e W'
theorem ri.ok{W0:World}    {acc:List α}    (h:el l=.ok (x,r))(hs:St (acc++ [x]) W')(hd:aU ρ W0 W' r lg (dp || oW x)):ri ρ W0 oW el St acc lg dp l (.returned (.tuple #[])) W':=by unfold ri;rw[h];exact⟨rfl,hs,hd⟩
theorem ri.err{W0:World}    {acc:List α}     (h:el l=.error n)(k:gM ρ W0 n e W'):ri ρ W0 oW el St acc lg dp l e W':=by unfold ri;rw[h];exact k
structure Lst {α:Type} (ρ:bj) (W0:World) (oW:α->Bool) (el:Ps α) (fK:FuncId) (kt:Array Value) (St:List α->World->Prop):Prop where
 Qj:cC el
 en:∀args w,(callFunc fK args).run Tryz.prog w=.ok (.enter fK args) w
 keep:∀acc w w',St acc w->w.grownBy w' (some ρ.g)->W0.heap.size<=w.heap.size->St acc w'
 read:∀acc W l lg dp,acc.length<=5000->St acc W->aU ρ W0 W l lg dp->Calls Tryz.prog fK kt W (ri ρ W0 oW el St acc lg dp l)
def ij(ρ:bj)(W0:World)(oW:α->Bool)(el:Ps α)(St:List α->World->Prop)(lg dp:Bool)(l:aF)(e:Ending)(W':World):Prop:=
 match dC el l with
 | .ok (xs,r)=>e=.returned (.tuple #[])/\St xs W'/\aU ρ W0 W' r (lg || decide (64 < xs.length)) (dp || xs.any oW)
 | .error n=>gM ρ W0 n e W'
section
variable {α:Type} {ρ:bj} {W0:World} {oW:α->Bool} {el:Ps α} {St:List α->World->Prop} {lg dp:Bool} {l:aF}
theorem ij.ok {xs:List α} {r:aF} {W':World}(h:dC el l=.ok (xs,r))(hs:St xs W')(hd:aU ρ W0 W' r (lg || decide (64 < xs.length)) (dp || xs.any oW)):ij ρ W0 oW el St lg dp l (.returned (.tuple #[])) W':=by unfold ij;rw[h];exact⟨rfl,hs,hd⟩
theorem ij.err {n:Nat} {e:Ending} {W':World}(h:dC el l=.error n)(k:gM ρ W0 n e W'):ij ρ W0 oW el St lg dp l e W':=by unfold ij;rw[h];exact k
end
theorem DM(xs:List α)(b:Bool):(b || xs.any λ _=>false)=b:=by rw[show(xs.any λ _=>false)=false by simp];simp
theorem nj(ρ:bj)(W0:World)(oW:α->Bool)(el:Ps α)(fK:FuncId)(kt:Array Value)(St:List α->World->Prop)(L:Lst ρ W0 oW el fK kt St)(w:World)(l:aF)(lg dp:Bool)(h:aU ρ W0 w l lg dp)(h0:St [] w)(aZ:ρ.g < W0.heap.size):
  Calls Tryz.prog 115 #[ρ.ptr,.func (.func fK) #[] kt] w (ij ρ W0 oW el St lg dp l):=by
 have LL:aad ρ W0 (λ _=>false) oW el fK kt St:=⟨L.Qj,L.en,L.keep,λ acc W l lg dp hn hs hd=>(L.read acc W l lg dp hn hs hd).mono λ e W' hp=>by
  unfold ri at hp
  cases hx:el l with
  | error m=>rw[hx] at hp;exact tL.err hx hp
  | ok z=>
    obtain⟨x,r⟩:=z
    rw[hx] at hp
    obtain⟨rfl,hs,hd⟩:=hp
    exact tL.ok hx hs (by rw[Bool.or_false];exact hd)⟩
 refine(Bt ρ W0 (λ _=>false) oW el fK kt St LL w l lg dp h h0 aZ).mono λ e W' hp=>?_
 unfold fp at hp
 cases hx:dC el l with
 | error m=>rw[hx] at hp;exact ij.err hx hp
 | ok z=>obtain⟨xs,r⟩:=z;rw[hx] at hp;obtain⟨rfl,hs,hd⟩:=hp;rw[DM] at hd;exact ij.ok hx hs hd
structure tM where
 ρ:bj
 W0:World
 TQ:TypeId
 qb:Nat
 k:Nat
 pb:Nat
 B:Nat
 cs:Array Value
 os:List (Nat×TypeId×Array Value)
 Kp:World->(Nat->Prop)->Prop
structure tM.Fit (γ:tM):Prop where
 gg:γ.ρ.g < γ.W0.heap.size
 q0:γ.W0.heap.size<=γ.qb
 p0:γ.ρ.g < γ.pb
 pq:γ.pb≠γ.qb
 qB:γ.qb < γ.B
 pB:γ.pb < γ.B
 os:∀x∈γ.os,γ.W0.heap.size<=x.1/\x.1≠γ.qb/\x.1 < γ.B
 kS:γ.k < γ.cs.size
 kp:∀w w' S S',γ.Kp w S->(∀b,S b->(∀o,w'.cell? ⟨b,o,none⟩=w.cell? ⟨b,o,none⟩)/\S' b)->γ.Kp w' S'
structure tM.at_ {α:Type} (γ:tM) (E:El α) (T:TypeId) (v:Value) (acc:List α) (W:World):Prop where
 blk:av W γ.qb γ.TQ (γ.cs.setIfInBounds γ.k v)
 row:iX E T W γ.B v acc
 kp:γ.Kp W (mQ γ.B v W)
 sz:γ.B<=W.heap.size
 tF:av W γ.pb 77 #[γ.ρ.ptr]
 UO:∀x∈γ.os,av W x.1 x.2.1 x.2.2
def tM.acc(γ:tM)(E:El α)(T:TypeId)(acc:List α)(W:World):Prop:=∃v,γ.at_ E T v acc W
section
variable {α:Type} {γ:tM} {E:El α} {T:TypeId} {v v':Value} {acc:List α} {W W' W2:World}
theorem tM.at_.later (A:γ.at_ E T v acc W)(F:γ.Fit)(h:Below W.heap.size W W'):γ.at_ E T v acc W':=
 ⟨A.blk.later h,A.row.later h,F.kp _ _ _ _ A.kp (fl h),Nat.le_trans A.sz h.size,A.tF.later h,λ x hx=>(A.UO x hx).later h⟩
theorem tM.at_.grown (A:γ.at_ E T v acc W)(F:γ.Fit)(h:W.grownBy W' (some γ.ρ.g)):γ.at_ E T v acc W':=by have h1:=F.gg;have h2:=F.q0;have h3:=F.p0;have h4:=F.qB;exact⟨A.blk.grown h Tad,A.row.grown h Taa,F.kp _ _ _ _ A.kp (nO h Taa),Nat.le_trans A.sz h.size,A.tF.grown h Tad,λ x hx=>(A.UO x hx).grown h (by have:=F.os x hx;simp;omega)⟩
theorem tM.at_.ge (A:γ.at_ E T v acc W) {G:Nat}(hG:v.ownBlock=some G):γ.B<=G/\G < W.heap.size:=A.row.Fw hG
theorem tM.at_.cell (A:γ.at_ E T v acc W)(F:γ.Fit):W.cell? ⟨γ.qb,γ.k,none⟩=some v:=by rw[A.blk.cell];simp[F.kS]
theorem tM.at_.ptr (A:γ.at_ E T v acc W):W.cell? ⟨γ.pb,0,none⟩=some γ.ρ.ptr:=A.tF.cell 0
theorem tM.at_.push {n0:Nat} {x:α} {y:E.β} {l:aF} {lg dp:Bool}(A:γ.at_ E T v acc W)(F:γ.Fit)(D:aU γ.ρ γ.W0 W l lg dp)(hr:E.rel W (ep n0 W) x y)(xY:γ.B<=n0)(hv0:∀G,v.ownBlock=some G->G < n0) {ys:List E.β}(ha:fS (E.rel W (mQ γ.B v W)) acc ys)
  {W1:World} (hl:Below W.heap.size W W1) (kD:W1.grownBy W2 v.ownBlock) (nV:cz E.f T E.size W2 γ.B v' (ys++ [y])) (hv:v'.ownBlock=v.ownBlock\/v'.ownBlock=some W1.heap.size):
  W2.cell? ⟨γ.qb,γ.k,none⟩=some v/\W2.frozen? ⟨γ.qb,γ.k,none⟩=false/\γ.at_ E T v' (acc++ [x]) (W2.setCell ⟨γ.qb,γ.k,none⟩ v')/\aU γ.ρ γ.W0 (W2.setCell ⟨γ.qb,γ.k,none⟩ v') l lg dp:=by
 have h1:=F.gg;have h2:=F.q0;have h3:=F.p0;have h4:=F.qB;have h5:=F.pB;have h6:=F.pq;have Wt:∀(q:Nat),q < γ.B->some q≠v.ownBlock:=λ q hq e'=>by have:=(A.ge e'.symm).1;omega
 have hX:=(A.blk.later hl).grown kD (Wt _ h4);have IC:=hX.cr γ.k v';rw[Array.setIfInBounds_setIfInBounds] at IC;have nZ:=sk (B:=γ.B) kD hv;have Fb:∀b,ep n0 W b->(∀o,(W2.setCell ⟨γ.qb,γ.k,none⟩ v').cell? ⟨b,o,none⟩=W.cell? ⟨b,o,none⟩)/\mQ γ.B v' (W2.setCell ⟨γ.qb,γ.k,none⟩ v') b:=λ b hb=>by obtain⟨c1,s1⟩:=Be xY hv0 b hb;obtain⟨c2,s2⟩:=fl hl b s1;obtain⟨c3,s3⟩:=nZ b s2;obtain⟨c4,s4⟩:=sq h4 γ.k v' b s3;exact⟨λ o=>(c4 o).trans ((c3 o).trans ((c2 o).trans (c1 o))),s4⟩
 have hol:∀b,mQ γ.B v W b->(∀o,(W2.setCell ⟨γ.qb,γ.k,none⟩ v').cell? ⟨b,o,none⟩=W.cell? ⟨b,o,none⟩)/\mQ γ.B v' (W2.setCell ⟨γ.qb,γ.k,none⟩ v') b:=λ b hb=>by obtain⟨c2,s2⟩:=fl hl b hb;obtain⟨c3,s3⟩:=nZ b s2;obtain⟨c4,s4⟩:=sq h4 γ.k v' b s3;exact⟨λ o=>(c4 o).trans ((c3 o).trans (c2 o)),s4⟩
 have ajS:∀G,v'.ownBlock=some G->γ.qb < G:=λ G hG=>by have:=(nV.lt hG).2.1;omega
 refine⟨by rw[hX.cell];simp[F.kS],hX.frozen _,⟨IC,⟨ys++ [y],nV.keep λ g hg=>Below.heap_setCell W2 ⟨γ.qb,γ.k,none⟩ v' g (by have:=ajS g hg;simp;omega),fS.append (ha.imp λ _ _=>E.keep hol) (.one (E.keep Fb hr))⟩,F.kp _ _ _ _ A.kp hol,by have:=A.sz;have:=hl.size;have:=kD.size;simp[World.setCell];omega,((A.tF.later hl).grown kD (Wt _ h5)).far (p:=⟨γ.qb,γ.k,none⟩) Tad v',λ z hz=>?_⟩,?_⟩
 ·obtain⟨a,b,c⟩:=F.os z hz;exact(((A.UO z hz).later hl).grown kD (Wt _ c)).far (p:=⟨γ.qb,γ.k,none⟩) Tad v'
 ·exact((D.later hl).own h1 kD (λ G hG=>by have:=(A.ge hG).1;omega)).far h1 h2 _ _
end
theorem IV:∀y,∀u∈iP.f y,u.oneCell'=true:=by intro y u hu;simp[iP,aL] at hu;exact Zes
theorem Qk:∀y,∀u∈mI.f y,u.oneCell'=true:=by intro y u hu;simp[mI,aL] at hu;exact Zes
theorem YA:∀y,∀u∈xM.f y,u.oneCell'=true:=by intro y u hu;simp[xM,aL] at hu;exact Zes
theorem FQ:∀y,∀u∈xL.f y,u.oneCell'=true:=by
 intro y u hu;simp[xL] at hu;rcases hu with rfl | rfl <;> rfl
theorem row_one:∀y,∀u∈vh.f y,u.oneCell'=true:=by intro y u hu;simp[vh] at hu;rcases hu with rfl;rfl
theorem aag:∀y,∀u∈eJ.f y,u.oneCell'=true:=by intro y u hu;simp[eJ,aL] at hu;exact Zg3
variable{f:α->List Value}{size:Nat}{v:Value}
theorem mj{e:TypeId}   {B:Nat}  {l:List α}(h:cz f e size w B v l):∃A n c,v=.slice A n c:=by obtain⟨A,c,h⟩:=h.form;exact⟨A,_,c,h⟩
variable{γ:tM}{E:El α}{T:TypeId}{ops:Array Oper}{rest:List Oper}{o:Oper}{a:Act}{Q:Exit->Act->World->Prop}
theorem dQ{acc:List α}      (A:γ.at_ E T v acc W)(F:γ.Fit)(hgd:o.guard=none)(s x:Operand)(t:TypeId)
  (ho:o.op=.call { callee:=.builtin .append,args:= #[s,x],argTypes:= #[t,t] })
  (z:Value) (bytes:Nat) (ht:Tryz.prog.underlying t=some (.slice T)) (lO:(Tryz.prog.info? T).map (λ i=>(i.zero,i.size,i.bytes))=some (some z,E.size,bytes)) (hzs:z.cells.size=E.size) (hsz:0 < E.size)
  (y:E.β) (h1:∀u∈E.f y,u.oneCell'=true) (hs:a.eval s=v) (hx:a.eval x=.slice (some ⟨W.heap.size,0,none⟩) 1 1)
  (hlen:(acc.length+1)*bytes<=140737488355328) (ry:acc.length+1<=140737488355328) (hB:γ.B<=W.heap.size)
  (h:∀(ys:List E.β) v' W2,fS (E.rel W (mQ γ.B v W)) acc ys->cz E.f T E.size W2 γ.B v' (ys++ [y])->(W.alloc (.cells (E.f y).toArray T)).grownBy W2 v.ownBlock->(v'.ownBlock=v.ownBlock\/v'.ownBlock=some (W.alloc (.cells (E.f y).toArray T)).heap.size)->wpList Tryz.prog ops Q rest (a.put o.dst v') W2):wpList Tryz.prog ops Q (o::rest) a (W.alloc (.cells (E.f y).toArray T)):=by obtain⟨ys,hown,ha⟩:=A.row.has;have hl:=ha.len;exact uI hgd s x t ho z bytes ht lO hzs hsz y (E.hf y) h1 hs (hown.later (aa W _)) W.heap.size hx (av.new W _ _) (by rw[hl];exact hlen) (by rw[hl];exact ry) Tad (λ v' W2 h2 h3 h4=>h ys v' W2 ha h2 h3 h4)
theorem afk (b0 b1 b2 b3 b4 b5 b6 u0 u1 u2 u3 u4 u5 u6:Value)(C:List Value):∀A:List Value,(((((((A++(b0::b1::b2::b3::b4::b5::b6::C)).set A.length u0).set (A.length+1) u1).set (A.length+2) u2).set (A.length+3) u3).set (A.length+4) u4).set (A.length+5) u5).set (A.length+6) u6=A++(u0::u1::u2::u3::u4::u5::u6::C)
 | []=>rfl
 | a::A=>by have ih:=afk b0 b1 b2 b3 b4 b5 b6 u0 u1 u2 u3 u4 u5 u6 C A;simp only[cons_append,length_cons,show∀k,A.length+1+k=(A.length+k)+1 from λ k=>by omega,set_cons_succ,ih]
def oI (w:World)(g off:Nat)(y:Ex):World:=((((((w.setCell ⟨g,off,none⟩ (.int .u8 y.op)).setCell ⟨g,off+1,none⟩ (.int .u8 y.v.k)).setCell ⟨g,off+2,none⟩ (.int .i64 y.v.n)).setCell ⟨g,off+3,none⟩ (.string y.v.s)).setCell ⟨g,off+4,none⟩ (.string y.name)).setCell ⟨g,off+5,none⟩ (.int .i64 y.width)).setCell ⟨g,off+6,none⟩ (.slice y.A y.n y.c)
theorem Ql (w:World)(g off:Nat)(y:Ex)(b:Nat)(h:b≠g):(oI w g off y).heap[b]?=w.heap[b]?:=by
 unfold oI;have f:=λ(w:World) (i:Nat) (u:Value)=>Below.heap_setCell w ⟨g,i,none⟩ u b Tam
 rw[f,f,f,f,f,f,f]
theorem Bu (w:World)(g off:Nat)(y:Ex):(oI w g off y).heap.size=w.heap.size:=by simp[oI,World.setCell]
theorem IW (w:World)(g off:Nat)(y:Ex):w.grownBy (oI w g off y) (some g):=
 bn (bn (bn (bn (bn (bn (bn (az (Below.refl _ _)) _ _) _ _) _ _) _ _) _ _) _ _) _ _
variable{G m c:Nat}{ys:List Ex}{z:Ex}
theorem UQ{B:Nat}  (h:cz aL T 7 w B (.slice (some ⟨G,0,none⟩) m c) (ys++ [z])):cz aL T 7 (oI w G (ys.length*7) y) B (.slice (some ⟨G,0,none⟩) m c) (ys++ [y]):=by
 obtain⟨h1,h2⟩:=h
 have hA:(ys.flatMap aL).length=ys.length*7:=by
  clear h1 h2
  induction ys with
  | nil=>rfl
  | cons a l ih=>simp only[flatMap_cons,length_append,ih,length_cons,show(aL a).length=7 from rfl];omega
 rcases h2 with ⟨h2,_⟩|⟨g,cap,cur,hv,hb,hh,hnc,hcm,hcs,xH⟩
 ·injection h2 with h2;cases h2
 injection hv with Q8 hv2 hv3;injection Q8 with Q8;injection Q8 with Q8 _ _;subst Q8 hv3
 have UR:cur.toList=ys.flatMap aL++(aL z++cur.toList.drop ((ys++ [z]).length*7)):=by
  conv=>lhs;rw[<- take_append_drop ((ys++ [z]).length*7) cur.toList,xH]
  rw[flatMap_append,flatMap_cons,flatMap_nil,append_nil,append_assoc]
 have hB:av w G T cur:=hh;have hP:av (oI w G (ys.length*7) y) G T _:=((((((hB.cr (ys.length*7) (.int .u8 y.op)).cr (ys.length*7+1) (.int .u8 y.v.k)).cr (ys.length*7+2) (.int .i64 y.v.n)).cr (ys.length*7+3) (.string y.v.s)).cr (ys.length*7+4) (.string y.name)).cr (ys.length*7+5) (.int .i64 y.width)).cr (ys.length*7+6) (.slice y.A y.n y.c);refine⟨by simp only[flatMap_append,flatMap_cons,flatMap_nil,append_nil,length_append,hA,length_cons,length_nil,show(aL y).length=7 from rfl];omega,.inr ⟨G,c,_,by rw[hv2,length_append,length_append];rfl,hb,hP,by rw[length_append] at hnc ⊢;exact hnc,hcm,by simpa using hcs,?_⟩⟩;simp only[Array.toList_setIfInBounds];rw[UR,<- hA];have e:=afk (.int .u8 z.op) (.int .u8 z.v.k) (.int .i64 z.v.n) (.string z.v.s) (.string z.name) (.int .i64 z.width) (.slice z.A z.n z.c) (.int .u8 y.op) (.int .u8 y.v.k) (.int .i64 y.v.n) (.string y.v.s) (.string y.name) (.int .i64 y.width) (.slice y.A y.n y.c) (cur.toList.drop ((ys++ [z]).length*7)) (ys.flatMap aL);have e2:ys.flatMap aL++(aL z++cur.toList.drop ((ys++ [z]).length*7))=ys.flatMap aL++(.int .u8 z.op:: .int .u8 z.v.k:: .int .i64 z.v.n:: .string z.v.s:: .string z.name:: .int .i64 z.width:: .slice z.A z.n z.c::cur.toList.drop ((ys++ [z]).length*7)):=rfl;rw[e2,e,flatMap_append,flatMap_cons,flatMap_nil,append_nil];have e3:ys.flatMap aL++(.int .u8 y.op:: .int .u8 y.v.k:: .int .i64 y.v.n:: .string y.v.s:: .string y.name:: .int .i64 y.width:: .slice y.A y.n y.c::cur.toList.drop ((ys++ [z]).length*7))=(ys.flatMap aL++aL y)++cur.toList.drop ((ys++ [z]).length*7):=by rw[append_assoc];rfl
 rw[e3,take_append_of_le_length Taz,take_of_length_le Taz]
def zeroE:Ex:=⟨0,⟨0,0,⟨#[]⟩⟩,⟨#[]⟩,0,none,0,0⟩
structure IX (γ:tM) (v:Value) (acc:List Tr) (lg dp:Bool) (l r:aF) (t:Tr) (n0:Nat) (c z:Option Value) (w:World):Prop where
 sz:n0<=w.heap.size
 at_:γ.at_ eJ 36 v acc w
 no:c=none->aU γ.ρ γ.W0 w l lg dp
 yes:∀x,c=some x->∃y,x=dA y/\t.at_ w (ep n0 w) y/\aU γ.ρ γ.W0 w r lg (dp || decide (32 < t.depth))
 zero:∀x,z=some x->∃g0,x=.slice (some ⟨g0,0,none⟩) 1 1/\av w g0 36 dz/\n0<=g0
structure Nv (γ:tM) (v:Value) (acc:List Tr) (lg dp:Bool) (r:aF) (t:Tr) (a c:Value) (s p:Bool) (w:World):Prop where
 sz:γ.B<=w.heap.size
 blk:av w γ.qb γ.TQ (γ.cs.setIfInBounds γ.k (if p then a else v))
 kp:γ.Kp w (mQ γ.B a w)
 tF:av w γ.pb 77 #[γ.ρ.ptr]
 UO:∀x∈γ.os,av w x.1 x.2.1 x.2.2
 did:aU γ.ρ γ.W0 w r lg (dp || decide (32 < t.depth))
 row:∃(G cap:Nat) (ys:List Ex) (y:Ex),a=.slice (some ⟨G,0,none⟩) (acc.length+1) cap/\c=dA y/\ys.length=acc.length/\t.at_ w (mQ γ.B a w) y/\fS (Tr.at_ w (mQ γ.B a w)) acc ys/\cz aL 36 7 w γ.B a (ys++ [if s then y else zeroE])
section
variable {γ:tM} {v a c:Value} {acc:List Tr} {lg dp s p:Bool} {l r:aF} {t:Tr} {n0:Nat} {co z:Option Value} {w w':World}
theorem IX.later (A:IX γ v acc lg dp l r t n0 co z w)(F:γ.Fit)(h:Below w.heap.size w w'):IX γ v acc lg dp l r t n0 co z w':=
 ⟨Nat.le_trans A.sz h.size,A.at_.later F h,λ e=>(A.no e).later h,λ x e=>by obtain⟨y,h1,h2,h3⟩:=A.yes x e;exact⟨y,h1,h2.later h,h3.later h⟩,λ x e=>by obtain⟨g0,h1,h2,h3⟩:=A.zero x e;exact⟨g0,h1,h2.later h,h3⟩⟩
theorem Nv.later (A:Nv γ v acc lg dp r t a c s p w)(F:γ.Fit)(h:Below w.heap.size w w'):Nv γ v acc lg dp r t a c s p w':=
 ⟨Nat.le_trans A.sz h.size,A.blk.later h,F.kp _ _ _ _ A.kp (fl h),A.tF.later h,λ x hx=>(A.UO x hx).later h,A.did.later h,by
   obtain⟨G,cap,ys,y,h1,h2,h3,h4,h5,h6⟩:=A.row
   exact⟨G,cap,ys,y,h1,h2,h3,Tr.at_.keep (fl h) _ _ h4,h5.imp λ _ _ k=>Tr.at_.keep (fl h) _ _ k,h6.later h⟩⟩
theorem IX.start (A:γ.at_ eJ 36 v acc w)(D:aU γ.ρ γ.W0 w l lg dp):IX γ v acc lg dp l r t w.heap.size none none w:=
 ⟨Nat.le_refl _,A,λ _=>D,λ x e=>(by cases e),λ x e=>(by cases e)⟩
theorem IX.call (A:IX γ v acc lg dp l r t n0 none z w)(F:γ.Fit)(hn:γ.B<=n0) {y:Ex}(hat:t.at_ w' (ep w.heap.size w') y)(d:aU γ.ρ w w' r lg (dp || decide (32 < t.depth))):IX γ v acc lg dp l r t n0 (some (dA y)) z w':=by have h1:=F.gg;have h2:=F.q0;have h3:=F.qB;exact⟨Nat.le_trans A.sz d.size,A.at_.grown F d.grown,λ e=>(by cases e),λ x e=>(by injection e with e;exact⟨y,e.symm,hat.more A.sz,(A.no rfl).trans d⟩),λ x e=>(by obtain⟨g0,k1,k2,k3⟩:=A.zero x e;exact⟨g0,k1,d.blk k2 Taa,k3⟩)⟩
theorem IX.F8 (A:IX γ v acc lg dp l r t n0 co none w)(F:γ.Fit):IX γ v acc lg dp l r t n0 co (some (.slice (some ⟨w.heap.size,0,none⟩) 1 1)) (w.alloc (.cells dz 36)):=by have B:=A.later F (aa w (.cells dz 36));exact⟨B.sz,B.at_,B.no,B.yes,λ x e=>by injection e with e;exact⟨w.heap.size,e.symm,av.new w _ _,A.sz⟩⟩
theorem IX.app {cv zv:Value}(A:IX γ v acc lg dp l r t n0 (some cv) (some zv) w)(F:γ.Fit)(hn:γ.B<=n0)(hv0:∀G,v.ownBlock=some G->G < n0)(hlen:acc.length<=5000):∃v' w',(Builtin.append_ #[24,24] 24 #[v,zv]).run Tryz.prog w=.ok v' w'/\Nv γ v acc lg dp r t v' cv false false w':=by
 have h1:=F.gg;have h2:=F.q0;have h3:=F.p0;have h4:=F.qB;have h5:=F.pB;obtain⟨g0,rfl,hz,hg0⟩:=A.zero _ rfl;obtain⟨y,rfl,hat,hd⟩:=A.yes _ rfl;obtain⟨(ys:List Ex),ho,ha⟩:=A.at_.row.has;have xx:ys.length=acc.length:=ha.len;have Wt:∀(q:Nat),q < γ.B->some q≠v.ownBlock:=λ q hq e'=>by have:=(A.at_.ge e'.symm).1;omega
 obtain⟨v',w',hr,nV,ZA,hv⟩:=qP (P:=Tryz.prog) (f:=aL) (e:=36) (size:=7) (base:=γ.B) (y:=zeroE) (w:=w) 24 24 _ 88 Tryz.underlying24 Fg rfl Tac (λ _=>rfl) (aag zeroE) ho g0 hz (by rw[xx];omega) (by rw[xx];omega) A.at_.sz;have kD:=ZA.grown;have hk:=sk (B:=γ.B) kD hv;obtain⟨G,cap,ja,hGb,_⟩:=nV.cell (f:=aL) (λ _=>rfl) (k:=acc.length) (x:=zeroE) (by rw[<- xx];simp);refine⟨v',w',hr,Nat.le_trans A.at_.sz kD.size,?_,F.kp _ _ _ _ A.at_.kp hk,A.at_.tF.grown kD (Wt _ h5),λ x hx=>(A.at_.UO x hx).grown kD (Wt _ (F.os x hx).2.2),hd.own h1 kD (λ G hG=>by have:=(A.at_.ge hG).1;omega),G,cap,ys,y,?_,rfl,xx,?_,ha.imp λ _ _ k=>Tr.at_.keep hk _ _ k,nV⟩
 ·simp only[Bool.false_eq_true,if_false];exact A.at_.blk.grown kD (Wt _ h4)
 ·rw[ja];simp[xx]
 ·exact Tr.at_.keep hk _ _ (Tr.at_.keep (Be hn hv0) _ _ hat)
theorem Nv.elem {G cap:Nat} {y:Ex}(A:Nv γ v acc lg dp r t a (dA y) false p w)(F:γ.Fit)(ha:a=.slice (some ⟨G,0,none⟩) (acc.length+1) cap):Nv γ v acc lg dp r t a (dA y) true p (oI w G (acc.length*7) y):=by
 have h1:=F.gg;have h2:=F.q0;have h3:=F.p0;have h4:=F.qB;have h5:=F.pB;obtain⟨G',cap',ys,y',e1,e2,e3,e4,e5,e6⟩:=A.row;have hG:G'=G/\cap'=cap:=by rw[ha] at e1;injection e1 with e1 _ e1c;injection e1 with e1;injection e1 with e1 _ _;exact⟨e1.symm,e1c.symm⟩
 obtain⟨rfl,rfl⟩:=hG;have hy:y'=y:=by obtain⟨a1,⟨a2,a3,a4⟩,a5,a6,a7,a8,a9⟩:=y;obtain⟨b1,⟨b2,b3,b4⟩,b5,b6,b7,b8,b9⟩:=y';unfold dA aL at e2;simp only[Value.agg.injEq] at e2;simp at e2;obtain⟨rfl,rfl,rfl,rfl,rfl,rfl,rfl,rfl,rfl⟩:=e2;rfl
 subst hy;have hown:a.ownBlock=some G':=by rw[ha];rfl
 have CE:γ.B<=G':=(e6.lt hown).2.1;have hg:=IW w G' (acc.length*7) y'
 have hk:∀b,mQ γ.B a w b->(∀o,(oI w G' (acc.length*7) y').cell? ⟨b,o,none⟩=w.cell? ⟨b,o,none⟩)/\mQ γ.B a (oI w G' (acc.length*7) y') b:=λ b hb=>
  ⟨cell_of_heap (Ql w G' _ y' b (λ e=>hb.2.2 (by rw[hown,e]))),hb.1,by rw[Bu];exact hb.2.1,hb.2.2⟩
 refine⟨by rw[Bu];exact A.sz,A.blk.grown hg Tad,F.kp _ _ _ _ A.kp hk,A.tF.grown hg Tad,λ x hx=>(A.UO x hx).grown hg (by have:=(F.os x hx).2.2;simp;omega),A.did.own h1 hg (λ G hG=>by injection hG with hG;omega),G',cap',ys,y',ha,rfl,e3,Tr.at_.keep hk _ _ e4,e5.imp λ _ _ k=>Tr.at_.keep hk _ _ k,?_⟩;have e6:cz aL 36 7 w γ.B a (ys++ [zeroE]):=e6;rw[ha] at e6 ⊢;rw[<- e3] at e6 ⊢;exact UQ e6
theorem Nv.list (A:Nv γ v acc lg dp r t a c s false w)(F:γ.Fit):Nv γ v acc lg dp r t a c s true (w.setCell ⟨γ.qb,γ.k,none⟩ a):=by
 have h1:=F.gg;have h2:=F.q0;have h3:=F.p0;have h4:=F.qB;have h5:=F.pB;have h6:=F.pq;obtain⟨G,cap,ys,y,e1,e2,e3,e4,e5,e6⟩:=A.row;have hk:=sq (v:=a) (w:=w) h4 γ.k a;have hb:=A.blk.cr γ.k a;rw[Array.setIfInBounds_setIfInBounds] at hb;have hown:a.ownBlock=some G:=by rw[e1];rfl
 have CE:γ.B<=G:=(e6.lt hown).2.1;exact⟨by have:=A.sz;simpa [World.setCell] using this,hb,F.kp _ _ _ _ A.kp hk,A.tF.far (p:=⟨γ.qb,γ.k,none⟩) Tad a,λ x hx=>(A.UO x hx).far (p:=⟨γ.qb,γ.k,none⟩) (by have:=(F.os x hx).2.1;simp;omega) a,A.did.far h1 h2 _ _,G,cap,ys,y,e1,e2,e3,Tr.at_.keep hk _ _ e4,e5.imp λ _ _ k=>Tr.at_.keep hk _ _ k,e6.keep λ g hg=>by rw[hown] at hg;injection hg with hg;exact Below.heap_setCell w ⟨γ.qb,γ.k,none⟩ a g Tad⟩
theorem Nv.done (A:Nv γ v acc lg dp r t a c true true w):γ.at_ eJ 36 a (acc++ [t]) w:=by obtain⟨G,cap,ys,y,e1,e2,e3,e4,e5,e6⟩:=A.row;exact⟨A.blk,⟨ys++ [y],e6,fS.append e5 (.one e4)⟩,A.kp,A.sz,A.tF,A.UO⟩
end
theorem YD(h:ey l=.ok (t,r))(ha:ar lZ r=false):nz l=.ok ((t,ByteArray.empty),r):=by unfold nz;refine(ag h).trans ?_;rw[bK];simp only[ha];rfl
theorem UW(h:ey l=.ok (t,r))(ha:ar lZ r=true):nz l=(do let n <- ct;return (t,n):Ps (Tr×ByteArray)) r.tail:=by unfold nz;refine(ag h).trans ?_;rw[bK];simp only[ha,if_true]
theorem UX(h:ey l=.ok (t,r)):km l=.ok ((t,ar mo r),ig mo r):=by unfold km;refine(ag h).trans ?_;exact(ag (sB mo r)).trans rfl
variable{w':World}{g q:Nat}
theorem fI(h:w.grownBy w' (some g))(hq:w.heap.size<=q)(i:Nat)(u:Value):w.grownBy (w'.setCell ⟨q,i,none⟩ u) (some g):=
 ⟨h.os,h.tape,h.output,by simpa [World.setCell] using h.size,λ k hk WN=>(Below.heap_setCell w' ⟨q,i,none⟩ u k Tad).trans (h.block k hk WN)⟩
theorem Jb:(Tryz.prog.info? 86).map (λ i=>(i.zero,i.size,i.bytes))=some (some (.agg #[.int .u8 0,.int .u8 0,.int .i64 0,.string ⟨#[]⟩,.string ⟨#[]⟩,.int .i64 0,.slice none 0 0,.bool false]),8,96):=by kernel_rfl
theorem xA:(Tryz.prog.info? 53).map (λ i=>(i.zero,i.size,i.bytes))=some (some (.agg #[.string ⟨#[]⟩,.int .u8 0]),2,24):=by kernel_rfl
theorem Qo:(Tryz.prog.info? 55).map (λ i=>(i.zero,i.size,i.bytes))=some (some (.agg #[.string ⟨#[]⟩,.int .u8 0,.int .u8 0,.int .i64 0,.string ⟨#[]⟩,.string ⟨#[]⟩,.int .i64 0,.slice none 0 0]),8,104):=by kernel_rfl
theorem Qp:(Tryz.prog.info? 24).map (λ i=>(i.zero,i.size,i.bytes))=some (some (.slice none 0 0),1,24):=by kernel_rfl
theorem zhC.Kcv(h:p:=by
 have hm:=bk γ.ρ W2 r lg _ eC.out.at_ ⟨#[97,115]⟩;rw[show(⟨#[97,115]⟩:ByteArray).data.toList=lZ from rfl] at hm;have hx2:=oq.out.lt;cases hh:ar lZ r
 ·rw[hh,bS hh] at hm;have HE:=hid (YD iI.out hh);clear hh;go_wp2_with fail;refine hm.mono ?_;clear hm p0;rintro e w3 ⟨rfl,d⟩;have jv:=hid (eC.out.trans d);have BQ:=hid (d.blk oq.out Taa);have BR:=hid (ai xB.out d.grown);clear d eC oq xB;have hA:=fV.out.grown F BR.out;have tD:=hid hA;have kq:=hA.cell F;rw[hk] at kq;have LU:=hA.sz;clear hA;go_wp2_with (first
   |(refine wpList_load_row rfl 51 (.tmp 2) rfl w2.heap.size rfl 51 _ (0,0) _ BQ.out Tryz.underlying51 rfl TaQ ?_)
   |(at_builtin
     refine dQ tD.out F rfl _ _ 23 rfl _ 104 Tryz.underlying23 xt rfl Tac (y,⟨#[]⟩) (IV _) rfl rfl Taa Taa LU ?_
     intro ys v' W3 ha nV kD hv
     obtain⟨A9,n9,c9,rfl⟩:=mj nV
     obtain⟨LV,LW,uP,uQ⟩:=tD.out.push F jv.out (x:=(t,ByteArray.empty)) (y:=(y,⟨#[]⟩)) ⟨Tr.at_.keep (eF BR.out Taa) _ _ wG.out,rfl⟩ WA Wz.out ha (aa _ _) kD nV Tay
     rw[hk] at LV LW uP uQ
     have LY:=hid uP
     have LZ:=hid uQ
     clear uP uQ ha nV kD hv))
  exact Zf8
 ·rw[hh,cg hh] at hm;have HE:=hid (UW iI.out hh);clear hh;go_wp2_with fail;refine hm.mono ?_;clear hm p0;rintro e w3 ⟨rfl,d⟩;have jv:=hid (eC.out.trans d);have BQ:=hid (d.blk oq.out Taa);have BR:=hid (ai xB.out d.grown);clear d eC oq xB;have p0:=(fV.out.grown F BR.out).ptr;generalize r.tail=r3 at*;go_wp2_with fail;refine(dN γ.ρ w3 r3 lg _ jv.out.at_).mono ?_;intro e w4 hp;rcases hp.cases with ⟨nm,r4,v4,ay,rfl,rfl,d⟩|⟨m,au,rfl,hg⟩;case inr=>have HE:=hid (HE.out.trans (ak au));have HG:=hid jv.out.grown;clear hp au;go_wp2_with fail;exact aj rfl (ri.err HE.out ⟨rfl,ai HG.out hg⟩)
  have JA:=hid ((HE.out.trans (ag ay)).trans rfl);have oF:=hid ((jv.out.trans d).far aZ (by omega:γ.W0.heap.size<=w2.heap.size) 7 (.string nm));have YE:=d.blk BQ.out Taa;have Re:=YE.cr 7 (.string nm);simp only[Uac] at Re;have zj:=hid Re;have hG4:=ai BR.out d.grown;have CA:=hid (fI hG4 (Nat.le_refl w2.heap.size) 7 (.string nm));have k7:=YE.cell 7;have f7:=YE.frozen 7;have p4:=(fV.out.grown F hG4).ptr;simp only[getElem?_toArray,getElem?_cons_succ,getElem?_cons_zero] at k7;clear hp ay d jv BQ BR YE Re hG4 p0;go_upto_region 3 with fail
  clear k7 f7 p4;generalize Fy:w4.setCell _ _=W4 at*;clear Fy;have hA:=fV.out.grown F CA.out;have tD:=hid hA;have kq:=hA.cell F;rw[hk] at kq;have LU:=hA.sz;clear hA;go_wp2_with (first
   |(refine wpList_load_row rfl 51 (.tmp 2) rfl w2.heap.size rfl 51 _ (0,0) _ zj.out Tryz.underlying51 rfl TaQ ?_)
   |(at_builtin
     refine dQ tD.out F rfl _ _ 23 rfl _ 104 Tryz.underlying23 xt rfl Tac (y,nm) (IV _) rfl rfl Taa Taa LU ?_
     intro ys v' W3 ha nV kD hv
     obtain⟨A9,n9,c9,rfl⟩:=mj nV
     obtain⟨LV,LW,uP,uQ⟩:=tD.out.push F oF.out (x:=(t,nm)) (y:=(y,nm)) ⟨Tr.at_.keep (eF CA.out Taa) _ _ wG.out,rfl⟩ WA Wz.out ha (aa _ _) kD nV Tay
     rw[hk] at LV LW uP uQ
     have LY:=hid uP
     have LZ:=hid uQ
     clear uP uQ ha nV kD hv))
  go_end0;exact ri.ok JA.out ⟨_,LY.out⟩ LZ.out):p:=h
theorem zds.KaR(h:p:=by
 have hm:=jS γ.ρ W l lg dp hd.at_;clear A hd;go_enter Tryz.func150,Tryz.ntmps150;go_wp2_with fail;refine hm.mono ?_;clear hm;intro e w2 hp;rcases hp.cases with ⟨t,r,v2,ay,rfl,y,rfl,hat,d2⟩|⟨m,au,rfl,hg⟩;case inr=>have HE:=hid (show nz l=.error m from ak au);have HG:=hid HD.out.grown;clear hp au;go_wp2_with fail;exact aj rfl (ri.err HE.out ⟨rfl,ai HG.out hg⟩)
 have hs2:=d2.size;have fV:=hid (HA.out.grown F d2.grown);have wG:=hid hat;have eC:=hid ((HD.out.trans d2).later (aa w2 (.cells (Cp (y,⟨#[]⟩)).toArray 51)));have oq:=hid (av.new w2 51 (Cp (y,⟨#[]⟩)).toArray);have xB:=hid (az (p:=γ.ρ.g) (aa w2 (.cells (Cp (y,⟨#[]⟩)).toArray 51)));have iI:=hid ay;have hgx:γ.ρ.g < w2.heap.size:=by have:=d2.lt;omega
 clear hp hat d2 ay HA HD p0;unfold dA Cp at*;open zhC in exact Zge):p:=h
theorem LS (γ:tM)(F:γ.Fit)(Qn:γ.TQ=28)(hk:γ.k=0)(acc:List (Tr×ByteArray))(W:World)(l:aF)(lg dp:Bool)(hn:acc.length<=5000)(hs:γ.acc iP 51 acc W)(hd:aU γ.ρ γ.W0 W l lg dp):
  Calls Tryz.prog 150 #[.pointer (some ⟨γ.pb,0,none⟩),.pointer (some ⟨γ.qb,0,none⟩)] W (ri γ.ρ γ.W0 (λ x=>decide (32 < x.1.depth)) nz (γ.acc iP 51) acc lg dp l):=by
 open zds in exact Zbl
theorem zhD.Kcv(h:p:=by
 have hm:=bk γ.ρ W2 r lg _ eC.out.at_ ⟨#[100,101,115,99]⟩;rw[show(⟨#[100,101,115,99]⟩:ByteArray).data.toList=mo from rfl] at hm;have hx2:=oq.out.lt;have HE:=hid (UX iI.out);generalize ar mo r=ds at*;generalize ig mo r=r3 at*;go_wp2_with fail;refine hm.mono ?_;clear hm p0;rintro e w4 ⟨rfl,d⟩;have oF:=hid ((eC.out.trans d).far aZ (by omega:γ.W0.heap.size<=w2.heap.size) 7 (.bool ds));have YE:=d.blk oq.out Taa;have Re:=YE.cr 7 (.bool ds);simp only[Uac] at Re;have zj:=hid Re;have hG4:=ai xB.out d.grown;have CA:=hid (fI hG4 (Nat.le_refl w2.heap.size) 7 (.bool ds));have k7:=YE.cell 7;have f7:=YE.frozen 7;simp only[getElem?_toArray,getElem?_cons_succ,getElem?_cons_zero] at k7;clear d eC oq xB YE Re hG4;go_upto_region 2 with fail
 clear k7 f7;generalize Fy:w4.setCell _ _=W4 at*;clear Fy;have hA:=fV.out.grown F CA.out;have tD:=hid hA;have kq:=hA.cell F;rw[hk] at kq;have LU:=hA.sz;clear hA;go_wp2_with (first
  |(refine wpList_load_row rfl 86 (.tmp 2) rfl w2.heap.size rfl 86 _ (0,0) _ zj.out Tryz.underlying86 rfl TaQ ?_)
  |(at_builtin
    refine dQ tD.out F rfl _ _ 25 rfl _ 96 Tryz.underlying25 Jb rfl Tac (y,ds) (Qk _) rfl rfl Taa Taa LU ?_
    intro ys v' W3 ha nV kD hv
    obtain⟨A9,n9,c9,rfl⟩:=mj nV
    obtain⟨LV,LW,uP,uQ⟩:=tD.out.push F oF.out (x:=(t,ds)) (y:=(y,ds)) ⟨Tr.at_.keep (eF CA.out Taa) _ _ wG.out,rfl⟩ WA Wz.out ha (aa _ _) kD nV Tay
    rw[hk] at LV LW uP uQ
    have LY:=hid uP
    have LZ:=hid uQ
    clear uP uQ ha nV kD hv))
 exact Zf8):p:=h
theorem zdt.KaR(h:p:=by
 have hm:=jS γ.ρ W l lg dp hd.at_;clear A hd;go_enter Tryz.func152,Tryz.ntmps152;go_wp2_with fail;refine hm.mono ?_;clear hm;intro e w2 hp;rcases hp.cases with ⟨t,r,v2,ay,rfl,y,rfl,hat,d2⟩|⟨m,au,rfl,hg⟩;case inr=>have HE:=hid (show km l=.error m from ak au);have HG:=hid HD.out.grown;clear hp au;go_wp2_with fail;exact aj rfl (ri.err HE.out ⟨rfl,ai HG.out hg⟩)
 have hs2:=d2.size;have fV:=hid (HA.out.grown F d2.grown);have wG:=hid hat;have eC:=hid ((HD.out.trans d2).later (aa w2 (.cells (orC (y,false)).toArray 86)));have oq:=hid (av.new w2 86 (orC (y,false)).toArray);have xB:=hid (az (p:=γ.ρ.g) (aa w2 (.cells (orC (y,false)).toArray 86)));have iI:=hid ay;have hgx:γ.ρ.g < w2.heap.size:=by have:=d2.lt;omega
 clear hp hat d2 ay HA HD p0;unfold dA orC at*;open zhD in exact Zge):p:=h
theorem Jc (γ:tM)(F:γ.Fit)(Qn:γ.TQ=28)(hk:γ.k=6)(acc:List (Tr×Bool))(W:World)(l:aF)(lg dp:Bool)(hn:acc.length<=5000)(hs:γ.acc mI 86 acc W)(hd:aU γ.ρ γ.W0 W l lg dp):
  Calls Tryz.prog 152 #[.pointer (some ⟨γ.pb,0,none⟩),.pointer (some ⟨γ.qb,0,none⟩)] W (ri γ.ρ γ.W0 (λ x=>decide (32 < x.1.depth)) km (γ.acc mI 86) acc lg dp l):=by
 open zdt in exact Zbl
theorem tH:∀ {ks:List (List UInt8)} {l r:aF} {s:List UInt8},jU ks l=.ok (s,r)->s∈ks
 | [],l,r,s,h=>by cases h
 | k::ks,l,r,s,h=>by
   cases hh:ar k l
   ·rw[FH hh] at h;exact mem_cons_of_mem _ (tH h)
   ·rw[zq hh] at h;injection h with h;injection h with h1 h2;simp[<- h1]
theorem zgI.Kb5(h:p:=by
 have hb3:=aa W2 (.cells (aK [zS,uk,wK]) 9);have jv:=hid (eC.out.later hb3);have BQ:=hid (oq.out.later hb3);have BR:=hid (ai xB.out (az hb3));have kD:=eC.out.lt;have hm:=pR γ.ρ _ r lg dp jv.out.at_ [zS,uk,wK] W2.heap.size 3 rfl (av.new W2 _ _) Taa Taa;clear hb3 eC oq xB;unfold aK strOf at hm jv BQ BR;simp only[map_cons,map_nil] at hm jv BQ BR;rw[show zS.toArray= #[105,110,116] from rfl,show uk.toArray= #[98,111,111,108] from rfl,show wK.toArray= #[116,101,120,116] from rfl] at hm jv BQ BR;go_wp2_with fail;refine hm.mono ?_;clear hm p0;intro e w4 hp;rcases hp.cases with ⟨ty,r4,v4,ay,rfl,rfl,d⟩|⟨m,au,rfl,hg⟩;case inr=>have HE:=hid (show gW l=.error m from(ag iI.out).trans (ak au));have HG:=hid jv.out.grown;clear hp au;go_wp2_with fail;exact aj rfl (ri.err HE.out ⟨rfl,ai HG.out hg⟩)
 have HE:=hid (show gW l=.ok ((nm,typeOf ty),r4)from(ag iI.out).trans ((ag ay).trans rfl));have rj:=tH ay;have oF:=hid (jv.out.trans d);have Cz:=hid (d.blk BQ.out Taa);have Ga:=hid (ai BR.out d.grown);clear hp ay d jv BQ BR iI;have k1:=Cz.out.cell 1;have f1:=Cz.out.frozen 1;simp only[getElem?_toArray,getElem?_cons_succ,getElem?_cons_zero] at k1;simp only[mem_cons,not_mem_nil,or_false] at rj;rcases rj with rfl | rfl | rfl
 ·have zj:=hid (Cz.out.cr 1 (.int .u8 2));have BP:=hid (oF.out.far aZ (by omega:γ.W0.heap.size<=w2.heap.size) 1 (.int .u8 2));have CA:=hid (fI Ga.out (Nat.le_refl w2.heap.size) 1 (.int .u8 2));clear Cz oF Ga;simp only[Uac] at zj;unfold zS;go_upto_region 7 with fail
  clear k1 f1;generalize Fy:w4.setCell _ _=W4 at*;clear Fy;have hA:=fV.out.grown F CA.out;have tD:=hid hA;have kq:=hA.cell F;rw[hk] at kq;have LU:=hA.sz;clear hA;go_wp2_with (first
   |(refine wpList_load_row rfl 53 (.tmp 2) rfl w2.heap.size rfl 53 _ (0,0) _ zj.out Tryz.underlying53 rfl TaQ ?_)
   |(at_builtin
     refine dQ tD.out F rfl _ _ 22 rfl _ 24 Tryz.underlying22 xA rfl Tac (nm,2) (FQ _) rfl rfl Taa Taa LU ?_
     intro ys v' W3 ha nV kD hv
     obtain⟨A9,n9,c9,rfl⟩:=mj nV
     obtain⟨LV,LW,uP,uQ⟩:=tD.out.push F BP.out (x:=(nm,2)) (y:=(nm,2)) TaQ WA Wz.out ha (aa _ _) kD nV Tay
     rw[hk] at LV LW uP uQ
     have LY:=hid uP
     have LZ:=hid uQ
     clear uP uQ ha nV kD hv))
  exact Zdp
 ·have zj:=hid (Cz.out.cr 1 (.int .u8 1));have BP:=hid (oF.out.far aZ (by omega:γ.W0.heap.size<=w2.heap.size) 1 (.int .u8 1));have CA:=hid (fI Ga.out (Nat.le_refl w2.heap.size) 1 (.int .u8 1));clear Cz oF Ga;simp only[Uac] at zj;unfold uk;go_upto_region 7 with fail
  clear k1 f1;generalize Fy:w4.setCell _ _=W4 at*;clear Fy;have hA:=fV.out.grown F CA.out;have tD:=hid hA;have kq:=hA.cell F;rw[hk] at kq;have LU:=hA.sz;clear hA;go_wp2_with (first
   |(refine wpList_load_row rfl 53 (.tmp 2) rfl w2.heap.size rfl 53 _ (0,0) _ zj.out Tryz.underlying53 rfl TaQ ?_)
   |(at_builtin
     refine dQ tD.out F rfl _ _ 22 rfl _ 24 Tryz.underlying22 xA rfl Tac (nm,1) (FQ _) rfl rfl Taa Taa LU ?_
     intro ys v' W3 ha nV kD hv
     obtain⟨A9,n9,c9,rfl⟩:=mj nV
     obtain⟨LV,LW,uP,uQ⟩:=tD.out.push F BP.out (x:=(nm,1)) (y:=(nm,1)) TaQ WA Wz.out ha (aa _ _) kD nV Tay
     rw[hk] at LV LW uP uQ
     have LY:=hid uP
     have LZ:=hid uQ
     clear uP uQ ha nV kD hv))
  exact Zdp
 ·have zj:=hid (Cz.out.cr 1 (.int .u8 3));have BP:=hid (oF.out.far aZ (by omega:γ.W0.heap.size<=w2.heap.size) 1 (.int .u8 3));have CA:=hid (fI Ga.out (Nat.le_refl w2.heap.size) 1 (.int .u8 3));clear Cz oF Ga;simp only[Uac] at zj;unfold wK;go_upto_region 7 with fail
  clear k1 f1;generalize Fy:w4.setCell _ _=W4 at*;clear Fy;have hA:=fV.out.grown F CA.out;have tD:=hid hA;have kq:=hA.cell F;rw[hk] at kq;have LU:=hA.sz;clear hA;go_wp2_with (first
   |(refine wpList_load_row rfl 53 (.tmp 2) rfl w2.heap.size rfl 53 _ (0,0) _ zj.out Tryz.underlying53 rfl TaQ ?_)
   |(at_builtin
     refine dQ tD.out F rfl _ _ 22 rfl _ 24 Tryz.underlying22 xA rfl Tac (nm,3) (FQ _) rfl rfl Taa Taa LU ?_
     intro ys v' W3 ha nV kD hv
     obtain⟨A9,n9,c9,rfl⟩:=mj nV
     obtain⟨LV,LW,uP,uQ⟩:=tD.out.push F BP.out (x:=(nm,3)) (y:=(nm,3)) TaQ WA Wz.out ha (aa _ _) kD nV Tay
     rw[hk] at LV LW uP uQ
     have LY:=hid uP
     have LZ:=hid uQ
     clear uP uQ ha nV kD hv))
  exact Zdp):p:=h
theorem zdu.KaR(h:p:=by
 have hm:=dN γ.ρ W l lg dp hd.at_;clear A hd;go_enter Tryz.func116,Tryz.ntmps116;go_wp2_with fail;refine hm.mono ?_;clear hm;intro e w2 hp;rcases hp.cases with ⟨nm,r,v2,ay,rfl,rfl,d2⟩|⟨m,au,rfl,hg⟩;case inr=>have HE:=hid (show gW l=.error m from ak au);have HG:=hid HD.out.grown;clear hp au;go_wp2_with fail;exact aj rfl (ri.err HE.out ⟨rfl,ai HG.out hg⟩)
 have hs2:=d2.size;have fV:=hid (HA.out.grown F d2.grown);have eC:=hid ((HD.out.trans d2).later (aa w2 (.cells #[.string nm,.int .u8 0] 53)));have oq:=hid (av.new w2 53 #[.string nm,.int .u8 0]);have xB:=hid (az (p:=γ.ρ.g) (aa w2 (.cells #[.string nm,.int .u8 0] 53)));open zgI in exact Zew):p:=h
theorem FT (γ:tM)(F:γ.Fit)(Qn:γ.TQ=34)(hk:γ.k=2)(acc:List (ByteArray×Int))(W:World)(l:aF)(lg dp:Bool)(hn:acc.length<=5000)(hs:γ.acc xL 53 acc W)(hd:aU γ.ρ γ.W0 W l lg dp):
  Calls Tryz.prog 116 #[.pointer (some ⟨γ.pb,0,none⟩),.pointer (some ⟨γ.qb,0,none⟩)] W (ri γ.ρ γ.W0 (λ _=>false) gW (γ.acc xL 53) acc lg dp l):=by
 open zdu in exact Zbl
theorem zgJ.Kb5(h:p:=by
 have hb3:=aa W2 (.cells (aK [EB]) 9);have jv:=hid (eC.out.later hb3);have BQ:=hid (oq.out.later hb3);have BR:=hid (ai xB.out (az hb3));have kD:=eC.out.lt;have hm:=aR γ.ρ _ r lg dp jv.out.at_ [EB] W2.heap.size 1 rfl (av.new W2 _ _) Taa Taa;clear hb3 eC oq xB;unfold aK strOf at hm jv BQ BR;simp only[map_cons,map_nil] at hm jv BQ BR;rw[show EB.toArray= #[61] from rfl] at hm jv BQ BR;go_wp2_with fail;refine hm.mono ?_;clear hm p0;intro e w4 hp;rcases hp.cases with ⟨_,r4,v4,ay,rfl,rfl,d⟩|⟨m,au,rfl,hg⟩;case inr=>have HE:=hid (show vp l=.error m from(ag iI.out).trans (ak (show must EB r=.error m by rw[<- ax];exact au)));have HG:=hid jv.out.grown;clear hp au;go_wp2_with fail;exact aj rfl (ri.err HE.out ⟨rfl,ai HG.out hg⟩)
 have jx:must EB r=.ok ((),r4):=by rw[<- ax];exact ay
 have JA:=hid (show vp l=(do let x <- ey;return (nm,x):Ps (ByteArray×Tr)) r4 from(ag iI.out).trans (ag jx));have oF:=hid (jv.out.trans d);have Cz:=hid (d.blk BQ.out Taa);have Ga:=hid (ai BR.out d.grown);have p0:=(fV.out.grown F Ga.out).ptr;have ZV:=Cz.out.lt;clear hp ay jx d jv BQ BR iI;go_wp2_with fail;refine(jS γ.ρ w4 r4 lg dp oF.out.at_).mono ?_;intro e w5 hp;rcases hp.cases with ⟨t,r5,v5,ay,rfl,y,rfl,hat,d⟩|⟨m,au,rfl,hg⟩;case inr=>have HE:=hid (JA.out.trans (ak au));have HG:=hid oF.out.grown;clear hp au;go_wp2_with fail;exact aj rfl (ri.err HE.out ⟨rfl,ai HG.out hg⟩)
 have HE:=hid ((JA.out.trans (ag ay)).trans rfl);have Re:=d.blk Cz.out Taa;have zj:=hid ((((((((Re.cr 1 (.int .u8 y.op)).cr 2 (.int .u8 y.v.k)).cr 3 (.int .i64 y.v.n)).cr 4 (.string y.v.s)).cr 5 (.string y.name)).cr 6 (.int .i64 y.width)).cr 7 (.slice y.A y.n y.c)));have BP:=hid (((((((((oF.out.trans d).far aZ (by omega:γ.W0.heap.size<=w2.heap.size) 1 (.int .u8 y.op)).far aZ (by omega:γ.W0.heap.size<=w2.heap.size) 2 (.int .u8 y.v.k)).far aZ (by omega:γ.W0.heap.size<=w2.heap.size) 3 (.int .i64 y.v.n)).far aZ (by omega:γ.W0.heap.size<=w2.heap.size) 4 (.string y.v.s)).far aZ (by omega:γ.W0.heap.size<=w2.heap.size) 5 (.string y.name)).far aZ (by omega:γ.W0.heap.size<=w2.heap.size) 6 (.int .i64 y.width)).far aZ (by omega:γ.W0.heap.size<=w2.heap.size) 7 (.slice y.A y.n y.c)));have CA:=hid ((fI (fI (fI (fI (fI (fI (fI (ai Ga.out d.grown) (Nat.le_refl w2.heap.size) 1 (.int .u8 y.op)) (Nat.le_refl w2.heap.size) 2 (.int .u8 y.v.k)) (Nat.le_refl w2.heap.size) 3 (.int .i64 y.v.n)) (Nat.le_refl w2.heap.size) 4 (.string y.v.s)) (Nat.le_refl w2.heap.size) 5 (.string y.name)) (Nat.le_refl w2.heap.size) 6 (.int .i64 y.width)) (Nat.le_refl w2.heap.size) 7 (.slice y.A y.n y.c)));have HT5:=hid ((((((((hat.set (q:=w2.heap.size) ZV 1 (.int .u8 y.op)).set (q:=w2.heap.size) ZV 2 (.int .u8 y.v.k)).set (q:=w2.heap.size) ZV 3 (.int .i64 y.v.n)).set (q:=w2.heap.size) ZV 4 (.string y.v.s)).set (q:=w2.heap.size) ZV 5 (.string y.name)).set (q:=w2.heap.size) ZV 6 (.int .i64 y.width)).set (q:=w2.heap.size) ZV 7 (.slice y.A y.n y.c)))
 obtain⟨k0,k1,k2,k3,k4,k5,k6,k7⟩:=iU Re;obtain⟨f0,f1,f2,f3,f4,f5,f6,f7⟩:=qC Re;clear hp ay Re hat d oF Cz Ga JA p0;simp only[Uac] at zj;unfold dA aL;go_upto_region 3 with fail
 clear k0 k1 k2 k3 k4 k5 k6 k7 f0 f1 f2 f3 f4 f5 f6 f7;generalize Z6:(World.setCell _ _ _)=W5 at*;clear Z6;have hA:=fV.out.grown F CA.out;have tD:=hid hA;have kq:=hA.cell F;rw[hk] at kq;have LU:=hA.sz;clear hA;go_wp2_with (first
  |(refine wpList_load_row rfl 55 (.tmp 2) rfl w2.heap.size rfl 55 _ (0,0) _ zj.out Tryz.underlying55 rfl TaQ ?_)
  |(at_builtin
    refine dQ tD.out F rfl _ _ 30 rfl _ 104 Tryz.underlying30 Qo rfl Tac (nm,y) (YA _) rfl rfl Taa Taa LU ?_
    intro ys v' W3 ha nV kD hv
    obtain⟨A9,n9,c9,rfl⟩:=mj nV
    obtain⟨LV,LW,uP,uQ⟩:=tD.out.push F BP.out (x:=(nm,t)) (y:=(nm,y)) ⟨rfl,HT5.out.more Taa⟩ WA Wz.out ha (aa _ _) kD nV Tay
    rw[hk] at LV LW uP uQ
    have LY:=hid uP
    have LZ:=hid uQ
    clear uP uQ ha nV kD hv))
 exact Zf8):p:=h
theorem zdv.KaR(h:p:=by
 have hm:=dN γ.ρ W l lg dp hd.at_;clear A hd;go_enter Tryz.func121,Tryz.ntmps121;go_wp2_with fail;refine hm.mono ?_;clear hm;intro e w2 hp;rcases hp.cases with ⟨nm,r,v2,ay,rfl,rfl,d2⟩|⟨m,au,rfl,hg⟩;case inr=>have HE:=hid (show vp l=.error m from ak au);have HG:=hid HD.out.grown;clear hp au;go_wp2_with fail;exact aj rfl (ri.err HE.out ⟨rfl,ai HG.out hg⟩)
 have hs2:=d2.size;have fV:=hid (HA.out.grown F d2.grown);have eC:=hid ((HD.out.trans d2).later (aa w2 (.cells #[.string nm,.int .u8 0,.int .u8 0,.int .i64 0,.string ⟨#[]⟩,.string ⟨#[]⟩,.int .i64 0,.slice none 0 0] 55)));have oq:=hid (av.new w2 55 #[.string nm,.int .u8 0,.int .u8 0,.int .i64 0,.string ⟨#[]⟩,.string ⟨#[]⟩,.int .i64 0,.slice none 0 0]);have xB:=hid (az (p:=γ.ρ.g) (aa w2 (.cells #[.string nm,.int .u8 0,.int .u8 0,.int .i64 0,.string ⟨#[]⟩,.string ⟨#[]⟩,.int .i64 0,.slice none 0 0] 55)));open zgJ in exact Zew):p:=h
theorem Qq (γ:tM)(F:γ.Fit)(Qn:γ.TQ=34)(hk:γ.k=20)(acc:List (ByteArray×Tr))(W:World)(l:aF)(lg dp:Bool)(hn:acc.length<=5000)(hs:γ.acc xM 55 acc W)(hd:aU γ.ρ γ.W0 W l lg dp):
  Calls Tryz.prog 121 #[.pointer (some ⟨γ.pb,0,none⟩),.pointer (some ⟨γ.qb,0,none⟩)] W (ri γ.ρ γ.W0 (λ x=>decide (32 < x.2.depth)) vp (γ.acc xM 55) acc lg dp l):=by
 open zdv in exact Zbl
end Go.Proofs.YtehhdlgjfdnafaaGreatDoor
