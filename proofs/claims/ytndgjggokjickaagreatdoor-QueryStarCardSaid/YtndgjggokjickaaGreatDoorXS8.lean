/- Parts of the proof. -/
import Derived.RangeFuncNested
import Derived.RangeFuncBound
import Derived.Shelf.RegionOpen
import Derived.OwnWalkIn
import Derived.LoopNIn
import Derived.LoopIn
import Derived.Deep.WholeRow
import Derived.Test.YtndgjggokjickaaGreatDoorXS7
namespace Go.Proofs.YtndgjggokjickaaGreatDoor
variable{p:Prop}
set_option maxHeartbeats 90000000
set_option maxRecDepth 100000
open Go.ChangeShapes Go.WideShapes Go.ChangeAt Go.RowKit Go.Shelf List
set_option linter.unusedVariables false
set_option linter.unusedSimpArgs false
attribute [local go_sem] Oper.semAt_some
variable{w w':World}
theorem Qs{p:Addr}(h:w'.heap[p.block]?=w.heap[p.block]?):w'.cell? p=w.cell? p:=by unfold World.cell?;rw[h]
structure Fr (w w':World):Prop where
 size:w.heap.size<=w'.heap.size
 cell:∀p v,w.cell? p=some v->w'.cell? p=some v
theorem Fr.refl (w:World):Fr w w:=⟨Nat.le_refl _,λ _ _ h=>h⟩
variable{a b c:World}
theorem Fr.trans(h:Fr a b)(k:Fr b c):Fr a c:=⟨Nat.le_trans h.size k.size,λ p v hv=>k.cell p v (h.cell p v hv)⟩
variable{v:Value}
theorem Qt{p:Addr} (h:w.cell? p=some v):p.block < w.heap.size:=by
 rcases Nat.lt_or_ge p.block w.heap.size with h1 | h1
 ·exact h1
 ·unfold World.cell? at h;rw[Array.getElem?_eq_none h1] at h;simp at h
theorem Fr.below(h:aj w w'):Fr w w':=⟨h.size,λ p v hv=>(h.cell (Qt hv)).trans hv⟩
theorem Fr.putObj (w:World)(l:Nat)(ob ob':Obj)(h:w.heap[l]?=some ob)(hc:ob.isCells=false):Fr w (w.putObj l ob'):=
 ⟨by simp,λ p v hv=>by
   obtain⟨o2,ho,hc2⟩:=cells_of_cell hv
   have hne:p.block≠l:=λ e=>by rw[e,h] at ho;injection ho with ho;rw[ho,hc2] at hc;cases hc
   exact(Qs (World.putObj_heap_other hne)).trans hv⟩
variable{off:Nat}
theorem cy.fr{b:Nat} {x:Ex}(h:cy w b off x)(hf:Fr w w'):cy w' b off x:=by unfold cy at*;exact⟨hf.cell _ _ h.1,hf.cell _ _ h.2.1,hf.cell _ _ h.2.2.1,hf.cell _ _ h.2.2.2.1,hf.cell _ _ h.2.2.2.2.1,hf.cell _ _ h.2.2.2.2.2.1,hf.cell _ _ h.2.2.2.2.2.2⟩
variable{B:Nat}{A:Option Addr}
theorem RE.fr{l:List Ex}(h:RE w B A l)(hf:Fr w w'):RE w' B A l:=by
 rcases h with h |⟨b,off,h1,h2,h3⟩
 ·exact .inl h
 ·exact .inr ⟨b,off,h1,h2,λ i x hx=>(h3 i x hx).fr hf⟩
abbrev QE (w0:World):= { x:Ex×Tr // x.2.ok/\x.2.at_ w0 (Old w0) x.1 }
variable{w0:World}
theorem AX:∀(ts:List Tr) (ys:List Ex),Tr.cP ts->Tr.aQ w0 (Old w0) ts ys->∃L:List (QE w0),L.map (λ x=>x.1.1)=ys/\L.map (λ x=>x.1.2)=ts
 | [],ys,_,h=>by unfold Tr.aQ at h;subst h;exact⟨[],rfl,rfl⟩
 | t::ts,ys,bh,h=>by unfold Tr.aQ at h;unfold Tr.cP at bh;obtain⟨y,ys',rfl,h1,h2⟩:=h;obtain⟨L,e1,e2⟩:=AX ts ys' bh.2 h2;exact⟨⟨(y,t),bh.1,h1⟩::L,by rw[map_cons,e1],by rw[map_cons,e2]⟩
def Qv(x:QE w0):Array Value:= #[.agg (ay x.1.1)]
theorem nO(h:aj w w'):w.grownBy w' none:=⟨h.os,h.tape,h.output,h.size,λ k hk _=>h.block k hk⟩
theorem zjA.KcK(h:p:=by
 have HA_:=aa hA;clear hR hJ1 hLk fK hex h7 iO hb hA;gi_wp2;refine HR.ae.mono ?_;rintro e W3 (⟨rfl,hJ3,hk3⟩|⟨rfl,Df⟩)
 ·rw[<- pA.ae] at hJ3;have HJ3:=aa hJ3;have HF3:=aa ((HK.ae.trans (Fr.below (ah wr (.cells #[ag y.op,ag y.v.k,af y.v.n,.string y.v.s,.string y.name,af y.width,.slice y.A y.n y.c,.string nm] 48)))).trans hk3);clear hJ3 hk3 HR HO;exact Zej
 ·rw[<- pA.ae] at Df;have HJX:=aa Df;clear Df HR HO;gi_wp2;refine bodyPost_ret (results_none rfl _ _ _) rfl ?_;exact⟨⟨_,rfl⟩,.inr ⟨_,by rw[append_assoc];exact(take_prefix _ _).trans (prefix_append _ _),HJX.ae⟩⟩):p:=h
theorem zjB.KcK(h:p:=by
 clear hR hJ1 hLk fK hex hb;gi_wp2;refine HR.ae.mono ?_;rintro e W3 (⟨rfl,hJ3,hk3⟩|⟨rfl,Df⟩)
 ·rw[<- pA.ae] at hJ3;have HJ3:=aa hJ3;have HF3:=aa ((HK.ae.trans (Fr.below (ah wr (.cells (ay y) 46)))).trans hk3);clear hJ3 hk3 HR HO iC hy;exact Zej
 ·rw[<- pA.ae] at Df;have HJX:=aa Df;clear Df HR HO iC hy;gi_wp2;refine bodyPost_ret (results_none rfl _ _ _) rfl ?_;exact⟨⟨_,rfl⟩,.inr ⟨_,((prefix_append_right_inj Li).2 (take_prefix _ _)).trans (prefix_append _ _),HJX.ae⟩⟩):p:=h
theorem zjC.KcK(h:p:=by
 clear hR hJ1 hLk fK hex h7 iO hb hA;gi_wp2;refine HR.ae.mono ?_;rintro e W3 (⟨rfl,hJ3,hk3⟩|⟨rfl,Df⟩)
 ·rw[<- pA.ae] at hJ3;have HJ3:=aa hJ3;have HF3:=aa ((HK.ae.trans (Fr.below (ah wr (.cells #[ag y.op,ag y.v.k,af y.v.n,.string y.v.s,.string y.name,af y.width,.slice y.A y.n y.c,.bool nm] 117)))).trans hk3);clear hJ3 hk3 HR HO iC h72 hy;exact Zej
 ·rw[<- pA.ae] at Df;have HJX:=aa Df;clear Df HR HO iC h72 hy;gi_wp2;refine bodyPost_ret (results_none rfl _ _ _) rfl ?_;exact⟨⟨_,rfl⟩,.inr ⟨_,(prefix_append_right_inj (Li++Lc)).2 (take_prefix _ _),HJX.ae⟩⟩):p:=h
theorem zdI.KaH(h:p:=by
 have HP:=aa DS;obtain⟨KK,hl2,uu⟩:=hlen;have HN:=aa (And.intro nw (And.intro ng nh));unfold fW at k1;have q0:=k1.cell 0;have x3:=k1.cell 3;have x4:=k1.cell 4;have x5:=k1.cell 5;have x6:=k1.cell 6;simp only[Uaa] at q0 x3 x4 x5 x6;rw[ni] at q0;rw[no] at x6;have HQ:=aa (And.intro q0 (And.intro x3 (And.intro x4 (And.intro x5 x6))));clear ih q1 hF q2 q3 q4 q5 AP Aj fq hz Ny DS ni no nw ng nh x3 x4 x5 x6 k1;refine callsIn_of_wp Tryz.func96 rfl trivial ?_ rfl;simp only[Tryz.ntmps96,size_toArray,length_cons,length_nil,Nat.reduceAdd,Nat.reduceSub,Array.replicate_succ,Array.replicate_zero,push_toArray,append_toArray,nil_append,cons_append];gi_wp2;clear q0;gi_loopw [12] (λ i wr=>∃k:Nat,k<=zi.length/\i=af k/\J (Li.take k) wr/\Fr W wr) (λ i _=>zi.length - (intOf i).toNat);case atStart=>exact⟨0,Nat.zero_le _,rfl,h0,Fr.refl _⟩
 case round=>
  clear h0;obtain⟨k,hk,rfl,hK,hL⟩:=hrel;have HO:=aa hK;have HK:=aa hL;clear hK hL;by_cases hlt:k < zi.length
  ·obtain⟨b,off,hA,hb,hex,h7⟩:=HF.ae.at_ hlt;obtain⟨nm,iO⟩:=IH.ae _ (getElem_mem hlt);rw[iO] at h7;have iC:=hex.fr (HP.ae.trans HK.ae);have h72:=(HP.ae.trans HK.ae).cell _ _ h7;have fK:k < Li.length:=by have:=congrArg List.length oQ.ae;simp only[length_map] at this;omega
   have hLk:(Li[k]'fK).1.1=zi[k].1:=by have h1:=congrArg (λ l=>l[k]?) oQ.ae;simp only[getElem?_map,getElem?_eq_getElem hlt,getElem?_eq_getElem fK,Option.map_some] at h1;injection h1
   have pA:=aa (show Li.take (k+1)=Li.take k++ [Li[k]'fK] by rw[take_add_one,getElem?_eq_getElem fK];rfl);have Aa:=aa (show(Li.take k).length <(Li++Lc++Lo).length by rw[length_take,length_append,length_append];omega);generalize Li[k]'fK=x at*;rw[hA];generalize zi[k].1=y at*;unfold cy at iC;have hJ1:=jH.ae _ _ (wr.alloc (.cells #[ag y.op,ag y.v.k,af y.v.n,.string y.v.s,.string y.name,af y.width,.slice y.A y.n y.c,.string nm] 48)) none HO.ae (World.grownBy_alloc wr _ none) (λ r e=>by cases e);open zjA in exact Zit
  ·have fL:k=zi.length:=by omega
   subst fL;have amY:Li.take zi.length=Li:=take_of_length_le (by
    have:=congrArg List.length oQ.ae
    simp only[length_map] at this
    omega)
   rw[amY] at HO;have Kx:=HK.ae;have x3:=Kx.cell _ _ HQ.ae.2.1;have x4:=Kx.cell _ _ HQ.ae.2.2.1;have x5:=Kx.cell _ _ HQ.ae.2.2.2.1;have Ae:=aa (Kx.cell _ _ HQ.ae.2.2.2.2);obtain⟨nw,ng,nh⟩:=HN.ae;rw[nw] at x3;rw[ng] at x4;rw[nh] at x5;clear Kx amY hlt nw ng nh;have amZ:=aa (And.intro x3 (And.intro x4 x5));gi_wp2;have C4:=aa (ah wr (.cells #[.slice L.w.A yw.length L.w.c,.slice L.g.A yg.length L.g.c,.slice L.h.A yh.length L.h.c] 23));have IV:=aa (aC.new wr 23 #[.slice L.w.A yw.length L.w.c,.slice L.g.A yg.length L.g.c,.slice L.h.A yh.length L.h.c])
   have hRL:RL (wr.alloc (.cells #[.slice L.w.A yw.length L.w.c,.slice L.g.A yg.length L.g.c,.slice L.h.A yh.length L.h.c] 23)) (wr.alloc (.cells #[.slice L.w.A yw.length L.w.c,.slice L.g.A yg.length L.g.c,.slice L.h.A yh.length L.h.c] 23)).heap.size (some ⟨wr.heap.size,0,none⟩) [⟨L.w.A,L.w.c,yw⟩,⟨L.g.A,L.g.c,yg⟩,⟨L.h.A,L.h.c,yh⟩]:=by
    refine⟨wr.heap.size,0,rfl,IV.ae.lt,λ i x hx=>?_⟩;have hL:=(HP.ae.trans HK.ae).trans (Fr.below C4.ae)
    match i,hx with
    | 0,hx=>simp at hx;subst hx;exact⟨by rw[IV.ae.cell];rfl,(Q3.ae.fr hL).more hL.size⟩
    | 1,hx=>simp at hx;subst hx;exact⟨by rw[IV.ae.cell];rfl,(Q4.ae.fr hL).more hL.size⟩
    | 2,hx=>simp at hx;subst hx;exact⟨by rw[IV.ae.cell];rfl,(Q5.ae.fr hL).more hL.size⟩
    | i+3,hx=>simp at hx
   refine⟨trivial,(callsIn_wide.2 (uN _ 3 _ _ Tac (by simpa [lC] using uu) hRL)).mono ?_⟩;rintro e w5 ⟨v,rfl,hO,Iq⟩;obtain⟨lc,hlc⟩:∃lc,lc=yw++(yg++yh):=⟨_,rfl⟩;have dU:aI bI 46 7 w5 (wr.alloc (.cells #[.slice L.w.A yw.length L.w.c,.slice L.g.A yg.length L.g.c,.slice L.h.A yh.length L.h.c] 23)).heap.size v lc:=by rw[hlc];simpa using hO
   obtain⟨CA,cc,rfl,_,hres⟩:=pT dU (S:=Old w5) (λ q k1=>(dU.lt k1).1);have HRE:=aa (show RE w5 w5.heap.size CA lc from hres);have vr:=aa (ai.then C4.ae Iq);have HJ5:=aa (jH.ae _ _ _ none HO.ae (nO vr.ae) (λ r e=>by cases e));have HF5:=aa (HK.ae.trans (Fr.below vr.ae));have HQ7:=aa ((Fr.below vr.ae).cell _ _ Ae.ae);have agT:=aa (show Lc.map (λ x=>x.1.1)=lc by rw[Ay.ae,hlc,append_assoc]);have hl4:lc.length<=1000000:=by rw[hlc,<- append_assoc];exact uu
   clear hRL hO dU hres Iq hlc HO HK Ae C4 IV vr x3 x4 x5 amZ;gi_wp2;gi_loopw [31] (λ i wr2=>∃k:Nat,k<=lc.length/\i=af k/\J (Li++Lc.take k) wr2/\Fr w5 wr2) (λ i _=>lc.length - (intOf i).toNat);case atStart=>exact⟨0,Nat.zero_le _,rfl,by rw[take_zero,append_nil];exact HJ5.ae,Fr.refl _⟩
   case round=>
    clear HJ5;obtain⟨k,hk,rfl,hK,hL⟩:=hrel;have HO:=aa hK;have HK:=aa hL;clear hK hL;by_cases hlt:k < lc.length
    ·obtain⟨b,off,hA,hb,hex⟩:=HRE.ae.at_ hlt;have iC:=hex.fr HK.ae;have fK:k < Lc.length:=by have:=congrArg List.length agT.ae;simp only[length_map] at this;omega
     have hLk:(Lc[k]'fK).1.1=lc[k]:=by have h1:=congrArg (λ l=>l[k]?) agT.ae;simp only[getElem?_map,getElem?_eq_getElem hlt,getElem?_eq_getElem fK,Option.map_some] at h1;injection h1
     have pA:=aa (show Li++Lc.take (k+1)=(Li++Lc.take k)++ [Lc[k]'fK] by rw[take_add_one,getElem?_eq_getElem fK,append_assoc];rfl);have Aa:=aa (show(Li++Lc.take k).length <(Li++Lc++Lo).length by rw[length_append,length_take,length_append,length_append];omega);generalize Lc[k]'fK=x at*;subst hA;generalize lc[k]=y at*;unfold cy at iC;have hJ1:=jH.ae _ _ (wr.alloc (.cells (ay y) 46)) none HO.ae (World.grownBy_alloc wr _ none) (λ r e=>by cases e);open zjB in exact Zit
    ·have fL:k=lc.length:=by omega
     subst fL;have ana:Lc.take lc.length=Lc:=take_of_length_le (by
      have:=congrArg List.length agT.ae
      simp only[length_map] at this
      omega)
     rw[ana] at HO;have x6:=HK.ae.cell _ _ HQ7.ae;have HF0:=aa (HP.ae.trans (HF5.ae.trans HK.ae));clear ana hlt HF5 HK HQ7;gi_wp2;clear x6;gi_loopw [43] (λ i wr2=>∃k:Nat,k<=zo.length/\i=af k/\J (Li++Lc++Lo.take k) wr2/\Fr w0 wr2) (λ i _=>zo.length - (intOf i).toNat);case atStart=>exact⟨0,Nat.zero_le _,rfl,by rw[take_zero,append_nil];exact HO.ae,HF0.ae⟩
     case round=>
      clear HO HF0;obtain⟨k,hk,rfl,hK,hL⟩:=hrel;have HO:=aa hK;have HK:=aa hL;clear hK hL;by_cases hlt:k < zo.length
      ·obtain⟨b,off,hA,hb,hex,h7⟩:=HH.ae.at_ hlt;obtain⟨nm,iO⟩:=Q1.ae _ (getElem_mem hlt);rw[iO] at h7;have iC:=hex.fr HK.ae;have h72:=HK.ae.cell _ _ h7;have fK:k < Lo.length:=by have:=congrArg List.length ZV.ae;simp only[length_map] at this;omega
       have hLk:(Lo[k]'fK).1.1=zo[k].1:=by have h1:=congrArg (λ l=>l[k]?) ZV.ae;simp only[getElem?_map,getElem?_eq_getElem hlt,getElem?_eq_getElem fK,Option.map_some] at h1;injection h1
       have pA:=aa (show Li++Lc++Lo.take (k+1)=(Li++Lc++Lo.take k)++ [Lo[k]'fK] by rw[take_add_one,getElem?_eq_getElem fK,<- append_assoc];rfl);have Aa:=aa (show(Li++Lc++Lo.take k).length <(Li++Lc++Lo).length by simp only[length_append,length_take];omega);generalize Lo[k]'fK=x at*;rw[hA];generalize zo[k].1=y at*;unfold cy at iC;have hJ1:=jH.ae _ _ (wr.alloc (.cells #[ag y.op,ag y.v.k,af y.v.n,.string y.v.s,.string y.name,af y.width,.slice y.A y.n y.c,.bool nm] 117)) none HO.ae (World.grownBy_alloc wr _ none) (λ r e=>by cases e);open zjC in exact Zit
      ·have fL:k=zo.length:=by omega
       subst fL;have anb:Lo.take zo.length=Lo:=take_of_length_le (by
        have:=congrArg List.length ZV.ae
        simp only[length_map] at this
        omega)
       rw[anb] at HO;clear anb hlt HK;gi_wp2;go_end0;exact⟨⟨_,rfl⟩,.inl ⟨_,rfl,HO.ae⟩⟩):p:=h
theorem abv (w0:World)(n:Nat)(hn:1<=n)(l gq:Nat)(q:Qy)(L:QL)(zi zo:List (Ex×Value))(yw yg yh:List Ex)(Li Lc Lo:List (QE w0))
  (hF:RI w0 w0.heap.size L.i.A zi) (q2:RI w0 w0.heap.size L.o.A zo) (q3:RE w0 w0.heap.size L.w.A yw) (q4:RE w0 w0.heap.size L.g.A yg) (q5:RE w0 w0.heap.size L.h.A yh)
  (ni:L.i.n=zi.length) (no:L.o.n=zo.length) (nw:L.w.n=yw.length) (ng:L.g.n=yg.length) (nh:L.h.n=yh.length)
  (AP:Li.map (λ x=>x.1.1)=zi.map (·.1)) (Aj:Lo.map (λ x=>x.1.1)=zo.map (·.1)) (fq:Lc.map (λ x=>x.1.1)=yw++yg++yh) (ih:∀z∈zi,∃s,z.2=.string s) (q1:∀z∈zo,∃s,z.2=.bool s) (hlen:zi.length<=1000000/\zo.length<=1000000/\(yw++yg++yh).length<=1000000)
  (J Jx:List (QE w0)->World->Prop) (W:World) (hz:AbidesFrom W.heap.size J)
  (Ny:∀pre x W1,J pre W1->pre.length <(Li++Lc++Lo).length->YieldAt Fence.wide (n - 1) Tryz.prog l (Qv x) W1 λ e W'=>(e=.returned (.bool true)/\J (pre++ [x]) W'/\Fr W1 W')\/(e=.returned (.bool false)/\Jx (pre++ [x]) W'))
  (k1:aC W gq 27 (fW q L)) (DS:Fr w0 W) (h0:J [] W):
  CallsIn Fence.wide n Tryz.prog 96 #[.func (.yield l) #[] #[],.pointer (some ⟨gq,0,none⟩)] W λ e W'=>(∃v,e=.returned v)/\((∃ys,ys=Li++Lc++Lo/\J ys W')\/(∃pre,pre <+: Li++Lc++Lo/\Jx pre W')):=by
 open zdI in exact Zbm
def PR (u v:Value)(r:Rest):Nat->Value
 | 0=>u | 1=>v | 2=>r.h | 3=>r.i | 4=>r.j | _=>r.o
def tD (w:World)(gp:Nat)(R:Nat->Value)(b:Nat):Prop:=b < w.heap.size/\b≠gp/\∀i < 6,(R i).ownBlock≠some b
structure PlF (w0:World) (gp g2:Nat) (qc:Array Value) (g4 g5 D:Nat) (R:Nat->Value) (w:World):Prop where
 low:w0.heap.size<=gp
 lt:gp < w.heap.size
 base:aj w0 w
 rows:∀i < 6,∀q,(R i).ownBlock=some q->w0.heap.size<=q/\q < w.heap.size/\q≠gp
 ap:∀i < 6,∀j < 6,i≠j->∀q,(R i).ownBlock=some q->(R j).ownBlock≠some q
 k2:tD w gp R g2
 k4:tD w gp R g4
 k5:tD w gp R g5
 kD:tD w gp R D
 new:w0.heap.size<=g4/\w0.heap.size<=g5/\g4≠g5/\g4≠D/\g5≠D
 dd:w.heap[D]?=some (.deferred (some []))
 z2:aC w g2 27 qc
 z4:aC w g4 72 #[.pointer none]
 z5:aC w g5 34 #[af 0]
structure Dg (w0:World) (gp:Nat) (R R':Nat->Value) (T:Nat->Prop) (w w':World):Prop where
 os:w'.os=w.os
 tape:w'.tape=w.tape
 output:w'.output=w.output
 size:w.heap.size<=w'.heap.size
 far:∀b,b < w.heap.size->b≠gp->(∀i < 6,T i->(R i).ownBlock≠some b)->w'.heap[b]?=w.heap[b]?
 same:∀i < 6,¬T i->R' i=R i
 mv:∀i < 6,T i->Mv w (R i) (R' i)
 one:∀i < 6,∀j < 6,T i->T j->i≠j->∀q,(R' i).ownBlock=some q->(R' j).ownBlock≠some q
 rows:∀i < 6,T i->∀q,(R' i).ownBlock=some q->w0.heap.size<=q/\q < w'.heap.size/\q≠gp
section
variable {w0 w w':World} {gp g2 g4 g5 D:Nat} {qc:Array Value} {R R':Nat->Value} {T:Nat->Prop}
theorem Dg.kp (s:Dg w0 gp R R' T w w') {b:Nat}(h:tD w gp R b):tD w' gp R' b:=
 ⟨Nat.lt_of_lt_of_le h.1 s.size,h.2.1,λ i hi=>by
   by_cases hT:T i
   ·exact(s.mv i hi hT).ne h.1 (h.2.2 i hi)
   ·rw[s.same i hi hT];exact h.2.2 i hi⟩
theorem Dg.keep (s:Dg w0 gp R R' T w w') {b:Nat}(h:tD w gp R b):w'.heap[b]?=w.heap[b]?:=s.far b h.1 h.2.1 λ i hi _=>h.2.2 i hi
theorem PlF.step (h:PlF w0 gp g2 qc g4 g5 D R w)(s:Dg w0 gp R R' T w w'):PlF w0 gp g2 qc g4 g5 D R' w':=by
 have hr:∀i < 6,∀q,(R' i).ownBlock=some q->w0.heap.size<=q/\q < w'.heap.size/\q≠gp:=λ i hi q hq=>by
  by_cases hT:T i
  ·exact s.rows i hi hT q hq
  ·rw[s.same i hi hT] at hq;have:=h.rows i hi q hq;exact⟨this.1,Nat.lt_of_lt_of_le this.2.1 s.size,this.2.2⟩
 refine⟨h.low,Nat.lt_of_lt_of_le h.lt s.size,?_,hr,?_,s.kp h.k2,s.kp h.k4,s.kp h.k5,s.kp h.kD,h.new,(s.keep h.kD).trans h.dd,(s.keep h.k2).trans h.z2,(s.keep h.k4).trans h.z4,(s.keep h.k5).trans h.z5⟩
 ·exact⟨s.os.trans h.base.os,s.tape.trans h.base.tape,s.output.trans h.base.output,Nat.le_trans h.base.size s.size,λ k hk=>(s.far k (Nat.lt_of_lt_of_le hk h.base.size) (by have:=h.low;omega) λ i hi _ e=>by have:=(h.rows i hi k e).1;omega).trans (h.base.block k hk)⟩
 ·intro i hi j hj kY q hq lr;by_cases hT:T i <;> by_cases hU:T j
  ·exact s.one i hi j hj hT hU kY q hq lr
  ·rw[s.same j hj hU] at lr;have hl:=(h.rows j hj q lr).2.1;rcases s.mv i hi hT with h1 | h1
   ·exact h.ap i hi j hj kY q (h1▸hq) lr
   ·have:=h1 q hq;omega
  ·rw[s.same i hi hT] at hq;have hl:=(h.rows i hi q hq).2.1;rcases s.mv j hj hU with h1 | h1
   ·exact h.ap i hi j hj kY q hq (h1▸lr)
   ·have:=h1 q lr;omega
  ·rw[s.same i hi hT] at hq;rw[s.same j hj hU] at lr;exact h.ap i hi j hj kY q hq lr
theorem Dg.own {α:Type} {f:α->List Value} {e:TypeId} {size base:Nat} {l:List α}(s:Dg w0 gp R R' T w w')(h:PlF w0 gp g2 qc g4 g5 D R w) {i:Nat}(hi:i < 6)(hT:¬T i)(ho:aI f e size w base (R i) l):aI f e size w' base (R' i) l:=by
 rw[s.same i hi hT];refine ho.keep λ g hg=>s.far g (h.rows i hi g hg).2.1 (h.rows i hi g hg).2.2 λ j hj hU=>h.ap i hi j hj (λ e=>hT (e▸hU)) g hg
theorem Dg.trees (s:Dg w0 gp R R' T w w') {ts:List Tr} {ys:List Ex}(h:Tr.aQ w (tD w gp R) ts ys):Tr.aQ w' (tD w' gp R') ts ys:=Tr.aQ.keep (λ b hb=>⟨λ o=>bJ (s.keep hb) o,s.kp hb⟩) ts ys h
theorem Dg.later (hb:aj w w'):Dg w0 gp R R (λ _=>False) w w':=⟨hb.os,hb.tape,hb.output,hb.size,λ b h1 _ _=>hb.block b h1,λ _ _ _=>rfl,λ _ _ h=>h.elim,λ _ _ _ _ h=>h.elim,λ _ _ h=>h.elim⟩
end
structure cT (c:PC) (w0:World) (gp g2:Nat) (qc:Array Value) (g4 g5 D:Nat) (r:Rest) (w:World) (u v:Value) (ya:List Ex) (s:dE) (hd:List aZ) (yi yh yo:List Ex) (ti th eE:List Tr):Prop where
 f:PlF w0 gp g2 qc g4 g5 D (PR u v r) w
 blk:aC w gp 81 (c.cells r u v)
 o0:aI bI 46 7 w w0.heap.size u ya
 o1:aI aU 113 2 w w0.heap.size v s.aL
 o2:aI aU 113 2 w w0.heap.size r.h hd
 o3:aI bI 46 7 w w0.heap.size r.i yi
 o4:aI bI 46 7 w w0.heap.size r.j yh
 o5:aI bI 46 7 w w0.heap.size r.o yo
 aM:Tr.aQ w0 (Old w0) s.aM ya
 t3:Tr.aQ w (tD w gp (PR u v r)) ti yi
 t4:Tr.aQ w (tD w gp (PR u v r)) th yh
 t5:Tr.aQ w (tD w gp (PR u v r)) eE yo
section
variable {c:PC} {w0 w w':World} {gp g2 g4 g5 D:Nat} {qc:Array Value} {r:Rest} {u v u' v':Value} {ya qE:List Ex} {s s':dE} {hd:List aZ} {yi yh yo:List Ex} {ti th eE:List Tr}
theorem cT.ps (h:cT c w0 gp g2 qc g4 g5 D r w u v ya s hd yi yh yo ti th eE):eJ c w0 gp r w u v ya s:=⟨h.f.low,h.f.base,h.blk,h.o0,h.o1,h.aM⟩
theorem cT.later (h:cT c w0 gp g2 qc g4 g5 D r w u v ya s hd yi yh yo ti th eE)(hb:aj w w'):cT c w0 gp g2 qc g4 g5 D r w' u v ya s hd yi yh yo ti th eE:=
 have p:=Dg.later (w0:=w0) (gp:=gp) (R:=PR u v r) hb
 ⟨h.f.step p,h.blk.later hb,h.o0.later hb,h.o1.later hb,h.o2.later hb,h.o3.later hb,h.o4.later hb,h.o5.later hb,h.aM,p.trees h.t3,p.trees h.t4,p.trees h.t5⟩
theorem cT.kp2 (h:cT c w0 gp g2 qc g4 g5 D r w u v ya s hd yi yh yo ti th eE) {b:Nat}(hb:tD w gp (PR u v r) b):Kp w gp [u,v] b:=
 ey.2 ⟨hb.1,hb.2.1,hb.2.2 0 WC,hb.2.2 1 WC⟩
theorem cT.stp (h:cT c w0 gp g2 qc g4 g5 D r w u v ya s hd yi yh yo ti th eE)(hs:gM gp w u v w' u' v')(hp:eJ c w0 gp r w' u' v' qE s'):Dg w0 gp (PR u v r) (PR u' v' r) (λ i=>i < 2) w w':=by
 have hblk:=hp.blk;have hn:∀q,u'.ownBlock=some q->v'.ownBlock≠some q:=λ q h1 h2=>by obtain⟨_,_,_,e1⟩:=hp.kP.lt h1;obtain⟨_,_,_,e2⟩:=hp.dK.lt h2;rw[e1] at e2;injection e2 with e2;injection e2 with _ e2 _;exact absurd e2 Taa
 refine⟨hs.os,hs.tape,hs.output,hs.size,λ b h1 h2 h3=>hs.block b (ey.2 ⟨h1,h2,h3 0 WC WC,h3 1 WC WC⟩),?_,?_,?_,?_⟩
 ·intro i hi hT
  match i with
  | 0=>omega
  | 1=>omega
  | 2 | 3 | 4=>rfl
  | n+5=>rfl
 ·intro i hi hT
  match i with
  | 0=>exact hs.mu
  | 1=>exact hs.mv
  | n+2=>omega
 ·intro i hi j hj hT hU kY q h1 h2
  match i,j with
  | 0,1=>exact hn q h1 h2
  | 1,0=>exact hn q h2 h1
  | 0,0=>exact kY rfl
  | 1,1=>exact kY rfl
  | n+2,_=>omega
  | 0,n+2=>omega
  | 1,n+2=>omega
 ·intro i hi hT q hq
  match i with
  | 0=>exact⟨(hp.kP.lt hq).2.1,(hp.kP.lt hq).1,λ e=>hp.kP.other hblk Taa (by rw[show u'.ownBlock=some q from hq,e])⟩
  | 1=>exact⟨(hp.dK.lt hq).2.1,(hp.dK.lt hq).1,λ e=>hp.dK.other hblk Taa (by rw[show v'.ownBlock=some q from hq,e])⟩
  | n+2=>omega
theorem cT.call (h:cT c w0 gp g2 qc g4 g5 D r w u v ya s hd yi yh yo ti th eE)(hs:gM gp w u v w' u' v')(hp:eJ c w0 gp r w' u' v' qE s'):cT c w0 gp g2 qc g4 g5 D r w' u' v' qE s' hd yi yh yo ti th eE:=by have p:=h.stp hs hp;exact⟨h.f.step p,hp.blk,hp.kP,hp.dK,p.own h.f (i:=2) WC WC h.o2,p.own h.f (i:=3) WC WC h.o3,p.own h.f (i:=4) WC WC h.o4,p.own h.f (i:=5) WC WC h.o5,hp.aM,p.trees h.t3,p.trees h.t4,p.trees h.t5⟩
theorem cT.tree (h:cT c w0 gp g2 qc g4 g5 D r w u v ya s hd yi yh yo ti th eE)(hs:gM gp w u v w' u' v')(hp:eJ c w0 gp r w' u' v' qE s') {t:Tr} {y:Ex}(ht:t.at_ w' (λ b=>(b < w0.heap.size\/w.heap.size<=b)/\Kp w' gp [u',v'] b) y):t.at_ w' (tD w' gp (PR u' v' r)) y:=by have p:=(h.call hs hp).f;refine Tr.at_.keep (λ b hb=>⟨λ _=>rfl,hb.2.1,hb.2.2.1,λ i hi e=>?_⟩) t y ht;exact Zcy
theorem cT.anc (h:cT c w0 gp g2 qc g4 g5 D r w u v ya s hd yi yh yo ti th eE) {t:Tr} {y:Ex} {a:Value}(hl:LaB gp 14 w0.heap.size w (c.cells r u v) r.j yh y a true true w')(ht:t.at_ w (tD w gp (PR u v r)) y):
  cT c w0 gp g2 qc g4 g5 D { r with j:=a } w' u v ya s hd yi (yh++ [y]) yo ti (th++ [t]) eE:=by
 have ho:aI bI 46 7 w' w0.heap.size a (yh++ [y]):=hl.own;obtain⟨q0,c0,e0,hq0⟩:=hl.row
 have p:Dg w0 gp (PR u v r) (PR u v { r with j:=a }) (λ i=>i=4) w w':=by
  refine⟨hl.os,hl.tape,hl.output,hl.size,λ b h1 h2 h3=>hl.far b h1 h2 (h3 4 WC rfl),?_,?_,Zgb,Zeq⟩
  ·intro i hi hT
   match i with
   | 0 | 1 | 2 | 3=>rfl
   | 4=>exact absurd rfl hT
   | 5=>rfl
   | n+6=>omega
  ·intro i hi hT;subst hT;exact hl.mv
 have hT:=p.trees (ts:=[t]) (ys:=[y]) (Tr.fP ht);refine⟨h.f.step p,?_,p.own h.f (i:=0) WC WC h.o0,p.own h.f (i:=1) WC WC h.o1,p.own h.f (i:=2) WC WC h.o2,p.own h.f (i:=3) WC WC h.o3,ho,p.own h.f (i:=5) WC WC h.o5,h.aM,p.trees h.t3,Tr.all_append (p.trees h.t4) hT,p.trees h.t5⟩;exact hl.blk
theorem cT.ane (h:cT c w0 gp g2 qc g4 g5 D r w u v ya s hd yi yh yo ti th eE) {t:Tr} {y:Ex} {a:Value}(hl:LaB gp 15 w0.heap.size w (c.cells r u v) r.o yo y a true true w')(ht:t.at_ w (tD w gp (PR u v r)) y):
  cT c w0 gp g2 qc g4 g5 D { r with o:=a } w' u v ya s hd yi yh (yo++ [y]) ti th (eE++ [t]):=by
 have ho:aI bI 46 7 w' w0.heap.size a (yo++ [y]):=hl.own;obtain⟨q0,c0,e0,hq0⟩:=hl.row
 have p:Dg w0 gp (PR u v r) (PR u v { r with o:=a }) (λ i=>i=5) w w':=by
  refine⟨hl.os,hl.tape,hl.output,hl.size,λ b h1 h2 h3=>hl.far b h1 h2 (h3 5 WC rfl),?_,?_,Zgb,Zeq⟩
  ·intro i hi hT
   match i with
   | 0 | 1 | 2 | 3=>rfl
   | 4=>rfl
   | 5=>exact absurd rfl hT
   | n+6=>omega
  ·intro i hi hT;subst hT;exact hl.mv
 have hT:=p.trees (ts:=[t]) (ys:=[y]) (Tr.fP ht);refine⟨h.f.step p,?_,p.own h.f (i:=0) WC WC h.o0,p.own h.f (i:=1) WC WC h.o1,p.own h.f (i:=2) WC WC h.o2,p.own h.f (i:=3) WC WC h.o3,p.own h.f (i:=4) WC WC h.o4,ho,h.aM,p.trees h.t3,p.trees h.t4,Tr.all_append (p.trees h.t5) hT⟩;exact hl.blk
end
def fA:Code->Nat->Code
 | .seq _ b,n+1=>fA b n
 | c,_=>c
noncomputable def bL:Code:=Tryz.f28.body.getD .skip
def bZ (f:Nat->Value):Array Value:= #[f 0,f 1,f 2,f 3,f 4,f 5,f 6,f 7,f 8,f 9,f 10,f 11,f 12,f 13,f 14,f 15,f 16,f 17,f 18,f 19,f 20,f 21,f 22,f 23,f 24,f 25,f 26,f 27,f 28,f 29,f 30,f 31,f 32,f 33,f 34,f 35,f 36,f 37,f 38,f 39,f 40,f 41,f 42,f 43,f 44,f 45,f 46,f 47,f 48,f 49,f 50,f 51,f 52,f 53,f 54,f 55,f 56,f 57,f 58,f 59,f 60,f 61,f 62,f 63,f 64,f 65,f 66,f 67,f 68,f 69,f 70,f 71,f 72,f 73,f 74,f 75,f 76,f 77,f 78,f 79,f 80,f 81,f 82,f 83,f 84,f 85,f 86,f 87,f 88,f 89,f 90,f 91,f 92,f 93,f 94,f 95,f 96,f 97,f 98,f 99,f 100,f 101,f 102,f 103,f 104,f 105,f 106,f 107,f 108,f 109,f 110,f 111,f 112,f 113,f 114,f 115,f 116,f 117,f 118,f 119,f 120,f 121,f 122,f 123,f 124,f 125,f 126,f 127,f 128,f 129,f 130,f 131,f 132,f 133,f 134,f 135,f 136,f 137,f 138,f 139,f 140,f 141,f 142,f 143,f 144,f 145,f 146,f 147,f 148,f 149,f 150,f 151,f 152,f 153,f 154,f 155,f 156,f 157,f 158,f 159,f 160,f 161,f 162,f 163,f 164,f 165,f 166,f 167,f 168,f 169,f 170,f 171,f 172,f 173,f 174,f 175,f 176,f 177,f 178,f 179,f 180,f 181,f 182,f 183,f 184,f 185,f 186,f 187,f 188,f 189,f 190,f 191,f 192,f 193,f 194,f 195,f 196,f 197,f 198,f 199,f 200,f 201,f 202,f 203,f 204,f 205,f 206,f 207,f 208,f 209,f 210,f 211,f 212,f 213,f 214,f 215,f 216,f 217,f 218,f 219,f 220,f 221,f 222,f 223,f 224,f 225,f 226,f 227,f 228,f 229,f 230,f 231,f 232,f 233,f 234,f 235,f 236,f 237,f 238,f 239,f 240,f 241,f 242,f 243,f 244,f 245,f 246,f 247,f 248,f 249,f 250,f 251]
theorem kS (T:Array Value)(h:T.size=252):∃f:Nat->Value,T=bZ f:=by
 refine⟨λ i=>T.getD i undef,?_⟩;apply Array.ext
 ·rw[h];rfl
 ·intro i h1 h2
  have e:∀(f:Nat->Value) (i:Nat) (hi:i <(bZ f).size),(bZ f)[i]=f i:=by
   intro f i hi;have h3:(bZ f).toList=(List.range 252).map f:=rfl;have h4:(bZ f)[i]=(bZ f).toList[i]' TaD:=by simp
   exact Zgz
  rw[e];simp[Array.getD,h1]
noncomputable def gU:Code:=Tryz.f33.body.getD .skip
def U4 (f:Nat->Value):Array Value:= #[f 0,f 1,f 2,f 3,f 4,f 5,f 6,f 7,f 8,f 9,f 10,f 11,f 12,f 13,f 14,f 15,f 16,f 17,f 18,f 19,f 20,f 21,f 22,f 23,f 24,f 25,f 26,f 27,f 28,f 29,f 30,f 31,f 32,f 33,f 34,f 35,f 36,f 37,f 38,f 39,f 40,f 41,f 42,f 43,f 44,f 45,f 46,f 47,f 48,f 49,f 50,f 51,f 52,f 53,f 54,f 55,f 56,f 57,f 58,f 59,f 60,f 61,f 62,f 63,f 64,f 65,f 66,f 67,f 68,f 69,f 70,f 71,f 72,f 73,f 74,f 75,f 76,f 77,f 78,f 79,f 80,f 81,f 82,f 83,f 84,f 85,f 86,f 87,f 88,f 89,f 90,f 91,f 92,f 93,f 94,f 95,f 96,f 97,f 98,f 99,f 100,f 101,f 102,f 103,f 104,f 105,f 106,f 107,f 108,f 109,f 110,f 111,f 112,f 113,f 114,f 115,f 116,f 117,f 118,f 119,f 120,f 121,f 122,f 123,f 124,f 125,f 126,f 127,f 128,f 129,f 130,f 131,f 132,f 133,f 134,f 135,f 136,f 137,f 138,f 139,f 140,f 141,f 142,f 143,f 144,f 145,f 146,f 147,f 148,f 149,f 150,f 151,f 152,f 153,f 154,f 155,f 156,f 157,f 158,f 159,f 160,f 161,f 162,f 163]
theorem Jr (T:Array Value)(h:T.size=164):∃f:Nat->Value,T=U4 f:=by
 refine⟨λ i=>T.getD i undef,?_⟩;apply Array.ext
 ·rw[h];rfl
 ·intro i h1 h2
  have e:∀(f:Nat->Value) (i:Nat) (hi:i <(U4 f).size),(U4 f)[i]=f i:=by
   intro f i hi;have h3:(U4 f).toList=(List.range 164).map f:=rfl;have h4:(U4 f)[i]=(U4 f).toList[i]' TaD:=by simp
   exact Zgz
  rw[e];simp[Array.getD,h1]
noncomputable def qF (xs:List gJ):Int:=dp (xs.map λ x=>cN (x.ss.map gH))
noncomputable def EG (xs:List gJ):List (List Val):=xs.map λ x=>x.key++(x.ss.map gH).map (·.1)
variable{w1 w2:World}{g:Nat}{o:Option Nat}
theorem pW(h:w.grownBy w1 (some g))(hg:w1.grownBy w2 o)(hB:w.heap.size<=B)(ho:∀q,o=some q->B<=q):w.grownBy w2 (some g):=
 ⟨hg.os.trans h.os,hg.tape.trans h.tape,hg.output.trans h.output,Nat.le_trans h.size hg.size,λ k hk hn=>(hg.block k (Nat.lt_of_lt_of_le hk h.size) λ e=>by have:=ho k e.symm;omega).trans (h.block k hk hn)⟩
variable{xs:List gJ}{k:Nat}
theorem Vr(h:k < xs.length):qF (xs.take (k+1))=rE (qF (xs.take k)) (cN (xs[k].ss.map gH)):=by unfold qF;rw[take_add_one,getElem?_eq_getElem h,map_append];exact rH _ _
variable{e:Int}
theorem SX{b:Int}(h:rE b e=0):b=0/\e=0:=by unfold rE at h;split at h <;> omega
theorem zhz.KbW(h:p:=by
 clear HV;go_upto_region 34 with fail;have Lw:=ah W4 (.cells (aH v) 44);have hb4:=aC.new W4 44 (aH v);have mP:=aa (HV6.ae.later Lw);have Ju:=aa (Jm.ae.later Lw);have Cz:=aa (show wo.grownBy _ (some gb)from ba xp.ae (aT Lw));have Gm:=aa hb4;have hbase:=Cz.ae.size;have Ou:(x.key++((x.ss.take m).map gH).map (·.1)).length<=200000:=by have:=HKK.ae;simp only[length_append,length_map,length_take];omega
 have qM:=aa (show x.key++((x.ss.take (m+1)).map gH).map (·.1)=x.key++((x.ss.take m).map gH).map (·.1)++ [v] by rw[pA.ae,map_append,map_append,HVE.ae,append_assoc];rfl);generalize x.key++((x.ss.take m).map gH).map (·.1)=L at*;clear Lw hb4;go_wp2_with (first
  |(at_builtin
    refine aV rfl (.tmp 151) (.tmp 153) 38 rfl _ 32 Tryz.underlying38 lT rfl WC v rfl Ta0 rfl mP.ae W4.heap.size rfl Gm.ae WC WC hbase ?_
    intro v4 w4 o4 g4
    have O4:=aa o4
    have B4:=aa (Ju.ae.kr mP.ae Taa g4)
    have WZ:=aa (pW Cz.ae g4 (Nat.le_refl _) (λ q hq=>(mP.ae.lt hq).2.1))
    clear o4 g4))
 go_roundw
 case rel=>
  refine⟨m+1,Ev,by go_num,?_,?_,B4.ae,WZ.ae⟩
  ·rw[qM.ae];exact O4.ae
  ·intro a ha;rw[pA.ae,map_append] at ha;rcases List.mem_append.1 ha with ha | ha
   ·exact Kf.ae a ha
   ·simp only[map_cons,map_nil,mem_singleton] at ha;rw[ha,<- Ol.ae]
 case measure=>exact Za6):p:=h
theorem zi2.Kcv(h:p:=by have HO5:=HP.ae.later hL;have HM5:=HM.ae.later hL;have Vd:w.grownBy W3 (some gb):=ba yq.ae (aT hL);go_wp2_with fail;exact HHA.ae _ _ u18 cl rfl rfl rfl HO5 HM5 Ee.ae Vd):p:=h
theorem abw (xs:List gJ)(B:Nat)(LA:Option Addr)(lc gb:Nat)(T:Array Value)(hT:T.size=164)(h9:T.getD 9 undef=aw gb)(h10:T.getD 10 undef=.slice LA xs.length lc)(d:List Deferred)(w:World)(Q:Exit->Act->World->Prop)
  (key:aC w gb 84 #[af 0]) (hL:Mr w w.heap.size LA (xs.map gJ.g)) (cL:∀a,LA=some a->a.block≠gb) (hb4:kt w B xs) (hn:xs.length<=1000000)
  (Iq:∀x∈xs,x.key.length<=1000/\x.ss.length<=100000) (bh:∀x∈xs,∀s∈x.ss,s.Ok/\∃v e,gK s v e)
  (h:∀a W ov cl,a.defers=d->a.tmps.getD 4 undef=ov->a.tmps.getD 5 undef=af (qF xs)->aI bX 38 1 W w.heap.size ov cl->Mine W w.heap.size cl->(qF xs=0->cl.map (·.l)=EG xs)->w.grownBy W (some gb)->Q .ret a W):
  (fA gU 8).wp Tryz.prog Q { tmps:=T,defers:=d } w:=by
 obtain⟨f,rfl⟩:=Jr T hT;have h9:f 9=_:=h9;have h10:f 10=_:=h10;simp only[U4,h9,h10];clear h9 h10;clear h9 h10 hT;have KK:=aa h;have HF:=aa key;have IH:=aa hL;have Q1:=aa cL;have HH:=aa hb4;have Q5:=aa Iq;have je:=aa bh;clear h key hL cL hb4 Iq bh;simp only[gU,fA,Tryz.f33,Option.getD_some];go_wp2_with fail;go_loopw [18,125] (λ ov i wr=>∃(k:Nat) (cl:List aN),k<=xs.length/\i=af k/\aI bX 38 1 wr w.heap.size ov cl/\Mine wr w.heap.size cl/\cl.length=k/\aC wr gb 84 #[af (qF (xs.take k))]/\(qF (xs.take k)=0->cl.map (·.l)=EG (xs.take k))/\w.grownBy wr (some gb)) (λ _ i _=>xs.length - (intOf i).toNat);case atStart=>exact⟨0,[],Nat.zero_le _,rfl,aI.nil,(λ r hr=>by cases hr),rfl,HF.ae,(λ _=>rfl),World.grownBy.refl w _⟩
 case round=>
  obtain⟨k,cl,hkx,rfl,DS,Zw,HQS,Kt,Zx,hgr⟩:=hrel;have HP:=aa DS;have HM:=aa Zw;have Vs:=aa HQS;have HK:=aa Kt;have Ee:=aa Zx;have yq:=aa hgr;clear DS Zw HQS Kt Zx hgr;by_cases hlt:k < xs.length
  ·obtain⟨lb,hA,Eb,hc0⟩:=IH.ae.at_ (k:=k) (by rw[length_map];exact hlt);have WQ:=Q1.ae _ hA;have hc1:=(bJ (yq.ae.block lb Eb (λ e=>by injection e with e;exact WQ e)) k).trans hc0;rw[getElem_map] at hc1;have hGw:=HH.ae.grown yq.ae HF.ae Taa Taa Taa Taa;have hx:=hGw.at_ xs[k] (getElem_mem hlt);have fL:=Q5.ae xs[k] (getElem_mem hlt);have HOX:=aa (je.ae xs[k] (getElem_mem hlt));have PE:=aa (Vr hlt);have Vt:=aa (show EG (xs.take (k+1))=EG (xs.take k)++ [xs[k].key++(xs[k].ss.map gH).map (·.1)] by unfold EG;rw[take_add_one,getElem?_eq_getElem hlt,map_append];rfl);generalize xs[k]=x at*;generalize qF (xs.take k)=FP at*;have HX:=aa hx;have HKK:=aa fL;have bM:=hx.blk;obtain⟨SA,sc,Dh,WY⟩:=ej (f:=df) (size:=1) (λ _=>rfl) hx.own;rw[Dh] at bM;have z0:=bM.cell 0;have z1:=bM.cell 1;simp only[Uaa] at z0 z1;have HSR:=aa WY;have HSV:=aa Dh;rw[hA];clear hc0 Eb WQ hA hGw hx fL Dh WY bM;go_wp2_with fail;refine(uO x.KA x.kc x.key wr HX.ae.key.rv HKK.ae.1).mono ?_;rintro e w1 ⟨rv,rfl,tO,b1⟩;have Bp:=aa tO;have Ly:=aa (show wr.grownBy w1 (some gb)from aT b1);have fH:=aa (HK.ae.later b1);have y1:=(b1.cell (p:=⟨x.g,1,none⟩) HX.ae.blk.lt).trans z1;clear tO b1 z0 z1 hc1;go_wp2_with fail;clear y1;generalize wr=wo at*;go_loopw [21,139] (λ rv j wq=>∃m:Nat,m<=x.ss.length/\j=af m/\aI aX 44 3 wq wo.heap.size rv (x.key++((x.ss.take m).map gH).map (·.1))/\(∀a∈(x.ss.take m).map gH,a.2=0)/\aC wq gb 84 #[af FP]/\wo.grownBy wq (some gb)) (λ _ j _=>x.ss.length - (intOf j).toNat)
   case atStart=>exact⟨0,Nat.zero_le _,rfl,by simpa using Bp.ae,(λ a ha=>by simp at ha),fH.ae,Ly.ae⟩
   case round=>
    clear Bp Ly fH;obtain⟨m,hm,rfl,kB,hg4,oP,HZ⟩:=hrel;have HI:=aa kB;have Kf:=aa hg4;have Gs:=aa oP;have tN:=aa HZ;clear kB hg4 oP HZ;have SG:=HX.ae.qK.len;have hm9:m<=100000:=by have:=HKK.ae.2;omega
    have hm8:x.ss.length<=100000:=HKK.ae.2;by_cases Ev:m < x.ss.length
    ·obtain⟨g2,xH,hg2,hc2⟩:∃g2,SA=some ⟨g2,0,none⟩/\g2 < wo.heap.size/\wo.cell? ⟨g2,m,none⟩=some (.pointer (some ⟨x.qs[m]' TaX,0,none⟩)):=by
      rcases HSR.ae with h0 |⟨g2,e1,e2,e3⟩
      ·have:x.qs.length=0:=by rw[h0];rfl
       omega
      ·refine⟨g2,e1,e2,?_⟩;have:=e3 m (x.qs[m]' TaX) 0 _ (getElem?_eq_getElem _) WC rfl;exact Zfa
     have hx2:=((kt.mk (λ y hy=>by rw[mem_singleton] at hy;rw[hy];exact HX.ae) (pairwise_singleton _ _):kt wo B [x]).grown tN.ae HK.ae Taa Taa Taa Taa).at_ x (mem_singleton_self x)
     have anf:g2≠gb:=by
      have qX:x.sv.ownBlock=some g2:=by rw[HSV.ae,fC,xH];rfl
      obtain⟨_,_,cur,yz⟩:=HX.ae.own.lt qX;exact kO (show aC wo g2 145 cur from yz) HK.ae Taa
     have hc3:=(bJ (tN.ae.block g2 hg2 (λ e=>by injection e with e;exact anf e)) m).trans hc2;have hst:=hx2.qK.at_ m (x.qs[m]' TaX) x.ss[m] (getElem?_eq_getElem _) (getElem?_eq_getElem _);obtain⟨Qw,hsa⟩:=HOX.ae x.ss[m] (getElem_mem Ev);have anh:=Ip hsa;have pA:=aa (show x.ss.take (m+1)=x.ss.take m++ [x.ss[m]] by rw[take_add_one,getElem?_eq_getElem Ev];rfl);have HFB:=aa (show(gH x.ss[m]).2≠0->cN (x.ss.map gH)=(gH x.ss[m]).2 from λ hne=>by
      have e1:x.ss.map gH=(x.ss.take m).map gH++gH x.ss[m]::(x.ss.drop (m+1)).map gH:=by
       rw[<- map_cons,<- map_append,<- drop_eq_getElem_cons Ev,take_append_drop]
      rw[e1]
      exact A5 Kf.ae hne)
     generalize x.ss[m]=st at*;generalize x.qs[m]' TaX=q at*;rw[xH] at*;have abx:=aa (OG q st (gH st).1 (gH st).2 wr hst Qw anh);clear hg2 hc2 hx2 anf hst Qw hsa anh xH;obtain⟨v,hv⟩:∃v,v=(gH st).1:=⟨_,rfl⟩;obtain⟨er,her⟩:∃er,er=(gH st).2:=⟨_,rfl⟩;rw[<- hv,<- her] at abx;rw[<- her] at HFB;have HVE:=aa hv;have Ol:=aa her;clear hv her;unfold bT at abx;rw[SG];go_wp2_with fail;clear hc3;refine abx.ae.mono ?_;rintro e w2 ⟨rfl,b2⟩;have E0:=aa (Gs.ae.later b2);have HV4:=aa (HI.ae.later b2);have Kx:=aa (show wo.grownBy w2 (some gb)from ba tN.ae (aT b2));clear b2 Gs HI tN abx;go_upto_region 33 with fail;have bN:=ah w2 (.cells (aH v) 44);have hG:=aC.new w2 44 (aH v);have vr:=aa (E0.ae.later bN);have HV5:=aa (HV4.ae.later bN);have Vd:=aa (show wo.grownBy _ (some gb)from ba Kx.ae (aT bN));generalize hW:w2.alloc (.cells (aH v) 44)=W at*;generalize w2.heap.size=gn at*;clear hW bN E0 HV4 Kx;go_wp2_with fail;refine(wj gb FP er _ vr.ae).mono ?_;rintro e W4 ⟨rfl,hb3,HZ⟩;have Jm:=aa hb3;have xp:=aa (show wo.grownBy W4 (some gb)from ba Vd.ae HZ);have HV6:=aa (HV5.ae.grown HZ (HV5.ae.other vr.ae Taa));have HV:=hG.grown HZ (λ e=>by injection e with e;exact kO hG vr.ae Taa e);clear hb3 HZ vr HV5 Vd hG;by_cases he:er=0
     ·subst he;have Jm:=aa (show aC W4 gb 84 #[af FP] by have h6:=Jm.ae;rwa [BU] at h6);open zhz in exact Ze2
     ·have t1:(er==0)=false:=by simp[he]
      have atz:=aa he;have mV:=aa (HFB.ae he);have HBc:=Jm;have HVc:=HV6;have HGc:=xp;generalize x.key++((x.ss.take m).map gH).map (·.1)=L at*;clear he HV;obtain⟨RA,rc,GD,_⟩:=HVc.ae.reads;subst GD;go_upto_region 36 with fail
      have Lw:=ah W4 (.cells #[.slice RA L.length rc] 38);have hb4:=aC.new W4 38 #[.slice RA L.length rc];have Ak:=aa ((HP.ae.grown HGc.ae (HP.ae.other HK.ae Taa)).later Lw);have HM7:=aa (show Mine _ w.heap.size cl from Mine.later (λ r hr=>(HM.ae r hr).grown HGc.ae ((HM.ae r hr).other HK.ae Taa)) Lw);have mP:=aa (HVc.ae.later Lw);have Ju:=aa (HBc.ae.later Lw);have Cz:=aa (show w.grownBy _ (some gb)from ba (ba yq.ae HGc.ae) (aT Lw));have Gm:=aa hb4;have hbase:=Cz.ae.size;have HWO:=aa yq.ae.size;have atD:=Vs.ae;clear Lw hb4;go_wp2_with (first
       |(at_builtin
         refine aV rfl (.tmp 156) (.tmp 158) 29 rfl _ 24 Tryz.underlying29 oB rfl WC (⟨RA,L,rc⟩:aN) rfl Taw rfl Ak.ae W4.heap.size rfl Gm.ae WC WC hbase ?_
         intro v4 w4 o4 g4
         have O4:=aa o4
         have B4:=aa (Ju.ae.kr Ak.ae Taa g4)
         have V4:=aa (mP.ae.past Ak.ae Taa g4)
         have M4:=aa (HM7.ae.grown Ak.ae g4)
         have WZ:=aa (pW Cz.ae g4 (Nat.le_refl _) (λ q hq=>(Ak.ae.lt hq).2.1))
         clear o4 g4))
      go_roundw
      case rel=>
       refine⟨k+1,cl++ [⟨RA,L,rc⟩],hlt,by go_num,O4.ae,ZfA,by simp[Vs.ae],?_,?_,WZ.ae⟩
       ·rw[PE.ae,mV.ae];exact B4.ae
       ·intro h0;rw[PE.ae,mV.ae] at h0;exact absurd (SX h0).2 atz.ae
      case measure=>exact Za6
    ·have xz:m=x.ss.length:=by omega
     subst xz;have HTT:=aa (show x.ss.take x.ss.length=x.ss from take_length);have mV:=aa (show cN (x.ss.map gH)=0 from Jf λ a ha=>Kf.ae a (by rw[HTT.ae];exact ha));have HVc:=aa (show aI aX 44 3 wr wo.heap.size u21 (x.key++(x.ss.map gH).map (·.1)) by have h3:=HI.ae;rwa [HTT.ae] at h3);have HBc:=Gs;have HGc:=tN;generalize x.key++(x.ss.map gH).map (·.1)=L at*;rw[<- SG];clear HI Gs tN Ev hm;obtain⟨RA,rc,GD,_⟩:=HVc.ae.reads;subst GD;go_upto_region 36 with fail
     have Lw:=ah wr (.cells #[.slice RA L.length rc] 38);have hb4:=aC.new wr 38 #[.slice RA L.length rc];have Ak:=aa ((HP.ae.grown HGc.ae (HP.ae.other HK.ae Taa)).later Lw);have HM7:=aa (show Mine _ w.heap.size cl from Mine.later (λ r hr=>(HM.ae r hr).grown HGc.ae ((HM.ae r hr).other HK.ae Taa)) Lw);have mP:=aa (HVc.ae.later Lw);have Ju:=aa (HBc.ae.later Lw);have Cz:=aa (show w.grownBy _ (some gb)from ba (ba yq.ae HGc.ae) (aT Lw));have Gm:=aa hb4;have hbase:=Cz.ae.size;have HWO:=aa yq.ae.size;have atD:=Vs.ae;clear Lw hb4;go_wp2_with (first
      |(at_builtin
        refine aV rfl (.tmp 156) (.tmp 158) 29 rfl _ 24 Tryz.underlying29 oB rfl WC (⟨RA,L,rc⟩:aN) rfl Taw rfl Ak.ae wr.heap.size rfl Gm.ae WC WC hbase ?_
        intro v4 w4 o4 g4
        have O4:=aa o4
        have B4:=aa (Ju.ae.kr Ak.ae Taa g4)
        have V4:=aa (mP.ae.past Ak.ae Taa g4)
        have M4:=aa (HM7.ae.grown Ak.ae g4)
        have WZ:=aa (pW Cz.ae g4 (Nat.le_refl _) (λ q hq=>(Ak.ae.lt hq).2.1))
        clear o4 g4))
     go_roundw
     case rel=>
      refine⟨k+1,cl++ [⟨RA,L,rc⟩],hlt,by go_num,O4.ae,ZfA,by simp[Vs.ae],?_,?_,WZ.ae⟩
      ·rw[PE.ae,mV.ae,BU];exact B4.ae
      ·intro h0;rw[PE.ae] at h0;rw[map_append,Ee.ae (SX h0).1,Vt.ae];rfl
     case measure=>exact Za6
  ·have fL:k=xs.length:=by omega
   subst fL;have HTT:=aa (show xs.take xs.length=xs from take_length);have HK:=aa (show aC wr gb 84 #[af (qF xs)] by have h1:=HK.ae;rwa [HTT.ae] at h1);have Ee:=aa (show qF xs=0->cl.map (·.l)=EG xs by have h1:=Ee.ae;rwa [HTT.ae] at h1);have HHA:=aa (show∀a W ov cl,a.defers=d->a.tmps.getD 4 undef=ov->a.tmps.getD 5 undef=af (qF xs)->aI bX 38 1 W w.heap.size ov cl->Mine W w.heap.size cl->(qF xs=0->cl.map (·.l)=EG xs)->w.grownBy W (some gb)->Q .ret a W from KK.ae);generalize qF xs=FP at*;go_upto_region 38 with fail;refine bC 5 (aaD u18 gb FP) (BV _ _ _) Vx Vx Vx ?_ ?_
   ·exact Zfj
   intro W3 hL;simp only[Uab];rintro a0 - a1 - a2 - a3 q3 FN Ul;replace q3:u18=a3:=Eq.symm q3;open zi2 in exact Zha
theorem GF (m:Nat):(Builtin.zeroCells (Value.pointer none).cells m)=(List.replicate m (Value.pointer none)).toArray:=by
 apply Array.ext
 ·simp[Builtin.zeroCells,Value.cells]
 ·intro i h1 h2;simp[Builtin.zeroCells,Value.cells,Nat.mod_one]
variable{ops:Array Oper}{rest:List Oper}{ac:Act}{Q:Exit->Act->World->Prop}
theorem wR{o:Oper}   (hgd:o.guard=none)(s x:Operand)
  (ho:o.op=.call { callee:=.builtin .append,args:= #[s,x],argTypes:= #[134,3] }) (g k cap m:Nat) (hs:ac.eval s=aF g k cap) (hx:ac.eval x=af m)
  (olds:List Value) (Vu:olds.length=k) (hc:∀(j:Nat) v,olds[j]?=some v->w.cell? ⟨g,j,none⟩=some v) (h0:0 < m) (hg:cap < k+m) (uH:k+m<=1000001)
  (h:∀w' C,aC w' w.heap.size 135 (olds++List.replicate (C - k) (Value.pointer none)).toArray->k+m<=C->C<=maxLen->aj w w'->wpList Tryz.prog ops Q rest (ac.put o.dst (aF w.heap.size (k+m) C)) w'):wpList Tryz.prog ops Q (o::rest) ac w:=by
 obtain⟨i0,kB,hz0,hz1,hz2⟩:=info_parts CE
 have hold:(Builtin.firstCells i0.size k (aF g k cap)).run Tryz.prog w.drew=.ok olds.toArray w.drew:=by
  refine run_firstCells_some w.drew i0.size k ⟨g,0,none⟩ k cap olds (by rw[hz1,Vu];omega) λ j v hj=>?_
  rw[PM,Nat.zero_add];exact hc j v hj
 have hrun:=Lib.run_append_grow_zeros w 134 3 o.type 135 i0 _ .i64 .i64 Tryz.underlying134 Tryz.underlying3 kB hz0 (some ⟨g,0,none⟩) k cap olds hold m h0 (by rw[hz1];omega) hg WC (by rw[hz2];omega) (growslice_fits hg (by rw[hz2];omega));have vC:=grownCap_ge w (k+m) cap 135;have hle:=grownCap_le_maxLen w (k+m) cap 135 Tam;generalize grownCap w (k+m) cap 135=C at*;have he:olds.toArray++Builtin.zeroCells (Value.pointer none).cells m++Builtin.zeroCells (Value.pointer none).cells (C - (k+m))=(olds++List.replicate (C - k) (Value.pointer none)).toArray:=by rw[GF,GF];apply Array.ext';simp only[Array.toList_append,toList_toArray,append_assoc,replicate_append_replicate];rw[show m+(C - (k+m))=C - k by omega]
 rw[he] at hrun;refine wpList_plain hgd λ K hK=>?_
 unfold Oper.wp;simp[execOp,ho,resolve,invoke,builtin,hs,hx,hrun,Result.andThen];have hb:aj w (w.drew.alloc (.cells (olds++List.replicate (C - k) (Value.pointer none)).toArray 135)):=(show aj w w.drew from⟨rfl,rfl,rfl,Nat.le_refl _,λ _ _=>rfl⟩).alloc (Nat.le_refl _) _;exact hK _ _ (h _ C (aC.new w.drew _ _) vC hle hb)
def agX (e g n C cap k:Nat):Nat->World->Value->Prop
 | 0,_,v=>v=aF e (n+1) C
 | 1,_,v=>v=af k
 | 2,_,v=>v=af 1
 | 3,_,v=>v=af (k+1)
 | 4,_,v=>v=.slice (some ⟨e,k+1,none⟩) (n+1 - (k+1)) (C - (k+1))
 | 5,_,v=>v=aF g n cap
 | 6,_,v=>v=af k
 | 7,_,v=>v=.slice (some ⟨g,k,none⟩) (n - k) (cap - k)
 | _,_,_=>False
theorem Qx (e g n C cap k:Nat):∀i w w' v,agX e g n C cap k i w v->ai w w'->agX e g n C cap k i w' v:=by exact Zg2
theorem zij.Kcc(h:p:=by
 have q3:g≠e:=by have h1:=NA.ae.lt;have h2:=HE.ae;omega
 have q1:c2.size=C:=by have h1:=anm.ae;have h2:=qM.ae;rw[h1];simp only[size_toArray,toList_toArray,length_append,length_take,length_drop,length_replicate,length_singleton];omega
 have ih:((gs.drop k).map eV).length=n - k:=by rw[length_map,length_drop,<- HN.ae]
 have vq:=aa (HG2.ae.later hL);have q2:w.grownBy W3 (some e):=ba (ba (aT uF.ae) atE.ae) (aT hL);have hF:∀(j:Nat) v,((gs.drop k).map eV)[j]?=some v->W3.cell? ((⟨g,k,none⟩:Addr).add j)=some v:=λ j v hj=>by rw[PM,bJ (q2.block g NA.ae.lt (λ e2=>by injection e2 with e2;exact q3 e2))];refine NL.ae (k+j) v ?_;rw[getElem?_map,getElem?_drop,<- getElem?_map] at hj;exact hj
 have HF:=aa hF;have IH:=aa ih;have Q1:=aa q1;have HH:=aa q2;have Q3:=aa q3;clear hL hF ih q1 q2 q3;refine iZ rfl (.tmp 50) (.tmp 53) rfl e (k+1) c2 ⟨g,k,none⟩ ((gs.drop k).map eV) _ _ _ _ rfl rfl vq.ae (by rw[IH.ae,Q1.ae];omega) (by rw[IH.ae];simp only[Nat.min_def];split <;> omega) HF.ae (AV _) ?_;intro Kx u4 hg4 Vf;have Kf:=aa hg4;have agC:=aa (ba HH.ae Vf);clear hg4 Vf;go_wp2_with fail;go_ret;have hen:=HE.ae;have uA:=HN.ae;have hcc:=Az.ae;have atF:=anm.ae;have SY:=qM.ae;have ih:=IH.ae;have hsz:=Q1.ae;have LF:w.grownBy Kx (Value.slice (some ⟨g,0,none⟩) n cap).ownBlock:=by have hg:=agC.ae;rw[fC];refine⟨hg.os,hg.tape,hg.output,hg.size,λ q hq _=>hg.block q hq λ e2=>?_⟩;injection e2 with e2;omega
 refine⟨_,rfl,⟨?_,.inr ⟨e,C,_,?_,by rw[hen];exact HBG.ae,Kf.ae,?_,hcc,?_,?_⟩⟩,LF⟩
 ·simp[rU,df]
 ·congr 1;simp;omega
 ·simp;omega
 ·simp only[size_toArray,length_append,length_take,length_drop,Array.length_toList,ih,hsz];omega
 ·obtain⟨R,hR⟩:∃R,R=c2.toList.drop (k+1+((gs.drop k).map eV).length):=⟨_,rfl⟩;rw[<- hR];have e0:c2.toList.take (k+1)=(gs.take k).map eV++ [eV x]:=by rw[atF];simp only[toList_toArray];rw[take_left' SY,<- append_assoc];exact take_left' (by rw[length_append,SY];rfl)
  rw[rU,toList_toArray,e0,Nat.mul_one];have e3:(gs.take k).map eV++ [eV x]++((gs.drop k).map eV++R)=(gs.take k++x::gs.drop k).map eV++R:=by simp
  exact Zhq):p:=h
theorem MN (gs:List Nat)(x k:Nat)(g cap base vb:Nat)(cur:Array Value)(w:World)(hl:gs.length<=1000000)(hk:k < gs.length)(hbg:base<=w.heap.size)(hg:aC w g 135 cur)(hle:gs.length<=cap)(hroom:cap < gs.length+1)(hsz:cur.size=cap)(lS:cur.toList.take gs.length=gs.map eV)(hv:aC w vb 135 #[aw x]):
  ar 66 #[aF g gs.length cap,af k,aF vb 1 1] w (AW (aF g gs.length cap) base (gs.take k++x::gs.drop k) w):=by
 obtain⟨n,uA⟩:∃n,n=gs.length:=⟨_,rfl⟩;have HN:=aa uA;rw[<- uA] at hl hk hroom lS hle ⊢;have Ve:=λ u=>iD (some ⟨g,0,none⟩) n cap k WC u
 have amm:=λ u=>CF (some ⟨g,0,none⟩) n cap k WC u
 have PZ:=Ve;rw[if_neg WC] at Ve PZ;simp only[Option.map_some,dR,Nat.mul_one,Nat.zero_add] at Ve PZ;have mixed:Tryz.prog.follows .mixedOrders=true:=by kernel_rfl
 have t1:((k:Int)==(n:Int))=false:=by simp;omega
 have t2:decide ((cap:Int)<(n:Int)+1)=true:=decide_eq_true WC;have zc:((n:Int)+1) - (k:Int)=((n+1 - k:Nat):Int):=by omega
 have hcell:∀(j:Nat) v,(gs.map eV)[j]?=some v->w.cell? ⟨g,j,none⟩=some v:=λ j v hj=>by
  rw[hg.cell,<- Array.getElem?_toList];have e:(cur.toList.take n)[j]?=some v:=by rw[lS];exact hj
  rw[getElem?_take] at e;split at e
  ·exact e
  ·cases e
 have NL:=aa hcell;have NA:=aa hg;have HV:=aa hv;have HBG:=aa hbg;have qM:=aa (show((gs.take k).map eV).length=k by rw[length_map,length_take];omega);have HTC:=aa (show∀(j:Nat) v,((gs.take k).map eV)[j]?=some v->w.cell? ⟨g,j,none⟩=some v from λ j v hj=>hcell j v (by
  rw[map_take,getElem?_take] at hj
  split at hj
  ·exact hj
  ·cases hj))
 clear hg hv lS hsz uA hcell hbg;go_enter Tryz.func66,Tryz.ntmps66;go_wp2_with (first
  |(simp only[zc])
  |(at_builtin
    refine wR rfl (.tmp 34) (.tmp 39) rfl g k cap (n+1 - k) rfl rfl ((gs.take k).map eV) qM.ae HTC.ae WC WC WC ?_
    intro w1 C hb1 hC1 hC2 LF
    have e1:k+(n+1 - k)=n+1:=by omega
    rw[e1] at*
    have eN:=aa hb1
    have Az:=aa hC2
    have uF:=aa LF
    have EC:=λ u=>iD (some ⟨w.heap.size,0,none⟩) (n+1) C (k+1) WC u
    have agY:=λ u=>iD (some ⟨w.heap.size,0,none⟩) (n+1) C k WC u
    rw[if_neg WC] at EC agY
    simp only[Option.map_some,dR,Nat.mul_one,Nat.zero_add] at EC agY
    push_cast at EC
    obtain⟨e,he⟩:∃e,e=w.heap.size:=⟨_,rfl⟩
    have HE:=aa he
    rw[<- he] at eN EC agY ⊢
    have HX:=aa (show∀(j:Nat) v,[eV x][j]?=some v->w1.cell? ((⟨vb,0,none⟩:Addr).add j)=some v from λ j v hj=>by
     rw[PM,Nat.zero_add,(HV.ae.later uF.ae).cell]
     simpa [eV] using hj)
    clear hb1 hC2 LF he e1)
  |(refine iZ rfl (.tmp 43) (.tmp 44) rfl e k _ ⟨vb,0,none⟩ [eV x] _ _ _ _ rfl rfl eN.ae (by have:=qM.ae;simp only[size_toArray,length_append,length_replicate,length_singleton];omega) TaQ HX.ae (AV [x]) ?_
    intro W2 u2 hg2 anl
    obtain⟨c2,hc2⟩:∃c2:Array Value,c2=((((gs.take k).map eV++List.replicate (C - k) (Value.pointer none)).toArray.toList.take k)++([eV x]++(((gs.take k).map eV++List.replicate (C - k) (Value.pointer none)).toArray.toList.drop (k+ [eV x].length)))).toArray:=⟨_,rfl⟩
    have HG2:=aa (show aC W2 e 135 c2 from hc2▸hg2)
    have anm:=aa hc2
    have atE:=aa anl
    clear hg2 anl hc2))
 refine bC 8 (agX e g n C cap k) (Qx _ _ _ _ _ _) Vx Vx Vx ?_ ?_
 ·exact Zbz
 open zij in exact Zfz
theorem Qz (gs:List Nat)(x k:Nat)(lv:Value)(base vb:Nat)(w:World)(hl:gs.length<=1000000)(hk:k<=gs.length)(hO:aI df 135 1 w base lv gs)(hv:aC w vb 135 #[aw x])(hbase:base<=w.heap.size)(hne:lv.ownBlock≠some vb):
  ar 66 #[lv,af k,aF vb 1 1] w (AW lv base (gs.take k++x::gs.drop k) w):=by
 rcases Nat.lt_or_ge k gs.length with hlt | vC
 ·obtain⟨h1,h2 |⟨g,cap,cur,rfl,hbg,hg,hlc,hm,hsz,lS⟩⟩:=hO
  ·obtain⟨_,h2⟩:=h2;omega
  ·rw[rU,Nat.mul_one] at lS;rw[Nat.mul_one] at hsz;rcases Nat.lt_or_ge cap (gs.length+1)with hc | hc
   ·exact MN gs x k g cap base vb cur w hl hlt hbase hg hlc hc hsz lS hv
   ·exact Mw gs x k g cap base vb cur w hl hlt hbg hg hc hm hsz lS hv (λ e=>hne (by rw[e];rfl))
 ·have fL:k=gs.length:=by omega
  subst fL;rw[take_length,drop_length];exact PX gs x lv base vb w hl hO hv hbase
variable{α:Type}
def exE:Except Int α->Int
 | .error e=>e
 | .ok _=>0
def uI:Except Int α->Option α
 | .ok x=>some x
 | .error _=>none
theorem MO(l:List (Except Int α)):BS l=if dp (l.map exE)≠0 then .error (dp (l.map exE))else .ok (l.filterMap uI):=rfl
variable{q:Qy}{cols:List aZ}
theorem Di{p:ji}(h:ew q cols=.ok p):p.aK=q.aK/\(q.items=[]->q.aK=false)/\∃gc hd s1 s2,pC cols q.cK=.ok ()/\kK cols q.aL 0=.ok gc/\dT q.aK q.aL cols q.items ⟨[],gc⟩=.ok (p.items,hd,s1)/\dB q.aK q.aL cols q.ft s1=.ok (p.having,s2)/\eu q.aK q.aL cols q.ord s2=.ok (p.order,p.st)/\p.head=if q.items=[] then cols else hd:=by
 unfold ew at h;split at h
 ·cases h
 split at h
 ·cases h
 split at h
 ·cases h
 rename_i hw;split at h
 ·cases h
 rename_i gc hgc;split at h
 ·cases h
 rename_i hni;split at h
 ·cases h
 rename_i is hd s1 hi;split at h
 ·cases h
 rename_i hs s2 hh;split at h
 ·cases h
 rename_i os s3 ho;injection h with h;subst h;refine⟨rfl,λ he=>?_,gc,hd,s1,s2,hw,hgc,hi,hh,ho,rfl⟩
 cases hg:q.aK with
 | false=>rfl
 | true=>exact absurd ⟨he,hg⟩ hni
variable{aL:List Tr}
theorem GG{g:Bool}  :∀ {l:List (Tr×ByteArray)} {s:dE} {ys:List Tr} {hd:List aZ} {s':dE},dT g aL cols l s=.ok (ys,hd,s')->ys.length=l.length
 | [],s,ys,hd,s',h=>by unfold dT at h;injection h with h;injection h with h1 _;rw[<- h1];rfl
 |(t,nm)::l,s,ys,hd,s',h=>by
  unfold dT at h;split at h
  ·cases h
  split at h
  ·cases h
  rename_i hi;injection h with h;injection h with h1 _;rw[<- h1,length_cons,GG hi,length_cons]
def MP (p:ji)(over:List aZ)(r:List Val):Except Int eI:=match bz over r (p.items++p.order)with
 | .error e=> .error e
 | .ok l=> .ok (RY p r l)
theorem Vv (p:ji)(cols:List aZ)(rows:List (List Val)):rG p cols rows=BS (rows.map (MP p (fZ p cols))):=rfl
def gu (ng:Nat)(aM:List Tr)(ls:List (List Val)):List (List Val×List (Val×Val)):=ls.map λ l=>(l.take ng,jE aM (l.drop ng))
structure oJ (ng:Nat) (aM:List Tr) (xs:List gJ) (ks ls:List (List Val)):Prop where
 keys:xs.map gJ.key=fo ng (ks.map λ l=>l.take ng)
 qK:∀x∈xs,x.ss=dV (aM.map Tr.op) (gu ng aM ls) x.key
variable{ng:Nat}{ks ls:List (List Val)}{i:Nat}{x:gJ}
theorem oJ.get{aM:List Tr}  (h:oJ ng aM xs ks ls)  (hx:xs[i]?=some x):(fo ng (ks.map λ l=>l.take ng))[i]?=some x.key:=by rw[<- h.keys,getElem?_map,hx];rfl
variable{j:Nat}{y:gJ}
theorem oJ.less{aM:List Tr}  (h:oJ ng aM xs ks ls)  (hx:xs[i]?=some x)(hy:xs[j]?=some y)(kY:i < j):bu x.key y.key < 0:=by have hp:=ZY ng (ks.map λ l=>l.take ng);have e1:=h.get hx;have e2:=h.get hy;rw[pairwise_iff_getElem] at hp;obtain⟨i1,i2⟩:=List.getElem?_eq_some_iff.1 e1;obtain⟨j1,j2⟩:=List.getElem?_eq_some_iff.1 e2;have:=hp i j i1 j1 kY;rwa [i2,j2] at this
variable{l:List Val}
theorem oJ.there{aM:List Tr}     (h:oJ ng aM xs ls ls)(hx:xs[j]?=some x)(hk:x.key=l.take ng):oJ ng aM xs (ls++ [l]) ls:=by
 refine⟨?_,h.qK⟩;rw[h.keys,map_append];unfold fo;by_cases h0:ng=0
 ·rw[if_pos h0,if_pos h0]
 ·rw[if_neg h0,if_neg h0];show _=jo ((ls.map λ l=>l.take ng)++ [l.take ng]);rw[CN];have Dj:=h.keys;unfold fo at Dj;rw[if_neg h0] at Dj;rw[<- Dj];refine(CM (j:=j) (x:=x.key) (λ i y hi hy=>?_) (by rw[getElem?_map,hx];rfl) (by rw[hk];exact om _)).symm;rw[getElem?_map] at hy
  cases hz:xs[i]? with
  | none=>rw[hz] at hy;cases hy
  | some z=>rw[hz] at hy;injection hy with hy;rw[<- hy,<- hk];exact h.less hz hx hi
theorem oJ.new{aM:List Tr}     (h:oJ ng aM xs ls ls)(hj:j<=xs.length)(fK:∀i y,i < j->xs[i]?=some y->bu y.key (l.take ng)< 0)(hhi:∀y,xs[j]?=some y->0 < bu y.key (l.take ng))(h0:ng≠0)(hk:x.key=l.take ng)(hs:x.ss=(aM.map Tr.op).map fh):oJ ng aM (xs.take j++x::xs.drop j) (ls++ [l]) ls:=by
 have hne:∀y∈xs,bu y.key (l.take ng)≠0:=by
  intro y hy;obtain⟨i,hi,rfl⟩:=getElem_of_mem hy;have fF:xs[i]?=some xs[i]:=getElem?_eq_getElem hi;rcases Nat.lt_trichotomy i j with h1 | h1 | h1
  ·have:=fK i _ h1 fF;omega
  ·subst h1;have:=hhi _ fF;omega
  ·have hj2:j < xs.length:=by omega
   have a1:=hhi _ (getElem?_eq_getElem hj2);have a2:=h.less (getElem?_eq_getElem hj2) fF h1;intro e;have e2:=fG _ _ e;rw[e2] at a2;omega
 refine⟨?_,λ y hy=>?_⟩
 ·unfold fo;rw[if_neg h0,map_append (l₁:=ls)];show _=jo ((ls.map λ l=>l.take ng)++ [l.take ng]);have Dj:=h.keys;unfold fo at Dj;rw[if_neg h0] at Dj;rw[CN,<- Dj,My (j:=j) (by rw[length_map];exact hj) ?_ ?_,map_append,map_cons,map_take,map_drop,hk]
  ·intro i y hi hy;rw[getElem?_map] at hy
   cases hz:xs[i]? with
   | none=>rw[hz] at hy;cases hy
   | some z=>rw[hz] at hy;injection hy with hy;rw[<- hy];exact fK i z hi hz
  ·intro y hy;rw[getElem?_map] at hy
   cases hz:xs[j]? with
   | none=>rw[hz] at hy;cases hy
   | some z=>rw[hz] at hy;injection hy with hy;rw[<- hy];exact hhi z hz
 ·rcases List.mem_append.1 hy with hy | hy
  ·exact h.qK y (mem_of_mem_take hy)
  rcases List.mem_cons.1 hy with rfl | hy
  ·rw[hs];refine(CO λ q hq=>?_).symm;unfold gu at hq;obtain⟨m,hm,rfl⟩:=List.mem_map.1 hq;have:m.take ng∈xs.map gJ.key:=by rw[h.keys];unfold fo;rw[if_neg h0];exact((vZ eD fG _).2 _).2 (mem_map_of_mem hm)
   obtain⟨y,hy,e⟩:=List.mem_map.1 this;rw[hk];show bu (m.take ng) (l.take ng)≠0;have e:y.key=m.take ng:=e;rw[<- e];exact hne y hy
  ·exact h.qK y (mem_of_mem_drop hy)
theorem oJ.feed{aM:List Tr}     (h:oJ ng aM xs (ls++ [l]) ls)(hx:xs[j]?=some x)(hk:x.key=l.take ng):oJ ng aM (xs.set j { x with ss:=eB x.ss (jE aM (l.drop ng))}) (ls++ [l]) (ls++ [l]):=by
 have hj:j < xs.length:=by
  rcases Nat.lt_or_ge j xs.length with h | h
  ·exact h
  ·rw[getElem?_eq_none h] at hx;cases hx
 have hf:gu ng aM (ls++ [l])=gu ng aM ls++ [(l.take ng,jE aM (l.drop ng))]:=by unfold gu;rw[map_append];rfl
 refine⟨?_,λ y hy=>?_⟩
 ·rw[<- h.keys,map_set];exact CP (by rw[getElem?_map,hx];rfl)
 ·obtain⟨i,hi,he⟩:=getElem_of_mem hy;have Kg:i < xs.length:=by simpa using hi
  rw[getElem_set] at he;by_cases kY:j=i
  ·rw[if_pos kY] at he;subst he;dsimp only;rw[hf,Mz (by rw[hk];exact om _) (by rw[CS,length_map]),<- h.qK x (mem_of_getElem? hx)];rfl
  ·rw[if_neg kY] at he;subst he;have hi3:xs[i]?=some xs[i]:=getElem?_eq_getElem Kg;rw[hf,Je ?_]
   ·exact h.qK _ (getElem_mem Kg)
   ·rw[<- hk];intro e;rcases Nat.lt_or_gt_of_ne kY with h1 | h1
    ·have:=h.less hx hi3 h1;omega
    ·have:=h.less hi3 hx h1;have:=eD.jh xs[i].key x.key;omega
theorem si{k:List Val}(h:k∈fo ng (ls.map λ l=>l.take ng)):k.length<=ng:=by
 unfold fo at h;split at h
 ·simp at h;rw[h];simp
 ·have:=((vZ eD fG _).2 _).1 h;obtain⟨l,_,rfl⟩:=List.mem_map.1 this;exact length_take_le _ _
theorem Js (op:Int):∀l:List (Val×Val),0<=cnt op l/\cnt op l<=l.length
 | []=>by simp[cnt]
 | x::l=>by
   have h:=Js op l;have h1:0<=one op x/\one op x<=1:=by unfold one;split <;>(try split)<;>(try split)<;> omega
   simp only[cnt,length_cons];omega
variable{op:Int}{s:St}
theorem E1(h0:21<=op)(h1:op<=28) {l:List (Val×Val)} (r:OH op s l)(hl:l.length<=1000000):s.Ok:=by
 have:=Js op l;have:=r.count;have:=r.all;have hs:=r.sum;refine⟨by rw[r.kind];exact h0,by rw[r.kind];exact h1,by omega,by omega,by omega,by omega,?_,?_⟩
 ·rw[hs];unfold M;omega
 ·rw[hs];unfold M;omega
theorem uW{ops:List Int}(kG:∀op∈ops,isAgg op=true) {ps:List (List Val×List (Val×Val))} {k:List Val}(hp:ps.length<=300):∀s∈dV ops ps k,(s.Ok/\s.all < 4611686018427387904)/\∃v e,gK s v e:=by intro s hs;obtain⟨op,l,ho,hl,rfl⟩:=Vk kG s hs;have oZ:=kG op ho;unfold isAgg at oZ;simp only[Bool.and_eq_true,decide_eq_true_eq] at oZ;have r:=AG oZ.1 oZ.2 l;have ok:=E1 oZ.1 oZ.2 r WC;have:=Js op l;have:=r.count;have ha:=r.all;exact⟨⟨ok,by omega⟩,afv _ ok WC⟩
def nG:Except Int (List Val)->Int
 | .error e=>e
 | .ok _=>0
variable{row:List Val}{ts:List Tr}
theorem GH(h:bz cols row ts=.error e):e≠0:=by
 unfold bz at h;split at h
 ·rename_i hne;injection h with h;rw[<- h];exact hne
 ·cases h
theorem Dk(h:bz cols row ts=.ok l):l.length=ts.length:=by
 unfold bz at h;split at h
 ·cases h
 ·injection h with h;rw[<- h,length_map,Tr.pg]
def fp (cols:List aZ)(ts:List Tr)(rs:List aN):List (List Val):=rs.filterMap λ r=>match bz cols r.l ts with | .ok l=>some l | .error _=>none
def ea (cols:List aZ)(ts:List Tr)(rs:List aN):Int:=dp (rs.map λ r=>nG (bz cols r.l ts))
variable{rs:List aN}
theorem Dl(h:k < rs.length):fp cols ts (rs.take (k+1))=fp cols ts (rs.take k)++(match bz cols rs[k].l ts with | .ok l=> [l] | .error _=> [])/\ea cols ts (rs.take (k+1))=rE (ea cols ts (rs.take k)) (nG (bz cols rs[k].l ts)):=by
 have e:rs.take (k+1)=rs.take k++ [rs[k]]:=by rw[take_add_one,getElem?_eq_getElem h];rfl
 unfold fp ea;rw[e,filterMap_append,map_append];refine⟨?_,rH _ _⟩;congr 1;rw[filterMap_cons,filterMap_nil];cases bz cols rs[k].l ts <;> rfl
theorem uX (cols:List aZ)(ts:List Tr)(rs:List aN):(fp cols ts rs).length<=rs.length:=length_filterMap_le _ _
theorem Vw(h:l∈fp cols ts rs):∃r∈rs,bz cols r.l ts=.ok l:=by
 unfold fp at h;obtain⟨r,hr,e⟩:=List.mem_filterMap.1 h;refine⟨r,hr,?_⟩
 cases hw:bz cols r.l ts with
 | error e2=>rw[hw] at e;cases e
 | ok m=>rw[hw] at e;injection e with e;rw[e]
theorem Dm(hr:∀v∈row,v.Ok)(ht:Tr.cP ts)(h:bz cols row ts=.ok l):∀v∈l,v.Ok:=by
 unfold bz at h;split at h
 ·cases h
 ·injection h with h;rw[<- h];intro v hv;obtain⟨z,hz,rfl⟩:=List.mem_map.1 hv;exact Tr.vL cols row hr ts ht z hz
variable{B':Nat}{qs:List Nat}{ss:List St}
theorem dG.down(h:dG w B qs ss)(hB:B'<=B):dG w B' qs ss:=⟨h.len,h.at_,λ q hq=>⟨Nat.le_trans hB (h.low q hq).1,(h.low q hq).2⟩,h.apart⟩
theorem bP.take(h:bP w A l)(n:Nat):bP w A (l.take n):=⟨h.rv.ZW n,h.ty⟩
theorem aI.turn{f:α->List Value} {e:TypeId} {size base:Nat}   {l:List α}  (h:aI f e size w base v l)(ht:pN w w' qs)(hs:dG w B qs ss)(he:e≠199):aI f e size w' base v l:=h.keep λ g hg=>by obtain⟨h1,_,cur,hc⟩:=h.lt hg;exact ht.block g h1 (hs.uf (show aC w g e cur from hc) he)
theorem aer(h:xs[j]?=some x):(xs.set j { x with ss:=ss }).map gJ.g=xs.map gJ.g:=by rw[map_set];exact CP (by rw[getElem?_map,h];rfl)
structure Dn (w:World) (gp:Nat) (aL aM:List Tr) (cols:List aZ) (yg ya:List Ex) (GA:Option Addr) (gc:Nat) (CA:Option Addr) (cc:Nat) (AA:Option Addr) (ac:Nat):Prop where
 lt:gp < w.heap.size
 c4:w.cell? ⟨gp,4,none⟩=some (.slice GA yg.length gc)
 c8:w.cell? ⟨gp,8,none⟩=some (.slice CA cols.length cc)
 c9:w.cell? ⟨gp,9,none⟩=some (.slice AA ya.length ac)
 rg:RE w w.heap.size GA yg
 tg:Tr.aQ w (Old w) aL yg
 ra:RE w w.heap.size AA ya
 ta:Tr.aQ w (Old w) aM ya
 rc:RC w w.heap.size CA cols
variable{gp:Nat}{yg ya:List Ex}{GA:Option Addr}{gc:Nat}{CA:Option Addr}{cc:Nat}{AA:Option Addr}
theorem Dn.later{aM:List Tr}        {ac:Nat}(h:Dn w gp aL aM cols yg ya GA gc CA cc AA ac)(hb:aj w w'):Dn w' gp aL aM cols yg ya GA gc CA cc AA ac:=
 ⟨Nat.lt_of_lt_of_le h.lt hb.size,(hb.cell (p:=⟨gp,4,none⟩) h.lt).trans h.c4,(hb.cell (p:=⟨gp,8,none⟩) h.lt).trans h.c8,(hb.cell (p:=⟨gp,9,none⟩) h.lt).trans h.c9,h.rg.later hb,Tr.aQ.later h.tg hb,h.ra.later hb,Tr.aQ.later h.ta hb,h.rc.later hb⟩
variable{n:Nat}{ys:List Ex}
theorem abz{base c:Nat}  (h:aI bI 46 7 w base (.slice A n c) ys):RE w w.heap.size A ys:=by obtain⟨A2,c2,e,_,h1⟩:=pT h (S:=Old w) (λ q hq=>(h.lt hq).1);injection e with e _ _;subst e;exact Zdn
theorem sj{base:Nat}  (h:aI bI 46 7 w base v ys):∃A c,v=.slice A ys.length c/\RE w w.heap.size A ys:=by obtain⟨A,c,e,_,h1⟩:=pT h (S:=Old w) (λ q hq=>(h.lt hq).1);refine⟨A,c,e,?_⟩;exact Zdn
def uY (w:World)(B0:Nat)(v:Value)(E:List Ex):Prop:=aI bI 46 7 w B0 v E
variable{B0:Nat}{E:List Ex}
theorem uY.later(h:uY w B0 v E)(hb:ai w w'):uY w' B0 v E:=aI.later h hb
def nP (res:Except Int (List Val))(w:World)(B0:Nat)(v0 v1:Value):Prop:=match res with
 | .error er=>v0=az/\v1=af er
 | .ok l=>v1=af 0/\aI aX 44 3 w B0 v0 l
variable{res:Except Int (List Val)}{v0 v1:Value}
theorem nP.later(h:nP res w B0 v0 v1)(hb:ai w w'):nP res w' B0 v0 v1:=by
 cases res with
 | error er=>exact h
 | ok l=>exact⟨h.1,aI.later h.2 hb⟩
theorem nP.err(h:nP res w B0 v0 v1):v1=af (nG res):=by
 cases res with
 | error er=>exact h.2
 | ok l=>exact h.1
def agZ (gp:Nat)(GA:Option Addr)(gn gc:Nat)(E3:Option Addr)(en E4:Nat)(CA:Option Addr)(cn cc:Nat)(RA:Option Addr)(rn rc:Nat)(E:List Ex)(B0:Nat)(res:Except Int (List Val)):Nat->World->Value->Prop
 | 0,_,v=>v=aw gp
 | 1,_,v=>v=aw gp
 | 2,_,v=>v=aw gp
 | 3,_,v=>v=bj gp 4
 | 4,_,v=>v=.slice GA gn gc
 | 5,_,v=>v=.slice E3 en E4
 | 6,w,v=>∃gB:Nat,v=aF gB 2 2/\aC w gB 23 #[.slice GA gn gc,.slice E3 en E4]
 | 7,w,v=>∃v7:Value,v=v7/\uY w B0 v7 E
 | 8,_,v=>v=aw gp
 | 9,_,v=>v=aw gp
 | 10,_,v=>v=bj gp 8
 | 11,_,v=>v=.slice CA cn cc
 | 12,_,v=>v=.slice RA rn rc
 | 13,w,v=>∃x0 x1:Value,v=.tuple #[x0,x1]/\nP res w B0 x0 x1
 | 14,w,v=>∃x0 x1:Value,v=.tuple #[x0,x1]/\nP res w B0 x0 x1
 | 15,w,v=>∃x0 x1:Value,v=x0/\nP res w B0 x0 x1
 | 16,_,v=>v=af (nG res)
 | 17,w,v=>∃x0 x1:Value,v=x0/\nP res w B0 x0 x1
 | _,_,_=>False
theorem QA (gp:Nat)(GA:Option Addr)(gn gc:Nat)(E3:Option Addr)(en E4:Nat)(CA:Option Addr)(cn cc:Nat)(RA:Option Addr)(rn rc:Nat)(E:List Ex)(B0:Nat)(res:Except Int (List Val)):∀i w w' v,agZ gp GA gn gc E3 en E4 CA cn cc RA rn rc E B0 res i w v->ai w w'->agZ gp GA gn gc E3 en E4 CA cn cc RA rn rc E B0 res i w' v:=by
 intro i w w' v h hl
 match i with
 | 0 | 1 | 2 | 3 | 4 | 5 | 8 | 9 | 10 | 11 | 12 | 16=>exact h
 | 6=>obtain⟨gB,h1,f0⟩:=h;exact⟨gB,h1,f0.later hl⟩
 | 7=>obtain⟨v7,h1,f0⟩:=h;exact⟨v7,h1,f0.later hl⟩
 | 13=>exact Zcr
 | 14=>exact Zcr
 | 15=>exact Zcr
 | 17=>exact Zcr
 | n+18=>exact h
def aha (gp:Nat)(GA:Option Addr)(gn gc:Nat)(XA:Option Addr)(xn xc:Nat):Nat->World->Value->Prop
 | 0,_,v=>v=.slice XA xn xc
 | 1,_,v=>v=aw gp
 | 2,_,v=>v=aw gp
 | 3,_,v=>v=aw gp
 | 4,_,v=>v=bj gp 4
 | 5,_,v=>v=.slice GA gn gc
 | 6,_,v=>v=af gn
 | 7,_,v=>v=aw gp
 | 8,_,v=>v=aw gp
 | 9,_,v=>v=aw gp
 | 10,_,v=>v=bj gp 4
 | 11,_,v=>v=.slice GA gn gc
 | 12,_,v=>v=af gn
 | 13,_,v=>v=.slice XA gn gn
 | _,_,_=>False
theorem QB (gp:Nat)(GA:Option Addr)(gn gc:Nat)(XA:Option Addr)(xn xc:Nat):∀i w w' v,aha gp GA gn gc XA xn xc i w v->ai w w'->aha gp GA gn gc XA xn xc i w' v:=by
 intro i w w' v h hl
 match i with
 | 0 | 1 | 2 | 3 | 4 | 5 | 6 | 7 | 8 | 9 | 10 | 11 | 12 | 13=>exact h
 | n+14=>exact h
def abA (gp lb ln lc j q:Nat)(XA:Option Addr)(xn xc gn:Nat):Nat->World->Value->Prop
 | 0,_,v=>v=aw gp
 | 1,_,v=>v=aF lb ln lc
 | 2,_,v=>v=af j
 | 3,_,v=>v=bj lb j
 | 4,_,v=>v=aw q
 | 5,_,v=>v=.slice XA xn xc
 | 6,_,v=>v=.slice XA gn gn
 | 7,_,v=>v=af gn
 | 8,_,v=>v=.slice (eT XA xc gn) (xn - gn) (xc - gn)
 | _,_,_=>False
theorem Dp (gp lb ln lc j q:Nat)(XA:Option Addr)(xn xc gn:Nat):∀i w w' v,abA gp lb ln lc j q XA xn xc gn i w v->ai w w'->abA gp lb ln lc j q XA xn xc gn i w' v:=by exact ZgU
theorem zju.KcH(h:p:=by
 refine bC 9 (abA gp lb xs.length lc j q XA xn xc gn) (Dp _ _ _ _ _ _ _ _ _ _) Vx Vx Vx ?_ ?_
 ·exact Zbf
 exact ZaB):p:=h
theorem zjv.KcH(h:p:=by
 refine bC 9 (abA gp lb xs1.length lc9 j q XA xn xc gn) (Dp _ _ _ _ _ _ _ _ _ _) Vx Vx Vx ?_ ?_
 ·exact Zbf
 exact ZaB):p:=h
theorem ziO.Kcp(h:p:=by
 have Cz:=aa (jg.ae.later hL);have HGW:=aa (Vd.ae.later hL);have HKW:=aa (uV.ae.keep hL.size λ b cur Kt=>hL.block b Kt.lt);clear hL vr MQ E9 jg Vd uV HEW;obtain⟨LA,lc,bh,hlc,SZ⟩:=wK Cz.ae;have anC:=aa bh;have hxl:xs.length<=301:=by have h1:=congrArg List.length wP.ae.keys;rw[length_map] at h1;have h2:=yy gn (ls.map λ l=>l.take gn);rw[length_map] at h2;have h3:=HLS.ae;have h4:=Ec.ae;omega
 have HXL:=aa hxl;have Ax:(l.take gn).length=gn:=by rw[length_take];have:=xY.ae;have:=oO.ae;omega
 have WM:=aa Ax;have hng:gn<=1000:=by have:=IH.ae;have:=ZV.ae;omega
 have Xc:=aa hng
 have WY:∀W,aj W6 W->ar 64 #[.slice LA (xs.map gJ.g).length lc,.slice XA gn gn,.func (.func 65) #[] #[]] W (CB (xs.map gJ.g).length (λ i=>bu ((xs.map gJ.key).getD i []) (l.take gn)) W):=λ W hW=>by
  refine PU (xs.map gJ.g) LA XA lc gn gn (λ i=>bu ((xs.map gJ.key).getD i []) (l.take gn)) W (by rw[length_map];omega) (SZ.later hW) (λ i hi W2 hW2=>?_) (λ i j kY hj hc=>?_)
  ·rw[length_map] at hi;have hx:=((HGW.ae.later hW).later hW2).at_ xs[i] (getElem_mem hi);have Kx:=hx.blk.cell 0;simp only[getElem?_toArray,getElem?_cons_zero] at Kx;have hk2:=(HKW.ae.keep hW.size λ b cur Kt=>hW.block b Kt.lt).keep hW2.size λ b cur Kt=>hW2.block b Kt.lt
   have qj:xs[i].key.length<=gn:=si (by rw[<- wP.ae.keys];exact mem_map_of_mem (getElem_mem hi));have ua:=PT xs[i].g xs[i].KA XA xs[i].key (l.take gn) xs[i].kc gn W2 hx.blk.lt Kx hx.key.rv (hk2.rv.ZW gn) WC WC;rw[Ax] at ua;simp only[getElem_map,getD_eq_getElem?_getD,getElem?_map,getElem?_eq_getElem hi,Option.map_some,Option.getD_some];exact ua
  ·rw[length_map] at hj;have hi:i < xs.length:=by omega
   simp only[getD_eq_getElem?_getD,getElem?_map,getElem?_eq_getElem hi,getElem?_eq_getElem hj,Option.map_some,Option.getD_some] at hc ⊢;rcases Nat.lt_or_ge i j with h1 | h1
   ·have:=wP.ae.less (getElem?_eq_getElem hi) (getElem?_eq_getElem hj) h1;exact eD.adz this WC
   ·have e:i=j:=by omega
    subst e;exact hc
 have HSR:=aa (WY _ (Below.refl _ _));have HLR:=aa SZ;rw[length_map] at HSR hlc anC bh;have U3:=aa hlc;subst bh;clear WY SZ Ax hng hlc anC;go_wp2_with fail;refine HSR.ae.mono ?_;rintro e w7 ⟨j,hj,rfl,fK,hhi,b7⟩;have HJ:=aa hj;have uF:=aa (show∀i y,i < j->xs[i]?=some y->bu y.key (l.take gn)< 0 from λ i y hi hy=>by
  have:=fK i hi
  simpa only[getD_eq_getElem?_getD,getElem?_map,hy,Option.map_some,Option.getD_some] using this)
 have ahl:=aa (show∀i y,j<=i->xs[i]?=some y->0<=bu y.key (l.take gn)from λ i y hi hy=>by
  have ui:i < xs.length:=(List.getElem?_eq_some_iff.1 hy).1
  have:=hhi i hi ui
  simpa only[getD_eq_getElem?_getD,getElem?_map,hy,Option.map_some,Option.getD_some] using this)
 have Lw:=aa (Below.trans Mq.ae (b7.mono Mq.ae.size));have pS:=aa (MA.ae.later b7);have Vm:=aa (MR.ae.later b7);have MS:=aa (Cz.ae.later b7);have LE:=aa (HGW.ae.later b7);have MM:=aa (HKW.ae.keep b7.size λ b cur Kt=>b7.block b Kt.lt);have ahm:=aa (HLR.ae.later b7);clear b7 fK hhi hj Mq MA MR Cz HGW HKW HLR HSR;by_cases hf:j < xs.length/\bu ((xs.map gJ.key).getD j []) (l.take gn)=0
 ·obtain⟨T8,hf2⟩:=hf;have tf:(decide (j < xs.length)&& decide (bu ((xs.map gJ.key).getD j []) (l.take gn)=0))=true:=by simp only[decide_eq_true T8,decide_eq_true hf2,Bool.and_self]
  have HF1:=aa T8;have HKEY:=aa (show xs[j].key=l.take gn from fG _ _ (by
   have h2:=hf2
   simp only[getD_eq_getElem?_getD,getElem?_map,getElem?_eq_getElem T8,Option.map_some,Option.getD_some] at h2
   exact h2))
  have NE:=aa (wP.ae.there (getElem?_eq_getElem T8) HKEY.ae);have hxj:xs[j]?=some xs[j]:=getElem?_eq_getElem T8;rw[tf];obtain⟨x,hx⟩:∃x,x=xs[j]:=⟨_,rfl⟩;rw[<- hx] at HKEY hxj;have QI:=aa hxj;have HB:=Lw;have F2:=pS;have Ju:=Vm;have mP:=MS;have Vo:=LE;have HK9:=MM;have F3:=ahm;clear T8 hf2 tf hxj hx Lw pS Vm MS LE MM ahm wP uF ahl;go_upto_region 20 with fail;have vw:j < xs.length:=(List.getElem?_eq_some_iff.1 QI.ae).1;have HJL:=aa vw;obtain⟨lb,hA,Eb,hcj⟩:=F3.ae.at_ (k:=j) (by rw[length_map];exact vw);obtain⟨ahn,hxe⟩:=List.getElem?_eq_some_iff.1 (show(xs.map gJ.g)[j]?=some x.g by rw[getElem?_map,QI.ae];rfl);open zju in exact Zie
 ·have tf:(decide (j < xs.length)&& decide (bu ((xs.map gJ.key).getD j []) (l.take gn)=0))=false:=by
   rw[Bool.and_eq_false_iff,decide_eq_false_iff_not,decide_eq_false_iff_not];by_cases h1:j < xs.length
   ·exact .inr λ h2=>hf ⟨h1,h2⟩
   ·exact .inl h1
  have HNF:=aa (show∀y,xs[j]?=some y->0 < bu y.key (l.take gn)from λ y hy=>by
   have h1:=ahl.ae j y (Nat.le_refl _) hy
   have vw:=(List.getElem?_eq_some_iff.1 hy).1
   rcases Int.lt_or_eq_of_le h1 with h2 | h2
   ·exact h2
   ·exact absurd ⟨vw,by simp only[getD_eq_getElem?_getD,getElem?_map,hy,Option.map_some,Option.getD_some];exact h2.symm⟩ hf)
  have Xf:=aa (show gn≠0 from λ h0=>by
   have hk:=wP.ae.keys
   unfold fo at hk
   rw[if_pos h0] at hk
   have MY:xs.length=1:=by have:=congrArg List.length hk;simpa using this
   obtain⟨x,hx⟩:∃x,xs=[x]:=List.length_eq_one_iff.1 MY
   have A6:x.key=[]:=by rw[hx] at hk;simpa using hk
   have ht:l.take gn=[]:=by rw[h0];rfl
   rcases Nat.eq_zero_or_pos j with h1 | h1
   ·have:=HNF.ae x (by rw[h1,hx];rfl)
    rw[A6,ht] at this
    simp[bu] at this
   ·have:=uF.ae 0 x h1 (by rw[hx];rfl)
    rw[A6,ht] at this
    simp[bu] at this)
  rw[tf];clear tf hf;have HE7:=aa (HF.ae.later Lw.ae);go_wp2_with fail;refine(Gl gp ya AA ac XA gn gn w7 (by have:=Ay.ae;omega) HE7.ae.lt HE7.ae.c9 HE7.ae.ra (λ y hy=>by
   have h1:y.op∈aM.map Tr.op:=by rw[<- Q3.ae];exact mem_map_of_mem hy
   obtain⟨t,ht,he⟩:=List.mem_map.1 h1
   rw[<- he]
   exact Q4.ae t ht)).mono ?_
  rintro e w2 ⟨gg,sv,qs,rfl,ee,NJ,hgk,Qw,Ta,b2⟩;have bN:=ah w2 (.cells #[aw gg] 135);have hNB:=aC.new w2 135 #[aw gg];have b9:=ai.then b2 bN
  have F8:w0.heap.size<=w7.heap.size:=Lw.ae.size;have Ly:=aa (show gJ.At w2 w0.heap.size ⟨gg,XA,gn,l.take gn,sv,qs,ya.map λ y=>fh y.op⟩from⟨by rw[WM.ae];exact hgk,Nat.le_trans F8 ee,Qw.down F8,Ta.down F8,(MM.ae.keep b2.size λ b cur Kt=>b2.block b Kt.lt).take gn⟩);have WZ:=aa ((LE.ae.later b2).insert (k:=j) Ly.ae (λ y hy q hq hm=>by
   have h1:=((LE.ae.at_ y hy).qK.low q hq).2
   have h2:=(Ta.low q hm).1
   omega))
  have abK:=aa (WZ.ae.later bN);have wS:=aa (MS.ae.later b9);have anJ:=aa (pS.ae.later b9);have EH:=aa (Vm.ae.later b9);have HK8:=aa (MM.ae.keep b9.size λ b cur Kt=>b9.block b Kt.lt);have Gv:=aa (Below.trans Lw.ae (b9.mono F8));have qp:=aa hNB;have hvb:(Value.slice LA xs.length lc).ownBlock≠some w2.heap.size:=λ e=>by have:=(MS.ae.lt e).1;have:=b2.size;omega
  have HVB:=aa hvb;have HMJ:=aa (show oJ gn aM (xs.take j++⟨gg,XA,gn,l.take gn,sv,qs,ya.map λ y=>fh y.op⟩::xs.drop j) (ls++ [l]) ls from wP.ae.new (by exact HJ.ae) uF.ae HNF.ae Xf.ae rfl (by
   show ya.map (λ y=>fh y.op)=_
   rw[<- Q3.ae,map_map]
   rfl))
  have qL:(xs.map gJ.g).take j++gg::(xs.map gJ.g).drop j=(xs.take j++(⟨gg,XA,gn,l.take gn,sv,qs,ya.map λ y=>fh y.op⟩:gJ)::xs.drop j).map gJ.g:=by simp
  have hjx:(xs.take j++(⟨gg,XA,gn,l.take gn,sv,qs,ya.map λ y=>fh y.op⟩:gJ)::xs.drop j)[j]?=some ⟨gg,XA,gn,l.take gn,sv,qs,ya.map λ y=>fh y.op⟩:=by
   have vw:j<=xs.length:=by exact HJ.ae
   rw[getElem?_append_right TaW,length_take,Nat.min_eq_left vw,Nat.sub_self];rfl
  have abL:(xs.take j++(⟨gg,XA,gn,l.take gn,sv,qs,ya.map λ y=>fh y.op⟩:gJ)::xs.drop j).length<=302:=by
   have vw:j<=xs.length:=by exact HJ.ae
   have:=HXL.ae;simp only[length_append,length_take,length_cons,length_drop];omega
  obtain⟨x,hx⟩:∃x:gJ,x=⟨gg,XA,gn,l.take gn,sv,qs,ya.map λ y=>fh y.op⟩:=⟨_,rfl⟩;have HKEY:=aa (show x.key=l.take gn by rw[hx]);rw[<- hx] at WZ abK HMJ qL hjx abL Ly;obtain⟨xs1,anL⟩:∃xs1:List gJ,xs1=xs.take j++x::xs.drop j:=⟨_,rfl⟩;rw[<- anL] at WZ abK HMJ qL hjx abL;have QI:=aa hjx;have NE:=HMJ;have HGS:=aa qL;have aAl:=aa abL;have anM:=Qz (xs.map gJ.g) gg j (.slice LA xs.length lc) w0.heap.size w2.heap.size _ (by rw[length_map];have:=HXL.ae;omega) (by rw[length_map];exact HJ.ae) wS.ae qp.ae Gv.ae.size HVB.ae;have cb:=aa anM;clear anM hx anL qL hjx abL hvb hNB bN b2 b9 F8 Qw Ta hgk NJ ee Ly LE MS pS Vm MM Lw WZ wP uF ahl HNF ahm HE7;go_wp2_with fail;refine cb.ae.mono ?_;rintro e w1 ⟨v1,rfl,hR,VQ⟩;rw[HGS.ae] at hR;have mP:=aa hR;have Vo:=aa (abK.ae.own wS.ae VQ Taa Taa Taa Taa);have F2:=aa (anJ.ae.past wS.ae Taa VQ);have Ju:=aa (EH.ae.kr wS.ae Taa VQ);have aew:=bw wS.ae VQ Gv.ae.size;have HB:=aa (Below.trans Gv.ae aew);have HK9:=aa (HK8.ae.keep VQ.size λ b cur Kt=>VQ.block b Kt.lt λ e=>wS.ae.other Kt Taa e.symm);obtain⟨LA9,lc9,hv9,_,anO⟩:=wK mP.ae;rw[length_map] at hv9;subst hv9;have F3:=aa anO;clear hR VQ aew anO wS abK anJ EH Gv HK8 cb qp HVB HGS;go_upto_region 20 with fail;have vw:j < xs1.length:=(List.getElem?_eq_some_iff.1 QI.ae).1;have HJL:=aa vw;obtain⟨lb,hA,Eb,hcj⟩:=F3.ae.at_ (k:=j) (by rw[length_map];exact vw);obtain⟨ahn,hxe⟩:=List.getElem?_eq_some_iff.1 (show(xs1.map gJ.g)[j]?=some x.g by rw[getElem?_map,QI.ae];rfl)
  open zjv in exact Zie):p:=h
theorem zja.Kcy(h:p:=by
 have hln:(aL++aM.flatMap Tr.args).length=gn+ye.length:=by have a1:=dY HF.ae.tg;have a2:=dY Q1.ae;rw[length_append,a1,a2,IH.ae]
 have hgx:gn<=l.length:=by rw[AY.ae,hln];omega
 have xY:=aa hgx;have HXC:=aa (show gn<=xc by omega);have QH:=aa hxl;have HEW:=aa (HF.ae.later vr.ae);have vo:=aa (show(l.drop gn).length=ye.length by rw[length_drop,AY.ae,hln];omega);obtain⟨xn,Ed⟩:∃xn,xn=l.length:=⟨_,rfl⟩;rw[<- Ed] at xY ⊢;have oO:=aa Ed;clear A6 hln hgx hxl Ed KK;go_upto_region 16 with fail;refine bC 14 (aha gp GA gn gc XA xn xc) (QB _ _ _ _ _ _ _) Vx Vx Vx ?_ ?_
 ·simp only[take_succ_cons,take_zero];refine⟨Zab,Zab,Zab,Zab,Zab,Zhs,Zab,Zab,Zab,Zab,Zab,Zhs,Zab,ZdM,trivial⟩
 intro W6 hL;simp only[Uab];rintro a0 - a1 - a2 - a3 - a4 - a5 - a6 - a7 - a8 - a9 - FN - C1 - a12 - _ rfl;open ziO in exact ZgD):p:=h
theorem zdJ.KaH(h:p:=by
 have HP:=aa DS;have HM:=aa Zw;have Vs:=aa HQS;have HK:=aa Kt;have Ee:=aa Zx;have J0:=aa hP;have E7:=aa ans;have Kh:=aa bh;have U2:=aa fF;have HI0:=aa hI0;have Ur:=aa (show yg.length+ye.length<=1000000 by omega);have Am:=aa (show(yg++ye).length<=1599289640356 by rw[length_append];omega);clear h hF ih q1 q2 q3 q4 q5 AP Aj fq hz Ny DS Zw HQS Kt Zx hP ans bh fF hI0;simp only[gU,fA,Tryz.f33,Option.getD_some];refine wp_seq_k λ K hK=>?_
 have DY:=aa hK;clear hK;go_wp2_with fail;go_loopw [10,54] (λ lv i wr=>∃(k:Nat) (xs:List gJ),k<=zs.length/\i=af k/\aj w0 wr/\aI bI 46 7 wr w0.heap.size (.slice E3 ye.length E4) ye/\aC wr gb 84 #[af (ea cols (aL++aM.flatMap Tr.args) (zs.take k))]/\aI df 135 1 wr w0.heap.size lv (xs.map gJ.g)/\kt wr w0.heap.size xs/\oJ gn aM xs (fp cols (aL++aM.flatMap Tr.args) (zs.take k)) (fp cols (aL++aM.flatMap Tr.args) (zs.take k))) (λ _ i _=>zs.length - (intOf i).toNat);case atStart=>exact⟨0,xs0,Nat.zero_le _,rfl,HK.ae,Ee.ae,J0.ae,Kh.ae,U2.ae,HI0.ae⟩
 case round=>
  clear HK Ee J0 Kh U2 HI0;obtain⟨k,xs,hkr,rfl,hB,hAV,hGB,Xe,hG,hI⟩:=hrel;have HK:=aa hB;have Ee:=aa hAV;have J0:=aa hGB;have Kh:=aa Xe;have HG:=aa hG;have wP:=aa hI;clear hB hAV hGB Xe hG hI;by_cases hlt:k < zs.length
  ·obtain⟨b,off,rfl,kE,hcell,tO⟩:=(HP.ae.below HK.ae).at_ hlt;have Bp:=aa (tO.more HK.ae.size);have Qr:=aa (Vs.ae zs[k] (getElem_mem hlt));have E8:=aa (Dl (cols:=cols) (ts:=aL++aM.flatMap Tr.args) hlt);have HLS:=aa (uX cols (aL++aM.flatMap Tr.args) (zs.take k));have Ec:=aa (show(zs.take k).length<=300 by rw[length_take];have:=HM.ae;omega);generalize zs[k]=r at*;generalize ea cols (aL++aM.flatMap Tr.args) (zs.take k)=FP at*;generalize fp cols (aL++aM.flatMap Tr.args) (zs.take k)=ls at*;obtain⟨res,hres⟩:∃res,res=bz cols r.l (aL++aM.flatMap Tr.args):=⟨_,rfl⟩;rw[<- hres] at E8;have jG:=aa hres.symm;have pd:=aa (HF.ae.later HK.ae);have HTE:=aa (Tr.aQ.later Q1.ae HK.ae);have oO:=aa (abz Ee.ae);obtain⟨E,hE⟩:∃E,E=yg++ye:=⟨_,rfl⟩;have qz:=aa hE;obtain⟨B0,hB0⟩:∃B0,B0=wr.heap.size:=⟨_,rfl⟩;have BN:=aa hB0;have hk9:k<=300:=by have:=HM.ae;omega
   clear kE tO hres hE hB0;go_upto_region 14 with fail;clear hcell;refine bC 18 (agZ gp GA gn gc E3 ye.length E4 CA cols.length cc r.A r.l.length r.c E B0 res) (QA _ _ _ _ _ _ _ _ _ _ _ _ _ _ _ _) Vx Vx Vx ?_ ?_
   ·simp only[take_succ_cons,take_zero];refine⟨Zab,Zab,Zab,Zab,?_,Zab,?_,?_,Zab,Zab,Zab,?_,Zab,?_,?_,?_,?_,?_,trivial⟩
    ·intro ρ W4 hc hL hr;have h0:_=_:=hr.1;have c0:=(pd.ae.later hL).c4;exact Zce
    ·intro ρ W4 hc hL hr;have h0:_=_:=hr.1;have h1:_=_:=hr.2.1;exact aq (v:=aF W4.heap.size 2 2) (w':=W4.alloc (.cells #[.slice GA gn gc,.slice E3 ye.length E4] 23)) Tav ⟨ah _ _,_,rfl,aC.new _ _ _⟩
    ·intro ρ W4 hc hL hr;obtain⟨gB0,h0,cL⟩:∃gB:Nat,ρ (.tmp 65)=aF gB 2 2/\aC W4 gB 23 #[.slice GA gn gc,.slice E3 ye.length E4]:=hr.1;have e1:=hc.func 35;refine bD (f:=35) (args:= #[aF gB0 2 2]) (w':=W4) TaA ?_;refine(uN (some ⟨gB0,0,none⟩) 2 [⟨GA,gc,yg⟩,⟨E3,E4,ye⟩] W4 Tac (by simpa [lC] using Ur.ae) ?_).mono ?_
     ·refine⟨gB0,0,rfl,cL.lt,λ i x hx=>?_⟩
      match i,hx with
      | 0,hx=>simp at hx;subst hx;refine⟨?_,(pd.ae.later hL).rg⟩;exact Zgn
      | 1,hx=>simp at hx;subst hx;refine⟨?_,oO.ae.later hL⟩;have cQ:=cL.cell 1;simp only[Uaa] at cQ;rw[Nat.zero_add,cQ]
      | n+2,hx=>simp at hx
     ·exact Zes
    ·intro ρ W4 hc hL hr;have h0:_=_:=hr.1;have c0:=(pd.ae.later hL).c8;exact Zeb
    ·intro ρ W4 hc hL hr;obtain⟨v70,h0,cL⟩:∃v7:Value,ρ (.tmp 66)=v7/\uY W4 B0 v7 E:=hr.1;have h1:_=_:=hr.2.1;have h2:_=_:=hr.2.2.1;obtain⟨EA,ec,he,GD⟩:=sj (show aI bI 46 7 W4 B0 v70 E from cL);rw[qz.ae] at he GD;subst he;have e1:=hc.func 34;refine bD (f:=34) (args:= #[.slice EA (yg++ye).length ec,.slice CA cols.length cc,.slice r.A r.l.length r.c]) (w':=W4) (by simp[go_sem,e1,h0,h1,h2];done) ?_;refine(Gq cols CA cc r.l r.A r.c (aL++aM.flatMap Tr.args) (yg++ye) EA ec W4 B9.ae Qr.ae.1 Qr.ae.2 oQ.ae (Tr.all_append (pd.ae.later hL).tg (Tr.aQ.later HTE.ae hL)) Am.ae GD (pd.ae.later hL).rc (Bp.ae.later hL)).mono ?_;exact Zdb
    ·intro ρ W4 hc hL hr;obtain⟨Vy,Vz,h0,cL⟩:∃x0 x1:Value,ρ (.tmp 72)=.tuple #[x0,x1]/\nP res W4 B0 x0 x1:=hr.1;exact ZgV
    ·intro ρ W4 hc hL hr;obtain⟨Vy,Vz,h0,cL⟩:∃x0 x1:Value,ρ (.tmp 58)=.tuple #[x0,x1]/\nP res W4 B0 x0 x1:=hr.1;exact Zdx
    ·intro ρ W4 hc hL hr;obtain⟨Vy,Vz,h0,cL⟩:∃x0 x1:Value,ρ (.tmp 58)=.tuple #[x0,x1]/\nP res W4 B0 x0 x1:=hr.1;exact Zg3
    ·intro ρ W4 hc hL hr;obtain⟨Vy,Vz,h0,cL⟩:∃x0 x1:Value,ρ (.tmp 73)=x0/\nP res W4 B0 x0 x1:=hr.1;exact Zdx
   intro W5 hL;simp only[Uab];rintro a0 - a1 - a2 - a3 - a4 - a5 - a6 - a7 - a8 - a9 - FN - C1 - a12 - a13 - a14 - a15 - _ rfl a16 ⟨axg,axh,rfl,aet⟩;simp only[bF,Act.put,Uac];have tP:=aa (Below.trans HK.ae (hL.mono HK.ae.size));have SP:=aa (Ee.ae.later hL);have Aq:=aa (J0.ae.later hL);have QF:=aa (Kh.ae.later hL);have vq:=aa (HG.ae.later hL);have HWB:=aa aet;have HWL:=aa hL.size;have HWS:=aa HK.ae.size;clear HK Ee J0 Kh HG hL aet Bp oO pd HTE;go_wp2_with fail;refine(wj gb FP (nG res) _ Aq.ae).mono ?_;rintro e w5 ⟨rfl,Iq,Jd⟩;have QG:=aa Iq;have vr:=aa (dy tP.ae Jd E7.ae);have MQ:=aa (SP.ae.grown Jd (SP.ae.other Aq.ae Taa));have jg:=aa (QF.ae.grown Jd (QF.ae.other Aq.ae Taa));have Vd:=aa (vq.ae.grown Jd Aq.ae Taa Taa Taa Taa);have AQ:=aa (show∀l,res=.ok l->aI aX 44 3 w5 B0 a16 l from λ l hl=>by
    have h1:=HWB.ae
    rw[hl] at h1
    exact h1.2.grown Jd (h1.2.other Aq.ae Taa))
   clear Iq Jd tP SP Aq QF vq HWB
   cases res with
   | error er=>
     have hne:=GH jG.ae;have t1:(nG (.error er)==0)=false:=by show(er==0)=false;simp[hne]
     have lg:=aa E8.ae.1;have No:=aa E8.ae.2;clear hne AQ;go_wp2_with fail;go_roundw
     case rel=>
      refine⟨k+1,xs,hlt,by go_num,vr.ae,MQ.ae,?_,jg.ae,Vd.ae,?_⟩
      ·rw[No.ae];exact QG.ae
      ·rw[lg.ae];simpa using wP.ae
     case measure=>exact Za6
   | ok l=>have lg:=aa (show fp cols (aL++aM.flatMap Tr.args) (zs.take (k+1))=ls++ [l] from E8.ae.1);have No:=aa (show ea cols (aL++aM.flatMap Tr.args) (zs.take (k+1))=rE FP 0 from E8.ae.2);have AY:=aa (Dk jG.ae);have LT:=aa (Dm Qr.ae.2 oQ.ae jG.ae);open zja in exact Zhe
  ·have fL:k=zs.length:=by omega
   subst fL;have HTT:=aa (show zs.take zs.length=zs from take_length);rw[HTT.ae] at J0 wP;go_wp2_with fail;exact DY.ae _ _ (HO.ae _ u10 xs _ rfl rfl rfl HK.ae J0.ae Kh.ae HG.ae wP.ae)):p:=h
theorem E5 (w0:World)(gp gb gn:Nat)(aL aM:List Tr)(cols:List aZ)(yg ya ye:List Ex)(GA:Option Addr)(gc:Nat)(CA:Option Addr)(cc:Nat)(AA:Option Addr)(ac:Nat)(zs:List aN)(RA:Option Addr)(rrc:Nat)(av lv:Value)(xs0:List gJ)(T:Array Value)(hT:T.size=164)
  (h0:T.getD 0 undef=aw gp) (h1:T.getD 1 undef=.slice RA zs.length rrc) (h6:T.getD 6 undef=av) (h9:T.getD 9 undef=aw gb) (h10:T.getD 10 undef=lv) (d:List Deferred) (w:World) (Q:Exit->Act->World->Prop)
  (hF:Dn w0 gp aL aM cols yg ya GA gc CA cc AA ac) (ih:yg.length=gn) (q1:Tr.aQ w0 (Old w0) (aM.flatMap Tr.args) ye) (q2:ya.map Ex.n=aM.map λ t=>t.args.length) (q3:ya.map Ex.op=aM.map Tr.op) (q4:∀t∈aM,isAgg t.op=true) (q5:∀t∈aM,t.args.length<=2) (AP:Tr.cP (aL++aM.flatMap Tr.args))
  (Aj:yg.length<=1000) (fq:ya.length<=100000) (hz:ye.length<=100000) (Ny:cols.length<=140737488355328)
  (DS:RR w0 w0.heap.size RA zs) (Zw:zs.length<=300) (HQS:∀r∈zs,r.l.length<=140737488355328/\∀v∈r.l,v.Ok)
  (Kt:aj w0 w) (Zx:aI bI 46 7 w w0.heap.size av ye) (hP:aC w gb 84 #[af 0]) (ans:w0.heap.size<=gb) (bh:aI df 135 1 w w0.heap.size lv (xs0.map gJ.g)) (fF:kt w w0.heap.size xs0) (hI0:oJ gn aM xs0 [] [])
  (h:∀(T':Array Value) lv' xs W,T'.size=164->T'.getD 9 undef=aw gb->T'.getD 10 undef=lv'->aj w0 W->aC W gb 84 #[af (ea cols (aL++aM.flatMap Tr.args) zs)]->aI df 135 1 W w0.heap.size lv' (xs.map gJ.g)->kt W w0.heap.size xs->oJ gn aM xs (fp cols (aL++aM.flatMap Tr.args) zs) (fp cols (aL++aM.flatMap Tr.args) zs)->(fA gU 7).wp Tryz.prog Q { tmps:=T',defers:=d } W):
  (fA gU 6).wp Tryz.prog Q { tmps:=T,defers:=d } w:=by
 obtain⟨E3,E4,atG,_⟩:=sj Zx;subst atG;obtain⟨f,rfl⟩:=Jr T hT;have h0:f 0=_:=h0;have h1:f 1=_:=h1;have h6:f 6=_:=h6;have h9:f 9=_:=h9;have h10:f 10=_:=h10;simp only[U4,h0,h1,h6,h9,h10];clear h0 h1 h6 h9 h10;clear h0 h1 h6 h9 h10 hT;have hh:=λ(T':Array Value) lv' xs W a0 a1 a2 a3 a4 a5 a6 a7=>h T' lv' xs W a0 a1 a2 a3 a4 a5 a6 a7
 simp only[gU,fA,Tryz.f33,Option.getD_some] at hh;have HO:=aa hh;clear hh;open zdJ in exact Zbm
def aex (v:Val):R.Val:=⟨v.k,v.n,v.s⟩
mutual
def F9:Tr->R.Tr
 | .mk op v name width args=> .mk op (aex v) name width (sk args)
def sk:List Tr->List R.Tr
 | []=> []
 | t::ts=>F9 t::sk ts
end
def MV (y:Ex):R.Ex:=⟨y.op,aex y.v,y.name,y.width,y.A,y.n,y.c⟩
theorem wT:∀ts:List Tr,(sk ts).length=ts.length
 | []=>by simp[sk]
 | t::ts=>by simp[sk,wT ts]
variable{S:Nat->Prop}
theorem anP(h:R8 w S A ys):R.RL R.bI 7 w S A (ys.map MV):=by
 rcases h with rfl |⟨b,off,Kx,h2,h3⟩
 ·exact .inl rfl
 ·refine .inr ⟨b,off,Kx,h2,λ i x j u h1 hu=>?_⟩;rw[getElem?_map] at h1
  cases hy:ys[i]? with
  | none=>rw[hy] at h1;cases h1
  | some y=>
    rw[hy] at h1;injection h1 with h1;subst h1;obtain⟨k0,k1,k2,k3,k4,k5,k6⟩:=h3 i y hy
    match j,hu with
    | 0,hu=>injection hu with hu;subst hu;exact k0
    | 1,hu=>injection hu with hu;subst hu;exact k1
    | 2,hu=>injection hu with hu;subst hu;exact k2
    | 3,hu=>injection hu with hu;subst hu;exact k3
    | 4,hu=>injection hu with hu;subst hu;exact k4
    | 5,hu=>injection hu with hu;subst hu;exact k5
    | 6,hu=>injection hu with hu;subst hu;exact k6
    | n+7,hu=>simp[R.bI] at hu
mutual
theorem Tb {w:World} {S:Nat->Prop}:∀(t:Tr) (y:Ex),t.at_ w S y->(F9 t).at_ w S (MV y)
 | .mk op v name width args,y,h=>by unfold Tr.at_ at h;obtain⟨h1,h2,h3,h4,h5,ys,h6,h7⟩:=h;unfold F9 R.Tr.at_;exact⟨h1,by rw[<- h2];rfl,h3,h4,by rw[wT];exact h5,ys.map MV,anP h6,GI args ys h7⟩
theorem GI {w:World} {S:Nat->Prop}:∀(ts:List Tr) (ys:List Ex),Tr.aQ w S ts ys->R.Tr.aQ w S (sk ts) (ys.map MV)
 | [],ys,h=>by unfold Tr.aQ at h;subst h;unfold sk R.Tr.aQ;rfl
 | t::ts,ys,h=>by unfold Tr.aQ at h;obtain⟨y,ys',rfl,h1,h2⟩:=h;unfold sk R.Tr.aQ;exact⟨MV y,ys'.map MV,rfl,Tb t y h1,GI ts ys' h2⟩
end
mutual
theorem Tc:∀t:R.Tr,F9 (qD t)=t
 | .mk op v name width args=>by unfold qD F9;rw[MW args];rfl
theorem MW:∀ts:List R.Tr,sk (gL ts)=ts
 | []=>by unfold gL sk;rfl
 | t::ts=>by unfold gL sk;rw[Tc t,MW ts]
end
theorem GJ:∀ts:List R.Tr,gL ts=ts.map qD
 | []=>by unfold gL;rfl
 | t::ts=>by unfold gL;rw[GJ ts];rfl
theorem VC (d:R.Qu):(fl d).all=({ kind:=8,query:=d }:R.St).exprs.map qD:=by unfold Qy.all fl R.St.exprs R.Qu.exprs;simp only[GJ,map_map,map_append,append_assoc,flatten_nil,map_nil,nil_append];rfl
end Go.Proofs.YtndgjggokjickaaGreatDoor
namespace Go.Proofs.YtndgjggokjickaaGreatDoor.R
set_option maxHeartbeats 90000000
set_option maxRecDepth 100000
open Go.ChangeShapes Go.WideShapes Go.ChangeAt Go.RowKit List
set_option linter.unusedVariables false
set_option linter.unusedSimpArgs false
def Xg:Obj:=.cells #[ag 0,au,az,au,af 0,au,af 0,az,au,.bool false,az,az,az,az,az,ag 0,au,af 0,af 0,az,az,az,ag 0,af 0,au,ag 0,af 0,au] 64
variable{P:Program}{ops:Array Oper}{rest:List Oper}{o:Oper}{a:Act}{w:World}{Q:Exit->Act->World->Prop}{cs:Array Value}
theorem Ar(hg:o.guard=none)(t:TypeId)(parts:Array (Nat×Operand))(ho:o.op=.build t parts) 
  (hv:P.built t (parts.map λ(i,x)=>(i,a.eval x)).toList=some cs) (h:wpList P ops Q rest (a.put o.dst (.agg cs)) w):wpList P ops Q (o::rest) a w:=
 wpList_build hg t parts ho (by rw[hv];rfl) (by rw[hv];exact h)
theorem G0 (qy:yl):Tryz.prog.built 64 [(0,ag 8),(7,quV qy)]=some (sZ { kind:=8,query:=qy }).toArray:=by exact ZhU
def uZ (l:dI)(d:Qu)(r:dI):Prop:=∀(ρ:dv) (w:World),ρ.at w (.good l) false->ar 134 #[ρ.ptr] w λ e w'=>∃y:yl,e=.returned (quV y)/\d.at_ w' (jf w.heap.size w') y/\eF ρ w w' (.good r) false
def tU (d:Qu):St:= { kind:=8,query:=d }
variable{t:Wd}{l r:dI}{d:Qu}
theorem G1(hse:iN fk t=true)(H:uZ (t::l) d r)(ρ:dv)(w:World)(h:ρ.at w (.good (t::l)) false):
  ar 86 #[ρ.ptr] w λ e w'=>∃y:yl,e=.returned (stV { kind:=8,query:=y })/\d.at_ w' (jf w.heap.size w') y/\eF ρ w w' (.good r) false:=by
 have ee:=h.FY;obtain⟨tk,pl,bd,hpl,hlt,hsm,uH,ck,hg,JZ,vn,hp⟩:=h.wG;obtain⟨r',ny⟩:=hg (t::l) rfl;injection ny with lS htr;have hb:=ai.then (ah w Xg) (ah _ Xg);have h0:=h.later hb;have WJ:=(aC.new w 64 U1).alloc Xg;have HQ:=aa WJ;have HH:=aa h;have HR:=aa H;have atM:=aa (show(cq.good (t::l)).head (⟨#[115,101,108,101,99,116]⟩:ByteArray).data.toList=true from hse);clear WJ h hg ck uH hse hpl H;rw[show Obj.cells U1 64=Xg from rfl] at HQ;unfold Xg at*;clear htr;go_enter Tryz.func86,Tryz.ntmps86;go_wp2_with fail;refine(lK ρ _ _ false h0 ⟨#[115,101,108,101,99,116]⟩).mono ?_;rintro e w1 ⟨rfl,b1⟩;rw[atM.ae];have hb1:=ai.then hb b1
 have Uz:=aa (HQ.ae.later b1);clear HQ h0 b1 hb lS hp;go_wp2_with fail;refine(HR.ae ρ _ (HH.ae.later hb1)).mono ?_;rintro e w3 ⟨qy,rfl,hqd,d3⟩;have HQ:=aa (d3.blk Uz.ae WC);have HD:=aa ((eF.cZ HH.ae hb1).trans d3);have HS:=aa hqd;have hs9:w.heap.size+1<=w1.heap.size:=Uz.ae.lt;clear d3 hqd Uz HH;go_wp2_with (first
  |(refine Ar rfl 64 _ rfl (cs:=(sZ { kind:=8,query:=qy }).toArray) ?hv ?_;rotate_left)
  |(refine wpList_store_row rfl 64 (.tmp 2) (.tmp 8) rfl w.heap.size (sZ { kind:=8,query:=qy }).toArray rfl rfl 64 U1 HQ.ae TaH rfl (PO _) ?_
    have HR:=aa (HQ.ae.row (sZ { kind:=8,query:=qy }).toArray)
    have HF:=aa (HD.ae.row ee (Nat.le_refl _) (sZ { kind:=8,query:=qy }).toArray)
    have jg:=aa (Qu.at_.keep (iX (show w.heap.size<=w.heap.size+1 by omega)) (Qu.at_.keep (SH w3 (show w.heap.size < w.heap.size+1 by omega) (sZ { kind:=8,query:=qy }).toArray) (Qu.at_.keep (iX hs9) HS.ae)))))
 case hv=>exact G0 qy
 exact bodyPost_ret (v:=stV { kind:=8,query:=qy }) (results_cell_row Tryz.results86 _ _ w.heap.size 64 (sZ { kind:=8,query:=qy }).toArray (0,0) _ rfl HR.ae Tryz.underlying64 rfl TaH) rfl ⟨qy,rfl,jg.ae,HF.ae⟩
def MX (d:Qu)(w:World)(e:Ending)(w':World):Prop:=∃y:yl,e=.returned (.tuple #[stV { kind:=8,query:=y },af 0,af 0])/\d.at_ w' (jf w.heap.size w') y/\aj w w'
variable{t0:Wd}{r0:dI}
theorem abM(s:ByteArray)(w:World)(hs:s.size<=4294967280) {l:List rJ}(hl:zZ s.data.toList=.ok l)   (ih:l.map (·.w)=t0::r0)(hse:iN fk t0=true)(H:uZ (t0::r0) d (t::r))(q3:t.k=0)(q2:(tU d).exprs.length<=1000)(q1:∀x∈(tU d).exprs,x.thin/\x.depth<=32):ar 52 #[.string s] w (MX d w):=by
 obtain⟨_,hlen,hF⟩:=SE hl;have hne:l≠ []:=by intro h;rw[h] at ih;cases ih
 have HSE:=aa (λ ρ w h=>G1 hse H ρ w h);have HEN:=aa (UT hl);have HF:=aa hF;have IH:=aa ih;have Q1:=aa q1;have HH:=aa q2;have Q3:=aa q3;clear hF ih q1 q2 hse H q3;have WJ:=aC.new w 64 U1;rw[show Obj.cells U1 64=Xg from rfl] at WJ;have HQ:=aa WJ;clear WJ;unfold Xg at*;go_enter Tryz.func52,Tryz.ntmps52;go_wp2_with fail;refine(aaX hl hs).mono ?_;rintro e w1 ⟨A,c,rfl,ht,b1⟩;obtain⟨gl,rfl,hgb,Aj,hc⟩:=ht.cells hne;have Uz:=aa (HQ.ae.later b1);have HB:=aa (ai.then (ah w _) b1);have hR:=dv.start (c:=c) Aj hc HEN.ae hlen HF.ae;rw[IH.ae] at hR;have HR:=aa hR;have JY:w.heap.size < w1.heap.size:=Uz.ae.lt;clear ht hc b1 HQ hR hgb hne;go_wp2_with fail;refine(HSE.ae ⟨w1.heap.size,gl,c,l⟩ _ HR.ae).mono ?_;rintro e w2 ⟨qy,rfl,hat,dd⟩;obtain⟨y,hy⟩:∃y:ZB,y= { kind:=8,query:=qy }:=⟨_,rfl⟩;rw[<- hy];have HY:=aa hy;clear hy;rw[show(w1.alloc _).heap.size=w1.heap.size+1 by simp] at hat;have bK:w1.heap.size <(w1.alloc (.cells #[aF gl l.length c,af 0,af (-1),.bool false] 169)).heap.size:=by simp
 have lr:=dd.blk (Uz.ae.alloc _) Tbg;have hs2:w1.heap.size+1<=w2.heap.size:=by have:=dd.size;simpa using this
 have HD3:=aa ((dd.later (ah w2 Xg)).row bK (by rw[show(w1.alloc _).heap.size=w1.heap.size+1 by simp];exact hs2) (sZ y).toArray);have HY3:=aa ((aC.new w2 64 U1).row (sZ y).toArray);have nx:=aa ((lr.alloc Xg).abf (q:=w2.heap.size) WC (sZ y).toArray);have anQ:=aa (Qu.at_.keep (Mo w2 Xg (sZ y).toArray) hat);have fH:=aa (show aj w (w1.alloc (.cells #[aF gl l.length c,af 0,af (-1),.bool false] 169))from ai.then HB.ae (ah w1 _));clear dd hat lr Uz HR HB;rw[show(Obj.cells U1 64)=Xg from rfl] at HY3;unfold Xg at*;go_wp2_with (first
  |(refine wpList_store_row rfl 64 (.tmp 9) (.tmp 27) rfl w2.heap.size (sZ y).toArray rfl rfl 64 U1 (aC.new w2 64 U1) TaH rfl (PO _) ?_))
 generalize ((w2.alloc _).setRow _ _)=W3 at*;refine(cw ⟨w1.heap.size,gl,c,l⟩ _ _ _ HD3.ae.at_ ⟨#[59]⟩ (by show((t.k==1 || t.k==4)&& t.s==afM)=false;rw[Q3.ae];rfl)).mono ?_;rintro e w4 ⟨rfl,d4⟩;have HD:=aa (HD3.ae.trans d4);have ZI:=aa (d4.blk nx.ae Tbg);have HY4:=aa (d4.blk HY3.ae (by show w2.heap.size≠w1.heap.size;omega));have ahr:=aa (Qu.at_.keep (lJ d4.grown (show w1.heap.size < w1.heap.size+1 by omega)) anQ.ae);clear d4 HD3 nx HY3 anQ;have E0:=aa (fH.ae.trans (dy HD.ae.grown fH.ae.size (by show w.heap.size<=w1.heap.size;omega)));obtain⟨tk,pl,bd,hpl,anR,ald,uH,ck,hg,JZ,vn,hp⟩:=HD.ae.at_.wG;obtain⟨r',ny⟩:=hg _ rfl;injection ny with lS _;have q3:=Q3.ae;rw[lS] at q3;obtain rfl:bd= -1:=uH;obtain⟨c0,c1,c2,k0,k1,k2,k3⟩:=hp;simp only at c0 c1 c2 k0 k1 k2 k3;have anR:pl < l.length:=anR;have aAp:(pl:Int)< l.length:=by omega
 clear hg ck hpl lS;rw[q3] at k0;have c3:=HD.ae.at_.facts.2.2.2.1;simp only at c3;clear HD hl q3;go_wp2_with (first
  |(refine wpList_load_row rfl 64 (.tmp 9) rfl w2.heap.size rfl 64 (sZ y).toArray (0,0) _ HY4.ae Tryz.underlying64 rfl TaH ?_))
 clear c0 c1 c2 c3 k0 k1 k2 k3;have hq9:d.at_ w4 (Old w4) qy:=Qu.at_.keep (λ b hb=>⟨λ _=>rfl,hb.2⟩) ahr.ae;have hqa:=SM hq9;have hst:(sZ y).toArray=abj 8 (fl d) (PQ qy):=by rw[HY.ae];unfold abj fl PQ;rw[<- hq9.bZ,<- hq9.only];rfl
 have key:=uP (k:=8) (fl d) (PQ qy) w4 hqa.1 (by
  have h:=HH.ae
  simp only[tU,St.exprs,Qu.exprs,length_append,length_map,flatten_nil,length_nil,map_nil] at h
  simp only[fl,lD,length_map]
  omega)
 rw[<- hst] at key;have HE:=aa (show(fl d).all=(tU d).exprs.map qD from VC d);clear hqa hst hq9;refine key.mono ?_;rintro e w5 ⟨v,ys,rfl,hown,hall,b5⟩;obtain⟨sA,sc,rfl,GD⟩:=sj hown;have HQ5:=aa (ZI.ae.later b5);have HY5:=aa (HY4.ae.later b5);have atN:=aa (Qu.at_.keep (iL b5) ahr.ae);have vr:=aa (ai.then E0.ae b5);have Qr:=aa GD;have Cg:=aa (hall.later b5);obtain⟨sn,PL⟩:∃sn,sn=ys.length:=⟨_,rfl⟩;have HNL:=aa (show sn=(tU d).exprs.length by rw[PL,Go.Proofs.YtndgjggokjickaaGreatDoor.Tr.aQ.length hall,HE.ae,length_map]);have Ev:sn<=1000:=by rw[HNL.ae];exact HH.ae
 rw[<- PL];clear b5 GD hall hown PL key ZI HY4 ahr E0;go_wp2_with fail;go_loopw [11] (λ u wr=>∃i:Nat,i<=sn/\u=af i/\aj w5 wr) (λ u _=>sn - (intOf u).toNat);case atStart=>exact Zf0
 case round=>
  obtain⟨i,hk,rfl,hB⟩:=hrel;have jH:=aa hB;have HQr:=aa (HQ5.ae.later hB);have HYr:=aa (HY5.ae.later hB);by_cases hlt:i < sn
  ·obtain⟨x,hx⟩:∃x,(tU d).exprs[i]?=some x:=⟨_,getElem?_eq_getElem (by have:=HNL.ae;omega)⟩;obtain⟨yx,hyx,anS⟩:=Cg.ae.get (t:=qD x) (i:=i) (by rw[HE.ae,getElem?_map,hx];rfl);have anT:x.at_ w5 (Old w5) (MV yx):=by have h:=Tb _ _ anS;rwa [Tc] at h
   have abN:=Q1.ae x (mem_of_getElem? hx);have Q1:=aa (Tr.alA (w:=w5) (S:=Old w5) (λ b hb=>hb) x (MV yx) anT abN.1 (by have:=abN.2;omega) wr hB);rcases Qr.ae with h0 |⟨b,off,hAe,hSb,hcell⟩
   ·subst h0;simp at hyx
   obtain⟨q0,Kx,KK,Lw,q4,q5,q6⟩:=(hcell i yx hyx).keep (λ o=>hB.cell (p:=⟨b,o,none⟩) hSb);have hdi:¬((x.depth:Int)> 32):=by have:=abN.2;omega
   clear hcell hx hyx anS anT abN;subst hAe;go_wp2_with fail;clear q0 Kx KK Lw q4 q5 q6;refine Q1.ae.mono ?_;rintro e w6 ⟨rfl,b6⟩;go_wp2_with fail;go_roundw;case rel=>exact⟨i+1,by omega,by go_num,jH.ae.trans (b6.mono jH.ae.size)⟩
   case measure=>exact Za6
  ·obtain rfl:i=sn:=by omega
   have atP:=aa (Qu.at_.keep (iL hB) atN.ae);have HBr:=aa (ai.then vr.ae hB);clear hB;go_wp2_with (first
    |(refine wpList_load_row rfl 64 (.tmp 9) rfl w2.heap.size rfl 64 (sZ y).toArray (0,0) _ HYr.ae Tryz.underlying64 rfl TaH ?_)
    |(refine wpList_store_row rfl 64 (.tmp 2) (.tmp 82) rfl w.heap.size (sZ y).toArray rfl rfl 64 U1 HQr.ae TaH rfl (PO _) ?_
      have HR9:=aa (HQr.ae.row (sZ y).toArray)
      have HS9:=aa (show Qu.at_ (wr.setRow w.heap.size (sZ y).toArray) (jf w.heap.size (wr.setRow w.heap.size (sZ y).toArray)) d qy from Qu.at_.keep (iX (show w.heap.size<=w1.heap.size+1 by omega)) (Qu.at_.keep (SH wr (show w.heap.size < w1.heap.size+1 by omega) (sZ y).toArray) atP.ae))
      have QJ:=aa (HBr.ae.trans (dy (Gj wr w.heap.size (sZ y).toArray) HBr.ae.size (Nat.le_refl _)))))
   exact bodyPost_ret (v:=.tuple #[stV y,af 0,af 0]) (IX Tryz.results52 _ _ w.heap.size 64 (sZ y).toArray (0,0) _ (af 0) (af 0) rfl HR9.ae Tryz.underlying64 rfl (by rw[show Array.size (sZ y).toArray=28 from rfl];exact pL) rfl rfl) rfl ⟨qy,by rw[HY.ae],HS9.ae,QJ.ae⟩
def nB (t:Wd):Bool:=t.k==1 && !tK t.s && !iN OY t && !iN AK t && !iN YJ t && !iN eC t && !iN YI t && !iN sR t
def uB (u:Wd):Bool:=kM 0 u==0 && kM 1 u==0 && kM 4 u==0 && kM 5 u==0 && !iN aaE u
theorem zD(h:nB t=true):LQ t/\t.k=1/\tK t.s=false/\∀l,yj (t::l):=by simp only[nB,Bool.and_eq_true,beq_iff_eq,Bool.not_eq_true'] at h;obtain⟨⟨⟨⟨⟨⟨⟨k,a⟩,b⟩,c⟩,d⟩,e⟩,f⟩,g⟩:=h;exact⟨⟨⟨by omega,by omega⟩,b,c,d,e⟩,k,a,λ l=>⟨f,g⟩⟩
variable{u:Wd}
theorem Dr(h:uB u=true):Gb u:=by simp only[uB,Bool.and_eq_true,beq_iff_eq,Bool.not_eq_true'] at h;exact⟨h.1.1.1.1,h.1.1.1.2,h.1.1.2,h.1.2,h.2⟩
theorem GK(r:dI)(h:nB t=true)(ho:iN eC u=false)(hu:uB u=true)(h3:kM 3 u=0):cW 0 (t::u::r) (uC ⟨t.s.toArray⟩) (u::r):=
 LZ (LR (zD h).1 (zD h).2.1 (zD h).2.2.1 ho) ((zD h).2.2.2 _) (Dr hu) h3
abbrev nW (s:List UInt8):Wd:=⟨1,s,0⟩
abbrev gW (s:List UInt8):Wd:=⟨4,s,0⟩
abbrev iW (n:Int):Wd:=⟨2,[],n⟩
abbrev eW:Wd:=⟨0,[],0⟩
abbrev tW:Wd:=nW [116,105,109,101]
abbrev vW:Wd:=nW [118]
def kT:Tr:=uC ⟨#[116,105,109,101]⟩
def kV:Tr:=uC ⟨#[118]⟩
def sq:Tr:=.mk 20 jF ByteArray.empty 5 [kT]
abbrev G3 (r:dI):dI:=nW BX::gW eC::iW 5::gW dM::tW::gW eA::r
theorem G5(r:dI)(hu:uB u=true)(h3:kM 3 u=0):cW 0 (G3 (u::r)) sq (u::r):=
 LZ (LY 20 rfl (zD rfl).1 rfl rfl rfl rfl rfl rfl (GK _ rfl rfl rfl rfl) rfl) ⟨rfl,rfl⟩ (Dr hu) h3
def Xh:Qu:= { items:=[(sq,ByteArray.empty),(AJ 23 [kV],ByteArray.empty)],bZ:=⟨#[116]⟩,group:=[sq] }
def Xi:Qu:= { items:=[(kV,ByteArray.empty)],bZ:=⟨#[116]⟩,cK:=[AJ 14 [kT,tL ⟨2,1,ByteArray.empty⟩]],order:=[(kV,true)],dz:=[1] }
def G6:Qu:= { items:=[(kV,ByteArray.empty)],bZ:=⟨#[116]⟩,group:=[kT] }
def Xj:Qu:= { items:=[(AJ 21 [],ByteArray.empty)],bZ:=⟨#[116]⟩,cK:=[tL ⟨1,0,ByteArray.empty⟩] }
def wd0:dI:=G3 (gW dM::nW YL::gW eC::vW::gW eA::nW xP::nW [116]::nW AL::nW OZ::G3 [eW])
def wd1:dI:=[vW,nW xP,nW [116],nW Iu,tW,gW afN,iW 1,nW Iw,nW OZ,vW,nW Pa,nW Ix,iW 1,eW]
def wd2:dI:=[vW,nW xP,nW [116],nW AL,nW OZ,tW,eW]
def wd3:dI:=[nW Iy,gW eC,gW xQ,gW eA,nW xP,nW [116],nW Iu,nW AK,eW]
theorem atQ:uZ (nW fk::wd0) Xh [eW]:=
 AU rfl rfl (.cons (G5 _ rfl rfl) rfl rfl (.one (LZ (Zr 23 ⟨rfl,rfl,rfl,rfl⟩ (zD rfl).1 rfl rfl rfl rfl (GK _ rfl rfl rfl rfl) rfl) ⟨rfl,rfl⟩ (Dr rfl) rfl) rfl rfl)) Taa rfl rfl rfl rfl (.none rfl) (.some rfl rfl rfl (G5 _ rfl rfl)) rfl (.none rfl) (.none rfl)
theorem atS:uZ (nW fk::wd1) Xi [eW]:=
 AU rfl rfl (.one (GK _ rfl rfl rfl rfl) rfl rfl) Taa rfl rfl rfl rfl (.some rfl (alx 14 Taa Taa (Dr rfl) rfl (LR (zD rfl).1 rfl rfl rfl) ⟨rfl,rfl⟩ (Zp rfl) ⟨rfl,rfl⟩ (Dr rfl))) (.none rfl) rfl (.some rfl rfl rfl rfl (GK _ rfl rfl rfl rfl)) (.some rfl rfl)
theorem atT:uZ (nW fk::wd2) G6 [eW]:=
 AU rfl rfl (.one (GK _ rfl rfl rfl rfl) rfl rfl) Taa rfl rfl rfl rfl (.none rfl) (.some rfl rfl rfl (GK _ rfl rfl rfl rfl)) rfl (.none rfl) (.none rfl)
theorem atU:uZ (nW fk::wd3) Xj [eW]:=
 AU rfl rfl (.one (LZ (UN 22 rfl (zD rfl).1 rfl rfl rfl rfl rfl rfl) ⟨rfl,rfl⟩ (Dr rfl) rfl) rfl rfl) Taa rfl rfl rfl rfl (.some rfl (LZ (PA ⟨by decide,by decide⟩ rfl rfl) ⟨rfl,rfl⟩ (Dr rfl) rfl)) (.none rfl) rfl (.none rfl) (.none rfl)
variable{s:ByteArray}{W:dI}
theorem AZ(hl:(match zZ s.data.toList with | .ok l=>l.map (·.w)| .error _=> [])=nW fk::W)(hs:s.size<=1000)(H:uZ (nW fk::W) d [eW])(hnx:(tU d).exprs.length<=1000)(hdx:∀x∈(tU d).exprs,x.thin/\x.depth<=32)(w:World):ar 52 #[.string s] w (MX d w):=by
 cases e:zZ s.data.toList with
 | error x=>rw[e] at hl;cases hl
 | ok l=>rw[e] at hl;exact abM s w WC e hl rfl H rfl hnx hdx
theorem anU:∀x∈(tU Xh).exprs,x.thin/\x.depth<=32:=by simp[tU,Xh,St.exprs,Qu.exprs,sq,kT,kV,AJ,tL,uC,Tr.thin,Tr.zy,Tr.depth,Tr.iB]
theorem anV:∀x∈(tU Xi).exprs,x.thin/\x.depth<=32:=by simp[tU,Xi,St.exprs,Qu.exprs,sq,kT,kV,AJ,tL,uC,Tr.thin,Tr.zy,Tr.depth,Tr.iB]
theorem anW:∀x∈(tU G6).exprs,x.thin/\x.depth<=32:=by simp[tU,G6,St.exprs,Qu.exprs,sq,kT,kV,AJ,tL,uC,Tr.thin,Tr.zy,Tr.depth,Tr.iB]
theorem anX:∀x∈(tU Xj).exprs,x.thin/\x.depth<=32:=by simp[tU,Xj,St.exprs,Qu.exprs,sq,kT,kV,AJ,tL,uC,Tr.thin,Tr.zy,Tr.depth,Tr.iB]
end Go.Proofs.YtndgjggokjickaaGreatDoor.R
namespace Go.Proofs.YtndgjggokjickaaGreatDoor
variable{p:Prop}
set_option maxHeartbeats 90000000
set_option maxRecDepth 100000
open Go.ChangeShapes Go.WideShapes Go.ChangeAt Go.RowKit List
set_option linter.unusedVariables false
set_option linter.unusedSimpArgs false
variable{w w':World}
theorem Jv{p:Nat} (h:aj w w'):w.grownBy w' (some p):=⟨h.os,h.tape,h.output,h.size,λ k hk _=>h.block k hk⟩
variable{g:Nat}
theorem gw(h:w.grownBy w' (some g))(i:Nat)(v:Value):w.grownBy (w'.setCell ⟨g,i,none⟩ v) (some g):=
 ⟨h.os,h.tape,h.output,by simpa [World.setCell] using h.size,λ k hk hne=>(Below.heap_setCell w' ⟨g,i,none⟩ v k (λ e=>hne Tbb)).trans (h.block k hk hne)⟩
theorem Ds (m:R.ZB):(R.sZ m).toArray.size=28:=by simp[R.sZ,R.Ma,R.ZC]
theorem abO (m:R.ZB):(R.sZ m).toArray.all (·.oneCell')=true:=by simp[R.sZ,R.Ma,R.nY,R.ZC,Value.oneCell']
theorem G7:(Tryz.prog.info? 64).map (·.size)=some 28:=by exact ZhU
def ahs:Array Value:=(R.sZ {}).toArray
theorem G8 (m:R.yl):(R.Ma m).toArray.size=8:=by simp[R.Ma]
theorem G9:(Tryz.prog.info? 27).map (·.size)=some 8:=by exact ZhU
def abP:Array Value:=(R.Ma {}).toArray
def Jw:ByteArray:=⟨#[115,101,108,101,99,116,32]⟩
def H7 (d:R.Qu)(w:World)(e:Ending)(w':World):Prop:=∃y:R.yl,e=.returned (R.quV y)/\d.at_ w' (Old w') y/\aj w w'
theorem H8 (s:ByteArray)(d:R.Qu)(hs:(Jw++s).size<=1000)(hp:∀w,ar 52 #[.string (Jw++s)] w (R.MX d w))(w:World):ar 25 #[.string s] w (H7 d w):=by
 have HP:=aa hp;have HX:=aC.new w 27 abP;have hB:=ah w (.cells abP 27);clear hp;go_enter Tryz.func25,Tryz.ntmps25;go_upto_region 1 with fail;change Code.wp _ _ _ _ (w.alloc (.cells abP 27));generalize w.alloc _=W1 at*;obtain⟨g,hg⟩:∃g,g=w.heap.size:=⟨_,rfl⟩;rw[<- hg] at HX ⊢;have hz:w.heap.size<=g:=by omega
 have hgW:=HX.lt;clear hg;have hz1:¬9223372036854775807 < 7+s.size:=by have h:=hs;rw[ByteArray.size_append] at h;have:Jw.size=7:=rfl;omega
 go_wp2_with fail;refine(HP.ae W1).mono ?_;rintro e zv ⟨qy,rfl,hat,b1⟩;obtain⟨y,hy⟩:∃y:R.ZB,y= { kind:=8,query:=qy }:=⟨_,rfl⟩;rw[<- hy];replace hat:d.at_ zv (R.jf W1.heap.size zv) y.query:=by rw[hy];exact hat
 clear hy;have c4:=aa hat;replace HX:=HX.later b1;replace hB:=ai.then hB b1
 clear hat HP;obtain⟨cs,hcs⟩:∃cs,cs=(R.sZ y).toArray:=⟨_,rfl⟩;have UM:=aa (show(Tryz.prog.info? 64).map (·.size)=some cs.size by rw[hcs,Ds];exact G7);have LW:=aa (show ahs.size=cs.size by rw[hcs,Ds];exact Ds _);have xZ:=aa (show cs.all (·.oneCell')=true by rw[hcs];exact abO _);have NL:=aa hcs;unfold R.stV;rw[<- hcs];clear hcs b1 hz1;have HX0:=ah zv (.cells cs 64);have H3:=aC.new zv 64 cs;have hg:=HX.lt;go_upto_region 2 with (first
  |(refine wpList_store_row rfl 64 (.tmp 3) (.tmp 10) rfl zv.heap.size cs rfl rfl 64 ahs (aC.new zv 64 ahs) UM.ae LW.ae xZ.ae ?_
    rw[World.setRow_alloc_new]))
 change Code.wp _ _ _ _ (zv.alloc (.cells cs 64));have atV:=aa (R.Qu.at_.keep (R.iL HX0) c4.ae);replace HX:=HX.later HX0;replace hB:=ai.then hB HX0;have l3:w.heap.size<=zv.heap.size:=by omega
 clear HX0 UM LW xZ c4;generalize zv.alloc _=UO at*;generalize zv.heap.size=qx at*;have c0:UO.cell? ⟨qx,7,none⟩=some (R.nY y.query.items):=(H3.cell 7).trans Taz;have c1:UO.cell? ⟨qx,8,none⟩=some (.string y.query.bZ):=(H3.cell 8).trans Taz;have c2:UO.cell? ⟨qx,9,none⟩=some (.bool y.query.only):=(H3.cell 9).trans Taz;have c3:UO.cell? ⟨qx,10,none⟩=some (R.nY y.query.cK):=(H3.cell 10).trans Taz;have Kx:UO.cell? ⟨qx,11,none⟩=some (R.nY y.query.group):=(H3.cell 11).trans Taz;have c5:UO.cell? ⟨qx,12,none⟩=some (R.nY y.query.having):=(H3.cell 12).trans Taz;have c6:UO.cell? ⟨qx,13,none⟩=some (R.nY y.query.order):=(H3.cell 13).trans Taz;have c7:UO.cell? ⟨qx,14,none⟩=some (R.nY y.query.dz):=(H3.cell 14).trans Taz;unfold R.nY at c0 c3 Kx c5 c6 c7;have Gt:=HX.frozen;have z:∀j u,abP[j]?=some u->UO.cell? ⟨g,j,none⟩=some u:=λ j u h=>(HX.cell j).trans h
 have k0:=z 0 _ rfl;have k1:=z 1 _ rfl;have k2:=z 2 _ rfl;have k3:=z 3 _ rfl;have k4:=z 4 _ rfl;have k5:=z 5 _ rfl;have k6:=z 6 _ rfl;have z7:=z 7 _ rfl;have HR0:=((((((((HX.aW 0 (.slice y.query.items.A y.query.items.n y.query.items.c)).aW 1 (.string y.query.bZ)).aW 2 (.bool y.query.only)).aW 3 (.slice y.query.cK.A y.query.cK.n y.query.cK.c)).aW 4 (.slice y.query.group.A y.query.group.n y.query.group.c)).aW 5 (.slice y.query.having.A y.query.having.n y.query.having.c)).aW 6 (.slice y.query.order.A y.query.order.n y.query.order.c)).aW 7 (.slice y.query.dz.A y.query.dz.n y.query.dz.c));have yq:=aa (gw (gw (gw (gw (gw (gw (gw (gw (Jv (p:=g) (Below.refl UO.heap.size UO)) 0 (.slice y.query.items.A y.query.items.n y.query.items.c)) 1 (.string y.query.bZ)) 2 (.bool y.query.only)) 3 (.slice y.query.cK.A y.query.cK.n y.query.cK.c)) 4 (.slice y.query.group.A y.query.group.n y.query.group.c)) 5 (.slice y.query.having.A y.query.having.n y.query.having.c)) 6 (.slice y.query.order.A y.query.order.n y.query.order.c)) 7 (.slice y.query.dz.A y.query.dz.n y.query.dz.c));have E0:=aa ((((((((hB.setCell (p:=⟨g,0,none⟩) hz (.slice y.query.items.A y.query.items.n y.query.items.c)).setCell (p:=⟨g,1,none⟩) hz (.string y.query.bZ)).setCell (p:=⟨g,2,none⟩) hz (.bool y.query.only)).setCell (p:=⟨g,3,none⟩) hz (.slice y.query.cK.A y.query.cK.n y.query.cK.c)).setCell (p:=⟨g,4,none⟩) hz (.slice y.query.group.A y.query.group.n y.query.group.c)).setCell (p:=⟨g,5,none⟩) hz (.slice y.query.having.A y.query.having.n y.query.having.c)).setCell (p:=⟨g,6,none⟩) hz (.slice y.query.order.A y.query.order.n y.query.order.c)).setCell (p:=⟨g,7,none⟩) hz (.slice y.query.dz.A y.query.dz.n y.query.dz.c))
 have HR:=aa (show aC _ g 27 (R.Ma y.query).toArray from HR0);clear z HX hB HR0 H3;go_wp2_with fail;have HQ:=R.Qu.at_.keep (λ b hb=>((R.lJ yq.ae hgW) b hb).imp id λ h=>h.2) atV.ae;exact bodyPost_ret (v:=R.quV y.query) (results_cell_row Tryz.results25 _ _ g 27 (R.Ma y.query).toArray (0,0) _ rfl HR.ae Tryz.underlying27 rfl (by rw[G8];exact G9)) rfl ⟨y.query,rfl,HQ,E0.ae⟩
theorem tE (s:ByteArray)(d:R.Qu)(hs:(Jw++s).size<=1000)(hp:∀w,ar 52 #[.string (Jw++s)] w (R.MX d w))(w:World):ar 25 #[.string s] w λ e w'=>∃L,e=.returned (tJ (fl d) L)/\rD w' (fl d) L/\aj w w':=by refine(H8 s d hs hp w).mono ?_;rintro e w1 ⟨y,rfl,hat,b⟩;obtain⟨h1,h2⟩:=SM hat;exact⟨PQ y,by rw[h2],h1,b⟩
def N5 (n:Nat):Prop:=n<=5
def abQ (s:St):Val×Int:=if s.op=21 then(num s.all,0)else s.total
variable{op:Int}
theorem aht(h:op=21\/op=23)(l:List (Val×Val)):gH (ld op l)=abQ (ld op l):=by
 rcases h with rfl | rfl
 ·have hr:=AG (op:=21) WC WC l;have h:=Ip (s:=ld 21 l) ⟨num (ld 21 l).all,0,by unfold gK;rw[hr.kind];simp⟩;unfold gK at h;rw[hr.kind] at h;simp only[if_pos] at h;unfold abQ;rw[hr.kind,if_pos rfl];exact Prod.ext h.1 h.2
 ·have hr:=AG (op:=23) WC WC l;have h:=Ip (s:=ld 23 l) ⟨(ld 23 l).total.1,(ld 23 l).total.2,by unfold gK;rw[hr.kind];simp⟩;unfold gK at h;rw[hr.kind] at h;unfold abQ;rw[hr.kind,if_neg Taa];rw[if_neg Taa,if_neg Taa,if_pos rfl] at h;exact Prod.ext h.1 h.2
def wU (ops:List Int)(l:List (List Val×List (Val×Val)))(k:List Val):List (Val×Int):=(List.range ops.length).map λ i=>abQ (ld (ops.getD i 0) (qB i l k))
variable{ops:List Int}
theorem VD(h:∀op∈ops,op=21\/op=23)(l:List (List Val×List (Val×Val)))(k:List Val):dW ops l k=wU ops l k:=by
 unfold dW wU;refine map_congr_left λ i hi=>?_
 rw[mem_range] at hi;exact aht (h _ (by rw[getD_eq_getElem?_getD,getElem?_eq_getElem hi];exact getElem_mem hi)) _
def Jy (ng:Nat)(aM:List Tr)(l:List (List Val)):Except Int (List (List Val)):=
 let ps:=l.map λ r=>(r.take ng,jE aM (r.drop ng))
 let ks:=if ng=0 then [[]] else jo (ps.map (·.1))
 let e:=dp (ks.map λ k=>cN (wU (aM.map Tr.op) ps k))
 if e≠0 then .error e else .ok (ks.map λ k=>k++(wU (aM.map Tr.op) ps k).map (·.1))
variable{ng:Nat}
theorem I0{aM:List Tr}(h:∀op∈aM.map Tr.op,op=21\/op=23)(l:List (List Val)):nj ng aM l=Jy ng aM l:=by unfold nj Jy;simp only[VD h]
def I1 (q:Qy)(p:ji)(cols:List aZ)(rows:List (List Val)):Except Int (List (List Val)):=
 if (dx cols q.cK rows).2≠0 then .error (dx cols q.cK rows).2
 else if p.aK=false then .ok (dx cols q.cK rows).1
 else match BS ((dx cols q.cK rows).1.map λ r=>bz cols r (q.aL++p.st.aM.flatMap Tr.args))with
 | .error e=> .error e
 | .ok l=>match Jy q.aL.length p.st.aM l with
   | .error e=> .error e
   | .ok gs=>if (dx p.st.aL p.having gs).2≠0 then .error (dx p.st.aL p.having gs).2 else .ok (dx p.st.aL p.having gs).1
def ahu (p:ji)(cols:List aZ)(rows:List (List Val)):Except Int (List eI):=
 BS (rows.map λ r=>match bz (fZ p cols) r (p.items++p.order)with | .error e=> .error e | .ok l=> .ok (RY p r l))
def anY (q:Qy)(cols:List aZ)(rows:List (List Val)):Except Int (List aZ×List (List Val)):=
 match ew q cols with
 | .error e=> .error e
 | .ok p=>if rows.any (λ r=> !ib cols r)=true then .error 40
   else match I1 q p cols rows with
   | .error e=> .error e
   | .ok left=>match ahu p cols left with
     | .error e=> .error e
     | .ok ls=> .ok (p.head,((match q.lim with | []=>mh (q.ord.map λ o:Tr×Bool=>o.2) ls | n::_=>(mh (q.ord.map λ o:Tr×Bool=>o.2) ls).take n.toNat).map eI.row))
def tF (q:Qy)(cols:List aZ):Bool:=match ew q cols with
 | .error _=>true
 | .ok p=>(p.st.aM.map Tr.op).all λ op=>op==21 || op==23
variable{q:Qy}{cols:List aZ}
theorem Td(h:tF q cols=true)(rows:List (List Val)):pD q cols rows=anY q cols rows:=by
 unfold pD anY;unfold tF at h
 cases hp:ew q cols with
 | error e=>rfl
 | ok p=>
   rw[hp] at h;have kG:∀op∈p.st.aM.map Tr.op,op=21\/op=23:=λ op ho=>by have:=List.all_eq_true.1 h op ho;simpa using this
   have hl:zh q p cols rows=I1 q p cols rows:=by unfold zh I1;simp only[I0 kG];rfl
   show(if _ then _ else match zh q p cols rows with | .error e=>_ | .ok left=>match rG p cols left with | .error e=>_ | .ok ls=>_)=_;rw[hl];rfl
def mC:List aZ:=[⟨⟨#[116,105,109,101]⟩,2⟩,⟨⟨#[118]⟩,2⟩]
def wV:List (List Val):=[[num 1,num 5],[num 2,num 7],[num 6,num 1]]
def t0B:ByteArray:=⟨#[98,117,99,107,101,116,40,53,44,32,116,105,109,101,41,44,32,115,117,109,40,118,41,32,102,114,111,109,32,116,32,103,114,111,117,112,32,98,121,32,98,117,99,107,101,116,40,53,44,32,116,105,109,101,41]⟩
theorem anZ (w:World):ar 52 #[.string (Jw++t0B)] w (R.MX R.Xh w):=R.AZ (W:=R.wd0) Vx Taa R.atQ Taa R.anU w
theorem abR:tF (fl R.Xh) mC=true:=by exact ZhU
def QM:List aZ:=match ew (fl R.Xh) mC with | .ok p=>p.head | .error _=> []
theorem abS:pD (fl R.Xh) mC wV=.ok (QM,[[num 0,num 12],[num 5,num 1]]):=by rw[Td abR];exact ZhU
def t1B:ByteArray:=⟨#[118,32,102,114,111,109,32,116,32,119,104,101,114,101,32,116,105,109,101,32,62,32,49,32,111,114,100,101,114,32,98,121,32,118,32,100,101,115,99,32,108,105,109,105,116,32,49]⟩
theorem aoa (w:World):ar 52 #[.string (Jw++t1B)] w (R.MX R.Xi w):=R.AZ (W:=R.wd1) Vx Taa R.atS Taa R.anV w
theorem abT:tF (fl R.Xi) mC=true:=by exact ZhU
def QN:List aZ:=match ew (fl R.Xi) mC with | .ok p=>p.head | .error _=> []
theorem abU:pD (fl R.Xi) mC wV=.ok (QN,[[num 7]]):=by rw[Td abT];exact ZhU
def t2B:ByteArray:=⟨#[118,32,102,114,111,109,32,116,32,103,114,111,117,112,32,98,121,32,116,105,109,101]⟩
theorem aob (w:World):ar 52 #[.string (Jw++t2B)] w (R.MX R.G6 w):=R.AZ (W:=R.wd2) Vx Taa R.atT Taa R.anW w
theorem abV:tF (fl R.G6) mC=true:=by exact ZhU
theorem abW:pD (fl R.G6) mC wV=.error 42:=by rw[Td abV];exact ZhU
def t3B:ByteArray:=⟨#[99,111,117,110,116,40,42,41,32,102,114,111,109,32,116,32,119,104,101,114,101,32,102,97,108,115,101]⟩
theorem aoc (w:World):ar 52 #[.string (Jw++t3B)] w (R.MX R.Xj w):=R.AZ (W:=R.wd3) Vx Taa R.atU Taa R.anX w
theorem abX:tF (fl R.Xj) mC=true:=by exact ZhU
def QO:List aZ:=match ew (fl R.Xj) mC with | .ok p=>p.head | .error _=> []
theorem abY:pD (fl R.Xj) mC wV=.ok (QO,[[num 0]]):=by rw[Td abX];exact ZhU
theorem zeH.KaU(h:p:=by clear HX hB HB;go_wp2_with fail;exact bodyPost_ret (v:=.agg #[ag 2,af n,au]) (results_cell_row Tryz.results27 _ _ g 44 _ (0,0) _ rfl HR.ae Tryz.underlying44 rfl rfl) rfl ⟨rfl,E0.ae⟩):p:=h
theorem zf5.Kbj(h:p:=by
 have hz:w.heap.size<=g:=by omega
 clear hg;have HB:=aa hB;have HR:=(((HX.aW 0 (ag 2)).aW 1 (af n)).aW 2 (au));have E0:=aa (((hB.setCell (p:=⟨g,0,none⟩) hz (ag 2)).setCell (p:=⟨g,1,none⟩) hz (af n)).setCell (p:=⟨g,2,none⟩) hz (au));have HR:=aa (show aC _ g 44 #[ag 2,af n,au] from HR);open zeH in exact Zb5):p:=h
theorem fD (n:Int)(w:World):ar 27 #[af n] w λ e w'=>e=.returned (.agg #[ag 2,af n,au])/\aj w w':=by have hB:=ah w (.cells #[ag 0,af 0,au] 44);have HX:=aC.new w 44 #[ag 0,af 0,au];go_enter Tryz.func27,Tryz.ntmps27;open zf5 in exact Zdm
variable{a b:Int}
theorem Dt(h:aC w g 44 #[ag 2,af a,au,ag 2,af b,au]):RV w w.heap.size (some ⟨g,0,none⟩) [num a,num b]:=by
 refine .inr ⟨_,0,rfl,h.lt,λ i x hx=>?_⟩
 match i,hx with
 | 0,hx=>exact Zh6
 | 1,hx=>injection hx with hx;subst hx;exact⟨h.cell 3,h.cell 4,h.cell 5⟩
 | n+2,hx=>cases hx
theorem zjK.KcO(h:p:=by
 clear b1;have K4:=aa (aC.new (w6.alloc (.cells #[ag 2,af 6,au,ag 2,af 1,au] 44)) 38 #[aF w2.heap.size 2 2,aF w4.heap.size 2 2,aF w6.heap.size 2 2]);generalize World.alloc (World.alloc w6 _) _=W at*;rw[World.size_alloc] at K4;refine bodyPost_ret (v:=.tuple #[aF w.heap.size 2 2,aF (w6.heap.size+1) 3 3]) (by simp[results,Tryz.results24,go_sem];done) rfl ?_;refine⟨some ⟨w.heap.size,0,none⟩,2,some ⟨w6.heap.size+1,0,none⟩,3,[⟨some ⟨w2.heap.size,0,none⟩,[num 1,num 5],2⟩,⟨some ⟨w4.heap.size,0,none⟩,[num 2,num 7],2⟩,⟨some ⟨w6.heap.size,0,none⟩,[num 6,num 1],2⟩],rfl,?_,?_,rfl,HB.ae⟩
 ·refine .inr ⟨_,0,rfl,HK.ae.lt,λ i x hx=>?_⟩
  match i,hx with
  | 0,hx=>injection hx with hx;subst hx;exact⟨HK.ae.cell 0,HK.ae.cell 1⟩
  | 1,hx=>injection hx with hx;subst hx;exact⟨HK.ae.cell 2,HK.ae.cell 3⟩
  | n+2,hx=>cases hx
 ·refine .inr ⟨_,0,rfl,K4.ae.lt,λ i x hx=>?_⟩
  match i,hx with
  | 0,hx=>injection hx with hx;subst hx;exact⟨K4.ae.cell 0,Dt K1.ae⟩
  | 1,hx=>injection hx with hx;subst hx;exact⟨K4.ae.cell 1,Dt K2.ae⟩
  | 2,hx=>injection hx with hx;subst hx;exact⟨K4.ae.cell 2,Dt K3.ae⟩
  | n+3,hx=>cases hx):p:=h
theorem VE (w:World):ar 24 #[] w λ e w'=>∃CA cc RA rc rs,e=.returned (.tuple #[.slice CA mC.length cc,.slice RA rs.length rc])/\RC w' w'.heap.size CA mC/\RR w' w'.heap.size RA rs/\rs.map (·.l)=wV/\aj w w':=by
 go_enter Tryz.func24,Tryz.ntmps24;go_wp2_with fail;have HB:=aa (ah w (.cells #[.string ⟨#[116,105,109,101]⟩,ag 2,.string ⟨#[118]⟩,ag 2] 113));have HK:=aa (aC.new w 113 #[.string ⟨#[116,105,109,101]⟩,ag 2,.string ⟨#[118]⟩,ag 2]);refine(fD _ _).mono ?_;rintro e w1 ⟨rfl,b1⟩;replace HK:=aa (HK.ae.later b1);replace HB:=aa (ai.then HB.ae b1);clear b1;go_wp2_with fail;refine(fD _ _).mono ?_;rintro e w2 ⟨rfl,b1⟩;replace HK:=aa (HK.ae.later b1);replace HB:=aa (ai.then HB.ae b1);clear b1;go_wp2_with fail;have b1:=ah w2 (.cells #[ag 2,af 1,au,ag 2,af 5,au] 44);replace HK:=aa (HK.ae.later b1);replace HB:=aa (ai.then HB.ae b1);clear b1;have K1:=aa (aC.new w2 44 #[ag 2,af 1,au,ag 2,af 5,au]);refine(fD _ _).mono ?_;rintro e w3 ⟨rfl,b1⟩;replace HK:=aa (HK.ae.later b1);replace K1:=aa (K1.ae.later b1);replace HB:=aa (ai.then HB.ae b1);clear b1;go_wp2_with fail;refine(fD _ _).mono ?_;rintro e w4 ⟨rfl,b1⟩;replace HK:=aa (HK.ae.later b1);replace K1:=aa (K1.ae.later b1);replace HB:=aa (ai.then HB.ae b1);clear b1;go_wp2_with fail;have b1:=ah w4 (.cells #[ag 2,af 2,au,ag 2,af 7,au] 44);replace HK:=aa (HK.ae.later b1);replace K1:=aa (K1.ae.later b1);replace HB:=aa (ai.then HB.ae b1);clear b1;have K2:=aa (aC.new w4 44 #[ag 2,af 2,au,ag 2,af 7,au]);refine(fD _ _).mono ?_;rintro e w5 ⟨rfl,b1⟩;replace HK:=aa (HK.ae.later b1);replace K1:=aa (K1.ae.later b1);replace K2:=aa (K2.ae.later b1);replace HB:=aa (ai.then HB.ae b1);clear b1;go_wp2_with fail;refine(fD _ _).mono ?_;rintro e w6 ⟨rfl,b1⟩;replace HK:=aa (HK.ae.later b1)
 replace K1:=aa (K1.ae.later b1);replace K2:=aa (K2.ae.later b1);replace HB:=aa (ai.then HB.ae b1);clear b1;go_wp2_with fail;have b1:=ah w6 (.cells #[ag 2,af 6,au,ag 2,af 1,au] 44);replace HK:=aa (HK.ae.later b1);replace K1:=aa (K1.ae.later b1);replace K2:=aa (K2.ae.later b1);replace HB:=aa (ai.then HB.ae b1);clear b1;have K3:=aa (aC.new w6 44 #[ag 2,af 6,au,ag 2,af 1,au]);have b1:=ah (w6.alloc (.cells #[ag 2,af 6,au,ag 2,af 1,au] 44)) (.cells #[aF w2.heap.size 2 2,aF w4.heap.size 2 2,aF w6.heap.size 2 2] 38);open zjK in exact ZiB
def x6V (vx:Val)(gv b off n cc k:Nat)(ct:Int)(gd nz ne:Bool):Nat->World->Value->Prop
 | 0,_,v=>v=.agg (aH vx)
 | 1,_,v=>v=(cond gd (.bool true) (.bool false))
 | 2,_,v=>v=(cond gd (.bool false) (.bool true))
 | 3,_,v=>v=(cond gd (.bool false) (.bool true))
 | 4,_,v=>v=(cond gd (aw gv) (undef))
 | 5,_,v=>v=(cond gd (ag vx.k) (undef))
 | 6,_,v=>v=(cond gd ((cond nz (.bool true) (.bool false))) (undef))
 | 7,_,v=>v=(cond gd ((cond nz (.bool true) (.bool false))) (undef))
 | 8,_,v=>v=(cond gd ((cond nz (aw gv) (undef))) (undef))
 | 9,_,v=>v=(cond gd ((cond nz (ag vx.k) (undef))) (undef))
 | 10,_,v=>v=(cond gd ((cond nz (.slice (some ⟨b,off,none⟩) n cc) (undef))) (undef))
 | 11,_,v=>v=(cond gd ((cond nz (af k) (undef))) (undef))
 | 12,_,v=>v=(cond gd ((cond nz (bj b (off+k*2)) (undef))) (undef))
 | 13,_,v=>v=(cond gd ((cond nz (bj b (off+k*2+1)) (undef))) (undef))
 | 14,_,v=>v=(cond gd ((cond nz (ag ct) (undef))) (undef))
 | 15,_,v=>v=(cond gd ((cond nz ((cond ne (.bool true) (.bool false))) (undef))) (undef))
 | 16,_,v=>v=(cond gd ((cond nz ((cond ne (.bool true) (.bool false))) (.bool false))) (undef))
 | 17,_,v=>v=(cond gd ((cond nz ((cond ne (.bool true) (.bool false))) (.bool false))) (.bool true))
 | _,_,_=>False
theorem VF (vx:Val)(gv b off n cc k:Nat)(ct:Int)(gd nz ne:Bool):∀i w w' v,x6V vx gv b off n cc k ct gd nz ne i w v->ai w w'->x6V vx gv b off n cc k ct gd nz ne i w' v:=by
 intro i w w' v h hl
 match i with
 | 0 | 1 | 2 | 3 | 4 | 5 | 6 | 7 | 8 | 9 | 10 | 11 | 12 | 13 | 14 | 15 | 16 | 17=>exact h
 | n+18=>exact h
variable{c:aZ}{v:Val}{cs:List aZ}{vs:List Val}
theorem oK:ib (c::cs) (v::vs)=(FO c v && ib cs vs):=rfl
theorem MZ:∀ {cs:List aZ} {vs:List Val},cs.length≠vs.length->ib cs vs=false
 | [],[],h=>absurd rfl h
 | [],_::_,_=>rfl
 | _::_,[],_=>rfl
 | c::cs,v::vs,h=>by rw[oK,MZ (λ e=>h (by simp[e])),Bool.and_false]
theorem zik.Kcd(h:p:=by
 have h1:_=_:=hr.2.1;have Lw:(i:Int)<(cols.length:Int):=by omega
 exact aq (w':=W4) (by simp[go_sem,h0,h1,Lw,qA,dR];done) ⟨ai.refl _,rfl⟩):p:=h
theorem zil.Kcd(h:p:=by have jk:=(hL.cell (p:=⟨Kx,ayt+i*2+1,none⟩) HBS.ae).trans HCT.ae;exact Zea):p:=h
theorem zim.Kcd(h:p:=by have h1:_=_:=hr.2.1;have e1:=nV.ae.2 rfl;exact Zhr):p:=h
theorem zin.Kcd(h:p:=by have h1:_=_:=hr.2.1;have e1:=nV.ae.1 rfl;exact Zhr):p:=h
theorem I3 (cols:List aZ)(CA:Option Addr)(cc:Nat)(row:List Val)(RA:Option Addr)(rc:Nat)(w:World)(oP:cols.length<=140737488355328)(HZ:row.length<=140737488355328)(kB:RC w w.heap.size CA cols)(hg4:RV w w.heap.size RA row):
  ar 31 #[.slice CA cols.length cc,.slice RA row.length rc] w λ e w'=>e=.returned (.bool (ib cols row))/\aj w w':=by
 have HI:=aa kB;have Kf:=aa hg4;have Gs:=aa oP;have tN:=aa HZ;clear kB hg4 oP HZ;obtain⟨rt,hrt⟩:∃rt,rt=ib cols row:=⟨_,rfl⟩;rw[<- hrt];have Lt:=aa hrt;clear hrt;by_cases hl:cols.length=row.length
 case neg=>
  have hr:rt=false:=by rw[Lt.ae];exact MZ hl
  subst hr;have t1:((cols.length:Int) !=(row.length:Int))=true:=by simp;omega
  have t2:decide ((cols.length:Int)=(row.length:Int))=false:=by simp;omega
  have t3:decide (cols.length=row.length)=false:=by simp[hl]
  have hb:=Below.refl w.heap.size w;clear hl;go_enter Tryz.func31,Tryz.ntmps31;exact Zfn
 have t1:((cols.length:Int) !=(row.length:Int))=false:=by simp[hl]
 have t2:decide ((cols.length:Int)=(row.length:Int))=true:=by simp[hl]
 have t3:decide (cols.length=row.length)=true:=by simp[hl]
 have AY:=aa hl;clear hl;go_enter Tryz.func31,Tryz.ntmps31;go_wp2_with fail;clear t1 t2 t3;go_loopw [14] (λ KK wr=>∃i:Nat,i<=row.length/\KK=af i/\rt=ib (cols.drop i) (row.drop i)/\aj w wr) (λ KK _=>row.length - (intOf KK).toNat);case atStart=>exact⟨0,Nat.zero_le _,rfl,Lt.ae,Below.refl _ _⟩
 case round=>
  clear Lt;obtain⟨i,hk,rfl,hp,hb⟩:=hrel;have HP:=aa hp;clear hp;have HZ:=tN.ae;by_cases hlt:i < row.length
  ·have qA:i < cols.length:=by have:=AY.ae;omega
   obtain⟨b2,aAu,rfl,hb1,hx⟩:=(Kf.ae.below hb).at_ hlt;obtain⟨Kx,ayt,rfl,hb2,RG⟩:=(HI.ae.below hb).at_ qA;have II:=aa (show cols.drop i=cols[i]::cols.drop (i+1)from drop_eq_getElem_cons qA);have Ke:=aa (show row.drop i=row[i]::row.drop (i+1)from drop_eq_getElem_cons hlt);generalize row[i]=v at*;generalize cols[i]=c at*;unfold eh at hx;unfold mW at RG;go_upto_region 6 with fail;have HG:=aC.new wr 44 (aH v);have bV:=ah wr (.cells (aH v) 44);have hct:=(bV.cell (p:=⟨Kx,ayt+i*2+1,none⟩) (Nat.lt_of_lt_of_le hb2 hb.size)).trans RG.2;have HCT:=aa hct;have hB:=ai.then hb bV;have JX:Kx <(wr.alloc (.cells (aH v) 44)).heap.size:=Nat.lt_of_lt_of_le (Nat.lt_of_lt_of_le hb2 hb.size) bV.size;have HBS:=aa JX;generalize wr.alloc _=W2 at*;obtain⟨g8,WT⟩:∃g8,g8=wr.heap.size:=⟨_,rfl⟩;rw[<- WT] at HG ⊢;clear WT hx RG hct bV JX;obtain⟨gd,hgd⟩:∃gd,gd=good v:=⟨_,rfl⟩
   obtain⟨nz,hnz⟩:∃nz:Bool,(nz=true->v.k≠0)/\(nz=false->v.k=0):=by
    by_cases h:v.k=0
    ·exact⟨false,λ h=> Tah,λ _=>h⟩
    ·exact Zhp
   obtain⟨ne,hne⟩:∃ne:Bool,(ne=true->v.k≠c.t)/\(ne=false->v.k=c.t):=by
    by_cases h:v.k=c.t
    ·exact⟨false,λ h=> Tah,λ _=>h⟩
    ·exact Zhp
   have NQ:=aa hgd;have Xf:=aa hnz;have nV:=aa hne;clear hgd hnz hne;refine bC 18 (x6V v g8 Kx ayt cols.length cc i c.t gd nz ne) (VF _ _ _ _ _ _ _ _ _ _ _) Vx Vx Vx ?_ ?_
   ·simp only[take_succ_cons,take_zero];refine⟨?_,?_,Zim,Zim,?_,?_,?_,?_,Za5,?_,Za5,Za5,?_,Za5,?_,?_,?_,?_,trivial⟩
    ·intro ρ W4 hc hL hr;exact Zdo
    ·intro ρ W4 hc hL hr;cases gd
     ·exact ZdY
     ·exact ZdY
    ·intro ρ W4 hc hL hr;cases gd
     ·exact ZbF
     ·exact Zf8
    ·intro ρ W4 hc hL hr;cases gd
     ·exact ZbF
     ·skip;intro hg;have hg:ρ (.tmp 22)=.bool false:=hg;refine⟨λ _=>?_,λ hn=>absurd hg hn⟩;exact Zdo
    ·intro ρ W4 hc hL hr;cases gd
     ·exact ZgL
     ·skip;cases nz
      ·skip;cases ne
       ·exact ZdH
       ·exact ZdH
      ·skip;cases ne
       ·exact ZdI
       ·exact ZdI
    ·intro ρ W4 hc hL hr;cases gd
     ·skip;cases nz
      ·exact ZbF
      ·exact ZbF
     ·skip;cases nz
      ·exact Zf8
      ·exact Zf8
    ·intro ρ W4 hc hL hr;cases gd
     ·exact ZgT
     ·skip;cases nz
      ·exact Zda
      ·skip;intro hg;have hg:ρ (.tmp 26)=.bool true:=hg;refine⟨λ _=>?_,λ hn=>absurd hg hn⟩;exact Zdo
    ·intro ρ W4 hc hL hr;cases gd
     ·exact ZgT
     ·skip;cases nz
      ·exact Zda
      ·open zik in exact ZfE
    ·intro ρ W4 hc hL hr;cases gd
     ·exact ZgT
     ·skip;cases nz
      ·exact Zda
      ·open zil in exact ZfE
    ·intro ρ W4 hc hL hr;cases gd
     ·skip;cases nz
      ·skip;cases ne
       ·exact ZbV
       ·exact ZbV
      ·skip;cases ne
       ·exact ZbV
       ·exact ZbV
     ·skip;cases nz
      ·skip;cases ne
       ·exact Zda
       ·exact Zda
      ·skip;cases ne
       ·open zim in exact ZfE
       ·open zin in exact ZfE
    ·intro ρ W4 hc hL hr;cases gd
     ·exact ZgL
     ·skip;cases nz
      ·skip;cases ne
       ·exact ZcX
       ·exact ZcX
      ·skip;cases ne
       ·exact ZcX
       ·exact ZcX
    ·intro ρ W4 hc hL hr;cases gd
     ·skip;cases nz
      ·exact ZfR
      ·exact ZfR
     ·skip;cases nz
      ·exact ZfR
      ·exact ZfR
   intro W3 hL;simp only[Uab];rintro a0 - a1 - a2 - a3 - a4 - a5 - a6 - a7 - a8 - a9 - FN - C1 - a12 - a13 - a14 - a15 - a16 - _ rfl;simp only[bF,Act.put,Uac];have hW:=ai.then hB hL;clear HG HCT HBS hB hL hb;cases gd
   ·skip;have hr:rt=false:=by rw[HP.ae,II.ae,Ke.ae,oK];unfold FO;rw[<- NQ.ae];rfl
    exact ZhJ
   ·cases nz
    ·skip;have hr:rt=ib (cols.drop (i+1)) (row.drop (i+1)):=by rw[HP.ae,II.ae,Ke.ae,oK];unfold FO;rw[<- NQ.ae];rw[Xf.ae.2 rfl];rfl
     have HR:=aa hr;clear hr HP II Ke NQ Xf nV;exact Zc2
    ·cases ne
     ·skip;have hr:rt=ib (cols.drop (i+1)) (row.drop (i+1)):=by rw[HP.ae,II.ae,Ke.ae,oK];unfold FO;rw[<- NQ.ae];rw[nV.ae.2 rfl];simp
      have HR:=aa hr;clear hr HP II Ke NQ Xf nV;exact Zc2
     ·skip
      have hr:rt=false:=by
       rw[HP.ae,II.ae,Ke.ae,oK];unfold FO;rw[<- NQ.ae];have e1:(v.k==0)=false:=by have:=Xf.ae.1 rfl;simpa using this
       have e2:(v.k==c.t)=false:=by have:=nV.ae.1 rfl;simpa using this
       rw[e1,e2];rfl
      exact ZhJ
  ·have fL:i=row.length:=by omega
   have hr:rt=true:=by rw[HP.ae,drop_eq_nil_of_le (by have:=AY.ae;omega),drop_eq_nil_of_le WC];rfl
   subst hr;exact Zfn
end Go.Proofs.YtndgjggokjickaaGreatDoor
