/- Parts of the proof. -/
import Derived.RangeFuncNested
import Derived.RangeFuncBound
import Derived.Shelf.RegionOpen
import Derived.OwnWalkIn
import Derived.LoopNIn
import Derived.LoopIn
import Derived.Deep.WholeRow
import Derived.Test.YtndgjggokjickaaGreatDoorXO7
namespace Go.Proofs.YtndgjggokjickaaGreatDoor
variable{p:Prop}
set_option maxHeartbeats 90000000
set_option maxRecDepth 100000
open Go.ChangeShapes Go.WideShapes Go.ChangeAt Go.RowKit Go.Shelf List
set_option linter.unusedVariables false
set_option linter.unusedSimpArgs false
attribute [local go_sem] Oper.semAt_some
variable{w w':World}
theorem QG{p:Addr}(h:w'.heap[p.block]?=w.heap[p.block]?):w'.cell? p=w.cell? p:=by unfold World.cell?;rw[h]
structure Fr (w w':World):Prop where
 size:w.heap.size<=w'.heap.size
 cell:∀p v,w.cell? p=some v->w'.cell? p=some v
theorem Fr.refl (w:World):Fr w w:=⟨Nat.le_refl _,λ _ _ h=>h⟩
variable{a b c:World}
theorem Fr.trans(h:Fr a b)(k:Fr b c):Fr a c:=⟨Nat.le_trans h.size k.size,λ p v hv=>k.cell p v (h.cell p v hv)⟩
variable{v:Value}
theorem QH{p:Addr} (h:w.cell? p=some v):p.block < w.heap.size:=by
 rcases Nat.lt_or_ge p.block w.heap.size with h1 | h1
 ·exact h1
 ·unfold World.cell? at h;rw[Array.getElem?_eq_none h1] at h;simp at h
theorem Fr.below(h:aj w w'):Fr w w':=⟨h.size,λ p v hv=>(h.cell (QH hv)).trans hv⟩
theorem Fr.putObj (w:World)(l:Nat)(ob ob':Obj)(h:w.heap[l]?=some ob)(hc:ob.isCells=false):Fr w (w.putObj l ob'):=
 ⟨by simp,λ p v hv=>by
   obtain⟨o2,ho,hc2⟩:=cells_of_cell hv
   have hne:p.block≠l:=λ e=>by rw[e,h] at ho;injection ho with ho;rw[ho,hc2] at hc;cases hc
   exact(QG (World.putObj_heap_other hne)).trans hv⟩
variable{off:Nat}
theorem ck.fr{b:Nat} {x:Ex}(h:ck w b off x)(hf:Fr w w'):ck w' b off x:=by unfold ck at*;exact⟨hf.cell _ _ h.1,hf.cell _ _ h.2.1,hf.cell _ _ h.2.2.1,hf.cell _ _ h.2.2.2.1,hf.cell _ _ h.2.2.2.2.1,hf.cell _ _ h.2.2.2.2.2.1,hf.cell _ _ h.2.2.2.2.2.2⟩
variable{B:Nat}{A:Option Addr}
theorem RE.fr{l:List Ex}(h:RE w B A l)(hf:Fr w w'):RE w' B A l:=by
 rcases h with h |⟨b,off,h1,h2,h3⟩
 ·exact .inl h
 ·exact .inr ⟨b,off,h1,h2,λ i x hx=>(h3 i x hx).fr hf⟩
abbrev QE (w0:World):= { x:Ex×Tr // x.2.ok/\x.2.at_ w0 (Old w0) x.1 }
variable{w0:World}
theorem AH:∀(ts:List Tr) (ys:List Ex),Tr.cO ts->Tr.aO w0 (Old w0) ts ys->∃L:List (QE w0),L.map (λ x=>x.1.1)=ys/\L.map (λ x=>x.1.2)=ts
 | [],ys,_,h=>by unfold Tr.aO at h;subst h;exact⟨[],rfl,rfl⟩
 | t::ts,ys,aZ,h=>by unfold Tr.aO at h;unfold Tr.cO at aZ;obtain⟨y,ys',rfl,h1,h2⟩:=h;obtain⟨L,e1,e2⟩:=AH ts ys' aZ.2 h2;exact⟨⟨(y,t),aZ.1,h1⟩::L,by rw[map_cons,e1],by rw[map_cons,e2]⟩
def QI(x:QE w0):Array Value:= #[.agg (ay x.1.1)]
theorem nG(h:aj w w'):w.grownBy w' none:=⟨h.os,h.tape,h.output,h.size,λ k hk _=>h.block k hk⟩
theorem zio.Kcs(h:p:=by
 have HA_:=aa hA;clear hR hJ1 hLk fI hex h7 iZ KK hA;gi_wp2;refine HR.ae.mono ?_;rintro e W3 (⟨rfl,hJ3,hk3⟩|⟨rfl,Dc⟩)
 ·rw[<- oY.ae] at hJ3;have HJ3:=aa hJ3;have HF3:=aa ((Kx.ae.trans (Fr.below (ah wr (.cells #[ag y.op,ag y.v.k,af y.v.n,.string y.v.s,.string y.name,af y.width,.slice y.A y.n y.c,.string nm] 48)))).trans hk3);clear hJ3 hk3 HR HP;exact ZdL
 ·rw[<- oY.ae] at Dc;have HJX:=aa Dc;clear Dc HR HP;gi_wp2;refine bodyPost_ret (results_none rfl _ _ _) rfl ?_;exact⟨⟨_,rfl⟩,.inr ⟨_,by rw[append_assoc];exact(take_prefix _ _).trans (prefix_append _ _),HJX.ae⟩⟩):p:=h
theorem ziq.Kcs(h:p:=by
 clear hR hJ1 hLk fI hex KK;gi_wp2;refine HR.ae.mono ?_;rintro e W3 (⟨rfl,hJ3,hk3⟩|⟨rfl,Dc⟩)
 ·rw[<- oY.ae] at hJ3;have HJ3:=aa hJ3;have HF3:=aa ((Kx.ae.trans (Fr.below (ah wr (.cells (ay y) 46)))).trans hk3);clear hJ3 hk3 HR HP iE hy;exact ZdL
 ·rw[<- oY.ae] at Dc;have HJX:=aa Dc;clear Dc HR HP iE hy;gi_wp2;refine bodyPost_ret (results_none rfl _ _ _) rfl ?_;exact⟨⟨_,rfl⟩,.inr ⟨_,((prefix_append_right_inj Li).2 (take_prefix _ _)).trans (prefix_append _ _),HJX.ae⟩⟩):p:=h
theorem zir.Kcs(h:p:=by
 clear hR hJ1 hLk fI hex h7 iZ KK hA;gi_wp2;refine HR.ae.mono ?_;rintro e W3 (⟨rfl,hJ3,hk3⟩|⟨rfl,Dc⟩)
 ·rw[<- oY.ae] at hJ3;have HJ3:=aa hJ3;have HF3:=aa ((Kx.ae.trans (Fr.below (ah wr (.cells #[ag y.op,ag y.v.k,af y.v.n,.string y.v.s,.string y.name,af y.width,.slice y.A y.n y.c,.bool nm] 117)))).trans hk3);clear hJ3 hk3 HR HP iE h72 hy;exact ZdL
 ·rw[<- oY.ae] at Dc;have HJX:=aa Dc;clear Dc HR HP iE h72 hy;gi_wp2;refine bodyPost_ret (results_none rfl _ _ _) rfl ?_;exact⟨⟨_,rfl⟩,.inr ⟨_,(prefix_append_right_inj (Li++Lc)).2 (take_prefix _ _),HJX.ae⟩⟩):p:=h
theorem zcQ.Kaw(h:p:=by
 have jN:=aa Gz;obtain⟨fq,hl2,ub⟩:=hlen;have HN:=aa (And.intro nw (And.intro ng nh));unfold fp at k1;have q0:=k1.cell 0;have x3:=k1.cell 3;have x4:=k1.cell 4;have x5:=k1.cell 5;have x6:=k1.cell 6;simp only[Uaa] at q0 x3 x4 x5 x6;rw[ni] at q0;rw[no] at x6;have HQ:=aa (And.intro q0 (And.intro x3 (And.intro x4 (And.intro x5 x6))));clear ih q1 hF q2 q3 q4 q5 Az TG D9 hz ND Gz ni no nw ng nh x3 x4 x5 x6 k1;refine callsIn_of_wp Tryz.func96 rfl trivial ?_ rfl;simp only[Tryz.ntmps96,size_toArray,length_cons,length_nil,Nat.reduceAdd,Nat.reduceSub,Array.replicate_succ,Array.replicate_zero,push_toArray,append_toArray,nil_append,cons_append];gi_wp2;clear q0;gi_loopw [12] (λ i wr=>∃k:Nat,k<=zi.length/\i=af k/\J (Li.take k) wr/\Fr W wr) (λ i _=>zi.length - (intOf i).toNat);case atStart=>exact⟨0,Nat.zero_le _,rfl,h0,Fr.refl _⟩
 case round=>
  clear h0;obtain⟨k,hk,rfl,hp,hb⟩:=hrel;have HP:=aa hp;have Kx:=aa hb;clear hp hb;by_cases hlt:k < zi.length
  ·obtain⟨b,off,hA,KK,hex,h7⟩:=HF.ae.at_ hlt;obtain⟨nm,iZ⟩:=IH.ae _ (getElem_mem hlt);rw[iZ] at h7;have iE:=hex.fr (jN.ae.trans Kx.ae);have h72:=(jN.ae.trans Kx.ae).cell _ _ h7;have fI:k < Li.length:=by have:=congrArg List.length oC.ae;simp only[length_map] at this;omega
   have hLk:(Li[k]'fI).1.1=zi[k].1:=by have h1:=congrArg (λ l=>l[k]?) oC.ae;simp only[getElem?_map,getElem?_eq_getElem hlt,getElem?_eq_getElem fI,Option.map_some] at h1;injection h1
   have oY:=aa (show Li.take (k+1)=Li.take k++ [Li[k]'fI] by rw[take_add_one,getElem?_eq_getElem fI];rfl);have zP:=aa (show(Li.take k).length <(Li++Lc++Lo).length by rw[length_take,length_append,length_append];omega);generalize Li[k]'fI=x at*;rw[hA];generalize zi[k].1=y at*;unfold ck at iE;have hJ1:=HJ.ae _ _ (wr.alloc (.cells #[ag y.op,ag y.v.k,af y.v.n,.string y.v.s,.string y.name,af y.width,.slice y.A y.n y.c,.string nm] 48)) none HP.ae (World.grownBy_alloc wr _ none) (λ r e=>by cases e);open zio in exact Zhy
  ·have fJ:k=zi.length:=by omega
   subst fJ;have aou:Li.take zi.length=Li:=take_of_length_le (by
    have:=congrArg List.length oC.ae
    simp only[length_map] at this
    omega)
   rw[aou] at HP;have Lw:=Kx.ae;have x3:=Lw.cell _ _ HQ.ae.2.1;have x4:=Lw.cell _ _ HQ.ae.2.2.1;have x5:=Lw.cell _ _ HQ.ae.2.2.2.1;have zT:=aa (Lw.cell _ _ HQ.ae.2.2.2.2);obtain⟨nw,ng,nh⟩:=HN.ae;rw[nw] at x3;rw[ng] at x4;rw[nh] at x5;clear Lw aou hlt nw ng nh;have aov:=aa (And.intro x3 (And.intro x4 x5));gi_wp2;have J6:=aa (ah wr (.cells #[.slice L.w.A yw.length L.w.c,.slice L.g.A yg.length L.g.c,.slice L.h.A yh.length L.h.c] 23));have PX:=aa (aB.new wr 23 #[.slice L.w.A yw.length L.w.c,.slice L.g.A yg.length L.g.c,.slice L.h.A yh.length L.h.c])
   have hRL:RL (wr.alloc (.cells #[.slice L.w.A yw.length L.w.c,.slice L.g.A yg.length L.g.c,.slice L.h.A yh.length L.h.c] 23)) (wr.alloc (.cells #[.slice L.w.A yw.length L.w.c,.slice L.g.A yg.length L.g.c,.slice L.h.A yh.length L.h.c] 23)).heap.size (some ⟨wr.heap.size,0,none⟩) [⟨L.w.A,L.w.c,yw⟩,⟨L.g.A,L.g.c,yg⟩,⟨L.h.A,L.h.c,yh⟩]:=by
    refine⟨wr.heap.size,0,rfl,PX.ae.lt,λ i x hx=>?_⟩;have hb:=(jN.ae.trans Kx.ae).trans (Fr.below J6.ae)
    match i,hx with
    | 0,hx=>simp at hx;subst hx;exact⟨by rw[PX.ae.cell];rfl,(Q3.ae.fr hb).more hb.size⟩
    | 1,hx=>simp at hx;subst hx;exact⟨by rw[PX.ae.cell];rfl,(Q4.ae.fr hb).more hb.size⟩
    | 2,hx=>simp at hx;subst hx;exact⟨by rw[PX.ae.cell];rfl,(Q5.ae.fr hb).more hb.size⟩
    | i+3,hx=>simp at hx
   refine⟨trivial,(callsIn_wide.2 (uz _ 3 _ _ Vb (by simpa [lC] using ub) hRL)).mono ?_⟩;rintro e w5 ⟨v,rfl,hO,ID⟩;obtain⟨lc,hlc⟩:∃lc,lc=yw++(yg++yh):=⟨_,rfl⟩;have dR:aH bF 46 7 w5 (wr.alloc (.cells #[.slice L.w.A yw.length L.w.c,.slice L.g.A yg.length L.g.c,.slice L.h.A yh.length L.h.c] 23)).heap.size v lc:=by rw[hlc];simpa using hO
   obtain⟨CA,cc,rfl,_,hres⟩:=pH dR (S:=Old w5) (λ q k1=>(dR.lt k1).1);have HRE:=aa (show RE w5 w5.heap.size CA lc from hres);have vd:=aa (ai.then J6.ae ID);have Lr:=aa (HJ.ae _ _ _ none HP.ae (nG vd.ae) (λ r e=>by cases e));have HF5:=aa (Kx.ae.trans (Fr.below vd.ae));have HQ7:=aa ((Fr.below vd.ae).cell _ _ zT.ae);have ait:=aa (show Lc.map (λ x=>x.1.1)=lc by rw[Aa.ae,hlc,append_assoc]);have hl4:lc.length<=1000000:=by rw[hlc,<- append_assoc];exact ub
   clear hRL hO dR hres ID hlc HP Kx zT J6 PX vd x3 x4 x5 aov;gi_wp2;gi_loopw [31] (λ i wr2=>∃k:Nat,k<=lc.length/\i=af k/\J (Li++Lc.take k) wr2/\Fr w5 wr2) (λ i _=>lc.length - (intOf i).toNat);case atStart=>exact⟨0,Nat.zero_le _,rfl,by rw[take_zero,append_nil];exact Lr.ae,Fr.refl _⟩
   case round=>
    clear Lr;obtain⟨k,hk,rfl,hp,hb⟩:=hrel;have HP:=aa hp;have Kx:=aa hb;clear hp hb;by_cases hlt:k < lc.length
    ·obtain⟨b,off,hA,KK,hex⟩:=HRE.ae.at_ hlt;have iE:=hex.fr Kx.ae;have fI:k < Lc.length:=by have:=congrArg List.length ait.ae;simp only[length_map] at this;omega
     have hLk:(Lc[k]'fI).1.1=lc[k]:=by have h1:=congrArg (λ l=>l[k]?) ait.ae;simp only[getElem?_map,getElem?_eq_getElem hlt,getElem?_eq_getElem fI,Option.map_some] at h1;injection h1
     have oY:=aa (show Li++Lc.take (k+1)=(Li++Lc.take k)++ [Lc[k]'fI] by rw[take_add_one,getElem?_eq_getElem fI,append_assoc];rfl);have zP:=aa (show(Li++Lc.take k).length <(Li++Lc++Lo).length by rw[length_append,length_take,length_append,length_append];omega);generalize Lc[k]'fI=x at*;subst hA;generalize lc[k]=y at*;unfold ck at iE;have hJ1:=HJ.ae _ _ (wr.alloc (.cells (ay y) 46)) none HP.ae (World.grownBy_alloc wr _ none) (λ r e=>by cases e);open ziq in exact Zhy
    ·have fJ:k=lc.length:=by omega
     subst fJ;have aow:Lc.take lc.length=Lc:=take_of_length_le (by
      have:=congrArg List.length ait.ae
      simp only[length_map] at this
      omega)
     rw[aow] at HP;have x6:=Kx.ae.cell _ _ HQ7.ae;have HF0:=aa (jN.ae.trans (HF5.ae.trans Kx.ae));clear aow hlt HF5 Kx HQ7;gi_wp2;clear x6;gi_loopw [43] (λ i wr2=>∃k:Nat,k<=zo.length/\i=af k/\J (Li++Lc++Lo.take k) wr2/\Fr w0 wr2) (λ i _=>zo.length - (intOf i).toNat);case atStart=>exact⟨0,Nat.zero_le _,rfl,by rw[take_zero,append_nil];exact HP.ae,HF0.ae⟩
     case round=>
      clear HP HF0;obtain⟨k,hk,rfl,hp,hb⟩:=hrel;have HP:=aa hp;have Kx:=aa hb;clear hp hb;by_cases hlt:k < zo.length
      ·obtain⟨b,off,hA,KK,hex,h7⟩:=HFN.ae.at_ hlt;obtain⟨nm,iZ⟩:=Q1.ae _ (getElem_mem hlt);rw[iZ] at h7;have iE:=hex.fr Kx.ae;have h72:=Kx.ae.cell _ _ h7;have fI:k < Lo.length:=by have:=congrArg List.length G6.ae;simp only[length_map] at this;omega
       have hLk:(Lo[k]'fI).1.1=zo[k].1:=by have h1:=congrArg (λ l=>l[k]?) G6.ae;simp only[getElem?_map,getElem?_eq_getElem hlt,getElem?_eq_getElem fI,Option.map_some] at h1;injection h1
       have oY:=aa (show Li++Lc++Lo.take (k+1)=(Li++Lc++Lo.take k)++ [Lo[k]'fI] by rw[take_add_one,getElem?_eq_getElem fI,<- append_assoc];rfl);have zP:=aa (show(Li++Lc++Lo.take k).length <(Li++Lc++Lo).length by simp only[length_append,length_take];omega);generalize Lo[k]'fI=x at*;rw[hA];generalize zo[k].1=y at*;unfold ck at iE;have hJ1:=HJ.ae _ _ (wr.alloc (.cells #[ag y.op,ag y.v.k,af y.v.n,.string y.v.s,.string y.name,af y.width,.slice y.A y.n y.c,.bool nm] 117)) none HP.ae (World.grownBy_alloc wr _ none) (λ r e=>by cases e);open zir in exact Zhy
      ·have fJ:k=zo.length:=by omega
       subst fJ;have aox:Lo.take zo.length=Lo:=take_of_length_le (by
        have:=congrArg List.length G6.ae
        simp only[length_map] at this
        omega)
       rw[aox] at HP;clear aox hlt Kx;gi_wp2;go_end0;exact⟨⟨_,rfl⟩,.inl ⟨_,rfl,HP.ae⟩⟩):p:=h
theorem adf (w0:World)(n:Nat)(hn:1<=n)(l gq:Nat)(q:Qy)(L:QL)(zi zo:List (Ex×Value))(yw yg yh:List Ex)(Li Lc Lo:List (QE w0))
  (hF:RI w0 w0.heap.size L.i.A zi) (q2:RI w0 w0.heap.size L.o.A zo) (q3:RE w0 w0.heap.size L.w.A yw) (q4:RE w0 w0.heap.size L.g.A yg) (q5:RE w0 w0.heap.size L.h.A yh)
  (ni:L.i.n=zi.length) (no:L.o.n=zo.length) (nw:L.w.n=yw.length) (ng:L.g.n=yg.length) (nh:L.h.n=yh.length)
  (Az:Li.map (λ x=>x.1.1)=zi.map (·.1)) (TG:Lo.map (λ x=>x.1.1)=zo.map (·.1)) (D9:Lc.map (λ x=>x.1.1)=yw++yg++yh) (ih:∀z∈zi,∃s,z.2=.string s) (q1:∀z∈zo,∃s,z.2=.bool s) (hlen:zi.length<=1000000/\zo.length<=1000000/\(yw++yg++yh).length<=1000000)
  (J Jx:List (QE w0)->World->Prop) (W:World) (hz:AbidesFrom W.heap.size J)
  (ND:∀pre x W1,J pre W1->pre.length <(Li++Lc++Lo).length->YieldAt Fence.wide (n - 1) Tryz.prog l (QI x) W1 λ e W'=>(e=.returned (.bool true)/\J (pre++ [x]) W'/\Fr W1 W')\/(e=.returned (.bool false)/\Jx (pre++ [x]) W'))
  (k1:aB W gq 27 (fp q L)) (Gz:Fr w0 W) (h0:J [] W):
  CallsIn Fence.wide n Tryz.prog 96 #[.func (.yield l) #[] #[],.pointer (some ⟨gq,0,none⟩)] W λ e W'=>(∃v,e=.returned v)/\((∃ys,ys=Li++Lc++Lo/\J ys W')\/(∃pre,pre <+: Li++Lc++Lo/\Jx pre W')):=by
 open zcQ in exact Zbd
def PR (u v:Value)(r:Rest):Nat->Value
 | 0=>u | 1=>v | 2=>r.h | 3=>r.i | 4=>r.j | _=>r.o
def sU (w:World)(gp:Nat)(R:Nat->Value)(b:Nat):Prop:=b < w.heap.size/\b≠gp/\∀i < 6,(R i).ownBlock≠some b
structure PlF (w0:World) (gp g2:Nat) (qc:Array Value) (g4 g5 D:Nat) (R:Nat->Value) (w:World):Prop where
 low:w0.heap.size<=gp
 lt:gp < w.heap.size
 base:aj w0 w
 rows:∀i < 6,∀q,(R i).ownBlock=some q->w0.heap.size<=q/\q < w.heap.size/\q≠gp
 ap:∀i < 6,∀j < 6,i≠j->∀q,(R i).ownBlock=some q->(R j).ownBlock≠some q
 k2:sU w gp R g2
 k4:sU w gp R g4
 k5:sU w gp R g5
 kD:sU w gp R D
 new:w0.heap.size<=g4/\w0.heap.size<=g5/\g4≠g5/\g4≠D/\g5≠D
 dd:w.heap[D]?=some (.deferred (some []))
 z2:aB w g2 27 qc
 z4:aB w g4 72 #[.pointer none]
 z5:aB w g5 34 #[af 0]
structure Dd (w0:World) (gp:Nat) (R R':Nat->Value) (T:Nat->Prop) (w w':World):Prop where
 os:w'.os=w.os
 tape:w'.tape=w.tape
 output:w'.output=w.output
 size:w.heap.size<=w'.heap.size
 far:∀b,b < w.heap.size->b≠gp->(∀i < 6,T i->(R i).ownBlock≠some b)->w'.heap[b]?=w.heap[b]?
 same:∀i < 6,¬T i->R' i=R i
 mv:∀i < 6,T i->Mv w (R i) (R' i)
 one:∀i < 6,∀j < 6,T i->T j->i≠j->∀q,(R' i).ownBlock=some q->(R' j).ownBlock≠some q
 rows:∀i < 6,T i->∀q,(R' i).ownBlock=some q->w0.heap.size<=q/\q < w'.heap.size/\q≠gp
section
variable {w0 w w':World} {gp g2 g4 g5 D:Nat} {qc:Array Value} {R R':Nat->Value} {T:Nat->Prop}
theorem Dd.kp (s:Dd w0 gp R R' T w w') {b:Nat}(h:sU w gp R b):sU w' gp R' b:=
 ⟨Nat.lt_of_lt_of_le h.1 s.size,h.2.1,λ i hi=>by
   by_cases hT:T i
   ·exact(s.mv i hi hT).ne h.1 (h.2.2 i hi)
   ·rw[s.same i hi hT];exact h.2.2 i hi⟩
theorem Dd.keep (s:Dd w0 gp R R' T w w') {b:Nat}(h:sU w gp R b):w'.heap[b]?=w.heap[b]?:=s.far b h.1 h.2.1 λ i hi _=>h.2.2 i hi
theorem PlF.step (h:PlF w0 gp g2 qc g4 g5 D R w)(s:Dd w0 gp R R' T w w'):PlF w0 gp g2 qc g4 g5 D R' w':=by
 have hr:∀i < 6,∀q,(R' i).ownBlock=some q->w0.heap.size<=q/\q < w'.heap.size/\q≠gp:=λ i hi q hq=>by
  by_cases hT:T i
  ·exact s.rows i hi hT q hq
  ·rw[s.same i hi hT] at hq;have:=h.rows i hi q hq;exact⟨this.1,Nat.lt_of_lt_of_le this.2.1 s.size,this.2.2⟩
 refine⟨h.low,Nat.lt_of_lt_of_le h.lt s.size,?_,hr,?_,s.kp h.k2,s.kp h.k4,s.kp h.k5,s.kp h.kD,h.new,(s.keep h.kD).trans h.dd,(s.keep h.k2).trans h.z2,(s.keep h.k4).trans h.z4,(s.keep h.k5).trans h.z5⟩
 ·exact⟨s.os.trans h.base.os,s.tape.trans h.base.tape,s.output.trans h.base.output,Nat.le_trans h.base.size s.size,λ k hk=>(s.far k (Nat.lt_of_lt_of_le hk h.base.size) (by have:=h.low;omega) λ i hi _ e=>by have:=(h.rows i hi k e).1;omega).trans (h.base.block k hk)⟩
 ·intro i hi j hj nP q hq lq;by_cases hT:T i <;> by_cases hU:T j
  ·exact s.one i hi j hj hT hU nP q hq lq
  ·rw[s.same j hj hU] at lq;have hl:=(h.rows j hj q lq).2.1;rcases s.mv i hi hT with h1 | h1
   ·exact h.ap i hi j hj nP q (h1▸hq) lq
   ·have:=h1 q hq;omega
  ·rw[s.same i hi hT] at hq;have hl:=(h.rows i hi q hq).2.1;rcases s.mv j hj hU with h1 | h1
   ·exact h.ap i hi j hj nP q hq (h1▸lq)
   ·have:=h1 q lq;omega
  ·rw[s.same i hi hT] at hq;rw[s.same j hj hU] at lq;exact h.ap i hi j hj nP q hq lq
theorem Dd.own {α:Type} {f:α->List Value} {e:TypeId} {size base:Nat} {l:List α}(s:Dd w0 gp R R' T w w')(h:PlF w0 gp g2 qc g4 g5 D R w) {i:Nat}(hi:i < 6)(hT:¬T i)(ho:aH f e size w base (R i) l):aH f e size w' base (R' i) l:=by
 rw[s.same i hi hT];refine ho.keep λ g hg=>s.far g (h.rows i hi g hg).2.1 (h.rows i hi g hg).2.2 λ j hj hU=>h.ap i hi j hj (λ e=>hT (e▸hU)) g hg
theorem Dd.trees (s:Dd w0 gp R R' T w w') {ts:List Tr} {ys:List Ex}(h:Tr.aO w (sU w gp R) ts ys):Tr.aO w' (sU w' gp R') ts ys:=Tr.aO.keep (λ b hb=>⟨λ o=>bH (s.keep hb) o,s.kp hb⟩) ts ys h
theorem Dd.later (hb:aj w w'):Dd w0 gp R R (λ _=>False) w w':=⟨hb.os,hb.tape,hb.output,hb.size,λ b h1 _ _=>hb.block b h1,λ _ _ _=>rfl,λ _ _ h=>h.elim,λ _ _ _ _ h=>h.elim,λ _ _ h=>h.elim⟩
end
structure cP (c:PC) (w0:World) (gp g2:Nat) (qc:Array Value) (g4 g5 D:Nat) (r:Rest) (w:World) (u v:Value) (ya:List Ex) (s:dz) (hd:List aX) (yi yh yo:List Ex) (ti th eD:List Tr):Prop where
 f:PlF w0 gp g2 qc g4 g5 D (PR u v r) w
 blk:aB w gp 81 (c.cells r u v)
 o0:aH bF 46 7 w w0.heap.size u ya
 o1:aH aS 113 2 w w0.heap.size v s.aL
 o2:aH aS 113 2 w w0.heap.size r.h hd
 o3:aH bF 46 7 w w0.heap.size r.i yi
 o4:aH bF 46 7 w w0.heap.size r.j yh
 o5:aH bF 46 7 w w0.heap.size r.o yo
 aF:Tr.aO w0 (Old w0) s.aF ya
 t3:Tr.aO w (sU w gp (PR u v r)) ti yi
 t4:Tr.aO w (sU w gp (PR u v r)) th yh
 t5:Tr.aO w (sU w gp (PR u v r)) eD yo
section
variable {c:PC} {w0 w w':World} {gp g2 g4 g5 D:Nat} {qc:Array Value} {r:Rest} {u v u' v':Value} {ya pZ:List Ex} {s s':dz} {hd:List aX} {yi yh yo:List Ex} {ti th eD:List Tr}
theorem cP.ps (h:cP c w0 gp g2 qc g4 g5 D r w u v ya s hd yi yh yo ti th eD):eH c w0 gp r w u v ya s:=⟨h.f.low,h.f.base,h.blk,h.o0,h.o1,h.aF⟩
theorem cP.later (h:cP c w0 gp g2 qc g4 g5 D r w u v ya s hd yi yh yo ti th eD)(hb:aj w w'):cP c w0 gp g2 qc g4 g5 D r w' u v ya s hd yi yh yo ti th eD:=
 have p:=Dd.later (w0:=w0) (gp:=gp) (R:=PR u v r) hb
 ⟨h.f.step p,h.blk.later hb,h.o0.later hb,h.o1.later hb,h.o2.later hb,h.o3.later hb,h.o4.later hb,h.o5.later hb,h.aF,p.trees h.t3,p.trees h.t4,p.trees h.t5⟩
theorem cP.kp2 (h:cP c w0 gp g2 qc g4 g5 D r w u v ya s hd yi yh yo ti th eD) {b:Nat}(hb:sU w gp (PR u v r) b):Kp w gp [u,v] b:=
 eu.2 ⟨hb.1,hb.2.1,hb.2.2 0 Tq,hb.2.2 1 Tq⟩
theorem cP.stp (h:cP c w0 gp g2 qc g4 g5 D r w u v ya s hd yi yh yo ti th eD)(hs:gM gp w u v w' u' v')(hp:eH c w0 gp r w' u' v' pZ s'):Dd w0 gp (PR u v r) (PR u' v' r) (λ i=>i < 2) w w':=by
 have hblk:=hp.blk;have hn:∀q,u'.ownBlock=some q->v'.ownBlock≠some q:=λ q h1 h2=>by obtain⟨_,_,_,e1⟩:=hp.kR.lt h1;obtain⟨_,_,_,e2⟩:=hp.dK.lt h2;rw[e1] at e2;injection e2 with e2;injection e2 with _ e2 _;exact absurd e2 WC
 refine⟨hs.os,hs.tape,hs.output,hs.size,λ b h1 h2 h3=>hs.block b (eu.2 ⟨h1,h2,h3 0 Tq Tq,h3 1 Tq Tq⟩),?_,?_,?_,?_⟩
 ·intro i hi hT
  match i with
  | 0=>omega
  | 1=>omega
  | 2 | 3 | 4=>rfl
  | n+5=>rfl
 ·intro i hi hT
  match i with
  | 0=>exact hs.mu
  | 1=>exact hs.mv
  | n+2=>omega
 ·intro i hi j hj hT hU nP q h1 h2
  match i,j with
  | 0,1=>exact hn q h1 h2
  | 1,0=>exact hn q h2 h1
  | 0,0=>exact nP rfl
  | 1,1=>exact nP rfl
  | n+2,_=>omega
  | 0,n+2=>omega
  | 1,n+2=>omega
 ·intro i hi hT q hq
  match i with
  | 0=>exact⟨(hp.kR.lt hq).2.1,(hp.kR.lt hq).1,λ e=>hp.kR.other hblk WC (by rw[show u'.ownBlock=some q from hq,e])⟩
  | 1=>exact⟨(hp.dK.lt hq).2.1,(hp.dK.lt hq).1,λ e=>hp.dK.other hblk WC (by rw[show v'.ownBlock=some q from hq,e])⟩
  | n+2=>omega
theorem cP.call (h:cP c w0 gp g2 qc g4 g5 D r w u v ya s hd yi yh yo ti th eD)(hs:gM gp w u v w' u' v')(hp:eH c w0 gp r w' u' v' pZ s'):cP c w0 gp g2 qc g4 g5 D r w' u' v' pZ s' hd yi yh yo ti th eD:=by have p:=h.stp hs hp;exact⟨h.f.step p,hp.blk,hp.kR,hp.dK,p.own h.f (i:=2) Tq Tq h.o2,p.own h.f (i:=3) Tq Tq h.o3,p.own h.f (i:=4) Tq Tq h.o4,p.own h.f (i:=5) Tq Tq h.o5,hp.aF,p.trees h.t3,p.trees h.t4,p.trees h.t5⟩
theorem cP.tree (h:cP c w0 gp g2 qc g4 g5 D r w u v ya s hd yi yh yo ti th eD)(hs:gM gp w u v w' u' v')(hp:eH c w0 gp r w' u' v' pZ s') {t:Tr} {y:Ex}(ht:t.at_ w' (λ b=>(b < w0.heap.size\/w.heap.size<=b)/\Kp w' gp [u',v'] b) y):t.at_ w' (sU w' gp (PR u' v' r)) y:=by have p:=(h.call hs hp).f;refine Tr.at_.keep (λ b hb=>⟨λ _=>rfl,hb.2.1,hb.2.2.1,λ i hi e=>?_⟩) t y ht;exact Zcb
theorem cP.aoy (h:cP c w0 gp g2 qc g4 g5 D r w u v ya s hd yi yh yo ti th eD) {t:Tr} {y:Ex} {a:Value}(hl:LaB gp 14 w0.heap.size w (c.cells r u v) r.j yh y a true true w')(ht:t.at_ w (sU w gp (PR u v r)) y):
  cP c w0 gp g2 qc g4 g5 D { r with j:=a } w' u v ya s hd yi (yh++ [y]) yo ti (th++ [t]) eD:=by
 have ho:aH bF 46 7 w' w0.heap.size a (yh++ [y]):=hl.own;obtain⟨q0,c0,e0,hq0⟩:=hl.row
 have p:Dd w0 gp (PR u v r) (PR u v { r with j:=a }) (λ i=>i=4) w w':=by
  refine⟨hl.os,hl.tape,hl.output,hl.size,λ b h1 h2 h3=>hl.far b h1 h2 (h3 4 Tq rfl),?_,?_,Zfo,ZdR⟩
  ·intro i hi hT
   match i with
   | 0 | 1 | 2 | 3=>rfl
   | 4=>exact absurd rfl hT
   | 5=>rfl
   | n+6=>omega
  ·intro i hi hT;subst hT;exact hl.mv
 have hT:=p.trees (ts:=[t]) (ys:=[y]) (Tr.fO ht);refine⟨h.f.step p,?_,p.own h.f (i:=0) Tq Tq h.o0,p.own h.f (i:=1) Tq Tq h.o1,p.own h.f (i:=2) Tq Tq h.o2,p.own h.f (i:=3) Tq Tq h.o3,ho,p.own h.f (i:=5) Tq Tq h.o5,h.aF,p.trees h.t3,Tr.all_append (p.trees h.t4) hT,p.trees h.t5⟩;exact hl.blk
theorem cP.aoz (h:cP c w0 gp g2 qc g4 g5 D r w u v ya s hd yi yh yo ti th eD) {t:Tr} {y:Ex} {a:Value}(hl:LaB gp 15 w0.heap.size w (c.cells r u v) r.o yo y a true true w')(ht:t.at_ w (sU w gp (PR u v r)) y):
  cP c w0 gp g2 qc g4 g5 D { r with o:=a } w' u v ya s hd yi yh (yo++ [y]) ti th (eD++ [t]):=by
 have ho:aH bF 46 7 w' w0.heap.size a (yo++ [y]):=hl.own;obtain⟨q0,c0,e0,hq0⟩:=hl.row
 have p:Dd w0 gp (PR u v r) (PR u v { r with o:=a }) (λ i=>i=5) w w':=by
  refine⟨hl.os,hl.tape,hl.output,hl.size,λ b h1 h2 h3=>hl.far b h1 h2 (h3 5 Tq rfl),?_,?_,Zfo,ZdR⟩
  ·intro i hi hT
   match i with
   | 0 | 1 | 2 | 3=>rfl
   | 4=>rfl
   | 5=>exact absurd rfl hT
   | n+6=>omega
  ·intro i hi hT;subst hT;exact hl.mv
 have hT:=p.trees (ts:=[t]) (ys:=[y]) (Tr.fO ht);refine⟨h.f.step p,?_,p.own h.f (i:=0) Tq Tq h.o0,p.own h.f (i:=1) Tq Tq h.o1,p.own h.f (i:=2) Tq Tq h.o2,p.own h.f (i:=3) Tq Tq h.o3,p.own h.f (i:=4) Tq Tq h.o4,ho,h.aF,p.trees h.t3,p.trees h.t4,Tr.all_append (p.trees h.t5) hT⟩;exact hl.blk
end
def fA:Code->Nat->Code
 | .seq _ b,n+1=>fA b n
 | c,_=>c
noncomputable def bK:Code:=Tryz.f28.body.getD .skip
def bS (f:Nat->Value):Array Value:= #[f 0,f 1,f 2,f 3,f 4,f 5,f 6,f 7,f 8,f 9,f 10,f 11,f 12,f 13,f 14,f 15,f 16,f 17,f 18,f 19,f 20,f 21,f 22,f 23,f 24,f 25,f 26,f 27,f 28,f 29,f 30,f 31,f 32,f 33,f 34,f 35,f 36,f 37,f 38,f 39,f 40,f 41,f 42,f 43,f 44,f 45,f 46,f 47,f 48,f 49,f 50,f 51,f 52,f 53,f 54,f 55,f 56,f 57,f 58,f 59,f 60,f 61,f 62,f 63,f 64,f 65,f 66,f 67,f 68,f 69,f 70,f 71,f 72,f 73,f 74,f 75,f 76,f 77,f 78,f 79,f 80,f 81,f 82,f 83,f 84,f 85,f 86,f 87,f 88,f 89,f 90,f 91,f 92,f 93,f 94,f 95,f 96,f 97,f 98,f 99,f 100,f 101,f 102,f 103,f 104,f 105,f 106,f 107,f 108,f 109,f 110,f 111,f 112,f 113,f 114,f 115,f 116,f 117,f 118,f 119,f 120,f 121,f 122,f 123,f 124,f 125,f 126,f 127,f 128,f 129,f 130,f 131,f 132,f 133,f 134,f 135,f 136,f 137,f 138,f 139,f 140,f 141,f 142,f 143,f 144,f 145,f 146,f 147,f 148,f 149,f 150,f 151,f 152,f 153,f 154,f 155,f 156,f 157,f 158,f 159,f 160,f 161,f 162,f 163,f 164,f 165,f 166,f 167,f 168,f 169,f 170,f 171,f 172,f 173,f 174,f 175,f 176,f 177,f 178,f 179,f 180,f 181,f 182,f 183,f 184,f 185,f 186,f 187,f 188,f 189,f 190,f 191,f 192,f 193,f 194,f 195,f 196,f 197,f 198,f 199,f 200,f 201,f 202,f 203,f 204,f 205,f 206,f 207,f 208,f 209,f 210,f 211,f 212,f 213,f 214,f 215,f 216,f 217,f 218,f 219,f 220,f 221,f 222,f 223,f 224,f 225,f 226,f 227,f 228,f 229,f 230,f 231,f 232,f 233,f 234,f 235,f 236,f 237,f 238,f 239,f 240,f 241,f 242,f 243,f 244,f 245,f 246,f 247,f 248,f 249,f 250,f 251]
theorem kU (T:Array Value)(h:T.size=252):∃f:Nat->Value,T=bS f:=by
 refine⟨λ i=>T.getD i undef,?_⟩;apply Array.ext
 ·rw[h];rfl
 ·intro i h1 h2
  have e:∀(f:Nat->Value) (i:Nat) (hi:i <(bS f).size),(bS f)[i]=f i:=by
   intro f i hi;have h3:(bS f).toList=(List.range 252).map f:=rfl;have h4:(bS f)[i]=(bS f).toList[i]' Tau:=by simp
   exact ZfN
  rw[e];simp[Array.getD,h1]
noncomputable def gU:Code:=Tryz.f33.body.getD .skip
def frg (f:Nat->Value):Array Value:= #[f 0,f 1,f 2,f 3,f 4,f 5,f 6,f 7,f 8,f 9,f 10,f 11,f 12,f 13,f 14,f 15,f 16,f 17,f 18,f 19,f 20,f 21,f 22,f 23,f 24,f 25,f 26,f 27,f 28,f 29,f 30,f 31,f 32,f 33,f 34,f 35,f 36,f 37,f 38,f 39,f 40,f 41,f 42,f 43,f 44,f 45,f 46,f 47,f 48,f 49,f 50,f 51,f 52,f 53,f 54,f 55,f 56,f 57,f 58,f 59,f 60,f 61,f 62,f 63,f 64,f 65,f 66,f 67,f 68,f 69,f 70,f 71,f 72,f 73,f 74,f 75,f 76,f 77,f 78,f 79,f 80,f 81,f 82,f 83,f 84,f 85,f 86,f 87,f 88,f 89,f 90,f 91,f 92,f 93,f 94,f 95,f 96,f 97,f 98,f 99,f 100,f 101,f 102,f 103,f 104,f 105,f 106,f 107,f 108,f 109,f 110,f 111,f 112,f 113,f 114,f 115,f 116,f 117,f 118,f 119,f 120,f 121,f 122,f 123,f 124,f 125,f 126,f 127,f 128,f 129,f 130,f 131,f 132,f 133,f 134,f 135,f 136,f 137,f 138,f 139,f 140,f 141,f 142,f 143,f 144,f 145,f 146,f 147,f 148,f 149,f 150,f 151,f 152,f 153,f 154,f 155,f 156,f 157,f 158,f 159,f 160,f 161,f 162,f 163]
theorem JC (T:Array Value)(h:T.size=164):∃f:Nat->Value,T=frg f:=by
 refine⟨λ i=>T.getD i undef,?_⟩;apply Array.ext
 ·rw[h];rfl
 ·intro i h1 h2
  have e:∀(f:Nat->Value) (i:Nat) (hi:i <(frg f).size),(frg f)[i]=f i:=by
   intro f i hi;have h3:(frg f).toList=(List.range 164).map f:=rfl;have h4:(frg f)[i]=(frg f).toList[i]' Tau:=by simp
   exact ZfN
  rw[e];simp[Array.getD,h1]
noncomputable def qf (xs:List gH):Int:=dh (xs.map λ x=>cM (x.ss.map gF))
noncomputable def EJ (xs:List gH):List (List Val):=xs.map λ x=>x.key++(x.ss.map gF).map (·.1)
variable{w1 w2:World}{g:Nat}{o:Option Nat}
theorem pK(h:w.grownBy w1 (some g))(hg:w1.grownBy w2 o)(hB:w.heap.size<=B)(ho:∀q,o=some q->B<=q):w.grownBy w2 (some g):=
 ⟨hg.os.trans h.os,hg.tape.trans h.tape,hg.output.trans h.output,Nat.le_trans h.size hg.size,λ k hk hn=>(hg.block k (Nat.lt_of_lt_of_le hk h.size) λ e=>by have:=ho k e.symm;omega).trans (h.block k hk hn)⟩
variable{xs:List gH}{k:Nat}
theorem VV(h:k < xs.length):qf (xs.take (k+1))=nx (qf (xs.take k)) (cM (xs[k].ss.map gF)):=by unfold qf;rw[take_add_one,getElem?_eq_getElem h,map_append];exact qV _ _
variable{e:Int}
theorem Tu{b:Int}(h:nx b e=0):b=0/\e=0:=by unfold nx at h;split at h <;> omega
theorem zgp.KbG(h:p:=by
 clear HV;go_upto_region 34 with fail;have Lw:=ah w3 (.cells (aD v) 44);have Ly:=aB.new w3 44 (aD v);have mF:=aa (HV6.ae.later Lw);have JF:=aa (NS.ae.later Lw);have Cu:=aa (show wo.grownBy _ (some gb)from aY xe.ae (aR Lw));have Gl:=aa Ly;have hbase:=Cu.ae.size;have Ig:(x.key++((x.ss.take m).map gF).map (·.1)).length<=200000:=by have:=HKK.ae;simp only[length_append,length_map,length_take];omega
 have qA:=aa (show x.key++((x.ss.take (m+1)).map gF).map (·.1)=x.key++((x.ss.take m).map gF).map (·.1)++ [v] by rw[oY.ae,map_append,map_append,HVE.ae,append_assoc];rfl);generalize x.key++((x.ss.take m).map gF).map (·.1)=L at*;clear Lw Ly;go_wp2_with (first
  |(at_builtin
    refine aU rfl (.tmp 151) (.tmp 153) 38 rfl _ 32 Tryz.underlying38 lU rfl Tq v rfl TaW rfl mF.ae w3.heap.size rfl Gl.ae Tq Tq hbase ?_
    intro v4 w4 o4 g4
    have O4:=aa o4
    have B4:=aa (JF.ae.ky mF.ae WC g4)
    have XO:=aa (pK Cu.ae g4 (Nat.le_refl _) (λ q hq=>(mF.ae.lt hq).2.1))
    clear o4 g4))
 go_roundw
 case rel=>
  refine⟨m+1,Ez,by go_num,?_,?_,B4.ae,XO.ae⟩
  ·rw[qA.ae];exact O4.ae
  ·intro a ha;rw[oY.ae,map_append] at ha;rcases List.mem_append.1 ha with ha | ha
   ·exact Kg.ae a ha
   ·simp only[map_cons,map_nil,mem_singleton] at ha;rw[ha,<- Ox.ae]
 case measure=>exact Za2):p:=h
theorem zhS.Kcd(h:p:=by have HO5:=IH.ae.later hL;have HM5:=Q1.ae.later hL;have VF:w.grownBy W3 (some gb):=aY Q5.ae (aR hL);go_wp2_with fail;exact HHA.ae _ _ u18 cl rfl rfl rfl HO5 HM5 Q4.ae VF):p:=h
theorem adg (xs:List gH)(B:Nat)(LA:Option Addr)(lc gb:Nat)(T:Array Value)(hT:T.size=164)(h9:T.getD 9 undef=aw gb)(h10:T.getD 10 undef=.slice LA xs.length lc)(d:List Deferred)(w:World)(Q:Exit->Act->World->Prop)
  (hgb:aB w gb 84 #[af 0]) (hL:Mn w w.heap.size LA (xs.map gH.g)) (hLg:∀a,LA=some a->a.block≠gb) (Ly:kz w B xs) (hn:xs.length<=1000000)
  (hk:∀x∈xs,x.key.length<=1000/\x.ss.length<=100000) (aZ:∀x∈xs,∀s∈x.ss,s.Ok/\∃v e,gI s v e)
  (h:∀a W ov cl,a.defers=d->a.tmps.getD 4 undef=ov->a.tmps.getD 5 undef=af (qf xs)->aH bX 38 1 W w.heap.size ov cl->Mine W w.heap.size cl->(qf xs=0->cl.map (·.l)=EJ xs)->w.grownBy W (some gb)->Q .ret a W):
  (fA gU 8).wp Tryz.prog Q { tmps:=T,defers:=d } w:=by
 obtain⟨f,rfl⟩:=JC T hT;have h9:f 9=_:=h9;have h10:f 10=_:=h10;simp only[frg,h9,h10];clear h9 h10;clear h9 h10 hT;have HH:=aa h;have yQ:=aa hgb;have HL:=aa hL;have L5:=aa hLg;have HG:=aa Ly;have HK:=aa hk;have iV:=aa aZ;clear h hgb hL hLg Ly hk aZ;simp only[gU,fA,Tryz.f33,Option.getD_some];go_wp2_with fail;go_loopw [18,125] (λ ov i wr=>∃(k:Nat) (cl:List aW),k<=xs.length/\i=af k/\aH bX 38 1 wr w.heap.size ov cl/\Mine wr w.heap.size cl/\cl.length=k/\aB wr gb 84 #[af (qf (xs.take k))]/\(qf (xs.take k)=0->cl.map (·.l)=EJ (xs.take k))/\w.grownBy wr (some gb)) (λ _ i _=>xs.length - (intOf i).toNat);case atStart=>exact⟨0,[],Nat.zero_le _,rfl,aH.nil,(λ r hr=>by cases hr),rfl,yQ.ae,(λ _=>rfl),World.grownBy.refl w _⟩
 case round=>
  obtain⟨k,cl,hkx,rfl,ih,q1,q2,q3,q4,q5⟩:=hrel;have IH:=aa ih;have Q1:=aa q1;have HFN:=aa q2;have Q3:=aa q3;have Q4:=aa q4;have Q5:=aa q5;clear ih q1 q2 q3 q4 q5;by_cases hlt:k < xs.length
  ·obtain⟨lb,hA,Ed,hc0⟩:=HL.ae.at_ (k:=k) (by rw[length_map];exact hlt);have XH:=L5.ae _ hA;have hc1:=(bH (Q5.ae.block lb Ed (λ e=>by injection e with e;exact XH e)) k).trans hc0;rw[getElem_map] at hc1;have hGw:=HG.ae.grown Q5.ae yQ.ae WC WC WC WC;have hx:=hGw.at_ xs[k] (getElem_mem hlt);have fJ:=HK.ae xs[k] (getElem_mem hlt);have HOX:=aa (iV.ae xs[k] (getElem_mem hlt));have PO:=aa (VV hlt);have NV:=aa (show EJ (xs.take (k+1))=EJ (xs.take k)++ [xs[k].key++(xs[k].ss.map gF).map (·.1)] by unfold EJ;rw[take_add_one,getElem?_eq_getElem hlt,map_append];rfl);generalize xs[k]=x at*;generalize qf (xs.take k)=FO at*;have KK:=aa hx;have HKK:=aa fJ;have ek:=hx.blk;obtain⟨SA,sc,De,hsr⟩:=eh (f:=df) (size:=1) (λ _=>rfl) hx.own;rw[De] at ek;have z0:=ek.cell 0;have z1:=ek.cell 1;simp only[Uaa] at z0 z1;have HSR:=aa hsr;have HSV:=aa De;rw[hA];clear hc0 Ed XH hA hGw hx fJ De hsr ek;go_wp2_with fail;refine(Cv x.KA x.kc x.key wr KK.ae.key.rv HKK.ae.1).mono ?_;rintro e w1 ⟨rv,rfl,uY,b1⟩;have Bi:=aa uY;have Kx:=aa (show wr.grownBy w1 (some gb)from aR b1);have fG:=aa (Q3.ae.later b1);have y1:=(b1.cell (p:=⟨x.g,1,none⟩) KK.ae.blk.lt).trans z1;clear uY b1 z0 z1 hc1;go_wp2_with fail;clear y1;generalize wr=wo at*;go_loopw [21,139] (λ rv j wq=>∃m:Nat,m<=x.ss.length/\j=af m/\aH aV 44 3 wq wo.heap.size rv (x.key++((x.ss.take m).map gF).map (·.1))/\(∀a∈(x.ss.take m).map gF,a.2=0)/\aB wq gb 84 #[af FO]/\wo.grownBy wq (some gb)) (λ _ j _=>x.ss.length - (intOf j).toNat)
   case atStart=>exact⟨0,Nat.zero_le _,rfl,by simpa using Bi.ae,(λ a ha=>by simp at ha),fG.ae,Kx.ae⟩
   case round=>
    clear Bi Kx fG;obtain⟨m,hm,rfl,kX,hg4,oB,HZ⟩:=hrel;have HI:=aa kX;have Kg:=aa hg4;have HX:=aa oB;have uX:=aa HZ;clear kX hg4 oB HZ;have Tf:=KK.ae.qz.len;have hm9:m<=100000:=by have:=HKK.ae.2;omega
    have hm8:x.ss.length<=100000:=HKK.ae.2;by_cases Ez:m < x.ss.length
    ·obtain⟨g2,Ar,hg2,hc2⟩:∃g2,SA=some ⟨g2,0,none⟩/\g2 < wo.heap.size/\wo.cell? ⟨g2,m,none⟩=some (.pointer (some ⟨x.qs[m]' TaT,0,none⟩)):=by
      rcases HSR.ae with h0 |⟨g2,e1,e2,e3⟩
      ·have:x.qs.length=0:=by rw[h0];rfl
       omega
      ·refine⟨g2,e1,e2,?_⟩;have:=e3 m (x.qs[m]' TaT) 0 _ (getElem?_eq_getElem _) Tq rfl;exact ZeZ
     have hx2:=((kz.mk (λ y hy=>by rw[mem_singleton] at hy;rw[hy];exact KK.ae) (pairwise_singleton _ _):kz wo B [x]).grown uX.ae Q3.ae WC WC WC WC).at_ x (mem_singleton_self x)
     have aoA:g2≠gb:=by
      have qK:x.sv.ownBlock=some g2:=by rw[HSV.ae,fC,Ar];rfl
      obtain⟨_,_,cur,xZ⟩:=KK.ae.own.lt qK;exact kQ (show aB wo g2 145 cur from xZ) Q3.ae WC
     have hc3:=(bH (uX.ae.block g2 hg2 (λ e=>by injection e with e;exact aoA e)) m).trans hc2;have hst:=hx2.qz.at_ m (x.qs[m]' TaT) x.ss[m] (getElem?_eq_getElem _) (getElem?_eq_getElem _);obtain⟨L6,hsa⟩:=HOX.ae x.ss[m] (getElem_mem Ez);have aoC:=IC hsa;have oY:=aa (show x.ss.take (m+1)=x.ss.take m++ [x.ss[m]] by rw[take_add_one,getElem?_eq_getElem Ez];rfl);have HFB:=aa (show(gF x.ss[m]).2≠0->cM (x.ss.map gF)=(gF x.ss[m]).2 from λ hne=>by
      have e1:x.ss.map gF=(x.ss.take m).map gF++gF x.ss[m]::(x.ss.drop (m+1)).map gF:=by
       rw[<- map_cons,<- map_append,<- drop_eq_getElem_cons Ez,take_append_drop]
      rw[e1]
      exact I4 Kg.ae hne)
     generalize x.ss[m]=st at*;generalize x.qs[m]' TaT=q at*;rw[Ar] at*;have adh:=aa (OS q st (gF st).1 (gF st).2 wr hst L6 aoC);clear hg2 hc2 hx2 aoA hst L6 hsa aoC Ar;obtain⟨v,hv⟩:∃v,v=(gF st).1:=⟨_,rfl⟩;obtain⟨er,her⟩:∃er,er=(gF st).2:=⟨_,rfl⟩;rw[<- hv,<- her] at adh;rw[<- her] at HFB;have HVE:=aa hv;have Ox:=aa her;clear hv her;unfold bQ at adh;rw[Tf];go_wp2_with fail;clear hc3;refine adh.ae.mono ?_;rintro e w2 ⟨rfl,b2⟩;have L8:=aa (HX.ae.later b2);have HV4:=aa (HI.ae.later b2);have LE:=aa (show wo.grownBy w2 (some gb)from aY uX.ae (aR b2));clear b2 HX HI uX adh;go_upto_region 33 with fail;have bN:=ah w2 (.cells (aD v) 44);have hG:=aB.new w2 44 (aD v);have vd:=aa (L8.ae.later bN);have HV5:=aa (HV4.ae.later bN);have VF:=aa (show wo.grownBy _ (some gb)from aY LE.ae (aR bN));generalize hW:w2.alloc (.cells (aD v) 44)=W at*;generalize w2.heap.size=gn at*;clear hW bN L8 HV4 LE;go_wp2_with fail;refine(vP gb FO er _ vd.ae).mono ?_;rintro e w3 ⟨rfl,hb3,HZ⟩;have NS:=aa hb3;have xe:=aa (show wo.grownBy w3 (some gb)from aY VF.ae HZ);have HV6:=aa (HV5.ae.grown HZ (HV5.ae.other vd.ae WC));have HV:=hG.grown HZ (λ e=>by injection e with e;exact kQ hG vd.ae WC e);clear hb3 HZ vd HV5 VF hG;by_cases he:er=0
     ·subst he;have NS:=aa (show aB w3 gb 84 #[af FO] by have h6:=NS.ae;rwa [BP] at h6);open zgp in exact Zet
     ·have t1:(er==0)=false:=by simp[he]
      have ava:=aa he;have mK:=aa (HFB.ae he);have HBc:=NS;have HVc:=HV6;have HGc:=xe;generalize x.key++((x.ss.take m).map gF).map (·.1)=L at*;clear he HV;obtain⟨RA,rc,GF,_⟩:=HVc.ae.reads;subst GF;go_upto_region 36 with fail
      have Lw:=ah w3 (.cells #[.slice RA L.length rc] 38);have Ly:=aB.new w3 38 #[.slice RA L.length rc];have zY:=aa ((IH.ae.grown HGc.ae (IH.ae.other Q3.ae WC)).later Lw);have HM7:=aa (show Mine _ w.heap.size cl from Mine.later (λ r hr=>(Q1.ae r hr).grown HGc.ae ((Q1.ae r hr).other Q3.ae WC)) Lw);have mF:=aa (HVc.ae.later Lw);have JF:=aa (HBc.ae.later Lw);have Cu:=aa (show w.grownBy _ (some gb)from aY (aY Q5.ae HGc.ae) (aR Lw));have Gl:=aa Ly;have hbase:=Cu.ae.size;have HWO:=aa Q5.ae.size;have ave:=HFN.ae;clear Lw Ly;go_wp2_with (first
       |(at_builtin
         refine aU rfl (.tmp 156) (.tmp 158) 29 rfl _ 24 Tryz.underlying29 qU rfl Tq (⟨RA,L,rc⟩:aW) rfl TaA rfl zY.ae w3.heap.size rfl Gl.ae Tq Tq hbase ?_
         intro v4 w4 o4 g4
         have O4:=aa o4
         have B4:=aa (JF.ae.ky zY.ae WC g4)
         have V4:=aa (mF.ae.past zY.ae WC g4)
         have M4:=aa (HM7.ae.grown zY.ae g4)
         have XO:=aa (pK Cu.ae g4 (Nat.le_refl _) (λ q hq=>(zY.ae.lt hq).2.1))
         clear o4 g4))
      go_roundw
      case rel=>
       refine⟨k+1,cl++ [⟨RA,L,rc⟩],hlt,by go_num,O4.ae,ZeT,by simp[HFN.ae],?_,?_,XO.ae⟩
       ·rw[PO.ae,mK.ae];exact B4.ae
       ·intro h0;rw[PO.ae,mK.ae] at h0;exact absurd (Tu h0).2 ava.ae
      case measure=>exact Za2
    ·have NF:m=x.ss.length:=by omega
     subst NF;have HTT:=aa (show x.ss.take x.ss.length=x.ss from take_length);have mK:=aa (show cM (x.ss.map gF)=0 from Jp λ a ha=>Kg.ae a (by rw[HTT.ae];exact ha));have HVc:=aa (show aH aV 44 3 wr wo.heap.size u21 (x.key++(x.ss.map gF).map (·.1)) by have h3:=HI.ae;rwa [HTT.ae] at h3);have HBc:=HX;have HGc:=uX;generalize x.key++(x.ss.map gF).map (·.1)=L at*;rw[<- Tf];clear HI HX uX Ez hm;obtain⟨RA,rc,GF,_⟩:=HVc.ae.reads;subst GF;go_upto_region 36 with fail
     have Lw:=ah wr (.cells #[.slice RA L.length rc] 38);have Ly:=aB.new wr 38 #[.slice RA L.length rc];have zY:=aa ((IH.ae.grown HGc.ae (IH.ae.other Q3.ae WC)).later Lw);have HM7:=aa (show Mine _ w.heap.size cl from Mine.later (λ r hr=>(Q1.ae r hr).grown HGc.ae ((Q1.ae r hr).other Q3.ae WC)) Lw);have mF:=aa (HVc.ae.later Lw);have JF:=aa (HBc.ae.later Lw);have Cu:=aa (show w.grownBy _ (some gb)from aY (aY Q5.ae HGc.ae) (aR Lw));have Gl:=aa Ly;have hbase:=Cu.ae.size;have HWO:=aa Q5.ae.size;have ave:=HFN.ae;clear Lw Ly;go_wp2_with (first
      |(at_builtin
        refine aU rfl (.tmp 156) (.tmp 158) 29 rfl _ 24 Tryz.underlying29 qU rfl Tq (⟨RA,L,rc⟩:aW) rfl TaA rfl zY.ae wr.heap.size rfl Gl.ae Tq Tq hbase ?_
        intro v4 w4 o4 g4
        have O4:=aa o4
        have B4:=aa (JF.ae.ky zY.ae WC g4)
        have V4:=aa (mF.ae.past zY.ae WC g4)
        have M4:=aa (HM7.ae.grown zY.ae g4)
        have XO:=aa (pK Cu.ae g4 (Nat.le_refl _) (λ q hq=>(zY.ae.lt hq).2.1))
        clear o4 g4))
     go_roundw
     case rel=>
      refine⟨k+1,cl++ [⟨RA,L,rc⟩],hlt,by go_num,O4.ae,ZeT,by simp[HFN.ae],?_,?_,XO.ae⟩
      ·rw[PO.ae,mK.ae,BP];exact B4.ae
      ·intro h0;rw[PO.ae] at h0;rw[map_append,Q4.ae (Tu h0).1,NV.ae];rfl
     case measure=>exact Za2
  ·have fJ:k=xs.length:=by omega
   subst fJ;have HTT:=aa (show xs.take xs.length=xs from take_length);have Q3:=aa (show aB wr gb 84 #[af (qf xs)] by have h1:=Q3.ae;rwa [HTT.ae] at h1);have Q4:=aa (show qf xs=0->cl.map (·.l)=EJ xs by have h1:=Q4.ae;rwa [HTT.ae] at h1);have HHA:=aa (show∀a W ov cl,a.defers=d->a.tmps.getD 4 undef=ov->a.tmps.getD 5 undef=af (qf xs)->aH bX 38 1 W w.heap.size ov cl->Mine W w.heap.size cl->(qf xs=0->cl.map (·.l)=EJ xs)->w.grownBy W (some gb)->Q .ret a W from HH.ae);generalize qf xs=FO at*;go_upto_region 38 with fail;refine bB 5 (acj u18 gb FO) (BQ _ _ _) T8 T8 T8 ?_ ?_
   ·exact ZeG
   intro W3 hL;simp only[Uab];rintro a0 - a1 - a2 - a3 q9 FM UM;replace q9:u18=a3:=Eq.symm q9;open zhS in exact Zgm
theorem GG (m:Nat):(Builtin.zeroCells (Value.pointer none).cells m)=(List.replicate m (Value.pointer none)).toArray:=by
 apply Array.ext
 ·simp[Builtin.zeroCells,Value.cells]
 ·intro i h1 h2;simp[Builtin.zeroCells,Value.cells,Nat.mod_one]
variable{ops:Array Oper}{rest:List Oper}{ac:Act}{Q:Exit->Act->World->Prop}
theorem wI{o:Oper}   (hgd:o.guard=none)(s x:Operand)
  (ho:o.op=.call { callee:=.builtin .append,args:= #[s,x],argTypes:= #[134,3] }) (g k cap m:Nat) (hs:ac.eval s=aI g k cap) (hx:ac.eval x=af m)
  (olds:List Value) (VX:olds.length=k) (hc:∀(j:Nat) v,olds[j]?=some v->w.cell? ⟨g,j,none⟩=some v) (h0:0 < m) (hg:cap < k+m) (uq:k+m<=1000001)
  (h:∀w' C,aB w' w.heap.size 135 (olds++List.replicate (C - k) (Value.pointer none)).toArray->k+m<=C->C<=maxLen->aj w w'->wpList Tryz.prog ops Q rest (ac.put o.dst (aI w.heap.size (k+m) C)) w'):wpList Tryz.prog ops Q (o::rest) ac w:=by
 obtain⟨i0,kX,hz0,hz1,hz2⟩:=info_parts Cz
 have hold:(Builtin.firstCells i0.size k (aI g k cap)).run Tryz.prog w.drew=.ok olds.toArray w.drew:=by
  refine run_firstCells_some w.drew i0.size k ⟨g,0,none⟩ k cap olds (by rw[hz1,VX];omega) λ j v hj=>?_
  rw[PZ,Nat.zero_add];exact hc j v hj
 have hrun:=Lib.run_append_grow_zeros w 134 3 o.type 135 i0 _ .i64 .i64 Tryz.underlying134 Tryz.underlying3 kX hz0 (some ⟨g,0,none⟩) k cap olds hold m h0 (by rw[hz1];omega) hg Tq (by rw[hz2];omega) (growslice_fits hg (by rw[hz2];omega));have vr:=grownCap_ge w (k+m) cap 135;have hle:=grownCap_le_maxLen w (k+m) cap 135 Taj;generalize grownCap w (k+m) cap 135=C at*;have he:olds.toArray++Builtin.zeroCells (Value.pointer none).cells m++Builtin.zeroCells (Value.pointer none).cells (C - (k+m))=(olds++List.replicate (C - k) (Value.pointer none)).toArray:=by rw[GG,GG];apply Array.ext';simp only[Array.toList_append,toList_toArray,append_assoc,replicate_append_replicate];rw[show m+(C - (k+m))=C - k by omega]
 rw[he] at hrun;refine wpList_plain hgd λ K hK=>?_
 unfold Oper.wp;simp[execOp,ho,resolve,invoke,builtin,hs,hx,hrun,Result.andThen];have hb:aj w (w.drew.alloc (.cells (olds++List.replicate (C - k) (Value.pointer none)).toArray 135)):=(show aj w w.drew from⟨rfl,rfl,rfl,Nat.le_refl _,λ _ _=>rfl⟩).alloc (Nat.le_refl _) _;exact hK _ _ (h _ C (aB.new w.drew _ _) vr hle hb)
def aix (e g n C cap k:Nat):Nat->World->Value->Prop
 | 0,_,v=>v=aI e (n+1) C
 | 1,_,v=>v=af k
 | 2,_,v=>v=af 1
 | 3,_,v=>v=af (k+1)
 | 4,_,v=>v=.slice (some ⟨e,k+1,none⟩) (n+1 - (k+1)) (C - (k+1))
 | 5,_,v=>v=aI g n cap
 | 6,_,v=>v=af k
 | 7,_,v=>v=.slice (some ⟨g,k,none⟩) (n - k) (cap - k)
 | _,_,_=>False
theorem QJ (e g n C cap k:Nat):∀i w w' v,aix e g n C cap k i w v->ai w w'->aix e g n C cap k i w' v:=by exact Zgf
theorem zg3.KbS(h:p:=by
 have D9:g≠e:=by have h1:=NJ.ae.lt;have h2:=HE.ae;omega
 have Az:c2.size=C:=by have h1:=aoH.ae;have h2:=qA.ae;rw[h1];simp only[size_toArray,toList_toArray,length_append,length_take,length_drop,length_replicate,length_singleton];omega
 have q5:((gs.drop k).map eT).length=n - k:=by rw[length_map,length_drop,<- HN.ae]
 have uZ:=aa (HG2.ae.later hL);have TG:w.grownBy W3 (some e):=aY (aY (aR um.ae) avf.ae) (aR hL);have q4:∀(j:Nat) v,((gs.drop k).map eT)[j]?=some v->W3.cell? ((⟨g,k,none⟩:Addr).add j)=some v:=λ j v hj=>by rw[PZ,bH (TG.block g NJ.ae.lt (λ e2=>by injection e2 with e2;exact D9 e2))];refine NP.ae (k+j) v ?_;rw[getElem?_map,getElem?_drop,<- getElem?_map] at hj;exact hj
 have Q4:=aa q4;have Q5:=aa q5;have oC:=aa Az;have G6:=aa TG;have Aa:=aa D9;clear hL q4 q5 Az TG D9;refine jh rfl (.tmp 50) (.tmp 53) rfl e (k+1) c2 ⟨g,k,none⟩ ((gs.drop k).map eT) _ _ _ _ rfl rfl uZ.ae (by rw[Q5.ae,oC.ae];omega) (by rw[Q5.ae];simp only[Nat.min_def];split <;> omega) Q4.ae (AE _) ?_;intro W4 u4 hg4 VH;have Kg:=aa hg4;have aic:=aa (aY G6.ae VH);clear hg4 VH;go_wp2_with fail;go_ret;have hen:=HE.ae;have ug:=HN.ae;have hcc:=Am.ae;have avg:=aoH.ae;have Tv:=qA.ae;have q5:=Q5.ae;have hsz:=oC.ae;have LC:w.grownBy W4 (Value.slice (some ⟨g,0,none⟩) n cap).ownBlock:=by have hg:=aic.ae;rw[fC];refine⟨hg.os,hg.tape,hg.output,hg.size,λ q hq _=>hg.block q hq λ e2=>?_⟩;injection e2 with e2;omega
 refine⟨_,rfl,⟨?_,.inr ⟨e,C,_,?_,by rw[hen];exact HBG.ae,Kg.ae,?_,hcc,?_,?_⟩⟩,LC⟩
 ·simp[rE,df]
 ·congr 1;simp;omega
 ·simp;omega
 ·simp only[size_toArray,length_append,length_take,length_drop,Array.length_toList,q5,hsz];omega
 ·obtain⟨R,hR⟩:∃R,R=c2.toList.drop (k+1+((gs.drop k).map eT).length):=⟨_,rfl⟩;rw[<- hR];have e0:c2.toList.take (k+1)=(gs.take k).map eT++ [eT x]:=by rw[avg];simp only[toList_toArray];rw[take_left' Tv,<- append_assoc];exact take_left' (by rw[length_append,Tv];rfl)
  rw[rE,toList_toArray,e0,Nat.mul_one];have e3:(gs.take k).map eT++ [eT x]++((gs.drop k).map eT++R)=(gs.take k++x::gs.drop k).map eT++R:=by simp
  exact ZgA):p:=h
theorem MJ (gs:List Nat)(x k:Nat)(g cap base vb:Nat)(cur:Array Value)(w:World)(hl:gs.length<=1000000)(hk:k < gs.length)(hbg:base<=w.heap.size)(hg:aB w g 135 cur)(hle:gs.length<=cap)(hroom:cap < gs.length+1)(hsz:cur.size=cap)(lT:cur.toList.take gs.length=gs.map eT)(hv:aB w vb 135 #[aw x]):
  ar 66 #[aI g gs.length cap,af k,aI vb 1 1] w (AG (aI g gs.length cap) base (gs.take k++x::gs.drop k) w):=by
 obtain⟨n,ug⟩:∃n,n=gs.length:=⟨_,rfl⟩;have HN:=aa ug;rw[<- ug] at hl hk hroom lT hle ⊢;have VG:=λ u=>iF (some ⟨g,0,none⟩) n cap k Tq u
 have anI:=λ u=>CB (some ⟨g,0,none⟩) n cap k Tq u
 have Qk:=VG;rw[if_neg Tq] at VG Qk;simp only[Option.map_some,dC,Nat.mul_one,Nat.zero_add] at VG Qk;have mixed:Tryz.prog.follows .mixedOrders=true:=by kernel_rfl
 have t1:((k:Int)==(n:Int))=false:=by simp;omega
 have t2:decide ((cap:Int)<(n:Int)+1)=true:=decide_eq_true Tq;have zc:((n:Int)+1) - (k:Int)=((n+1 - k:Nat):Int):=by omega
 have hcell:∀(j:Nat) v,(gs.map eT)[j]?=some v->w.cell? ⟨g,j,none⟩=some v:=λ j v hj=>by
  rw[hg.cell,<- Array.getElem?_toList];have e:(cur.toList.take n)[j]?=some v:=by rw[lT];exact hj
  rw[getElem?_take] at e;split at e
  ·exact e
  ·cases e
 have NP:=aa hcell;have NJ:=aa hg;have HV:=aa hv;have HBG:=aa hbg;have qA:=aa (show((gs.take k).map eT).length=k by rw[length_map,length_take];omega);have HTC:=aa (show∀(j:Nat) v,((gs.take k).map eT)[j]?=some v->w.cell? ⟨g,j,none⟩=some v from λ j v hj=>hcell j v (by
  rw[map_take,getElem?_take] at hj
  split at hj
  ·exact hj
  ·cases hj))
 clear hg hv lT hsz ug hcell hbg;go_enter Tryz.func66,Tryz.ntmps66;go_wp2_with (first
  |(simp only[zc])
  |(at_builtin
    refine wI rfl (.tmp 34) (.tmp 39) rfl g k cap (n+1 - k) rfl rfl ((gs.take k).map eT) qA.ae HTC.ae Tq Tq Tq ?_
    intro w1 C hb1 hC1 hC2 LC
    have e1:k+(n+1 - k)=n+1:=by omega
    rw[e1] at*
    have eL:=aa hb1
    have Am:=aa hC2
    have um:=aa LC
    have EF:=λ u=>iF (some ⟨w.heap.size,0,none⟩) (n+1) C (k+1) Tq u
    have aiy:=λ u=>iF (some ⟨w.heap.size,0,none⟩) (n+1) C k Tq u
    rw[if_neg Tq] at EF aiy
    simp only[Option.map_some,dC,Nat.mul_one,Nat.zero_add] at EF aiy
    push_cast at EF
    obtain⟨e,he⟩:∃e,e=w.heap.size:=⟨_,rfl⟩
    have HE:=aa he
    rw[<- he] at eL EF aiy ⊢
    have HX:=aa (show∀(j:Nat) v,[eT x][j]?=some v->w1.cell? ((⟨vb,0,none⟩:Addr).add j)=some v from λ j v hj=>by
     rw[PZ,Nat.zero_add,(HV.ae.later um.ae).cell]
     simpa [eT] using hj)
    clear hb1 hC2 LC he e1)
  |(refine jh rfl (.tmp 43) (.tmp 44) rfl e k _ ⟨vb,0,none⟩ [eT x] _ _ _ _ rfl rfl eL.ae (by have:=qA.ae;simp only[size_toArray,length_append,length_replicate,length_singleton];omega) TaN HX.ae (AE [x]) ?_
    intro W2 u2 hg2 aoG
    obtain⟨c2,hc2⟩:∃c2:Array Value,c2=((((gs.take k).map eT++List.replicate (C - k) (Value.pointer none)).toArray.toList.take k)++([eT x]++(((gs.take k).map eT++List.replicate (C - k) (Value.pointer none)).toArray.toList.drop (k+ [eT x].length)))).toArray:=⟨_,rfl⟩
    have HG2:=aa (show aB W2 e 135 c2 from hc2▸hg2)
    have aoH:=aa hc2
    have avf:=aa aoG
    clear hg2 aoG hc2))
 refine bB 8 (aix e g n C cap k) (QJ _ _ _ _ _ _) T8 T8 T8 ?_ ?_
 ·exact Zbn
 open zg3 in exact ZeS
theorem QK (gs:List Nat)(x k:Nat)(lv:Value)(base vb:Nat)(w:World)(hl:gs.length<=1000000)(hk:k<=gs.length)(hO:aH df 135 1 w base lv gs)(hv:aB w vb 135 #[aw x])(hbase:base<=w.heap.size)(hne:lv.ownBlock≠some vb):
  ar 66 #[lv,af k,aI vb 1 1] w (AG lv base (gs.take k++x::gs.drop k) w):=by
 rcases Nat.lt_or_ge k gs.length with hlt | vr
 ·obtain⟨h1,h2 |⟨g,cap,cur,rfl,hbg,hg,hlc,hm,hsz,lT⟩⟩:=hO
  ·obtain⟨_,h2⟩:=h2;omega
  ·rw[rE,Nat.mul_one] at lT;rw[Nat.mul_one] at hsz;rcases Nat.lt_or_ge cap (gs.length+1)with hc | hc
   ·exact MJ gs x k g cap base vb cur w hl hlt hbase hg hlc hc hsz lT hv
   ·exact Mr gs x k g cap base vb cur w hl hlt hbg hg hc hm hsz lT hv (λ e=>hne (by rw[e];rfl))
 ·have fJ:k=gs.length:=by omega
  subst fJ;rw[take_length,drop_length];exact Qi gs x lv base vb w hl hO hv hbase
variable{α:Type}
def exE:Except Int α->Int
 | .error e=>e
 | .ok _=>0
def ur:Except Int α->Option α
 | .ok x=>some x
 | .error _=>none
theorem MK(l:List (Except Int α)):uh l=if dh (l.map exE)≠0 then .error (dh (l.map exE))else .ok (l.filterMap ur):=rfl
variable{q:Qy}{cols:List aX}
theorem uI{p:iX}(h:et q cols=.ok p):p.aK=q.aK/\(q.items=[]->q.aK=false)/\∃gc hd s1 s2,pd cols q.cC=.ok ()/\kM cols q.aL 0=.ok gc/\dp q.aK q.aL cols q.items ⟨[],gc⟩=.ok (p.items,hd,s1)/\dA q.aK q.aL cols q.ft s1=.ok (p.having,s2)/\ep q.aK q.aL cols q.ord s2=.ok (p.order,p.st)/\p.head=if q.items=[] then cols else hd:=by
 unfold et at h;split at h
 ·cases h
 split at h
 ·cases h
 split at h
 ·cases h
 rename_i hw;split at h
 ·cases h
 rename_i gc hgc;split at h
 ·cases h
 rename_i hni;split at h
 ·cases h
 rename_i is hd s1 hi;split at h
 ·cases h
 rename_i hs s2 hh;split at h
 ·cases h
 rename_i os s3 ho;injection h with h;subst h;refine⟨rfl,λ he=>?_,gc,hd,s1,s2,hw,hgc,hi,hh,ho,rfl⟩
 cases hg:q.aK with
 | false=>rfl
 | true=>exact absurd ⟨he,hg⟩ hni
variable{aL:List Tr}
theorem yt{g:Bool}  :∀ {l:List (Tr×ByteArray)} {s:dz} {ys:List Tr} {hd:List aX} {s':dz},dp g aL cols l s=.ok (ys,hd,s')->ys.length=l.length
 | [],s,ys,hd,s',h=>by unfold dp at h;injection h with h;injection h with h1 _;rw[<- h1];rfl
 |(t,nm)::l,s,ys,hd,s',h=>by
  unfold dp at h;split at h
  ·cases h
  split at h
  ·cases h
  rename_i hi;injection h with h;injection h with h1 _;rw[<- h1,length_cons,yt hi,length_cons]
def ML (p:iX)(over:List aX)(r:List Val):Except Int eG:=match bu over r (p.items++p.order)with
 | .error e=> .error e
 | .ok l=> .ok (Sx p r l)
theorem VY (p:iX)(cols:List aX)(rows:List (List Val)):nC p cols rows=uh (rows.map (ML p (iT p cols))):=rfl
def fX (ng:Nat)(aF:List Tr)(ls:List (List Val)):List (List Val×List (Val×Val)):=ls.map λ l=>(l.take ng,fw aF (l.drop ng))
structure om (ng:Nat) (aF:List Tr) (xs:List gH) (ks ls:List (List Val)):Prop where
 keys:xs.map gH.key=fl ng (ks.map λ l=>l.take ng)
 qz:∀x∈xs,x.ss=dS (aF.map Tr.op) (fX ng aF ls) x.key
variable{ng:Nat}{ks ls:List (List Val)}{i:Nat}{x:gH}
theorem om.get{aF:List Tr}  (h:om ng aF xs ks ls)  (hx:xs[i]?=some x):(fl ng (ks.map λ l=>l.take ng))[i]?=some x.key:=by rw[<- h.keys,getElem?_map,hx];rfl
variable{j:Nat}{y:gH}
theorem om.less{aF:List Tr}  (h:om ng aF xs ks ls)  (hx:xs[i]?=some x)(hy:xs[j]?=some y)(nP:i < j):cI x.key y.key < 0:=by have hp:=I1 ng (ks.map λ l=>l.take ng);have e1:=h.get hx;have e2:=h.get hy;rw[pairwise_iff_getElem] at hp;obtain⟨i1,i2⟩:=List.getElem?_eq_some_iff.1 e1;obtain⟨j1,j2⟩:=List.getElem?_eq_some_iff.1 e2;have:=hp i j i1 j1 nP;rwa [i2,j2] at this
variable{l:List Val}
theorem om.there{aF:List Tr}     (h:om ng aF xs ls ls)(hx:xs[j]?=some x)(hk:x.key=l.take ng):om ng aF xs (ls++ [l]) ls:=by
 refine⟨?_,h.qz⟩;rw[h.keys,map_append];unfold fl;by_cases h0:ng=0
 ·rw[if_pos h0,if_pos h0]
 ·rw[if_neg h0,if_neg h0];show _=gK ((ls.map λ l=>l.take ng)++ [l.take ng]);rw[CJ];have Df:=h.keys;unfold fl at Df;rw[if_neg h0] at Df;rw[<- Df];refine(CI (j:=j) (x:=x.key) (λ i y hi hy=>?_) (by rw[getElem?_map,hx];rfl) (by rw[hk];exact xx _)).symm;rw[getElem?_map] at hy
  cases hz:xs[i]? with
  | none=>rw[hz] at hy;cases hy
  | some z=>rw[hz] at hy;injection hy with hy;rw[<- hy,<- hk];exact h.less hz hx hi
theorem om.new{aF:List Tr}     (h:om ng aF xs ls ls)(hj:j<=xs.length)(fI:∀i y,i < j->xs[i]?=some y->cI y.key (l.take ng)< 0)(hhi:∀y,xs[j]?=some y->0 < cI y.key (l.take ng))(h0:ng≠0)(hk:x.key=l.take ng)(hs:x.ss=(aF.map Tr.op).map fg):om ng aF (xs.take j++x::xs.drop j) (ls++ [l]) ls:=by
 have hne:∀y∈xs,cI y.key (l.take ng)≠0:=by
  intro y hy;obtain⟨i,hi,rfl⟩:=getElem_of_mem hy;have fF:xs[i]?=some xs[i]:=getElem?_eq_getElem hi;rcases Nat.lt_trichotomy i j with h1 | h1 | h1
  ·have:=fI i _ h1 fF;omega
  ·subst h1;have:=hhi _ fF;omega
  ·have hj2:j < xs.length:=by omega
   have a1:=hhi _ (getElem?_eq_getElem hj2);have a2:=h.less (getElem?_eq_getElem hj2) fF h1;intro e;have e2:=gD _ _ e;rw[e2] at a2;omega
 refine⟨?_,λ y hy=>?_⟩
 ·unfold fl;rw[if_neg h0,map_append (l₁:=ls)];show _=gK ((ls.map λ l=>l.take ng)++ [l.take ng]);have Df:=h.keys;unfold fl at Df;rw[if_neg h0] at Df;rw[CJ,<- Df,Mu (j:=j) (by rw[length_map];exact hj) ?_ ?_,map_append,map_cons,map_take,map_drop,hk]
  ·intro i y hi hy;rw[getElem?_map] at hy
   cases hz:xs[i]? with
   | none=>rw[hz] at hy;cases hy
   | some z=>rw[hz] at hy;injection hy with hy;rw[<- hy];exact fI i z hi hz
  ·intro y hy;rw[getElem?_map] at hy
   cases hz:xs[j]? with
   | none=>rw[hz] at hy;cases hy
   | some z=>rw[hz] at hy;injection hy with hy;rw[<- hy];exact hhi z hz
 ·rcases List.mem_append.1 hy with hy | hy
  ·exact h.qz y (mem_of_mem_take hy)
  rcases List.mem_cons.1 hy with rfl | hy
  ·rw[hs];refine(CK λ q hq=>?_).symm;unfold fX at hq;obtain⟨m,hm,rfl⟩:=List.mem_map.1 hq;have:m.take ng∈xs.map gH.key:=by rw[h.keys];unfold fl;rw[if_neg h0];exact((ko iP gD _).2 _).2 (mem_map_of_mem hm)
   obtain⟨y,hy,e⟩:=List.mem_map.1 this;rw[hk];show cI (m.take ng) (l.take ng)≠0;have e:y.key=m.take ng:=e;rw[<- e];exact hne y hy
  ·exact h.qz y (mem_of_mem_drop hy)
theorem om.feed{aF:List Tr}     (h:om ng aF xs (ls++ [l]) ls)(hx:xs[j]?=some x)(hk:x.key=l.take ng):om ng aF (xs.set j { x with ss:=eA x.ss (fw aF (l.drop ng))}) (ls++ [l]) (ls++ [l]):=by
 have hj:j < xs.length:=by
  rcases Nat.lt_or_ge j xs.length with h | h
  ·exact h
  ·rw[getElem?_eq_none h] at hx;cases hx
 have hf:fX ng aF (ls++ [l])=fX ng aF ls++ [(l.take ng,fw aF (l.drop ng))]:=by unfold fX;rw[map_append];rfl
 refine⟨?_,λ y hy=>?_⟩
 ·rw[<- h.keys,map_set];exact CM (by rw[getElem?_map,hx];rfl)
 ·obtain⟨i,hi,he⟩:=getElem_of_mem hy;have Gr:i < xs.length:=by simpa using hi
  rw[getElem_set] at he;by_cases nP:j=i
  ·rw[if_pos nP] at he;subst he;dsimp only;rw[hf,Mw (by rw[hk];exact xx _) (by rw[CO,length_map]),<- h.qz x (mem_of_getElem? hx)];rfl
  ·rw[if_neg nP] at he;subst he;have hi3:xs[i]?=some xs[i]:=getElem?_eq_getElem Gr;rw[hf,Jo ?_]
   ·exact h.qz _ (getElem_mem Gr)
   ·rw[<- hk];intro e;rcases Nat.lt_or_gt_of_ne nP with h1 | h1
    ·have:=h.less hx hi3 h1;omega
    ·have:=h.less hi3 hx h1;have:=iP.iz xs[i].key x.key;omega
theorem rK{k:List Val}(h:k∈fl ng (ls.map λ l=>l.take ng)):k.length<=ng:=by
 unfold fl at h;split at h
 ·simp at h;rw[h];simp
 ·have:=((ko iP gD _).2 _).1 h;obtain⟨l,_,rfl⟩:=List.mem_map.1 this;exact length_take_le _ _
theorem JD (op:Int):∀l:List (Val×Val),0<=cnt op l/\cnt op l<=l.length
 | []=>by simp[cnt]
 | x::l=>by
   have h:=JD op l;have h1:0<=one op x/\one op x<=1:=by unfold one;split <;>(try split)<;>(try split)<;> omega
   simp only[cnt,length_cons];omega
variable{op:Int}{s:St}
theorem L9(h0:21<=op)(h1:op<=28) {l:List (Val×Val)} (r:Ep op s l)(hl:l.length<=1000000):s.Ok:=by
 have:=JD op l;have:=r.count;have:=r.all;have hs:=r.sum;refine⟨by rw[r.kind];exact h0,by rw[r.kind];exact h1,by omega,by omega,by omega,by omega,?_,?_⟩
 ·rw[hs];unfold M;omega
 ·rw[hs];unfold M;omega
theorem uJ{ops:List Int}(jC:∀op∈ops,isAgg op=true) {ps:List (List Val×List (Val×Val))} {k:List Val}(hp:ps.length<=300):∀s∈dS ops ps k,(s.Ok/\s.all < 4611686018427387904)/\∃v e,gI s v e:=by intro s hs;obtain⟨op,l,ho,hl,rfl⟩:=VO jC s hs;have oJ:=jC op ho;unfold isAgg at oJ;simp only[Bool.and_eq_true,decide_eq_true_eq] at oJ;have r:=sx oJ.1 oJ.2 l;have ok:=L9 oJ.1 oJ.2 r Tq;have:=JD op l;have:=r.count;have ha:=r.all;exact⟨⟨ok,by omega⟩,ahb _ ok Tq⟩
def nj:Except Int (List Val)->Int
 | .error e=>e
 | .ok _=>0
variable{row:List Val}{ts:List Tr}
theorem GH(h:bu cols row ts=.error e):e≠0:=by
 unfold bu at h;split at h
 ·rename_i hne;injection h with h;rw[<- h];exact hne
 ·cases h
theorem Dg(h:bu cols row ts=.ok l):l.length=ts.length:=by
 unfold bu at h;split at h
 ·cases h
 ·injection h with h;rw[<- h,length_map,Tr.oL]
def fo (cols:List aX)(ts:List Tr)(rs:List aW):List (List Val):=rs.filterMap λ r=>match bu cols r.l ts with | .ok l=>some l | .error _=>none
def dW (cols:List aX)(ts:List Tr)(rs:List aW):Int:=dh (rs.map λ r=>nj (bu cols r.l ts))
variable{rs:List aW}
theorem Dh(h:k < rs.length):fo cols ts (rs.take (k+1))=fo cols ts (rs.take k)++(match bu cols rs[k].l ts with | .ok l=> [l] | .error _=> [])/\dW cols ts (rs.take (k+1))=nx (dW cols ts (rs.take k)) (nj (bu cols rs[k].l ts)):=by
 have e:rs.take (k+1)=rs.take k++ [rs[k]]:=by rw[take_add_one,getElem?_eq_getElem h];rfl
 unfold fo dW;rw[e,filterMap_append,map_append];refine⟨?_,qV _ _⟩;congr 1;rw[filterMap_cons,filterMap_nil];cases bu cols rs[k].l ts <;> rfl
theorem uK (cols:List aX)(ts:List Tr)(rs:List aW):(fo cols ts rs).length<=rs.length:=length_filterMap_le _ _
theorem VZ(h:l∈fo cols ts rs):∃r∈rs,bu cols r.l ts=.ok l:=by
 unfold fo at h;obtain⟨r,hr,e⟩:=List.mem_filterMap.1 h;refine⟨r,hr,?_⟩
 cases hw:bu cols r.l ts with
 | error e2=>rw[hw] at e;cases e
 | ok m=>rw[hw] at e;injection e with e;rw[e]
theorem Di(hr:∀v∈row,v.Ok)(ht:Tr.cO ts)(h:bu cols row ts=.ok l):∀v∈l,v.Ok:=by
 unfold bu at h;split at h
 ·cases h
 ·injection h with h;rw[<- h];intro v hv;obtain⟨z,hz,rfl⟩:=List.mem_map.1 hv;exact Tr.vE cols row hr ts ht z hz
variable{B':Nat}{qs:List Nat}{ss:List St}
theorem dG.down(h:dG w B qs ss)(hB:B'<=B):dG w B' qs ss:=⟨h.len,h.at_,λ q hq=>⟨Nat.le_trans hB (h.low q hq).1,(h.low q hq).2⟩,h.apart⟩
theorem bM.take(h:bM w A l)(n:Nat):bM w A (l.take n):=⟨h.rv.G9 n,h.ty⟩
theorem aH.turn{f:α->List Value} {e:TypeId} {size base:Nat}   {l:List α}  (h:aH f e size w base v l)(ht:pC w w' qs)(hs:dG w B qs ss)(he:e≠199):aH f e size w' base v l:=h.keep λ g hg=>by obtain⟨h1,_,cur,hc⟩:=h.lt hg;exact ht.block g h1 (hs.tQ (show aB w g e cur from hc) he)
theorem afZ(h:xs[j]?=some x):(xs.set j { x with ss:=ss }).map gH.g=xs.map gH.g:=by rw[map_set];exact CM (by rw[getElem?_map,h];rfl)
structure Dj (w:World) (gp:Nat) (aL aF:List Tr) (cols:List aX) (yg ya:List Ex) (GA:Option Addr) (gc:Nat) (CA:Option Addr) (cc:Nat) (AA:Option Addr) (ac:Nat):Prop where
 lt:gp < w.heap.size
 c4:w.cell? ⟨gp,4,none⟩=some (.slice GA yg.length gc)
 c8:w.cell? ⟨gp,8,none⟩=some (.slice CA cols.length cc)
 c9:w.cell? ⟨gp,9,none⟩=some (.slice AA ya.length ac)
 rg:RE w w.heap.size GA yg
 tg:Tr.aO w (Old w) aL yg
 ra:RE w w.heap.size AA ya
 ta:Tr.aO w (Old w) aF ya
 rc:RC w w.heap.size CA cols
variable{gp:Nat}{yg ya:List Ex}{GA:Option Addr}{gc:Nat}{CA:Option Addr}{cc:Nat}{AA:Option Addr}
theorem Dj.later{aF:List Tr}        {ac:Nat}(h:Dj w gp aL aF cols yg ya GA gc CA cc AA ac)(hb:aj w w'):Dj w' gp aL aF cols yg ya GA gc CA cc AA ac:=
 ⟨Nat.lt_of_lt_of_le h.lt hb.size,(hb.cell (p:=⟨gp,4,none⟩) h.lt).trans h.c4,(hb.cell (p:=⟨gp,8,none⟩) h.lt).trans h.c8,(hb.cell (p:=⟨gp,9,none⟩) h.lt).trans h.c9,h.rg.later hb,Tr.aO.later h.tg hb,h.ra.later hb,Tr.aO.later h.ta hb,h.rc.later hb⟩
variable{n:Nat}{ys:List Ex}
theorem adj{base c:Nat}  (h:aH bF 46 7 w base (.slice A n c) ys):RE w w.heap.size A ys:=by obtain⟨A2,c2,e,_,h1⟩:=pH h (S:=Old w) (λ q hq=>(h.lt hq).1);injection e with e _ _;subst e;exact ZcT
theorem rL{base:Nat}  (h:aH bF 46 7 w base v ys):∃A c,v=.slice A ys.length c/\RE w w.heap.size A ys:=by obtain⟨A,c,e,_,h1⟩:=pH h (S:=Old w) (λ q hq=>(h.lt hq).1);refine⟨A,c,e,?_⟩;exact ZcT
def uL (w:World)(B0:Nat)(v:Value)(E:List Ex):Prop:=aH bF 46 7 w B0 v E
variable{B0:Nat}{E:List Ex}
theorem uL.later(h:uL w B0 v E)(hb:ai w w'):uL w' B0 v E:=aH.later h hb
def nH (res:Except Int (List Val))(w:World)(B0:Nat)(v0 v1:Value):Prop:=match res with
 | .error er=>v0=az/\v1=af er
 | .ok l=>v1=af 0/\aH aV 44 3 w B0 v0 l
variable{res:Except Int (List Val)}{v0 v1:Value}
theorem nH.later(h:nH res w B0 v0 v1)(hb:ai w w'):nH res w' B0 v0 v1:=by
 cases res with
 | error er=>exact h
 | ok l=>exact⟨h.1,aH.later h.2 hb⟩
theorem nH.err(h:nH res w B0 v0 v1):v1=af (nj res):=by
 cases res with
 | error er=>exact h.2
 | ok l=>exact h.1
def aiz (gp:Nat)(GA:Option Addr)(gn gc:Nat)(M0:Option Addr)(en M3:Nat)(CA:Option Addr)(cn cc:Nat)(RA:Option Addr)(rn rc:Nat)(E:List Ex)(B0:Nat)(res:Except Int (List Val)):Nat->World->Value->Prop
 | 0,_,v=>v=aw gp
 | 1,_,v=>v=aw gp
 | 2,_,v=>v=aw gp
 | 3,_,v=>v=ba gp 4
 | 4,_,v=>v=.slice GA gn gc
 | 5,_,v=>v=.slice M0 en M3
 | 6,w,v=>∃gB:Nat,v=aI gB 2 2/\aB w gB 23 #[.slice GA gn gc,.slice M0 en M3]
 | 7,w,v=>∃v7:Value,v=v7/\uL w B0 v7 E
 | 8,_,v=>v=aw gp
 | 9,_,v=>v=aw gp
 | 10,_,v=>v=ba gp 8
 | 11,_,v=>v=.slice CA cn cc
 | 12,_,v=>v=.slice RA rn rc
 | 13,w,v=>∃x0 x1:Value,v=.tuple #[x0,x1]/\nH res w B0 x0 x1
 | 14,w,v=>∃x0 x1:Value,v=.tuple #[x0,x1]/\nH res w B0 x0 x1
 | 15,w,v=>∃x0 x1:Value,v=x0/\nH res w B0 x0 x1
 | 16,_,v=>v=af (nj res)
 | 17,w,v=>∃x0 x1:Value,v=x0/\nH res w B0 x0 x1
 | _,_,_=>False
theorem QM (gp:Nat)(GA:Option Addr)(gn gc:Nat)(M0:Option Addr)(en M3:Nat)(CA:Option Addr)(cn cc:Nat)(RA:Option Addr)(rn rc:Nat)(E:List Ex)(B0:Nat)(res:Except Int (List Val)):∀i w w' v,aiz gp GA gn gc M0 en M3 CA cn cc RA rn rc E B0 res i w v->ai w w'->aiz gp GA gn gc M0 en M3 CA cn cc RA rn rc E B0 res i w' v:=by
 intro i w w' v h hl
 match i with
 | 0 | 1 | 2 | 3 | 4 | 5 | 8 | 9 | 10 | 11 | 12 | 16=>exact h
 | 6=>obtain⟨gB,h1,f0⟩:=h;exact⟨gB,h1,f0.later hl⟩
 | 7=>obtain⟨v7,h1,f0⟩:=h;exact⟨v7,h1,f0.later hl⟩
 | 13=>exact Zb4
 | 14=>exact Zb4
 | 15=>exact Zb4
 | 17=>exact Zb4
 | n+18=>exact h
def aiA (gp:Nat)(GA:Option Addr)(gn gc:Nat)(XA:Option Addr)(xn xc:Nat):Nat->World->Value->Prop
 | 0,_,v=>v=.slice XA xn xc
 | 1,_,v=>v=aw gp
 | 2,_,v=>v=aw gp
 | 3,_,v=>v=aw gp
 | 4,_,v=>v=ba gp 4
 | 5,_,v=>v=.slice GA gn gc
 | 6,_,v=>v=af gn
 | 7,_,v=>v=aw gp
 | 8,_,v=>v=aw gp
 | 9,_,v=>v=aw gp
 | 10,_,v=>v=ba gp 4
 | 11,_,v=>v=.slice GA gn gc
 | 12,_,v=>v=af gn
 | 13,_,v=>v=.slice XA gn gn
 | _,_,_=>False
theorem QN (gp:Nat)(GA:Option Addr)(gn gc:Nat)(XA:Option Addr)(xn xc:Nat):∀i w w' v,aiA gp GA gn gc XA xn xc i w v->ai w w'->aiA gp GA gn gc XA xn xc i w' v:=by
 intro i w w' v h hl
 match i with
 | 0 | 1 | 2 | 3 | 4 | 5 | 6 | 7 | 8 | 9 | 10 | 11 | 12 | 13=>exact h
 | n+14=>exact h
def adk (gp lb ln lc j q:Nat)(XA:Option Addr)(xn xc gn:Nat):Nat->World->Value->Prop
 | 0,_,v=>v=aw gp
 | 1,_,v=>v=aI lb ln lc
 | 2,_,v=>v=af j
 | 3,_,v=>v=ba lb j
 | 4,_,v=>v=aw q
 | 5,_,v=>v=.slice XA xn xc
 | 6,_,v=>v=.slice XA gn gn
 | 7,_,v=>v=af gn
 | 8,_,v=>v=.slice (eQ XA xc gn) (xn - gn) (xc - gn)
 | _,_,_=>False
theorem Dk (gp lb ln lc j q:Nat)(XA:Option Addr)(xn xc gn:Nat):∀i w w' v,adk gp lb ln lc j q XA xn xc gn i w v->ai w w'->adk gp lb ln lc j q XA xn xc gn i w' v:=by exact Zf5
theorem zih.Kcp(h:p:=by
 refine bB 9 (adk gp lb xs.length lc j q XA xn xc gn) (Dk _ _ _ _ _ _ _ _ _ _) T8 T8 T8 ?_ ?_
 ·exact Za7
 exact Zaw):p:=h
theorem zii.Kcp(h:p:=by
 refine bB 9 (adk gp lb xs1.length lc9 j q XA xn xc gn) (Dk _ _ _ _ _ _ _ _ _ _) T8 T8 T8 ?_ ?_
 ·exact Za7
 exact Zaw):p:=h
theorem zhG.Kb8(h:p:=by
 have Cu:=aa (MN.ae.later hL);have HGW:=aa (VF.ae.later hL);have HKW:=aa (uH.ae.keep hL.size λ b cur hX=>hL.block b hX.lt);clear hL vd HO M9 MN VF uH HEW;obtain⟨LA,lc,aZ,hlc,N0⟩:=wB Cu.ae;have aoW:=aa aZ;have hxl:xs.length<=301:=by have h1:=congrArg List.length HI.ae.keys;rw[length_map] at h1;have h2:=xY gn (ls.map λ l=>l.take gn);rw[length_map] at h2;have h3:=HLS.ae;have h4:=Ee.ae;omega
 have HXL:=aa hxl;have Ak:(l.take gn).length=gn:=by rw[length_take];have:=xO.ae;have:=oz.ae;omega
 have XE:=aa Ak;have hng:gn<=1000:=by have:=IH.ae;have:=G6.ae;omega
 have XR:=aa hng
 have hsr:∀W,aj W6 W->ar 64 #[.slice LA (xs.map gH.g).length lc,.slice XA gn gn,.func (.func 65) #[] #[]] W (Cw (xs.map gH.g).length (λ i=>cI ((xs.map gH.key).getD i []) (l.take gn)) W):=λ W hW=>by
  refine Qf (xs.map gH.g) LA XA lc gn gn (λ i=>cI ((xs.map gH.key).getD i []) (l.take gn)) W (by rw[length_map];omega) (N0.later hW) (λ i hi W2 hW2=>?_) (λ i j nP hj hc=>?_)
  ·rw[length_map] at hi;have hx:=((HGW.ae.later hW).later hW2).at_ xs[i] (getElem_mem hi);have Kx:=hx.blk.cell 0;simp only[getElem?_toArray,getElem?_cons_zero] at Kx;have hk2:=(HKW.ae.keep hW.size λ b cur hX=>hW.block b hX.lt).keep hW2.size λ b cur hX=>hW2.block b hX.lt
   have pP:xs[i].key.length<=gn:=rK (by rw[<- HI.ae.keys];exact mem_map_of_mem (getElem_mem hi));have tM:=Qe xs[i].g xs[i].KA XA xs[i].key (l.take gn) xs[i].kc gn W2 hx.blk.lt Kx hx.key.rv (hk2.rv.G9 gn) Tq Tq;rw[Ak] at tM;simp only[getElem_map,getD_eq_getElem?_getD,getElem?_map,getElem?_eq_getElem hi,Option.map_some,Option.getD_some];exact tM
  ·rw[length_map] at hj;have hi:i < xs.length:=by omega
   simp only[getD_eq_getElem?_getD,getElem?_map,getElem?_eq_getElem hi,getElem?_eq_getElem hj,Option.map_some,Option.getD_some] at hc ⊢;rcases Nat.lt_or_ge i j with h1 | h1
   ·have:=HI.ae.less (getElem?_eq_getElem hi) (getElem?_eq_getElem hj) h1;exact iP.afh this Tq
   ·have e:i=j:=by omega
    subst e;exact hc
 have HSR:=aa (hsr _ (Below.refl _ _));have HLR:=aa N0;rw[length_map] at HSR hlc aoW aZ;have tL:=aa hlc;subst aZ;clear hsr N0 Ak hng hlc aoW;go_wp2_with fail;refine HSR.ae.mono ?_;rintro e w7 ⟨j,hj,rfl,fI,hhi,b7⟩;have Nm:=aa hj;have um:=aa (show∀i y,i < j->xs[i]?=some y->cI y.key (l.take gn)< 0 from λ i y hi hy=>by
  have:=fI i hi
  simpa only[getD_eq_getElem?_getD,getElem?_map,hy,Option.map_some,Option.getD_some] using this)
 have aiL:=aa (show∀i y,j<=i->xs[i]?=some y->0<=cI y.key (l.take gn)from λ i y hi hy=>by
  have rW:i < xs.length:=(List.getElem?_eq_some_iff.1 hy).1
  have:=hhi i hi rW
  simpa only[getD_eq_getElem?_getD,getElem?_map,hy,Option.map_some,Option.getD_some] using this)
 have Lw:=aa (Below.trans Mm.ae (b7.mono Mm.ae.size));have pG:=aa (Mx.ae.later b7);have MO:=aa (Eg.ae.later b7);have MP:=aa (Cu.ae.later b7);have MY:=aa (HGW.ae.later b7);have MI:=aa (HKW.ae.keep b7.size λ b cur hX=>b7.block b hX.lt);have aiM:=aa (HLR.ae.later b7);clear b7 fI hhi hj Mm Mx Eg Cu HGW HKW HLR HSR;by_cases hf:j < xs.length/\cI ((xs.map gH.key).getD j []) (l.take gn)=0
 ·obtain⟨hf1,hf2⟩:=hf;have tf:(decide (j < xs.length)&& decide (cI ((xs.map gH.key).getD j []) (l.take gn)=0))=true:=by simp only[decide_eq_true hf1,decide_eq_true hf2,Bool.and_self]
  have HF1:=aa hf1;have HKEY:=aa (show xs[j].key=l.take gn from gD _ _ (by
   have h2:=hf2
   simp only[getD_eq_getElem?_getD,getElem?_map,getElem?_eq_getElem hf1,Option.map_some,Option.getD_some] at h2
   exact h2))
  have HM:=aa (HI.ae.there (getElem?_eq_getElem hf1) HKEY.ae);have hxj:xs[j]?=some xs[j]:=getElem?_eq_getElem hf1;rw[tf];obtain⟨x,hx⟩:∃x,x=xs[j]:=⟨_,rfl⟩;rw[<- hx] at HKEY hxj;have QT:=aa hxj;have QU:=Lw;have N3:=pG;have JF:=MO;have mF:=MP;have VS:=MY;have HK9:=MI;have N6:=aiM;clear hf1 hf2 tf hxj hx Lw pG MO MP MY MI aiM HI um aiL;go_upto_region 20 with fail;have vk:j < xs.length:=(List.getElem?_eq_some_iff.1 QT.ae).1;have HJL:=aa vk;obtain⟨lb,hA,Ed,hcj⟩:=N6.ae.at_ (k:=j) (by rw[length_map];exact vk);obtain⟨aiN,hxe⟩:=List.getElem?_eq_some_iff.1 (show(xs.map gH.g)[j]?=some x.g by rw[getElem?_map,QT.ae];rfl);open zih in exact Zhk
 ·have tf:(decide (j < xs.length)&& decide (cI ((xs.map gH.key).getD j []) (l.take gn)=0))=false:=by
   rw[Bool.and_eq_false_iff,decide_eq_false_iff_not,decide_eq_false_iff_not];by_cases h1:j < xs.length
   ·exact .inr λ h2=>hf ⟨h1,h2⟩
   ·exact .inl h1
  have HNF:=aa (show∀y,xs[j]?=some y->0 < cI y.key (l.take gn)from λ y hy=>by
   have h1:=aiL.ae j y (Nat.le_refl _) hy
   have vk:=(List.getElem?_eq_some_iff.1 hy).1
   rcases Int.lt_or_eq_of_le h1 with h2 | h2
   ·exact h2
   ·exact absurd ⟨vk,by simp only[getD_eq_getElem?_getD,getElem?_map,hy,Option.map_some,Option.getD_some];exact h2.symm⟩ hf)
  have Ki:=aa (show gn≠0 from λ h0=>by
   have hk:=HI.ae.keys
   unfold fl at hk
   rw[if_pos h0] at hk
   have fq:xs.length=1:=by have:=congrArg List.length hk;simpa using this
   obtain⟨x,hx⟩:∃x,xs=[x]:=List.length_eq_one_iff.1 fq
   have I5:x.key=[]:=by rw[hx] at hk;simpa using hk
   have ht:l.take gn=[]:=by rw[h0];rfl
   rcases Nat.eq_zero_or_pos j with h1 | h1
   ·have:=HNF.ae x (by rw[h1,hx];rfl)
    rw[I5,ht] at this
    simp[cI] at this
   ·have:=um.ae 0 x h1 (by rw[hx];rfl)
    rw[I5,ht] at this
    simp[cI] at this)
  rw[tf];clear tf hf;have HE7:=aa (HF.ae.later Lw.ae);go_wp2_with fail;refine(Gk gp ya AA ac XA gn gn w7 Tar HE7.ae.lt HE7.ae.c9 HE7.ae.ra (λ y hy=>by
   have h1:y.op∈aF.map Tr.op:=by rw[<- Q3.ae];exact mem_map_of_mem hy
   obtain⟨t,ht,he⟩:=List.mem_map.1 h1
   rw[<- he]
   exact Q4.ae t ht)).mono ?_
  rintro e w2 ⟨gg,sv,qs,rfl,dZ,Jg,hgk,L6,Eh,b2⟩;have bN:=ah w2 (.cells #[aw gg] 135);have hNB:=aB.new w2 135 #[aw gg];have b9:=ai.then b2 bN
  have O1:w0.heap.size<=w7.heap.size:=Lw.ae.size;have VQ:=aa (show gH.At w2 w0.heap.size ⟨gg,XA,gn,l.take gn,sv,qs,ya.map λ y=>fg y.op⟩from⟨by rw[XE.ae];exact hgk,Nat.le_trans O1 dZ,L6.down O1,Eh.down O1,(MI.ae.keep b2.size λ b cur hX=>b2.block b hX.lt).take gn⟩);have XO:=aa ((MY.ae.later b2).insert (k:=j) VQ.ae (λ y hy q hq hm=>by
   have h1:=((MY.ae.at_ y hy).qz.low q hq).2
   have h2:=(Eh.low q hm).1
   omega))
  have adt:=aa (XO.ae.later bN);have wJ:=aa (MP.ae.later b9);have apc:=aa (pG.ae.later b9);have EK:=aa (MO.ae.later b9);have HK8:=aa (MI.ae.keep b9.size λ b cur hX=>b9.block b hX.lt);have Gw:=aa (Below.trans Lw.ae (b9.mono O1));have pS:=aa hNB;have hvb:(Value.slice LA xs.length lc).ownBlock≠some w2.heap.size:=λ e=>by have:=(MP.ae.lt e).1;have:=b2.size;omega
  have HVB:=aa hvb;have HMJ:=aa (show om gn aF (xs.take j++⟨gg,XA,gn,l.take gn,sv,qs,ya.map λ y=>fg y.op⟩::xs.drop j) (ls++ [l]) ls from HI.ae.new (by exact Nm.ae) um.ae HNF.ae Ki.ae rfl (by
   show ya.map (λ y=>fg y.op)=_
   rw[<- Q3.ae,map_map]
   rfl))
  have pT:(xs.map gH.g).take j++gg::(xs.map gH.g).drop j=(xs.take j++(⟨gg,XA,gn,l.take gn,sv,qs,ya.map λ y=>fg y.op⟩:gH)::xs.drop j).map gH.g:=by simp
  have hjx:(xs.take j++(⟨gg,XA,gn,l.take gn,sv,qs,ya.map λ y=>fg y.op⟩:gH)::xs.drop j)[j]?=some ⟨gg,XA,gn,l.take gn,sv,qs,ya.map λ y=>fg y.op⟩:=by
   have vk:j<=xs.length:=by exact Nm.ae
   rw[getElem?_append_right TaS,length_take,Nat.min_eq_left vk,Nat.sub_self];rfl
  have adu:(xs.take j++(⟨gg,XA,gn,l.take gn,sv,qs,ya.map λ y=>fg y.op⟩:gH)::xs.drop j).length<=302:=by
   have vk:j<=xs.length:=by exact Nm.ae
   have:=HXL.ae;simp only[length_append,length_take,length_cons,length_drop];omega
  obtain⟨x,hx⟩:∃x:gH,x=⟨gg,XA,gn,l.take gn,sv,qs,ya.map λ y=>fg y.op⟩:=⟨_,rfl⟩;have HKEY:=aa (show x.key=l.take gn by rw[hx]);rw[<- hx] at XO adt HMJ pT hjx adu VQ;obtain⟨xs1,ape⟩:∃xs1:List gH,xs1=xs.take j++x::xs.drop j:=⟨_,rfl⟩;rw[<- ape] at XO adt HMJ pT hjx adu;have QT:=aa hjx;have HM:=HMJ;have HGS:=aa pT;have aBM:=aa adu;have apf:=QK (xs.map gH.g) gg j (.slice LA xs.length lc) w0.heap.size w2.heap.size _ (by rw[length_map];have:=HXL.ae;omega) (by rw[length_map];exact Nm.ae) wJ.ae pS.ae Gw.ae.size HVB.ae;have xT:=aa apf;clear apf hx ape pT hjx adu hvb hNB bN b2 b9 O1 L6 Eh hgk Jg dZ VQ MY MP pG MO MI Lw XO HI um aiL HNF aiM HE7;go_wp2_with fail;refine xT.ae.mono ?_;rintro e w1 ⟨v1,rfl,hR,WO⟩;rw[HGS.ae] at hR;have mF:=aa hR;have VS:=aa (adt.ae.own wJ.ae WO WC WC WC WC);have N3:=aa (apc.ae.past wJ.ae WC WO);have JF:=aa (EK.ae.ky wJ.ae WC WO);have age:=bj wJ.ae WO Gw.ae.size;have QU:=aa (Below.trans Gw.ae age);have HK9:=aa (HK8.ae.keep WO.size λ b cur hX=>WO.block b hX.lt λ e=>wJ.ae.other hX WC e.symm);obtain⟨LA9,lc9,hv9,_,aph⟩:=wB mF.ae;rw[length_map] at hv9;subst hv9;have N6:=aa aph;clear hR WO age aph wJ adt apc EK Gw HK8 xT pS HVB HGS;go_upto_region 20 with fail;have vk:j < xs1.length:=(List.getElem?_eq_some_iff.1 QT.ae).1;have HJL:=aa vk;obtain⟨lb,hA,Ed,hcj⟩:=N6.ae.at_ (k:=j) (by rw[length_map];exact vk);obtain⟨aiN,hxe⟩:=List.getElem?_eq_some_iff.1 (show(xs1.map gH.g)[j]?=some x.g by rw[getElem?_map,QT.ae];rfl)
  open zii in exact Zhk):p:=h
theorem zhU.Kce(h:p:=by
 have hln:(aL++aF.flatMap Tr.args).length=gn+ye.length:=by have a1:=dU HF.ae.tg;have a2:=dU Q1.ae;rw[length_append,a1,a2,IH.ae]
 have hgx:gn<=l.length:=by rw[AJ.ae,hln];omega
 have xO:=aa hgx;have HXC:=aa (show gn<=xc by omega);have QS:=aa hxl;have HEW:=aa (HF.ae.later vd.ae);have uW:=aa (show(l.drop gn).length=ye.length by rw[length_drop,AJ.ae,hln];omega);obtain⟨xn,Ef⟩:∃xn,xn=l.length:=⟨_,rfl⟩;rw[<- Ef] at xO ⊢;have oz:=aa Ef;clear I5 hln hgx hxl Ef KK;go_upto_region 16 with fail;refine bB 14 (aiA gp GA gn gc XA xn xc) (QN _ _ _ _ _ _ _) T8 T8 T8 ?_ ?_
 ·simp only[take_succ_cons,take_zero];refine⟨Zab,Zab,Zab,Zab,Zab,ZgD,Zab,Zab,Zab,Zab,Zab,ZgD,Zab,Zdi,trivial⟩
 intro W6 hL;simp only[Uab];rintro a0 - a1 - a2 - a3 - a4 - a5 - a6 - a7 - a8 - a9 - FM - J3 - a12 - _ rfl;open zhG in exact ZfR):p:=h
theorem zcR.Kaw(h:p:=by
 have jN:=aa Gz;have HQN:=aa NW;have aiD:=aa kH;have HB:=aa hX;have Wc:=aa ft;have HP:=aa hP;have M7:=aa aoN;have Kh:=aa aZ;have HG0:=aa fF;have HI0:=aa hI0;have UU:=aa (show yg.length+ye.length<=1000000 by omega);have LE:=aa (show(yg++ye).length<=1599289640356 by rw[length_append];omega);clear h hF ih q1 q2 q3 q4 q5 Az TG D9 hz ND Gz NW kH hX ft hP aoN aZ fF hI0;simp only[gU,fA,Tryz.f33,Option.getD_some];refine wp_seq_k λ K hK=>?_
 have HK:=aa hK;clear hK;go_wp2_with fail;go_loopw [10,54] (λ lv i wr=>∃(k:Nat) (xs:List gH),k<=zs.length/\i=af k/\aj w0 wr/\aH bF 46 7 wr w0.heap.size (.slice M0 ye.length M3) ye/\aB wr gb 84 #[af (dW cols (aL++aF.flatMap Tr.args) (zs.take k))]/\aH df 135 1 wr w0.heap.size lv (xs.map gH.g)/\kz wr w0.heap.size xs/\om gn aF xs (fo cols (aL++aF.flatMap Tr.args) (zs.take k)) (fo cols (aL++aF.flatMap Tr.args) (zs.take k))) (λ _ i _=>zs.length - (intOf i).toNat);case atStart=>exact⟨0,xs0,Nat.zero_le _,rfl,HB.ae,Wc.ae,HP.ae,Kh.ae,HG0.ae,HI0.ae⟩
 case round=>
  clear HB Wc HP Kh HG0 HI0;obtain⟨k,xs,hkr,rfl,hB,hAV,hGB,XT,hG,hI⟩:=hrel;have HB:=aa hB;have Wc:=aa hAV;have HP:=aa hGB;have Kh:=aa XT;have HG:=aa hG;have HI:=aa hI;clear hB hAV hGB XT hG hI;by_cases hlt:k < zs.length
  ·obtain⟨b,off,rfl,kG,hcell,uY⟩:=(jN.ae.below HB.ae).at_ hlt;have Bi:=aa (uY.more HB.ae.size);have QF:=aa (aiD.ae zs[k] (getElem_mem hlt));have M8:=aa (Dh (cols:=cols) (ts:=aL++aF.flatMap Tr.args) hlt);have HLS:=aa (uK cols (aL++aF.flatMap Tr.args) (zs.take k));have Ee:=aa (show(zs.take k).length<=300 by rw[length_take];have:=HQN.ae;omega);generalize zs[k]=r at*;generalize dW cols (aL++aF.flatMap Tr.args) (zs.take k)=FO at*;generalize fo cols (aL++aF.flatMap Tr.args) (zs.take k)=ls at*;obtain⟨res,hres⟩:∃res,res=bu cols r.l (aL++aF.flatMap Tr.args):=⟨_,rfl⟩;rw[<- hres] at M8;have jM:=aa hres.symm;have oK:=aa (HF.ae.later HB.ae);have HTE:=aa (Tr.aO.later Q1.ae HB.ae);have oz:=aa (adj Wc.ae);obtain⟨E,hE⟩:∃E,E=yg++ye:=⟨_,rfl⟩;have pV:=aa hE;obtain⟨B0,hB0⟩:∃B0,B0=wr.heap.size:=⟨_,rfl⟩;have BI:=aa hB0;have hk9:k<=300:=by have:=HQN.ae;omega
   clear kG uY hres hE hB0;go_upto_region 14 with fail;clear hcell;refine bB 18 (aiz gp GA gn gc M0 ye.length M3 CA cols.length cc r.A r.l.length r.c E B0 res) (QM _ _ _ _ _ _ _ _ _ _ _ _ _ _ _ _) T8 T8 T8 ?_ ?_
   ·simp only[take_succ_cons,take_zero];refine⟨Zab,Zab,Zab,Zab,?_,Zab,?_,?_,Zab,Zab,Zab,?_,Zab,?_,?_,?_,?_,?_,trivial⟩
    ·intro ρ w3 hc hL hr;have h0:_=_:=hr.1;have c0:=(oK.ae.later hL).c4;exact ZbQ
    ·intro ρ w3 hc hL hr;have h0:_=_:=hr.1;have h1:_=_:=hr.2.1;exact aq (v:=aI w3.heap.size 2 2) (w':=w3.alloc (.cells #[.slice GA gn gc,.slice M0 ye.length M3] 23)) Tat ⟨ah _ _,_,rfl,aB.new _ _ _⟩
    ·intro ρ w3 hc hL hr;obtain⟨gB0,h0,cK⟩:∃gB:Nat,ρ (.tmp 65)=aI gB 2 2/\aB w3 gB 23 #[.slice GA gn gc,.slice M0 ye.length M3]:=hr.1;have e1:=hc.func 35;refine bw (f:=35) (args:= #[aI gB0 2 2]) (w':=w3) Tay ?_;refine(uz (some ⟨gB0,0,none⟩) 2 [⟨GA,gc,yg⟩,⟨M0,M3,ye⟩] w3 Vb (by simpa [lC] using UU.ae) ?_).mono ?_
     ·refine⟨gB0,0,rfl,cK.lt,λ i x hx=>?_⟩
      match i,hx with
      | 0,hx=>simp at hx;subst hx;refine⟨?_,(oK.ae.later hL).rg⟩;exact Zfz
      | 1,hx=>simp at hx;subst hx;refine⟨?_,oz.ae.later hL⟩;have cb:=cK.cell 1;simp only[Uaa] at cb;rw[Nat.zero_add,cb]
      | n+2,hx=>simp at hx
     ·exact ZdU
    ·intro ρ w3 hc hL hr;have h0:_=_:=hr.1;have c0:=(oK.ae.later hL).c8;exact ZdE
    ·intro ρ w3 hc hL hr;obtain⟨v70,h0,cK⟩:∃v7:Value,ρ (.tmp 66)=v7/\uL w3 B0 v7 E:=hr.1;have h1:_=_:=hr.2.1;have h2:_=_:=hr.2.2.1;obtain⟨EA,ec,he,GF⟩:=rL (show aH bF 46 7 w3 B0 v70 E from cK);rw[pV.ae] at he GF;subst he;have e1:=hc.func 34;refine bw (f:=34) (args:= #[.slice EA (yg++ye).length ec,.slice CA cols.length cc,.slice r.A r.l.length r.c]) (w':=w3) (by simp[go_sem,e1,h0,h1,h2];done) ?_;refine(Gq cols CA cc r.l r.A r.c (aL++aF.flatMap Tr.args) (yg++ye) EA ec w3 GX.ae QF.ae.1 QF.ae.2 oC.ae (Tr.all_append (oK.ae.later hL).tg (Tr.aO.later HTE.ae hL)) LE.ae GF (oK.ae.later hL).rc (Bi.ae.later hL)).mono ?_;exact ZcL
    ·intro ρ w3 hc hL hr;obtain⟨We,Wf,h0,cK⟩:∃x0 x1:Value,ρ (.tmp 72)=.tuple #[x0,x1]/\nH res w3 B0 x0 x1:=hr.1;exact Zf6
    ·intro ρ w3 hc hL hr;obtain⟨We,Wf,h0,cK⟩:∃x0 x1:Value,ρ (.tmp 58)=.tuple #[x0,x1]/\nH res w3 B0 x0 x1:=hr.1;exact Zc4
    ·intro ρ w3 hc hL hr;obtain⟨We,Wf,h0,cK⟩:∃x0 x1:Value,ρ (.tmp 58)=.tuple #[x0,x1]/\nH res w3 B0 x0 x1:=hr.1;exact Zgg
    ·intro ρ w3 hc hL hr;obtain⟨We,Wf,h0,cK⟩:∃x0 x1:Value,ρ (.tmp 73)=x0/\nH res w3 B0 x0 x1:=hr.1;exact Zc4
   intro W5 hL;simp only[Uab];rintro a0 - a1 - a2 - a3 - a4 - a5 - a6 - a7 - a8 - a9 - FM - J3 - a12 - a13 - a14 - a15 - _ rfl a16 ⟨ayH,ayI,rfl,agb⟩;simp only[bD,Act.put,Uac];have tD:=aa (Below.trans HB.ae (hL.mono HB.ae.size));have Tm:=aa (Wc.ae.later hL);have Ad:=aa (HP.ae.later hL);have QQ:=aa (Kh.ae.later hL);have uZ:=aa (HG.ae.later hL);have HWB:=aa agb;have HWL:=aa hL.size;have HWS:=aa HB.ae.size;clear HB Wc HP Kh HG hL agb Bi oz oK HTE;go_wp2_with fail;refine(vP gb FO (nj res) _ Ad.ae).mono ?_;rintro e w5 ⟨rfl,ID,Jm⟩;have QR:=aa ID;have vd:=aa (cq tD.ae Jm M7.ae);have HO:=aa (Tm.ae.grown Jm (Tm.ae.other Ad.ae WC));have MN:=aa (QQ.ae.grown Jm (QQ.ae.other Ad.ae WC));have VF:=aa (uZ.ae.grown Jm Ad.ae WC WC WC WC);have AB:=aa (show∀l,res=.ok l->aH aV 44 3 w5 B0 a16 l from λ l hl=>by
    have h1:=HWB.ae
    rw[hl] at h1
    exact h1.2.grown Jm (h1.2.other Ad.ae WC))
   clear ID Jm tD Tm Ad QQ uZ HWB
   cases res with
   | error er=>
     have hne:=GH jM.ae;have t1:(nj (.error er)==0)=false:=by show(er==0)=false;simp[hne]
     have xi:=aa M8.ae.1;have qu:=aa M8.ae.2;clear hne AB;go_wp2_with fail;go_roundw
     case rel=>
      refine⟨k+1,xs,hlt,by go_num,vd.ae,HO.ae,?_,MN.ae,VF.ae,?_⟩
      ·rw[qu.ae];exact QR.ae
      ·rw[xi.ae];simpa using HI.ae
     case measure=>exact Za2
   | ok l=>have xi:=aa (show fo cols (aL++aF.flatMap Tr.args) (zs.take (k+1))=ls++ [l] from M8.ae.1);have qu:=aa (show dW cols (aL++aF.flatMap Tr.args) (zs.take (k+1))=nx FO 0 from M8.ae.2);have AJ:=aa (Dg jM.ae);have LT:=aa (Di QF.ae.2 oC.ae jM.ae);open zhU in exact Zgn
  ·have fJ:k=zs.length:=by omega
   subst fJ;have HTT:=aa (show zs.take zs.length=zs from take_length);rw[HTT.ae] at HP HI;go_wp2_with fail;exact HK.ae _ _ (HH.ae _ u10 xs _ rfl rfl rfl HB.ae HP.ae Kh.ae HG.ae HI.ae)):p:=h
theorem M5 (w0:World)(gp gb gn:Nat)(aL aF:List Tr)(cols:List aX)(yg ya ye:List Ex)(GA:Option Addr)(gc:Nat)(CA:Option Addr)(cc:Nat)(AA:Option Addr)(ac:Nat)(zs:List aW)(RA:Option Addr)(rrc:Nat)(av lv:Value)(xs0:List gH)(T:Array Value)(hT:T.size=164)
  (h0:T.getD 0 undef=aw gp) (h1:T.getD 1 undef=.slice RA zs.length rrc) (h6:T.getD 6 undef=av) (h9:T.getD 9 undef=aw gb) (h10:T.getD 10 undef=lv) (d:List Deferred) (w:World) (Q:Exit->Act->World->Prop)
  (hF:Dj w0 gp aL aF cols yg ya GA gc CA cc AA ac) (ih:yg.length=gn) (q1:Tr.aO w0 (Old w0) (aF.flatMap Tr.args) ye) (q2:ya.map Ex.n=aF.map λ t=>t.args.length) (q3:ya.map Ex.op=aF.map Tr.op) (q4:∀t∈aF,isAgg t.op=true) (q5:∀t∈aF,t.args.length<=2) (Az:Tr.cO (aL++aF.flatMap Tr.args))
  (TG:yg.length<=1000) (D9:ya.length<=100000) (hz:ye.length<=100000) (ND:cols.length<=140737488355328)
  (Gz:RR w0 w0.heap.size RA zs) (NW:zs.length<=300) (kH:∀r∈zs,r.l.length<=140737488355328/\∀v∈r.l,v.Ok)
  (hX:aj w0 w) (ft:aH bF 46 7 w w0.heap.size av ye) (hP:aB w gb 84 #[af 0]) (aoN:w0.heap.size<=gb) (aZ:aH df 135 1 w w0.heap.size lv (xs0.map gH.g)) (fF:kz w w0.heap.size xs0) (hI0:om gn aF xs0 [] [])
  (h:∀(T':Array Value) lv' xs W,T'.size=164->T'.getD 9 undef=aw gb->T'.getD 10 undef=lv'->aj w0 W->aB W gb 84 #[af (dW cols (aL++aF.flatMap Tr.args) zs)]->aH df 135 1 W w0.heap.size lv' (xs.map gH.g)->kz W w0.heap.size xs->om gn aF xs (fo cols (aL++aF.flatMap Tr.args) zs) (fo cols (aL++aF.flatMap Tr.args) zs)->(fA gU 7).wp Tryz.prog Q { tmps:=T',defers:=d } W):
  (fA gU 6).wp Tryz.prog Q { tmps:=T,defers:=d } w:=by
 obtain⟨M0,M3,avh,_⟩:=rL ft;subst avh;obtain⟨f,rfl⟩:=JC T hT;have h0:f 0=_:=h0;have h1:f 1=_:=h1;have h6:f 6=_:=h6;have h9:f 9=_:=h9;have h10:f 10=_:=h10;simp only[frg,h0,h1,h6,h9,h10];clear h0 h1 h6 h9 h10;clear h0 h1 h6 h9 h10 hT;have hh:=λ(T':Array Value) lv' xs W a0 a1 a2 a3 a4 a5 a6 a7=>h T' lv' xs W a0 a1 a2 a3 a4 a5 a6 a7
 simp only[gU,fA,Tryz.f33,Option.getD_some] at hh;have HH:=aa hh;clear hh;open zcR in exact Zbd
def agf (v:Val):R.Val:=⟨v.k,v.n,v.s⟩
mutual
def O5:Tr->R.Tr
 | .mk op v name width args=> .mk op (agf v) name width (rM args)
def rM:List Tr->List R.Tr
 | []=> []
 | t::ts=>O5 t::rM ts
end
def MS (y:Ex):R.Ex:=⟨y.op,agf y.v,y.name,y.width,y.A,y.n,y.c⟩
theorem wK:∀ts:List Tr,(rM ts).length=ts.length
 | []=>by simp[rM]
 | t::ts=>by simp[rM,wK ts]
variable{S:Nat->Prop}
theorem api(h:Yw w S A ys):R.RL R.bF 7 w S A (ys.map MS):=by
 rcases h with rfl |⟨b,off,Kx,h2,h3⟩
 ·exact .inl rfl
 ·refine .inr ⟨b,off,Kx,h2,λ i x j u h1 hu=>?_⟩;rw[getElem?_map] at h1
  cases hy:ys[i]? with
  | none=>rw[hy] at h1;cases h1
  | some y=>
    rw[hy] at h1;injection h1 with h1;subst h1;obtain⟨k0,k1,k2,k3,k4,k5,k6⟩:=h3 i y hy
    match j,hu with
    | 0,hu=>injection hu with hu;subst hu;exact k0
    | 1,hu=>injection hu with hu;subst hu;exact k1
    | 2,hu=>injection hu with hu;subst hu;exact k2
    | 3,hu=>injection hu with hu;subst hu;exact k3
    | 4,hu=>injection hu with hu;subst hu;exact k4
    | 5,hu=>injection hu with hu;subst hu;exact k5
    | 6,hu=>injection hu with hu;subst hu;exact k6
    | n+7,hu=>simp[R.bF] at hu
mutual
theorem Tw {w:World} {S:Nat->Prop}:∀(t:Tr) (y:Ex),t.at_ w S y->(O5 t).at_ w S (MS y)
 | .mk op v name width args,y,h=>by unfold Tr.at_ at h;obtain⟨h1,h2,h3,h4,h5,ys,h6,h7⟩:=h;unfold O5 R.Tr.at_;exact⟨h1,by rw[<- h2];rfl,h3,h4,by rw[wK];exact h5,ys.map MS,api h6,GI args ys h7⟩
theorem GI {w:World} {S:Nat->Prop}:∀(ts:List Tr) (ys:List Ex),Tr.aO w S ts ys->R.Tr.aO w S (rM ts) (ys.map MS)
 | [],ys,h=>by unfold Tr.aO at h;subst h;unfold rM R.Tr.aO;rfl
 | t::ts,ys,h=>by unfold Tr.aO at h;obtain⟨y,ys',rfl,h1,h2⟩:=h;unfold rM R.Tr.aO;exact⟨MS y,ys'.map MS,rfl,Tw t y h1,GI ts ys' h2⟩
end
mutual
theorem Tx:∀t:R.Tr,O5 (pY t)=t
 | .mk op v name width args=>by unfold pY O5;rw[MT args];rfl
theorem MT:∀ts:List R.Tr,rM (gL ts)=ts
 | []=>by unfold gL rM;rfl
 | t::ts=>by unfold gL rM;rw[Tx t,MT ts]
end
theorem GJ:∀ts:List R.Tr,gL ts=ts.map pY
 | []=>by unfold gL;rfl
 | t::ts=>by unfold gL;rw[GJ ts];rfl
theorem Wh (d:R.Qu):(fk d).all=({ kind:=8,query:=d }:R.St).exprs.map pY:=by unfold Qy.all fk R.St.exprs R.Qu.exprs;simp only[GJ,map_map,map_append,append_assoc,flatten_nil,map_nil,nil_append];rfl
end Go.Proofs.YtndgjggokjickaaGreatDoor
namespace Go.Proofs.YtndgjggokjickaaGreatDoor.R
set_option maxHeartbeats 90000000
set_option maxRecDepth 100000
open Go.ChangeShapes Go.WideShapes Go.ChangeAt Go.RowKit List
set_option linter.unusedVariables false
set_option linter.unusedSimpArgs false
def XU:Obj:=.cells #[ag 0,au,az,au,af 0,au,af 0,az,au,.bool false,az,az,az,az,az,ag 0,au,af 0,af 0,az,az,az,ag 0,af 0,au,ag 0,af 0,au] 64
variable{P:Program}{ops:Array Oper}{rest:List Oper}{o:Oper}{a:Act}{w:World}{Q:Exit->Act->World->Prop}{cs:Array Value}
theorem Ae(hg:o.guard=none)(t:TypeId)(parts:Array (Nat×Operand))(ho:o.op=.build t parts) 
  (hv:P.built t (parts.map λ(i,x)=>(i,a.eval x)).toList=some cs) (h:wpList P ops Q rest (a.put o.dst (.agg cs)) w):wpList P ops Q (o::rest) a w:=
 wpList_build hg t parts ho (by rw[hv];rfl) (by rw[hv];exact h)
theorem O6 (qy:xR):Tryz.prog.built 64 [(0,ag 8),(7,quV qy)]=some (sM { kind:=8,query:=qy }).toArray:=by exact Zgu
def uM (l:dI)(d:Qu)(r:dI):Prop:=∀(ρ:dv) (w:World),ρ.at w (.good l) false->ar 134 #[ρ.ptr] w λ e w'=>∃y:xR,e=.returned (quV y)/\d.at_ w' (jo w.heap.size w') y/\eE ρ w w' (.good r) false
def tI (d:Qu):St:= { kind:=8,query:=d }
variable{t:Wd}{l r:dI}{d:Qu}
theorem O7(hse:iY fj t=true)(H:uM (t::l) d r)(ρ:dv)(w:World)(h:ρ.at w (.good (t::l)) false):
  ar 86 #[ρ.ptr] w λ e w'=>∃y:xR,e=.returned (stV { kind:=8,query:=y })/\d.at_ w' (jo w.heap.size w') y/\eE ρ w w' (.good r) false:=by
 have dZ:=h.FW;obtain⟨tk,pl,bd,hpl,hlt,hsm,uq,cf,hg,Ij,uV,hp⟩:=h.vZ;obtain⟨r',mY⟩:=hg (t::l) rfl;injection mY with lT htr;have hb:=ai.then (ah w XU) (ah _ XU);have h0:=h.later hb;have XD:=(aB.new w 64 st0).alloc XU;have HQ:=aa XD;have HH:=aa h;have HR:=aa H;have avn:=aa (show(cg.good (t::l)).head (⟨#[115,101,108,101,99,116]⟩:ByteArray).data.toList=true from hse);clear XD h hg cf uq hse hpl H;rw[show Obj.cells st0 64=XU from rfl] at HQ;unfold XU at*;clear htr;go_enter Tryz.func86,Tryz.ntmps86;go_wp2_with fail;refine(lL ρ _ _ false h0 ⟨#[115,101,108,101,99,116]⟩).mono ?_;rintro e w1 ⟨rfl,b1⟩;rw[avn.ae];have hb1:=ai.then hb b1
 have Vh:=aa (HQ.ae.later b1);clear HQ h0 b1 hb lT hp;go_wp2_with fail;refine(HR.ae ρ _ (HH.ae.later hb1)).mono ?_;rintro e w3 ⟨qy,rfl,hqd,d3⟩;have HQ:=aa (d3.blk Vh.ae Tq);have HD:=aa ((eE.cZ HH.ae hb1).trans d3);have HS:=aa hqd;have hs9:w.heap.size+1<=w1.heap.size:=Vh.ae.lt;clear d3 hqd Vh HH;go_wp2_with (first
  |(refine Ae rfl 64 _ rfl (cs:=(sM { kind:=8,query:=qy }).toArray) ?hv ?_;rotate_left)
  |(refine wpList_store_row rfl 64 (.tmp 2) (.tmp 8) rfl w.heap.size (sM { kind:=8,query:=qy }).toArray rfl rfl 64 st0 HQ.ae TaE rfl (Qb _) ?_
    have HR:=aa (HQ.ae.row (sM { kind:=8,query:=qy }).toArray)
    have HF:=aa (HD.ae.row dZ (Nat.le_refl _) (sM { kind:=8,query:=qy }).toArray)
    have qu:=aa (Qu.at_.keep (jf (show w.heap.size<=w.heap.size+1 by omega)) (Qu.at_.keep (Tg w3 (show w.heap.size < w.heap.size+1 by omega) (sM { kind:=8,query:=qy }).toArray) (Qu.at_.keep (jf hs9) HS.ae)))))
 case hv=>exact O6 qy
 exact bodyPost_ret (v:=stV { kind:=8,query:=qy }) (results_cell_row Tryz.results86 _ _ w.heap.size 64 (sM { kind:=8,query:=qy }).toArray (0,0) _ rfl HR.ae Tryz.underlying64 rfl TaE) rfl ⟨qy,rfl,qu.ae,HF.ae⟩
def MU (d:Qu)(w:World)(e:Ending)(w':World):Prop:=∃y:xR,e=.returned (.tuple #[stV { kind:=8,query:=y },af 0,af 0])/\d.at_ w' (jo w.heap.size w') y/\aj w w'
variable{t0:Wd}{r0:dI}
theorem adw(s:ByteArray)(w:World)(hs:s.size<=4294967280) {l:List qX}(hl:zO s.data.toList=.ok l)   (q5:l.map (·.w)=t0::r0)(hse:iY fj t0=true)(H:uM (t0::r0) d (t::r))(D9:t.k=0)(TG:(tI d).exprs.length<=1000)(Az:∀x∈(tI d).exprs,x.thin/\x.depth<=32):ar 52 #[.string s] w (MU d w):=by
 obtain⟨_,hlen,q4⟩:=Td hl;have hne:l≠ []:=by intro h;rw[h] at q5;cases q5
 have HSE:=aa (λ ρ w h=>O7 hse H ρ w h);have HEN:=aa (Vv hl);have Q4:=aa q4;have Q5:=aa q5;have oC:=aa Az;have G6:=aa TG;have Aa:=aa D9;clear q4 q5 Az TG hse H D9;have XD:=aB.new w 64 st0;rw[show Obj.cells st0 64=XU from rfl] at XD;have HQ:=aa XD;clear XD;unfold XU at*;go_enter Tryz.func52,Tryz.ntmps52;go_wp2_with fail;refine(acG hl hs).mono ?_;rintro e w1 ⟨A,c,rfl,ht,b1⟩;obtain⟨gl,rfl,hgb,zX,hc⟩:=ht.cells hne;have Vh:=aa (HQ.ae.later b1);have HB:=aa (ai.then (ah w _) b1);have hR:=dv.start (c:=c) zX hc HEN.ae hlen Q4.ae;rw[Q5.ae] at hR;have HR:=aa hR;have JZ:w.heap.size < w1.heap.size:=Vh.ae.lt;clear ht hc b1 HQ hR hgb hne;go_wp2_with fail;refine(HSE.ae ⟨w1.heap.size,gl,c,l⟩ _ HR.ae).mono ?_;rintro e w2 ⟨qy,rfl,hat,dd⟩;obtain⟨y,hy⟩:∃y:E5,y= { kind:=8,query:=qy }:=⟨_,rfl⟩;rw[<- hy];have HY:=aa hy;clear hy;rw[show(w1.alloc _).heap.size=w1.heap.size+1 by simp] at hat;have bJ:w1.heap.size <(w1.alloc (.cells #[aI gl l.length c,af 0,af (-1),.bool false] 169)).heap.size:=by simp
 have lq:=dd.blk (Vh.ae.alloc _) Tbe;have hs2:w1.heap.size+1<=w2.heap.size:=by have:=dd.size;simpa using this
 have HD3:=aa ((dd.later (ah w2 XU)).row bJ (by rw[show(w1.alloc _).heap.size=w1.heap.size+1 by simp];exact hs2) (sM y).toArray);have HY3:=aa ((aB.new w2 64 st0).row (sM y).toArray);have mX:=aa ((lq.alloc XU).acO (q:=w2.heap.size) Tq (sM y).toArray);have apj:=aa (Qu.at_.keep (Mk w2 XU (sM y).toArray) hat);have fG:=aa (show aj w (w1.alloc (.cells #[aI gl l.length c,af 0,af (-1),.bool false] 169))from ai.then HB.ae (ah w1 _));clear dd hat lq Vh HR HB;rw[show(Obj.cells st0 64)=XU from rfl] at HY3;unfold XU at*;go_wp2_with (first
  |(refine wpList_store_row rfl 64 (.tmp 9) (.tmp 27) rfl w2.heap.size (sM y).toArray rfl rfl 64 st0 (aB.new w2 64 st0) TaE rfl (Qb _) ?_))
 generalize ((w2.alloc _).setRow _ _)=W3 at*;refine(cj ⟨w1.heap.size,gl,c,l⟩ _ _ _ HD3.ae.at_ ⟨#[59]⟩ (by show((t.k==1 || t.k==4)&& t.s==ahq)=false;rw[Aa.ae];rfl)).mono ?_;rintro e w4 ⟨rfl,d4⟩;have HD:=aa (HD3.ae.trans d4);have F3:=aa (d4.blk mX.ae Tbe);have HY4:=aa (d4.blk HY3.ae (by show w2.heap.size≠w1.heap.size;omega));have aiR:=aa (Qu.at_.keep (lK d4.grown (show w1.heap.size < w1.heap.size+1 by omega)) apj.ae);clear d4 HD3 mX HY3 apj;have L8:=aa (fG.ae.trans (cq HD.ae.grown fG.ae.size (by show w.heap.size<=w1.heap.size;omega)));obtain⟨tk,pl,bd,hpl,apk,amA,uq,cf,hg,Ij,uV,hp⟩:=HD.ae.at_.vZ;obtain⟨r',mY⟩:=hg _ rfl;injection mY with lT _;have D9:=Aa.ae;rw[lT] at D9;obtain rfl:bd= -1:=uq;obtain⟨c0,c1,c2,k0,k1,k2,k3⟩:=hp;simp only at c0 c1 c2 k0 k1 k2 k3;have apk:pl < l.length:=apk;have aBQ:(pl:Int)< l.length:=by omega
 clear hg cf hpl lT;rw[D9] at k0;have c3:=HD.ae.at_.facts.2.2.2.1;simp only at c3;clear HD hl D9;go_wp2_with (first
  |(refine wpList_load_row rfl 64 (.tmp 9) rfl w2.heap.size rfl 64 (sM y).toArray (0,0) _ HY4.ae Tryz.underlying64 rfl TaE ?_))
 clear c0 c1 c2 c3 k0 k1 k2 k3;have hq9:d.at_ w4 (Old w4) qy:=Qu.at_.keep (λ b KK=>⟨λ _=>rfl,KK.2⟩) aiR.ae;have hqa:=Tk hq9;have hst:(sM y).toArray=acR 8 (fk d) (Qc qy):=by rw[HY.ae];unfold acR fk Qc;rw[<- hq9.bS,<- hq9.only];rfl
 have key:=uA (k:=8) (fk d) (Qc qy) w4 hqa.1 (by
  have h:=G6.ae
  simp only[tI,St.exprs,Qu.exprs,length_append,length_map,flatten_nil,length_nil,map_nil] at h
  simp only[fk,lD,length_map]
  omega)
 rw[<- hst] at key;have HE:=aa (show(fk d).all=(tI d).exprs.map pY from Wh d);clear hqa hst hq9;refine key.mono ?_;rintro e w5 ⟨v,ys,rfl,hown,hall,b5⟩;obtain⟨sA,sc,rfl,GF⟩:=rL hown;have HQ5:=aa (F3.ae.later b5);have HY5:=aa (HY4.ae.later b5);have avo:=aa (Qu.at_.keep (iU b5) aiR.ae);have vd:=aa (ai.then L8.ae b5);have QF:=aa GF;have Cb:=aa (hall.later b5);obtain⟨sn,PY⟩:∃sn,sn=ys.length:=⟨_,rfl⟩;have HNL:=aa (show sn=(tI d).exprs.length by rw[PY,Go.Proofs.YtndgjggokjickaaGreatDoor.Tr.aO.length hall,HE.ae,length_map]);have Ez:sn<=1000:=by rw[HNL.ae];exact G6.ae
 rw[<- PY];clear b5 GF hall hown PY key F3 HY4 aiR L8;go_wp2_with fail;go_loopw [11] (λ u wr=>∃i:Nat,i<=sn/\u=af i/\aj w5 wr) (λ u _=>sn - (intOf u).toNat);case atStart=>exact Zgv
 case round=>
  obtain⟨i,hi,rfl,hb⟩:=hrel;have jN:=aa hb;have HQr:=aa (HQ5.ae.later hb);have HYr:=aa (HY5.ae.later hb);by_cases hlt:i < sn
  ·obtain⟨x,hx⟩:∃x,(tI d).exprs[i]?=some x:=⟨_,getElem?_eq_getElem (by have:=HNL.ae;omega)⟩;obtain⟨yx,hyx,apl⟩:=Cb.ae.get (t:=pY x) (i:=i) (by rw[HE.ae,getElem?_map,hx];rfl);have apm:x.at_ w5 (Old w5) (MS yx):=by have h:=Tw _ _ apl;rwa [Tx] at h
   have adx:=oC.ae x (mem_of_getElem? hx);have oC:=aa (Tr.amV (w:=w5) (S:=Old w5) (λ b KK=>KK) x (MS yx) apm adx.1 (by have:=adx.2;omega) wr hb);rcases QF.ae with h0 |⟨b,off,hAe,hSb,hcell⟩
   ·subst h0;simp at hyx
   obtain⟨q0,q1,q2,q3,Kx,Lw,q6⟩:=(hcell i yx hyx).keep (λ o=>hb.cell (p:=⟨b,o,none⟩) hSb);have hdi:¬((x.depth:Int)> 32):=by have:=adx.2;omega
   clear hcell hx hyx apl apm adx;subst hAe;go_wp2_with fail;clear q0 q1 q2 q3 Kx Lw q6;refine oC.ae.mono ?_;rintro e w6 ⟨rfl,b6⟩;go_wp2_with fail;go_roundw;case rel=>exact⟨i+1,by omega,by go_num,jN.ae.trans (b6.mono jN.ae.size)⟩
   case measure=>exact Za2
  ·obtain rfl:i=sn:=by omega
   have avq:=aa (Qu.at_.keep (iU hb) avo.ae);have HBr:=aa (ai.then vd.ae hb);clear hb;go_wp2_with (first
    |(refine wpList_load_row rfl 64 (.tmp 9) rfl w2.heap.size rfl 64 (sM y).toArray (0,0) _ HYr.ae Tryz.underlying64 rfl TaE ?_)
    |(refine wpList_store_row rfl 64 (.tmp 2) (.tmp 82) rfl w.heap.size (sM y).toArray rfl rfl 64 st0 HQr.ae TaE rfl (Qb _) ?_
      have HR9:=aa (HQr.ae.row (sM y).toArray)
      have HS9:=aa (show Qu.at_ (wr.setRow w.heap.size (sM y).toArray) (jo w.heap.size (wr.setRow w.heap.size (sM y).toArray)) d qy from Qu.at_.keep (jf (show w.heap.size<=w1.heap.size+1 by omega)) (Qu.at_.keep (Tg wr (show w.heap.size < w1.heap.size+1 by omega) (sM y).toArray) avq.ae))
      have QU:=aa (HBr.ae.trans (cq (Gi wr w.heap.size (sM y).toArray) HBr.ae.size (Nat.le_refl _)))))
   exact bodyPost_ret (v:=.tuple #[stV y,af 0,af 0]) (Jf Tryz.results52 _ _ w.heap.size 64 (sM y).toArray (0,0) _ (af 0) (af 0) rfl HR9.ae Tryz.underlying64 rfl (by rw[show Array.size (sM y).toArray=28 from rfl];exact pA) rfl rfl) rfl ⟨qy,by rw[HY.ae],HS9.ae,QU.ae⟩
def nB (t:Wd):Bool:=t.k==1 && !tu t.s && !iY Pk t && !iY Aw t && !iY ZA t && !iY eC t && !iY Zz t && !iY sD t
def uB (u:Wd):Bool:=kO 0 u==0 && kO 1 u==0 && kO 4 u==0 && kO 5 u==0 && !iY ack u
theorem zl(h:nB t=true):LM t/\t.k=1/\tu t.s=false/\∀l,xQ (t::l):=by simp only[nB,Bool.and_eq_true,beq_iff_eq,Bool.not_eq_true'] at h;obtain⟨⟨⟨⟨⟨⟨⟨k,a⟩,b⟩,c⟩,d⟩,e⟩,f⟩,g⟩:=h;exact⟨⟨⟨by omega,by omega⟩,b,c,d,e⟩,k,a,λ l=>⟨f,g⟩⟩
variable{u:Wd}
theorem Dm(h:uB u=true):FZ u:=by simp only[uB,Bool.and_eq_true,beq_iff_eq,Bool.not_eq_true'] at h;exact⟨h.1.1.1.1,h.1.1.1.2,h.1.1.2,h.1.2,h.2⟩
theorem GK(r:dI)(h:nB t=true)(ho:iY eC u=false)(hu:uB u=true)(h3:kO 3 u=0):cT 0 (t::u::r) (ui ⟨t.s.toArray⟩) (u::r):=
 LU (LN (zl h).1 (zl h).2.1 (zl h).2.2.1 ho) ((zl h).2.2.2 _) (Dm hu) h3
abbrev nW (s:List UInt8):Wd:=⟨1,s,0⟩
abbrev gW (s:List UInt8):Wd:=⟨4,s,0⟩
abbrev iW (n:Int):Wd:=⟨2,[],n⟩
abbrev eW:Wd:=⟨0,[],0⟩
abbrev tW:Wd:=nW [116,105,109,101]
abbrev vW:Wd:=nW [118]
def kT:Tr:=ui ⟨#[116,105,109,101]⟩
def kV:Tr:=ui ⟨#[118]⟩
def rN:Tr:=.mk 20 jL ByteArray.empty 5 [kT]
abbrev O8 (r:dI):dI:=nW BS::gW eC::iW 5::gW dM::tW::gW ez::r
theorem O9(r:dI)(hu:uB u=true)(h3:kO 3 u=0):cT 0 (O8 (u::r)) rN (u::r):=
 LU (LS 20 rfl (zl rfl).1 rfl rfl rfl rfl rfl rfl (GK _ rfl rfl rfl rfl) rfl) ⟨rfl,rfl⟩ (Dm hu) h3
def XV:Qu:= { items:=[(rN,ByteArray.empty),(Av 23 [kV],ByteArray.empty)],bS:=⟨#[116]⟩,group:=[rN] }
def XW:Qu:= { items:=[(kV,ByteArray.empty)],bS:=⟨#[116]⟩,cC:=[Av 14 [kT,tx ⟨2,1,ByteArray.empty⟩]],order:=[(kV,true)],dx:=[1] }
def P0:Qu:= { items:=[(kV,ByteArray.empty)],bS:=⟨#[116]⟩,group:=[kT] }
def XX:Qu:= { items:=[(Av 21 [],ByteArray.empty)],bS:=⟨#[116]⟩,cC:=[tx ⟨1,0,ByteArray.empty⟩] }
def wd0:dI:=O8 (gW dM::nW ZC::gW eC::vW::gW ez::nW xF::nW [116]::nW Ax::nW Pl::O8 [eW])
def wd1:dI:=[vW,nW xF,nW [116],nW IG,tW,gW ahr,iW 1,nW II,nW Pl,vW,nW Pm,nW IJ,iW 1,eW]
def wd2:dI:=[vW,nW xF,nW [116],nW Ax,nW Pl,tW,eW]
def wd3:dI:=[nW IK,gW eC,gW xG,gW ez,nW xF,nW [116],nW IG,nW Aw,eW]
theorem avr:uM (nW fj::wd0) XV [eW]:=
 AD rfl rfl (.cons (O9 _ rfl rfl) rfl rfl (.one (LU (C7 23 ⟨rfl,rfl,rfl,rfl⟩ (zl rfl).1 rfl rfl rfl rfl (GK _ rfl rfl rfl rfl) rfl) ⟨rfl,rfl⟩ (Dm rfl) rfl) rfl rfl)) WC rfl rfl rfl rfl (.none rfl) (.some rfl rfl rfl (O9 _ rfl rfl)) rfl (.none rfl) (.none rfl)
theorem avs:uM (nW fj::wd1) XW [eW]:=
 AD rfl rfl (.one (GK _ rfl rfl rfl rfl) rfl rfl) WC rfl rfl rfl rfl (.some rfl (amS 14 WC WC (Dm rfl) rfl (LN (zl rfl).1 rfl rfl rfl) ⟨rfl,rfl⟩ (C5 rfl) ⟨rfl,rfl⟩ (Dm rfl))) (.none rfl) rfl (.some rfl rfl rfl rfl (GK _ rfl rfl rfl rfl)) (.some rfl rfl)
theorem avt:uM (nW fj::wd2) P0 [eW]:=
 AD rfl rfl (.one (GK _ rfl rfl rfl rfl) rfl rfl) WC rfl rfl rfl rfl (.none rfl) (.some rfl rfl rfl (GK _ rfl rfl rfl rfl)) rfl (.none rfl) (.none rfl)
theorem avu:uM (nW fj::wd3) XX [eW]:=
 AD rfl rfl (.one (LU (Vs 22 rfl (zl rfl).1 rfl rfl rfl rfl rfl rfl) ⟨rfl,rfl⟩ (Dm rfl) rfl) rfl rfl) WC rfl rfl rfl rfl (.some rfl (LU (PK ⟨by decide,by decide⟩ rfl rfl) ⟨rfl,rfl⟩ (Dm rfl) rfl)) (.none rfl) rfl (.none rfl) (.none rfl)
variable{s:ByteArray}{W:dI}
theorem AK(hl:(match zO s.data.toList with | .ok l=>l.map (·.w)| .error _=> [])=nW fj::W)(hs:s.size<=1000)(H:uM (nW fj::W) d [eW])(hnx:(tI d).exprs.length<=1000)(hdx:∀x∈(tI d).exprs,x.thin/\x.depth<=32)(w:World):ar 52 #[.string s] w (MU d w):=by
 cases e:zO s.data.toList with
 | error x=>rw[e] at hl;cases hl
 | ok l=>rw[e] at hl;exact adw s w Tq e hl rfl H rfl hnx hdx
theorem apn:∀x∈(tI XV).exprs,x.thin/\x.depth<=32:=by simp[tI,XV,St.exprs,Qu.exprs,rN,kT,kV,Av,tx,ui,Tr.thin,Tr.ze,Tr.depth,Tr.iC]
theorem apo:∀x∈(tI XW).exprs,x.thin/\x.depth<=32:=by simp[tI,XW,St.exprs,Qu.exprs,rN,kT,kV,Av,tx,ui,Tr.thin,Tr.ze,Tr.depth,Tr.iC]
theorem apq:∀x∈(tI P0).exprs,x.thin/\x.depth<=32:=by simp[tI,P0,St.exprs,Qu.exprs,rN,kT,kV,Av,tx,ui,Tr.thin,Tr.ze,Tr.depth,Tr.iC]
theorem apr:∀x∈(tI XX).exprs,x.thin/\x.depth<=32:=by simp[tI,XX,St.exprs,Qu.exprs,rN,kT,kV,Av,tx,ui,Tr.thin,Tr.ze,Tr.depth,Tr.iC]
end Go.Proofs.YtndgjggokjickaaGreatDoor.R
namespace Go.Proofs.YtndgjggokjickaaGreatDoor
variable{p:Prop}
set_option maxHeartbeats 90000000
set_option maxRecDepth 100000
open Go.ChangeShapes Go.WideShapes Go.ChangeAt Go.RowKit List
set_option linter.unusedVariables false
set_option linter.unusedSimpArgs false
variable{w w':World}
theorem wL{p:Nat} (h:aj w w'):w.grownBy w' (some p):=⟨h.os,h.tape,h.output,h.size,λ k hk _=>h.block k hk⟩
variable{g:Nat}
theorem ew(h:w.grownBy w' (some g))(i:Nat)(v:Value):w.grownBy (w'.setCell ⟨g,i,none⟩ v) (some g):=
 ⟨h.os,h.tape,h.output,by simpa [World.setCell] using h.size,λ k hk hne=>(Below.heap_setCell w' ⟨g,i,none⟩ v k (λ e=>hne Ta9)).trans (h.block k hk hne)⟩
theorem Dn (m:R.E5):(R.sM m).toArray.size=28:=by simp[R.sM,R.LV,R.E6]
theorem ady (m:R.E5):(R.sM m).toArray.all (·.oneCell')=true:=by simp[R.sM,R.LV,R.nL,R.E6,Value.oneCell']
theorem P3:(Tryz.prog.info? 64).map (·.size)=some 28:=by exact Zgu
def aiS:Array Value:=(R.sM {}).toArray
theorem P5 (m:R.xR):(R.LV m).toArray.size=8:=by simp[R.LV]
theorem P6:(Tryz.prog.info? 27).map (·.size)=some 8:=by exact Zgu
def adz:Array Value:=(R.LV {}).toArray
def JG:ByteArray:=⟨#[115,101,108,101,99,116,32]⟩
def P7 (d:R.Qu)(w:World)(e:Ending)(w':World):Prop:=∃y:R.xR,e=.returned (R.quV y)/\d.at_ w' (Old w') y/\aj w w'
theorem P8 (s:ByteArray)(d:R.Qu)(hs:(JG++s).size<=1000)(hp:∀w,ar 52 #[.string (JG++s)] w (R.MU d w))(w:World):ar 25 #[.string s] w (P7 d w):=by
 have HP:=aa hp;have VX:=aB.new w 27 adz;have hB:=ah w (.cells adz 27);clear hp;go_enter Tryz.func25,Tryz.ntmps25;go_upto_region 1 with fail;change Code.wp _ _ _ _ (w.alloc (.cells adz 27));generalize w.alloc _=W1 at*;obtain⟨g,hg⟩:∃g,g=w.heap.size:=⟨_,rfl⟩;rw[<- hg] at VX ⊢;have hz:w.heap.size<=g:=by omega
 have hgW:=VX.lt;clear hg;have hz1:¬9223372036854775807 < 7+s.size:=by have h:=hs;rw[ByteArray.size_append] at h;have:JG.size=7:=rfl;omega
 go_wp2_with fail;refine(HP.ae W1).mono ?_;rintro e uv ⟨qy,rfl,hat,b1⟩;obtain⟨y,hy⟩:∃y:R.E5,y= { kind:=8,query:=qy }:=⟨_,rfl⟩;rw[<- hy];replace hat:d.at_ uv (R.jo W1.heap.size uv) y.query:=by rw[hy];exact hat
 clear hy;have c4:=aa hat;replace VX:=VX.later b1;replace hB:=ai.then hB b1
 clear hat HP;obtain⟨cs,hcs⟩:∃cs,cs=(R.sM y).toArray:=⟨_,rfl⟩;have C9:=aa (show(Tryz.prog.info? 64).map (·.size)=some cs.size by rw[hcs,Dn];exact P3);have LR:=aa (show aiS.size=cs.size by rw[hcs,Dn];exact Dn _);have xP:=aa (show cs.all (·.oneCell')=true by rw[hcs];exact ady _);have NP:=aa hcs;unfold R.stV;rw[<- hcs];clear hcs b1 hz1;have HX0:=ah uv (.cells cs 64);have H3:=aB.new uv 64 cs;have hg:=VX.lt;go_upto_region 2 with (first
  |(refine wpList_store_row rfl 64 (.tmp 3) (.tmp 10) rfl uv.heap.size cs rfl rfl 64 aiS (aB.new uv 64 aiS) C9.ae LR.ae xP.ae ?_
    rw[World.setRow_alloc_new]))
 change Code.wp _ _ _ _ (uv.alloc (.cells cs 64));have avv:=aa (R.Qu.at_.keep (R.iU HX0) c4.ae);replace VX:=VX.later HX0;replace hB:=ai.then hB HX0;have l3:w.heap.size<=uv.heap.size:=by omega
 clear HX0 C9 LR xP c4;generalize uv.alloc _=Ta at*;generalize uv.heap.size=qx at*;have c0:Ta.cell? ⟨qx,7,none⟩=some (R.nL y.query.items):=(H3.cell 7).trans Tax;have c1:Ta.cell? ⟨qx,8,none⟩=some (.string y.query.bS):=(H3.cell 8).trans Tax;have c2:Ta.cell? ⟨qx,9,none⟩=some (.bool y.query.only):=(H3.cell 9).trans Tax;have c3:Ta.cell? ⟨qx,10,none⟩=some (R.nL y.query.cC):=(H3.cell 10).trans Tax;have Kx:Ta.cell? ⟨qx,11,none⟩=some (R.nL y.query.group):=(H3.cell 11).trans Tax;have c5:Ta.cell? ⟨qx,12,none⟩=some (R.nL y.query.having):=(H3.cell 12).trans Tax;have c6:Ta.cell? ⟨qx,13,none⟩=some (R.nL y.query.order):=(H3.cell 13).trans Tax;have c7:Ta.cell? ⟨qx,14,none⟩=some (R.nL y.query.dx):=(H3.cell 14).trans Tax;unfold R.nL at c0 c3 Kx c5 c6 c7;have Gu:=VX.frozen;have z:∀j u,adz[j]?=some u->Ta.cell? ⟨g,j,none⟩=some u:=λ j u h=>(VX.cell j).trans h
 have k0:=z 0 _ rfl;have k1:=z 1 _ rfl;have k2:=z 2 _ rfl;have k3:=z 3 _ rfl;have k4:=z 4 _ rfl;have k5:=z 5 _ rfl;have k6:=z 6 _ rfl;have z7:=z 7 _ rfl;have HR0:=((((((((VX.aT 0 (.slice y.query.items.A y.query.items.n y.query.items.c)).aT 1 (.string y.query.bS)).aT 2 (.bool y.query.only)).aT 3 (.slice y.query.cC.A y.query.cC.n y.query.cC.c)).aT 4 (.slice y.query.group.A y.query.group.n y.query.group.c)).aT 5 (.slice y.query.having.A y.query.having.n y.query.having.c)).aT 6 (.slice y.query.order.A y.query.order.n y.query.order.c)).aT 7 (.slice y.query.dx.A y.query.dx.n y.query.dx.c));have xT:=aa (ew (ew (ew (ew (ew (ew (ew (ew (wL (p:=g) (Below.refl Ta.heap.size Ta)) 0 (.slice y.query.items.A y.query.items.n y.query.items.c)) 1 (.string y.query.bS)) 2 (.bool y.query.only)) 3 (.slice y.query.cC.A y.query.cC.n y.query.cC.c)) 4 (.slice y.query.group.A y.query.group.n y.query.group.c)) 5 (.slice y.query.having.A y.query.having.n y.query.having.c)) 6 (.slice y.query.order.A y.query.order.n y.query.order.c)) 7 (.slice y.query.dx.A y.query.dx.n y.query.dx.c));have L8:=aa ((((((((hB.setCell (p:=⟨g,0,none⟩) hz (.slice y.query.items.A y.query.items.n y.query.items.c)).setCell (p:=⟨g,1,none⟩) hz (.string y.query.bS)).setCell (p:=⟨g,2,none⟩) hz (.bool y.query.only)).setCell (p:=⟨g,3,none⟩) hz (.slice y.query.cC.A y.query.cC.n y.query.cC.c)).setCell (p:=⟨g,4,none⟩) hz (.slice y.query.group.A y.query.group.n y.query.group.c)).setCell (p:=⟨g,5,none⟩) hz (.slice y.query.having.A y.query.having.n y.query.having.c)).setCell (p:=⟨g,6,none⟩) hz (.slice y.query.order.A y.query.order.n y.query.order.c)).setCell (p:=⟨g,7,none⟩) hz (.slice y.query.dx.A y.query.dx.n y.query.dx.c))
 have HR:=aa (show aB _ g 27 (R.LV y.query).toArray from HR0);clear z VX hB HR0 H3;go_wp2_with fail;have HQ:=R.Qu.at_.keep (λ b hb=>((R.lK xT.ae hgW) b hb).imp id λ h=>h.2) avv.ae;exact bodyPost_ret (v:=R.quV y.query) (results_cell_row Tryz.results25 _ _ g 27 (R.LV y.query).toArray (0,0) _ rfl HR.ae Tryz.underlying27 rfl (by rw[P5];exact P6)) rfl ⟨y.query,rfl,HQ,L8.ae⟩
theorem sV (s:ByteArray)(d:R.Qu)(hs:(JG++s).size<=1000)(hp:∀w,ar 52 #[.string (JG++s)] w (R.MU d w))(w:World):ar 25 #[.string s] w λ e w'=>∃L,e=.returned (oy (fk d) L)/\pW w' (fk d) L/\aj w w':=by refine(P8 s d hs hp w).mono ?_;rintro e w1 ⟨y,rfl,hat,b⟩;obtain⟨h1,h2⟩:=Tk hat;exact⟨Qc y,by rw[h2],h1,b⟩
def N5 (n:Nat):Prop:=n<=5
def adA (s:St):Val×Int:=if s.op=21 then(num s.all,0)else s.total
variable{op:Int}
theorem aiT(h:op=21\/op=23)(l:List (Val×Val)):gF (jt op l)=adA (jt op l):=by
 rcases h with rfl | rfl
 ·have hr:=sx (op:=21) Tq Tq l;have h:=IC (s:=jt 21 l) ⟨num (jt 21 l).all,0,by unfold gI;rw[hr.kind];simp⟩;unfold gI at h;rw[hr.kind] at h;simp only[if_pos] at h;unfold adA;rw[hr.kind,if_pos rfl];exact Prod.ext h.1 h.2
 ·have hr:=sx (op:=23) Tq Tq l;have h:=IC (s:=jt 23 l) ⟨(jt 23 l).total.1,(jt 23 l).total.2,by unfold gI;rw[hr.kind];simp⟩;unfold gI at h;rw[hr.kind] at h;unfold adA;rw[hr.kind,if_neg WC];rw[if_neg WC,if_neg WC,if_pos rfl] at h;exact Prod.ext h.1 h.2
def wM (ops:List Int)(l:List (List Val×List (Val×Val)))(k:List Val):List (Val×Int):=(List.range ops.length).map λ i=>adA (jt (ops.getD i 0) (nV i l k))
variable{ops:List Int}
theorem Wi(h:∀op∈ops,op=21\/op=23)(l:List (List Val×List (Val×Val)))(k:List Val):cY ops l k=wM ops l k:=by
 unfold cY wM;refine map_congr_left λ i hi=>?_
 rw[mem_range] at hi;exact aiT (h _ (by rw[getD_eq_getElem?_getD,getElem?_eq_getElem hi];exact getElem_mem hi)) _
def JH (ng:Nat)(aF:List Tr)(l:List (List Val)):Except Int (List (List Val)):=
 let ps:=l.map λ r=>(r.take ng,fw aF (r.drop ng))
 let ks:=if ng=0 then [[]] else gK (ps.map (·.1))
 let e:=dh (ks.map λ k=>cM (wM (aF.map Tr.op) ps k))
 if e≠0 then .error e else .ok (ks.map λ k=>k++(wM (aF.map Tr.op) ps k).map (·.1))
variable{ng:Nat}
theorem P9{aF:List Tr}(h:∀op∈aF.map Tr.op,op=21\/op=23)(l:List (List Val)):fK ng aF l=JH ng aF l:=by unfold fK JH;simp only[Wi h]
def Q0 (q:Qy)(p:iX)(cols:List aX)(rows:List (List Val)):Except Int (List (List Val)):=
 if (cE cols q.cC rows).2≠0 then .error (cE cols q.cC rows).2
 else if p.aK=false then .ok (cE cols q.cC rows).1
 else match uh ((cE cols q.cC rows).1.map λ r=>bu cols r (q.aL++p.st.aF.flatMap Tr.args))with
 | .error e=> .error e
 | .ok l=>match JH q.aL.length p.st.aF l with
   | .error e=> .error e
   | .ok gs=>if (cE p.st.aL p.having gs).2≠0 then .error (cE p.st.aL p.having gs).2 else .ok (cE p.st.aL p.having gs).1
def aiU (p:iX)(cols:List aX)(rows:List (List Val)):Except Int (List eG):=
 uh (rows.map λ r=>match bu (iT p cols) r (p.items++p.order)with | .error e=> .error e | .ok l=> .ok (Sx p r l))
def aps (q:Qy)(cols:List aX)(rows:List (List Val)):Except Int (List aX×List (List Val)):=
 match et q cols with
 | .error e=> .error e
 | .ok p=>if rows.any (λ r=> !iR cols r)=true then .error 40
   else match Q0 q p cols rows with
   | .error e=> .error e
   | .ok left=>match aiU p cols left with
     | .error e=> .error e
     | .ok ls=> .ok (p.head,((match q.lim with | []=>kZ (q.ord.map λ o:Tr×Bool=>o.2) ls | n::_=>(kZ (q.ord.map λ o:Tr×Bool=>o.2) ls).take n.toNat).map eG.row))
def sW (q:Qy)(cols:List aX):Bool:=match et q cols with
 | .error _=>true
 | .ok p=>(p.st.aF.map Tr.op).all λ op=>op==21 || op==23
variable{q:Qy}{cols:List aX}
theorem Ty(h:sW q cols=true)(rows:List (List Val)):lx q cols rows=aps q cols rows:=by
 unfold lx aps;unfold sW at h
 cases hp:et q cols with
 | error e=>rfl
 | ok p=>
   rw[hp] at h;have jC:∀op∈p.st.aF.map Tr.op,op=21\/op=23:=λ op ho=>by have:=List.all_eq_true.1 h op ho;simpa using this
   have hl:nX q p cols rows=Q0 q p cols rows:=by unfold nX Q0;simp only[P9 jC];rfl
   show(if _ then _ else match nX q p cols rows with | .error e=>_ | .ok left=>match nC p cols left with | .error e=>_ | .ok ls=>_)=_;rw[hl];rfl
def mr:List aX:=[⟨⟨#[116,105,109,101]⟩,2⟩,⟨⟨#[118]⟩,2⟩]
def wN:List (List Val):=[[num 1,num 5],[num 2,num 7],[num 6,num 1]]
def t0B:ByteArray:=⟨#[98,117,99,107,101,116,40,53,44,32,116,105,109,101,41,44,32,115,117,109,40,118,41,32,102,114,111,109,32,116,32,103,114,111,117,112,32,98,121,32,98,117,99,107,101,116,40,53,44,32,116,105,109,101,41]⟩
theorem apt (w:World):ar 52 #[.string (JG++t0B)] w (R.MU R.XV w):=R.AK (W:=R.wd0) T8 WC R.avr WC R.apn w
theorem adB:sW (fk R.XV) mr=true:=by exact Zgu
def QW:List aX:=match et (fk R.XV) mr with | .ok p=>p.head | .error _=> []
theorem adC:lx (fk R.XV) mr wN=.ok (QW,[[num 0,num 12],[num 5,num 1]]):=by rw[Ty adB];exact Zgu
def t1B:ByteArray:=⟨#[118,32,102,114,111,109,32,116,32,119,104,101,114,101,32,116,105,109,101,32,62,32,49,32,111,114,100,101,114,32,98,121,32,118,32,100,101,115,99,32,108,105,109,105,116,32,49]⟩
theorem apu (w:World):ar 52 #[.string (JG++t1B)] w (R.MU R.XW w):=R.AK (W:=R.wd1) T8 WC R.avs WC R.apo w
theorem adD:sW (fk R.XW) mr=true:=by exact Zgu
def QX:List aX:=match et (fk R.XW) mr with | .ok p=>p.head | .error _=> []
theorem adE:lx (fk R.XW) mr wN=.ok (QX,[[num 7]]):=by rw[Ty adD];exact Zgu
def t2B:ByteArray:=⟨#[118,32,102,114,111,109,32,116,32,103,114,111,117,112,32,98,121,32,116,105,109,101]⟩
theorem apv (w:World):ar 52 #[.string (JG++t2B)] w (R.MU R.P0 w):=R.AK (W:=R.wd2) T8 WC R.avt WC R.apq w
theorem adF:sW (fk R.P0) mr=true:=by exact Zgu
theorem adG:lx (fk R.P0) mr wN=.error 42:=by rw[Ty adF];exact Zgu
def t3B:ByteArray:=⟨#[99,111,117,110,116,40,42,41,32,102,114,111,109,32,116,32,119,104,101,114,101,32,102,97,108,115,101]⟩
theorem apw (w:World):ar 52 #[.string (JG++t3B)] w (R.MU R.XX w):=R.AK (W:=R.wd3) T8 WC R.avu WC R.apr w
theorem adH:sW (fk R.XX) mr=true:=by exact Zgu
def QY:List aX:=match et (fk R.XX) mr with | .ok p=>p.head | .error _=> []
theorem adI:lx (fk R.XX) mr wN=.ok (QY,[[num 0]]):=by rw[Ty adH];exact Zgu
theorem zdu.KaG(h:p:=by clear VX hB HB;go_wp2_with fail;exact bodyPost_ret (v:=.agg #[ag 2,af n,au]) (results_cell_row Tryz.results27 _ _ g 44 _ (0,0) _ rfl HR.ae Tryz.underlying44 rfl rfl) rfl ⟨rfl,L8.ae⟩):p:=h
theorem zfW.Kbu(h:p:=by
 rw[<- hg] at VX ⊢;have hz:w.heap.size<=g:=by omega
 clear hg;have HB:=aa hB;have HR:=(((VX.aT 0 (ag 2)).aT 1 (af n)).aT 2 (au));have L8:=aa (((hB.setCell (p:=⟨g,0,none⟩) hz (ag 2)).setCell (p:=⟨g,1,none⟩) hz (af n)).setCell (p:=⟨g,2,none⟩) hz (au));have HR:=aa (show aB _ g 44 #[ag 2,af n,au] from HR);open zdu in exact ZbK):p:=h
theorem fD (n:Int)(w:World):ar 27 #[af n] w λ e w'=>e=.returned (.agg #[ag 2,af n,au])/\aj w w':=by have hB:=ah w (.cells #[ag 0,af 0,au] 44);have VX:=aB.new w 44 #[ag 0,af 0,au];go_enter Tryz.func27,Tryz.ntmps27;open zfW in exact Zd7
variable{a b:Int}
theorem Dp(h:aB w g 44 #[ag 2,af a,au,ag 2,af b,au]):RV w w.heap.size (some ⟨g,0,none⟩) [num a,num b]:=by
 refine .inr ⟨_,0,rfl,h.lt,λ i x hx=>?_⟩
 match i,hx with
 | 0,hx=>exact Zhd
 | 1,hx=>injection hx with hx;subst hx;exact⟨h.cell 3,h.cell 4,h.cell 5⟩
 | n+2,hx=>cases hx
theorem zif.Kco(h:p:=by
 clear b1;have K4:=aa (aB.new (w6.alloc (.cells #[ag 2,af 6,au,ag 2,af 1,au] 44)) 38 #[aI w2.heap.size 2 2,aI w4.heap.size 2 2,aI w6.heap.size 2 2]);generalize World.alloc (World.alloc w6 _) _=W at*;rw[World.size_alloc] at K4;refine bodyPost_ret (v:=.tuple #[aI w.heap.size 2 2,aI (w6.heap.size+1) 3 3]) (by simp[results,Tryz.results24,go_sem];done) rfl ?_;refine⟨some ⟨w.heap.size,0,none⟩,2,some ⟨w6.heap.size+1,0,none⟩,3,[⟨some ⟨w2.heap.size,0,none⟩,[num 1,num 5],2⟩,⟨some ⟨w4.heap.size,0,none⟩,[num 2,num 7],2⟩,⟨some ⟨w6.heap.size,0,none⟩,[num 6,num 1],2⟩],rfl,?_,?_,rfl,HB.ae⟩
 ·refine .inr ⟨_,0,rfl,HC.ae.lt,λ i x hx=>?_⟩
  match i,hx with
  | 0,hx=>injection hx with hx;subst hx;exact⟨HC.ae.cell 0,HC.ae.cell 1⟩
  | 1,hx=>injection hx with hx;subst hx;exact⟨HC.ae.cell 2,HC.ae.cell 3⟩
  | n+2,hx=>cases hx
 ·refine .inr ⟨_,0,rfl,K4.ae.lt,λ i x hx=>?_⟩
  match i,hx with
  | 0,hx=>injection hx with hx;subst hx;exact⟨K4.ae.cell 0,Dp HK.ae⟩
  | 1,hx=>injection hx with hx;subst hx;exact⟨K4.ae.cell 1,Dp Q3.ae⟩
  | 2,hx=>injection hx with hx;subst hx;exact⟨K4.ae.cell 2,Dp K3.ae⟩
  | n+3,hx=>cases hx):p:=h
theorem Wj (w:World):ar 24 #[] w λ e w'=>∃CA cc RA rc rs,e=.returned (.tuple #[.slice CA mr.length cc,.slice RA rs.length rc])/\RC w' w'.heap.size CA mr/\RR w' w'.heap.size RA rs/\rs.map (·.l)=wN/\aj w w':=by
 go_enter Tryz.func24,Tryz.ntmps24;go_wp2_with fail;have HB:=aa (ah w (.cells #[.string ⟨#[116,105,109,101]⟩,ag 2,.string ⟨#[118]⟩,ag 2] 113));have HC:=aa (aB.new w 113 #[.string ⟨#[116,105,109,101]⟩,ag 2,.string ⟨#[118]⟩,ag 2]);refine(fD _ _).mono ?_;rintro e w1 ⟨rfl,b1⟩;replace HC:=aa (HC.ae.later b1);replace HB:=aa (ai.then HB.ae b1);clear b1;go_wp2_with fail;refine(fD _ _).mono ?_;rintro e w2 ⟨rfl,b1⟩;replace HC:=aa (HC.ae.later b1);replace HB:=aa (ai.then HB.ae b1);clear b1;go_wp2_with fail;have b1:=ah w2 (.cells #[ag 2,af 1,au,ag 2,af 5,au] 44);replace HC:=aa (HC.ae.later b1);replace HB:=aa (ai.then HB.ae b1);clear b1;have HK:=aa (aB.new w2 44 #[ag 2,af 1,au,ag 2,af 5,au]);refine(fD _ _).mono ?_;rintro e w3 ⟨rfl,b1⟩;replace HC:=aa (HC.ae.later b1);replace HK:=aa (HK.ae.later b1);replace HB:=aa (ai.then HB.ae b1);clear b1;go_wp2_with fail;refine(fD _ _).mono ?_;rintro e w4 ⟨rfl,b1⟩;replace HC:=aa (HC.ae.later b1);replace HK:=aa (HK.ae.later b1);replace HB:=aa (ai.then HB.ae b1);clear b1;go_wp2_with fail;have b1:=ah w4 (.cells #[ag 2,af 2,au,ag 2,af 7,au] 44);replace HC:=aa (HC.ae.later b1);replace HK:=aa (HK.ae.later b1);replace HB:=aa (ai.then HB.ae b1);clear b1;have Q3:=aa (aB.new w4 44 #[ag 2,af 2,au,ag 2,af 7,au]);refine(fD _ _).mono ?_;rintro e w5 ⟨rfl,b1⟩;replace HC:=aa (HC.ae.later b1);replace HK:=aa (HK.ae.later b1);replace Q3:=aa (Q3.ae.later b1);replace HB:=aa (ai.then HB.ae b1);clear b1;go_wp2_with fail;refine(fD _ _).mono ?_;rintro e w6 ⟨rfl,b1⟩;replace HC:=aa (HC.ae.later b1)
 replace HK:=aa (HK.ae.later b1);replace Q3:=aa (Q3.ae.later b1);replace HB:=aa (ai.then HB.ae b1);clear b1;go_wp2_with fail;have b1:=ah w6 (.cells #[ag 2,af 6,au,ag 2,af 1,au] 44);replace HC:=aa (HC.ae.later b1);replace HK:=aa (HK.ae.later b1);replace Q3:=aa (Q3.ae.later b1);replace HB:=aa (ai.then HB.ae b1);clear b1;have K3:=aa (aB.new w6 44 #[ag 2,af 6,au,ag 2,af 1,au]);have b1:=ah (w6.alloc (.cells #[ag 2,af 6,au,ag 2,af 1,au] 44)) (.cells #[aI w2.heap.size 2 2,aI w4.heap.size 2 2,aI w6.heap.size 2 2] 38);open zif in exact Zhj
def x6V (vx:Val)(gv b off n cc k:Nat)(ct:Int)(gd nz ne:Bool):Nat->World->Value->Prop
 | 0,_,v=>v=.agg (aD vx)
 | 1,_,v=>v=(cond gd (.bool true) (.bool false))
 | 2,_,v=>v=(cond gd (.bool false) (.bool true))
 | 3,_,v=>v=(cond gd (.bool false) (.bool true))
 | 4,_,v=>v=(cond gd (aw gv) (undef))
 | 5,_,v=>v=(cond gd (ag vx.k) (undef))
 | 6,_,v=>v=(cond gd ((cond nz (.bool true) (.bool false))) (undef))
 | 7,_,v=>v=(cond gd ((cond nz (.bool true) (.bool false))) (undef))
 | 8,_,v=>v=(cond gd ((cond nz (aw gv) (undef))) (undef))
 | 9,_,v=>v=(cond gd ((cond nz (ag vx.k) (undef))) (undef))
 | 10,_,v=>v=(cond gd ((cond nz (.slice (some ⟨b,off,none⟩) n cc) (undef))) (undef))
 | 11,_,v=>v=(cond gd ((cond nz (af k) (undef))) (undef))
 | 12,_,v=>v=(cond gd ((cond nz (ba b (off+k*2)) (undef))) (undef))
 | 13,_,v=>v=(cond gd ((cond nz (ba b (off+k*2+1)) (undef))) (undef))
 | 14,_,v=>v=(cond gd ((cond nz (ag ct) (undef))) (undef))
 | 15,_,v=>v=(cond gd ((cond nz ((cond ne (.bool true) (.bool false))) (undef))) (undef))
 | 16,_,v=>v=(cond gd ((cond nz ((cond ne (.bool true) (.bool false))) (.bool false))) (undef))
 | 17,_,v=>v=(cond gd ((cond nz ((cond ne (.bool true) (.bool false))) (.bool false))) (.bool true))
 | _,_,_=>False
theorem Wk (vx:Val)(gv b off n cc k:Nat)(ct:Int)(gd nz ne:Bool):∀i w w' v,x6V vx gv b off n cc k ct gd nz ne i w v->ai w w'->x6V vx gv b off n cc k ct gd nz ne i w' v:=by
 intro i w w' v h hl
 match i with
 | 0 | 1 | 2 | 3 | 4 | 5 | 6 | 7 | 8 | 9 | 10 | 11 | 12 | 13 | 14 | 15 | 16 | 17=>exact h
 | n+18=>exact h
variable{c:aX}{v:Val}{cs:List aX}{vs:List Val}
theorem oq:iR (c::cs) (v::vs)=(FN c v && iR cs vs):=rfl
theorem MV:∀ {cs:List aX} {vs:List Val},cs.length≠vs.length->iR cs vs=false
 | [],[],h=>absurd rfl h
 | [],_::_,_=>rfl
 | _::_,[],_=>rfl
 | c::cs,v::vs,h=>by rw[oq,MV (λ e=>h (by simp[e])),Bool.and_false]
theorem zg4.KbT(h:p:=by
 have h1:_=_:=hr.2.1;have KK:(k:Int)<(cols.length:Int):=by omega
 exact aq (w':=w3) (by simp[go_sem,h0,h1,KK,td,dC];done) ⟨ai.refl _,rfl⟩):p:=h
theorem zg5.KbT(h:p:=by have jq:=(hL.cell (p:=⟨Kx,azU+k*2+1,none⟩) HBS.ae).trans HCT.ae;exact ZdD):p:=h
theorem zg6.KbT(h:p:=by have h1:_=_:=hr.2.1;have e1:=nJ.ae.2 rfl;exact ZgC):p:=h
theorem zg7.KbT(h:p:=by have h1:_=_:=hr.2.1;have e1:=nJ.ae.1 rfl;exact ZgC):p:=h
theorem Q6 (cols:List aX)(CA:Option Addr)(cc:Nat)(row:List Val)(RA:Option Addr)(rc:Nat)(w:World)(oB:cols.length<=140737488355328)(HZ:row.length<=140737488355328)(kX:RC w w.heap.size CA cols)(hg4:RV w w.heap.size RA row):
  ar 31 #[.slice CA cols.length cc,.slice RA row.length rc] w λ e w'=>e=.returned (.bool (iR cols row))/\aj w w':=by
 have HI:=aa kX;have Kg:=aa hg4;have HX:=aa oB;have uX:=aa HZ;clear kX hg4 oB HZ;obtain⟨rt,hrt⟩:∃rt,rt=iR cols row:=⟨_,rfl⟩;rw[<- hrt];have Lr:=aa hrt;clear hrt;by_cases hl:cols.length=row.length
 case neg=>
  have hr:rt=false:=by rw[Lr.ae];exact MV hl
  subst hr;have t1:((cols.length:Int) !=(row.length:Int))=true:=by simp;omega
  have t2:decide ((cols.length:Int)=(row.length:Int))=false:=by simp;omega
  have t3:decide (cols.length=row.length)=false:=by simp[hl]
  have hb:=Below.refl w.heap.size w;clear hl;go_enter Tryz.func31,Tryz.ntmps31;exact Zdm
 have t1:((cols.length:Int) !=(row.length:Int))=false:=by simp[hl]
 have t2:decide ((cols.length:Int)=(row.length:Int))=true:=by simp[hl]
 have t3:decide (cols.length=row.length)=true:=by simp[hl]
 have AJ:=aa hl;clear hl;go_enter Tryz.func31,Tryz.ntmps31;go_wp2_with fail;clear t1 t2 t3;go_loopw [14] (λ i wr=>∃k:Nat,k<=row.length/\i=af k/\rt=iR (cols.drop k) (row.drop k)/\aj w wr) (λ i _=>row.length - (intOf i).toNat);case atStart=>exact⟨0,Nat.zero_le _,rfl,Lr.ae,Below.refl _ _⟩
 case round=>
  clear Lr;obtain⟨k,hk,rfl,hp,hb⟩:=hrel;have HP:=aa hp;clear hp;have HZ:=uX.ae;by_cases hlt:k < row.length
  ·have td:k < cols.length:=by have:=AJ.ae;omega
   obtain⟨b2,aBV,rfl,hb1,hx⟩:=(Kg.ae.below hb).at_ hlt;obtain⟨Kx,azU,rfl,hb2,Sj⟩:=(HI.ae.below hb).at_ td;have IW:=aa (show cols.drop k=cols[k]::cols.drop (k+1)from drop_eq_getElem_cons td);have Kf:=aa (show row.drop k=row[k]::row.drop (k+1)from drop_eq_getElem_cons hlt);generalize row[k]=v at*;generalize cols[k]=c at*;unfold ed at hx;unfold mL at Sj;go_upto_region 6 with fail;have HG:=aB.new wr 44 (aD v);have bV:=ah wr (.cells (aD v) 44);have hct:=(bV.cell (p:=⟨Kx,azU+k*2+1,none⟩) (Nat.lt_of_lt_of_le hb2 hb.size)).trans Sj.2;have HCT:=aa hct;have hB:=ai.then hb bV;have JY:Kx <(wr.alloc (.cells (aD v) 44)).heap.size:=Nat.lt_of_lt_of_le (Nat.lt_of_lt_of_le hb2 hb.size) bV.size;have HBS:=aa JY;generalize wr.alloc _=W2 at*;obtain⟨g8,XK⟩:∃g8,g8=wr.heap.size:=⟨_,rfl⟩;rw[<- XK] at HG ⊢;clear XK hx Sj hct bV JY;obtain⟨gd,hgd⟩:∃gd,gd=good v:=⟨_,rfl⟩
   obtain⟨nz,hnz⟩:∃nz:Bool,(nz=true->v.k≠0)/\(nz=false->v.k=0):=by
    by_cases h:v.k=0
    ·exact⟨false,λ h=> Taa,λ _=>h⟩
    ·exact Zgy
   obtain⟨ne,hne⟩:∃ne:Bool,(ne=true->v.k≠c.t)/\(ne=false->v.k=c.t):=by
    by_cases h:v.k=c.t
    ·exact⟨false,λ h=> Taa,λ _=>h⟩
    ·exact Zgy
   have NY:=aa hgd;have Ki:=aa hnz;have nJ:=aa hne;clear hgd hnz hne;refine bB 18 (x6V v g8 Kx azU cols.length cc k c.t gd nz ne) (Wk _ _ _ _ _ _ _ _ _ _ _) T8 T8 T8 ?_ ?_
   ·simp only[take_succ_cons,take_zero];refine⟨?_,?_,Zht,Zht,?_,?_,?_,?_,ZaY,?_,ZaY,ZaY,?_,ZaY,?_,?_,?_,?_,trivial⟩
    ·intro ρ w3 hc hL hr;exact ZcU
    ·intro ρ w3 hc hL hr;cases gd
     ·exact Zdu
     ·exact Zdu
    ·intro ρ w3 hc hL hr;cases gd
     ·exact Zbr
     ·exact Zfl
    ·intro ρ w3 hc hL hr;cases gd
     ·exact Zbr
     ·skip;intro hg;have hg:ρ (.tmp 22)=.bool false:=hg;refine⟨λ _=>?_,λ hn=>absurd hg hn⟩;exact ZcU
    ·intro ρ w3 hc hL hr;cases gd
     ·exact ZfZ
     ·skip;cases nz
      ·skip;cases ne
       ·exact Zdf
       ·exact Zdf
      ·skip;cases ne
       ·exact Zdg
       ·exact Zdg
    ·intro ρ w3 hc hL hr;cases gd
     ·skip;cases nz
      ·exact Zbr
      ·exact Zbr
     ·skip;cases nz
      ·exact Zfl
      ·exact Zfl
    ·intro ρ w3 hc hL hr;cases gd
     ·exact Zf4
     ·skip;cases nz
      ·exact ZcK
      ·skip;intro hg;have hg:ρ (.tmp 26)=.bool true:=hg;refine⟨λ _=>?_,λ hn=>absurd hg hn⟩;exact ZcU
    ·intro ρ w3 hc hL hr;cases gd
     ·exact Zf4
     ·skip;cases nz
      ·exact ZcK
      ·open zg4 in exact ZeY
    ·intro ρ w3 hc hL hr;cases gd
     ·exact Zf4
     ·skip;cases nz
      ·exact ZcK
      ·open zg5 in exact ZeY
    ·intro ρ w3 hc hL hr;cases gd
     ·skip;cases nz
      ·skip;cases ne
       ·exact ZbB
       ·exact ZbB
      ·skip;cases ne
       ·exact ZbB
       ·exact ZbB
     ·skip;cases nz
      ·skip;cases ne
       ·exact ZcK
       ·exact ZcK
      ·skip;cases ne
       ·open zg6 in exact ZeY
       ·open zg7 in exact ZeY
    ·intro ρ w3 hc hL hr;cases gd
     ·exact ZfZ
     ·skip;cases nz
      ·skip;cases ne
       ·exact Zcz
       ·exact Zcz
      ·skip;cases ne
       ·exact Zcz
       ·exact Zcz
    ·intro ρ w3 hc hL hr;cases gd
     ·skip;cases nz
      ·exact Zfa
      ·exact Zfa
     ·skip;cases nz
      ·exact Zfa
      ·exact Zfa
   intro W3 hL;simp only[Uab];rintro a0 - a1 - a2 - a3 - a4 - a5 - a6 - a7 - a8 - a9 - FM - J3 - a12 - a13 - a14 - a15 - a16 - _ rfl;simp only[bD,Act.put,Uac];have hW:=ai.then hB hL;clear HG HCT HBS hB hL hb;cases gd
   ·skip;have hr:rt=false:=by rw[HP.ae,IW.ae,Kf.ae,oq];unfold FN;rw[<- NY.ae];rfl
    exact ZgT
   ·cases nz
    ·skip;have hr:rt=iR (cols.drop (k+1)) (row.drop (k+1)):=by rw[HP.ae,IW.ae,Kf.ae,oq];unfold FN;rw[<- NY.ae];rw[Ki.ae.2 rfl];rfl
     have HR:=aa hr;clear hr HP IW Kf NY Ki nJ;exact ZcE
    ·cases ne
     ·skip;have hr:rt=iR (cols.drop (k+1)) (row.drop (k+1)):=by rw[HP.ae,IW.ae,Kf.ae,oq];unfold FN;rw[<- NY.ae];rw[nJ.ae.2 rfl];simp
      have HR:=aa hr;clear hr HP IW Kf NY Ki nJ;exact ZcE
     ·skip
      have hr:rt=false:=by
       rw[HP.ae,IW.ae,Kf.ae,oq];unfold FN;rw[<- NY.ae];have e1:(v.k==0)=false:=by have:=Ki.ae.1 rfl;simpa using this
       have e2:(v.k==c.t)=false:=by have:=nJ.ae.1 rfl;simpa using this
       rw[e1,e2];rfl
      exact ZgT
  ·have fJ:k=row.length:=by omega
   have hr:rt=true:=by rw[HP.ae,drop_eq_nil_of_le (by have:=AJ.ae;omega),drop_eq_nil_of_le Tq];rfl
   subst hr;exact Zdm
end Go.Proofs.YtndgjggokjickaaGreatDoor
