/- Parts of the proof. -/
import Derived.Test.YtehhdlgjfdnafaaGreatDoorXB19
import Derived.Test.YtehhdlgjfdnafaaGreatDoorXB21
namespace Go.Proofs.YtehhdlgjfdnafaaGreatDoor
variable{p:Prop}
set_option maxHeartbeats 90000000
set_option maxRecDepth 100000
open Go.Lib (hid)
open Go.ChangeShapes Go.WideShapes Go.ChangeAt Go.RowKit Go.Shelf List
set_option linter.unusedVariables false
set_option linter.unusedSimpArgs false
variable{w0 ws W:World}{b n gx gf:Nat}{s:Option aV}{v:Val}{name:ByteArray}{width:Int}{A:Option Addr}{k cp:Nat}{T:Array Value}
theorem zeg.Ka4(h:p:=by
 go_upto_region 8 with fail;go_cut [87] (λ _ wx=>qg w0 b (aq s (bg C)) n ws wx gx gf ⟨2,⟨vk,vn,vs⟩,name,width,A,k,cp⟩)
 case first=>
  have Kr:∀(q:Bool) W',q=C->qg w0 b s n ws W' gx gf ⟨2,⟨vk,vn,vs⟩,name,width,A,k,cp⟩->Calls Tryz.prog 36 #[.pointer (some ⟨b,0,none⟩),.bool q] W' λ e w'=>e=.returned (.tuple #[])/\qg w0 b (aq s (bg C)) n ws w' gx gf ⟨2,⟨vk,vn,vs⟩,name,width,A,k,cp⟩:=λ q W' hq h1=>(bh q W' h1.st).mono λ e w' h2=>by subst hq;exact⟨h2.1,h1.next hx hf h2.2.1 h2.2.2⟩
  have MS:=hid Kr;clear Kr;by_cases c1:k=0
  ·subst c1;by_cases c2:vk=0
   ·subst c2;by_cases c3:vn=0
    ·subst c3;by_cases c4:vs.toList=[]
     ·skip;by_cases c5:width=0
      ·subst c5;have jL:=hid (show true=C by rw[HC.out];simp[oP,c4]);exact Zas
      ·skip;have t5:(width==0)=false:=by simpa using c5
       have jL:=hid (show false=C by rw[HC.out];simp[oP,c4,c5]);exact Zas
     ·exact Zg3
    ·skip;have t3:(vn==0)=false:=by simpa using c3
     exact Zhl
   ·skip;have t2:(vk==0)=false:=by simpa using c2
    exact Zhm
  ·skip;have t1:((k:Int)==0)=false:=by simpa using c1
   have jL:=hid (show false=C by rw[HC.out];simp[oP,c1]);exact Zas
 case rest=>
 have HW:=hid hcut;clear hcut HH HC x0 x1 x2 x3 x4 x5 x6;obtain⟨x0,x1,x2,x3,x4,x5,x6⟩:=HW.out.x.cells;dsimp only at x0 x1 x2 x3 x4 x5 x6;go_wp2_with fail;refine(ey hE name wc HW.out.st (hw.trans HW.out.did.below) hs Taa).mono ?_;rintro e w5 ⟨rfl,h5,d5⟩;have H5:=hid (HW.out.next hx hf h5 d5);clear h5 d5 HW x0 x1 x2 x3 x4 x5 x6;exact ZdH):p:=h
theorem zeV.Kbh(h:p:=by obtain⟨vk,vn,vs⟩:=v;have HH:=hid h;clear h;obtain⟨C,hC⟩:∃C:Bool,C=(k==0 &&(oP ⟨vk,vn,vs⟩&& width==0)):=⟨_,rfl⟩;rw[<- hC];have HC:=hid hC;clear hC;open zeg in exact ZbH):p:=h
theorem zaG.Kac(h:p:=by open zeV in exact Zcf):p:=h
theorem aem(hE:dy w0)(hw:Below w0.heap.size w0 ws)(hs:name.size<=1048576)(hn:n<=49999990)(hT:Hx T b gx gf (2))(h:qg w0 b s n ws W gx gf ⟨2,v,name,width,A,k,cp⟩)(hx:gx≠b)(hf:gf≠b):
  (ja sk 3).wp Tryz.prog (bodyPost Tryz.prog Tryz.f60 (ba w0.heap.size b (aq s (aq (bg (k==0 &&(oP v && width==0))) (dx name))) (n+1) ws)) { tmps:=T,defers:=[] } W:=by
 open zaG in exact Zac
theorem zeh.Ka4(h:p:=by
 have hb0:(decide ((k:Int)=0)&& bF v name width)=(k==0 && bF v name width):=by congr 1;rw[Bool.eq_iff_iff];simp
 go_upto_region 11 with fail;go_wp2_with fail;refine(js ⟨21,v,name,width,A,k,cp⟩ 0 W).mono ?_;rintro e w1 ⟨rfl,b1⟩;have H1:=hid (HH.out.later hsz b1);rw[hb0];clear HH b1 x0 x1 x2 x3 x4 x5 x6;go_wp2_with fail;refine(bh _ w1 H1.out.st).mono ?_;rintro e w2 ⟨rfl,h2,d2⟩;have H2:=hid (H1.out.next hx hf h2 d2);clear h2 d2 H1;go_wp2_with fail;refine(cA ⟨#[99,111,117,110,116,40,42,41]⟩ w2 H2.out.st Tab Taa).mono ?_;rintro e w5 ⟨rfl,h5,d5⟩;have H5:=hid (H2.out.next hx hf h5 d5);clear h5 d5 H2;exact ZdH):p:=h
theorem zeW.Kbh(h:p:=by have HH:=hid h;clear h;open zeh in exact ZbH):p:=h
theorem zaH.Kac(h:p:=by open zeW in exact Zcf):p:=h
theorem aen(hE:dy w0)(hw:Below w0.heap.size w0 ws)(hn:n<=49999990)(hT:Hx T b gx gf (21))(h:qg w0 b s n ws W gx gf ⟨21,v,name,width,A,k,cp⟩)(hx:gx≠b)(hf:gf≠b):
  (ja sk 3).wp Tryz.prog (bodyPost Tryz.prog Tryz.f60 (ba w0.heap.size b (aq s (aq (bg (k==0 && bF v name width)) (some [99,111,117,110,116,40,42,41]))) (n+1) ws)) { tmps:=T,defers:=[] } W:=by
 open zaH in exact Zac
def gb:List Nat->Nat->Nat
 | _,0=>0
 | [],_+1=>0
 | a::l,i+1=>a+3+gb l i
theorem jE (l:List Nat):gb l 0=0:=by cases l <;> rfl
theorem uE:∀(l:List Nat) (i:Nat),i < l.length->gb l i+(l.getD i 0+3)=gb l (i+1)
 | [],i,h=>by simp at h
 | a::l,0,_=>by show 0+(a+3)=a+3+gb l 0;rw[jE];omega
 | a::l,i+1,h=>by have:=uE l i Tam;show a+3+gb l i+(l.getD i 0+3)=a+3+gb l (i+1);omega
theorem ze (l:List Nat):∀(j i:Nat),i<=j->j<=l.length->gb l i<=gb l j
 | 0,i,h,_=>by rw[Nat.le_zero.1 h];exact Nat.le_refl _
 | j+1,i,h,hj=>by
   rcases Nat.lt_or_ge i (j+1)with h1 | h1
   ·have:=ze l j i Taa Taa;have:=uE l j hj;omega
   ·rw[show i=j+1 by omega];exact Nat.le_refl _
variable{S:Nat->Prop}{q off:Nat}{ys:List Ex}{i:Nat}{z:Ex}
theorem vR(hS:∀b,S b->b < w0.heap.size)  (hq:S q)(hc:∀i y j u,ys[i]?=some y->(aT y)[j]?=some u->w0.cell? ⟨q,off+i*7+j,none⟩=some u)  (hz:ys[i]?=some z):xr w0 q (off+i*7) z:=
 ⟨hS q hq,hc i z 0 _ hz rfl,hc i z 1 _ hz rfl,hc i z 2 _ hz rfl,hc i z 3 _ hz rfl,hc i z 4 _ hz rfl,hc i z 5 _ hz rfl,hc i z 6 _ hz rfl⟩
variable{y:Ex}{l:List (Int×Option aV)}{cs:List Nat}
theorem zcr.Kav(h:p:=by
 refine fin (aq (some [45,32]) (jO a0)) (n+(c0+2)+1) ?_ Zdq λ W gf T hT hW h1 hf=>aep hE hw kR hk2 hp TaX i0 ?_ hT hW h1 hf
 ·unfold od;rw[if_neg Tab,if_neg Tab,if_neg Tab,show dc 3=false from rfl,if_neg Tab,if_pos rfl];simp[hp]
 ·exact Zc0):p:=h
theorem zcs.Kav(h:p:=by
 refine fin (aq (some [78,79,84,32]) (jO a0)) (n+(c0+2)+1) ?_ Zdq λ W gf T hT hW h1 hf=>aeq hE hw kR hk2 hp TaX i0 ?_ hT hW h1 hf
 ·unfold od;rw[if_neg Tab,if_neg Tab,if_neg Tab,show dc 4=false from rfl,if_neg Tab,if_neg Tab,if_pos rfl];simp[hp]
 ·exact Zc0):p:=h
theorem zct.Kav(h:p:=by
 refine fin (aq (jO a0) (some [32,73,83,32,78,85,76,76])) (n+(c0+2)+1) ?_ Zdq λ W gf T hT hW h1 hf=>S7 hE hw kR hk2 hp TaX i0 ?_ hT hW h1 hf
 ·unfold od;rw[if_neg Tab,if_neg Tab,if_neg Tab,show dc 18=false from rfl,if_neg Tab,if_neg Tab,if_neg Tab,if_pos rfl];simp[hp]
 ·exact Zc0):p:=h
theorem zcu.Kav(h:p:=by
 refine fin (aq (jO a0) (some [32,73,83,32,78,79,84,32,78,85,76,76])) (n+(c0+2)+1) ?_ Zdq λ W gf T hT hW h1 hf=>ND hE hw kR hk2 hp TaX i0 ?_ hT hW h1 hf
 ·unfold od;rw[if_neg Tab,if_neg Tab,if_neg Tab,show dc 19=false from rfl,if_neg Tab,if_neg Tab,if_neg Tab,if_neg Tab,if_pos rfl];simp[hp]
 ·exact Zc0):p:=h
theorem NF(hE:dy w0)(hy:aoh y)(S:Nat->Prop)(hS:∀b,S b->b < w0.heap.size)(hn:y.n=ys.length)(hA:RL aT 7 w0 S y.A ys)(hl:l.length=ys.length)(hc:cs.length=ys.length)
  (hx:∀(i:Nat) z a,ys[i]?=some z->l[i]?=some a->a.1=z.op/\fZ 60 b w0 z a.2 (cs.getD i 0)):
  fZ 60 b w0 y (od y.op y.v y.name y.width l) (10+gb cs cs.length):=by
 intro w s n h hw hb;have hsz:=h.size
 have fin:∀(o:Option aV) (m:Nat),od y.op y.v y.name y.width l=o->m<=n+(10+gb cs cs.length)->(∀(W:World) (gf:Nat) (T:Array Value),Hx T b w.heap.size gf y.op->qg w0 b s n w W w.heap.size gf y->w.heap.size≠b->gf≠b->(ja sk 3).wp Tryz.prog (bodyPost Tryz.prog Tryz.f60 (ba w0.heap.size b (aq s o) m w)) { tmps:=T,defers:=[] } W)->
   Calls Tryz.prog 60 #[.pointer (some ⟨b,0,none⟩),dN y] w (ba w0.heap.size b (aq s (od y.op y.v y.name y.width l)) (n+(10+gb cs cs.length)) w):=λ o m ho hm hr=>by
  refine(NB h hr).mono λ e w' h2=>?_
  exact⟨h2.1,by rw[ho];exact h2.2.1.more hm,h2.2.2⟩
 obtain⟨op,v,name,width,A,k,cp⟩:=y;obtain⟨yv,yvs,yn,y0,y1⟩:=hy;dsimp only at hn hA fin yv yvs yn y0 y1 ⊢;by_cases e1:op=1
 ·subst e1;exact fin _ (n+1) (by unfold od;rw[if_pos rfl,hl,<- hn]) Taa λ W gf T hT hW h1 h2=>aec hE hw yv yvs Taa hT hW h1 h2
 by_cases e2:op=2
 ·subst e2;exact fin _ (n+1) (by unfold od;rw[if_neg Tab,if_pos rfl,hl,<- hn]) Taa λ W gf T hT hW h1 h2=>aem hE hw yn Taa hT hW h1 h2
 by_cases e21:op=21
 ·subst e21;exact fin _ (n+1) (by unfold od;rw[if_neg Tab,if_neg Tab,if_pos rfl,hl,<- hn]) Taa λ W gf T hT hW h1 h2=>aen hE hw Taa hT hW h1 h2
 have t1:(op==1)=false:=by simpa using e1
 have t2:(op==2)=false:=by simpa using e2
 have t21:(op==21)=false:=by simpa using e21
 cases h2:dc op;rotate_left
 ·have hr:5<=op/\op<=17:=by simpa [dc] using h2
  have t3:(op==3)=false:=by simp;omega
  have t4:(op==4)=false:=by simp;omega
  have t18:(op==18)=false:=by simp;omega
  have t19:(op==19)=false:=by simp;omega
  have h7:kQ op=false:=by unfold kQ;simp only[Bool.or_eq_false_iff,Bool.and_eq_false_iff,decide_eq_false_iff_not,beq_eq_false_iff_ne];omega
  by_cases hb2:k=2/\bF v name width=true
  ·obtain⟨hk2,hp⟩:=hb2;rw[hk2] at hn
   obtain⟨z0,z1,rfl⟩:∃z0 z1,ys=[z0,z1]:=by
    match ys,hn with
    | [z0,z1],_=>exact⟨z0,z1,rfl⟩
   obtain⟨a0,a1,rfl⟩:∃a0 a1,l=[a0,a1]:=by
    match l,hl with
    | [a0,a1],_=>exact⟨a0,a1,rfl⟩
   obtain⟨c0,c1,rfl⟩:∃c0 c1,cs=[c0,c1]:=by
    match cs,hc with
    | [c0,c1],_=>exact⟨c0,c1,rfl⟩
   have x0:=hx 0 z0 a0 rfl rfl;have x1:=hx 1 z1 a1 rfl rfl;rcases hA with h0 |⟨q,off,kR,jP,hcell⟩
   ·cases h0
   have A0:=vR hS jP hcell (i:=0) (z:=z0) rfl;have A1:=vR hS jP hcell (i:=1) (z:=z1) rfl;have i0:=nQ x0.2;have i1:=nQ x1.2;rw[<- x0.1] at i0;rw[<- x1.1] at i1;refine fin (aq (jO a0) (aq (some (32::(pH op++ [32]))) (jO a1))) (n+(c0+2)+3+(c1+2)) ?_ Zdq λ W gf T hT hW h1 hf=>aeo hE hw t1 t2 t21 h2 kR hk2 hp TaX (by simpa using A1) i0 i1 ?_ hT hW h1 hf
   ·unfold od;rw[if_neg e1,if_neg e2,if_neg e21,h2,if_pos rfl];simp[hp]
   ·simp only[gb,length_cons,length_nil] at hb;show n+(c0+2)+3+(c1+2)<=_;omega
  ·refine fin none n ?_ Taa λ W gf T hT hW h1 hf=>S8 hE hw t1 t2 t21 t3 t4 t18 t19 h2 h7 ZbS hT hW h1 hf
   ·unfold od;rw[if_neg e1,if_neg e2,if_neg e21,h2,if_pos rfl]
    match l,hl with
    | [],_ | [_],_ | _::_::_::_,_=>rfl
    | [x,z],hl=>exact ZeP
 by_cases e3:op=3
 ·subst e3;clear t1 t2 t21;by_cases hb2:k=1/\bF v name width=true
  ·open zcr in exact ZaM
  ·refine fin none n ?_ Taa λ W gf T hT hW h1 hf=>S9 hE hw ZbS hT hW h1 hf
   ·unfold od;rw[if_neg Tab,if_neg Tab,if_neg Tab,show dc 3=false from rfl,if_neg Tab,if_pos rfl];exact Zby
 by_cases e4:op=4
 ·subst e4;clear t1 t2 t21;by_cases hb2:k=1/\bF v name width=true
  ·open zcs in exact ZaM
  ·refine fin none n ?_ Taa λ W gf T hT hW h1 hf=>T6 hE hw ZbS hT hW h1 hf
   ·unfold od;rw[if_neg Tab,if_neg Tab,if_neg Tab,show dc 4=false from rfl,if_neg Tab,if_neg Tab,if_pos rfl];exact Zby
 by_cases e18:op=18
 ·subst e18;clear t1 t2 t21;by_cases hb2:k=1/\bF v name width=true
  ·open zct in exact ZaM
  ·refine fin none n ?_ Taa λ W gf T hT hW h1 hf=>Xl hE hw ZbS hT hW h1 hf
   ·unfold od;rw[if_neg Tab,if_neg Tab,if_neg Tab,show dc 18=false from rfl,if_neg Tab,if_neg Tab,if_neg Tab,if_pos rfl];exact Zby
 by_cases e19:op=19
 ·subst e19;clear t1 t2 t21;by_cases hb2:k=1/\bF v name width=true
  ·open zcu in exact ZaM
  ·refine fin none n ?_ Taa λ W gf T hT hW h1 hf=>Kv hE hw ZbS hT hW h1 hf
   ·unfold od;rw[if_neg Tab,if_neg Tab,if_neg Tab,show dc 19=false from rfl,if_neg Tab,if_neg Tab,if_neg Tab,if_neg Tab,if_pos rfl];exact Zby
 have t3:(op==3)=false:=by simpa using e3
 have t4:(op==4)=false:=by simpa using e4
 have t18:(op==18)=false:=by simpa using e18
 have t19:(op==19)=false:=by simpa using e19
 have hout:od op v name width l=if (kQ op && l.length==(nB op).2)=true then aq (bg (oP v &&(name.toList== [] &&(op==20 || width==0)))) (aq (some ((nB op).1++ [40])) (aq (if op=20 then aq (tj width) (some [44,32])else some []) (aq (dM (l.map (·.2))) (some [41]))))else none:=by unfold od;rw[if_neg e1,if_neg e2,if_neg e21,h2,if_neg Tab,if_neg e3,if_neg e4,if_neg e18,if_neg e19]
 cases h7:kQ op
 ·refine fin none n ?_ Taa λ W gf T hT hW h1 hf=>Xm hE hw t1 t2 t21 t3 t4 t18 t19 h2 h7 hT hW h1 hf
  rw[hout,h7];rfl
 by_cases hk:k=(nB op).2;rotate_left
 ·have tk:((k:Int)==((nB op).2:Nat))=false:=by simp only[beq_eq_false_iff_ne];omega
  refine fin none n ?_ Taa λ W gf T hT hW h1 hf=>aes hE hw t1 t2 t21 t3 t4 t18 t19 h2 h7 tk hT hW h1 hf
  rw[hout,h7,hl,<- hn];have:(k==(nB op).2)=false:=by simpa using hk
  rw[this];rfl
 have hlk:(l.length==(nB op).2)=true:=by rw[hl,<- hn,hk];simp
 have ho:(l.map (·.2)).length=k:=by rw[length_map,hl,hn]
 have hI:∀(i:Nat) z o,ys[i]?=some z->(l.map (·.2))[i]?=some o->fZ 60 b w0 z o (cs.getD i 0):=λ i z o hz hoi=>by rw[getElem?_map] at hoi;obtain⟨a,ha,rfl⟩:=Option.map_eq_some_iff.1 hoi;exact(hx i z a hz ha).2
 have hm:∀i,i < k->gb cs i+(cs.getD i 0+1)<=gb cs (i+1):=λ i hi=>by have:=uE cs i Taa;omega
 have Bl:∀i,i<=k->gb cs i<=gb cs k:=λ i hi=>ze cs k i hi Taa
 have VY:cs.length=k:=by omega
 by_cases e20:op=20
 ·subst e20;refine fin _ (n+5+gb cs k) ?_ (by rw[VY];omega) λ W gf T hT hW h1 hf=>SY hE hw (jE cs) hm Bl S hS hk hn.symm ho hA hI y0 y1 (by rw[VY] at hb;omega) hT hW h1 hf
  rw[hout,h7,hlk];rfl
 ·have t20:(op==20)=false:=by simpa using e20
  refine fin _ (n+5+gb cs k) ?_ (by rw[VY];omega) λ W gf T hT hW h1 hf=>ajF hE hw t1 t2 t21 t3 t4 t18 t19 t20 h2 h7 (jE cs) hm Bl S hS hk hn.symm ho hA hI y0 y1 (by rw[VY] at hb;omega) hT hW h1 hf
  rw[hout,h7,hlk,if_neg e20];rfl
mutual
def Tr.cost:Tr->Nat
 | .mk op v name width args=>10+Tr.costs args
def Tr.costs:List Tr->Nat
 | []=>0
 | t::ts=>t.cost+3+Tr.costs ts
end
theorem oq:∀ts:List Tr,gb (ts.map Tr.cost) (ts.map Tr.cost).length=Tr.costs ts
 | []=>rfl
 | t::ts=>by have:=oq ts;simp only[map_cons,length_cons,gb,Tr.costs] at this ⊢;rw[this]
mutual
def Tr.fine:Tr->Prop
 | .mk op v name width args=>(v.Ok/\v.s.size<=1048576/\name.size<=1048576/\ -9223372036854775808<=width/\width<=9223372036854775807)/\Tr.tx args
def Tr.tx:List Tr->Prop
 | []=>True
 | t::ts=>t.fine/\Tr.tx ts
end
mutual
theorem Tr.abW {w0:World} {b:Nat}(hE:dy w0) {S:Nat->Prop}(hS:∀b,S b->b < w0.heap.size):∀(t:Tr) (y:Ex),t.at_ w0 S y->t.fine->fZ 60 b w0 y t.out t.cost
 | .mk op v name width args,y,h,hf=>by unfold Tr.at_ at h;obtain⟨rfl,rfl,rfl,rfl,hn,ys,hr,ha⟩:=h;unfold Tr.fine at hf;have hl:=Tr.eZ.length ha;unfold Tr.out Tr.cost;rw[<- oq];exact NF hE ⟨hf.1.1,hf.1.2.1,hf.1.2.2.1,hf.1.2.2.2.1,hf.1.2.2.2.2⟩ S hS Ta9 hr (by rw[Cm];simp[hl]) (by simp[hl]) (Tr.Xn hE hS args ys ha hf.2)
theorem Tr.Xn {w0:World} {b:Nat}(hE:dy w0) {S:Nat->Prop}(hS:∀b,S b->b < w0.heap.size):∀(ts:List Tr) (ys:List Ex),Tr.eZ w0 S ts ys->Tr.tx ts->∀(i:Nat) z a,ys[i]?=some z->(Tr.outs ts)[i]?=some a->a.1=z.op/\fZ 60 b w0 z a.2 ((ts.map Tr.cost).getD i 0)
 | [],ys,h,_,i,z,a,hz,ha=>by simp[Tr.outs] at ha
 | t::ts,ys,h,hf,i,z,a,hz,ha=>by
   unfold Tr.eZ at h;obtain⟨y,ys',rfl,h1,h2⟩:=h;unfold Tr.tx at hf;unfold Tr.outs at ha
   match i,hz,ha with
   | 0,hz,ha=>
     simp at hz ha;subst hz ha;refine⟨?_,by simpa using Tr.abW hE hS t y h1 hf.1⟩
     match t,h1 with
     | .mk op v name width args,h1=>unfold Tr.at_ at h1;exact h1.1.symm
   | i+1,hz,ha=>have:=Tr.Xn (b:=b) hE hS ts ys' h2 hf.2 i z a (by simpa using hz) TaJ;simpa using this
end
variable{c d:Nat}{o:Option aV}
theorem ziT.KcX(h:p:=by
 obtain⟨x0,x1,x2,x3,x4,x5,x6⟩:=jB.out.cells;dsimp only at x0 x1 x2 x3 x4 x5 x6;by_cases SZ:32 < d
 ·have t1:decide ((32:Int)<(d:Int))=true:=decide_eq_true Taa;have t2:decide (32 < d)=true:=decide_eq_true SZ;have ho:=HO.out;rw[if_pos SZ] at ho;clear HO;subst ho;obtain⟨⟨sb,c2⟩,fz,hs2,yJ⟩:=om.out.xt;have uD:=hid hs2;have eP:=hid (fT.out.trans yJ);clear hs2 yJ SZ;go_wp2_with fail;refine bodyPost_ret (results_none rfl _ _ _) rfl ⟨rfl,?_,eP.out⟩;rw[jC];exact uD.out.more Taa
 ·have t1:decide ((32:Int)<(d:Int))=false:=decide_eq_false Taa;have t2:decide (32 < d)=false:=decide_eq_false SZ;have ho:=HO.out;rw[if_neg SZ] at ho;clear HO;subst ho;clear SZ;go_wp2_with fail;refine(HX.out w1 s n om.out (hw.trans fT.out.below) Taa).mono ?_;rintro e w2 ⟨rfl,h2,d2⟩;have H2:=hid h2;have D2:=hid (fT.out.trans d2);clear h2 d2 om fT x0 x1 x2 x3 x4 x5 x6;go_wp2_with fail;go_end0;exact⟨rfl,H2.out,D2.out⟩):p:=h
theorem zfq.Kbr(h:p:=by
 have HD:=hid (cy.aC (b:=b) bx hsz);have lO:w.heap.size≠b:=by omega
 clear HH;go_upto_region 1 with fail;generalize w.alloc _=W1 at*;clear bx;obtain⟨x0,x1,x2,x3,x4,x5,x6⟩:=HB.out.cells;dsimp only at x0 x1 x2 x3 x4 x5 x6;go_wp2_with fail;refine(HDD.out W1 (hw.trans HD.out.below)).mono ?_;open ziT in exact Zhi):p:=h
theorem NG(hdd:∀W,Below w0.heap.size w0 W->Calls Tryz.prog 59 #[dN y] W λ e w'=>e=.returned (.int .i64 d)/\Below W.heap.size W w')(hx:fZ 60 b w0 y o c):
  fZ 23 b w0 y (if 32 < d then none else o) c:=by intro w s n h hw hn;obtain⟨oo,ho⟩:∃oo,oo=(if 32 < d then none else o):=⟨_,rfl⟩;rw[<- ho];have HO:=hid ho;clear ho;have HX:=hid hx;have HDD:=hid hdd;have HH:=hid h;have hsz:=h.size;have hlt:=h.lt;clear hx h hdd;obtain⟨op,v,name,width,A,k,cp⟩:=y;unfold dN aT;go_enter Tryz.func23,Tryz.ntmps23;open zfq in exact ZcF
theorem zhP.Kcu(h:p:=by
 have ho:=HO.out;rw[if_neg Ic] at ho;clear HO;have HP:=hid ho;clear ho;go_wp2_with fail;refine(Cs ⟨#[32]⟩ word ⟨#[32]⟩ w1 H1.out Tab Taa Tab Taa).mono ?_;rintro e w2 ⟨rfl,h2,d2⟩;have H2:=hid h2;have D2:=hid (D1.out.trans d2);clear h2 d2 H1 D1;obtain⟨z,hz⟩:∃z,ys[0]?=some z:=⟨_,getElem?_eq_getElem (by rw[HK.out];omega)⟩;rcases HA.out with h0 |⟨q,off,kR,jP,hcell⟩
 ·rw[h0] at hz;cases hz
 have A0:=vR hS jP hcell hz;have I0:=hid (HI.out z hz);have hw2:=hw.trans D2.out.below;obtain⟨k0,k1,k2,k3,k4,k5,k6⟩:=A0.later hw2;simp only[Nat.zero_mul,Nat.add_zero] at k0 k1 k2 k3 k4 k5 k6;clear hcell hz A0 t1 t2;subst kR;have AB:0 < k:=Nat.pos_of_ne_zero Ic;clear Ic;go_wp2_with fail;refine(I0.out w2 _ _ H2.out hw2 Taa).mono ?_;rintro e w3 ⟨rfl,h3,d3⟩;have H3:=hid h3;have D3:=hid (D2.out.trans d3);clear h3 d3 H2 D2 k0 k1 k2 k3 k4 k5 k6;go_wp2_with fail;go_end0;refine⟨rfl,?_,D3.out⟩;have:=H3.out;rw[HP.out];exact Zeu):p:=h
theorem Ta(word:ByteArray)(A:Option Addr)(k cp:Nat)(ys:List Ex)(o:Option aV)(S:Nat->Prop)(hS:∀b,S b->b < w0.heap.size)(hk:ys.length=k)(hA:RL aT 7 w0 S A ys)(hwl:word.size<=1000)(hkm:k<=1000000000)
  (hI:∀z,ys[0]?=some z->fZ 23 b w0 z o c) (w:World) (h:eI w0.heap.size b s n w) (hw:Below w0.heap.size w0 w) (hn:n+3+c<=50000000):
  Calls Tryz.prog 47 #[.pointer (some ⟨b,0,none⟩),.string word,.slice A k cp] w (ba w0.heap.size b (aq s (aq (bg (decide (k<=1))) (if k=0 then some [] else aq (some (32::(word.data.toList++ [32]))) o))) (n+3+c) w):=by
 obtain⟨oo,ho⟩:∃oo,oo=(if k=0 then some [] else aq (some (32::(word.data.toList++ [32]))) o):=⟨_,rfl⟩;rw[<- ho];have HO:=hid ho;clear ho;have HI:=hid hI;have HA:=hid hA;have HK:=hid hk;have HH:=hid h;have hsz:=h.size;clear hI hA hk h;go_enter Tryz.func47,Tryz.ntmps47;go_wp2_with fail;refine(bh _ w HH.out).mono ?_;rintro e w1 ⟨rfl,h1,d1⟩;have hm:decide ((k:Int)<=1)=decide (k<=1):=by rw[decide_eq_decide];omega
 try rw[hm] at h1
 have H1:=hid h1;have D1:=hid d1;clear h1 d1 HH hm;by_cases Ic:k=0
 ·subst Ic;go_wp2_with fail;go_end0;refine⟨rfl,?_,D1.out⟩;rw[HO.out,if_pos trivial,dm];exact H1.out.more Taa
 ·open zhP in exact Zf0
variable{w:World}{a e f g:Value}
theorem p8{T:TypeId} {b c d i:Value}(h:av w q T #[a,b,c,d,e,f,g,i]):
  w.cell? ⟨q,0,none⟩=some a/\w.cell? ⟨q,1,none⟩=some b/\w.cell? ⟨q,2,none⟩=some c/\w.cell? ⟨q,3,none⟩=some d/\w.cell? ⟨q,4,none⟩=some e/\w.cell? ⟨q,5,none⟩=some f/\w.cell? ⟨q,6,none⟩=some g/\w.cell? ⟨q,7,none⟩=some i:=
 ⟨h.cell 0,h.cell 1,h.cell 2,h.cell 3,h.cell 4,h.cell 5,h.cell 6,h.cell 7⟩
def asO (s:ByteArray):Option aV:=if s.toList=[] then some [] else aq (some [32,65,83,32]) (dx s)
def Ql (d:Bool):Option aV:=if d then some [32,68,69,83,67] else some []
theorem zdi.KaJ(h:p:=by
 cases ds
 ·have ho:oo=some []:=HO.out;clear HO;subst ho;exact Zgg
 ·have ho:oo=some [32,68,69,83,67]:=HO.out;clear HO;subst ho;go_wp2_with fail;refine(cA ⟨#[32,68,69,83,67]⟩ w1 H1.out Tab Taa).mono ?_;rintro e w2 ⟨rfl,h2,d2⟩;have H2:=hid h2;have D2:=hid (D1.out.trans d2);clear h2 d2 H1 D1 x0 x1 x2 x3 x4 x5 x6 x7 p0;go_wp2_with fail;go_end0;refine⟨rfl,?_,D2.out⟩;have:=H2.out;exact Zeu):p:=h
theorem NH{p:Nat} (z:Ex×Bool) (hx:fZ 23 b w0 z.1 o c)(w:World)(h:eI w0.heap.size b s n w)(hw:Below w0.heap.size w0 w)(hp:av w p 87 #[.pointer (some ⟨b,0,none⟩)])(Ie:p≠b)(hn:n+c+1<=50000000):
  Calls Tryz.prog 87 #[.agg (aT z.1++ [Value.bool z.2]).toArray,.pointer (some ⟨p,0,none⟩)] w (ba w0.heap.size b (aq s (aq o (Ql z.2))) (n+c+1) w):=by obtain⟨⟨op,v,name,width,A,k,cp⟩,ds⟩:=z;obtain⟨oo,ho⟩:∃oo,oo=Ql ds:=⟨_,rfl⟩;rw[<- ho];have HO:=hid ho;have HX:=hid hx;have HH:=hid h;have hsz:=h.size;have hlt:=h.lt;clear hx h ho;unfold aT;simp only[cons_append,nil_append];go_enter Tryz.func87,Tryz.ntmps87;have bx:=aa w (.cells #[.int .u8 op,.int .u8 v.k,.int .i64 v.n,.string v.s,.string name,.int .i64 width,.slice A k cp,.bool ds] 86);have HB:=hid (av.new w 86 #[.int .u8 op,.int .u8 v.k,.int .i64 v.n,.string v.s,.string name,.int .i64 width,.slice A k cp,.bool ds]);open zdi in exact Za9
theorem eqE{s:ByteArray}(h:s.toList=[]):s=⟨#[]⟩:=by exact ZgE
theorem ziA.KcP(h:p:=by have:=H3.out;rw[HQ.out];exact Zeu):p:=h
theorem zgA.KbW(h:p:=by refine(ey hE ds w2 H2.out (hw.trans D2.out.below) HL.out Taa).mono ?_;open ziA in exact ZgO):p:=h
theorem zdj.KaJ(h:p:=by
 by_cases Q2:ds.toList=[]
 ·have ho:oo=some []:=by rw[HO.out];unfold asO;rw[if_pos Q2]
  have t0:ds=⟨#[]⟩:=eqE Q2;clear HO Q2;subst ho t0;exact Zgg
 ·have ho:oo=aq (some [32,65,83,32]) (dx ds):=by rw[HO.out];unfold asO;rw[if_neg Q2]
  have t1:ds.toList.isEmpty=false:=by cases hq:ds.toList with | nil=>exact absurd hq Q2 | cons a l=>rfl
  have HQ:=hid ho;clear HO ho Q2;go_wp2_with fail;refine(cA ⟨#[32,65,83,32]⟩ w1 H1.out Tab Taa).mono ?_;open zgA in exact Zd9):p:=h
theorem Tb{p:Nat} (z:Ex×ByteArray) (hE:dy w0)(hl:z.2.size<=1048576)(hx:fZ 23 b w0 z.1 o c)(w:World)(h:eI w0.heap.size b s n w)(hw:Below w0.heap.size w0 w)(hp:av w p 87 #[.pointer (some ⟨b,0,none⟩)])(Ie:p≠b)(hn:n+c+2<=50000000):
  Calls Tryz.prog 85 #[.agg (aT z.1++ [Value.string z.2]).toArray,.pointer (some ⟨p,0,none⟩)] w (ba w0.heap.size b (aq s (aq o (asO z.2))) (n+c+2) w):=by obtain⟨⟨op,v,name,width,A,k,cp⟩,ds⟩:=z;obtain⟨oo,ho⟩:∃oo,oo=asO ds:=⟨_,rfl⟩;rw[<- ho];have HO:=hid ho;have HX:=hid hx;have HH:=hid h;have hsz:=h.size;have hlt:=h.lt;have HL:=hid hl;clear hx h ho hl;unfold aT;simp only[cons_append,nil_append];go_enter Tryz.func85,Tryz.ntmps85;have bx:=aa w (.cells #[.int .u8 op,.int .u8 v.k,.int .i64 v.n,.string v.s,.string name,.int .i64 width,.slice A k cp,.string ds] 51);have HB:=hid (av.new w 51 #[.int .u8 op,.int .u8 v.k,.int .i64 v.n,.string v.s,.string name,.int .i64 width,.slice A k cp,.string ds]);open zdj in exact Za9
def aeH (B b g:Nat)(t r:Int)(X:ByteArray):Nat->World->Value->Prop
 | 0,_,v=>v=.pointer (some ⟨b,0,none⟩)
 | 1,_,v=>v=.agg #[.string ⟨#[]⟩,.string ⟨#[66,79,79,76]⟩,.string ⟨#[73,78,84]⟩,.string ⟨#[84,69,88,84]⟩]
 | 2,_,v=>v=.pointer (some ⟨g,1,none⟩)
 | 3,_,v=>v=.int .u8 t
 | 4,_,v=>v=.int .u8 r
 | 5,_,v=>v=.string X
 | 6,w,v=>∃q:Nat,v=.slice (some ⟨q,0,none⟩) 2 2/\av w q 9 #[.string ⟨#[32]⟩,.string X]/\B<=q
 | _,_,_=>False
theorem Og (B b g:Nat)(t r:Int)(X:ByteArray):∀i w w' v,aeH B b g t r X i w v->af w w'->aeH B b g t r X i w' v:=by
 intro i w w' v h hl
 match i with
 | 0 | 1 | 2 | 3 | 4 | 5=>exact h
 | 6=>obtain⟨q,h1,f0,f1⟩:=h;exact⟨q,h1,f0.later hl,f1⟩
 | n+7=>exact h
variable{nm:ByteArray}{t r:Int}{X:ByteArray}
theorem V8{g p:Nat}    (h0:0<=t)(h1:t<=255)(hr:t.tmod 4=r)(hX:X.size<=100)
  (V9:∀u:World,(Instr.index 127 (.agg #[.string ⟨#[]⟩,.string ⟨#[66,79,79,76]⟩,.string ⟨#[73,78,84]⟩,.string ⟨#[84,69,88,84]⟩]) (.int .u8 r)).run Tryz.prog u=.ok (.string X) u) (W w:World) (hst:eI w0.heap.size b s n W) (hd:cy w0.heap.size b w W) (hn:n+2<=50000000) (hsz:w0.heap.size<=w.heap.size)
  (hp:av W p 87 #[.pointer (some ⟨b,0,none⟩)]) (hg:av W g 53 #[.string nm,.int .u8 t])  (hT:T.size=25) (t1:T.getD 1 undef=.pointer (some ⟨p,0,none⟩)) (t2:T.getD 2 undef=.pointer (some ⟨g,0,none⟩)):
  (ja (Tryz.f80.body.getD .skip) 3).wp Tryz.prog (bodyPost Tryz.prog Tryz.f80 (ba w0.heap.size b (aq s (some (32::X.data.toList))) (n+2) w)) { tmps:=T,defers:=[] } W:=by
 obtain⟨u,rfl⟩:=dQ T hT;have e1:=(aw u (show 1 < 25 by decide)).symm.trans t1;have e2:=(aw u (show 2 < 25 by decide)).symm.trans t2;simp only[uC,List.range,List.range.loop,List.map,e1,e2];clear t1 t2 hT e1 e2;have HST:=hid hst;have HD:=hid hd;have HP:=hid hp;have HG:=hid hg;have HR:=hid hr;have HIX:=hid V9;have hlt:=hst.lt;clear hst hd hp hg hr V9;generalize hQ:bodyPost Tryz.prog Tryz.f80 _=Q;simp only[ja,Tryz.f80,Option.getD_some];subst hQ;refine cM 7 (aeH W.heap.size b g t r X) (Og _ _ _ _ _ _) Tac Tac Tac ?_ ?_
 ·simp only[take_succ_cons,take_zero];refine⟨?_,?_,ZbI,?_,?_,?_,?_,trivial⟩
  ·intro ρ w3 hc hL hr;have h0:_=_:=hr.1;have k0:=(av.later HP.out hL).cell 0;exact Zax
  ·intro ρ w3 hc hL hr;exact ae (w':=w3) (by simp[go_sem,hc.const];done) ⟨af.refl _,rfl⟩
  ·intro ρ w3 hc hL hr;have h0:_=_:=hr.1;have k0:=(av.later HG.out hL).cell 1;exact Zax
  ·intro ρ w3 hc hL hr;have h0:_=_:=hr.1;exact ae (w':=w3) (by simp[go_sem,hc.const,h0];exact HR.out) ⟨af.refl _,rfl⟩
  ·intro ρ w3 hc hL hr;have h0:_=_:=hr.1;have h1:_=_:=hr.2.1;exact ae (v:=.string X) (w':=w3) (by first |(have hi:=HIX.out w3;simp only[go_sem,h0,h1] at hi ⊢;simp only[hi];done)|(simp[go_sem,h0,h1,HIX.out];done)|(simp only[go_sem,h0,h1,Sem.run_bind,Sem.run_pure,Result.andThen_ok];exact HIX.out w3)) ⟨af.refl _,rfl⟩
  ·intro ρ w3 hc hL hr;have h0:_=_:=hr.1;exact ae (v:=.slice (some ⟨w3.heap.size,0,none⟩) 2 2) (w':=w3.alloc (.cells #[.string ⟨#[32]⟩,.string X] 9)) (by simp[go_sem,hc.const,h0];done) ⟨aa w3 _,⟨_,rfl,av.new w3 _ _,hL.size⟩⟩
 intro W2 hL;simp only[Uab];rintro _ rfl _ rfl _ rfl _ rfl _ rfl _ rfl a6 ⟨q_6,rfl,aoZ,avY⟩;simp only[cU,Act.put,Uac];have ajX:=hid (HST.out.later hL);have eP:=hid (HD.out.later hL hsz);go_wp2_with fail;refine(xf [⟨#[32]⟩,X] q_6 2 W2 ajX.out rfl aoZ Taa Tab (by intro x hx;simp at hx;rcases hx with rfl | rfl;decide;omega) Taa).mono ?_;rintro e w3 ⟨rfl,h3,d3⟩;have H3:=hid h3;have D3:=hid (eP.out.trans d3);clear h3 d3 ajX eP;go_wp2_with fail;go_end0;refine⟨rfl,?_,D3.out⟩;have:=H3.out;simpa [rq] using this
theorem zf0.KbI(h:p:=by have D2:=hid (fT.out.trans d2);exact ZaG):p:=h
theorem zb3.Kar(h:p:=by
 have hcell:=λ j u hu=>(hwr.cell (p:=⟨q,off+i*1+j,none⟩) (hS q jP)).trans (hc i z j u hz hu)
 have k0:=hcell 0 _ rfl;simp only[Nat.add_zero,Nat.mul_one] at k0;have HJ:=hid hoi;clear hcell hc hz hoi hwr;subst kR;go_upto_region 4 with fail;have om:=HS;have fT:=HD;clear HS HD;generalize wr=W1 at*;rcases Nat.eq_zero_or_pos i with nd | nd
 ·subst nd;have HT:=hid (mf HJ.out);exact ZaH
 ·open zf0 in exact Zdn):p:=h
theorem zbF.Kan(h:p:=by
 go_loopw [20] (λ u wr=>∃i:Nat,i<=k/\u=.int .i64 i/\eI w0.heap.size b (aq (aq s (bg ok)) (dM (os.take i))) (n+m i) wr/\cy w0.heap.size b w wr) (λ u _=>k - (intOf u).toNat);case atStart=>exact Zbx
 case round=>
  obtain⟨i,hi,rfl,hs,hd⟩:=hrel;have HS:=hid hs;have HD:=hid hd;clear hs hd H1 D1;by_cases hlt:i < k
  ·open zb3 in exact ZaB
  ·exact ZaY):p:=h
theorem zbu.Kak(h:p:=by go_enter Tryz.func41,Tryz.ntmps41;open zbF in exact Zaw):p:=h
theorem TF(ci m:Nat->Nat)(fK:FuncId)(recv lD:Array Value)(en:∀args w,(callFunc fK args).run Tryz.prog w=.ok (.enter fK args) w)(A:Option Addr)(cap k:Nat)(ys:List (Sl))(os:List (Option aV))(S:Nat->Prop)(hS:∀b,S b->b < w0.heap.size)
  (hk:ys.length=k) (ho:os.length=k) (hA:RL (λ y:Sl=> [.slice y.A y.n y.c]) 1 w0 S A ys) (w:World) (h:eI w0.heap.size b s n w) (hw:Below w0.heap.size w0 w) (m0:m 0=0) (hm:∀i,i < k->m i+(ci i+1)<=m (i+1)) (Bl:∀i,i<=k->m i<=m k) (hn:n+m k<=50000000) (hkm:k<=2000000)
  (hO:∀(i:Nat) z o,ys[i]?=some z->os[i]?=some o->∀W s' n',cy w0.heap.size b w W->eI w0.heap.size b s' n' W->n'+ci i<=50000000->Calls Tryz.prog fK (recv++ #[.slice z.A z.n z.c]++lD) W (ba w0.heap.size b (aq s' o) (n'+ci i) W)):
  Calls Tryz.prog 41 #[.pointer (some ⟨b,0,none⟩),.slice A k cap,.func (.func fK) recv lD] w (ba w0.heap.size b (aq s (dC os)) (n+m k) w):=by
 open zbu in exact Zao
end Go.Proofs.YtehhdlgjfdnafaaGreatDoor
