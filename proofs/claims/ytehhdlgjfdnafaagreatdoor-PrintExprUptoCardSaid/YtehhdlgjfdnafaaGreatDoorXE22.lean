/- Parts of the proof. -/
import Derived.Test.YtehhdlgjfdnafaaGreatDoorXE19
import Derived.Test.YtehhdlgjfdnafaaGreatDoorXE21
namespace Go.Proofs.YtehhdlgjfdnafaaGreatDoor
variable{p:Prop}
set_option maxHeartbeats 90000000
set_option maxRecDepth 100000
open Go.Lib (hid)
open Go.ChangeShapes Go.WideShapes Go.ChangeAt Go.RowKit Go.Shelf List
set_option linter.unusedVariables false
set_option linter.unusedSimpArgs false
variable{w0 ws W:World}{b n gx gf:Nat}{s:Option aT}{v:Val}{name:ByteArray}{width:Int}{A:Option Addr}{k cp:Nat}{T:Array Value}
theorem zdM.KaW(h:p:=by
 go_upto_region 8 with fail;go_cut [87] (λ _ wx=>py w0 b (aq s (bc C)) n ws wx gx gf ⟨2,⟨vk,vn,vs⟩,name,width,A,k,cp⟩)
 case first=>
  have GR:∀(q:Bool) W',q=C->py w0 b s n ws W' gx gf ⟨2,⟨vk,vn,vs⟩,name,width,A,k,cp⟩->Calls Tryz.prog 36 #[.pointer (some ⟨b,0,none⟩),.bool q] W' λ e w'=>e=.returned (.tuple #[])/\py w0 b (aq s (bc C)) n ws w' gx gf ⟨2,⟨vk,vn,vs⟩,name,width,A,k,cp⟩:=λ q W' hq h1=>(aX q W' h1.st).mono λ e w' h2=>by subst hq;exact⟨h2.1,h1.next hx hf h2.2.1 h2.2.2⟩
  have MS:=hid GR;clear GR;by_cases c1:k=0
  ·subst c1;by_cases c2:vk=0
   ·subst c2;by_cases c3:vn=0
    ·subst c3;by_cases c4:vs.toList=[]
     ·skip;by_cases c5:width=0
      ·subst c5;have jo:=hid (show true=C by rw[HC.out];simp[nB,c4]);exact Zar
      ·skip;have t5:(width==0)=false:=by simpa using c5
       have jo:=hid (show false=C by rw[HC.out];simp[nB,c4,c5]);exact Zar
     ·exact ZgI
    ·skip;have t3:(vn==0)=false:=by simpa using c3
     exact ZgZ
   ·skip;have t2:(vk==0)=false:=by simpa using c2
    exact Zg0
  ·skip;have t1:((k:Int)==0)=false:=by simpa using c1
   have jo:=hid (show false=C by rw[HC.out];simp[nB,c1]);exact Zar
 case rest=>
 have HW:=hid hcut;clear hcut HH HC x0 x1 x2 x3 x4 x5 x6;obtain⟨x0,x1,x2,x3,x4,x5,x6⟩:=HW.out.x.cells;dsimp only at x0 x1 x2 x3 x4 x5 x6;go_wp2_with fail;refine(ee hE name wc HW.out.st (hw.trans HW.out.did.below) hs Taa).mono ?_;rintro e w5 ⟨rfl,h5,d5⟩;have H5:=hid (HW.out.next hx hf h5 d5);clear h5 d5 HW x0 x1 x2 x3 x4 x5 x6;exact Zds):p:=h
theorem zet.Kba(h:p:=by obtain⟨vk,vn,vs⟩:=v;have HH:=hid h;clear h;obtain⟨C,hC⟩:∃C:Bool,C=(k==0 &&(nB ⟨vk,vn,vs⟩&& width==0)):=⟨_,rfl⟩;rw[<- hC];have HC:=hid hC;clear hC;open zdM in exact Zby):p:=h
theorem zaG.Kac(h:p:=by open zet in exact Zb5):p:=h
theorem N4(hE:di w0)(hw:Below w0.heap.size w0 ws)(hs:name.size<=1048576)(hn:n<=49999990)(hT:EH T b gx gf (2))(h:py w0 b s n ws W gx gf ⟨2,v,name,width,A,k,cp⟩)(hx:gx≠b)(hf:gf≠b):
  (iz qX 3).wp Tryz.prog (bodyPost Tryz.prog Tryz.f60 (aW w0.heap.size b (aq s (aq (bc (k==0 &&(nB v && width==0))) (cS name))) (n+1) ws)) { tmps:=T,defers:=[] } W:=by
 open zaG in exact Zac
theorem zdN.KaW(h:p:=by
 have hb0:(decide ((k:Int)=0)&& bu v name width)=(k==0 && bu v name width):=by congr 1;rw[Bool.eq_iff_iff];simp
 go_upto_region 11 with fail;go_wp2_with fail;refine(iT ⟨21,v,name,width,A,k,cp⟩ 0 W).mono ?_;rintro e w1 ⟨rfl,b1⟩;have H1:=hid (HH.out.later hsz b1);rw[hb0];clear HH b1 x0 x1 x2 x3 x4 x5 x6;go_wp2_with fail;refine(aX _ w1 H1.out.st).mono ?_;rintro e w2 ⟨rfl,h2,d2⟩;have H2:=hid (H1.out.next hx hf h2 d2);clear h2 d2 H1;go_wp2_with fail;refine(cn ⟨#[99,111,117,110,116,40,42,41]⟩ w2 H2.out.st Tac Taa).mono ?_;rintro e w5 ⟨rfl,h5,d5⟩;have H5:=hid (H2.out.next hx hf h5 d5);clear h5 d5 H2;exact Zds):p:=h
theorem zeu.Kba(h:p:=by have HH:=hid h;clear h;open zdN in exact Zby):p:=h
theorem zaH.Kac(h:p:=by open zeu in exact Zb5):p:=h
theorem N5(hE:di w0)(hw:Below w0.heap.size w0 ws)(hn:n<=49999990)(hT:EH T b gx gf (21))(h:py w0 b s n ws W gx gf ⟨21,v,name,width,A,k,cp⟩)(hx:gx≠b)(hf:gf≠b):
  (iz qX 3).wp Tryz.prog (bodyPost Tryz.prog Tryz.f60 (aW w0.heap.size b (aq s (aq (bc (k==0 && bu v name width)) (some [99,111,117,110,116,40,42,41]))) (n+1) ws)) { tmps:=T,defers:=[] } W:=by
 open zaH in exact Zac
def fD:List Nat->Nat->Nat
 | _,0=>0
 | [],_+1=>0
 | a::l,i+1=>a+3+fD l i
theorem jg (l:List Nat):fD l 0=0:=by cases l <;> rfl
theorem sU:∀(l:List Nat) (i:Nat),i < l.length->fD l i+(l.getD i 0+3)=fD l (i+1)
 | [],i,h=>by simp at h
 | a::l,0,_=>by show 0+(a+3)=a+3+fD l 0;rw[jg];omega
 | a::l,i+1,h=>by have:=sU l i Tam;show a+3+fD l i+(l.getD i 0+3)=a+3+fD l (i+1);omega
theorem wV (l:List Nat):∀(j i:Nat),i<=j->j<=l.length->fD l i<=fD l j
 | 0,i,h,_=>by rw[Nat.le_zero.1 h];exact Nat.le_refl _
 | j+1,i,h,hj=>by
   rcases Nat.lt_or_ge i (j+1)with h1 | h1
   ·have:=wV l j i Taa Taa;have:=sU l j hj;omega
   ·rw[show i=j+1 by omega];exact Nat.le_refl _
variable{S:Nat->Prop}{q off:Nat}{ys:List Ex}{i:Nat}{z:Ex}
theorem uo(hS:∀b,S b->b < w0.heap.size)  (hq:S q)(hc:∀i y j u,ys[i]?=some y->(aL y)[j]?=some u->w0.cell? ⟨q,off+i*7+j,none⟩=some u)  (hz:ys[i]?=some z):vv w0 q (off+i*7) z:=
 ⟨hS q hq,hc i z 0 _ hz rfl,hc i z 1 _ hz rfl,hc i z 2 _ hz rfl,hc i z 3 _ hz rfl,hc i z 4 _ hz rfl,hc i z 5 _ hz rfl,hc i z 6 _ hz rfl⟩
variable{y:Ex}{l:List (Int×Option aT)}{cs:List Nat}
theorem zce.Kat(h:p:=by
 refine fin (aq (some [45,32]) (jt a0)) (n+(c0+2)+1) ?_ Zdc λ W gf T hT hW h1 hf=>N7 hE hw mr hk2 hp TaX i0 ?_ hT hW h1 hf
 ·unfold nC;rw[if_neg Tac,if_neg Tac,if_neg Tac,show cT 3=false from rfl,if_neg Tac,if_pos rfl];simp[hp]
 ·exact ZcN):p:=h
theorem zcf.Kat(h:p:=by
 refine fin (aq (some [78,79,84,32]) (jt a0)) (n+(c0+2)+1) ?_ Zdc λ W gf T hT hW h1 hf=>N8 hE hw mr hk2 hp TaX i0 ?_ hT hW h1 hf
 ·unfold nC;rw[if_neg Tac,if_neg Tac,if_neg Tac,show cT 4=false from rfl,if_neg Tac,if_neg Tac,if_pos rfl];simp[hp]
 ·exact ZcN):p:=h
theorem zcg.Kat(h:p:=by
 refine fin (aq (jt a0) (some [32,73,83,32,78,85,76,76])) (n+(c0+2)+1) ?_ Zdc λ W gf T hT hW h1 hf=>Xa hE hw mr hk2 hp TaX i0 ?_ hT hW h1 hf
 ·unfold nC;rw[if_neg Tac,if_neg Tac,if_neg Tac,show cT 18=false from rfl,if_neg Tac,if_neg Tac,if_neg Tac,if_pos rfl];simp[hp]
 ·exact ZcN):p:=h
theorem zch.Kat(h:p:=by
 refine fin (aq (jt a0) (some [32,73,83,32,78,79,84,32,78,85,76,76])) (n+(c0+2)+1) ?_ Zdc λ W gf T hT hW h1 hf=>Kg hE hw mr hk2 hp TaX i0 ?_ hT hW h1 hf
 ·unfold nC;rw[if_neg Tac,if_neg Tac,if_neg Tac,show cT 19=false from rfl,if_neg Tac,if_neg Tac,if_neg Tac,if_neg Tac,if_pos rfl];simp[hp]
 ·exact ZcN):p:=h
theorem Kh(hE:di w0)(hy:ahp y)(S:Nat->Prop)(hS:∀b,S b->b < w0.heap.size)(hn:y.n=ys.length)(hA:RL aL 7 w0 S y.A ys)(hl:l.length=ys.length)(hc:cs.length=ys.length)
  (hx:∀(i:Nat) z a,ys[i]?=some z->l[i]?=some a->a.1=z.op/\fC 60 b w0 z a.2 (cs.getD i 0)):
  fC 60 b w0 y (nC y.op y.v y.name y.width l) (10+fD cs cs.length):=by
 intro w s n h hw hb;have hsz:=h.size
 have fin:∀(o:Option aT) (m:Nat),nC y.op y.v y.name y.width l=o->m<=n+(10+fD cs cs.length)->(∀(W:World) (gf:Nat) (T:Array Value),EH T b w.heap.size gf y.op->py w0 b s n w W w.heap.size gf y->w.heap.size≠b->gf≠b->(iz qX 3).wp Tryz.prog (bodyPost Tryz.prog Tryz.f60 (aW w0.heap.size b (aq s o) m w)) { tmps:=T,defers:=[] } W)->
   Calls Tryz.prog 60 #[.pointer (some ⟨b,0,none⟩),dA y] w (aW w0.heap.size b (aq s (nC y.op y.v y.name y.width l)) (n+(10+fD cs cs.length)) w):=λ o m ho hm hr=>by
  refine(Kf h hr).mono λ e w' h2=>?_
  exact⟨h2.1,by rw[ho];exact h2.2.1.more hm,h2.2.2⟩
 obtain⟨op,v,name,width,A,k,cp⟩:=y;obtain⟨yv,yvs,yn,y0,y1⟩:=hy;dsimp only at hn hA fin yv yvs yn y0 y1 ⊢;by_cases e1:op=1
 ·subst e1;exact fin _ (n+1) (by unfold nC;rw[if_pos rfl,hl,<- hn]) Taa λ W gf T hT hW h1 h2=>N3 hE hw yv yvs Taa hT hW h1 h2
 by_cases e2:op=2
 ·subst e2;exact fin _ (n+1) (by unfold nC;rw[if_neg Tac,if_pos rfl,hl,<- hn]) Taa λ W gf T hT hW h1 h2=>N4 hE hw yn Taa hT hW h1 h2
 by_cases e21:op=21
 ·subst e21;exact fin _ (n+1) (by unfold nC;rw[if_neg Tac,if_neg Tac,if_pos rfl,hl,<- hn]) Taa λ W gf T hT hW h1 h2=>N5 hE hw Taa hT hW h1 h2
 have t1:(op==1)=false:=by simpa using e1
 have t2:(op==2)=false:=by simpa using e2
 have t21:(op==21)=false:=by simpa using e21
 cases h2:cT op;rotate_left
 ·have hr:5<=op/\op<=17:=by simpa [cT] using h2
  have t3:(op==3)=false:=by simp;omega
  have t4:(op==4)=false:=by simp;omega
  have t18:(op==18)=false:=by simp;omega
  have t19:(op==19)=false:=by simp;omega
  have h7:jV op=false:=by unfold jV;simp only[Bool.or_eq_false_iff,Bool.and_eq_false_iff,decide_eq_false_iff_not,beq_eq_false_iff_ne];omega
  by_cases hb2:k=2/\bu v name width=true
  ·obtain⟨hk2,hp⟩:=hb2;rw[hk2] at hn
   obtain⟨z0,z1,rfl⟩:∃z0 z1,ys=[z0,z1]:=by
    match ys,hn with
    | [z0,z1],_=>exact⟨z0,z1,rfl⟩
   obtain⟨a0,a1,rfl⟩:∃a0 a1,l=[a0,a1]:=by
    match l,hl with
    | [a0,a1],_=>exact⟨a0,a1,rfl⟩
   obtain⟨c0,c1,rfl⟩:∃c0 c1,cs=[c0,c1]:=by
    match cs,hc with
    | [c0,c1],_=>exact⟨c0,c1,rfl⟩
   have x0:=hx 0 z0 a0 rfl rfl;have x1:=hx 1 z1 a1 rfl rfl;rcases hA with h0 |⟨q,off,mr,lH,hcell⟩
   ·cases h0
   have A0:=uo hS lH hcell (i:=0) (z:=z0) rfl;have A1:=uo hS lH hcell (i:=1) (z:=z1) rfl;have i0:=nd x0.2;have i1:=nd x1.2;rw[<- x0.1] at i0;rw[<- x1.1] at i1;refine fin (aq (jt a0) (aq (some (32::(oO op++ [32]))) (jt a1))) (n+(c0+2)+3+(c1+2)) ?_ Zdc λ W gf T hT hW h1 hf=>N6 hE hw t1 t2 t21 h2 mr hk2 hp TaX (by simpa using A1) i0 i1 ?_ hT hW h1 hf
   ·unfold nC;rw[if_neg e1,if_neg e2,if_neg e21,h2,if_pos rfl];simp[hp]
   ·simp only[fD,length_cons,length_nil] at hb;show n+(c0+2)+3+(c1+2)<=_;omega
  ·refine fin none n ?_ Taa λ W gf T hT hW h1 hf=>Xb hE hw t1 t2 t21 t3 t4 t18 t19 h2 h7 ZbJ hT hW h1 hf
   ·unfold nC;rw[if_neg e1,if_neg e2,if_neg e21,h2,if_pos rfl]
    match l,hl with
    | [],_ | [_],_ | _::_::_::_,_=>rfl
    | [x,z],hl=>exact ZeA
 by_cases e3:op=3
 ·subst e3;clear t1 t2 t21;by_cases hb2:k=1/\bu v name width=true
  ·open zce in exact ZaJ
  ·refine fin none n ?_ Taa λ W gf T hT hW h1 hf=>Xc hE hw ZbJ hT hW h1 hf
   ·unfold nC;rw[if_neg Tac,if_neg Tac,if_neg Tac,show cT 3=false from rfl,if_neg Tac,if_pos rfl];exact Zbr
 by_cases e4:op=4
 ·subst e4;clear t1 t2 t21;by_cases hb2:k=1/\bu v name width=true
  ·open zcf in exact ZaJ
  ·refine fin none n ?_ Taa λ W gf T hT hW h1 hf=>Xd hE hw ZbJ hT hW h1 hf
   ·unfold nC;rw[if_neg Tac,if_neg Tac,if_neg Tac,show cT 4=false from rfl,if_neg Tac,if_neg Tac,if_pos rfl];exact Zbr
 by_cases e18:op=18
 ·subst e18;clear t1 t2 t21;by_cases hb2:k=1/\bu v name width=true
  ·open zcg in exact ZaJ
  ·refine fin none n ?_ Taa λ W gf T hT hW h1 hf=>RZ hE hw ZbJ hT hW h1 hf
   ·unfold nC;rw[if_neg Tac,if_neg Tac,if_neg Tac,show cT 18=false from rfl,if_neg Tac,if_neg Tac,if_neg Tac,if_pos rfl];exact Zbr
 by_cases e19:op=19
 ·subst e19;clear t1 t2 t21;by_cases hb2:k=1/\bu v name width=true
  ·open zch in exact ZaJ
  ·refine fin none n ?_ Taa λ W gf T hT hW h1 hf=>GU hE hw ZbJ hT hW h1 hf
   ·unfold nC;rw[if_neg Tac,if_neg Tac,if_neg Tac,show cT 19=false from rfl,if_neg Tac,if_neg Tac,if_neg Tac,if_neg Tac,if_pos rfl];exact Zbr
 have t3:(op==3)=false:=by simpa using e3
 have t4:(op==4)=false:=by simpa using e4
 have t18:(op==18)=false:=by simpa using e18
 have t19:(op==19)=false:=by simpa using e19
 have hout:nC op v name width l=if (jV op && l.length==(mL op).2)=true then aq (bc (nB v &&(name.toList== [] &&(op==20 || width==0)))) (aq (some ((mL op).1++ [40])) (aq (if op=20 then aq (vq width) (some [44,32])else some []) (aq (dE (l.map (·.2))) (some [41]))))else none:=by unfold nC;rw[if_neg e1,if_neg e2,if_neg e21,h2,if_neg Tac,if_neg e3,if_neg e4,if_neg e18,if_neg e19]
 cases h7:jV op
 ·refine fin none n ?_ Taa λ W gf T hT hW h1 hf=>Sa hE hw t1 t2 t21 t3 t4 t18 t19 h2 h7 hT hW h1 hf
  rw[hout,h7];rfl
 by_cases hk:k=(mL op).2;rotate_left
 ·have tk:((k:Int)==((mL op).2:Nat))=false:=by simp only[beq_eq_false_iff_ne];omega
  refine fin none n ?_ Taa λ W gf T hT hW h1 hf=>O0 hE hw t1 t2 t21 t3 t4 t18 t19 h2 h7 tk hT hW h1 hf
  rw[hout,h7,hl,<- hn];have:(k==(mL op).2)=false:=by simpa using hk
  rw[this];rfl
 have hlk:(l.length==(mL op).2)=true:=by rw[hl,<- hn,hk];simp
 have ho:(l.map (·.2)).length=k:=by rw[length_map,hl,hn]
 have hI:∀(i:Nat) z o,ys[i]?=some z->(l.map (·.2))[i]?=some o->fC 60 b w0 z o (cs.getD i 0):=λ i z o hz hoi=>by rw[getElem?_map] at hoi;obtain⟨a,ha,rfl⟩:=Option.map_eq_some_iff.1 hoi;exact(hx i z a hz ha).2
 have hm:∀i,i < k->fD cs i+(cs.getD i 0+1)<=fD cs (i+1):=λ i hi=>by have:=sU cs i Taa;omega
 have yV:∀i,i<=k->fD cs i<=fD cs k:=λ i hi=>wV cs k i hi Taa
 have QS:cs.length=k:=by omega
 by_cases e20:op=20
 ·subst e20;refine fin _ (n+5+fD cs k) ?_ (by rw[QS];omega) λ W gf T hT hW h1 hf=>Ow hE hw (jg cs) hm yV S hS hk hn.symm ho hA hI y0 y1 (by rw[QS] at hb;omega) hT hW h1 hf
  rw[hout,h7,hlk];rfl
 ·have t20:(op==20)=false:=by simpa using e20
  refine fin _ (n+5+fD cs k) ?_ (by rw[QS];omega) λ W gf T hT hW h1 hf=>acm hE hw t1 t2 t21 t3 t4 t18 t19 t20 h2 h7 (jg cs) hm yV S hS hk hn.symm ho hA hI y0 y1 (by rw[QS] at hb;omega) hT hW h1 hf
  rw[hout,h7,hlk,if_neg e20];rfl
mutual
def Tr.cost:Tr->Nat
 | .mk op v name width args=>10+Tr.costs args
def Tr.costs:List Tr->Nat
 | []=>0
 | t::ts=>t.cost+3+Tr.costs ts
end
theorem nG:∀ts:List Tr,fD (ts.map Tr.cost) (ts.map Tr.cost).length=Tr.costs ts
 | []=>rfl
 | t::ts=>by have:=nG ts;simp only[map_cons,length_cons,fD,Tr.costs] at this ⊢;rw[this]
mutual
def Tr.fine:Tr->Prop
 | .mk op v name width args=>(v.Ok/\v.s.size<=1048576/\name.size<=1048576/\ -9223372036854775808<=width/\width<=9223372036854775807)/\Tr.rP args
def Tr.rP:List Tr->Prop
 | []=>True
 | t::ts=>t.fine/\Tr.rP ts
end
mutual
theorem Tr.Zp {w0:World} {b:Nat}(hE:di w0) {S:Nat->Prop}(hS:∀b,S b->b < w0.heap.size):∀(t:Tr) (y:Ex),t.at_ w0 S y->t.fine->fC 60 b w0 y t.out t.cost
 | .mk op v name width args,y,h,hf=>by unfold Tr.at_ at h;obtain⟨rfl,rfl,rfl,rfl,hn,ys,hr,ha⟩:=h;unfold Tr.fine at hf;have hl:=Tr.dS.length ha;unfold Tr.out Tr.cost;rw[<- nG];exact Kh hE ⟨hf.1.1,hf.1.2.1,hf.1.2.2.1,hf.1.2.2.2.1,hf.1.2.2.2.2⟩ S hS Tba hr (by rw[zW];simp[hl]) (by simp[hl]) (Tr.Sb hE hS args ys ha hf.2)
theorem Tr.Sb {w0:World} {b:Nat}(hE:di w0) {S:Nat->Prop}(hS:∀b,S b->b < w0.heap.size):∀(ts:List Tr) (ys:List Ex),Tr.dS w0 S ts ys->Tr.rP ts->∀(i:Nat) z a,ys[i]?=some z->(Tr.outs ts)[i]?=some a->a.1=z.op/\fC 60 b w0 z a.2 ((ts.map Tr.cost).getD i 0)
 | [],ys,h,_,i,z,a,hz,ha=>by simp[Tr.outs] at ha
 | t::ts,ys,h,hf,i,z,a,hz,ha=>by
   unfold Tr.dS at h;obtain⟨y,ys',rfl,h1,h2⟩:=h;unfold Tr.rP at hf;unfold Tr.outs at ha
   match i,hz,ha with
   | 0,hz,ha=>
     simp at hz ha;subst hz ha;refine⟨?_,by simpa using Tr.Zp hE hS t y h1 hf.1⟩
     match t,h1 with
     | .mk op v name width args,h1=>unfold Tr.at_ at h1;exact h1.1.symm
   | i+1,hz,ha=>have:=Tr.Sb (b:=b) hE hS ts ys' h2 hf.2 i z a (by simpa using hz) TaK;simpa using this
end
variable{c d:Nat}{o:Option aT}
theorem zh7.KcJ(h:p:=by
 obtain⟨x0,x1,x2,x3,x4,x5,x6⟩:=mn.out.cells;dsimp only at x0 x1 x2 x3 x4 x5 x6;by_cases Pv:32 < d
 ·have t1:decide ((32:Int)<(d:Int))=true:=decide_eq_true Taa;have t2:decide (32 < d)=true:=decide_eq_true Pv;have ho:=HO.out;rw[if_pos Pv] at ho;clear HO;subst ho;obtain⟨⟨sb,c2⟩,fz,hs2,wy⟩:=nE.out.vw;have rk:=hid hs2;have eC:=hid (fw.out.trans wy);clear hs2 wy Pv;go_wp2_with fail;refine bodyPost_ret (results_none rfl _ _ _) rfl ⟨rfl,?_,eC.out⟩;rw[je];exact rk.out.more Taa
 ·have t1:decide ((32:Int)<(d:Int))=false:=decide_eq_false Taa;have t2:decide (32 < d)=false:=decide_eq_false Pv;have ho:=HO.out;rw[if_neg Pv] at ho;clear HO;subst ho;clear Pv;go_wp2_with fail;refine(HX.out w1 s n nE.out (hw.trans fw.out.below) Taa).mono ?_;rintro e w2 ⟨rfl,h2,d2⟩;have H2:=hid h2;have D2:=hid (fw.out.trans d2);clear h2 d2 nE fw x0 x1 x2 x3 x4 x5 x6;go_wp2_with fail;go_end0;exact⟨rfl,H2.out,D2.out⟩):p:=h
theorem zeT.Kbj(h:p:=by
 have HD:=hid (ck.aA (b:=b) bx hsz);have kG:w.heap.size≠b:=by omega
 clear HH;go_upto_region 1 with fail;generalize w.alloc _=W1 at*;clear bx;obtain⟨x0,x1,x2,x3,x4,x5,x6⟩:=HB.out.cells;dsimp only at x0 x1 x2 x3 x4 x5 x6;go_wp2_with fail;refine(HDD.out W1 (hw.trans HD.out.below)).mono ?_;open zh7 in exact ZgX):p:=h
theorem KS(hdd:∀W,Below w0.heap.size w0 W->Calls Tryz.prog 59 #[dA y] W λ e w'=>e=.returned (.int .i64 d)/\Below W.heap.size W w')(hx:fC 60 b w0 y o c):
  fC 23 b w0 y (if 32 < d then none else o) c:=by intro w s n h hw hn;obtain⟨oo,ho⟩:∃oo,oo=(if 32 < d then none else o):=⟨_,rfl⟩;rw[<- ho];have HO:=hid ho;clear ho;have HX:=hid hx;have HDD:=hid hdd;have HH:=hid h;have hsz:=h.size;have hlt:=h.lt;clear hx h hdd;obtain⟨op,v,name,width,A,k,cp⟩:=y;unfold dA aL;go_enter Tryz.func23,Tryz.ntmps23;open zeT in exact Zct
theorem zha.Kcj(h:p:=by
 have ho:=HO.out;rw[if_neg Fm] at ho;clear HO;have HP:=hid ho;clear ho;go_wp2_with fail;refine(Ab ⟨#[32]⟩ word ⟨#[32]⟩ w1 H1.out Tac Taa Tac Taa).mono ?_;rintro e w2 ⟨rfl,h2,d2⟩;have H2:=hid h2;have D2:=hid (D1.out.trans d2);clear h2 d2 H1 D1;obtain⟨z,hz⟩:∃z,ys[0]?=some z:=⟨_,getElem?_eq_getElem (by rw[HK.out];omega)⟩;rcases HA.out with h0 |⟨q,off,mr,lH,hcell⟩
 ·rw[h0] at hz;cases hz
 have A0:=uo hS lH hcell hz;have I0:=hid (HI.out z hz);have hw2:=hw.trans D2.out.below;obtain⟨k0,k1,k2,k3,k4,k5,k6⟩:=A0.later hw2;simp only[Nat.zero_mul,Nat.add_zero] at k0 k1 k2 k3 k4 k5 k6;clear hcell hz A0 t1 t2;subst mr;have yu:0 < k:=Nat.pos_of_ne_zero Fm;clear Fm;go_wp2_with fail;refine(I0.out w2 _ _ H2.out hw2 Taa).mono ?_;rintro e w3 ⟨rfl,h3,d3⟩;have H3:=hid h3;have D3:=hid (D2.out.trans d3);clear h3 d3 H2 D2 k0 k1 k2 k3 k4 k5 k6;go_wp2_with fail;go_end0;refine⟨rfl,?_,D3.out⟩;have:=H3.out;rw[HP.out];exact Zed):p:=h
theorem Pw(word:ByteArray)(A:Option Addr)(k cp:Nat)(ys:List Ex)(o:Option aT)(S:Nat->Prop)(hS:∀b,S b->b < w0.heap.size)(hk:ys.length=k)(hA:RL aL 7 w0 S A ys)(ZL:word.size<=1000)(hkm:k<=1000000000)
  (hI:∀z,ys[0]?=some z->fC 23 b w0 z o c) (w:World) (h:eu w0.heap.size b s n w) (hw:Below w0.heap.size w0 w) (hn:n+3+c<=50000000):
  Calls Tryz.prog 47 #[.pointer (some ⟨b,0,none⟩),.string word,.slice A k cp] w (aW w0.heap.size b (aq s (aq (bc (decide (k<=1))) (if k=0 then some [] else aq (some (32::(word.data.toList++ [32]))) o))) (n+3+c) w):=by
 obtain⟨oo,ho⟩:∃oo,oo=(if k=0 then some [] else aq (some (32::(word.data.toList++ [32]))) o):=⟨_,rfl⟩;rw[<- ho];have HO:=hid ho;clear ho;have HI:=hid hI;have HA:=hid hA;have HK:=hid hk;have HH:=hid h;have hsz:=h.size;clear hI hA hk h;go_enter Tryz.func47,Tryz.ntmps47;go_wp2_with fail;refine(aX _ w HH.out).mono ?_;rintro e w1 ⟨rfl,h1,d1⟩;have hm:decide ((k:Int)<=1)=decide (k<=1):=by rw[decide_eq_decide];omega
 try rw[hm] at h1
 have H1:=hid h1;have D1:=hid d1;clear h1 d1 HH hm;by_cases Fm:k=0
 ·subst Fm;go_wp2_with fail;go_end0;refine⟨rfl,?_,D1.out⟩;rw[HO.out,if_pos trivial,cX];exact H1.out.more Taa
 ·open zha in exact ZfJ
variable{w:World}{a e f g:Value}
theorem p8{T:TypeId} {b c d i:Value}(h:av w q T #[a,b,c,d,e,f,g,i]):
  w.cell? ⟨q,0,none⟩=some a/\w.cell? ⟨q,1,none⟩=some b/\w.cell? ⟨q,2,none⟩=some c/\w.cell? ⟨q,3,none⟩=some d/\w.cell? ⟨q,4,none⟩=some e/\w.cell? ⟨q,5,none⟩=some f/\w.cell? ⟨q,6,none⟩=some g/\w.cell? ⟨q,7,none⟩=some i:=
 ⟨h.cell 0,h.cell 1,h.cell 2,h.cell 3,h.cell 4,h.cell 5,h.cell 6,h.cell 7⟩
def asO (s:ByteArray):Option aT:=if s.toList=[] then some [] else aq (some [32,65,83,32]) (cS s)
def MX (d:Bool):Option aT:=if d then some [32,68,69,83,67] else some []
theorem zc1.KaG(h:p:=by
 cases ds
 ·have ho:oo=some []:=HO.out;clear HO;subst ho;exact Zf0
 ·have ho:oo=some [32,68,69,83,67]:=HO.out;clear HO;subst ho;go_wp2_with fail;refine(cn ⟨#[32,68,69,83,67]⟩ w1 H1.out Tac Taa).mono ?_;rintro e w2 ⟨rfl,h2,d2⟩;have H2:=hid h2;have D2:=hid (D1.out.trans d2);clear h2 d2 H1 D1 x0 x1 x2 x3 x4 x5 x6 x7 p0;go_wp2_with fail;go_end0;refine⟨rfl,?_,D2.out⟩;have:=H2.out;exact Zed):p:=h
theorem KT{p:Nat} (z:Ex×Bool) (hx:fC 23 b w0 z.1 o c)(w:World)(h:eu w0.heap.size b s n w)(hw:Below w0.heap.size w0 w)(hp:av w p 87 #[.pointer (some ⟨b,0,none⟩)])(Fo:p≠b)(hn:n+c+1<=50000000):
  Calls Tryz.prog 87 #[.agg (aL z.1++ [Value.bool z.2]).toArray,.pointer (some ⟨p,0,none⟩)] w (aW w0.heap.size b (aq s (aq o (MX z.2))) (n+c+1) w):=by obtain⟨⟨op,v,name,width,A,k,cp⟩,ds⟩:=z;obtain⟨oo,ho⟩:∃oo,oo=MX ds:=⟨_,rfl⟩;rw[<- ho];have HO:=hid ho;have HX:=hid hx;have HH:=hid h;have hsz:=h.size;have hlt:=h.lt;clear hx h ho;unfold aL;simp only[cons_append,nil_append];go_enter Tryz.func87,Tryz.ntmps87;have bx:=aa w (.cells #[.int .u8 op,.int .u8 v.k,.int .i64 v.n,.string v.s,.string name,.int .i64 width,.slice A k cp,.bool ds] 86);have HB:=hid (av.new w 86 #[.int .u8 op,.int .u8 v.k,.int .i64 v.n,.string v.s,.string name,.int .i64 width,.slice A k cp,.bool ds]);open zc1 in exact Za4
theorem eqE{s:ByteArray}(h:s.toList=[]):s=⟨#[]⟩:=by exact Zgm
theorem zhQ.KcC(h:p:=by have:=H3.out;rw[HQ.out];exact Zed):p:=h
theorem zfR.KbK(h:p:=by refine(ee hE ds w2 H2.out (hw.trans D2.out.below) HL.out Taa).mono ?_;open zhQ in exact Zgw):p:=h
theorem zc2.KaG(h:p:=by
 by_cases WJ:ds.toList=[]
 ·have ho:oo=some []:=by rw[HO.out];unfold asO;rw[if_pos WJ]
  have t0:ds=⟨#[]⟩:=eqE WJ;clear HO WJ;subst ho t0;exact Zf0
 ·have ho:oo=aq (some [32,65,83,32]) (cS ds):=by rw[HO.out];unfold asO;rw[if_neg WJ]
  have t1:ds.toList.isEmpty=false:=by cases hq:ds.toList with | nil=>exact absurd hq WJ | cons a l=>rfl
  have HQ:=hid ho;clear HO ho WJ;go_wp2_with fail;refine(cn ⟨#[32,65,83,32]⟩ w1 H1.out Tac Taa).mono ?_;open zfR in exact ZdS):p:=h
theorem Px{p:Nat} (z:Ex×ByteArray) (hE:di w0)(hl:z.2.size<=1048576)(hx:fC 23 b w0 z.1 o c)(w:World)(h:eu w0.heap.size b s n w)(hw:Below w0.heap.size w0 w)(hp:av w p 87 #[.pointer (some ⟨b,0,none⟩)])(Fo:p≠b)(hn:n+c+2<=50000000):
  Calls Tryz.prog 85 #[.agg (aL z.1++ [Value.string z.2]).toArray,.pointer (some ⟨p,0,none⟩)] w (aW w0.heap.size b (aq s (aq o (asO z.2))) (n+c+2) w):=by obtain⟨⟨op,v,name,width,A,k,cp⟩,ds⟩:=z;obtain⟨oo,ho⟩:∃oo,oo=asO ds:=⟨_,rfl⟩;rw[<- ho];have HO:=hid ho;have HX:=hid hx;have HH:=hid h;have hsz:=h.size;have hlt:=h.lt;have HL:=hid hl;clear hx h ho hl;unfold aL;simp only[cons_append,nil_append];go_enter Tryz.func85,Tryz.ntmps85;have bx:=aa w (.cells #[.int .u8 op,.int .u8 v.k,.int .i64 v.n,.string v.s,.string name,.int .i64 width,.slice A k cp,.string ds] 51);have HB:=hid (av.new w 51 #[.int .u8 op,.int .u8 v.k,.int .i64 v.n,.string v.s,.string name,.int .i64 width,.slice A k cp,.string ds]);open zc2 in exact Za4
def U0 (B b g:Nat)(t r:Int)(X:ByteArray):Nat->World->Value->Prop
 | 0,_,v=>v=.pointer (some ⟨b,0,none⟩)
 | 1,_,v=>v=.agg #[.string ⟨#[]⟩,.string ⟨#[66,79,79,76]⟩,.string ⟨#[73,78,84]⟩,.string ⟨#[84,69,88,84]⟩]
 | 2,_,v=>v=.pointer (some ⟨g,1,none⟩)
 | 3,_,v=>v=.int .u8 t
 | 4,_,v=>v=.int .u8 r
 | 5,_,v=>v=.string X
 | 6,w,v=>∃q:Nat,v=.slice (some ⟨q,0,none⟩) 2 2/\av w q 9 #[.string ⟨#[32]⟩,.string X]/\B<=q
 | _,_,_=>False
theorem KV (B b g:Nat)(t r:Int)(X:ByteArray):∀i w w' v,U0 B b g t r X i w v->af w w'->U0 B b g t r X i w' v:=by
 intro i w w' v h hl
 match i with
 | 0 | 1 | 2 | 3 | 4 | 5=>exact h
 | 6=>obtain⟨q,h1,f0,f1⟩:=h;exact⟨q,h1,f0.later hl,f1⟩
 | n+7=>exact h
variable{nm:ByteArray}{t r:Int}{X:ByteArray}
theorem XJ{g p:Nat}    (h0:0<=t)(h1:t<=255)(hr:t.tmod 4=r)(hX:X.size<=100)
  (XK:∀u:World,(Instr.index 127 (.agg #[.string ⟨#[]⟩,.string ⟨#[66,79,79,76]⟩,.string ⟨#[73,78,84]⟩,.string ⟨#[84,69,88,84]⟩]) (.int .u8 r)).run Tryz.prog u=.ok (.string X) u) (W w:World) (hst:eu w0.heap.size b s n W) (hd:ck w0.heap.size b w W) (hn:n+2<=50000000) (hsz:w0.heap.size<=w.heap.size)
  (hp:av W p 87 #[.pointer (some ⟨b,0,none⟩)]) (hg:av W g 53 #[.string nm,.int .u8 t])  (hT:T.size=25) (t1:T.getD 1 undef=.pointer (some ⟨p,0,none⟩)) (t2:T.getD 2 undef=.pointer (some ⟨g,0,none⟩)):
  (iz (Tryz.f80.body.getD .skip) 3).wp Tryz.prog (bodyPost Tryz.prog Tryz.f80 (aW w0.heap.size b (aq s (some (32::X.data.toList))) (n+2) w)) { tmps:=T,defers:=[] } W:=by
 obtain⟨u,rfl⟩:=dJ T hT;have e1:=(aw u (show 1 < 25 by decide)).symm.trans t1;have e2:=(aw u (show 2 < 25 by decide)).symm.trans t2;simp only[sT,List.range,List.range.loop,List.map,e1,e2];clear t1 t2 hT e1 e2;have HST:=hid hst;have HD:=hid hd;have HP:=hid hp;have HG:=hid hg;have HR:=hid hr;have HIX:=hid XK;have hlt:=hst.lt;clear hst hd hp hg hr XK;generalize hQ:bodyPost Tryz.prog Tryz.f80 _=Q;simp only[iz,Tryz.f80,Option.getD_some];subst hQ;refine cE 7 (U0 W.heap.size b g t r X) (KV _ _ _ _ _ _) Tab Tab Tab ?_ ?_
 ·simp only[take_succ_cons,take_zero];refine⟨?_,?_,Zbz,?_,?_,?_,?_,trivial⟩
  ·intro ρ w3 hc hL hr;have h0:_=_:=hr.1;have k0:=(av.later HP.out hL).cell 0;exact Zaw
  ·intro ρ w3 hc hL hr;exact ae (w':=w3) (by simp[go_sem,hc.const];done) ⟨af.refl _,rfl⟩
  ·intro ρ w3 hc hL hr;have h0:_=_:=hr.1;have k0:=(av.later HG.out hL).cell 1;exact Zaw
  ·intro ρ w3 hc hL hr;have h0:_=_:=hr.1;exact ae (w':=w3) (by simp[go_sem,hc.const,h0];exact HR.out) ⟨af.refl _,rfl⟩
  ·intro ρ w3 hc hL hr;have h0:_=_:=hr.1;have h1:_=_:=hr.2.1;exact ae (v:=.string X) (w':=w3) (by first |(have hi:=HIX.out w3;simp only[go_sem,h0,h1] at hi ⊢;simp only[hi];done)|(simp[go_sem,h0,h1,HIX.out];done)|(simp only[go_sem,h0,h1,Sem.run_bind,Sem.run_pure,Result.andThen_ok];exact HIX.out w3)) ⟨af.refl _,rfl⟩
  ·intro ρ w3 hc hL hr;have h0:_=_:=hr.1;exact ae (v:=.slice (some ⟨w3.heap.size,0,none⟩) 2 2) (w':=w3.alloc (.cells #[.string ⟨#[32]⟩,.string X] 9)) (by simp[go_sem,hc.const,h0];done) ⟨aa w3 _,⟨_,rfl,av.new w3 _ _,hL.size⟩⟩
 intro W2 hL;simp only[Uab];rintro _ rfl _ rfl _ rfl _ rfl _ rfl _ rfl a6 ⟨q_6,rfl,aiu,api⟩;simp only[cN,Act.put,Uac];have aef:=hid (HST.out.later hL);have eC:=hid (HD.out.later hL hsz);go_wp2_with fail;refine(vg [⟨#[32]⟩,X] q_6 2 W2 aef.out rfl aiu Taa Tac (by intro x hx;simp at hx;rcases hx with rfl | rfl;decide;omega) Taa).mono ?_;rintro e w3 ⟨rfl,h3,d3⟩;have H3:=hid h3;have D3:=hid (eC.out.trans d3);clear h3 d3 aef eC;go_wp2_with fail;go_end0;refine⟨rfl,?_,D3.out⟩;have:=H3.out;simpa [qh] using this
theorem zfp.Kby(h:p:=by have D2:=hid (fw.out.trans d2);exact ZaE):p:=h
theorem zbQ.Kap(h:p:=by
 have hcell:=λ j u hu=>(hwr.cell (p:=⟨q,off+i*1+j,none⟩) (hS q lH)).trans (hc i z j u hz hu)
 have k0:=hcell 0 _ rfl;simp only[Nat.add_zero,Nat.mul_one] at k0;have HJ:=hid hoi;clear hcell hc hz hoi hwr;subst mr;go_upto_region 4 with fail;have nE:=HS;have fw:=HD;clear HS HD;generalize wr=W1 at*;rcases Nat.eq_zero_or_pos i with mm | mm
 ·subst mm;have HT:=hid (kX HJ.out);exact ZaF
 ·open zfp in exact Zc9):p:=h
theorem zbz.Kam(h:p:=by
 go_loopw [20] (λ u wr=>∃i:Nat,i<=k/\u=.int .i64 i/\eu w0.heap.size b (aq (aq s (bc ok)) (dE (os.take i))) (n+m i) wr/\ck w0.heap.size b w wr) (λ u _=>k - (intOf u).toNat);case atStart=>exact Zbq
 case round=>
  obtain⟨i,hi,rfl,hs,hd⟩:=hrel;have HS:=hid hs;have HD:=hid hd;clear hs hd H1 D1;by_cases hlt:i < k
  ·open zbQ in exact Zaz
  ·exact ZaV):p:=h
theorem zbq.Kak(h:p:=by go_enter Tryz.func41,Tryz.ntmps41;open zbz in exact Zav):p:=h
theorem PB(ci m:Nat->Nat)(fK:FuncId)(recv kt:Array Value)(en:∀args w,(callFunc fK args).run Tryz.prog w=.ok (.enter fK args) w)(A:Option Addr)(cap k:Nat)(ys:List (Sl))(os:List (Option aT))(S:Nat->Prop)(hS:∀b,S b->b < w0.heap.size)
  (hk:ys.length=k) (ho:os.length=k) (hA:RL (λ y:Sl=> [.slice y.A y.n y.c]) 1 w0 S A ys) (w:World) (h:eu w0.heap.size b s n w) (hw:Below w0.heap.size w0 w) (m0:m 0=0) (hm:∀i,i < k->m i+(ci i+1)<=m (i+1)) (yV:∀i,i<=k->m i<=m k) (hn:n+m k<=50000000) (hkm:k<=2000000)
  (hO:∀(i:Nat) z o,ys[i]?=some z->os[i]?=some o->∀W s' n',ck w0.heap.size b w W->eu w0.heap.size b s' n' W->n'+ci i<=50000000->Calls Tryz.prog fK (recv++ #[.slice z.A z.n z.c]++kt) W (aW w0.heap.size b (aq s' o) (n'+ci i) W)):
  Calls Tryz.prog 41 #[.pointer (some ⟨b,0,none⟩),.slice A k cap,.func (.func fK) recv kt] w (aW w0.heap.size b (aq s (dt os)) (n+m k) w):=by
 open zbq in exact Zao
end Go.Proofs.YtehhdlgjfdnafaaGreatDoor
