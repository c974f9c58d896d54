/- Parts of the proof. -/
import Derived.Test.YtndgjggokjickaaGreatDoorXS1
namespace Go.Proofs.YtndgjggokjickaaGreatDoor
variable{p:Prop}
set_option maxHeartbeats 90000000
set_option maxRecDepth 100000
open Go.ChangeShapes Go.WideShapes Go.ChangeAt Go.RowKit List
set_option linter.unusedVariables false
set_option linter.unusedSimpArgs false
variable{P:Program}{Q:Exit->Act->World->Prop}{a0:Act}{w0:World}{id:Nat}{ops:List Oper}
theorem Od(k:Nat)(R:World->World->Prop)(hrefl:∀w,R w w)(Bd:∀a b c,R a b->R b c->R a c)(od:∀w,R w w.drew)
  (V:Nat->World->Value->Prop) (U:Nat->World->(Operand->Value)->Prop) (hU:Xy (ops.take k) R U) (hV:∀i w w' v,V i w v->R w w'->V i w' v) (hm:P.follows .mixedOrders=true)
  (bh:dO (ops.take k) a0.tmps.size (ops.take k) 0=true) (hz:eK ops (ops.drop k) (ops.take k).length=true)
  (hs:Hn P (ops.take k) R V U a0 w0 (ops.take k) 0) (hf:∀w,R w0 w->bF V (λ a w=>(∀i o,(ops.take k)[i]?=some o->U i w a.eval)->wpList P ops.toArray Q (ops.drop k) a w) (ops.take k) 0 a0 w):(Code.region id ops.toArray true).wp P Q a0 w0:=
 Ho (ops.drop k) (ops.take k) (take_append_drop k ops).symm R hrefl Bd od V U hU hV hm bh TaM hs hf
def Rw (B gx:Nat)(op:Int):Nat->World->Value->Prop
 | 0=>λ w v=>Found w op v
 | 1=>λ _ v=>v=aw gx
 | 2=>λ _ v=>v=ag op
 | 3=>λ w v=>∃o,v=.tuple #[.agg o,.bool (kH op)]/\yR w op o
 | 4=>λ w v=>∃o,v=.tuple #[.agg o,.bool (kH op)]/\yR w op o
 | 5=>λ w v=>∃o,v=.agg o/\yR w op o
 | 6=>λ _ v=>v=.bool (kH op)
 | 7=>λ w v=>∃g,v=aw g/\B<=g/\∃cs,aC w g 100 cs/\cs.size=6
 | _=>λ _ _=>True
theorem Ky (B gx:Nat)(op:Int)(i:Nat)(w w':World)(v:Value)(h:Rw B gx op i w v)(hr:FR op B w w'):Rw B gx op i w' v:=by
 unfold Rw at*;split at h
 ·exact h.fr hr
 ·exact h
 ·exact h
 ·exact Zhh
 ·exact Zhh
 ·exact Zhh
 ·exact h
 ·obtain⟨g,h1,h2,cs,h3,h4⟩:=h;refine⟨g,h1,h2,?_⟩;rcases hr.blk _ _ _ h3 with h5 |⟨_,_,o,h5,h6⟩
  ·exact⟨cs,h5,h4⟩
  ·obtain⟨a,wa,gi,al,nu,d,rfl,_⟩:=h5.shape;exact⟨_,h6,rfl⟩
 ·trivial
def XB (B:Nat)(op:Int)(i:Nat)(w:World)(ρ:Operand->Value):Prop:=
 i=8->∃g o,ρ (.tmp 4)=aw g/\B<=g/\yR w op o/\aC w g 100 o
variable{w w':World}{ρ ρ':Operand->Value}
theorem Kz(B:Nat)(op:Int)  (i:Nat)(h:XB B op i w ρ)(hr:FR op B w w')(he:i=8->ρ' (.tmp 4)=ρ (.tmp 4)):XB B op i w' ρ':=by
 intro hi;obtain⟨g,o,h1,h2,h3,h4⟩:=h hi;rcases hr.blk _ _ _ h4 with h5 |⟨_,_,o',h6,h7⟩
 ·exact⟨g,o,(he hi).trans h1,h2,h3.fr hr,h5⟩
 ·exact⟨g,o',(he hi).trans h1,h2,h6,h7⟩
def bS (x:Ex):Int:=
 if x.op=1/\x.n=0/\good x.v=true\/x.op=2/\x.n=0 then 0
 else if kH x.op=true/\(x.n:Int)=qW x.op/\(x.op≠20\/(1<=x.width/\x.width<=1099511627776))then 0
 else if (x.n:Int)=nH x.op then 42 else 21
def XC (x:Ex)(w:World)(e:Ending)(w':World):Prop:=∃o,e=.returned (.tuple #[.agg o,af (bS x)])/\yR w' x.op o/\aj w w'
theorem zdT.KaJ(h:p:=by
 go_wp2_with fail;refine(fE x.op _).mono ?_;rintro e w9 ⟨rfl,rfl⟩;by_cases hn:(x.n:Int)=nH x.op
 ·have t1:((x.n:Int)==nH x.op)=true:=by simpa using hn
  have qz:=aa (show bS x=42 by have Ly:=P1.ae;have LE:=N2.ae;simp only[bS];rw[if_neg Tak,if_neg Tak,if_pos hn]);exact ZbR
 ·have t1:((x.n:Int)==nH x.op)=false:=by simpa using hn
  have qz:=aa (show bS x=21 by have Ly:=P1.ae;have LE:=N2.ae;simp only[bS];rw[if_neg Tak,if_neg Tak,if_neg hn]);exact ZbS):p:=h
theorem zdU.KaJ(h:p:=by have qz:=aa (show bS x=0 by have Ly:=P1.ae;have LE:=N2.ae;simp only[bS];rw[if_pos Tak]);exact Zcl):p:=h
theorem vJ (x:Ex)(w:World):ar 42 #[.agg (ay x)] w (XC x w):=by
 go_enter Tryz.func42,Tryz.ntmps42;go_wp2_with fail;have k1:=(aC.new w 46 (ay x)).alloc (.cells #[af 0,ag 0,ag 0,.bool false,.bool false,.nilFunc] 100);have LT:=aC.new (w.alloc (.cells (ay x) 46)) 100 #[af 0,ag 0,ag 0,.bool false,.bool false,.nilFunc];rw[World.size_alloc] at LT;have hB:=ai.then (ah w (.cells (ay x) 46)) (ah _ (.cells #[af 0,ag 0,ag 0,.bool false,.bool false,.nilFunc] 100));have hgx:w.heap.size <((w.alloc (.cells (ay x) 46)).alloc (.cells #[af 0,ag 0,ag 0,.bool false,.bool false,.nilFunc] 100)).heap.size:=by simp;omega
 generalize (w.alloc (.cells (ay x) 46)).alloc (.cells #[af 0,ag 0,ag 0,.bool false,.bool false,.nilFunc] 100)=W at*;have bK:w.heap.size<=w.heap.size+1:=by omega
 generalize w.heap.size+1=g at*;refine Od 9 (FR x.op W.heap.size) (FR.refl _ _) (λ _ _ _=>FR.trans) (λ u=>?_) (Rw W.heap.size w.heap.size x.op) (XB W.heap.size x.op) ?_ (λ i u u' v h hr=>Ky _ _ _ _ _ _ _ h hr) Vx Vx Vx ?_ ?_
 ·exact⟨(Below.refl _ _).drew,λ Kx t cs h=> .inl h,λ Kx es c h=>h⟩
 ·intro i o u u' ρ ρ' hi hu hr hk;refine Kz _ _ i hu hr λ e=>?_
  subst e;simp only[take_succ_cons,take_zero] at hi hk;refine hk 7 ?_ _ 4 rfl rfl;injection hi with hi;subst hi;decide
 ·simp only[take_succ_cons,take_zero];refine⟨?_,?_,?_,?_,?_,?_,?_,?_,?_,trivial⟩
  ·intro ρ W4 hc hL hr;have e1:=hc.func 75;refine bD (f:=75) (args:= #[]) (w':=W4) (by simp[go_sem,e1]) ?_;refine(TD x.op W4).mono ?_;rintro e w2 ⟨v,he,hf,hb⟩;exact⟨v,he,FR.later hb hL.below.size,hf,λ h=>by cases h⟩
  ·intro ρ W4 hc hL hr;have h1:_=_:=hr.1;exact Zho
  ·intro ρ W4 hc hL hr;have h1:_=_:=hr.1;have c0:=(k1.below hL.below hgx).cell 0;simp only[getElem?_toArray,getElem?_cons_zero] at c0;exact aq (w':=W4) Tbe ⟨FR.refl _ _ _,rfl,λ h=>by cases h⟩
  ·intro ρ W4 hc hL hr;obtain⟨Kx,es,h1,hg,TE⟩:Found W4 x.op (ρ (.tmp 8)):=hr.1;have h2:_=_:=hr.2.1;rcases TE with ⟨ho,i,o,hfi,hoi⟩|⟨ho,hfi⟩
   ·have hl:=Xz _ _ _ _ hg x.op i _ hfi;exact aq (v:=.tuple #[.agg o,.bool true]) (w':=W4) Ta9 ⟨FR.refl _ _ _,⟨o,by rw[ho],.inl ⟨ho,hoi⟩⟩,λ h=>by cases h⟩
   ·have hl:=Z6 _ _ _ _ hg x.op hfi;exact aq (v:=.tuple #[.agg oX,.bool false]) (w':=W4) Ta9 ⟨FR.refl _ _ _,⟨oX,by rw[ho],.inr ⟨ho,rfl⟩⟩,λ h=>by cases h⟩
  ·intro ρ W4 hc hL hr;exact iQ (.inl rfl) rfl ⟨FR.refl _ _ _,hr.1,λ h=>by cases h⟩
  ·intro ρ W4 hc hL hr;obtain⟨o,h1,h2⟩:∃o,ρ (.tmp 7)=.tuple #[.agg o,.bool (kH x.op)]/\yR W4 x.op o:=hr.1;exact aq (w':=W4) TaG ⟨FR.refl _ _ _,⟨o,rfl,h2⟩,λ h=>by cases h⟩
  ·intro ρ W4 hc hL hr;obtain⟨o,h1,h2⟩:∃o,ρ (.tmp 7)=.tuple #[.agg o,.bool (kH x.op)]/\yR W4 x.op o:=hr.1;exact Zho
  ·intro ρ W4 hc hL hr;refine aq (w':=W4.alloc (.cells #[af 0,ag 0,ag 0,.bool false,.bool false,.nilFunc] 100)) (by simp[go_sem]) ⟨FR.later (ah W4 _) hL.below.size,⟨W4.heap.size,rfl,hL.below.size,_,aC.new W4 _ _,rfl⟩,λ h=>by cases h⟩
  ·intro ρ W4 hc hL hr;obtain⟨Kx,h1,hgB,cs,hcs,hsz⟩:∃Kx,ρ (.tmp 4)=aw Kx/\W.heap.size<=Kx/\∃cs,aC W4 Kx 100 cs/\cs.size=6:=hr.1;obtain⟨o,h2,ho⟩:∃o,ρ (.tmp 12)=.agg o/\yR W4 x.op o:=hr.2.1;obtain⟨a,wa,gi,al,nu,d,rfl,_,hd⟩:=ho.shape;obtain⟨f1,f2⟩:=dP hcs hsz hgB ho;have ajX:=Bj hcs hsz a wa gi al nu d;have c:∀i,(hi:i < 6)->W4.cell? ⟨Kx,i,none⟩=some (cs[i]' WC):=λ i hi=>(hcs.cell i).trans (Array.getElem?_eq_getElem WC)
   have fz:=hcs.frozen;have c0:=c 0 WC;have c1:=c 1 WC;have c2:=c 2 WC;have c3:=c 3 WC;have c4:=c 4 WC;have c5:=c 5 WC;refine Kr (w':=vI W4 Kx a wa gi al nu d) ?_ ⟨f1,trivial,λ _=>⟨Kx,_,h1,hgB,f2,ajX⟩⟩;unfold vI;rcases hd with rfl |⟨F,C,rfl⟩
   ·simp[go_sem,h1,h2,cJ,c0,c1,c2,c3,c4,c5,fz]
   ·simp[go_sem,h1,h2,cJ,c0,c1,c2,c3,c4,c5,fz]
 ·intro W4 hL;simp only[Uab];rintro _ ⟨gm,es,rfl,hgm,TE⟩ _ rfl _ rfl _ ⟨o3,rfl,h3⟩ _ ⟨KK,rfl,h4⟩ _ ⟨MY,rfl,h5⟩ _ rfl _ ⟨g4,rfl,hg4,cs,hcs,hsz⟩ hu;obtain⟨Kx,o,hg,hgB,ho,hR⟩:=hu 8 _ rfl rfl;have ee:g4=Kx:=by simpa [Act.put,Act.eval] using hg
  subst ee;clear hu hg hcs hsz cs TE hgm es h3 h4 h5 hg4;replace k1:=k1.below hL.below hgx;have cL:=LT.below hL.below (aC.lt LT);replace hB:=hB.trans (hL.below.mono hB.size);clear LT hL hgx;obtain⟨a,wa,gi,al,nu,d,rfl,_,hd⟩:=ho.shape;have KB:=λ h=>yR.args ho h
  have jR:d.oneCell'=true:=by rcases hd with rfl |⟨F,C,rfl⟩<;> rfl
  have hst:=λ(u:Addr) (m:Mode) (w:World)=>run_store Tryz.prog w u d m jR
  clear hd jR;have HO:=aa ho;clear ho;simp only[bF,Act.put,Uac];have z0:=k1.cell 0;have z1:=k1.cell 1;have x2:=k1.cell 2;have x3:=k1.cell 3;have x5:=k1.cell 5;have x6:=k1.cell 6;have x0:=hR.cell 0;have x1:=hR.cell 1;have z2:=hR.cell 2;have z3:=hR.cell 3;have z4:=hR.cell 4;have z5:=hR.cell 5;have y0:=cL.cell 0;have y1:=cL.cell 1;have y2:=cL.cell 2;have y3:=cL.cell 3;have o4:=cL.cell 4;have o5:=cL.cell 5;have rf:=cL.frozen;unfold cJ at x0 x1 z2 z3 z4 z5;simp only[Uaa] at z0 z1 x2 x3 x5 x6 x0 x1 z2 z3 z4 z5 y0 y1 y2 y3 o4 o5;cases b1:(x.op==1)
  ·cases Lw:(x.op==2)
   ·have n1:¬x.op=1:=by simpa using b1
    have n2:¬x.op=2:=by simpa using Lw
    cases q1:kH x.op
    ·clear KB;exact Zbr
    ·have ha:=KB q1;clear KB;cases b4:((x.n:Int)==a)
     ·have n4:¬(x.n:Int)=qW x.op:=by rw[<- ha];simpa using b4
      clear ha;exact Zbr
     ·have n4:(x.n:Int)=qW x.op:=by rw[<- ha];simpa using b4
      have N4:=aa n4;clear ha n4;cases b5:(x.op != 20)
      ·have n5:x.op=20:=by simpa using b5
       have N5:=aa n5;clear n5;have kw:=Tt x.width;cases b6:(decide (1<=x.width)&& decide (x.width<=1099511627776))
       ·rw[b6] at kw;have K1:=aa kw;clear kw;go_wp2_with fail;refine(K1.ae _).mono ?_;rintro e w1 ⟨rfl,rfl⟩;have n6:¬(1<=x.width/\x.width<=1099511627776):=by simpa using b6
        clear b6;go_wp2_with fail;refine(fE x.op _).mono ?_;rintro e w9 ⟨rfl,rfl⟩;by_cases hn:(x.n:Int)=nH x.op
        ·have t1:((x.n:Int)==nH x.op)=true:=by simpa using hn
         have qz:=aa (show bS x=42 by have Ly:=N4.ae;have LE:=N5.ae;simp only[bS];rw[if_neg Tak,if_neg Tak,if_pos hn]);exact ZbR
        ·have t1:((x.n:Int)==nH x.op)=false:=by simpa using hn
         have qz:=aa (show bS x=21 by have Ly:=N4.ae;have LE:=N5.ae;simp only[bS];rw[if_neg Tak,if_neg Tak,if_neg hn]);exact ZbS
       ·rw[b6] at kw;have K1:=aa kw;clear kw;have n6:1<=x.width/\x.width<=1099511627776:=by simpa using b6
        clear b6;go_wp2_with fail;refine(K1.ae _).mono ?_;rintro e w1 ⟨rfl,rfl⟩;have qz:=aa (show bS x=0 by have Ly:=N4.ae;have LE:=N5.ae;simp only[bS];rw[if_neg Tak,if_pos Tak]);exact Zcl
      ·have n5:¬x.op=20:=by simpa using b5
       have qz:=aa (show bS x=0 by have Ly:=N4.ae;simp only[bS];rw[if_neg Tak,if_pos Tak]);exact Zcl
   ·have p2:x.op=2:=by simpa using Lw
    have q1:kH x.op=false:=by rw[p2];rfl
    rw[q1];have P2:=aa p2;clear KB p2;cases b2:((x.n:Int)==0)
    ·have n2:¬x.n=0:=by simpa using b2
     go_wp2_with fail;refine(fE x.op _).mono ?_;rintro e w9 ⟨rfl,rfl⟩;by_cases hn:(x.n:Int)=nH x.op
     ·have t1:((x.n:Int)==nH x.op)=true:=by simpa using hn
      have qz:=aa (show bS x=42 by have Ly:=P2.ae;simp only[bS];rw[if_neg Tak,if_neg Tak,if_pos hn]);exact ZbR
     ·have t1:((x.n:Int)==nH x.op)=false:=by simpa using hn
      have qz:=aa (show bS x=21 by have Ly:=P2.ae;simp only[bS];rw[if_neg Tak,if_neg Tak,if_neg hn]);exact ZbS
    ·have n2:x.n=0:=by simpa using b2
     have N2:=aa n2;clear n2;have qz:=aa (show bS x=0 by have Ly:=P2.ae;have LE:=N2.ae;simp only[bS];rw[if_pos Tak]);exact Zcl
  ·have p1:x.op=1:=by simpa using b1
   have q1:kH x.op=false:=by rw[p1];rfl
   have Lw:(x.op==2)=false:=by rw[p1];rfl
   rw[q1];have P1:=aa p1;clear KB p1;cases b2:((x.n:Int)==0)
   ·have n2:¬x.n=0:=by simpa using b2
    go_wp2_with fail;refine(fE x.op _).mono ?_;rintro e w9 ⟨rfl,rfl⟩;by_cases hn:(x.n:Int)=nH x.op
    ·have t1:((x.n:Int)==nH x.op)=true:=by simpa using hn
     have qz:=aa (show bS x=42 by have Ly:=P1.ae;simp only[bS];rw[if_neg Tak,if_neg Tak,if_pos hn]);exact ZbR
    ·have t1:((x.n:Int)==nH x.op)=false:=by simpa using hn
     have qz:=aa (show bS x=21 by have Ly:=P1.ae;simp only[bS];rw[if_neg Tak,if_neg Tak,if_neg hn]);exact ZbS
   ·have n2:x.n=0:=by simpa using b2
    have N2:=aa n2;clear n2;have Up:=vD x.v;cases bg:good x.v
    ·open zdT in exact Zbo
    ·open zdU in exact Zbo
theorem sG (t:Int)(w:World):ar 73 #[ag t] w λ e w'=>e=.returned (.bool (t==0))/\w=w':=by go_enter Tryz.func73,Tryz.ntmps73;exact Zgl
def iI (a b:Int):Int:=if a=0 then 0 else if b=0 then 1 else -1
theorem zfk.Ka5(h:p:=by refine(K2.ae _).mono ?_;rintro e w1 ⟨rfl,rfl⟩;exact Zgi):p:=h
theorem zfl.Ka5(h:p:=by refine(K2.ae _).mono ?_;exact Ziw):p:=h
theorem tY (g c:Nat)(a b:Int)(w:World)(h0:w.cell? ⟨g,0,none⟩=some (ag a))(h1:w.cell? ⟨g,1,none⟩=some (ag b)):
  ar 107 #[aF g 2 c,.func (.func 73) #[] #[]] w λ e w'=>e=.returned (af (iI a b))/\w=w':=by
 unfold iI;cases ha:(a==0)
 ·have ha':¬a=0:=by simpa using ha
  rw[if_neg ha'];cases hb:(b==0)
  ·have hb':¬b=0:=by simpa using hb
   rw[if_neg hb'];have k1:=sG a;have k2:=sG b;rw[ha] at k1;rw[hb] at k2;have K1:=aa k1;have K2:=aa k2;clear k1 k2 ha' hb';go_enter Tryz.func107,Tryz.ntmps107;open zfk in exact ZcO
  ·have hb':b=0:=by simpa using hb
   rw[if_pos hb'];have k1:=sG a;have k2:=sG b;rw[ha] at k1;rw[hb] at k2;have K1:=aa k1;have K2:=aa k2;clear k1 k2 ha' hb';go_enter Tryz.func107,Tryz.ntmps107;open zfl in exact ZcO
 ·have ha':a=0:=by simpa using ha
  rw[if_pos ha'];have k1:=sG a;rw[ha] at k1;have K1:=aa k1;clear k1 ha';go_enter Tryz.func107,Tryz.ntmps107;go_wp2_with fail;refine wp_loop_rounds 3 ?_;rw[rounds_succ];go_wp2_with fail;refine(K1.ae _).mono ?_;exact Ziw
theorem Z7 (w:World):(zeroValue 5).run Tryz.prog w=.ok (ag 0) w:=by exact ZhU
theorem sH (w:World)(g o n c:Nat)(cs:Array Value)(h:aC w g 5 cs)(hn:0 < n)(hs:o+n<=cs.size):
  (Builtin.clear_ #[97] 0 #[.slice (some ⟨g,o,none⟩) n c]).run Tryz.prog w=.ok (.tuple #[]) (w.setCells g o (List.replicate n (ag 0))):=
 Go.Lib.run_clear_slice w 97 5 0 (ag 0) Tryz.underlying97 Z7 rfl rfl g o n c hn (λ j hj=>by rw[h.cell,Array.getElem?_eq_getElem WC];rfl) (λ j hj=>h.frozen _)
variable{B:Nat}
theorem fS(g:Nat)(hg:B<=g):∀(vs:List Value) (o:Nat) (w:World),Below B w0 w->Below B w0 (w.setCells g o vs)
 | [],o,w,h=>h
 | v::vs,o,w,h=>by rw[World.setCells];exact fS g hg vs (o+1) _ (h.setCell (p:=⟨g,o,none⟩) hg v)
def Z8 (g c:Nat)(w:World)(e:Ending)(w':World):Prop:=∃n,n<=1/\e=.returned (aF g n c)/\Below g w w'
theorem zfm.Ka5(h:p:=by go_ret;exact⟨1,Nat.le_refl _,rfl,hB⟩):p:=h
theorem zfn.Ka5(h:p:=by go_ret;exact⟨0,by omega,rfl,hB⟩):p:=h
theorem Oe (g c:Nat)(a b:Int)(cs:Array Value)(w:World)(h:aC w g 5 cs)(hsz:2<=cs.size)(h0:cs[0]?=some (ag a))(h1:cs[1]?=some (ag b))(hc:2<=c)(hab:a=0\/b=0):
  ar 71 #[aF g 2 c,.func (.func 73) #[] #[]] w (Z8 g c w):=by
 have c0:=(h.cell 0).trans h0;have c1:=(h.cell 1).trans h1;have fz:=h.frozen;have ki:=tY g c a b w c0 c1;have k2:=sG b;cases ha:(a==0)
 ·have ha':¬a=0:=by simpa using ha
  have hb':b=0:=by omega
  have e0:iI a b=1:=by simp[iI,ha',hb']
  rw[e0] at ki;have KI:=aa ki;have cg:=sH w g 1 1 (c - 1) cs h WC WC;have hB:=fS g (Nat.le_refl g) (List.replicate 1 (ag 0)) 1 w (Below.refl g w);clear ki k2 e0 ha' hb' hab;generalize w.setCells g 1 (List.replicate 1 (ag 0))=W at*;go_enter Tryz.func71,Tryz.ntmps71;go_wp2_with fail;refine KI.ae.mono ?_;rintro e w1 ⟨rfl,rfl⟩;go_wp2_with fail;refine wp_loop_rounds 3 ?_;rw[rounds_succ];go_wp2_with fail;go_ret;exact⟨1,Nat.le_refl _,rfl,hB⟩
 ·have ha':a=0:=by simpa using ha
  have e0:iI a b=0:=by simp[iI,ha']
  rw[e0] at ki;have KI:=aa ki;clear ki e0 ha' hab;cases hb:(b==0)
  ·rw[hb] at k2;have K1:=aa k2;clear k2;have hs:=h.aW 0 (ag b);have cg:=sH (w.setCell ⟨g,0,none⟩ (ag b)) g 1 1 (c - 1) _ hs WC Tab;have hB:=fS g (Nat.le_refl g) (List.replicate 1 (ag 0)) 1 _ ((Below.refl g w).setCell (p:=⟨g,0,none⟩) (Nat.le_refl g) (ag b));generalize (w.setCell ⟨g,0,none⟩ (ag b)).setCells g 1 (List.replicate 1 (ag 0))=W at*;go_enter Tryz.func71,Tryz.ntmps71;go_wp2_with fail;refine KI.ae.mono ?_;rintro e w1 ⟨rfl,rfl⟩;open zfm in exact ZcO
  ·rw[hb] at k2;have K1:=aa k2;clear k2;have cg:=sH w g 0 2 c cs h WC WC;have hB:=fS g (Nat.le_refl g) (List.replicate 2 (ag 0)) 0 w (Below.refl g w);generalize w.setCells g 0 (List.replicate 2 (ag 0))=W at*;go_enter Tryz.func71,Tryz.ntmps71;go_wp2_with fail;refine KI.ae.mono ?_;rintro e w1 ⟨rfl,rfl⟩;open zfn in exact ZcO
theorem KC (g c:Nat)(a b:Int)(w:World)(c0:w.cell? ⟨g,0,none⟩=some (ag a))(c1:w.cell? ⟨g,1,none⟩=some (ag b))(ha:a≠0)(hb:b≠0):
  ar 71 #[aF g 2 c,.func (.func 73) #[] #[]] w λ e w'=>e=.returned (aF g 2 c)/\w=w':=by
 have ki:=tY g c a b w c0 c1;have e0:iI a b= -1:=by simp[iI,ha,hb]
 rw[e0] at ki;have KI:=aa ki;clear ki e0;go_enter Tryz.func71,Tryz.ntmps71;go_wp2_with fail;refine KI.ae.mono ?_;exact Ziw
theorem Eg (g c n:Nat)(hn:n<=1)(w:World):ar 74 #[aF g n c] w λ e w'=>e=.returned (aF g n c)/\w=w':=by
 have d1:decide ((n:Int)< 2)=true:=by simp;omega
 go_enter Tryz.func74,Tryz.ntmps74;exact ZdA
theorem zek.KaO(h:p:=by clear bM x9 c1 hc;go_wp2_with fail;rw[rounds_succ];go_wp2_with fail;go_ret;exact⟨rfl,hL.mono (Nat.le_of_lt h.lt)⟩):p:=h
theorem zel.KaO(h:p:=by clear bM x9 c1 hc;have h2:=h.later hL;have cg:=sH W4 g 1 1 (c - 1) cs h2 WC WC;have hB:=fS g (Nat.le_refl g) (List.replicate 1 (ag 0)) 1 W4 (hL.mono (Nat.le_of_lt h.lt));generalize W4.setCells g 1 (List.replicate 1 (ag 0))=W3 at*;go_wp2_with fail;refine wp_loop_rounds 3 ?_;rw[rounds_succ];exact ZhM):p:=h
theorem zie.Kca(h:p:=by simp only[Uab];open zek in exact ZbB):p:=h
theorem zif.Kca(h:p:=by simp only[Uab];open zel in exact ZbB):p:=h
theorem KD (g c:Nat)(a b:Int)(cs:Array Value)(w:World)(h:aC w g 5 cs)(hsz:2<=cs.size)(h0:cs[0]?=some (ag a))(h1:cs[1]?=some (ag b))(Kx:2<=c):
  ar 74 #[aF g 2 c] w λ e w'=>e=.returned (aF g (if a=b then 1 else 2) c)/\Below g w w':=by
 have c1:=λ y:Ext w.heap.size w=>((h.later y.h).cell 0).trans h0
 have hc:=λ y:Ext w.heap.size w=>((h.later y.h).cell 1).trans h1
 cases hab:(b==a)
 ·have Og:¬a=b:=λ e=>by simp[e] at hab
  rw[if_neg Og];open zie in exact Zfu
 ·have Og:a=b:=by have:=hab;simp at this;exact this.symm
  rw[if_pos Og];open zif in exact Zfu
theorem oY:(Tryz.prog.info? 5).map (λ i=>(i.zero,i.size,i.bytes))=some (some (ag 0),1,1):=by exact ZhU
def TF (a b:Int)(w:World)(e:Ending)(w':World):Prop:=∃g c cs,e=.returned (aF g 2 c)/\w.heap.size<=g/\aC w' g 5 cs/\cs[0]?=some (ag a)/\cs[1]?=some (ag b)/\2<=cs.size/\2<=c/\aj w w'
theorem TG (p off c:Nat)(a b:Int)(w:World)(hp:p < w.heap.size)(h0:w.cell? ⟨p,off,none⟩=some (ag a))(h1:w.cell? ⟨p,off+1,none⟩=some (ag b)):
  ar 72 #[.slice (some ⟨p,off,none⟩) 2 c] w (TF a b w):=by
 obtain⟨i0,kB,hz0,hz1,hz2⟩:=info_parts oY;have hB:=ah w (.cells #[] 5);have hown:(w.alloc (.cells #[] 5)).ownsRow w.heap.size 5 1 (aF w.heap.size 0 0) 0 []:=⟨by simp,.inr ⟨w.heap.size,0,#[],rfl,Nat.le_refl _,heap_alloc_new w _,Nat.le_refl _,by unfold maxLen;omega,rfl,rfl⟩⟩
 have fy:Reads (w.alloc (.cells #[] 5)) w.heap.size 1 (some ⟨p,off,none⟩) 2 [ag a,ag b]:=by
  refine⟨rfl,λ _=>⟨_,rfl,hp,λ j u hu=>?_⟩⟩
  match j,hu with
  | 0,hu=>simp at hu;subst hu;exact(hB.cell (p:=⟨p,off,none⟩) hp).trans h0
  | 1,hu=>simp at hu;subst hu;exact(hB.cell (p:=⟨p,off+1,none⟩) hp).trans h1
  |(n+2),hu=>simp at hu
 have HW:=aa hown;have HR:=aa fy;clear hown fy;have hnil:(binOp .eql 97 (.slice (some ⟨p,off,none⟩) 2 c) (az)).run Tryz.prog w=.ok (.bool false) w:=Go.Lib.run_eql_slice_nil w 97 5 (some ⟨p,off,none⟩) 2 c 0 0 Tryz.underlying97;go_enter Tryz.func72,Tryz.ntmps72;go_wp2_with (first
  |(at_builtin
    refine cO _ rfl (.tmp 5) (.tmp 6) 97 rfl w.heap.size 5 i0 (ag 0) 1 1 Tryz.underlying97 kB hz0 hz1 hz2 rfl WC (aF w.heap.size 0 0) 0 [] rfl HW.ae w.heap.size (some ⟨p,off,none⟩) 2 c [ag a,ag b] rfl HR.ae (by simp[Value.oneCell']) Tam WC Tac ?_
    intro v2 w2 o2 g2 _
    have O2:=aa o2
    have G2:=aa g2
    clear o2 g2 HW HR))
 go_ret;rcases O2.ae.2 with ⟨_,hz⟩|⟨g,cap,cur,rfl,hb,hg,hn,hm,hs,ht⟩
 ·omega
 ·refine⟨g,cap,cur,rfl,hb,hg,?_,?_,by omega,hn,?_⟩
  ·have:=congrArg (λ l=>l[0]?) ht;simp at this;exact Zfa
  ·have:=congrArg (λ l=>l[1]?) ht;simp at this;exact Zfa
  ·refine hB.trans ⟨G2.ae.os,G2.ae.tape,G2.ae.output,G2.ae.size,λ k hk=>G2.ae.block k Tab λ e=>?_⟩;simp[Value.ownBlock] at e;omega
def cj (a b:Int):Bool:=a==0 || b==0 || a==b
theorem qY (p off c:Nat)(a b:Int)(w:World)(hp:p < w.heap.size)(h0:w.cell? ⟨p,off,none⟩=some (ag a))(h1:w.cell? ⟨p,off+1,none⟩=some (ag b)):
  ar 41 #[.slice (some ⟨p,off,none⟩) 2 c] w λ e w'=>e=.returned (.bool (cj a b))/\aj w w':=by
 go_enter Tryz.func41,Tryz.ntmps41;go_wp2_with fail;refine(TG p off c a b _ hp h0 h1).mono ?_;rintro e w1 ⟨g,c1,cs,rfl,hg,hb,e0,e1,hs,hc1,b1⟩;clear h0 h1;by_cases hz:a=0\/b=0
 ·go_wp2_with fail;refine(Oe g c1 a b cs _ hb hs e0 e1 hc1 hz).mono ?_;rintro e w2 ⟨n,hn,rfl,b2⟩;go_wp2_with fail;refine(Eg g c1 n hn _).mono ?_;rintro e w3 ⟨rfl,rfl⟩;have d1:decide ((n:Int)<=1)=true:=by simp;omega
  have HG:=aa (show cj a b=true by rcases hz with rfl | rfl <;> simp[cj]);clear hz;go_wp2_with fail;go_ret;exact⟨by rw[HG.ae];rfl,b1.trans (b2.mono hg)⟩
 ·have ha:a≠0:=λ e=>hz (.inl e)
  have hb0:b≠0:=λ e=>hz (.inr e)
  have c0':=(hb.cell 0).trans e0;have c1':=(hb.cell 1).trans e1;go_wp2_with fail;refine(KC g c1 a b _ c0' c1' ha hb0).mono ?_;rintro e w2 ⟨rfl,rfl⟩;clear c0' c1';go_wp2_with fail;refine(KD g c1 a b cs _ hb hs e0 e1 hc1).mono ?_;rintro e w3 ⟨rfl,b3⟩;have HG:=aa (show cj a b=decide (a=b) by rw[Bool.eq_iff_iff];simp[cj,ha,hb0]);by_cases hab:a=b
  ·have HA:=aa hab;rw[if_pos hab];clear hab;go_wp2_with fail;go_ret;exact⟨by rw[HG.ae,decide_eq_true HA.ae];rfl,b1.trans (b3.mono hg)⟩
  ·have HA:=aa hab;rw[if_neg hab];clear hab;go_wp2_with fail;go_ret;exact⟨by rw[HG.ae,decide_eq_false HA.ae];rfl,b1.trans (b3.mono hg)⟩
theorem zhv.KbU(h:p:=by go_wp2_with fail;rw[rounds_succ];go_wp2_with fail;go_ret;exact⟨by rw[hg1];rfl,hB⟩):p:=h
theorem zgC.Kby(h:p:=by clear x1 x3 c0 gN bN b2 hW2;open zhv in exact ZeZ):p:=h
theorem Ff (a wa gi:Int)(nu:Bool)(d:Value)(hd:d.oneCell'=true)(p off c:Nat)(k:Int)(w:World)(hp:p < w.heap.size)(h0:w.cell? ⟨p,off,none⟩=some (ag k)):
  ar 45 #[.agg #[af a,ag wa,ag gi,.bool false,.bool nu,d],.slice (some ⟨p,off,none⟩) 1 c] w λ e w'=>e=.returned (.bool (cj k wa))/\aj w w':=by have hB:=ah w (.cells #[af a,ag wa,ag gi,.bool false,.bool nu,d] 100);have hO:=aC.new w 100 #[af a,ag wa,ag gi,.bool false,.bool nu,d];have x1:=hO.cell 1;have x3:=hO.cell 3;simp only[Uaa] at x1 x3;have c0:=(hB.cell (p:=⟨p,off,none⟩) hp).trans h0;go_enter Tryz.func45,Tryz.ntmps45;go_wp2_with fail;generalize w.alloc (.cells #[af a,ag wa,ag gi,.bool false,.bool nu,d] 100)=W at*;refine wp_loop_rounds 2 ?_;open zgC in exact Zd5
theorem zhw.KbU(h:p:=by
 have c1:=(hB.cell (p:=⟨p,off+1,none⟩) hp).trans h1;go_wp2_with fail;rw[rounds_succ];go_wp2_with fail;have gN:=aC.new W2 5 #[ag j,ag wa];have bN:=ah W2 (.cells #[ag j,ag wa] 5);refine(qY W2.heap.size 0 2 j wa _ Tac (gN.cell 0) (gN.cell 1)).mono ?_;rintro e W3 ⟨rfl,b2⟩;have hW3:=ai.then bN b2;replace hB:=ai.then hB hW3;replace hO:=hO.later hW3;clear x1 x3 c0 c1 gN bN b2 hW3;cases hg2:cj j wa
 ·go_wp2_with fail;go_ret;exact⟨by rw[hg1,hg2];rfl,hB⟩
 have x1:=hO.cell 1;have x3:=hO.cell 3;simp only[Uaa] at x1 x3;have c0:=(hB.cell (p:=⟨p,off,none⟩) hp).trans h0;have c1:=(hB.cell (p:=⟨p,off+1,none⟩) hp).trans h1;go_wp2_with fail;rw[rounds_succ];cases al
 ·go_wp2_with fail;go_ret;exact⟨by rw[hg1,hg2];rfl,hB⟩
 ·go_wp2_with fail;refine(qY p off c k j _ (Nat.lt_of_lt_of_le hp hB.size) c0 c1).mono ?_;rintro e w9 ⟨rfl,b9⟩;go_wp2_with fail;go_ret;exact⟨by rw[hg1,hg2];rfl,ai.then hB b9⟩):p:=h
theorem zgD.Kby(h:p:=by clear x1 x3 c0 c1 gN bN b2 hW2;open zhw in exact ZeZ):p:=h
theorem Fg (a wa gi:Int)(al nu:Bool)(d:Value)(hd:d.oneCell'=true)(p off c:Nat)(k j:Int)(w:World)(hp:p < w.heap.size)(h0:w.cell? ⟨p,off,none⟩=some (ag k))(h1:w.cell? ⟨p,off+1,none⟩=some (ag j)):
  ar 45 #[.agg #[af a,ag wa,ag gi,.bool al,.bool nu,d],.slice (some ⟨p,off,none⟩) 2 c] w λ e w'=>e=.returned (.bool (cj k wa &&(cj j wa &&(!al || cj k j))))/\aj w w':=by have hB:=ah w (.cells #[af a,ag wa,ag gi,.bool al,.bool nu,d] 100);have hO:=aC.new w 100 #[af a,ag wa,ag gi,.bool al,.bool nu,d];have x1:=hO.cell 1;have x3:=hO.cell 3;simp only[Uaa] at x1 x3;have c0:=(hB.cell (p:=⟨p,off,none⟩) hp).trans h0;have c1:=(hB.cell (p:=⟨p,off+1,none⟩) hp).trans h1;go_enter Tryz.func45,Tryz.ntmps45;go_wp2_with fail;generalize w.alloc (.cells #[af a,ag wa,ag gi,.bool al,.bool nu,d] 100)=W at*;refine wp_loop_rounds 3 ?_;open zgD in exact Zd5
theorem Eh (p off c:Nat)(k:Int)(w:World)(h0:w.cell? ⟨p,off,none⟩=some (ag k)):
  ar 80 #[.slice (some ⟨p,off,none⟩) 1 c,ag 0] w λ e w'=>e=.returned (af (if k=0 then 0 else -1))/\w=w':=by
 by_cases hk:k=0
 ·subst hk;go_enter Tryz.func80,Tryz.ntmps80;go_wp2_with fail;refine wp_loop_rounds 2 ?_;rw[rounds_succ];exact ZdA
 ·have hk2:((0:Int)==k)=false:=by rw[beq_eq_false_iff_ne];omega
  rw[if_neg hk];clear hk;go_enter Tryz.func80,Tryz.ntmps80;go_wp2_with fail;refine wp_loop_rounds 2 ?_;rw[rounds_succ];exact Zgi
theorem Ei (p off c:Nat)(k j:Int)(w:World)(h0:w.cell? ⟨p,off,none⟩=some (ag k))(h1:w.cell? ⟨p,off+1,none⟩=some (ag j)):
  ar 80 #[.slice (some ⟨p,off,none⟩) 2 c,ag 0] w λ e w'=>e=.returned (af (if k=0 then 0 else if j=0 then 1 else -1))/\w=w':=by
 by_cases hk:k=0
 ·subst hk;go_enter Tryz.func80,Tryz.ntmps80;go_wp2_with fail;refine wp_loop_rounds 3 ?_;rw[rounds_succ];exact ZdA
 ·have hk2:((0:Int)==k)=false:=by rw[beq_eq_false_iff_ne];omega
  rw[if_neg hk];clear hk;by_cases hj:j=0
  ·subst hj;go_enter Tryz.func80,Tryz.ntmps80;go_wp2_with fail;refine wp_loop_rounds 3 ?_;rw[rounds_succ];exact Zgi
  ·have hj2:((0:Int)==j)=false:=by rw[beq_eq_false_iff_ne];omega
   rw[if_neg hj];clear hj;go_enter Tryz.func80,Tryz.ntmps80;go_wp2_with fail;refine wp_loop_rounds 3 ?_;rw[rounds_succ];go_wp2_with fail;rw[rounds_succ];exact Zgi
theorem KE (p off c:Nat)(k:Int)(w:World)(h0:w.cell? ⟨p,off,none⟩=some (ag k)):
  ar 46 #[.slice (some ⟨p,off,none⟩) 1 c,ag 0] w λ e w'=>e=.returned (.bool (k==0))/\w=w':=by
 have K:=aa (Eh p off c k w h0);go_enter Tryz.func46,Tryz.ntmps46;go_wp2_with fail;refine K.ae.mono ?_;rintro e w1 ⟨rfl,rfl⟩;by_cases hk:k=0
 ·subst hk;exact ZdA
 ·have hk2:(k==0)=false:=by simpa using hk
  rw[if_neg hk];go_wp2_with fail;go_ret;exact⟨by rw[hk2];rfl,rfl⟩
theorem KF (p off c:Nat)(k j:Int)(w:World)(h0:w.cell? ⟨p,off,none⟩=some (ag k))(h1:w.cell? ⟨p,off+1,none⟩=some (ag j)):
  ar 46 #[.slice (some ⟨p,off,none⟩) 2 c,ag 0] w λ e w'=>e=.returned (.bool (k==0 || j==0))/\w=w':=by
 have K:=aa (Ei p off c k j w h0 h1);go_enter Tryz.func46,Tryz.ntmps46;go_wp2_with fail;refine K.ae.mono ?_;rintro e w1 ⟨rfl,rfl⟩;by_cases hk:k=0
 ·subst hk;exact ZdA
 ·have hk2:(k==0)=false:=by simpa using hk
  rw[if_neg hk];by_cases hj:j=0
  ·subst hj;go_wp2_with fail;go_ret;exact⟨by rw[hk2];rfl,rfl⟩
  ·have hj2:(j==0)=false:=by simpa using hj
   rw[if_neg hj];go_wp2_with fail;go_ret;exact⟨by rw[hk2,hj2];rfl,rfl⟩
def Hp (k:Nat)(wd:Int)(l:List Val):Val×Int:=
 match k,l with
 | 3,[a]=>Xv a.n
 | 4,[a]=>(bH (a.n==0),0)
 | 5,[a,b]=>zL a.n b.n
 | 6,[a,b]=>zM a.n b.n
 | 7,[a,b]=>zN a.n b.n
 | 8,[a,b]=>zO a.n b.n
 | 9,[a,b]=>zP a.n b.n
 | 10,[a,b]=>(bH (decide (bQ a b=0)),0)
 | 11,[a,b]=>(bH (!decide (bQ a b=0)),0)
 | 12,[a,b]=>(bH (decide (bQ a b < 0)),0)
 | 13,[a,b]=>(bH (decide (bQ a b<=0)),0)
 | 14,[a,b]=>(bH (decide (0 < bQ a b)),0)
 | 15,[a,b]=>(bH (decide (0<=bQ a b)),0)
 | 16,l=>(lR false l,0)
 | 17,l=>(lR true l,0)
 | 18,[a]=>(bH ((a.k==0)==true),0)
 | 19,[a]=>(bH ((a.k==0)==false),0)
 | 20,[a]=>vG a.n wd
 | _,_=>(aP,0)
def aqS (w:World)(d:Value)(x:Ex)(l:List Val)(r:Val×Int):Prop:=∃f KH,d=.func (.func f) #[] KH/\(KH= #[]\/∃p,KH= #[p])/\(∀(args:Array Value) (w:World),(callFunc f args).run Tryz.prog w=.ok (.enter f args) w)/\
 ∀(W:World) (A:Option Addr) (c:Nat),aj w W->RV W W.heap.size A l->ar f (#[.agg (ay x),.slice A l.length c]++KH) W λ e w'=>e=.returned (bT r.1 r.2)/\aj W w'
theorem XD (args:Array Value)(w:World):(callFunc 108 args).run Tryz.prog w=.ok (.enter 108 args) w:=by exact ZhU
theorem XE (args:Array Value)(w:World):(callFunc 110 args).run Tryz.prog w=.ok (.enter 110 args) w:=by exact ZhU
theorem XF (args:Array Value)(w:World):(callFunc 128 args).run Tryz.prog w=.ok (.enter 128 args) w:=by exact ZhU
theorem qZ (args:Array Value)(w:World):(callFunc 167 args).run Tryz.prog w=.ok (.enter 167 args) w:=by exact ZhU
theorem og (args:Array Value)(w:World):(callFunc 169 args).run Tryz.prog w=.ok (.enter 169 args) w:=by exact ZhU
theorem KJ (args:Array Value)(w:World):(callFunc 170 args).run Tryz.prog w=.ok (.enter 170 args) w:=by exact ZhU
theorem KL (args:Array Value)(w:World):(callFunc 172 args).run Tryz.prog w=.ok (.enter 172 args) w:=by exact ZhU
variable{k:Nat}{a wa gi:Int}{al nu:Bool}{d:Value}
theorem zaQ.Kag(h:p:=by obtain⟨u,rfl⟩:=one WC;exact⟨_,#[],rfl,.inl rfl,XD,λ W A c hb hr=>Y3 x A c u W hr⟩):p:=h
theorem zaR.Kag(h:p:=by obtain⟨u,rfl⟩:=one WC;exact⟨_,#[],rfl,.inl rfl,XE,λ W A c hb hr=>Y4 x A c u W hr⟩):p:=h
theorem zaS.Kag(h:p:=by obtain⟨u,v,rfl⟩:=two WC;exact⟨_,#[_],rfl,.inr ⟨_,rfl⟩,qZ,λ W A c hb hr=>aeY x A c q u v W hr (hq.later hb)⟩):p:=h
theorem zaT.Kag(h:p:=by obtain⟨u,v,rfl⟩:=two WC;exact⟨_,#[_],rfl,.inr ⟨_,rfl⟩,qZ,λ W A c hb hr=>aeZ x A c q u v W hr (hq.later hb)⟩):p:=h
theorem zaU.Kag(h:p:=by obtain⟨u,v,rfl⟩:=two WC;exact⟨_,#[_],rfl,.inr ⟨_,rfl⟩,qZ,λ W A c hb hr=>Xx x A c q u v W hr (hq.later hb)⟩):p:=h
theorem zaV.Kag(h:p:=by obtain⟨u,v,rfl⟩:=two WC;exact⟨_,#[_],rfl,.inr ⟨_,rfl⟩,qZ,λ W A c hb hr=>afa x A c q u v q2 W hr (hq.later hb) (lr.later hb)⟩):p:=h
theorem zaW.Kag(h:p:=by obtain⟨u,v,rfl⟩:=two WC;exact⟨_,#[_],rfl,.inr ⟨_,rfl⟩,qZ,λ W A c hb hr=>afb x A c q u v q2 W hr (hq.later hb) (lr.later hb)⟩):p:=h
theorem zaX.Kag(h:p:=by obtain⟨u,v,rfl⟩:=two WC;exact⟨_,#[_],rfl,.inr ⟨_,rfl⟩,og,λ W A c hb hr=>ajE x A c q u v W hr (hq.later hb)⟩):p:=h
theorem zaY.Kag(h:p:=by obtain⟨u,v,rfl⟩:=two WC;exact⟨_,#[_],rfl,.inr ⟨_,rfl⟩,og,λ W A c hb hr=>ajF x A c q u v W hr (hq.later hb)⟩):p:=h
theorem zaZ.Kag(h:p:=by obtain⟨u,v,rfl⟩:=two WC;exact⟨_,#[_],rfl,.inr ⟨_,rfl⟩,og,λ W A c hb hr=>ajG x A c q u v W hr (hq.later hb)⟩):p:=h
theorem za0.Kag(h:p:=by obtain⟨u,v,rfl⟩:=two WC;exact⟨_,#[_],rfl,.inr ⟨_,rfl⟩,og,λ W A c hb hr=>ajH x A c q u v W hr (hq.later hb)⟩):p:=h
theorem za1.Kag(h:p:=by obtain⟨u,v,rfl⟩:=two WC;exact⟨_,#[_],rfl,.inr ⟨_,rfl⟩,og,λ W A c hb hr=>ajI x A c q u v W hr (hq.later hb)⟩):p:=h
theorem za2.Kag(h:p:=by obtain⟨u,v,rfl⟩:=two WC;exact⟨_,#[_],rfl,.inr ⟨_,rfl⟩,og,λ W A c hb hr=>ajJ x A c q u v W hr (hq.later hb)⟩):p:=h
theorem za3.Kag(h:p:=by exact Zfc):p:=h
theorem za4.Kag(h:p:=by exact Zfc):p:=h
theorem za5.Kag(h:p:=by exact ZfJ):p:=h
theorem za6.Kag(h:p:=by exact ZfJ):p:=h
theorem za7.Kag(h:p:=by obtain⟨u,rfl⟩:=one WC;exact⟨_,#[],rfl,.inl rfl,XF,λ W A c hb hr=>TA x A c u W hr (hwd rfl).1 (hwd rfl).2 (bh u Tac)⟩):p:=h
theorem gG.does(h:gG w k (.agg (cJ a wa gi al nu d)))(x:Ex)(l:List Val)(hl:(l.length:Int)=a)(bh:∀v∈l,v.Ok)(hwd:k=20->1<=x.width/\x.width<=1099511627776):aqS w d x l (Hp k x.width l):=by
 have two:a=2->∃u v,l=[u,v]:=λ e=>by
  match l,hl with
  | [u,v],_=>exact⟨u,v,rfl⟩
  | [],h=>simp at h;omega
  | [u],h=>simp at h;omega
  | u::v::z::r,h=>simp at h;omega
 have one:a=1->∃u,l=[u]:=λ e=>by
  match l,hl with
  | [u],_=>exact⟨u,rfl⟩
  | [],h=>simp at h;omega
  | u::v::r,h=>simp at h;omega
 unfold gG at h;split at h
 ·open zaQ in exact Zav
 ·open zaR in exact Zav
 ·obtain⟨q,h,hq⟩:=h;open zaS in exact Zav
 ·obtain⟨q,h,hq⟩:=h;open zaT in exact Zav
 ·obtain⟨q,h,hq⟩:=h;open zaU in exact Zav
 ·obtain⟨q,q2,h,hq,lr⟩:=h;open zaV in exact Zav
 ·obtain⟨q,q2,h,hq,lr⟩:=h;open zaW in exact Zav
 ·obtain⟨q,h,hq⟩:=h;open zaX in exact Zav
 ·obtain⟨q,h,hq⟩:=h;open zaY in exact Zav
 ·obtain⟨q,h,hq⟩:=h;open zaZ in exact Zav
 ·obtain⟨q,h,hq⟩:=h;open za0 in exact Zav
 ·obtain⟨q,h,hq⟩:=h;open za1 in exact Zav
 ·obtain⟨q,h,hq⟩:=h;open za2 in exact Zav
 ·obtain⟨q,h,hq⟩:=h;open za3 in exact Zav
 ·obtain⟨q,h,hq⟩:=h;open za4 in exact Zav
 ·obtain⟨q,h,hq⟩:=h;open za5 in exact Zav
 ·obtain⟨q,h,hq⟩:=h;open za6 in exact Zav
 ·open za7 in exact Zav
 ·exact h.elim
section
variable {α:Type} {f:α->List Value} {e:TypeId} {size:Nat} {base:Nat} {lv:Value} {l:List α} {y:α}
structure AR (f:α->List Value) (e:TypeId) (size base:Nat) (lv:Value) (l:List α) (y:α) (a b:World):Prop where
 grown:a.grownBy b lv.ownBlock
 old:aI f e size a base lv l->aI f e size b base lv l
 new:∀u,aI f e size a base u (l++ [y])->aI f e size b base u (l++ [y])
theorem AR.refl (w:World):AR f e size base lv l y w w:=⟨⟨rfl,rfl,rfl,Nat.le_refl _,λ _ _ _=>rfl⟩,id,λ _=>id⟩
theorem AR.trans {a b c:World}(h:AR f e size base lv l y a b)(k:AR f e size base lv l y b c):AR f e size base lv l y a c:=
 ⟨h.grown.trans k.grown,λ o=>k.old (h.old o),λ u o=>k.new u (h.new u o)⟩
theorem AR.later {a b:World}(h:aj a b):AR f e size base lv l y a b:=
 ⟨⟨h.os,h.tape,h.output,h.size,λ k hk _=>h.block k hk⟩,λ o=>o.later h,λ u o=>o.later h⟩
theorem AR.drew (w:World):AR f e size base lv l y w w.drew:=AR.later (ai.drew w)
theorem fg {P:Program} {w:World}(t ty:TypeId)(z:Value)(bytes:Nat)(ht:P.underlying t=some (.slice e))(jm:(P.info? e).map (λ i=>(i.zero,i.size,i.bytes))=some (some z,size,bytes))(hzs:z.cells.size=size)(hsz:0 < size)
  (hf:∀x,(f x).length=size) (h1:∀u∈f y,u.oneCell'=true) (hown:aI f e size w base lv l)
  (g0:Nat) (hg0:aC w g0 e (f y).toArray) (hlen:(l.length+1)*bytes<=140737488355328) (mS:l.length+1<=140737488355328) (hbase:base<=w.heap.size):
  ∃v' w',(Builtin.append_ #[t,t] ty #[lv,aF g0 1 1]).run P w=.ok v' w'/\aI f e size w' base v' (l++ [y])/\AR f e size base lv l y w w':=by
 obtain⟨i0,kB,hz0,hz1,hz2⟩:=info_parts jm
 have hnews:∀j u,(f y)[j]?=some u->w.cell? ((⟨g0,0,none⟩:Addr).add j)=some u:=by
  intro j u hu;have:(Addr.add ⟨g0,0,none⟩ j)=⟨g0,j,none⟩:=by unfold Addr.add;split <;> simp_all
  rw[this,hg0.cell];simpa using hu
 have fq:(f y).length=1*size:=by rw[hf];omega
 have conv:∀ {w':World} {v':Value},w'.ownsRow base e size v' (l.length+1) (l.flatMap f++f y)->aI f e size w' base v' (l++ [y]):=λ h=>by unfold aI;rw[length_append,flatMap_append];simpa using h
 by_cases hroom:∃g cap,lv=aF g l.length cap/\l.length+1<=cap
 ·obtain⟨g,cap,rfl,hr⟩:=hroom;obtain⟨w',hrun,ho,hg⟩:=run_append_fits (P:=P) w base t ty e i0 size ht kB hz1 g l.length cap (l.flatMap f) hown ⟨g0,0,none⟩ 1 1 (f y) fq hnews h1 hr;refine⟨_,w',hrun,conv ho,hg,λ _=>?_,λ u hu=>?_⟩
  ·rcases ho.2 with ⟨h,_⟩|⟨g',cap',cur,h,hbg,ee,hn,hm,hs,ht'⟩
   ·cases h
   ·injection h with xA Ej h3';injection xA with xA;injection xA with xA _ _;subst xA h3';refine⟨hown.1,.inr ⟨g,cap,cur,rfl,hbg,ee,by omega,hm,hs,?_⟩⟩;have hx:=congrArg (List.take (l.length*size)) ht';rw[take_take,Nat.min_eq_left (Nat.mul_le_mul_right _ WC),take_append_of_le_length (Nat.le_of_eq hown.1.symm)] at hx;rw[hx];exact take_of_length_le (Nat.le_of_eq hown.1)
  ·by_cases hb:u.ownBlock=some g
   ·rcases hu.2 with ⟨rfl,_⟩|⟨g',cap',cur,rfl,hbg,ee,hn,hm,hs,ht'⟩
    ·simp[Value.ownBlock] at hb
    ·simp only[Value.ownBlock,Option.some.injEq] at hb;subst hb;rcases hown.2 with ⟨h,_⟩|⟨g2,afh,ayr,h,_,TH,_,_,hs2,_⟩
     ·cases h
     ·injection h with xA Ej h3';injection xA with xA;injection xA with xA _ _;subst xA h3';rw[ee] at TH;injection TH with TH;injection TH with TH _ _;subst TH;have aqT:cap'=cap:=Nat.eq_of_mul_eq_mul_right hsz (hs.symm.trans hs2);subst aqT;have:=conv ho;rw[length_append];exact this
   ·exact hu.keep λ q hq=>hg.block q (hu.lt hq).1 λ e=>hb (by rw[hq];exact e)
 ·obtain⟨v',w',hrun,ho,hg,_,hat⟩:=run_append_own_at (P:=P) w base t ty e i0 z size bytes ht kB hz0 hz1 hz2 hzs hsz lv l.length (l.flatMap f) hown ⟨g0,0,none⟩ 1 1 (f y) fq hnews h1 Tam hlen hbase
  have aqU:aj w w':=by
   rcases hown.2 with ⟨rfl,h0⟩|⟨g,cap,cur,rfl,hbg,ee,hn,hm,hs,lS⟩
   ·have hr:=run_append_nil (P:=P) w t ty e i0 z ht kB hz0 ⟨g0,0,none⟩ 1 1 (f y) (by rw[hz1];exact fq) hnews WC WC (by rw[hz2];have:1*bytes<=(l.length+1)*bytes:=Nat.mul_le_mul_right _ WC;omega);exact ZgX
   ·have hno:¬l.length+1<=cap:=λ h=>hroom ⟨g,cap,rfl,h⟩
    have holds:∀j u,(l.flatMap f)[j]?=some u->w.cell? ((⟨g,0,none⟩:Addr).add j)=some u:=World.ownsRow.cells hown (g:=g) rfl;have hr:=run_append_grow (P:=P) w t ty e i0 z ht kB hz0 ⟨g,0,none⟩ l.length cap (l.flatMap f) (by rw[hz1];exact hown.1) holds ⟨g0,0,none⟩ 1 1 (f y) (by rw[hz1];exact fq) hnews WC WC (by rw[hz2];exact growslice_fits WC hlen);exact ZgX
  exact⟨v',w',hrun,conv ho,AR.later aqU⟩
end
def aX (v:Val):List Value:=[ag v.k,af v.n,.string v.s]
def dQ (k:Int):List Value:=[ag k]
theorem lT:(Tryz.prog.info? 44).map (λ i=>(i.zero,i.size,i.bytes))=some (some (.agg #[ag 0,af 0,au]),3,32):=by exact ZhU
theorem dR (b off n:Nat):Addr.add ⟨b,off,none⟩ n=⟨b,off+n,none⟩:=by
 unfold Addr.add;split
 ·rename_i h;subst h;rfl
 ·rfl
variable{α:Type}{f:α->List Value}{size:Nat}
theorem Hq(hf:∀x,(f x).length=size):∀(l:List α) (i j:Nat) (x:α),l[i]?=some x->j < size->(l.flatMap f)[i*size+j]?=(f x)[j]?
 | [],i,j,x,h,hj=>by simp at h
 | y::l,0,j,x,h,hj=>by simp at h;subst h;simp only[flatMap_cons,Nat.zero_mul,Nat.zero_add];rw[getElem?_append_left (by rw[hf];exact hj)]
 | y::l,i+1,j,x,h,hj=>by have:=Hq hf l i j x Tal hj;simp only[flatMap_cons];rw[getElem?_append_right (by rw[hf,Nat.succ_mul];omega),hf,<- this];congr 1;rw[Nat.succ_mul];omega
variable{e:TypeId}{base:Nat}{v:Value}{l:List α}
theorem ej(hf:∀x,(f x).length=size)    (h:aI f e size w base v l):
  ∃A c,v=.slice A l.length c/\(l=[]\/∃g,A=some ⟨g,0,none⟩/\g < w.heap.size/\∀i x j u,l[i]?=some x->j < size->(f x)[j]?=some u->w.cell? ⟨g,i*size+j,none⟩=some u):=by
 obtain⟨A,c,rfl,hr,_,hA⟩:=h.reads;refine⟨A,c,rfl,?_⟩;rcases hA with rfl |⟨g,rfl,hg⟩
 ·exact .inl rfl
 ·rcases eq_nil_or_concat l with rfl | hne
  ·exact .inl rfl
  ·have TI:0 < l.length:=by obtain⟨_,_,rfl⟩:=hne;simp
   obtain⟨ad,e,hb,hc⟩:=hr.2 TI;injection e with e;subst e;refine .inr ⟨g,rfl,hb,λ i x j u hx hj hu=>?_⟩;have:=hc (i*size+j) u ((Hq hf l i j x hx hj).trans hu);rw[dR] at this;exact Zfa
theorem Hr{l:List Val}(h:aI aX 44 3 w base v l):∃A c,v=.slice A l.length c/\RV w w.heap.size A l:=by
 obtain⟨A,c,rfl,hc⟩:=ej (f:=aX) (size:=3) (λ _=>rfl) h;refine⟨A,c,rfl,?_⟩;rcases hc with hc |⟨g,rfl,hg,hc⟩
 ·exact .inl hc
 ·refine .inr ⟨g,0,rfl,hg,λ i x hx=>?_⟩;have k:=λ j u hj hu=>hc i x j u hx hj hu
  exact⟨by simpa using k 0 _ WC rfl,by simpa using k 1 _ WC rfl,by simpa using k 2 _ WC rfl⟩
def um (op:Int):Int:=if op=4\/op=16\/op=17 then 1 else if 10<=op/\op<=15\/op=18\/op=19 then 0 else 2
def uo (op:Int):Int:=if op=4\/10<=op/\op<=19 then 1 else 2
def uq (op:Int):Bool:=decide (10<=op/\op<=15)
def Bk (op:Int):Bool:=decide (16<=op/\op<=19)
theorem gG.fields(h:gG w k (.agg (cJ a wa gi al nu d))):wa=um k/\gi=uo k/\al=uq k/\nu=Bk k:=by
 unfold gG at h;split at h
 all_goals first
  | exact h.elim
  |(simp[eU,cJ] at h;simp[um,uo,uq,Bk];simp_all)
  |(obtain⟨q,q2,h1,_⟩:=h;simp[eU,cJ] at h1;simp[um,uo,uq,Bk];simp_all)
  |(obtain⟨q,h1,_⟩:=h;simp[eU,cJ] at h1;simp[um,uo,uq,Bk];simp_all)
variable{x:Ex}
theorem Bl(h:bS x=0)(h2:x.op≠2)(h1:x.op≠1):kH x.op=true/\(x.n:Int)=qW x.op/\(x.op=20->1<=x.width/\x.width<=1099511627776):=by
 unfold bS at h;rw[if_neg (by simp[h1,h2])] at h;split at h
 ·rename_i hc;refine⟨hc.1,hc.2.1,λ e=>?_⟩;rcases hc.2.2 with h3 | h3
  ·exact absurd e h3
  ·exact h3
 ·split at h <;> omega
variable{op:Int}{xv:Val}{width:Int}{A:Option Addr}
theorem sI{name:ByteArray}     {c:Nat}(h:bS ⟨op,xv,name,width,A,l.length,c⟩=0)(h2:op=2):l=[]:=by
 subst h2;unfold bS at h;split at h
 ·rename_i hc;rcases hc with ⟨h3,_⟩|⟨_,h3⟩
  ·exact absurd h3 (show¬((2:Int)=1) by decide)
  ·exact eq_nil_of_length_eq_zero h3
 ·split at h
  ·rename_i hc;exact absurd hc.1 (show¬(kH 2=true) by decide)
  ·split at h <;> omega
def gO (op:Int):List Int->Bool
 | [k]=>cj k (um op)
 | [k,j]=>cj k (um op)&&(cj j (um op)&&(!uq op || cj k j))
 | _=>false
def iJ (op width:Int)(vs:List Val):Val×Int:=
 if gO op (vs.map (·.k))=false then(aP,40)else if Bk op=false/\(vs.map (·.k)).any (· ==0)=true then(aP,0)else Hp op.toNat width vs
def qf (x:Ex)(vs:List Val):Val×Int:=
 if bS x≠0 then(aP,bS x)else if x.op=1 then(x.v,0)else iJ x.op x.width vs
def evV (base:Nat)(lv kv:Value)(vs:List Val)(v:Val)(g:Nat):Nat->World->Value->Prop
 | 0=>λ _ u=>u=lv
 | 1=>λ _ u=>u=.agg (aH v)
 | 2=>λ w u=>∃q,u=aF q 1 1/\aC w q 44 (aX v).toArray/\some q≠lv.ownBlock
 | 3=>λ w u=>aI aX 44 3 w base u (vs++ [v])
 | 4=>λ _ u=>u=kv
 | 5=>λ _ u=>u=aw g
 | 6=>λ _ u=>u=ag v.k
 | 7=>λ w u=>∃q,u=aF q 1 1/\aC w q 5 (dQ v.k).toArray/\some q≠lv.ownBlock
 | _=>λ _ _=>True
theorem Fh (base:Nat)(lv kv:Value)(vs:List Val)(v:Val)(g:Nat)(i:Nat)(w w':World)(u:Value)(h:evV base lv kv vs v g i w u)(hr:AR aX 44 3 base lv vs v w w'):evV base lv kv vs v g i w' u:=by
 unfold evV at*;split at h
 ·exact h
 ·exact h
 ·exact Zia
 ·exact hr.new _ h
 ·exact h
 ·exact h
 ·exact h
 ·exact Zia
 ·trivial
theorem akb(h:l.length=1):∃p,l=[p]:=by
 match l,h with
 | [p],_=>exact⟨p,rfl⟩
theorem akc(h:l.length=2):∃p q,l=[p,q]:=by
 match l,h with
 | [p,q],_=>exact⟨p,q,rfl⟩
variable{β:Type}{f':β->List Value}{e':TypeId}{size' base':Nat}{u u':Value}{l':List β}{q:Nat}
theorem aI.differ(h:aI f e size w base u l)(h':aI f' e' size' w base' u' l')(ht:e≠e') (hq:u.ownBlock=some q):some q≠u'.ownBlock:=by intro hq';obtain⟨_,_,c1,h1⟩:=h.lt hq;obtain⟨_,_,c2,h2⟩:=h'.lt hq'.symm;exact ZhT
theorem aI.past(h:aI f e size w base u l)(h':aI f' e' size' w base' u' l')(hne:e≠e')(hg:w.grownBy w' u'.ownBlock):aI f e size w' base u l:=
 h.keep λ q hq=>hg.block q (h.lt hq).1 (h.differ h' hne hq)
def cy (w:World)(b off:Nat)(y:Ex):Prop:=
 w.cell? ⟨b,off,none⟩=some (ag y.op)/\w.cell? ⟨b,off+1,none⟩=some (ag y.v.k)/\w.cell? ⟨b,off+2,none⟩=some (af y.v.n)/\w.cell? ⟨b,off+3,none⟩=some (.string y.v.s)/\
 w.cell? ⟨b,off+4,none⟩=some (.string y.name)/\w.cell? ⟨b,off+5,none⟩=some (af y.width)/\w.cell? ⟨b,off+6,none⟩=some (.slice y.A y.n y.c)
variable{b off:Nat}
theorem cy.keep(h:cy w b off x)(hk:∀o,w'.cell? ⟨b,o,none⟩=w.cell? ⟨b,o,none⟩):cy w' b off x:=by unfold cy at*;simp only[hk];exact h
def RE (w:World)(B:Nat)(A:Option Addr)(l:List Ex):Prop:=
 l=[]\/∃b off,A=some ⟨b,off,none⟩/\b < B/\∀i x,l[i]?=some x->cy w b (off+i*7) x
theorem RE.below{l:List Ex}(h:RE w B A l)(hb:Below B w w'):RE w' B A l:=by exact ZcW
variable{B':Nat}
theorem RE.more{l:List Ex}(h:RE w B A l)(hB:B<=B'):RE w B' A l:=by exact Zel
theorem RE.at_{l:List Ex}(h:RE w B A l) (hk:k < l.length):∃b off,A=some ⟨b,off,none⟩/\b < B/\cy w b (off+k*7) l[k]:=by exact Zct
def jy (w:World)(cV rV:Value)(y:Ex)(v:Val)(e:Int):Prop:=∀W,aj w W->ar 17 #[.agg (ay y),cV,rV] W λ en w'=>en=.returned (bT v e)/\aj W w'
theorem zcL.Kax(h:p:=by exact ZbJ):p:=h
theorem zcM.Kax(h:p:=by exact ZbJ):p:=h
theorem zcN.Kax(h:p:=by exact ZbH):p:=h
theorem zcO.Kax(h:p:=by exact ZbH):p:=h
theorem zfC.Kba(h:p:=by
 refine(KE g9 0 c9 v1.k _ TM).mono ?_;rintro e w4 ⟨rfl,rfl⟩;cases hz:(v1.k==0)
 ·have NX:=aa (Nz.ae _ (show iJ op width [v1]=Hp op.toNat width [v1] by unfold iJ;simp only[map_cons,map_nil];rw[tI.ae,hs,if_neg Tac,if_neg Tak]));open zcL in exact ZaR
 ·exact ZcK):p:=h
theorem zge.Kbn(h:p:=by
 replace vK:=Nat.lt_of_lt_of_le vK Lw.size;clear Lw;have tI:fc (gO op [v1.k]=cj v1.k wa):=by have NE:=HWA.ae;have No:=Ay.ae;show gO _ _=_;simp only[gO,<- NE,<- No]
 cases hs:cj v1.k wa
 ·exact Za8
 ·cases R6:nu
  ·open zfC in exact ZcU
  ·subst R6;have NX:=aa (Nz.ae _ (show iJ op width [v1]=Hp op.toNat width [v1] by unfold iJ;simp only[map_cons,map_nil];rw[tI.ae,hs,if_neg Tac,if_neg (by have:=HGI.ae;simp[<- this])]));open zcM in exact ZaR):p:=h
theorem zfy.Ka9(h:p:=by have TM:=(tZ.ae.cell (p:=⟨g9,0,none⟩) kI).trans (ua 0 v1.k 0 _ rfl WC rfl);have vK:=Nat.lt_of_lt_of_le kI tZ.ae.size;clear ua tZ;go_wp2_with fail;refine(Ff a wa gi nu d jR g9 0 c9 v1.k _ vK TM).mono ?_;open zge in exact Zdz):p:=h
theorem zfD.Kba(h:p:=by
 refine(KF g9 0 c9 v1.k v2.k _ TM kc2).mono ?_;rintro e w4 ⟨rfl,rfl⟩;cases hz:(v1.k==0 || v2.k==0)
 ·have NX:=aa (Nz.ae _ (show iJ op width [v1,v2]=Hp op.toNat width [v1,v2] by unfold iJ;simp only[map_cons,map_nil];rw[tI.ae,hs,if_neg Tac,if_neg Tak]));open zcN in exact ZaR
 ·exact ZcK):p:=h
theorem zgf.Kbn(h:p:=by
 replace kc2:=(Lw.cell (p:=⟨g9,1,none⟩) vK).trans kc2;replace vK:=Nat.lt_of_lt_of_le vK Lw.size;clear Lw;have tI:fc (gO op [v1.k,v2.k]=(cj v1.k wa &&(cj v2.k wa &&(!al || cj v1.k v2.k)))):=by have NE:=HWA.ae;have No:=Ay.ae;show gO _ _=_;simp only[gO,<- NE,<- No]
 cases hs:(cj v1.k wa &&(cj v2.k wa &&(!al || cj v1.k v2.k)))
 ·exact Za8
 ·cases R6:nu
  ·open zfD in exact ZcU
  ·subst R6;have NX:=aa (Nz.ae _ (show iJ op width [v1,v2]=Hp op.toNat width [v1,v2] by unfold iJ;simp only[map_cons,map_nil];rw[tI.ae,hs,if_neg Tac,if_neg (by have:=HGI.ae;simp[<- this])]));open zcO in exact ZaR):p:=h
theorem zfz.Ka9(h:p:=by have TM:=(tZ.ae.cell (p:=⟨g9,0,none⟩) kI).trans (ua 0 v1.k 0 _ rfl WC rfl);have kc2:=(tZ.ae.cell (p:=⟨g9,1,none⟩) kI).trans (ua 1 v2.k 0 _ rfl WC rfl);have vK:=Nat.lt_of_lt_of_le kI tZ.ae.size;clear ua tZ;go_wp2_with fail;refine(Fg a wa gi al nu d jR g9 0 c9 v1.k v2.k _ vK TM kc2).mono ?_;open zgf in exact Zdz):p:=h
theorem zir.Kcf(h:p:=by
 have Nz:fc (∀r,iJ op width (args.map (·.2))=r->qf ⟨op,xv,name,width,A,args.length,c⟩ (args.map (·.2))=r):=λ r hr=>by unfold qf;rw[if_neg Ta6,if_neg H1.ae];exact hr
 clear hwa xC R6 TL nI Hu afi hOp HOI HWD hwd h1 mV pd;rcases afk with ⟨hlen,rfl⟩| hlen
 ·obtain⟨⟨Nm,v1⟩,rfl⟩:=akb hlen;open zfy in exact ZcT
 ·obtain⟨⟨Nm,v1⟩,⟨LT,v2⟩,rfl⟩:=akc hlen;open zfz in exact ZcT):p:=h
theorem zeF.KaT(h:p:=by have TL:=hOp.args;rw[Rx] at Hv TL;obtain⟨hwa,hgi,xC,R6⟩:=Hv;clear hgi;have HWD:=aa hwd;have HD:=aa (hOp.does ⟨op,xv,name,width,A,args.length,c⟩ (args.map (·.2)) (by rw[length_map,TL];exact nI) (λ u hu=>by obtain⟨z,hz,rfl⟩:=List.mem_map.1 hu;exact aqV.ae z hz) (λ e=>HWD.ae (by rw[<- Rx,e];rfl)));have R7:=HD;have HDB:=aa (Below.refl _ _:Below (W3.alloc (.cells #[af a,ag wa,ag gi,.bool al,.bool nu,d] 100)).heap.size (W3.alloc (.cells #[af a,ag wa,ag gi,.bool al,.bool nu,d] 100)) (W3.alloc (.cells #[af a,ag wa,ag gi,.bool al,.bool nu,d] 100)));clear HD;open zir in exact ZfZ):p:=h
theorem zgE.Kbz(h:p:=by
 replace k1:=k1.later b2;replace cL:=cL.later b2;replace hB:=ai.then hB b2;replace Bp:=aa ((Bp.ae.below b2).more b2.size);have hR:=aC.new W3 100 #[af a,ag wa,ag gi,.bool al,.bool nu,d];have ake:=TK.later (ah W3 (.cells #[af a,ag wa,ag gi,.bool al,.bool nu,d] 100));have HOI:=aa ake;have tZ:=aa b2;clear TK ake Kx b2 hd;generalize b3:bS ⟨op,xv,name,width,A,args.length,c⟩=fe;have mV:=aa b3;clear b3;have z0:=k1.cell 0;have z1:=k1.cell 1;have x2:=k1.cell 2;have x3:=k1.cell 3;have x4:=k1.cell 4;have x5:=k1.cell 5;have x6:=k1.cell 6;have x0:=hR.cell 0;have x1:=hR.cell 1;have z2:=hR.cell 2;have z3:=hR.cell 3;have z4:=hR.cell 4;have z5:=hR.cell 5;simp only[Uaa] at z0 z1 x2 x3 x4 x5 x6 x0 x1 z2 z3 z4 z5;have dw:=aJ cL;have gV:=aC.frozen cL;by_cases hf:fe=0
 ·subst hf;by_cases h1:op=1
  ·have HQ:=aa (show qf ⟨op,xv,name,width,A,args.length,c⟩ (args.map (·.2))=(xv,0) by unfold qf;rw[if_neg Ta6,if_pos h1]);have t1:(op==1)=true:=by simpa using h1
   clear h1;exact ZeQ
  ·open zeF in exact Zb2
 ·have HQ:=aa (show qf ⟨op,xv,name,width,A,args.length,c⟩ (args.map (·.2))=(aP,fe) by unfold qf;rw[if_pos (by rw[mV.ae];exact hf),mV.ae]);have t1:(fe != 0)=true:=by simpa using hf
  clear hf;go_wp2_with fail;exact bodyPost_ret (v:=.tuple #[.agg #[ag 0,af 0,.string ByteArray.empty],af fe]) Tae rfl ⟨by rw[HQ.ae];rfl,((hB.setCell bK _).setCell bK _).setCell bK _⟩):p:=h
theorem zbI.Kal(h:p:=by have pd:fc (qf ⟨op,xv,name,width,A,args.length,c⟩ (args.map (·.2))=qf ⟨op,xv,name,width,A,args.length,c⟩ (args.map (·.2))):=rfl;go_wp2_with fail;refine(vJ ⟨op,xv,name,width,A,args.length,c⟩ _).mono ?_;rintro e W3 ⟨oo,rfl,TK,Kx⟩;clear z0 z1 x2 x3 x4 x5 x6;open zgE in exact Zd7):p:=h
theorem zg8.KbL(h:p:=by
 have NO:=aC.new (w.alloc (.cells #[ag op,ag xv.k,af xv.n,.string xv.s,.string name,af width,.slice A args.length c] 46)) 44 #[ag 0,af 0,au];rw[World.size_alloc] at NO;have KK:=ai.then (ah w (.cells #[ag op,ag xv.k,af xv.n,.string xv.s,.string name,af width,.slice A args.length c] 46)) (ah _ (.cells #[ag 0,af 0,au] 44));clear x6;generalize (w.alloc (.cells #[ag op,ag xv.k,af xv.n,.string xv.s,.string name,af width,.slice A args.length c] 46)).alloc (.cells #[ag 0,af 0,au] 44)=W at*;have bK:w.heap.size<=w.heap.size+1:=by omega
 generalize w.heap.size+1=g at*;go_loopw [8,9,20] (λ lv kv MY wr=>∃i:Nat,i<=args.length/\MY=af i/\aI aX 44 3 wr W.heap.size lv ((args.take i).map (·.2))/\aI dQ 5 1 wr W.heap.size kv ((args.take i).map (·.2.k))/\aj W wr) (λ _ _ MY _=>args.length - (intOf MY).toNat);case atStart=>exact⟨0,Nat.zero_le _,rfl,aI.nil,aI.nil,Below.refl _ _⟩
 case round=>
  obtain⟨i,hk,rfl,hO,hK,hb⟩:=hrel;have HO:=aa hO;have HK:=aa hK;clear hO hK;rcases Nat.lt_or_ge i args.length with hlt | vC
  ·obtain⟨b,off,rfl,kE,hex⟩:=(HA.ae.below (KK.trans (hb.mono KK.size))).at_ (show i <(args.map (·.1)).length by simpa using hlt);have jn:(args.map (·.1))[i]' Tan=args[i].1:=by simp
   exact Zaf
  ·have lS:args.take i=args:=take_of_length_le vC;rw[lS] at HO HK;clear lS;obtain⟨A8,c8,hu8,HP⟩:=Hr HO.ae;obtain⟨A9,c9,hu9,MI⟩:=ej (f:=dQ) (size:=1) (λ _=>rfl) HK.ae;rw[length_map] at hu8 hu9;subst hu8 hu9;have k1:=HX.later hb;have cL:=NO.later hb;have hB:=ai.then KK hb;clear HO HK HX NO KK;have Bp:=aa HP;have HKC:=aa MI;clear HP MI;open zbI in exact ZaD):p:=h
theorem XG (op:Int)(xv:Val)(name:ByteArray)(width:Int)(A:Option Addr)(c:Nat)(cV rV:Value)(args:List (Ex×Val))(oZ:op≠2\/args≠ [])(bh:∀a∈args,a.2.Ok)(w:World)(hl:args.length<=1599289640356)(hA:RE w w.heap.size A (args.map (·.1)))(hE:∀a∈args,jy w cV rV a.1 a.2 0):
  ar 17 #[.agg #[ag op,ag xv.k,af xv.n,.string xv.s,.string name,af width,.slice A args.length c],cV,rV] w λ en w'=>en=.returned (bT (qf ⟨op,xv,name,width,A,args.length,c⟩ (args.map (·.2))).1 (qf ⟨op,xv,name,width,A,args.length,c⟩ (args.map (·.2))).2)/\aj w w':=by have Hs:=aa oZ;have aqV:=aa bh;clear oZ bh;have HA:=aa hA;have HE:=aa hE;clear hA hE;go_enter Tryz.func17,Tryz.ntmps17;have HX:=(aC.new w 46 #[ag op,ag xv.k,af xv.n,.string xv.s,.string name,af width,.slice A args.length c]).alloc (.cells #[ag 0,af 0,au] 44);open zg8 in exact ZeK
theorem zfa.Ka1(h:p:=by
 have jn:(args.map (·.1)++bad::post)[i]' Tab=args[i].1:=by rw[getElem_append_left Tan];simp
 exact Zaf):p:=h
theorem zjl.KcD(h:p:=by
 have bG:=ah W3 (.cells #[ag 0,af 0,.string ByteArray.empty] 44);have b1:=ai.then hb (ai.then (ai.then bY Kx) bG);have cL:=hR.later b1;have ek:=ai.then KK b1;have dw:=aJ cL;have gV:=aC.frozen cL;have te:(er != 0)=true:=by have:=Ol.ae;simpa using this
 clear gD hex bY Kx bG b1 cL HX hR KK hb;unfold bT aP;go_wp2_with fail;exact bodyPost_ret (v:=.tuple #[.agg #[ag 0,af 0,.string ByteArray.empty],af er]) Tae rfl ⟨rfl,((ek.setCell bK _).setCell bK _).setCell bK _⟩):p:=h
theorem zit.Kcg(h:p:=by clear jn fL HO HK;open zjl in exact ZhB):p:=h
theorem zfb.Ka1(h:p:=by open zit in exact Zf1):p:=h
theorem zg9.KbL(h:p:=by
 have hR:=aC.new (w.alloc (.cells #[ag op,ag xv.k,af xv.n,.string xv.s,.string name,af width,.slice A n c] 46)) 44 #[ag 0,af 0,au];rw[World.size_alloc] at hR;have KK:=ai.then (ah w (.cells #[ag op,ag xv.k,af xv.n,.string xv.s,.string name,af width,.slice A n c] 46)) (ah _ (.cells #[ag 0,af 0,au] 44));clear x6;generalize (w.alloc (.cells #[ag op,ag xv.k,af xv.n,.string xv.s,.string name,af width,.slice A n c] 46)).alloc (.cells #[ag 0,af 0,au] 44)=W at*;have bK:w.heap.size<=w.heap.size+1:=by omega
 generalize w.heap.size+1=g at*;go_loopw [8,9,20] (λ lv kv MY wr=>∃i:Nat,i<=args.length/\MY=af i/\aI aX 44 3 wr W.heap.size lv ((args.take i).map (·.2))/\aI dQ 5 1 wr W.heap.size kv ((args.take i).map (·.2.k))/\aj W wr) (λ _ _ MY _=>args.length - (intOf MY).toNat);case atStart=>exact⟨0,Nat.zero_le _,rfl,aI.nil,aI.nil,Below.refl _ _⟩
 case round=>
  obtain⟨i,hk,rfl,hO,hK,hb⟩:=hrel;have HO:=aa hO;have HK:=aa hK;clear hO hK;rcases Nat.lt_or_ge i args.length with hlt | vC
  ·open zfa in exact ZcF
  ·have fL:i=args.length:=by omega
   open zfb in exact ZcF):p:=h
theorem XH (op:Int)(xv:Val)(name:ByteArray)(width:Int)(A:Option Addr)(n c:Nat)(cV rV:Value)(args:List (Ex×Val))(bad:Ex)(er:Int)(post:List Ex)(hn:args.length+1+post.length=n)(w:World)(hl:args.length<=1599289640356)(WI:n<=1599289640356)(hA:RE w w.heap.size A (args.map (·.1)++bad::post))(hE:∀a∈args,jy w cV rV a.1 a.2 0)(jS:jy w cV rV bad aP er)(her:er≠0):
  ar 17 #[.agg #[ag op,ag xv.k,af xv.n,.string xv.s,.string name,af width,.slice A n c],cV,rV] w λ en w'=>en=.returned (bT aP er)/\aj w w':=by have HN:=aa hn;have Hw:=aa jS;have Ol:=aa her;clear hn jS her;have HA:=aa hA;have HE:=aa hE;clear hA hE;go_enter Tryz.func17,Tryz.ntmps17;have HX:=(aC.new w 46 #[ag op,ag xv.k,af xv.n,.string xv.s,.string name,af width,.slice A n c]).alloc (.cells #[ag 0,af 0,au] 44);open zg9 in exact ZeK
inductive Tr where
 | mk (op:Int) (v:Val) (name:ByteArray) (width:Int) (args:List Tr)
def R8 (w:World)(S:Nat->Prop)(A:Option Addr)(l:List Ex):Prop:=
 l=[]\/∃b off,A=some ⟨b,off,none⟩/\S b/\∀i x,l[i]?=some x->cy w b (off+i*7) x
mutual
def Tr.at_ (w:World)(S:Nat->Prop):Tr->Ex->Prop
 | .mk op v name width args,y=>y.op=op/\y.v=v/\y.name=name/\y.width=width/\y.n=args.length/\∃ys,R8 w S y.A ys/\Tr.aQ w S args ys
def Tr.aQ (w:World)(S:Nat->Prop):List Tr->List Ex->Prop
 | [],ys=>ys=[]
 | t::ts,ys=>∃y ys',ys=y::ys'/\Tr.at_ w S t y/\Tr.aQ w S ts ys'
end
variable{S S':Nat->Prop}
theorem R8.keep{l:List Ex}(h:R8 w S A l)(hk:∀b,S b->(∀o,w'.cell? ⟨b,o,none⟩=w.cell? ⟨b,o,none⟩)/\S' b):R8 w' S' A l:=by
 rcases h with h |⟨b,off,h1,h2,h3⟩
 ·exact .inl h
 ·exact .inr ⟨b,off,h1,(hk b h2).2,λ i x hx=>(h3 i x hx).keep (hk b h2).1⟩
mutual
theorem Tr.at_.keep {w w':World} {S S':Nat->Prop}(hk:∀b,S b->(∀o,w'.cell? ⟨b,o,none⟩=w.cell? ⟨b,o,none⟩)/\S' b):∀(t:Tr) (y:Ex),t.at_ w S y->t.at_ w' S' y
 | .mk op v name width args,y,h=>by unfold Tr.at_ at h ⊢;obtain⟨h1,h2,h3,h4,h5,ys,h6,h7⟩:=h;exact⟨h1,h2,h3,h4,h5,ys,h6.keep hk,Tr.aQ.keep hk args ys h7⟩
theorem Tr.aQ.keep {w w':World} {S S':Nat->Prop}(hk:∀b,S b->(∀o,w'.cell? ⟨b,o,none⟩=w.cell? ⟨b,o,none⟩)/\S' b):∀(ts:List Tr) (ys:List Ex),Tr.aQ w S ts ys->Tr.aQ w' S' ts ys
 | [],ys,h=>by unfold Tr.aQ at h ⊢;exact h
 | t::ts,ys,h=>by unfold Tr.aQ at h ⊢;obtain⟨y,ys',h1,h2,h3⟩:=h;exact⟨y,ys',h1,Tr.at_.keep hk t y h2,Tr.aQ.keep hk ts ys' h3⟩
end
theorem Tr.aQ.length:∀ {ts:List Tr} {ys:List Ex},Tr.aQ w S ts ys->ys.length=ts.length
 | [],ys,h=>by unfold Tr.aQ at h;subst h;rfl
 | t::ts,ys,h=>by unfold Tr.aQ at h;obtain⟨y,ys',rfl,_,h3⟩:=h;simp[Tr.aQ.length h3]
def Old (w:World):Nat->Prop:=λ b=>b < w.heap.size
theorem R8.old{l:List Ex}(h:R8 w (Old w) A l):RE w w.heap.size A l:=h
variable{y:Ex}
theorem Tr.at_.later{t:Tr} (h:t.at_ w (Old w) y)(hb:aj w w'):t.at_ w' (Old w') y:=
 Tr.at_.keep (λ b hS=>⟨λ o=>hb.cell (p:=⟨b,o,none⟩) hS,Nat.lt_of_lt_of_le hS hb.size⟩) t y h
variable{ts:List Tr}{ys:List Ex}
theorem Tr.aQ.later(h:Tr.aQ w (Old w) ts ys)(hb:aj w w'):Tr.aQ w' (Old w') ts ys:=
 Tr.aQ.keep (λ b hS=>⟨λ o=>hb.cell (p:=⟨b,o,none⟩) hS,Nat.lt_of_lt_of_le hS hb.size⟩) ts ys h
mutual
def Tr.ok:Tr->Prop
 | .mk op v name width args=>v.Ok/\args.length<=1599289640356/\(0<=op/\op<=255)/\(-9223372036854775808<=width/\width<=9223372036854775807)/\(0<=v.k/\v.k<=255)/\Tr.cP args
def Tr.cP:List Tr->Prop
 | []=>True
 | t::ts=>t.ok/\Tr.cP ts
end
structure aZ where
 name:ByteArray
 t:Int
def mW (w:World)(b off:Nat)(x:aZ):Prop:=w.cell? ⟨b,off,none⟩=some (.string x.name)/\w.cell? ⟨b,off+1,none⟩=some (ag x.t)
theorem mW.keep{x:aZ}(h:mW w b off x)(hk:∀o,w'.cell? ⟨b,o,none⟩=w.cell? ⟨b,o,none⟩):mW w' b off x:=by unfold mW at*;simp only[hk];exact h
def RC (w:World)(B:Nat)(A:Option Addr)(l:List aZ):Prop:=
 l=[]\/∃b off,A=some ⟨b,off,none⟩/\b < B/\∀i x,l[i]?=some x->mW w b (off+i*2) x
theorem RC.below{l:List aZ}(h:RC w B A l)(hb:Below B w w'):RC w' B A l:=by exact ZcW
theorem RC.more{l:List aZ}(h:RC w B A l)(hB:B<=B'):RC w B' A l:=by exact Zel
theorem RC.later{l:List aZ}(h:RC w w.heap.size A l)(hb:aj w w'):RC w' w'.heap.size A l:=(h.below hb).more hb.size
theorem RC.at_{l:List aZ}(h:RC w B A l) (hk:k < l.length):∃b off,A=some ⟨b,off,none⟩/\b < B/\mW w b (off+k*2) l[k]:=by exact Zct
theorem RV.later{l:List Val}(h:RV w w.heap.size A l)(hb:aj w w'):RV w' w'.heap.size A l:=(h.below hb).more hb.size
def dm (name:ByteArray):List aZ->Nat
 | []=>0
 | c::cs=>if (c.name.toList==name.toList)=true then 0 else dm name cs+1
def kJ (name:ByteArray)(cols:List aZ):Int:=if dm name cols < cols.length then dm name cols else -1
def Bt (cols:List aZ)(row:List Val)(name:ByteArray):Val×Int:=
 if dm name cols < cols.length/\dm name cols < row.length then
  (if good (row.getD (dm name cols) aP)=true then(row.getD (dm name cols) aP,0)else(aP,40))
 else(aP,41)
def cN:List (Val×Int)->Int
 | []=>0
 | r::rs=>if r.2≠0 then r.2 else cN rs
def lW (cols:List aZ)(row:List Val)(x:Ex)(rs:List (Val×Int)):Val×Int:=
 if cN rs≠0 then(aP,cN rs)else if bS x≠0 then(aP,bS x)else if x.op=1 then(x.v,0)else if x.op=2 then Bt cols row x.name else iJ x.op x.width (rs.map (·.1))
mutual
def Tr.eval (cols:List aZ)(row:List Val):Tr->Val×Int
 | .mk op v name width args=>lW cols row ⟨op,v,name,width,none,args.length,0⟩ (Tr.gZ cols row args)
def Tr.gZ (cols:List aZ)(row:List Val):List Tr->List (Val×Int)
 | []=> []
 | t::ts=>t.eval cols row::Tr.gZ cols row ts
end
theorem Tr.pg (cols:List aZ)(row:List Val):∀ts,(Tr.gZ cols row ts).length=ts.length
 | []=>by simp[Tr.gZ]
 | t::ts=>by simp[Tr.gZ,Tr.pg cols row ts]
theorem dZ:aP.Ok:=⟨by decide,by decide⟩
theorem Ry (b:Bool):(bH b).Ok:=by cases b <;> exact⟨by decide,by decide⟩
theorem sJ (n:Int): -9223372036854775808<=wrap64 n/\wrap64 n<=9223372036854775807:=by unfold wrap64;omega
variable{n:Int}{c:Bool}
theorem Bu(h: -9223372036854775808<=n/\n<=9223372036854775807):(fB n c).1.Ok:=by
 cases c
 ·exact dZ
 ·exact h
theorem afl{b:Int}(ha: -9223372036854775808<=a/\a<=9223372036854775807): -9223372036854775808<=Int.tmod a b/\Int.tmod a b<=9223372036854775807:=by
 have h:(Int.tmod a b).natAbs<=a.natAbs:=by rw[Int.natAbs_tmod];exact Nat.mod_le _ _
 have h2:0<=a->0<=Int.tmod a b:=λ h=>Int.tmod_nonneg b h
 have h3:a<=0->Int.tmod a b<=0:=λ h=>by have:=Int.tmod_nonneg b (show 0<= -a by omega);rw[Int.neg_tmod] at this;omega
 omega
theorem XI (s:Bool)(l:List Val):(lR s l).Ok:=by
 unfold lR;repeat (first | exact dZ | exact Ry _ | split)
theorem aki (k:Nat)(wd:Int)(l:List Val)(hl:∀v∈l,v.Ok):(Hp k wd l).1.Ok:=by
 unfold Hp;split;case h_7 a b=>unfold zP;split;exact dZ;exact Bu (afl (hl a Tac))
 all_goals first
  | exact dZ
  | exact Ry _
  | exact XI _ _
  | exact Bu (sJ _)
  |(unfold zO;split;exact dZ;exact Bu (sJ _))
theorem aad (op wd:Int)(l:List Val)(hl:∀v∈l,v.Ok):(iJ op wd l).1.Ok:=by
 unfold iJ;split
 ·exact dZ
 ·split
  ·exact dZ
  ·exact aki _ _ _ hl
theorem afm (cols:List aZ)(row:List Val)(name:ByteArray)(hr:∀v∈row,v.Ok):(Bt cols row name).1.Ok:=by
 unfold Bt;split
 ·rename_i h;split
  ·rw[getD_eq_getElem?_getD,getElem?_eq_getElem h.2];exact hr _ (getElem_mem h.2)
  ·exact dZ
 ·exact dZ
mutual
theorem Tr.aae (cols:List aZ)(row:List Val)(hr:∀v∈row,v.Ok):∀t:Tr,t.ok->(t.eval cols row).1.Ok
 | .mk op v name width args,h=>by
   unfold Tr.ok at h;unfold Tr.eval lW;have ha:=Tr.vL cols row hr args h.2.2.2.2.2;split
   ·exact dZ
   ·split
    ·exact dZ
    ·split
     ·exact h.1
     ·split
      ·exact afm _ _ _ hr
      ·refine aad _ _ _ λ u hu=>?_
       obtain⟨z,hz,rfl⟩:=List.mem_map.1 hu;exact ha z hz
theorem Tr.vL (cols:List aZ)(row:List Val)(hr:∀v∈row,v.Ok):∀ts:List Tr,Tr.cP ts->∀z∈Tr.gZ cols row ts,z.1.Ok
 | [],_,z,hz=>by simp[Tr.gZ] at hz
 | t::ts,h,z,hz=>by
   unfold Tr.cP at h;unfold Tr.gZ at hz;rcases List.mem_cons.1 hz with rfl | hz
   ·exact Tr.aae cols row hr t h.1
   ·exact Tr.vL cols row hr ts h.2 z hz
end
theorem rb:∀(l:List (Ex×(Val×Int))),(∀a∈l,a.2.2=0)\/∃pre bad post,l=pre++bad::post/\(∀a∈pre,a.2.2=0)/\bad.2.2≠0
 | []=> .inl Tac
 | a::l=>by
   by_cases h:a.2.2=0
   ·rcases rb l with h1 |⟨pre,bad,post,h1,h2,h3⟩
    ·exact .inl (by intro x hx;rcases List.mem_cons.1 hx with rfl | hx;exact h;exact h1 x hx)
    ·refine .inr ⟨a::pre,bad,post,by rw[h1];rfl,?_,h3⟩;intro x hx;rcases List.mem_cons.1 hx with rfl | hx
     ·exact h
     ·exact h2 x hx
   ·exact .inr ⟨[],a,l,rfl,by simp,h⟩
theorem yT:∀ {l:List (Val×Int)},(∀a∈l,a.2=0)->cN l=0
 | [],_=>rfl
 | a::l,h=>by unfold cN;rw[if_neg TaP];exact yT λ x hx=>h x Tbd
theorem Fi:∀ {pre post:List (Val×Int)} {bad:Val×Int},(∀a∈pre,a.2=0)->bad.2≠0->cN (pre++bad::post)=bad.2
 | [],post,bad,_,hb=>by unfold cN;simp[hb]
 | a::pre,post,bad,h,hb=>by show cN (a::(pre++bad::post))=_;unfold cN;rw[if_neg TaP];exact Fi (λ x hx=>h x Tbd) hb
theorem Om (x:aZ)(name:ByteArray)(g:Nat)(w:World)(hg:aC w g 9 #[.string name]):
  ar 79 #[.agg #[.string x.name,ag x.t],aw g] w λ e w'=>e=.returned (.bool (x.name.toList==name.toList))/\aj w w':=by have c0:=(hg.alloc (.cells #[.string x.name,ag x.t] 113)).cell 0;simp only[getElem?_toArray,getElem?_cons_zero] at c0;go_enter Tryz.func79,Tryz.ntmps79;go_wp2_with fail;go_ret;exact⟨rfl,by go_grown⟩
variable{cs:List aZ}
theorem TN{name:ByteArray} {c:aZ} (h:(c.name.toList==name.toList)=false):dm name (c::cs)=dm name cs+1:=by show(if (c.name.toList==name.toList)=true then 0 else dm name cs+1)=_;rw[if_neg (by rw[h];simp)]
theorem Oo{name:ByteArray} {c:aZ} (h:(c.name.toList==name.toList)=true):dm name (c::cs)=0:=by show(if (c.name.toList==name.toList)=true then 0 else dm name cs+1)=_;rw[if_pos h]
theorem cI(h:k < l.length):l.drop k=l[k]::l.drop (k+1):=drop_eq_getElem_cons h
theorem Hx (cols:List aZ)(CA:Option Addr)(cc:Nat)(name:ByteArray)(g:Nat)(w:World)(hC:RC w w.heap.size CA cols)(hg:aC w g 9 #[.string name])(hl:cols.length<=140737488355328):
  ar 78 #[.slice CA cols.length cc,.func (.func 79) #[] #[.pointer (some ⟨g,0,none⟩)]] w λ e w'=>e=.returned (.int .i64 (kJ name cols))/\aj w w':=by
 have HC:=aa hC;clear hC;go_enter Tryz.func78,Tryz.ntmps78;go_wp2_with fail;go_loopw [5,8] (λ _ Kx wr=>∃i:Nat,i<=cols.length/\Kx=af i/\dm name cols=i+dm name (cols.drop i)/\aj w wr) (λ _ Kx _=>cols.length - (intOf Kx).toNat);case atStart=>exact⟨0,Nat.zero_le _,rfl,by simp,Below.refl _ _⟩
 case round=>
  obtain⟨i,hk,rfl,hp,hb⟩:=hrel;have HP:=aa hp;clear hp;by_cases hlt:i < cols.length
  ·obtain⟨b,off,rfl,kE,hex⟩:=(HC.ae.below hb).at_ hlt;have HD:=aa (cI hlt);generalize cols[i]=x at*;unfold mW at hex;have hz:=hg.later hb;go_wp2_with fail;refine(Om x name g _ hz).mono ?_;rintro e w1 ⟨rfl,b1⟩;have hb1:=ai.then hb b1;clear hex hz b1 hb;cases hm:(x.name.toList==name.toList)
   ·go_wp2_with fail;go_roundw;case rel=>refine⟨i+1,by omega,by go_num,?_,hb1⟩;rw[HP.ae,HD.ae,TN hm];omega
    case measure=>exact Za6
   ·go_wp2_with fail;go_ret;refine⟨?_,hb1⟩;have AB:dm name cols=i:=by rw[HP.ae,HD.ae,Oo hm];omega
    unfold kJ;rw[AB,if_pos hlt];rfl
  ·go_wp2_with fail;go_ret;refine⟨?_,hb⟩;have AB:dm name cols=cols.length:=by rw[HP.ae,drop_eq_nil_of_le WC];unfold dm;omega
   unfold kJ;rw[AB,if_neg WC];rfl
theorem Fj (cols:List aZ)(CA:Option Addr)(cc:Nat)(name:ByteArray)(w:World)(hC:RC w w.heap.size CA cols)(hl:cols.length<=140737488355328):
  ar 43 #[.slice CA cols.length cc,.string name] w λ e w'=>e=.returned (af (kJ name cols))/\aj w w':=by have bb:=ah w (.cells #[.string name] 9);have hg:=aC.new w 9 #[.string name];have hC2:=aa (hC.later bb);clear hC;go_enter Tryz.func43,Tryz.ntmps43;go_wp2_with fail;refine(Hx cols CA cc name w.heap.size _ hC2.ae hg hl).mono ?_;rintro e w1 ⟨rfl,b1⟩;have hb:=ai.then bb b1;clear b1 bb hg;exact Zfn
theorem zck.Kas(h:p:=by exact ZeI):p:=h
theorem zfO.Kbe(h:p:=by
 have dw:=aJ cL;have gV:=aC.frozen cL;go_wp2_with fail;clear hst x0 x1 z2 z3 z4 z5 z6 dw gV;refine(Fj cols CA cc name _ HO.ae hl).mono ?_;rintro e w2 ⟨rfl,b3⟩;replace hR:=hR.later b3;replace cL:=cL.later b3;replace hB:=ai.then hB b3;replace HO:=aa (HO.ae.later b3);replace HK:=aa (HK.ae.later b3);clear b3;by_cases uR:dm name cols < cols.length
 ·have HP:=aa (show kJ name cols=(dm name cols:Int) by unfold kJ;rw[if_pos uR]);rw[HP.ae];have hc1:Bt cols row name=if dm name cols < row.length then(if good (row.getD (dm name cols) aP)=true then(row.getD (dm name cols) aP,0)else(aP,40))else(aP,41):=by unfold Bt;simp only[uR,true_and]
  have NA:=aa hc1;clear hc1 HP;generalize dm name cols=k at*;have hk2:(k:Int)<=140737488355328:=by omega
  have t0:decide ((k:Int)< 0)=false:=decide_eq_false WC;by_cases hk:k < row.length
  ·have t1:decide (row.length<=k)=false:=decide_eq_false WC;obtain⟨b,off,rfl,kE,hval⟩:=HK.ae.at_ hk;have HG:=aa (show row.getD k aP=row[k] by rw[getD_eq_getElem?_getD,getElem?_eq_getElem hk];rfl);have Az:=aa (NA.ae.trans (if_pos hk));rw[HG.ae] at Az;generalize row[k]=xv at*;have hva:=hval;unfold eh at hval;have x0:=hR.cell 0;have x1:=hR.cell 1;have z2:=hR.cell 2;have z3:=hR.cell 3;have z4:=hR.cell 4;have z5:=hR.cell 5;have z6:=hR.cell 6;simp only[Uaa] at x0 x1 z2 z3 z4 z5 z6;have dw:=aJ cL;have gV:=aC.frozen cL;go_wp2_with fail;refine(vD xv _).mono ?_;rintro e w3 ⟨rfl,Lw⟩;replace hva:=hva.keep (w':=w3) λ o=>Lw.cell (p:=⟨b,o,none⟩) kE
   clear x0 x1 z2 z3 z4 z5 z6 dw gV;replace hR:=hR.later Lw;replace cL:=cL.later Lw;replace hB:=ai.then hB Lw;replace HO:=aa (HO.ae.later Lw);replace HK:=aa (HK.ae.later Lw);clear hval Lw;unfold eh at hva;cases hg:good xv
   ·have HQ:=aa (Az.ae.trans (if_neg (by rw[hg];simp)));have x0:=hR.cell 0;have x1:=hR.cell 1;have z2:=hR.cell 2;have z3:=hR.cell 3;have z4:=hR.cell 4;have z5:=hR.cell 5;have z6:=hR.cell 6;simp only[Uaa] at x0 x1 z2 z3 z4 z5 z6;have dw:=aJ cL;have gV:=aC.frozen cL;go_wp2_with fail;exact bodyPost_ret (v:=.tuple #[.agg #[ag 0,af 0,.string ByteArray.empty],af 40]) Tae rfl ⟨by rw[HQ.ae];rfl,((hB.setCell bK _).setCell bK _).setCell bK _⟩
   ·have HQ:=aa (Az.ae.trans (if_pos hg));have x0:=hR.cell 0;have x1:=hR.cell 1;have z2:=hR.cell 2;have z3:=hR.cell 3;have z4:=hR.cell 4;have z5:=hR.cell 5;have z6:=hR.cell 6;simp only[Uaa] at x0 x1 z2 z3 z4 z5 z6;have dw:=aJ cL;have gV:=aC.frozen cL;exact ZeQ
  ·have t1:decide (row.length<=k)=true:=decide_eq_true WC;have HQ:=aa (NA.ae.trans (if_neg hk));have x0:=hR.cell 0;have x1:=hR.cell 1;have z2:=hR.cell 2;have z3:=hR.cell 3;have z4:=hR.cell 4;have z5:=hR.cell 5;have z6:=hR.cell 6;simp only[Uaa] at x0 x1 z2 z3 z4 z5 z6;exact ZeI
 ·have HP:=aa (show kJ name cols= -1 by unfold kJ;rw[if_neg uR]);rw[HP.ae];have HQ:=aa (show Bt cols row name=(aP,41) by unfold Bt;rw[if_neg (λ h=>uR h.1)]);open zck in exact ZaL):p:=h
theorem zhk.KbP(h:p:=by clear Ht TK x0 x1 z2 z3 z4 z5 z6 dw gV;have b3:=ai.then b1 (ah w1 (.cells #[af 0,ag 0,ag 0,.bool false,.bool false,.nilFunc] 100));replace hR:=hR.later b3;replace cL:=cL.later b3;replace hB:=ai.then hB b3;replace HO:=aa (HO.ae.later b3);open zfO in exact Zc3):p:=h
theorem zi4.Kcw(h:p:=by
 go_wp2_with fail;have cL:=aC.new (w.alloc (.cells #[ag 2,ag Kx.k,af Kx.n,.string Kx.s,.string name,af width,.slice A 0 c] 46)) 44 #[ag 0,af 0,au];rw[World.size_alloc] at cL;have hB:=ai.then (ah w (.cells #[ag 2,ag Kx.k,af Kx.n,.string Kx.s,.string name,af width,.slice A 0 c] 46)) (ah _ (.cells #[ag 0,af 0,au] 44));replace HO:=aa (HO.ae.later hB);replace HK:=aa (HK.ae.later hB);clear z6;generalize (w.alloc (.cells #[ag 2,ag Kx.k,af Kx.n,.string Kx.s,.string name,af width,.slice A 0 c] 46)).alloc (.cells #[ag 0,af 0,au] 44)=W at*;have bK:w.heap.size<=w.heap.size+1:=by omega
 generalize w.heap.size+1=g at*;go_loopw [8,9,20] (λ lv kv i wr=>lv=az/\kv=az/\i=af 0/\wr=W) (λ _ _ _ _=>0);case atStart=>exact⟨rfl,rfl,rfl,rfl⟩
 case round=>obtain⟨rfl,rfl,rfl,rfl⟩:=hrel;have x0:=hR.cell 0;have x1:=hR.cell 1;have z2:=hR.cell 2;have z3:=hR.cell 3;have z4:=hR.cell 4;have z5:=hR.cell 5;have z6:=hR.cell 6;simp only[Uaa] at x0 x1 z2 z3 z4 z5 z6;have dw:=aJ cL;have gV:=aC.frozen cL;open zhk in exact ZeS):p:=h
theorem XJ (Kx:Val)(name:ByteArray)(width:Int)(A:Option Addr)(c:Nat)(cols:List aZ)(CA:Option Addr)(cc:Nat)(row:List Val)(RA:Option Addr)(rc:Nat)(w:World)(hC:RC w w.heap.size CA cols)(hl:cols.length<=140737488355328)(hV:RV w w.heap.size RA row)(hl2:row.length<=140737488355328):
  ar 17 #[.agg #[ag 2,ag Kx.k,af Kx.n,.string Kx.s,.string name,af width,.slice A 0 c],.slice CA cols.length cc,.slice RA row.length rc] w λ en w'=>en=.returned (bT (Bt cols row name).1 (Bt cols row name).2)/\aj w w':=by have HO:=aa hC;have HK:=aa hV;clear hC hV;go_enter Tryz.func17,Tryz.ntmps17;have hR:=(aC.new w 46 #[ag 2,ag Kx.k,af Kx.n,.string Kx.s,.string name,af width,.slice A 0 c]).alloc (.cells #[ag 0,af 0,au] 44);open zi4 in exact Zhb
theorem ur(h:(fB n c).2≠0):(fB n c).1=aP:=by
 cases c
 ·rfl
 ·exact absurd rfl h
theorem aaf (k:Nat)(wd:Int)(l:List Val)(h:(Hp k wd l).2≠0):(Hp k wd l).1=aP:=by
 unfold Hp at*;split at h;case h_6 a b=>unfold zO at*;exact ZhY
 case h_7 a b=>unfold zP at*;exact ZhY
 all_goals first
  | exact absurd rfl h
  | exact ur h
theorem TP (op wd:Int)(l:List Val)(h:(iJ op wd l).2≠0):(iJ op wd l).1=aP:=by
 unfold iJ at*;split at h
 ·rename_i h1;rw[if_pos h1]
 ·rename_i h1;rw[if_neg h1];split at h
  ·exact absurd rfl h
  ·rename_i h2;rw[if_neg h2];exact aaf _ _ _ h
theorem Ot (cols:List aZ)(row:List Val)(x:Ex)(rs:List (Val×Int))(h:(lW cols row x rs).2≠0):(lW cols row x rs).1=aP:=by
 unfold lW at*;split at h
 ·rename_i h1;rw[if_pos h1]
 ·rename_i h1;rw[if_neg h1];split at h
  ·rename_i h2;rw[if_pos h2]
  ·rename_i h2;rw[if_neg h2];split at h
   ·exact absurd rfl h
   ·rename_i h3;rw[if_neg h3];split at h
    ·rename_i h4;rw[if_pos h4];unfold Bt at*;split at h
     ·rename_i h5;rw[if_pos h5];split at h
      ·exact absurd rfl h
      ·rename_i h6;rw[if_neg h6]
     ·rename_i h5;rw[if_neg h5]
    ·rename_i h4;rw[if_neg h4];exact TP _ _ _ h
mutual
theorem Tr.TQ (cols:List aZ)(row:List Val):∀t:Tr,(t.eval cols row).2≠0->(t.eval cols row).1=aP
 | .mk op v name width args,h=>by unfold Tr.eval at*;exact Ot _ _ _ _ h
theorem Tr.Bv (cols:List aZ)(row:List Val):∀ts:List Tr,∀z∈Tr.gZ cols row ts,z.2≠0->z.1=aP
 | [],z,hz,_=>by simp[Tr.gZ] at hz
 | t::ts,z,hz,h=>by
   unfold Tr.gZ at hz;rcases List.mem_cons.1 hz with rfl | hz
   ·exact Tr.TQ cols row t h
   ·exact Tr.Bv cols row ts z hz h
end
section
variable (cols:List aZ) (CA:Option Addr) (cc:Nat) (row:List Val) (RA:Option Addr) (rc:Nat)
theorem XK (op:Int)(xv:Val)(name:ByteArray)(width:Int)(A:Option Addr)(c:Nat)(args:List (Ex×(Val×Int)))(bh:∀a∈args,a.2.1.Ok)(hz:∀a∈args,a.2.2≠0->a.2.1=aP)(w:World)(hl:args.length<=1599289640356)(hA:RE w w.heap.size A (args.map (·.1)))
  (hC:RC w w.heap.size CA cols) (cg:cols.length<=140737488355328) (hV:RV w w.heap.size RA row) (lX:row.length<=140737488355328)
  (hE:∀a∈args,jy w (.slice CA cols.length cc) (.slice RA row.length rc) a.1 a.2.1 a.2.2):
  ar 17 #[.agg #[ag op,ag xv.k,af xv.n,.string xv.s,.string name,af width,.slice A args.length c],.slice CA cols.length cc,.slice RA row.length rc] w λ en w'=>en=.returned (bT (lW cols row ⟨op,xv,name,width,none,args.length,0⟩ (args.map (·.2))).1 (lW cols row ⟨op,xv,name,width,none,args.length,0⟩ (args.map (·.2))).2)/\aj w w':=by
 rcases rb args with h0 |⟨pre,bad,post,rfl,Ek,jS⟩
 ·have hf:cN (args.map (·.2))=0:=yT λ a ha=>by obtain⟨z,hz,rfl⟩:=List.mem_map.1 ha;exact h0 z hz
  by_cases h2:op=2/\args=[]
  ·obtain⟨rfl,rfl⟩:=h2;have k:=XJ xv name width A c cols CA cc row RA rc w hC cg hV lX;have e:lW cols row ⟨2,xv,name,width,none,0,0⟩ []=Bt cols row name:=by unfold lW;rw[if_neg (by simp[cN]),if_neg (by simp[bS]),if_neg Tac,if_pos (by rfl)]
   show Calls _ _ _ _ λ en w'=>en=.returned (bT (lW cols row ⟨2,xv,name,width,none,0,0⟩ []).1 (lW cols row ⟨2,xv,name,width,none,0,0⟩ []).2)/\_
   rw[e];exact k
  ·have k:=XG op xv name width A c (.slice CA cols.length cc) (.slice RA row.length rc) (args.map λ a=>(a.1,a.2.1)) (by
    by_cases ho:op=2
    ·right;intro h;exact h2 ⟨ho,by simpa using h⟩
    ·exact .inl ho) (λ a ha=>by obtain⟨z,hz,rfl⟩:=List.mem_map.1 ha;exact bh z hz) w (by simpa using hl) Tat (λ a ha=>by
    obtain⟨z,hz,rfl⟩:=List.mem_map.1 ha
    have:=hE z hz
    rw[h0 z hz] at this
    exact this)
   rw[length_map] at k;have hm:(args.map λ a=>(a.1,a.2.1)).map (·.2)=(args.map (·.2)).map (·.1):=by simp[Function.comp_def]
   rw[hm] at k;have e:lW cols row ⟨op,xv,name,width,none,args.length,0⟩ (args.map (·.2))=qf ⟨op,xv,name,width,A,args.length,c⟩ ((args.map (·.2)).map (·.1)):=by have afn:bS ⟨op,xv,name,width,A,args.length,c⟩=bS ⟨op,xv,name,width,none,args.length,0⟩:=rfl;unfold lW qf;exact Zcu
   rw[e];exact k
 ·have R9:bad.2.1=aP:=hz bad Tac jS;have hbE:=hE bad Tac;rw[R9] at hbE;have k:=XH op xv name width A (pre++bad::post).length c (.slice CA cols.length cc) (.slice RA row.length rc) (pre.map λ a=>(a.1,a.2.1)) bad.1 bad.2.2 (post.map (·.1)) Tab w (by simp at hl ⊢;omega) hl Tat (λ a ha=>by
   obtain⟨z,hz',rfl⟩:=List.mem_map.1 ha
   have:=hE z (by simp[hz'])
   rw[Ek z hz'] at this
   exact this) hbE jS
  have hf:cN ((pre++bad::post).map (·.2))=bad.2.2:=by rw[map_append,map_cons];exact Fi (λ a ha=>by obtain⟨z,hz',rfl⟩:=List.mem_map.1 ha;exact Ek z hz') jS
  have e:lW cols row ⟨op,xv,name,width,none,(pre++bad::post).length,0⟩ ((pre++bad::post).map (·.2))=(aP,bad.2.2):=by unfold lW;rw[if_pos (by rw[hf];exact jS),hf]
  rw[e];exact k
mutual
theorem Tr.Rz (cg:cols.length<=140737488355328)(lX:row.length<=140737488355328)(hro:∀v∈row,v.Ok):∀(t:Tr) (y:Ex) (w:World),t.ok->t.at_ w (Old w) y->RC w w.heap.size CA cols->RV w w.heap.size RA row->jy w (.slice CA cols.length cc) (.slice RA row.length rc) y (t.eval cols row).1 (t.eval cols row).2
 | .mk op v name width args,y,w,bh,hat,hC,hV=>by
   intro W hb;have oh:=hat.later hb;unfold Tr.at_ at oh;obtain⟨h1,h2,h3,h4,h5,ys,h6,h7⟩:=oh;unfold Tr.ok at bh;obtain⟨l,fq,hl2,uu⟩:=Tr.Bw cg lX hro args ys W bh.2.2.2.2.2 h7 (hC.later hb) (hV.later hb);obtain⟨JW,yv,kZ,gP,yA,yn,yc⟩:=y;dsimp only at h1 h2 h3 h4 h5 h6;subst h1 h2 h3 h4 h5;have hlen:l.length=args.length:=by
    have:(l.map (·.2)).length=(Tr.gZ cols row args).length:=by rw[hl2]
    rw[length_map,Tr.pg] at this;exact this
   have hzz:∀a∈l,a.2.1.Ok/\(a.2.2≠0->a.2.1=aP):=λ a ha=>by
    have hm:a.2∈Tr.gZ cols row args:=by rw[<- hl2];exact List.mem_map.2 ⟨a,ha,rfl⟩
    exact⟨Tr.vL cols row hro args bh.2.2.2.2.2 _ hm,Tr.Bv cols row args _ hm⟩
   have k:=XK cols CA cc row RA rc JW yv kZ gP yA yc l (λ a ha=>(hzz a ha).1) (λ a ha=>(hzz a ha).2) W (by rw[hlen];exact bh.2.1) Tba (hC.later hb) cg (hV.later hb) lX uu;rw[hl2,hlen] at k;unfold Tr.eval;exact k
theorem Tr.Bw (cg:cols.length<=140737488355328)(lX:row.length<=140737488355328)(hro:∀v∈row,v.Ok):∀(ts:List Tr) (ys:List Ex) (w:World),Tr.cP ts->Tr.aQ w (Old w) ts ys->RC w w.heap.size CA cols->RV w w.heap.size RA row->∃l:List (Ex×(Val×Int)),l.map (·.1)=ys/\l.map (·.2)=Tr.gZ cols row ts/\∀a∈l,jy w (.slice CA cols.length cc) (.slice RA row.length rc) a.1 a.2.1 a.2.2
 | [],ys,w,_,hat,_,_=>by unfold Tr.aQ at hat;subst hat;exact⟨[],rfl,by simp[Tr.gZ],by simp⟩
 | t::ts,ys,w,bh,hat,hC,hV=>by
   unfold Tr.aQ at hat;unfold Tr.cP at bh;obtain⟨y,ys',rfl,h2,h3⟩:=hat;obtain⟨l,fq,hl2,uu⟩:=Tr.Bw cg lX hro ts ys' w bh.2 h3 hC hV;refine⟨(y,t.eval cols row)::l,by simp[fq],by simp[hl2,Tr.gZ],λ a ha=>?_⟩;rcases List.mem_cons.1 ha with rfl | ha
   ·exact Tr.Rz cg lX hro t y w bh.1 h2 hC hV
   ·exact uu a ha
end
end
def vM (r:Val×Int):Bool×Int:=if r.2≠0 then(false,r.2)else if cj r.1.k 1=false then(false,40)else(r.1.n==1,0)
theorem akj(h:RE w B A (y::ys)):∃b off,A=some ⟨b,off,none⟩/\b < B/\cy w b off y:=by
 rcases h with h |⟨b,off,h1,h2,h3⟩
 ·cases h
 ·refine⟨b,off,h1,h2,?_⟩;have:=h3 0 y rfl;exact Zfa
theorem XL (A:Option Addr)(n c:Nat)(hn:0 < n)(WI:n<=1599289640356)(y:Ex)(ys:List Ex)(cV rV:Value)(r:Val×Int)(w:World)(hA:RE w w.heap.size A (y::ys))(hE:jy w cV rV y r.1 r.2):
  ar 16 #[.slice A n c,cV,rV] w λ e w'=>e=.returned (.tuple #[.bool (vM r).1,af (vM r).2])/\aj w w':=by
 obtain⟨b,off,rfl,hb,hex⟩:=akj hA;have HE:=aa hE;clear hA hE;have t0:(n==0)=false:=by simp;omega
 have t0':((n:Int)==0)=false:=by simp;omega
 unfold cy at hex;go_enter Tryz.func16,Tryz.ntmps16;go_wp2_with fail;refine(HE.ae w (Below.refl _ _)).mono ?_;rintro e w1 ⟨rfl,b1⟩;clear hex t0 t0' HE;obtain⟨v,f⟩:=r;unfold bT;dsimp only;have hv:=aC.new w1 44 (aH v);have hB:=ai.then b1 (ah w1 (.cells (aH v) 44));clear b1;have cv:=aJ hv;by_cases hf:f=0
 ·subst hf;go_wp2_with fail;have hg:=aC.new (w1.alloc (.cells (aH v) 44)) 5 #[ag v.k,ag 1];have bb:=ah (w1.alloc (.cells (aH v) 44)) (.cells #[ag v.k,ag 1] 5);rw[World.size_alloc] at hg;have g0:=hg.cell 0;have g1:=hg.cell 1;have glt:=hg.lt;simp only[Uaa] at g0 g1;refine(qY (w1.heap.size+1) 0 2 v.k 1 _ glt g0 g1).mono ?_;rintro e w2 ⟨rfl,b2⟩;replace hB:=ai.then (ai.then hB bb) b2;replace hv:=(hv.later bb).later b2;clear bb b2 g0 g1 glt hg cv;have cv:=aJ hv;cases hgo:cj v.k 1
  ·have HQ:=aa (show vM (v,0)=(false,40) by unfold vM;rw[if_neg Tac,if_pos hgo]);go_wp2_with fail;exact bodyPost_ret (v:=.tuple #[.bool false,af 40]) Tax rfl ⟨by rw[HQ.ae],hB⟩
  ·have HQ:=aa (show vM (v,0)=(v.n==1,0) by unfold vM;rw[if_neg Tac,if_neg (by rw[hgo];simp)]);go_wp2_with fail;exact bodyPost_ret (v:=.tuple #[.bool (v.n==1),af 0]) Tax rfl ⟨by rw[HQ.ae],hB⟩
 ·have t1:(f != 0)=true:=by simpa using hf
  have HQ:=aa (show vM (v,f)=(false,f) by unfold vM;rw[if_pos hf]);clear hf;go_wp2_with fail;exact bodyPost_ret (v:=.tuple #[.bool false,af f]) Tax rfl ⟨by rw[HQ.ae],hB⟩
theorem XM (A:Option Addr)(c:Nat)(cV rV:Value)(w:World):ar 16 #[.slice A 0 c,cV,rV] w λ e w'=>e=.returned (.tuple #[.bool true,af 0])/\w=w':=by go_enter Tryz.func16,Tryz.ntmps16;go_wp2_with fail;exact bodyPost_ret (v:=.tuple #[.bool true,af 0]) Tax rfl ⟨rfl,rfl⟩
def ub (x:Ex)(ts:List Int):Int×Int:=
 if bS x≠0 then(0,bS x)else if x.op=1 then(x.v.k,0)else if gO x.op ts=false then(0,40)else(uo x.op,0)
def XN (w:World)(cV:Value)(y:Ex)(t:Int):Prop:=∀W,aj w W->ar 59 #[.agg (ay y),cV] W λ en w'=>en=.returned (.tuple #[ag t,af 0])/\aj W w'
theorem zd2.KaL(h:p:=by exact Zeg):p:=h
theorem zd3.KaL(h:p:=by exact Zeh):p:=h
theorem zd4.KaL(h:p:=by exact Zeg):p:=h
theorem zd5.KaL(h:p:=by exact Zeh):p:=h
theorem zfA.Ka9(h:p:=by
 have TM:=(tZ.ae.cell (p:=⟨g9,0,none⟩) kI).trans (ua 0 v1 0 _ rfl WC rfl);have vK:=Nat.lt_of_lt_of_le kI tZ.ae.size;clear ua tZ;go_wp2_with fail;refine(Ff a wa gi nu d jR g9 0 c9 v1 _ vK TM).mono ?_;rintro e w3 ⟨rfl,b3⟩;clear x0 x1 z6 y0 y1 y2 y3 o4 o5;replace hR:=hR.later b3;replace cL:=cL.later b3;replace hB:=ai.then hB b3;clear b3;have tI:fc (gO op [v1]=cj v1 wa):=by have z1:=HWA.ae;have LE:=Ay.ae;show gO _ _=_;simp only[gO,<- z1,<- LE]
 cases hs:cj v1 wa
 ·have HQ:=aa (Nz.ae (0,40) (by rw[tI.ae,hs,if_pos rfl]));open zd2 in exact Zbq
 ·have HQ:=aa (Nz.ae (gi,0) Tbk);open zd3 in exact Zbq):p:=h
theorem zfB.Ka9(h:p:=by
 have TM:=(tZ.ae.cell (p:=⟨g9,0,none⟩) kI).trans (ua 0 v1 0 _ rfl WC rfl);have kc2:=(tZ.ae.cell (p:=⟨g9,1,none⟩) kI).trans (ua 1 v2 0 _ rfl WC rfl);have vK:=Nat.lt_of_lt_of_le kI tZ.ae.size;clear ua tZ;go_wp2_with fail;refine(Fg a wa gi al nu d jR g9 0 c9 v1 v2 _ vK TM kc2).mono ?_;rintro e w3 ⟨rfl,b3⟩;clear x0 x1 z6 y0 y1 y2 y3 o4 o5;replace hR:=hR.later b3;replace cL:=cL.later b3;replace hB:=ai.then hB b3;clear b3;have tI:fc (gO op [v1,v2]=(cj v1 wa &&(cj v2 wa &&(!al || cj v1 v2)))):=by have z1:=HWA.ae;have LE:=Ay.ae;show gO _ _=_;simp only[gO,<- z1,<- LE]
 cases hs:(cj v1 wa &&(cj v2 wa &&(!al || cj v1 v2)))
 ·have HQ:=aa (Nz.ae (0,40) (by rw[tI.ae,hs,if_pos rfl]));open zd4 in exact Zbq
 ·have HQ:=aa (Nz.ae (gi,0) Tbk);open zd5 in exact Zbq):p:=h
theorem zis.Kcf(h:p:=by
 have Nz:fc (∀r,(if gO op (args.map (·.2))=false then(0,40)else(uo op,0))=r->ub ⟨op,xv,name,width,A,args.length,c⟩ (args.map (·.2))=r):=λ r hr=>by unfold ub;rw[if_neg Ta6,if_neg H1.ae];exact hr
 clear hwa xC Ly R6 nI Hu afi hOp HOI hwd h1 mV;rcases afk with ⟨hlen,rfl⟩| hlen
 ·obtain⟨⟨Nm,v1⟩,rfl⟩:=akb hlen;open zfA in exact ZcT
 ·obtain⟨⟨Nm,v1⟩,⟨LT,v2⟩,rfl⟩:=akc hlen;open zfB in exact ZcT):p:=h
theorem zeG.KaT(h:p:=by rw[Rx] at Hv;obtain⟨hwa,R6,xC,Ly⟩:=Hv;open zis in exact ZfZ):p:=h
theorem zgF.Kbz(h:p:=by
 replace hR:=hR.later b2;replace hB:=ai.then hB b2;have cL:=aC.new W3 100 #[af a,ag wa,ag gi,.bool al,.bool nu,d];have HOI:=aa (TK.later (ah W3 (.cells #[af a,ag wa,ag gi,.bool al,.bool nu,d] 100)));have tZ:=aa b2;clear TK Kx b2 hd;generalize Ht:bS ⟨op,xv,name,width,A,args.length,c⟩=fe;have mV:=aa Ht;clear Ht;have x0:=hR.cell 0;have x1:=hR.cell 1;have z6:=hR.cell 6;have y0:=cL.cell 0;have y1:=cL.cell 1;have y2:=cL.cell 2;have y3:=cL.cell 3;have o4:=cL.cell 4;have o5:=cL.cell 5;simp only[Uaa] at x0 x1 z6 y0 y1 y2 y3 o4 o5;by_cases hf:fe=0
 ·subst hf;by_cases h1:op=1
  ·have HR:=aa (show ub ⟨op,xv,name,width,A,args.length,c⟩ (args.map (·.2))=(xv.k,0) by unfold ub;rw[if_neg Ta6,if_pos h1]);have t1:(op==1)=true:=by simpa using h1
   clear h1;go_wp2_with fail;exact bodyPost_ret (v:=.tuple #[ag xv.k,af 0]) Tap rfl ⟨by rw[HR.ae],hB⟩
  ·open zeG in exact Zb2
 ·have HR:=aa (show ub ⟨op,xv,name,width,A,args.length,c⟩ (args.map (·.2))=(0,fe) by unfold ub;rw[if_pos (by rw[mV.ae];exact hf),mV.ae]);have t1:(fe != 0)=true:=by simpa using hf
  clear hf;go_wp2_with fail;exact bodyPost_ret (v:=.tuple #[ag 0,af fe]) Tap rfl ⟨by rw[HR.ae],hB⟩):p:=h
theorem zcl.Kas(h:p:=by go_wp2_with fail;refine(vJ ⟨op,xv,name,width,A,args.length,c⟩ _).mono ?_;rintro e W3 ⟨oo,rfl,TK,Kx⟩;clear x0 x1 z2 z3 z4 z5 z6;open zgF in exact Zd7):p:=h
theorem XO (op:Int)(xv:Val)(name:ByteArray)(width:Int)(A:Option Addr)(c:Nat)(cV:Value)(args:List (Ex×Int))(oZ:op≠2\/args≠ [])(w:World)(hl:args.length<=1599289640356)(hA:RE w w.heap.size A (args.map (·.1)))(hE:∀a∈args,XN w cV a.1 a.2):
  ar 59 #[.agg #[ag op,ag xv.k,af xv.n,.string xv.s,.string name,af width,.slice A args.length c],cV] w λ en w'=>en=.returned (.tuple #[ag (ub ⟨op,xv,name,width,A,args.length,c⟩ (args.map (·.2))).1,af (ub ⟨op,xv,name,width,A,args.length,c⟩ (args.map (·.2))).2])/\aj w w':=by
 have Hs:=aa oZ;have HA:=aa hA;have HE:=aa hE;clear hA hE oZ;go_enter Tryz.func59,Tryz.ntmps59;have hX:=aC.new w 46 #[ag op,ag xv.k,af xv.n,.string xv.s,.string name,af width,.slice A args.length c];have z6:=hX.cell 6;simp only[Uaa] at z6;go_wp2_with fail;have KK:=ah w (.cells #[ag op,ag xv.k,af xv.n,.string xv.s,.string name,af width,.slice A args.length c] 46);clear z6;generalize w.alloc (.cells #[ag op,ag xv.k,af xv.n,.string xv.s,.string name,af width,.slice A args.length c] 46)=W at*;go_loopw [6,17] (λ kv Lw wr=>∃i:Nat,i<=args.length/\Lw=af i/\aI dQ 5 1 wr W.heap.size kv ((args.take i).map (·.2))/\aj W wr) (λ _ Lw _=>args.length - (intOf Lw).toNat);case atStart=>exact Zc7
 case round=>
  obtain⟨i,hk,rfl,hp,hb⟩:=hrel;have HP:=aa hp;clear hp;rcases Nat.lt_or_ge i args.length with hlt | vC
  ·obtain⟨b,off,rfl,kE,hex⟩:=(HA.ae.below (KK.trans (hb.mono KK.size))).at_ (show i <(args.map (·.1)).length by simpa using hlt);have jn:(args.map (·.1))[i]' Tan=args[i].1:=by simp
   exact ZaS
  ·have lS:args.take i=args:=take_of_length_le vC;rw[lS] at HP;clear lS;obtain⟨A9,c9,hu9,uR⟩:=ej (f:=dQ) (size:=1) (λ _=>rfl) HP.ae;rw[length_map] at hu9;subst hu9;have hR:=hX.later hb;have hB:=ai.then KK hb;clear HP hX KK;have HKC:=aa uR;open zcl in exact ZaL
def pj (w:World)(cV:Value)(y:Ex)(t e:Int):Prop:=∀W,aj w W->ar 59 #[.agg (ay y),cV] W λ en w'=>en=.returned (.tuple #[ag t,af e])/\aj W w'
theorem zfc.Ka1(h:p:=by
 have jn:(args.map (·.1)++bad::post)[i]' Tab=args[i].1:=by rw[getElem_append_left Tan];simp
 exact ZaS):p:=h
theorem zjm.KcD(h:p:=by
 have ek:=ai.then KK (ai.then hb (ai.then bY Kx));have te:(er != 0)=true:=by have:=Ol.ae;simpa using this
 clear gD hex bY Kx HX KK hb;go_wp2_with fail;exact bodyPost_ret (v:=.tuple #[ag 0,af er]) Tap rfl ⟨rfl,ek⟩):p:=h
theorem ziu.Kcg(h:p:=by clear jn fL HP;open zjm in exact ZhB):p:=h
theorem zfd.Ka1(h:p:=by open ziu in exact Zf1):p:=h
theorem zha.KbL(h:p:=by
 have KK:=ah w (.cells #[ag op,ag xv.k,af xv.n,.string xv.s,.string name,af width,.slice A n c] 46);clear x6;generalize w.alloc (.cells #[ag op,ag xv.k,af xv.n,.string xv.s,.string name,af width,.slice A n c] 46)=W at*;go_loopw [6,17] (λ kv Lw wr=>∃i:Nat,i<=args.length/\Lw=af i/\aI dQ 5 1 wr W.heap.size kv ((args.take i).map (·.2))/\aj W wr) (λ _ Lw _=>args.length - (intOf Lw).toNat);case atStart=>exact Zc7
 case round=>
  obtain⟨i,hk,rfl,hp,hb⟩:=hrel;have HP:=aa hp;clear hp;rcases Nat.lt_or_ge i args.length with hlt | vC
  ·open zfc in exact ZcF
  ·have fL:i=args.length:=by omega
   open zfd in exact ZcF):p:=h
theorem XP (op:Int)(xv:Val)(name:ByteArray)(width:Int)(A:Option Addr)(n c:Nat)(cV:Value)(args:List (Ex×Int))(bad:Ex)(bt er:Int)(post:List Ex)(hn:args.length+1+post.length=n)(w:World)(hl:args.length<=1599289640356)(WI:n<=1599289640356)(hA:RE w w.heap.size A (args.map (·.1)++bad::post))(hE:∀a∈args,XN w cV a.1 a.2)(jS:pj w cV bad bt er)(her:er≠0):
  ar 59 #[.agg #[ag op,ag xv.k,af xv.n,.string xv.s,.string name,af width,.slice A n c],cV] w λ en w'=>en=.returned (.tuple #[ag 0,af er])/\aj w w':=by have HN:=aa hn;have Hw:=aa jS;have Ol:=aa her;clear hn jS her;have HA:=aa hA;have HE:=aa hE;clear hA hE;go_enter Tryz.func59,Tryz.ntmps59;have HX:=aC.new w 46 #[ag op,ag xv.k,af xv.n,.string xv.s,.string name,af width,.slice A n c];open zha in exact ZeK
def mX (cols:List aZ)(name:ByteArray):Int×Int:=if dm name cols < cols.length then((cols.getD (dm name cols) ⟨ByteArray.empty,0⟩).t,0)else(0,41)
theorem zcm.Kas(h:p:=by go_wp2_with fail;exact bodyPost_ret (v:=.tuple #[ag 0,af 41]) Tap rfl ⟨by rw[HQ.ae],hB⟩):p:=h
theorem zfP.Kbe(h:p:=by
 go_wp2_with fail;clear hst x0 x1 z2 z3 z4 z5 z6;refine(Fj cols CA cc name _ HK.ae hl).mono ?_;rintro e w' ⟨rfl,b3⟩;replace hR:=hR.later b3;replace hB:=ai.then hB b3;replace HK:=aa (HK.ae.later b3);clear b3;by_cases uR:dm name cols < cols.length
 ·have HP:=aa (show kJ name cols=(dm name cols:Int) by unfold kJ;rw[if_pos uR]);rw[HP.ae];have WJ:=aa (show mX cols name=((cols.getD (dm name cols) ⟨ByteArray.empty,0⟩).t,0) by unfold mX;rw[if_pos uR]);clear HP;generalize dm name cols=k at*;have hk2:(k:Int)<=140737488355328:=by omega
  have t0:decide (0<=(k:Int))=true:=decide_eq_true WC;obtain⟨b,off,rfl,kE,Oq⟩:=HK.ae.at_ uR;have HG:=aa (show cols.getD k ⟨ByteArray.empty,0⟩=cols[k] by rw[getD_eq_getElem?_getD,getElem?_eq_getElem uR];rfl);have HQ:=WJ;rw[HG.ae] at HQ;clear WJ;generalize cols[k]=x at*;unfold mW at Oq;have x0:=hR.cell 0;have x1:=hR.cell 1;have z2:=hR.cell 2;have z3:=hR.cell 3;have z4:=hR.cell 4;have z5:=hR.cell 5;have z6:=hR.cell 6;simp only[Uaa] at x0 x1 z2 z3 z4 z5 z6;go_wp2_with fail;exact bodyPost_ret (v:=.tuple #[ag x.t,af 0]) Tap rfl ⟨by rw[HQ.ae],hB⟩
 ·have HP:=aa (show kJ name cols= -1 by unfold kJ;rw[if_neg uR]);rw[HP.ae];have HQ:=aa (show mX cols name=(0,41) by unfold mX;rw[if_neg uR]);open zcm in exact ZaL):p:=h
theorem zhl.KbP(h:p:=by clear Ht TK x0 x1 z2 z3 z4 z5 z6;have b3:=ai.then b1 (ah w1 (.cells #[af 0,ag 0,ag 0,.bool false,.bool false,.nilFunc] 100));replace hR:=hR.later b3;replace hB:=ai.then hB b3;open zfP in exact Zc3):p:=h
theorem zi5.Kcw(h:p:=by
 go_wp2_with fail;have hB:=ah w (.cells #[ag 2,ag Kx.k,af Kx.n,.string Kx.s,.string name,af width,.slice A 0 c] 46);replace HK:=aa (HK.ae.later hB);clear z6;generalize w.alloc (.cells #[ag 2,ag Kx.k,af Kx.n,.string Kx.s,.string name,af width,.slice A 0 c] 46)=W at*;go_loopw [6,17] (λ kv i wr=>kv=az/\i=af 0/\wr=W) (λ _ _ _=>0);case atStart=>exact Ziu
 case round=>obtain⟨rfl,rfl,rfl⟩:=hrel;have x0:=hR.cell 0;have x1:=hR.cell 1;have z2:=hR.cell 2;have z3:=hR.cell 3;have z4:=hR.cell 4;have z5:=hR.cell 5;have z6:=hR.cell 6;simp only[Uaa] at x0 x1 z2 z3 z4 z5 z6;open zhl in exact ZeS):p:=h
theorem XQ (Kx:Val)(name:ByteArray)(width:Int)(A:Option Addr)(c:Nat)(cols:List aZ)(CA:Option Addr)(cc:Nat)(w:World)(hC:RC w w.heap.size CA cols)(hl:cols.length<=140737488355328):
  ar 59 #[.agg #[ag 2,ag Kx.k,af Kx.n,.string Kx.s,.string name,af width,.slice A 0 c],.slice CA cols.length cc] w λ en KK=>en=.returned (.tuple #[ag (mX cols name).1,af (mX cols name).2])/\aj w KK:=by have HK:=aa hC;clear hC;go_enter Tryz.func59,Tryz.ntmps59;have hR:=aC.new w 46 #[ag 2,ag Kx.k,af Kx.n,.string Kx.s,.string name,af width,.slice A 0 c];open zi5 in exact Zhb
def gQ:List (Int×Int)->Int
 | []=>0
 | r::rs=>if r.2≠0 then r.2 else gQ rs
def rp (cols:List aZ)(x:Ex)(rs:List (Int×Int)):Int×Int:=
 if gQ rs≠0 then(0,gQ rs)else if bS x≠0 then(0,bS x)else if x.op=1 then(x.v.k,0)else if x.op=2 then mX cols x.name else if gO x.op (rs.map (·.1))=false then(0,40)else(uo x.op,0)
mutual
def Tr.type (cols:List aZ):Tr->Int×Int
 | .mk op v name width args=>rp cols ⟨op,v,name,width,none,args.length,0⟩ (Tr.types cols args)
def Tr.types (cols:List aZ):List Tr->List (Int×Int)
 | []=> []
 | t::ts=>t.type cols::Tr.types cols ts
end
theorem Tr.pk (cols:List aZ):∀ts,(Tr.types cols ts).length=ts.length
 | []=>by simp[Tr.types]
 | t::ts=>by simp[Tr.types,Tr.pk cols ts]
theorem pn:∀(l:List (Ex×(Int×Int))),(∀a∈l,a.2.2=0)\/∃pre bad post,l=pre++bad::post/\(∀a∈pre,a.2.2=0)/\bad.2.2≠0
 | []=> .inl Tac
 | a::l=>by
   by_cases h:a.2.2=0
   ·rcases pn l with h1 |⟨pre,bad,post,h1,h2,h3⟩
    ·exact .inl (by intro x hx;rcases List.mem_cons.1 hx with rfl | hx;exact h;exact h1 x hx)
    ·refine .inr ⟨a::pre,bad,post,by rw[h1];rfl,?_,h3⟩;intro x hx;rcases List.mem_cons.1 hx with rfl | hx
     ·exact h
     ·exact h2 x hx
   ·exact .inr ⟨[],a,l,rfl,by simp,h⟩
theorem rq:∀ {l:List (Int×Int)},(∀a∈l,a.2=0)->gQ l=0
 | [],_=>rfl
 | a::l,h=>by unfold gQ;rw[if_neg TaP];exact rq λ x hx=>h x Tbd
theorem xD:∀ {pre post:List (Int×Int)} {bad:Int×Int},(∀a∈pre,a.2=0)->bad.2≠0->gQ (pre++bad::post)=bad.2
 | [],post,bad,_,hb=>by unfold gQ;simp[hb]
 | a::pre,post,bad,h,hb=>by show gQ (a::(pre++bad::post))=_;unfold gQ;rw[if_neg TaP];exact xD (λ x hx=>h x Tbd) hb
section
variable (cols:List aZ) (CA:Option Addr) (cc:Nat)
theorem XR (op:Int)(xv:Val)(name:ByteArray)(width:Int)(A:Option Addr)(c:Nat)(args:List (Ex×(Int×Int)))(w:World)(hl:args.length<=1599289640356)(hA:RE w w.heap.size A (args.map (·.1)))
  (hC:RC w w.heap.size CA cols) (cg:cols.length<=140737488355328) (hE:∀a∈args,pj w (.slice CA cols.length cc) a.1 a.2.1 a.2.2):
  ar 59 #[.agg #[ag op,ag xv.k,af xv.n,.string xv.s,.string name,af width,.slice A args.length c],.slice CA cols.length cc] w λ en w'=>en=.returned (.tuple #[ag (rp cols ⟨op,xv,name,width,none,args.length,0⟩ (args.map (·.2))).1,af (rp cols ⟨op,xv,name,width,none,args.length,0⟩ (args.map (·.2))).2])/\aj w w':=by
 rcases pn args with h0 |⟨pre,bad,post,rfl,Ek,jS⟩
 ·have hf:gQ (args.map (·.2))=0:=rq λ a ha=>by obtain⟨z,hz,rfl⟩:=List.mem_map.1 ha;exact h0 z hz
  by_cases h2:op=2/\args=[]
  ·obtain⟨rfl,rfl⟩:=h2;have k:=XQ xv name width A c cols CA cc w hC cg;have e:rp cols ⟨2,xv,name,width,none,0,0⟩ []=mX cols name:=by unfold rp;rw[if_neg (by simp[gQ]),if_neg (by simp[bS]),if_neg Tac,if_pos (by rfl)]
   show Calls _ _ _ _ λ en w'=>en=.returned (.tuple #[ag (rp cols ⟨2,xv,name,width,none,0,0⟩ []).1,af (rp cols ⟨2,xv,name,width,none,0,0⟩ []).2])/\_
   rw[e];exact k
  ·have k:=XO op xv name width A c (.slice CA cols.length cc) (args.map λ a=>(a.1,a.2.1)) (by
    by_cases ho:op=2
    ·right;intro h;exact h2 ⟨ho,by simpa using h⟩
    ·exact .inl ho) w (by simpa using hl) Tat (λ a ha=>by
    obtain⟨z,hz,rfl⟩:=List.mem_map.1 ha
    have:=hE z hz
    rw[h0 z hz] at this
    exact this)
   rw[length_map] at k;have hm:(args.map λ a=>(a.1,a.2.1)).map (·.2)=(args.map (·.2)).map (·.1):=by simp[Function.comp_def]
   rw[hm] at k;have e:rp cols ⟨op,xv,name,width,none,args.length,0⟩ (args.map (·.2))=ub ⟨op,xv,name,width,A,args.length,c⟩ ((args.map (·.2)).map (·.1)):=by have afn:bS ⟨op,xv,name,width,A,args.length,c⟩=bS ⟨op,xv,name,width,none,args.length,0⟩:=rfl;unfold rp ub;exact Zcu
   rw[e];exact k
 ·have hbE:=hE bad Tac;have k:=XP op xv name width A (pre++bad::post).length c (.slice CA cols.length cc) (pre.map λ a=>(a.1,a.2.1)) bad.1 bad.2.1 bad.2.2 (post.map (·.1)) Tab w (by simp at hl ⊢;omega) hl Tat (λ a ha=>by
   obtain⟨z,hz',rfl⟩:=List.mem_map.1 ha
   have:=hE z (by simp[hz'])
   rw[Ek z hz'] at this
   exact this) hbE jS
  have hf:gQ ((pre++bad::post).map (·.2))=bad.2.2:=by rw[map_append,map_cons];exact xD (λ a ha=>by obtain⟨z,hz',rfl⟩:=List.mem_map.1 ha;exact Ek z hz') jS
  have e:rp cols ⟨op,xv,name,width,none,(pre++bad::post).length,0⟩ ((pre++bad::post).map (·.2))=(0,bad.2.2):=by unfold rp;rw[if_pos (by rw[hf];exact jS),hf]
  rw[e];exact k
mutual
theorem Tr.po (cg:cols.length<=140737488355328):∀(t:Tr) (y:Ex) (w:World),t.ok->t.at_ w (Old w) y->RC w w.heap.size CA cols->pj w (.slice CA cols.length cc) y (t.type cols).1 (t.type cols).2
 | .mk op v name width args,y,w,bh,hat,hC=>by
   intro W hb;have oh:=hat.later hb;unfold Tr.at_ at oh;obtain⟨h1,h2,h3,h4,h5,ys,h6,h7⟩:=oh;unfold Tr.ok at bh;obtain⟨l,fq,hl2,uu⟩:=Tr.Bz cg args ys W bh.2.2.2.2.2 h7 (hC.later hb);obtain⟨JW,yv,kZ,gP,yA,yn,yc⟩:=y;dsimp only at h1 h2 h3 h4 h5 h6;subst h1 h2 h3 h4 h5;have hlen:l.length=args.length:=by
    have:(l.map (·.2)).length=(Tr.types cols args).length:=by rw[hl2]
    rw[length_map,Tr.pk] at this;exact this
   have k:=XR cols CA cc JW yv kZ gP yA yc l W (by rw[hlen];exact bh.2.1) Tba (hC.later hb) cg uu;rw[hl2,hlen] at k;unfold Tr.type;exact k
theorem Tr.Bz (cg:cols.length<=140737488355328):∀(ts:List Tr) (ys:List Ex) (w:World),Tr.cP ts->Tr.aQ w (Old w) ts ys->RC w w.heap.size CA cols->∃l:List (Ex×(Int×Int)),l.map (·.1)=ys/\l.map (·.2)=Tr.types cols ts/\∀a∈l,pj w (.slice CA cols.length cc) a.1 a.2.1 a.2.2
 | [],ys,w,_,hat,_=>by unfold Tr.aQ at hat;subst hat;exact⟨[],rfl,by simp[Tr.types],by simp⟩
 | t::ts,ys,w,bh,hat,hC=>by
   unfold Tr.aQ at hat;unfold Tr.cP at bh;obtain⟨y,ys',rfl,h2,h3⟩:=hat;obtain⟨l,fq,hl2,uu⟩:=Tr.Bz cg ts ys' w bh.2 h3 hC;refine⟨(y,t.type cols)::l,by simp[fq],by simp[hl2,Tr.types],λ a ha=>?_⟩;rcases List.mem_cons.1 ha with rfl | ha
   ·exact Tr.po cg t y w bh.1 h2 hC
   ·exact uu a ha
end
end
theorem KM:Tryz.prog.cellsOf 5=1:=by exact ZhU
theorem TR:Tryz.prog.cellsOf 2=1:=by exact ZhU
theorem vN:Tryz.prog.cellsOf 9=1:=by exact ZhU
theorem yU:Tryz.prog.cellsOf 44=3:=by exact ZhU
theorem adw(h:(Lit.int .u8 n).wf=true):0<=n/\n<=255:=by exact ZhI
section
variable {H:Type} {enc:TypeId×Value->H} {w:World} {base:Nat} {spare:Nat->Bool} {held:Bool} {fuel:Nat} {cs:List Value} {x:DataW H×List MemPlace}
theorem afo {n:Int}(h:(Lit.int .i64 n).wf=true): -9223372036854775808<=n/\n<=9223372036854775807:=by exact ZhI
theorem XS (h:DataW.trod enc Tryz.prog w base spare held fuel 44 cs=some x):∃a:Val,cs=[ag a.k,af a.n,.string a.s]/\a.Ok/\0<=a.k/\a.k<=255:=by
 obtain⟨xs,n,_,_,hl,hlen,hf⟩:=DataW.trod_struct Tryz.underlying44 h;rw[yU] at hl
 match cs,hl with
 | [c0,c1,c2],_=>
   have get:∀i,i < 3->∃y,xs[i]?=some y:=λ i hi=>⟨xs[i]'(by simp at hlen;omega),getElem?_eq_getElem _⟩
   obtain⟨y0,e0⟩:=get 0 WC;obtain⟨y1,e1⟩:=get 1 WC;obtain⟨y2,e2⟩:=get 2 WC;have t0:DataW.trod enc Tryz.prog w base spare held n 5 (([c0,c1,c2].drop 0).take (Tryz.prog.cellsOf 5))=some y0:=(hf 0 _ rfl).trans e0;have t1:DataW.trod enc Tryz.prog w base spare held n 2 (([c0,c1,c2].drop 1).take (Tryz.prog.cellsOf 2))=some y1:=(hf 1 _ rfl).trans e1;have t2:DataW.trod enc Tryz.prog w base spare held n 9 (([c0,c1,c2].drop 2).take (Tryz.prog.cellsOf 9))=some y2:=(hf 2 _ rfl).trans e2;rw[KM] at t0;rw[TR] at t1;rw[vN] at t2;simp only[drop_succ_cons,drop_zero,take_succ_cons,take_zero] at t0 t1 t2;obtain⟨n0,q0,_,f0⟩:=DataW.trod_int Tryz.underlying5 t0;obtain⟨n1,q1,_,f1⟩:=DataW.trod_int Tryz.underlying2 t1;obtain⟨s,q2,_,f2⟩:=DataW.trod_string Tryz.underlying9 t2;simp at q0 q1 q2;subst q0 q1 q2;exact⟨⟨n0,n1,s⟩,rfl,afo f1,adw f0⟩
end
theorem pick{P:Nat->α->Prop}:∀n,(∀i,i < n->∃x,P i x)->∃l:List α,l.length=n/\∀i x,l[i]?=some x->P i x
 | 0,_=>⟨[],rfl,λ i x h=>by simp at h⟩
 | n+1,h=>by
   obtain⟨l,hl,hp⟩:=pick n λ i hi=>h i WC
   obtain⟨y,hy⟩:=h n WC;refine⟨l++ [y],by simp[hl],λ i x hx=>?_⟩;rcases Nat.lt_trichotomy i n with hi | hi | hi
   ·rw[getElem?_append_left WC] at hx;exact hp i x hx
   ·subst hi;rw[getElem?_append_right WC,hl] at hx;simp at hx;subst hx;exact hy
   ·rw[getElem?_eq_none Tab] at hx;cases hx
theorem lu{a:Addr} (h:w.cell? a=some v):a.block < w.heap.size/\a.spot=none:=by
 unfold World.cell? at h;split at h
 ·rename_i hb;refine⟨?_,?_⟩
  ·rcases Nat.lt_or_ge a.block w.heap.size with h' | h'
   ·exact h'
   ·rw[Array.getElem?_eq_none h'] at hb;cases hb
  ·split at h
   ·cases h
   ·rename_i hs;simpa using hs
 ·cases h
end Go.Proofs.YtndgjggokjickaaGreatDoor
