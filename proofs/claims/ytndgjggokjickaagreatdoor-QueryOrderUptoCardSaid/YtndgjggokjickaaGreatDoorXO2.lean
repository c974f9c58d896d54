/- Parts of the proof. -/
import Derived.Test.YtndgjggokjickaaGreatDoorXO1
namespace Go.Proofs.YtndgjggokjickaaGreatDoor
variable{p:Prop}
set_option maxHeartbeats 90000000
set_option maxRecDepth 100000
open Go.ChangeShapes Go.WideShapes Go.ChangeAt Go.RowKit List
set_option linter.unusedVariables false
set_option linter.unusedSimpArgs false
variable{P:Program}{Q:Exit->Act->World->Prop}{a0:Act}{w0:World}{id:Nat}{ops:List Oper}
theorem Oo(k:Nat)(R:World->World->Prop)(hrefl:∀w,R w w)(AV:∀a b c,R a b->R b c->R a c)(nO:∀w,R w w.drew)
  (V:Nat->World->Value->Prop) (U:Nat->World->(Operand->Value)->Prop) (hU:Ym (ops.take k) R U) (hV:∀i w w' v,V i w v->R w w'->V i w' v) (hm:P.follows .mixedOrders=true)
  (aZ:dO (ops.take k) a0.tmps.size (ops.take k) 0=true) (hz:eJ ops (ops.drop k) (ops.take k).length=true)
  (hs:Hs P (ops.take k) R V U a0 w0 (ops.take k) 0) (hf:∀w,R w0 w->bD V (λ a w=>(∀i o,(ops.take k)[i]?=some o->U i w a.eval)->wpList P ops.toArray Q (ops.drop k) a w) (ops.take k) 0 a0 w):(Code.region id ops.toArray true).wp P Q a0 w0:=
 Ht (ops.drop k) (ops.take k) (take_append_drop k ops).symm R hrefl AV nO V U hU hV hm aZ TaI hs hf
def Sb (B gx:Nat)(op:Int):Nat->World->Value->Prop
 | 0=>λ w v=>Found w op v
 | 1=>λ _ v=>v=aw gx
 | 2=>λ _ v=>v=ag op
 | 3=>λ w v=>∃o,v=.tuple #[.agg o,.bool (kJ op)]/\yE w op o
 | 4=>λ w v=>∃o,v=.tuple #[.agg o,.bool (kJ op)]/\yE w op o
 | 5=>λ w v=>∃o,v=.agg o/\yE w op o
 | 6=>λ _ v=>v=.bool (kJ op)
 | 7=>λ w v=>∃g,v=aw g/\B<=g/\∃cs,aB w g 100 cs/\cs.size=6
 | _=>λ _ _=>True
theorem Kz (B gx:Nat)(op:Int)(i:Nat)(w w':World)(v:Value)(h:Sb B gx op i w v)(hr:FR op B w w'):Sb B gx op i w' v:=by
 unfold Sb at*;split at h
 ·exact h.fr hr
 ·exact h
 ·exact h
 ·exact Zgp
 ·exact Zgp
 ·exact Zgp
 ·exact h
 ·obtain⟨g,h1,h2,cs,h3,h4⟩:=h;refine⟨g,h1,h2,?_⟩;rcases hr.blk _ _ _ h3 with h5 |⟨_,_,o,h5,h6⟩
  ·exact⟨cs,h5,h4⟩
  ·obtain⟨a,wa,gi,al,nu,d,rfl,_⟩:=h5.shape;exact⟨_,h6,rfl⟩
 ·trivial
def Yo (B:Nat)(op:Int)(i:Nat)(w:World)(ρ:Operand->Value):Prop:=
 i=8->∃g o,ρ (.tmp 4)=aw g/\B<=g/\yE w op o/\aB w g 100 o
variable{w w':World}{ρ ρ':Operand->Value}
theorem KB(B:Nat)(op:Int)  (i:Nat)(h:Yo B op i w ρ)(hr:FR op B w w')(he:i=8->ρ' (.tmp 4)=ρ (.tmp 4)):Yo B op i w' ρ':=by
 intro hi;obtain⟨g,o,h1,h2,h3,h4⟩:=h hi;rcases hr.blk _ _ _ h4 with h5 |⟨_,_,o',h6,h7⟩
 ·exact⟨g,o,(he hi).trans h1,h2,h3.fr hr,h5⟩
 ·exact⟨g,o',(he hi).trans h1,h2,h6,h7⟩
def bP (x:Ex):Int:=
 if x.op=1/\x.n=0/\good x.v=true\/x.op=2/\x.n=0 then 0
 else if kJ x.op=true/\(x.n:Int)=qJ x.op/\(x.op≠20\/(1<=x.width/\x.width<=1099511627776))then 0
 else if (x.n:Int)=nr x.op then 42 else 21
def Yp (x:Ex)(w:World)(e:Ending)(w':World):Prop:=∃o,e=.returned (.tuple #[.agg o,af (bP x)])/\yE w' x.op o/\aj w w'
theorem zc1.Kay(h:p:=by
 go_wp2_with fail;refine(fE x.op _).mono ?_;rintro e w9 ⟨rfl,rfl⟩;by_cases hn:(x.n:Int)=nr x.op
 ·have t1:((x.n:Int)==nr x.op)=true:=by simpa using hn
  have pV:=aa (show bP x=42 by have LT:=P1.ae;have KK:=N2.ae;simp only[bP];rw[if_neg Tai,if_neg Tai,if_pos hn]);exact Zbz
 ·have t1:((x.n:Int)==nr x.op)=false:=by simpa using hn
  have pV:=aa (show bP x=21 by have LT:=P1.ae;have KK:=N2.ae;simp only[bP];rw[if_neg Tai,if_neg Tai,if_neg hn]);exact ZbA):p:=h
theorem zc2.Kay(h:p:=by have pV:=aa (show bP x=0 by have LT:=P1.ae;have KK:=N2.ae;simp only[bP];rw[if_pos Tai]);exact ZbW):p:=h
theorem vB (x:Ex)(w:World):ar 42 #[.agg (ay x)] w (Yp x w):=by
 go_enter Tryz.func42,Tryz.ntmps42;go_wp2_with fail;have k1:=(aB.new w 46 (ay x)).alloc (.cells #[af 0,ag 0,ag 0,.bool false,.bool false,.nilFunc] 100);have Ly:=aB.new (w.alloc (.cells (ay x) 46)) 100 #[af 0,ag 0,ag 0,.bool false,.bool false,.nilFunc];rw[World.size_alloc] at Ly;have hB:=ai.then (ah w (.cells (ay x) 46)) (ah _ (.cells #[af 0,ag 0,ag 0,.bool false,.bool false,.nilFunc] 100));have hgx:w.heap.size <((w.alloc (.cells (ay x) 46)).alloc (.cells #[af 0,ag 0,ag 0,.bool false,.bool false,.nilFunc] 100)).heap.size:=by simp;omega
 generalize (w.alloc (.cells (ay x) 46)).alloc (.cells #[af 0,ag 0,ag 0,.bool false,.bool false,.nilFunc] 100)=W at*;have bJ:w.heap.size<=w.heap.size+1:=by omega
 generalize w.heap.size+1=g at*;refine Oo 9 (FR x.op W.heap.size) (FR.refl _ _) (λ _ _ _=>FR.trans) (λ u=>?_) (Sb W.heap.size w.heap.size x.op) (Yo W.heap.size x.op) ?_ (λ i u u' v h hr=>Kz _ _ _ _ _ _ _ h hr) T8 T8 T8 ?_ ?_
 ·exact⟨(Below.refl _ _).drew,λ MY t cs h=> .inl h,λ MY es c h=>h⟩
 ·intro i o u u' ρ ρ' hi hu hr hk;refine KB _ _ i hu hr λ e=>?_
  subst e;simp only[take_succ_cons,take_zero] at hi hk;refine hk 7 ?_ _ 4 rfl rfl;injection hi with hi;subst hi;decide
 ·simp only[take_succ_cons,take_zero];refine⟨?_,?_,?_,?_,?_,?_,?_,?_,?_,trivial⟩
  ·intro ρ w3 hc hL hr;have e1:=hc.func 75;refine bw (f:=75) (args:= #[]) (w':=w3) (by simp[go_sem,e1]) ?_;refine(Uc x.op w3).mono ?_;rintro e w2 ⟨v,he,hf,hb⟩;exact⟨v,he,FR.later hb hL.below.size,hf,λ h=>by cases h⟩
  ·intro ρ w3 hc hL hr;have h1:_=_:=hr.1;exact Zgx
  ·intro ρ w3 hc hL hr;have h1:_=_:=hr.1;have c0:=(k1.below hL.below hgx).cell 0;simp only[getElem?_toArray,getElem?_cons_zero] at c0;exact aq (w':=w3) Tbc ⟨FR.refl _ _ _,rfl,λ h=>by cases h⟩
  ·intro ρ w3 hc hL hr;obtain⟨MY,es,h1,hg,Ud⟩:Found w3 x.op (ρ (.tmp 8)):=hr.1;have h2:_=_:=hr.2.1;rcases Ud with ⟨ho,i,o,hfi,hoi⟩|⟨ho,hfi⟩
   ·have hl:=Yn _ _ _ _ hg x.op i _ hfi;exact aq (v:=.tuple #[.agg o,.bool true]) (w':=w3) Ta6 ⟨FR.refl _ _ _,⟨o,by rw[ho],.inl ⟨ho,hoi⟩⟩,λ h=>by cases h⟩
   ·have hl:=abw _ _ _ _ hg x.op hfi;exact aq (v:=.tuple #[.agg oH,.bool false]) (w':=w3) Ta6 ⟨FR.refl _ _ _,⟨oH,by rw[ho],.inr ⟨ho,rfl⟩⟩,λ h=>by cases h⟩
  ·intro ρ w3 hc hL hr;exact jb (.inl rfl) rfl ⟨FR.refl _ _ _,hr.1,λ h=>by cases h⟩
  ·intro ρ w3 hc hL hr;obtain⟨o,h1,h2⟩:∃o,ρ (.tmp 7)=.tuple #[.agg o,.bool (kJ x.op)]/\yE w3 x.op o:=hr.1;exact aq (w':=w3) TaD ⟨FR.refl _ _ _,⟨o,rfl,h2⟩,λ h=>by cases h⟩
  ·intro ρ w3 hc hL hr;obtain⟨o,h1,h2⟩:∃o,ρ (.tmp 7)=.tuple #[.agg o,.bool (kJ x.op)]/\yE w3 x.op o:=hr.1;exact Zgx
  ·intro ρ w3 hc hL hr;refine aq (w':=w3.alloc (.cells #[af 0,ag 0,ag 0,.bool false,.bool false,.nilFunc] 100)) (by simp[go_sem]) ⟨FR.later (ah w3 _) hL.below.size,⟨w3.heap.size,rfl,hL.below.size,_,aB.new w3 _ _,rfl⟩,λ h=>by cases h⟩
  ·intro ρ w3 hc hL hr;obtain⟨MY,h1,hgB,cs,hcs,hsz⟩:∃MY,ρ (.tmp 4)=aw MY/\W.heap.size<=MY/\∃cs,aB w3 MY 100 cs/\cs.size=6:=hr.1;obtain⟨o,h2,ho⟩:∃o,ρ (.tmp 12)=.agg o/\yE w3 x.op o:=hr.2.1;obtain⟨a,wa,gi,al,nu,d,rfl,_,hd⟩:=ho.shape;obtain⟨f1,f2⟩:=dP hcs hsz hgB ho;have als:=Bc hcs hsz a wa gi al nu d;have c:∀i,(hi:i < 6)->w3.cell? ⟨MY,i,none⟩=some (cs[i]' Tq):=λ i hi=>(hcs.cell i).trans (Array.getElem?_eq_getElem Tq)
   have fz:=hcs.frozen;have c0:=c 0 Tq;have c1:=c 1 Tq;have c2:=c 2 Tq;have c3:=c 3 Tq;have c4:=c 4 Tq;have c5:=c 5 Tq;refine Ks (w':=vA w3 MY a wa gi al nu d) ?_ ⟨f1,trivial,λ _=>⟨MY,_,h1,hgB,f2,als⟩⟩;unfold vA;rcases hd with rfl |⟨F,C,rfl⟩
   ·simp[go_sem,h1,h2,cJ,c0,c1,c2,c3,c4,c5,fz]
   ·simp[go_sem,h1,h2,cJ,c0,c1,c2,c3,c4,c5,fz]
 ·intro w3 hL;simp only[Uab];rintro _ ⟨gm,es,rfl,hgm,Ud⟩ _ rfl _ rfl _ ⟨o3,rfl,h3⟩ _ ⟨Kx,rfl,h4⟩ _ ⟨Lw,rfl,h5⟩ _ rfl _ ⟨g4,rfl,hg4,cs,hcs,hsz⟩ hu;obtain⟨MY,o,hg,hgB,ho,hR⟩:=hu 8 _ rfl rfl;have dZ:g4=MY:=by simpa [Act.put,Act.eval] using hg
  subst dZ;clear hu hg hcs hsz cs Ud hgm es h3 h4 h5 hg4;replace k1:=k1.below hL.below hgx;have cK:=Ly.below hL.below (aB.lt Ly);replace hB:=hB.trans (hL.below.mono hB.size);clear Ly hL hgx;obtain⟨a,wa,gi,al,nu,d,rfl,_,hd⟩:=ho.shape;have KC:=λ h=>yE.args ho h
  have jY:d.oneCell'=true:=by rcases hd with rfl |⟨F,C,rfl⟩<;> rfl
  have hst:=λ(u:Addr) (m:Mode) (w:World)=>run_store Tryz.prog w u d m jY
  clear hd jY;have HX:=aa ho;clear ho;simp only[bD,Act.put,Uac];have z0:=k1.cell 0;have z1:=k1.cell 1;have x2:=k1.cell 2;have x3:=k1.cell 3;have x5:=k1.cell 5;have x6:=k1.cell 6;have x0:=hR.cell 0;have x1:=hR.cell 1;have z2:=hR.cell 2;have z3:=hR.cell 3;have z4:=hR.cell 4;have z5:=hR.cell 5;have y0:=cK.cell 0;have y1:=cK.cell 1;have y2:=cK.cell 2;have y3:=cK.cell 3;have o4:=cK.cell 4;have o5:=cK.cell 5;have rf:=cK.frozen;unfold cJ at x0 x1 z2 z3 z4 z5;simp only[Uaa] at z0 z1 x2 x3 x5 x6 x0 x1 z2 z3 z4 z5 y0 y1 y2 y3 o4 o5;cases b1:(x.op==1)
  ·cases LE:(x.op==2)
   ·have n1:¬x.op=1:=by simpa using b1
    have n2:¬x.op=2:=by simpa using LE
    cases q1:kJ x.op
    ·clear KC;exact Zbh
    ·have ha:=KC q1;clear KC;cases b4:((x.n:Int)==a)
     ·have n4:¬(x.n:Int)=qJ x.op:=by rw[<- ha];simpa using b4
      clear ha;exact Zbh
     ·have n4:(x.n:Int)=qJ x.op:=by rw[<- ha];simpa using b4
      have N4:=aa n4;clear ha n4;cases b5:(x.op != 20)
      ·have n5:x.op=20:=by simpa using b5
       have N5:=aa n5;clear n5;have kw:=TR x.width;cases b6:(decide (1<=x.width)&& decide (x.width<=1099511627776))
       ·rw[b6] at kw;have K1:=aa kw;clear kw;go_wp2_with fail;refine(K1.ae _).mono ?_;rintro e w1 ⟨rfl,rfl⟩;have n6:¬(1<=x.width/\x.width<=1099511627776):=by simpa using b6
        clear b6;go_wp2_with fail;refine(fE x.op _).mono ?_;rintro e w9 ⟨rfl,rfl⟩;by_cases hn:(x.n:Int)=nr x.op
        ·have t1:((x.n:Int)==nr x.op)=true:=by simpa using hn
         have pV:=aa (show bP x=42 by have LT:=N4.ae;have KK:=N5.ae;simp only[bP];rw[if_neg Tai,if_neg Tai,if_pos hn]);exact Zbz
        ·have t1:((x.n:Int)==nr x.op)=false:=by simpa using hn
         have pV:=aa (show bP x=21 by have LT:=N4.ae;have KK:=N5.ae;simp only[bP];rw[if_neg Tai,if_neg Tai,if_neg hn]);exact ZbA
       ·rw[b6] at kw;have K1:=aa kw;clear kw;have n6:1<=x.width/\x.width<=1099511627776:=by simpa using b6
        clear b6;go_wp2_with fail;refine(K1.ae _).mono ?_;rintro e w1 ⟨rfl,rfl⟩;have pV:=aa (show bP x=0 by have LT:=N4.ae;have KK:=N5.ae;simp only[bP];rw[if_neg Tai,if_pos Tai]);exact ZbW
      ·have n5:¬x.op=20:=by simpa using b5
       have pV:=aa (show bP x=0 by have LT:=N4.ae;simp only[bP];rw[if_neg Tai,if_pos Tai]);exact ZbW
   ·have p2:x.op=2:=by simpa using LE
    have q1:kJ x.op=false:=by rw[p2];rfl
    rw[q1];have P2:=aa p2;clear KC p2;cases b2:((x.n:Int)==0)
    ·have n2:¬x.n=0:=by simpa using b2
     go_wp2_with fail;refine(fE x.op _).mono ?_;rintro e w9 ⟨rfl,rfl⟩;by_cases hn:(x.n:Int)=nr x.op
     ·have t1:((x.n:Int)==nr x.op)=true:=by simpa using hn
      have pV:=aa (show bP x=42 by have LT:=P2.ae;simp only[bP];rw[if_neg Tai,if_neg Tai,if_pos hn]);exact Zbz
     ·have t1:((x.n:Int)==nr x.op)=false:=by simpa using hn
      have pV:=aa (show bP x=21 by have LT:=P2.ae;simp only[bP];rw[if_neg Tai,if_neg Tai,if_neg hn]);exact ZbA
    ·have n2:x.n=0:=by simpa using b2
     have N2:=aa n2;clear n2;have pV:=aa (show bP x=0 by have LT:=P2.ae;have KK:=N2.ae;simp only[bP];rw[if_pos Tai]);exact ZbW
  ·have p1:x.op=1:=by simpa using b1
   have q1:kJ x.op=false:=by rw[p1];rfl
   have LE:(x.op==2)=false:=by rw[p1];rfl
   rw[q1];have P1:=aa p1;clear KC p1;cases b2:((x.n:Int)==0)
   ·have n2:¬x.n=0:=by simpa using b2
    go_wp2_with fail;refine(fE x.op _).mono ?_;rintro e w9 ⟨rfl,rfl⟩;by_cases hn:(x.n:Int)=nr x.op
    ·have t1:((x.n:Int)==nr x.op)=true:=by simpa using hn
     have pV:=aa (show bP x=42 by have LT:=P1.ae;simp only[bP];rw[if_neg Tai,if_neg Tai,if_pos hn]);exact Zbz
    ·have t1:((x.n:Int)==nr x.op)=false:=by simpa using hn
     have pV:=aa (show bP x=21 by have LT:=P1.ae;simp only[bP];rw[if_neg Tai,if_neg Tai,if_neg hn]);exact ZbA
   ·have n2:x.n=0:=by simpa using b2
    have N2:=aa n2;clear n2;have UR:=vt x.v;cases bg:good x.v
    ·open zc1 in exact Zbf
    ·open zc2 in exact Zbf
theorem rY (t:Int)(w:World):ar 73 #[ag t] w λ e w'=>e=.returned (.bool (t==0))/\w=w':=by go_enter Tryz.func73,Tryz.ntmps73;exact Zfx
def iM (a b:Int):Int:=if a=0 then 0 else if b=0 then 1 else -1
theorem zek.KaT(h:p:=by refine(K2.ae _).mono ?_;rintro e w1 ⟨rfl,rfl⟩;exact Zfw):p:=h
theorem zel.KaT(h:p:=by refine(K2.ae _).mono ?_;exact ZhA):p:=h
theorem tK (g c:Nat)(a b:Int)(w:World)(h0:w.cell? ⟨g,0,none⟩=some (ag a))(h1:w.cell? ⟨g,1,none⟩=some (ag b)):
  ar 107 #[aI g 2 c,.func (.func 73) #[] #[]] w λ e w'=>e=.returned (af (iM a b))/\w=w':=by
 unfold iM;cases ha:(a==0)
 ·have ha':¬a=0:=by simpa using ha
  rw[if_neg ha'];cases hb:(b==0)
  ·have hb':¬b=0:=by simpa using hb
   rw[if_neg hb'];have k1:=rY a;have k2:=rY b;rw[ha] at k1;rw[hb] at k2;have K1:=aa k1;have K2:=aa k2;clear k1 k2 ha' hb';go_enter Tryz.func107,Tryz.ntmps107;open zek in exact Zcq
  ·have hb':b=0:=by simpa using hb
   rw[if_pos hb'];have k1:=rY a;have k2:=rY b;rw[ha] at k1;rw[hb] at k2;have K1:=aa k1;have K2:=aa k2;clear k1 k2 ha' hb';go_enter Tryz.func107,Tryz.ntmps107;open zel in exact Zcq
 ·have ha':a=0:=by simpa using ha
  rw[if_pos ha'];have k1:=rY a;rw[ha] at k1;have K1:=aa k1;clear k1 ha';go_enter Tryz.func107,Tryz.ntmps107;go_wp2_with fail;refine wp_loop_rounds 3 ?_;rw[rounds_succ];go_wp2_with fail;refine(K1.ae _).mono ?_;exact ZhA
theorem abx (w:World):(zeroValue 5).run Tryz.prog w=.ok (ag 0) w:=by exact Zgu
theorem rZ (w:World)(g o n c:Nat)(cs:Array Value)(h:aB w g 5 cs)(hn:0 < n)(hs:o+n<=cs.size):
  (Builtin.clear_ #[97] 0 #[.slice (some ⟨g,o,none⟩) n c]).run Tryz.prog w=.ok (.tuple #[]) (w.setCells g o (List.replicate n (ag 0))):=
 Go.Lib.run_clear_slice w 97 5 0 (ag 0) Tryz.underlying97 abx rfl rfl g o n c hn (λ j hj=>by rw[h.cell,Array.getElem?_eq_getElem Tq];rfl) (λ j hj=>h.frozen _)
variable{B:Nat}
theorem fQ(g:Nat)(hg:B<=g):∀(vs:List Value) (o:Nat) (w:World),Below B w0 w->Below B w0 (w.setCells g o vs)
 | [],o,w,h=>h
 | v::vs,o,w,h=>by rw[World.setCells];exact fQ g hg vs (o+1) _ (h.setCell (p:=⟨g,o,none⟩) hg v)
def aby (g c:Nat)(w:World)(e:Ending)(w':World):Prop:=∃n,n<=1/\e=.returned (aI g n c)/\Below g w w'
theorem zem.KaT(h:p:=by go_ret;exact⟨1,Nat.le_refl _,rfl,hB⟩):p:=h
theorem zen.KaT(h:p:=by go_ret;exact⟨0,by omega,rfl,hB⟩):p:=h
theorem Oq (g c:Nat)(a b:Int)(cs:Array Value)(w:World)(h:aB w g 5 cs)(hsz:2<=cs.size)(h0:cs[0]?=some (ag a))(h1:cs[1]?=some (ag b))(hc:2<=c)(hab:a=0\/b=0):
  ar 71 #[aI g 2 c,.func (.func 73) #[] #[]] w (aby g c w):=by
 have c0:=(h.cell 0).trans h0;have c1:=(h.cell 1).trans h1;have fz:=h.frozen;have ki:=tK g c a b w c0 c1;have k2:=rY b;cases ha:(a==0)
 ·have ha':¬a=0:=by simpa using ha
  have hb':b=0:=by omega
  have e0:iM a b=1:=by simp[iM,ha',hb']
  rw[e0] at ki;have KI:=aa ki;have bU:=rZ w g 1 1 (c - 1) cs h Tq Tq;have hB:=fQ g (Nat.le_refl g) (List.replicate 1 (ag 0)) 1 w (Below.refl g w);clear ki k2 e0 ha' hb' hab;generalize w.setCells g 1 (List.replicate 1 (ag 0))=W at*;go_enter Tryz.func71,Tryz.ntmps71;go_wp2_with fail;refine KI.ae.mono ?_;rintro e w1 ⟨rfl,rfl⟩;go_wp2_with fail;refine wp_loop_rounds 3 ?_;rw[rounds_succ];go_wp2_with fail;go_ret;exact⟨1,Nat.le_refl _,rfl,hB⟩
 ·have ha':a=0:=by simpa using ha
  have e0:iM a b=0:=by simp[iM,ha']
  rw[e0] at ki;have KI:=aa ki;clear ki e0 ha' hab;cases hb:(b==0)
  ·rw[hb] at k2;have K1:=aa k2;clear k2;have hs:=h.aT 0 (ag b);have bU:=rZ (w.setCell ⟨g,0,none⟩ (ag b)) g 1 1 (c - 1) _ hs Tq Va;have hB:=fQ g (Nat.le_refl g) (List.replicate 1 (ag 0)) 1 _ ((Below.refl g w).setCell (p:=⟨g,0,none⟩) (Nat.le_refl g) (ag b));generalize (w.setCell ⟨g,0,none⟩ (ag b)).setCells g 1 (List.replicate 1 (ag 0))=W at*;go_enter Tryz.func71,Tryz.ntmps71;go_wp2_with fail;refine KI.ae.mono ?_;rintro e w1 ⟨rfl,rfl⟩;open zem in exact Zcq
  ·rw[hb] at k2;have K1:=aa k2;clear k2;have bU:=rZ w g 0 2 c cs h Tq Tq;have hB:=fQ g (Nat.le_refl g) (List.replicate 2 (ag 0)) 0 w (Below.refl g w);generalize w.setCells g 0 (List.replicate 2 (ag 0))=W at*;go_enter Tryz.func71,Tryz.ntmps71;go_wp2_with fail;refine KI.ae.mono ?_;rintro e w1 ⟨rfl,rfl⟩;open zen in exact Zcq
theorem KD (g c:Nat)(a b:Int)(w:World)(c0:w.cell? ⟨g,0,none⟩=some (ag a))(c1:w.cell? ⟨g,1,none⟩=some (ag b))(ha:a≠0)(hb:b≠0):
  ar 71 #[aI g 2 c,.func (.func 73) #[] #[]] w λ e w'=>e=.returned (aI g 2 c)/\w=w':=by
 have ki:=tK g c a b w c0 c1;have e0:iM a b= -1:=by simp[iM,ha,hb]
 rw[e0] at ki;have KI:=aa ki;clear ki e0;go_enter Tryz.func71,Tryz.ntmps71;go_wp2_with fail;refine KI.ae.mono ?_;exact ZhA
theorem Ek (g c n:Nat)(hn:n<=1)(w:World):ar 74 #[aI g n c] w λ e w'=>e=.returned (aI g n c)/\w=w':=by
 have d1:decide ((n:Int)< 2)=true:=by simp;omega
 go_enter Tryz.func74,Tryz.ntmps74;exact Zc6
theorem zdP.KaK(h:p:=by clear fF y2 cV cQ;go_wp2_with fail;rw[rounds_succ];go_wp2_with fail;go_ret;exact⟨rfl,hL.mono (Nat.le_of_lt h.lt)⟩):p:=h
theorem zdQ.KaK(h:p:=by clear fF y2 cV cQ;have h2:=h.later hL;have bU:=rZ w3 g 1 1 (c - 1) cs h2 Tq Tq;have hB:=fQ g (Nat.le_refl g) (List.replicate 1 (ag 0)) 1 w3 (hL.mono (Nat.le_of_lt h.lt));generalize w3.setCells g 1 (List.replicate 1 (ag 0))=W3 at*;go_wp2_with fail;refine wp_loop_rounds 3 ?_;rw[rounds_succ];go_wp2_with fail;go_ret;exact⟨rfl,hB⟩):p:=h
theorem KE (g c:Nat)(a b:Int)(cs:Array Value)(w:World)(h:aB w g 5 cs)(hsz:2<=cs.size)(h0:cs[0]?=some (ag a))(h1:cs[1]?=some (ag b))(hc:2<=c):
  ar 74 #[aI g 2 c] w λ e w'=>e=.returned (aI g (if a=b then 1 else 2) c)/\Below g w w':=by
 have cV:=λ y:Ext w.heap.size w=>((h.later y.h).cell 0).trans h0
 have cQ:=λ y:Ext w.heap.size w=>((h.later y.h).cell 1).trans h1
 cases hab:(b==a)
 ·have Ot:¬a=b:=λ e=>by simp[e] at hab
  rw[if_neg Ot];clear Ot;go_enter Tryz.func74,Tryz.ntmps74;go_wp2_with fail;refine wp_loop_rounds 3 ?_;rw[rounds_succ];go_wp2_with fail;refine aM 10 w.heap.size w (Below.refl _ _) T8 T8 T8 T8 ?_;open zdP in exact Zb1
 ·have Ot:a=b:=by have:=hab;simp at this;exact this.symm
  rw[if_pos Ot];clear Ot;go_enter Tryz.func74,Tryz.ntmps74;go_wp2_with fail;refine wp_loop_rounds 3 ?_;rw[rounds_succ];go_wp2_with fail;refine aM 10 w.heap.size w (Below.refl _ _) T8 T8 T8 T8 ?_;open zdQ in exact Zb1
theorem oI:(Tryz.prog.info? 5).map (λ i=>(i.zero,i.size,i.bytes))=some (some (ag 0),1,1):=by exact Zgu
def Ue (a b:Int)(w:World)(e:Ending)(w':World):Prop:=∃g c cs,e=.returned (aI g 2 c)/\w.heap.size<=g/\aB w' g 5 cs/\cs[0]?=some (ag a)/\cs[1]?=some (ag b)/\2<=cs.size/\2<=c/\aj w w'
theorem Uf (p off c:Nat)(a b:Int)(w:World)(hp:p < w.heap.size)(h0:w.cell? ⟨p,off,none⟩=some (ag a))(h1:w.cell? ⟨p,off+1,none⟩=some (ag b)):
  ar 72 #[.slice (some ⟨p,off,none⟩) 2 c] w (Ue a b w):=by
 obtain⟨i0,kX,hz0,hz1,hz2⟩:=info_parts oI;have hB:=ah w (.cells #[] 5);have hown:(w.alloc (.cells #[] 5)).ownsRow w.heap.size 5 1 (aI w.heap.size 0 0) 0 []:=⟨by simp,.inr ⟨w.heap.size,0,#[],rfl,Nat.le_refl _,heap_alloc_new w _,Nat.le_refl _,by unfold maxLen;omega,rfl,rfl⟩⟩
 have mB:Reads (w.alloc (.cells #[] 5)) w.heap.size 1 (some ⟨p,off,none⟩) 2 [ag a,ag b]:=by
  refine⟨rfl,λ _=>⟨_,rfl,hp,λ j u hu=>?_⟩⟩
  match j,hu with
  | 0,hu=>simp at hu;subst hu;exact(hB.cell (p:=⟨p,off,none⟩) hp).trans h0
  | 1,hu=>simp at hu;subst hu;exact(hB.cell (p:=⟨p,off+1,none⟩) hp).trans h1
  |(n+2),hu=>simp at hu
 have HW:=aa hown;have HR:=aa mB;clear hown mB;have hnil:(binOp .eql 97 (.slice (some ⟨p,off,none⟩) 2 c) (az)).run Tryz.prog w=.ok (.bool false) w:=Go.Lib.run_eql_slice_nil w 97 5 (some ⟨p,off,none⟩) 2 c 0 0 Tryz.underlying97;go_enter Tryz.func72,Tryz.ntmps72;go_wp2_with (first
  |(at_builtin
    refine cN _ rfl (.tmp 5) (.tmp 6) 97 rfl w.heap.size 5 i0 (ag 0) 1 1 Tryz.underlying97 kX hz0 hz1 hz2 rfl Tq (aI w.heap.size 0 0) 0 [] rfl HW.ae w.heap.size (some ⟨p,off,none⟩) 2 c [ag a,ag b] rfl HR.ae (by simp[Value.oneCell']) Taj Tq Vb ?_
    intro v2 w2 o2 g2 _
    have O2:=aa o2
    have G2:=aa g2
    clear o2 g2 HW HR))
 go_ret;rcases O2.ae.2 with ⟨_,hz⟩|⟨g,cap,cur,rfl,hb,hg,hn,hm,hs,ht⟩
 ·omega
 ·refine⟨g,cap,cur,rfl,hb,hg,?_,?_,by omega,hn,?_⟩
  ·have:=congrArg (λ l=>l[0]?) ht;simp at this;exact ZeZ
  ·have:=congrArg (λ l=>l[1]?) ht;simp at this;exact ZeZ
  ·refine hB.trans ⟨G2.ae.os,G2.ae.tape,G2.ae.output,G2.ae.size,λ k hk=>G2.ae.block k Va λ e=>?_⟩;simp[Value.ownBlock] at e;omega
def bZ (a b:Int):Bool:=a==0 || b==0 || a==b
theorem qL (p off c:Nat)(a b:Int)(w:World)(hp:p < w.heap.size)(h0:w.cell? ⟨p,off,none⟩=some (ag a))(h1:w.cell? ⟨p,off+1,none⟩=some (ag b)):
  ar 41 #[.slice (some ⟨p,off,none⟩) 2 c] w λ e w'=>e=.returned (.bool (bZ a b))/\aj w w':=by
 go_enter Tryz.func41,Tryz.ntmps41;go_wp2_with fail;refine(Uf p off c a b _ hp h0 h1).mono ?_;rintro e w1 ⟨g,c1,cs,rfl,hg,hb,e0,e1,hs,hc1,b1⟩;clear h0 h1;by_cases hz:a=0\/b=0
 ·go_wp2_with fail;refine(Oq g c1 a b cs _ hb hs e0 e1 hc1 hz).mono ?_;rintro e w2 ⟨n,hn,rfl,b2⟩;go_wp2_with fail;refine(Ek g c1 n hn _).mono ?_;rintro e w3 ⟨rfl,rfl⟩;have d1:decide ((n:Int)<=1)=true:=by simp;omega
  have HG:=aa (show bZ a b=true by rcases hz with rfl | rfl <;> simp[bZ]);clear hz;go_wp2_with fail;go_ret;exact⟨by rw[HG.ae];rfl,b1.trans (b2.mono hg)⟩
 ·have ha:a≠0:=λ e=>hz (.inl e)
  have hb0:b≠0:=λ e=>hz (.inr e)
  have c0':=(hb.cell 0).trans e0;have c1':=(hb.cell 1).trans e1;go_wp2_with fail;refine(KD g c1 a b _ c0' c1' ha hb0).mono ?_;rintro e w2 ⟨rfl,rfl⟩;clear c0' c1';go_wp2_with fail;refine(KE g c1 a b cs _ hb hs e0 e1 hc1).mono ?_;rintro e w3 ⟨rfl,b3⟩;have HG:=aa (show bZ a b=decide (a=b) by rw[Bool.eq_iff_iff];simp[bZ,ha,hb0]);by_cases hab:a=b
  ·have HA:=aa hab;rw[if_pos hab];clear hab;go_wp2_with fail;go_ret;exact⟨by rw[HG.ae,decide_eq_true HA.ae];rfl,b1.trans (b3.mono hg)⟩
  ·have HA:=aa hab;rw[if_neg hab];clear hab;go_wp2_with fail;go_ret;exact⟨by rw[HG.ae,decide_eq_false HA.ae];rfl,b1.trans (b3.mono hg)⟩
theorem zgi.KbD(h:p:=by go_wp2_with fail;rw[rounds_succ];go_wp2_with fail;go_ret;exact⟨by rw[hg1];rfl,hB⟩):p:=h
theorem zfr.Kbj(h:p:=by clear x1 x3 c0 gN bN b2 hW2;open zgi in exact Zep):p:=h
theorem Fg (a wa gi:Int)(nu:Bool)(d:Value)(hd:d.oneCell'=true)(p off c:Nat)(k:Int)(w:World)(hp:p < w.heap.size)(h0:w.cell? ⟨p,off,none⟩=some (ag k)):
  ar 45 #[.agg #[af a,ag wa,ag gi,.bool false,.bool nu,d],.slice (some ⟨p,off,none⟩) 1 c] w λ e w'=>e=.returned (.bool (bZ k wa))/\aj w w':=by have hB:=ah w (.cells #[af a,ag wa,ag gi,.bool false,.bool nu,d] 100);have hO:=aB.new w 100 #[af a,ag wa,ag gi,.bool false,.bool nu,d];have x1:=hO.cell 1;have x3:=hO.cell 3;simp only[Uaa] at x1 x3;have c0:=(hB.cell (p:=⟨p,off,none⟩) hp).trans h0;go_enter Tryz.func45,Tryz.ntmps45;go_wp2_with fail;generalize w.alloc (.cells #[af a,ag wa,ag gi,.bool false,.bool nu,d] 100)=W at*;refine wp_loop_rounds 2 ?_;open zfr in exact Zdz
theorem zgj.KbD(h:p:=by
 have c1:=(hB.cell (p:=⟨p,off+1,none⟩) hp).trans h1;go_wp2_with fail;rw[rounds_succ];go_wp2_with fail;have gN:=aB.new W2 5 #[ag j,ag wa];have bN:=ah W2 (.cells #[ag j,ag wa] 5);refine(qL W2.heap.size 0 2 j wa _ Vb (gN.cell 0) (gN.cell 1)).mono ?_;rintro e W3 ⟨rfl,b2⟩;have hW3:=ai.then bN b2;replace hB:=ai.then hB hW3;replace hO:=hO.later hW3;clear x1 x3 c0 c1 gN bN b2 hW3;cases hg2:bZ j wa
 ·go_wp2_with fail;go_ret;exact⟨by rw[hg1,hg2];rfl,hB⟩
 have x1:=hO.cell 1;have x3:=hO.cell 3;simp only[Uaa] at x1 x3;have c0:=(hB.cell (p:=⟨p,off,none⟩) hp).trans h0;have c1:=(hB.cell (p:=⟨p,off+1,none⟩) hp).trans h1;go_wp2_with fail;rw[rounds_succ];cases al
 ·go_wp2_with fail;go_ret;exact⟨by rw[hg1,hg2];rfl,hB⟩
 ·go_wp2_with fail;refine(qL p off c k j _ (Nat.lt_of_lt_of_le hp hB.size) c0 c1).mono ?_;rintro e w9 ⟨rfl,b9⟩;go_wp2_with fail;go_ret;exact⟨by rw[hg1,hg2];rfl,ai.then hB b9⟩):p:=h
theorem zfs.Kbj(h:p:=by clear x1 x3 c0 c1 gN bN b2 hW2;open zgj in exact Zep):p:=h
theorem Fh (a wa gi:Int)(al nu:Bool)(d:Value)(hd:d.oneCell'=true)(p off c:Nat)(k j:Int)(w:World)(hp:p < w.heap.size)(h0:w.cell? ⟨p,off,none⟩=some (ag k))(h1:w.cell? ⟨p,off+1,none⟩=some (ag j)):
  ar 45 #[.agg #[af a,ag wa,ag gi,.bool al,.bool nu,d],.slice (some ⟨p,off,none⟩) 2 c] w λ e w'=>e=.returned (.bool (bZ k wa &&(bZ j wa &&(!al || bZ k j))))/\aj w w':=by have hB:=ah w (.cells #[af a,ag wa,ag gi,.bool al,.bool nu,d] 100);have hO:=aB.new w 100 #[af a,ag wa,ag gi,.bool al,.bool nu,d];have x1:=hO.cell 1;have x3:=hO.cell 3;simp only[Uaa] at x1 x3;have c0:=(hB.cell (p:=⟨p,off,none⟩) hp).trans h0;have c1:=(hB.cell (p:=⟨p,off+1,none⟩) hp).trans h1;go_enter Tryz.func45,Tryz.ntmps45;go_wp2_with fail;generalize w.alloc (.cells #[af a,ag wa,ag gi,.bool al,.bool nu,d] 100)=W at*;refine wp_loop_rounds 3 ?_;open zfs in exact Zdz
theorem Em (p off c:Nat)(k:Int)(w:World)(h0:w.cell? ⟨p,off,none⟩=some (ag k)):
  ar 80 #[.slice (some ⟨p,off,none⟩) 1 c,ag 0] w λ e w'=>e=.returned (af (if k=0 then 0 else -1))/\w=w':=by
 by_cases hk:k=0
 ·subst hk;go_enter Tryz.func80,Tryz.ntmps80;go_wp2_with fail;refine wp_loop_rounds 2 ?_;rw[rounds_succ];exact Zc6
 ·have hk2:((0:Int)==k)=false:=by rw[beq_eq_false_iff_ne];omega
  rw[if_neg hk];clear hk;go_enter Tryz.func80,Tryz.ntmps80;go_wp2_with fail;refine wp_loop_rounds 2 ?_;rw[rounds_succ];exact Zfw
theorem En (p off c:Nat)(k j:Int)(w:World)(h0:w.cell? ⟨p,off,none⟩=some (ag k))(h1:w.cell? ⟨p,off+1,none⟩=some (ag j)):
  ar 80 #[.slice (some ⟨p,off,none⟩) 2 c,ag 0] w λ e w'=>e=.returned (af (if k=0 then 0 else if j=0 then 1 else -1))/\w=w':=by
 by_cases hk:k=0
 ·subst hk;go_enter Tryz.func80,Tryz.ntmps80;go_wp2_with fail;refine wp_loop_rounds 3 ?_;rw[rounds_succ];exact Zc6
 ·have hk2:((0:Int)==k)=false:=by rw[beq_eq_false_iff_ne];omega
  rw[if_neg hk];clear hk;by_cases hj:j=0
  ·subst hj;go_enter Tryz.func80,Tryz.ntmps80;go_wp2_with fail;refine wp_loop_rounds 3 ?_;rw[rounds_succ];exact Zfw
  ·have hj2:((0:Int)==j)=false:=by rw[beq_eq_false_iff_ne];omega
   rw[if_neg hj];clear hj;go_enter Tryz.func80,Tryz.ntmps80;go_wp2_with fail;refine wp_loop_rounds 3 ?_;rw[rounds_succ];go_wp2_with fail;rw[rounds_succ];exact Zfw
theorem KF (p off c:Nat)(k:Int)(w:World)(h0:w.cell? ⟨p,off,none⟩=some (ag k)):
  ar 46 #[.slice (some ⟨p,off,none⟩) 1 c,ag 0] w λ e w'=>e=.returned (.bool (k==0))/\w=w':=by
 have K:=aa (Em p off c k w h0);go_enter Tryz.func46,Tryz.ntmps46;go_wp2_with fail;refine K.ae.mono ?_;rintro e w1 ⟨rfl,rfl⟩;by_cases hk:k=0
 ·subst hk;exact Zc6
 ·have hk2:(k==0)=false:=by simpa using hk
  rw[if_neg hk];go_wp2_with fail;go_ret;exact⟨by rw[hk2];rfl,rfl⟩
theorem KH (p off c:Nat)(k j:Int)(w:World)(h0:w.cell? ⟨p,off,none⟩=some (ag k))(h1:w.cell? ⟨p,off+1,none⟩=some (ag j)):
  ar 46 #[.slice (some ⟨p,off,none⟩) 2 c,ag 0] w λ e w'=>e=.returned (.bool (k==0 || j==0))/\w=w':=by
 have K:=aa (En p off c k j w h0 h1);go_enter Tryz.func46,Tryz.ntmps46;go_wp2_with fail;refine K.ae.mono ?_;rintro e w1 ⟨rfl,rfl⟩;by_cases hk:k=0
 ·subst hk;exact Zc6
 ·have hk2:(k==0)=false:=by simpa using hk
  rw[if_neg hk];by_cases hj:j=0
  ·subst hj;go_wp2_with fail;go_ret;exact⟨by rw[hk2];rfl,rfl⟩
  ·have hj2:(j==0)=false:=by simpa using hj
   rw[if_neg hj];go_wp2_with fail;go_ret;exact⟨by rw[hk2,hj2];rfl,rfl⟩
def Hu (k:Nat)(wd:Int)(l:List Val):Val×Int:=
 match k,l with
 | 3,[a]=>Yj a.n
 | 4,[a]=>(bE (a.n==0),0)
 | 5,[a,b]=>zz a.n b.n
 | 6,[a,b]=>zA a.n b.n
 | 7,[a,b]=>zB a.n b.n
 | 8,[a,b]=>zC a.n b.n
 | 9,[a,b]=>zD a.n b.n
 | 10,[a,b]=>(bE (decide (bI a b=0)),0)
 | 11,[a,b]=>(bE (!decide (bI a b=0)),0)
 | 12,[a,b]=>(bE (decide (bI a b < 0)),0)
 | 13,[a,b]=>(bE (decide (bI a b<=0)),0)
 | 14,[a,b]=>(bE (decide (0 < bI a b)),0)
 | 15,[a,b]=>(bE (decide (0<=bI a b)),0)
 | 16,l=>(lS false l,0)
 | 17,l=>(lS true l,0)
 | 18,[a]=>(bE ((a.k==0)==true),0)
 | 19,[a]=>(bE ((a.k==0)==false),0)
 | 20,[a]=>vy a.n wd
 | _,_=>(aN,0)
def asw (w:World)(d:Value)(x:Ex)(l:List Val)(r:Val×Int):Prop:=∃f KJ,d=.func (.func f) #[] KJ/\(KJ= #[]\/∃p,KJ= #[p])/\(∀(args:Array Value) (w:World),(callFunc f args).run Tryz.prog w=.ok (.enter f args) w)/\
 ∀(W:World) (A:Option Addr) (c:Nat),aj w W->RV W W.heap.size A l->ar f (#[.agg (ay x),.slice A l.length c]++KJ) W λ e w'=>e=.returned (bQ r.1 r.2)/\aj W w'
theorem Yq (args:Array Value)(w:World):(callFunc 108 args).run Tryz.prog w=.ok (.enter 108 args) w:=by exact Zgu
theorem Yr (args:Array Value)(w:World):(callFunc 110 args).run Tryz.prog w=.ok (.enter 110 args) w:=by exact Zgu
theorem Ys (args:Array Value)(w:World):(callFunc 128 args).run Tryz.prog w=.ok (.enter 128 args) w:=by exact Zgu
theorem qM (args:Array Value)(w:World):(callFunc 167 args).run Tryz.prog w=.ok (.enter 167 args) w:=by exact Zgu
theorem nR (args:Array Value)(w:World):(callFunc 169 args).run Tryz.prog w=.ok (.enter 169 args) w:=by exact Zgu
theorem KL (args:Array Value)(w:World):(callFunc 170 args).run Tryz.prog w=.ok (.enter 170 args) w:=by exact Zgu
theorem KM (args:Array Value)(w:World):(callFunc 172 args).run Tryz.prog w=.ok (.enter 172 args) w:=by exact Zgu
variable{k:Nat}{a wa gi:Int}{al nu:Bool}{d:Value}
theorem zaA.Kaa(h:p:=by obtain⟨u,rfl⟩:=one Tq;exact⟨_,#[],rfl,.inl rfl,Yq,λ W A c hb hr=>abj x A c u W hr⟩):p:=h
theorem zaB.Kaa(h:p:=by obtain⟨u,rfl⟩:=one Tq;exact⟨_,#[],rfl,.inl rfl,Yr,λ W A c hb hr=>abk x A c u W hr⟩):p:=h
theorem zaC.Kaa(h:p:=by obtain⟨u,v,rfl⟩:=two Tq;exact⟨_,#[_],rfl,.inr ⟨_,rfl⟩,qM,λ W A c hb hr=>agJ x A c q u v W hr (hq.later hb)⟩):p:=h
theorem zaD.Kaa(h:p:=by obtain⟨u,v,rfl⟩:=two Tq;exact⟨_,#[_],rfl,.inr ⟨_,rfl⟩,qM,λ W A c hb hr=>agK x A c q u v W hr (hq.later hb)⟩):p:=h
theorem zaE.Kaa(h:p:=by obtain⟨u,v,rfl⟩:=two Tq;exact⟨_,#[_],rfl,.inr ⟨_,rfl⟩,qM,λ W A c hb hr=>Yl x A c q u v W hr (hq.later hb)⟩):p:=h
theorem zaF.Kaa(h:p:=by obtain⟨u,v,rfl⟩:=two Tq;exact⟨_,#[_],rfl,.inr ⟨_,rfl⟩,qM,λ W A c hb hr=>agL x A c q u v q2 W hr (hq.later hb) (lq.later hb)⟩):p:=h
theorem zaG.Kaa(h:p:=by obtain⟨u,v,rfl⟩:=two Tq;exact⟨_,#[_],rfl,.inr ⟨_,rfl⟩,qM,λ W A c hb hr=>agM x A c q u v q2 W hr (hq.later hb) (lq.later hb)⟩):p:=h
theorem zaH.Kaa(h:p:=by obtain⟨u,v,rfl⟩:=two Tq;exact⟨_,#[_],rfl,.inr ⟨_,rfl⟩,nR,λ W A c hb hr=>akY x A c q u v W hr (hq.later hb)⟩):p:=h
theorem zaI.Kaa(h:p:=by obtain⟨u,v,rfl⟩:=two Tq;exact⟨_,#[_],rfl,.inr ⟨_,rfl⟩,nR,λ W A c hb hr=>akZ x A c q u v W hr (hq.later hb)⟩):p:=h
theorem zaJ.Kaa(h:p:=by obtain⟨u,v,rfl⟩:=two Tq;exact⟨_,#[_],rfl,.inr ⟨_,rfl⟩,nR,λ W A c hb hr=>ala x A c q u v W hr (hq.later hb)⟩):p:=h
theorem zaK.Kaa(h:p:=by obtain⟨u,v,rfl⟩:=two Tq;exact⟨_,#[_],rfl,.inr ⟨_,rfl⟩,nR,λ W A c hb hr=>alb x A c q u v W hr (hq.later hb)⟩):p:=h
theorem zaL.Kaa(h:p:=by obtain⟨u,v,rfl⟩:=two Tq;exact⟨_,#[_],rfl,.inr ⟨_,rfl⟩,nR,λ W A c hb hr=>alc x A c q u v W hr (hq.later hb)⟩):p:=h
theorem zaM.Kaa(h:p:=by obtain⟨u,v,rfl⟩:=two Tq;exact⟨_,#[_],rfl,.inr ⟨_,rfl⟩,nR,λ W A c hb hr=>ald x A c q u v W hr (hq.later hb)⟩):p:=h
theorem zaN.Kaa(h:p:=by exact ZeA):p:=h
theorem zaO.Kaa(h:p:=by exact ZeA):p:=h
theorem zaP.Kaa(h:p:=by exact Ze2):p:=h
theorem zaQ.Kaa(h:p:=by exact Ze2):p:=h
theorem zaR.Kaa(h:p:=by obtain⟨u,rfl⟩:=one Tq;exact⟨_,#[],rfl,.inl rfl,Ys,λ W A c hb hr=>TZ x A c u W hr (hwd rfl).1 (hwd rfl).2 (aZ u Vb)⟩):p:=h
theorem gw.does(h:gw w k (.agg (cJ a wa gi al nu d)))(x:Ex)(l:List Val)(hl:(l.length:Int)=a)(aZ:∀v∈l,v.Ok)(hwd:k=20->1<=x.width/\x.width<=1099511627776):asw w d x l (Hu k x.width l):=by
 have two:a=2->∃u v,l=[u,v]:=λ e=>by
  match l,hl with
  | [u,v],_=>exact⟨u,v,rfl⟩
  | [],h=>simp at h;omega
  | [u],h=>simp at h;omega
  | u::v::z::r,h=>simp at h;omega
 have one:a=1->∃u,l=[u]:=λ e=>by
  match l,hl with
  | [u],_=>exact⟨u,rfl⟩
  | [],h=>simp at h;omega
  | u::v::r,h=>simp at h;omega
 unfold gw at h;split at h
 ·open zaA in exact Zaq
 ·open zaB in exact Zaq
 ·obtain⟨q,h,hq⟩:=h;open zaC in exact Zaq
 ·obtain⟨q,h,hq⟩:=h;open zaD in exact Zaq
 ·obtain⟨q,h,hq⟩:=h;open zaE in exact Zaq
 ·obtain⟨q,q2,h,hq,lq⟩:=h;open zaF in exact Zaq
 ·obtain⟨q,q2,h,hq,lq⟩:=h;open zaG in exact Zaq
 ·obtain⟨q,h,hq⟩:=h;open zaH in exact Zaq
 ·obtain⟨q,h,hq⟩:=h;open zaI in exact Zaq
 ·obtain⟨q,h,hq⟩:=h;open zaJ in exact Zaq
 ·obtain⟨q,h,hq⟩:=h;open zaK in exact Zaq
 ·obtain⟨q,h,hq⟩:=h;open zaL in exact Zaq
 ·obtain⟨q,h,hq⟩:=h;open zaM in exact Zaq
 ·obtain⟨q,h,hq⟩:=h;open zaN in exact Zaq
 ·obtain⟨q,h,hq⟩:=h;open zaO in exact Zaq
 ·obtain⟨q,h,hq⟩:=h;open zaP in exact Zaq
 ·obtain⟨q,h,hq⟩:=h;open zaQ in exact Zaq
 ·open zaR in exact Zaq
 ·exact h.elim
section
variable {α:Type} {f:α->List Value} {e:TypeId} {size:Nat} {base:Nat} {lv:Value} {l:List α} {y:α}
structure AR (f:α->List Value) (e:TypeId) (size base:Nat) (lv:Value) (l:List α) (y:α) (a b:World):Prop where
 grown:a.grownBy b lv.ownBlock
 old:aH f e size a base lv l->aH f e size b base lv l
 new:∀u,aH f e size a base u (l++ [y])->aH f e size b base u (l++ [y])
theorem AR.refl (w:World):AR f e size base lv l y w w:=⟨⟨rfl,rfl,rfl,Nat.le_refl _,λ _ _ _=>rfl⟩,id,λ _=>id⟩
theorem AR.trans {a b c:World}(h:AR f e size base lv l y a b)(k:AR f e size base lv l y b c):AR f e size base lv l y a c:=
 ⟨h.grown.trans k.grown,λ o=>k.old (h.old o),λ u o=>k.new u (h.new u o)⟩
theorem AR.later {a b:World}(h:aj a b):AR f e size base lv l y a b:=
 ⟨⟨h.os,h.tape,h.output,h.size,λ k hk _=>h.block k hk⟩,λ o=>o.later h,λ u o=>o.later h⟩
theorem AR.drew (w:World):AR f e size base lv l y w w.drew:=AR.later (ai.drew w)
theorem eZ {P:Program} {w:World}(t ty:TypeId)(z:Value)(bytes:Nat)(ht:P.underlying t=some (.slice e))(jr:(P.info? e).map (λ i=>(i.zero,i.size,i.bytes))=some (some z,size,bytes))(hzs:z.cells.size=size)(hsz:0 < size)
  (hf:∀x,(f x).length=size) (h1:∀u∈f y,u.oneCell'=true) (hown:aH f e size w base lv l)
  (g0:Nat) (hg0:aB w g0 e (f y).toArray) (hlen:(l.length+1)*bytes<=140737488355328) (mI:l.length+1<=140737488355328) (hbase:base<=w.heap.size):
  ∃v' w',(Builtin.append_ #[t,t] ty #[lv,aI g0 1 1]).run P w=.ok v' w'/\aH f e size w' base v' (l++ [y])/\AR f e size base lv l y w w':=by
 obtain⟨i0,kX,hz0,hz1,hz2⟩:=info_parts jr
 have hnews:∀j u,(f y)[j]?=some u->w.cell? ((⟨g0,0,none⟩:Addr).add j)=some u:=by
  intro j u hu;have:(Addr.add ⟨g0,0,none⟩ j)=⟨g0,j,none⟩:=by unfold Addr.add;split <;> simp_all
  rw[this,hg0.cell];simpa using hu
 have fq:(f y).length=1*size:=by rw[hf];omega
 have conv:∀ {w':World} {v':Value},w'.ownsRow base e size v' (l.length+1) (l.flatMap f++f y)->aH f e size w' base v' (l++ [y]):=λ h=>by unfold aH;rw[length_append,flatMap_append];simpa using h
 by_cases hroom:∃g cap,lv=aI g l.length cap/\l.length+1<=cap
 ·obtain⟨g,cap,rfl,hr⟩:=hroom;obtain⟨w',hrun,ho,hg⟩:=run_append_fits (P:=P) w base t ty e i0 size ht kX hz1 g l.length cap (l.flatMap f) hown ⟨g0,0,none⟩ 1 1 (f y) fq hnews h1 hr;refine⟨_,w',hrun,conv ho,hg,λ _=>?_,λ u hu=>?_⟩
  ·rcases ho.2 with ⟨h,_⟩|⟨g',cap',cur,h,hbg,dZ,hn,hm,hs,ht'⟩
   ·cases h
   ·injection h with vC Bd h3';injection vC with vC;injection vC with vC _ _;subst vC h3';refine⟨hown.1,.inr ⟨g,cap,cur,rfl,hbg,dZ,by omega,hm,hs,?_⟩⟩;have hx:=congrArg (List.take (l.length*size)) ht';rw[take_take,Nat.min_eq_left (Nat.mul_le_mul_right _ Tq),take_append_of_le_length (Nat.le_of_eq hown.1.symm)] at hx;rw[hx];exact take_of_length_le (Nat.le_of_eq hown.1)
  ·by_cases hb:u.ownBlock=some g
   ·rcases hu.2 with ⟨rfl,_⟩|⟨g',cap',cur,rfl,hbg,dZ,hn,hm,hs,ht'⟩
    ·simp[Value.ownBlock] at hb
    ·simp only[Value.ownBlock,Option.some.injEq] at hb;subst hb;rcases hown.2 with ⟨h,_⟩|⟨g2,Yt,azT,h,_,Ug,_,_,hs2,_⟩
     ·cases h
     ·injection h with vC Bd h3';injection vC with vC;injection vC with vC _ _;subst vC h3';rw[dZ] at Ug;injection Ug with Ug;injection Ug with Ug _ _;subst Ug;have asx:cap'=cap:=Nat.eq_of_mul_eq_mul_right hsz (hs.symm.trans hs2);subst asx;have:=conv ho;rw[length_append];exact this
   ·exact hu.keep λ q hq=>hg.block q (hu.lt hq).1 λ e=>hb (by rw[hq];exact e)
 ·obtain⟨v',w',hrun,ho,hg,_,hat⟩:=run_append_own_at (P:=P) w base t ty e i0 z size bytes ht kX hz0 hz1 hz2 hzs hsz lv l.length (l.flatMap f) hown ⟨g0,0,none⟩ 1 1 (f y) fq hnews h1 Taj hlen hbase
  have asy:aj w w':=by
   rcases hown.2 with ⟨rfl,h0⟩|⟨g,cap,cur,rfl,hbg,dZ,hn,hm,hs,lT⟩
   ·have hr:=run_append_nil (P:=P) w t ty e i0 z ht kX hz0 ⟨g0,0,none⟩ 1 1 (f y) (by rw[hz1];exact fq) hnews Tq Tq (by rw[hz2];have:1*bytes<=(l.length+1)*bytes:=Nat.mul_le_mul_right _ Tq;omega);exact Zf9
   ·have hno:¬l.length+1<=cap:=λ h=>hroom ⟨g,cap,rfl,h⟩
    have holds:∀j u,(l.flatMap f)[j]?=some u->w.cell? ((⟨g,0,none⟩:Addr).add j)=some u:=World.ownsRow.cells hown (g:=g) rfl;have hr:=run_append_grow (P:=P) w t ty e i0 z ht kX hz0 ⟨g,0,none⟩ l.length cap (l.flatMap f) (by rw[hz1];exact hown.1) holds ⟨g0,0,none⟩ 1 1 (f y) (by rw[hz1];exact fq) hnews Tq Tq (by rw[hz2];exact growslice_fits Tq hlen);exact Zf9
  exact⟨v',w',hrun,conv ho,AR.later asy⟩
end
def aV (v:Val):List Value:=[ag v.k,af v.n,.string v.s]
def dQ (k:Int):List Value:=[ag k]
theorem lU:(Tryz.prog.info? 44).map (λ i=>(i.zero,i.size,i.bytes))=some (some (.agg #[ag 0,af 0,au]),3,32):=by exact Zgu
theorem dC (b off n:Nat):Addr.add ⟨b,off,none⟩ n=⟨b,off+n,none⟩:=by
 unfold Addr.add;split
 ·rename_i h;subst h;rfl
 ·rfl
variable{α:Type}{f:α->List Value}{size:Nat}
theorem Hv(hf:∀x,(f x).length=size):∀(l:List α) (i j:Nat) (x:α),l[i]?=some x->j < size->(l.flatMap f)[i*size+j]?=(f x)[j]?
 | [],i,j,x,h,hj=>by simp at h
 | y::l,0,j,x,h,hj=>by simp at h;subst h;simp only[flatMap_cons,Nat.zero_mul,Nat.zero_add];rw[getElem?_append_left (by rw[hf];exact hj)]
 | y::l,i+1,j,x,h,hj=>by have:=Hv hf l i j x Tah hj;simp only[flatMap_cons];rw[getElem?_append_right (by rw[hf,Nat.succ_mul];omega),hf,<- this];congr 1;rw[Nat.succ_mul];omega
variable{e:TypeId}{base:Nat}{v:Value}{l:List α}
theorem eh(hf:∀x,(f x).length=size)    (h:aH f e size w base v l):
  ∃A c,v=.slice A l.length c/\(l=[]\/∃g,A=some ⟨g,0,none⟩/\g < w.heap.size/\∀i x j u,l[i]?=some x->j < size->(f x)[j]?=some u->w.cell? ⟨g,i*size+j,none⟩=some u):=by
 obtain⟨A,c,rfl,hr,_,hA⟩:=h.reads;refine⟨A,c,rfl,?_⟩;rcases hA with rfl |⟨g,rfl,hg⟩
 ·exact .inl rfl
 ·rcases eq_nil_or_concat l with rfl | hne
  ·exact .inl rfl
  ·have Uh:0 < l.length:=by obtain⟨_,_,rfl⟩:=hne;simp
   obtain⟨ad,e,hb,hc⟩:=hr.2 Uh;injection e with e;subst e;refine .inr ⟨g,rfl,hb,λ i x j u hx hj hu=>?_⟩;have:=hc (i*size+j) u ((Hv hf l i j x hx hj).trans hu);rw[dC] at this;exact ZeZ
theorem Hw{l:List Val}(h:aH aV 44 3 w base v l):∃A c,v=.slice A l.length c/\RV w w.heap.size A l:=by
 obtain⟨A,c,rfl,hc⟩:=eh (f:=aV) (size:=3) (λ _=>rfl) h;refine⟨A,c,rfl,?_⟩;rcases hc with hc |⟨g,rfl,hg,hc⟩
 ·exact .inl hc
 ·refine .inr ⟨g,0,rfl,hg,λ i x hx=>?_⟩;have k:=λ j u hj hu=>hc i x j u hx hj hu
  exact⟨by simpa using k 0 _ Tq rfl,by simpa using k 1 _ Tq rfl,by simpa using k 2 _ Tq rfl⟩
def tX (op:Int):Int:=if op=4\/op=16\/op=17 then 1 else if 10<=op/\op<=15\/op=18\/op=19 then 0 else 2
def tY (op:Int):Int:=if op=4\/10<=op/\op<=19 then 1 else 2
def tZ (op:Int):Bool:=decide (10<=op/\op<=15)
def Be (op:Int):Bool:=decide (16<=op/\op<=19)
theorem gw.fields(h:gw w k (.agg (cJ a wa gi al nu d))):wa=tX k/\gi=tY k/\al=tZ k/\nu=Be k:=by
 unfold gw at h;split at h
 all_goals first
  | exact h.elim
  |(simp[eR,cJ] at h;simp[tX,tY,tZ,Be];simp_all)
  |(obtain⟨q,q2,h1,_⟩:=h;simp[eR,cJ] at h1;simp[tX,tY,tZ,Be];simp_all)
  |(obtain⟨q,h1,_⟩:=h;simp[eR,cJ] at h1;simp[tX,tY,tZ,Be];simp_all)
variable{x:Ex}
theorem Bf(h:bP x=0)(h2:x.op≠2)(h1:x.op≠1):kJ x.op=true/\(x.n:Int)=qJ x.op/\(x.op=20->1<=x.width/\x.width<=1099511627776):=by
 unfold bP at h;rw[if_neg (by simp[h1,h2])] at h;split at h
 ·rename_i hc;refine⟨hc.1,hc.2.1,λ e=>?_⟩;rcases hc.2.2 with h3 | h3
  ·exact absurd e h3
  ·exact h3
 ·split at h <;> omega
variable{op:Int}{xv:Val}{width:Int}{A:Option Addr}
theorem se{name:ByteArray}     {c:Nat}(h:bP ⟨op,xv,name,width,A,l.length,c⟩=0)(h2:op=2):l=[]:=by
 subst h2;unfold bP at h;split at h
 ·rename_i hc;rcases hc with ⟨h3,_⟩|⟨_,h3⟩
  ·exact absurd h3 (show¬((2:Int)=1) by decide)
  ·exact eq_nil_of_length_eq_zero h3
 ·split at h
  ·rename_i hc;exact absurd hc.1 (show¬(kJ 2=true) by decide)
  ·split at h <;> omega
def gO (op:Int):List Int->Bool
 | [k]=>bZ k (tX op)
 | [k,j]=>bZ k (tX op)&&(bZ j (tX op)&&(!tZ op || bZ k j))
 | _=>false
def iN (op width:Int)(vs:List Val):Val×Int:=
 if gO op (vs.map (·.k))=false then(aN,40)else if Be op=false/\(vs.map (·.k)).any (· ==0)=true then(aN,0)else Hu op.toNat width vs
def pO (x:Ex)(vs:List Val):Val×Int:=
 if bP x≠0 then(aN,bP x)else if x.op=1 then(x.v,0)else iN x.op x.width vs
def evV (base:Nat)(lv kv:Value)(vs:List Val)(v:Val)(g:Nat):Nat->World->Value->Prop
 | 0=>λ _ u=>u=lv
 | 1=>λ _ u=>u=.agg (aD v)
 | 2=>λ w u=>∃q,u=aI q 1 1/\aB w q 44 (aV v).toArray/\some q≠lv.ownBlock
 | 3=>λ w u=>aH aV 44 3 w base u (vs++ [v])
 | 4=>λ _ u=>u=kv
 | 5=>λ _ u=>u=aw g
 | 6=>λ _ u=>u=ag v.k
 | 7=>λ w u=>∃q,u=aI q 1 1/\aB w q 5 (dQ v.k).toArray/\some q≠lv.ownBlock
 | _=>λ _ _=>True
theorem Fi (base:Nat)(lv kv:Value)(vs:List Val)(v:Val)(g:Nat)(i:Nat)(w w':World)(u:Value)(h:evV base lv kv vs v g i w u)(hr:AR aV 44 3 base lv vs v w w'):evV base lv kv vs v g i w' u:=by
 unfold evV at*;split at h
 ·exact h
 ·exact h
 ·exact Zhh
 ·exact hr.new _ h
 ·exact h
 ·exact h
 ·exact h
 ·exact Zhh
 ·trivial
theorem alx(h:l.length=1):∃p,l=[p]:=by
 match l,h with
 | [p],_=>exact⟨p,rfl⟩
theorem aly(h:l.length=2):∃p q,l=[p,q]:=by
 match l,h with
 | [p,q],_=>exact⟨p,q,rfl⟩
variable{β:Type}{f':β->List Value}{e':TypeId}{size' base':Nat}{u u':Value}{l':List β}{q:Nat}
theorem aH.differ(h:aH f e size w base u l)(h':aH f' e' size' w base' u' l')(ht:e≠e') (hq:u.ownBlock=some q):some q≠u'.ownBlock:=by intro hq';obtain⟨_,_,c1,h1⟩:=h.lt hq;obtain⟨_,_,c2,h2⟩:=h'.lt hq'.symm;exact Zg2
theorem aH.past(h:aH f e size w base u l)(h':aH f' e' size' w base' u' l')(hne:e≠e')(hg:w.grownBy w' u'.ownBlock):aH f e size w' base u l:=
 h.keep λ q hq=>hg.block q (h.lt hq).1 (h.differ h' hne hq)
def ck (w:World)(b off:Nat)(y:Ex):Prop:=
 w.cell? ⟨b,off,none⟩=some (ag y.op)/\w.cell? ⟨b,off+1,none⟩=some (ag y.v.k)/\w.cell? ⟨b,off+2,none⟩=some (af y.v.n)/\w.cell? ⟨b,off+3,none⟩=some (.string y.v.s)/\
 w.cell? ⟨b,off+4,none⟩=some (.string y.name)/\w.cell? ⟨b,off+5,none⟩=some (af y.width)/\w.cell? ⟨b,off+6,none⟩=some (.slice y.A y.n y.c)
variable{b off:Nat}
theorem ck.keep(h:ck w b off x)(hk:∀o,w'.cell? ⟨b,o,none⟩=w.cell? ⟨b,o,none⟩):ck w' b off x:=by unfold ck at*;simp only[hk];exact h
def RE (w:World)(B:Nat)(A:Option Addr)(l:List Ex):Prop:=
 l=[]\/∃b off,A=some ⟨b,off,none⟩/\b < B/\∀i x,l[i]?=some x->ck w b (off+i*7) x
theorem RE.below{l:List Ex}(h:RE w B A l)(hb:Below B w w'):RE w' B A l:=by exact Zcy
variable{B':Nat}
theorem RE.more{l:List Ex}(h:RE w B A l)(hB:B<=B'):RE w B' A l:=by exact ZdN
theorem RE.at_{l:List Ex}(h:RE w B A l) (hk:k < l.length):∃b off,A=some ⟨b,off,none⟩/\b < B/\ck w b (off+k*7) l[k]:=by exact Zb6
def jF (w:World)(cV rV:Value)(y:Ex)(v:Val)(e:Int):Prop:=∀W,aj w W->ar 17 #[.agg (ay y),cV,rV] W λ en w'=>en=.returned (bQ v e)/\aj W w'
theorem zb6.Kao(h:p:=by exact Zbu):p:=h
theorem zb7.Kao(h:p:=by exact Zbu):p:=h
theorem zb8.Kao(h:p:=by exact Zbt):p:=h
theorem zb9.Kao(h:p:=by exact Zbt):p:=h
theorem zew.KaX(h:p:=by
 refine(KF g9 0 c9 v1.k _ Ul).mono ?_;rintro e w4 ⟨rfl,rfl⟩;cases hz:(v1.k==0)
 ·have NX:=aa (NI.ae _ (show iN op width [v1]=Hu op.toNat width [v1] by unfold iN;simp only[map_cons,map_nil];rw[sZ.ae,hs,if_neg Vb,if_neg Tai]));open zb6 in exact ZaK
 ·exact Zcm):p:=h
theorem ze7.Kba(h:p:=by
 replace vD:=Nat.lt_of_lt_of_le vD Lw.size;clear Lw;have sZ:eY (gO op [v1.k]=bZ v1.k wa):=by have No:=HWA.ae;have Nm:=Al.ae;show gO _ _=_;simp only[gO,<- No,<- Nm]
 cases hs:bZ v1.k wa
 ·exact ZaZ
 ·cases hgi:nu
  ·open zew in exact Zcv
  ·subst hgi;have NX:=aa (NI.ae _ (show iN op width [v1]=Hu op.toNat width [v1] by unfold iN;simp only[map_cons,map_nil];rw[sZ.ae,hs,if_neg Vb,if_neg (by have:=HGI.ae;simp[<- this])]));open zb7 in exact ZaK):p:=h
theorem zes.KaW(h:p:=by have Ul:=(tL.ae.cell (p:=⟨g9,0,none⟩) kK).trans (tM 0 v1.k 0 _ rfl Tq rfl);have vD:=Nat.lt_of_lt_of_le kK tL.ae.size;clear tM tL;go_wp2_with fail;refine(Fg a wa gi nu d jY g9 0 c9 v1.k _ vD Ul).mono ?_;open ze7 in exact Zc5):p:=h
theorem zex.KaX(h:p:=by
 refine(KH g9 0 c9 v1.k v2.k _ Ul kc2).mono ?_;rintro e w4 ⟨rfl,rfl⟩;cases hz:(v1.k==0 || v2.k==0)
 ·have NX:=aa (NI.ae _ (show iN op width [v1,v2]=Hu op.toNat width [v1,v2] by unfold iN;simp only[map_cons,map_nil];rw[sZ.ae,hs,if_neg Vb,if_neg Tai]));open zb8 in exact ZaK
 ·exact Zcm):p:=h
theorem ze8.Kba(h:p:=by
 replace kc2:=(Lw.cell (p:=⟨g9,1,none⟩) vD).trans kc2;replace vD:=Nat.lt_of_lt_of_le vD Lw.size;clear Lw;have sZ:eY (gO op [v1.k,v2.k]=(bZ v1.k wa &&(bZ v2.k wa &&(!al || bZ v1.k v2.k)))):=by have No:=HWA.ae;have Nm:=Al.ae;show gO _ _=_;simp only[gO,<- No,<- Nm]
 cases hs:(bZ v1.k wa &&(bZ v2.k wa &&(!al || bZ v1.k v2.k)))
 ·exact ZaZ
 ·cases hgi:nu
  ·open zex in exact Zcv
  ·subst hgi;have NX:=aa (NI.ae _ (show iN op width [v1,v2]=Hu op.toNat width [v1,v2] by unfold iN;simp only[map_cons,map_nil];rw[sZ.ae,hs,if_neg Vb,if_neg (by have:=HGI.ae;simp[<- this])]));open zb9 in exact ZaK):p:=h
theorem zet.KaW(h:p:=by have Ul:=(tL.ae.cell (p:=⟨g9,0,none⟩) kK).trans (tM 0 v1.k 0 _ rfl Tq rfl);have kc2:=(tL.ae.cell (p:=⟨g9,1,none⟩) kK).trans (tM 1 v2.k 0 _ rfl Tq rfl);have vD:=Nat.lt_of_lt_of_le kK tL.ae.size;clear tM tL;go_wp2_with fail;refine(Fh a wa gi al nu d jY g9 0 c9 v1.k v2.k _ vD Ul kc2).mono ?_;open ze8 in exact Zc5):p:=h
theorem zha.KbV(h:p:=by
 have NI:eY (∀r,iN op width (args.map (·.2))=r->pO ⟨op,xv,name,width,A,args.length,c⟩ (args.map (·.2))=r):=λ r hr=>by unfold pO;rw[if_neg Ta3,if_neg H1.ae];exact hr
 clear hwa xp hgi Uk nt Hz agS hOp HOI HWD hwd h1 mK oK;rcases agU with ⟨hlen,rfl⟩| hlen
 ·obtain⟨⟨Ly,v1⟩,rfl⟩:=alx hlen;open zes in exact Zcu
 ·obtain⟨⟨Ly,v1⟩,⟨MY,v2⟩,rfl⟩:=aly hlen;open zet in exact Zcu):p:=h
theorem zds.KaF(h:p:=by have Uk:=hOp.args;rw[Sc] at Ia Uk;obtain⟨hwa,NO,xp,hgi⟩:=Ia;clear NO;have HWD:=aa hwd;have HD:=aa (hOp.does ⟨op,xv,name,width,A,args.length,c⟩ (args.map (·.2)) (by rw[length_map,Uk];exact nt) (λ u hu=>by obtain⟨z,hz,rfl⟩:=List.mem_map.1 hu;exact asz.ae z hz) (λ e=>HWD.ae (by rw[<- Sc,e];rfl)));have HD0:=HD;have HDB:=aa (Below.refl _ _:Below (W3.alloc (.cells #[af a,ag wa,ag gi,.bool al,.bool nu,d] 100)).heap.size (W3.alloc (.cells #[af a,ag wa,ag gi,.bool al,.bool nu,d] 100)) (W3.alloc (.cells #[af a,ag wa,ag gi,.bool al,.bool nu,d] 100)));clear HD;open zha in exact Zfe):p:=h
theorem zft.Kbk(h:p:=by
 replace k1:=k1.later b2;replace cK:=cK.later b2;replace hB:=ai.then hB b2;replace Bi:=aa ((Bi.ae.below b2).more b2.size);have hR:=aB.new W3 100 #[af a,ag wa,ag gi,.bool al,.bool nu,d];have alA:=Uj.later (ah W3 (.cells #[af a,ag wa,ag gi,.bool al,.bool nu,d] 100));have HOI:=aa alA;have tL:=aa b2;clear Uj alA KK b2 hd;generalize b3:bP ⟨op,xv,name,width,A,args.length,c⟩=fe;have mK:=aa b3;clear b3;have z0:=k1.cell 0;have z1:=k1.cell 1;have x2:=k1.cell 2;have x3:=k1.cell 3;have x4:=k1.cell 4;have x5:=k1.cell 5;have x6:=k1.cell 6;have x0:=hR.cell 0;have x1:=hR.cell 1;have z2:=hR.cell 2;have z3:=hR.cell 3;have z4:=hR.cell 4;have z5:=hR.cell 5;simp only[Uaa] at z0 z1 x2 x3 x4 x5 x6 x0 x1 z2 z3 z4 z5;have dw:=aG cK;have gV:=aB.frozen cK;by_cases hf:fe=0
 ·subst hf;by_cases h1:op=1
  ·have HQ:=aa (show pO ⟨op,xv,name,width,A,args.length,c⟩ (args.map (·.2))=(xv,0) by unfold pO;rw[if_neg Ta3,if_pos h1]);have t1:(op==1)=true:=by simpa using h1
   clear h1;exact Zed
  ·open zds in exact ZbJ
 ·have HQ:=aa (show pO ⟨op,xv,name,width,A,args.length,c⟩ (args.map (·.2))=(aN,fe) by unfold pO;rw[if_pos (by rw[mK.ae];exact hf),mK.ae]);have t1:(fe != 0)=true:=by simpa using hf
  clear hf;go_wp2_with fail;exact bodyPost_ret (v:=.tuple #[.agg #[ag 0,af 0,.string ByteArray.empty],af fe]) Tac rfl ⟨by rw[HQ.ae];rfl,((hB.setCell bJ _).setCell bJ _).setCell bJ _⟩):p:=h
theorem zbh.Kaf(h:p:=by have oK:eY (pO ⟨op,xv,name,width,A,args.length,c⟩ (args.map (·.2))=pO ⟨op,xv,name,width,A,args.length,c⟩ (args.map (·.2))):=rfl;go_wp2_with fail;refine(vB ⟨op,xv,name,width,A,args.length,c⟩ _).mono ?_;rintro e W3 ⟨oo,rfl,Uj,KK⟩;clear z0 z1 x2 x3 x4 x5 x6;open zft in exact ZdB):p:=h
theorem zgs.KbH(h:p:=by
 have NE:=aB.new (w.alloc (.cells #[ag op,ag xv.k,af xv.n,.string xv.s,.string name,af width,.slice A args.length c] 46)) 44 #[ag 0,af 0,au];rw[World.size_alloc] at NE;have Kx:=ai.then (ah w (.cells #[ag op,ag xv.k,af xv.n,.string xv.s,.string name,af width,.slice A args.length c] 46)) (ah _ (.cells #[ag 0,af 0,au] 44));clear x6;generalize (w.alloc (.cells #[ag op,ag xv.k,af xv.n,.string xv.s,.string name,af width,.slice A args.length c] 46)).alloc (.cells #[ag 0,af 0,au] 44)=W at*;have bJ:w.heap.size<=w.heap.size+1:=by omega
 generalize w.heap.size+1=g at*;go_loopw [8,9,20] (λ lv kv i wr=>∃k:Nat,k<=args.length/\i=af k/\aH aV 44 3 wr W.heap.size lv ((args.take k).map (·.2))/\aH dQ 5 1 wr W.heap.size kv ((args.take k).map (·.2.k))/\aj W wr) (λ _ _ i _=>args.length - (intOf i).toNat);case atStart=>exact⟨0,Nat.zero_le _,rfl,aH.nil,aH.nil,Below.refl _ _⟩
 case round=>
  obtain⟨k,hk,rfl,hO,hK,hb⟩:=hrel;have HK:=aa hO;have Q3:=aa hK;clear hO hK;rcases Nat.lt_or_ge k args.length with hlt | vr
  ·obtain⟨b,off,rfl,kG,hex⟩:=(HA.ae.below (Kx.trans (hb.mono Kx.size))).at_ (show k <(args.map (·.1)).length by simpa using hlt);have js:(args.map (·.1))[k]' Tak=args[k].1:=by simp
   exact Zaf
  ·have lT:args.take k=args:=take_of_length_le vr;rw[lT] at HK Q3;clear lT;obtain⟨A8,c8,hu8,jN⟩:=Hw HK.ae;obtain⟨A9,c9,hu9,ME⟩:=eh (f:=dQ) (size:=1) (λ _=>rfl) Q3.ae;rw[length_map] at hu8 hu9;subst hu8 hu9;have k1:=HX.later hb;have cK:=NE.later hb;have hB:=ai.then Kx hb;clear HK Q3 HX NE Kx;have Bi:=aa jN;have HKC:=aa ME;clear jN ME;open zbh in exact Zay):p:=h
theorem Yu (op:Int)(xv:Val)(name:ByteArray)(width:Int)(A:Option Addr)(c:Nat)(cV rV:Value)(args:List (Ex×Val))(oJ:op≠2\/args≠ [])(aZ:∀a∈args,a.2.Ok)(w:World)(hl:args.length<=1599289640356)(hA:RE w w.heap.size A (args.map (·.1)))(hE:∀a∈args,jF w cV rV a.1 a.2 0):
  ar 17 #[.agg #[ag op,ag xv.k,af xv.n,.string xv.s,.string name,af width,.slice A args.length c],cV,rV] w λ en w'=>en=.returned (bQ (pO ⟨op,xv,name,width,A,args.length,c⟩ (args.map (·.2))).1 (pO ⟨op,xv,name,width,A,args.length,c⟩ (args.map (·.2))).2)/\aj w w':=by have Hx:=aa oJ;have asz:=aa aZ;clear oJ aZ;have HA:=aa hA;have HE:=aa hE;clear hA hE;go_enter Tryz.func17,Tryz.ntmps17;have HX:=(aB.new w 46 #[ag op,ag xv.k,af xv.n,.string xv.s,.string name,af width,.slice A args.length c]).alloc (.cells #[ag 0,af 0,au] 44);open zgs in exact Zeu
theorem zdZ.KaN(h:p:=by
 have js:(args.map (·.1)++bad::post)[k]' Va=args[k].1:=by rw[getElem_append_left Tak];simp
 exact Zaf):p:=h
theorem zh9.Kcl(h:p:=by
 have bG:=ah W3 (.cells #[ag 0,af 0,.string ByteArray.empty] 44);have b1:=ai.then hb (ai.then (ai.then bY KK) bG);have cK:=hR.later b1;have eB:=ai.then Kx b1;have dw:=aG cK;have gV:=aB.frozen cK;have te:(er != 0)=true:=by have:=Ox.ae;simpa using this
 clear gj hex bY KK bG b1 cK HX hR Kx hb;unfold bQ aN;go_wp2_with fail;exact bodyPost_ret (v:=.tuple #[.agg #[ag 0,af 0,.string ByteArray.empty],af er]) Tac rfl ⟨rfl,((eB.setCell bJ _).setCell bJ _).setCell bJ _⟩):p:=h
theorem zhc.KbW(h:p:=by clear js fJ HK Q3;open zh9 in exact ZgL):p:=h
theorem zd0.KaN(h:p:=by open zhc in exact Zff):p:=h
theorem zgt.KbH(h:p:=by
 have hR:=aB.new (w.alloc (.cells #[ag op,ag xv.k,af xv.n,.string xv.s,.string name,af width,.slice A n c] 46)) 44 #[ag 0,af 0,au];rw[World.size_alloc] at hR;have Kx:=ai.then (ah w (.cells #[ag op,ag xv.k,af xv.n,.string xv.s,.string name,af width,.slice A n c] 46)) (ah _ (.cells #[ag 0,af 0,au] 44));clear x6;generalize (w.alloc (.cells #[ag op,ag xv.k,af xv.n,.string xv.s,.string name,af width,.slice A n c] 46)).alloc (.cells #[ag 0,af 0,au] 44)=W at*;have bJ:w.heap.size<=w.heap.size+1:=by omega
 generalize w.heap.size+1=g at*;go_loopw [8,9,20] (λ lv kv i wr=>∃k:Nat,k<=args.length/\i=af k/\aH aV 44 3 wr W.heap.size lv ((args.take k).map (·.2))/\aH dQ 5 1 wr W.heap.size kv ((args.take k).map (·.2.k))/\aj W wr) (λ _ _ i _=>args.length - (intOf i).toNat);case atStart=>exact⟨0,Nat.zero_le _,rfl,aH.nil,aH.nil,Below.refl _ _⟩
 case round=>
  obtain⟨k,hk,rfl,hO,hK,hb⟩:=hrel;have HK:=aa hO;have Q3:=aa hK;clear hO hK;rcases Nat.lt_or_ge k args.length with hlt | vr
  ·open zdZ in exact Zcg
  ·have fJ:k=args.length:=by omega
   open zd0 in exact Zcg):p:=h
theorem Yv (op:Int)(xv:Val)(name:ByteArray)(width:Int)(A:Option Addr)(n c:Nat)(cV rV:Value)(args:List (Ex×Val))(bad:Ex)(er:Int)(post:List Ex)(hn:args.length+1+post.length=n)(w:World)(hl:args.length<=1599289640356)(Um:n<=1599289640356)(hA:RE w w.heap.size A (args.map (·.1)++bad::post))(hE:∀a∈args,jF w cV rV a.1 a.2 0)(jZ:jF w cV rV bad aN er)(her:er≠0):
  ar 17 #[.agg #[ag op,ag xv.k,af xv.n,.string xv.s,.string name,af width,.slice A n c],cV,rV] w λ en w'=>en=.returned (bQ aN er)/\aj w w':=by have HN:=aa hn;have Ib:=aa jZ;have Ox:=aa her;clear hn jZ her;have HA:=aa hA;have HE:=aa hE;clear hA hE;go_enter Tryz.func17,Tryz.ntmps17;have HX:=(aB.new w 46 #[ag op,ag xv.k,af xv.n,.string xv.s,.string name,af width,.slice A n c]).alloc (.cells #[ag 0,af 0,au] 44);open zgt in exact Zeu
inductive Tr where
 | mk (op:Int) (v:Val) (name:ByteArray) (width:Int) (args:List Tr)
def Yw (w:World)(S:Nat->Prop)(A:Option Addr)(l:List Ex):Prop:=
 l=[]\/∃b off,A=some ⟨b,off,none⟩/\S b/\∀i x,l[i]?=some x->ck w b (off+i*7) x
mutual
def Tr.at_ (w:World)(S:Nat->Prop):Tr->Ex->Prop
 | .mk op v name width args,y=>y.op=op/\y.v=v/\y.name=name/\y.width=width/\y.n=args.length/\∃ys,Yw w S y.A ys/\Tr.aO w S args ys
def Tr.aO (w:World)(S:Nat->Prop):List Tr->List Ex->Prop
 | [],ys=>ys=[]
 | t::ts,ys=>∃y ys',ys=y::ys'/\Tr.at_ w S t y/\Tr.aO w S ts ys'
end
variable{S S':Nat->Prop}
theorem Yw.keep{l:List Ex}(h:Yw w S A l)(hk:∀b,S b->(∀o,w'.cell? ⟨b,o,none⟩=w.cell? ⟨b,o,none⟩)/\S' b):Yw w' S' A l:=by
 rcases h with h |⟨b,off,h1,h2,h3⟩
 ·exact .inl h
 ·exact .inr ⟨b,off,h1,(hk b h2).2,λ i x hx=>(h3 i x hx).keep (hk b h2).1⟩
mutual
theorem Tr.at_.keep {w w':World} {S S':Nat->Prop}(hk:∀b,S b->(∀o,w'.cell? ⟨b,o,none⟩=w.cell? ⟨b,o,none⟩)/\S' b):∀(t:Tr) (y:Ex),t.at_ w S y->t.at_ w' S' y
 | .mk op v name width args,y,h=>by unfold Tr.at_ at h ⊢;obtain⟨h1,h2,h3,h4,h5,ys,h6,h7⟩:=h;exact⟨h1,h2,h3,h4,h5,ys,h6.keep hk,Tr.aO.keep hk args ys h7⟩
theorem Tr.aO.keep {w w':World} {S S':Nat->Prop}(hk:∀b,S b->(∀o,w'.cell? ⟨b,o,none⟩=w.cell? ⟨b,o,none⟩)/\S' b):∀(ts:List Tr) (ys:List Ex),Tr.aO w S ts ys->Tr.aO w' S' ts ys
 | [],ys,h=>by unfold Tr.aO at h ⊢;exact h
 | t::ts,ys,h=>by unfold Tr.aO at h ⊢;obtain⟨y,ys',h1,h2,h3⟩:=h;exact⟨y,ys',h1,Tr.at_.keep hk t y h2,Tr.aO.keep hk ts ys' h3⟩
end
theorem Tr.aO.length:∀ {ts:List Tr} {ys:List Ex},Tr.aO w S ts ys->ys.length=ts.length
 | [],ys,h=>by unfold Tr.aO at h;subst h;rfl
 | t::ts,ys,h=>by unfold Tr.aO at h;obtain⟨y,ys',rfl,_,h3⟩:=h;simp[Tr.aO.length h3]
def Old (w:World):Nat->Prop:=λ b=>b < w.heap.size
theorem Yw.old{l:List Ex}(h:Yw w (Old w) A l):RE w w.heap.size A l:=h
variable{y:Ex}
theorem Tr.at_.later{t:Tr} (h:t.at_ w (Old w) y)(hb:aj w w'):t.at_ w' (Old w') y:=
 Tr.at_.keep (λ b hS=>⟨λ o=>hb.cell (p:=⟨b,o,none⟩) hS,Nat.lt_of_lt_of_le hS hb.size⟩) t y h
variable{ts:List Tr}{ys:List Ex}
theorem Tr.aO.later(h:Tr.aO w (Old w) ts ys)(hb:aj w w'):Tr.aO w' (Old w') ts ys:=
 Tr.aO.keep (λ b hS=>⟨λ o=>hb.cell (p:=⟨b,o,none⟩) hS,Nat.lt_of_lt_of_le hS hb.size⟩) ts ys h
mutual
def Tr.ok:Tr->Prop
 | .mk op v name width args=>v.Ok/\args.length<=1599289640356/\(0<=op/\op<=255)/\(-9223372036854775808<=width/\width<=9223372036854775807)/\(0<=v.k/\v.k<=255)/\Tr.cO args
def Tr.cO:List Tr->Prop
 | []=>True
 | t::ts=>t.ok/\Tr.cO ts
end
structure aX where
 name:ByteArray
 t:Int
def mL (w:World)(b off:Nat)(x:aX):Prop:=w.cell? ⟨b,off,none⟩=some (.string x.name)/\w.cell? ⟨b,off+1,none⟩=some (ag x.t)
theorem mL.keep{x:aX}(h:mL w b off x)(hk:∀o,w'.cell? ⟨b,o,none⟩=w.cell? ⟨b,o,none⟩):mL w' b off x:=by unfold mL at*;simp only[hk];exact h
def RC (w:World)(B:Nat)(A:Option Addr)(l:List aX):Prop:=
 l=[]\/∃b off,A=some ⟨b,off,none⟩/\b < B/\∀i x,l[i]?=some x->mL w b (off+i*2) x
theorem RC.below{l:List aX}(h:RC w B A l)(hb:Below B w w'):RC w' B A l:=by exact Zcy
theorem RC.more{l:List aX}(h:RC w B A l)(hB:B<=B'):RC w B' A l:=by exact ZdN
theorem RC.later{l:List aX}(h:RC w w.heap.size A l)(hb:aj w w'):RC w' w'.heap.size A l:=(h.below hb).more hb.size
theorem RC.at_{l:List aX}(h:RC w B A l) (hk:k < l.length):∃b off,A=some ⟨b,off,none⟩/\b < B/\mL w b (off+k*2) l[k]:=by exact Zb6
theorem RV.later{l:List Val}(h:RV w w.heap.size A l)(hb:aj w w'):RV w' w'.heap.size A l:=(h.below hb).more hb.size
def dn (name:ByteArray):List aX->Nat
 | []=>0
 | c::cs=>if (c.name.toList==name.toList)=true then 0 else dn name cs+1
def kL (name:ByteArray)(cols:List aX):Int:=if dn name cols < cols.length then dn name cols else -1
def Bl (cols:List aX)(row:List Val)(name:ByteArray):Val×Int:=
 if dn name cols < cols.length/\dn name cols < row.length then
  (if good (row.getD (dn name cols) aN)=true then(row.getD (dn name cols) aN,0)else(aN,40))
 else(aN,41)
def cM:List (Val×Int)->Int
 | []=>0
 | r::rs=>if r.2≠0 then r.2 else cM rs
def lX (cols:List aX)(row:List Val)(x:Ex)(rs:List (Val×Int)):Val×Int:=
 if cM rs≠0 then(aN,cM rs)else if bP x≠0 then(aN,bP x)else if x.op=1 then(x.v,0)else if x.op=2 then Bl cols row x.name else iN x.op x.width (rs.map (·.1))
mutual
def Tr.eval (cols:List aX)(row:List Val):Tr->Val×Int
 | .mk op v name width args=>lX cols row ⟨op,v,name,width,none,args.length,0⟩ (Tr.iO cols row args)
def Tr.iO (cols:List aX)(row:List Val):List Tr->List (Val×Int)
 | []=> []
 | t::ts=>t.eval cols row::Tr.iO cols row ts
end
theorem Tr.oL (cols:List aX)(row:List Val):∀ts,(Tr.iO cols row ts).length=ts.length
 | []=>by simp[Tr.iO]
 | t::ts=>by simp[Tr.iO,Tr.oL cols row ts]
theorem dV:aN.Ok:=⟨by decide,by decide⟩
theorem Sd (b:Bool):(bE b).Ok:=by cases b <;> exact⟨by decide,by decide⟩
theorem sf (n:Int): -9223372036854775808<=wrap64 n/\wrap64 n<=9223372036854775807:=by unfold wrap64;omega
variable{n:Int}{c:Bool}
theorem Bn(h: -9223372036854775808<=n/\n<=9223372036854775807):(fB n c).1.Ok:=by
 cases c
 ·exact dV
 ·exact h
theorem agV{b:Int}(ha: -9223372036854775808<=a/\a<=9223372036854775807): -9223372036854775808<=Int.tmod a b/\Int.tmod a b<=9223372036854775807:=by
 have h:(Int.tmod a b).natAbs<=a.natAbs:=by rw[Int.natAbs_tmod];exact Nat.mod_le _ _
 have h2:0<=a->0<=Int.tmod a b:=λ h=>Int.tmod_nonneg b h
 have h3:a<=0->Int.tmod a b<=0:=λ h=>by have:=Int.tmod_nonneg b (show 0<= -a by omega);rw[Int.neg_tmod] at this;omega
 omega
theorem Yx (s:Bool)(l:List Val):(lS s l).Ok:=by
 unfold lS;repeat (first | exact dV | exact Sd _ | split)
theorem alE (k:Nat)(wd:Int)(l:List Val)(hl:∀v∈l,v.Ok):(Hu k wd l).1.Ok:=by
 unfold Hu;split;case h_7 a b=>unfold zD;split;exact dV;exact Bn (agV (hl a Vb))
 all_goals first
  | exact dV
  | exact Sd _
  | exact Yx _ _
  | exact Bn (sf _)
  |(unfold zC;split;exact dV;exact Bn (sf _))
theorem abD (op wd:Int)(l:List Val)(hl:∀v∈l,v.Ok):(iN op wd l).1.Ok:=by
 unfold iN;split
 ·exact dV
 ·split
  ·exact dV
  ·exact alE _ _ _ hl
theorem agW (cols:List aX)(row:List Val)(name:ByteArray)(hr:∀v∈row,v.Ok):(Bl cols row name).1.Ok:=by
 unfold Bl;split
 ·rename_i h;split
  ·rw[getD_eq_getElem?_getD,getElem?_eq_getElem h.2];exact hr _ (getElem_mem h.2)
  ·exact dV
 ·exact dV
mutual
theorem Tr.abE (cols:List aX)(row:List Val)(hr:∀v∈row,v.Ok):∀t:Tr,t.ok->(t.eval cols row).1.Ok
 | .mk op v name width args,h=>by
   unfold Tr.ok at h;unfold Tr.eval lX;have ha:=Tr.vE cols row hr args h.2.2.2.2.2;split
   ·exact dV
   ·split
    ·exact dV
    ·split
     ·exact h.1
     ·split
      ·exact agW _ _ _ hr
      ·refine abD _ _ _ λ u hu=>?_
       obtain⟨z,hz,rfl⟩:=List.mem_map.1 hu;exact ha z hz
theorem Tr.vE (cols:List aX)(row:List Val)(hr:∀v∈row,v.Ok):∀ts:List Tr,Tr.cO ts->∀z∈Tr.iO cols row ts,z.1.Ok
 | [],_,z,hz=>by simp[Tr.iO] at hz
 | t::ts,h,z,hz=>by
   unfold Tr.cO at h;unfold Tr.iO at hz;rcases List.mem_cons.1 hz with rfl | hz
   ·exact Tr.abE cols row hr t h.1
   ·exact Tr.vE cols row hr ts h.2 z hz
end
theorem qN:∀(l:List (Ex×(Val×Int))),(∀a∈l,a.2.2=0)\/∃pre bad post,l=pre++bad::post/\(∀a∈pre,a.2.2=0)/\bad.2.2≠0
 | []=> .inl Vb
 | a::l=>by
   by_cases h:a.2.2=0
   ·rcases qN l with h1 |⟨pre,bad,post,h1,h2,h3⟩
    ·exact .inl (by intro x hx;rcases List.mem_cons.1 hx with rfl | hx;exact h;exact h1 x hx)
    ·refine .inr ⟨a::pre,bad,post,by rw[h1];rfl,?_,h3⟩;intro x hx;rcases List.mem_cons.1 hx with rfl | hx
     ·exact h
     ·exact h2 x hx
   ·exact .inr ⟨[],a,l,rfl,by simp,h⟩
theorem yG:∀ {l:List (Val×Int)},(∀a∈l,a.2=0)->cM l=0
 | [],_=>rfl
 | a::l,h=>by unfold cM;rw[if_neg TaM];exact yG λ x hx=>h x Tbb
theorem Fj:∀ {pre post:List (Val×Int)} {bad:Val×Int},(∀a∈pre,a.2=0)->bad.2≠0->cM (pre++bad::post)=bad.2
 | [],post,bad,_,hb=>by unfold cM;simp[hb]
 | a::pre,post,bad,h,hb=>by show cM (a::(pre++bad::post))=_;unfold cM;rw[if_neg TaM];exact Fj (λ x hx=>h x Tbb) hb
theorem Oy (x:aX)(name:ByteArray)(g:Nat)(w:World)(hg:aB w g 9 #[.string name]):
  ar 79 #[.agg #[.string x.name,ag x.t],aw g] w λ e w'=>e=.returned (.bool (x.name.toList==name.toList))/\aj w w':=by have c0:=(hg.alloc (.cells #[.string x.name,ag x.t] 113)).cell 0;simp only[getElem?_toArray,getElem?_cons_zero] at c0;go_enter Tryz.func79,Tryz.ntmps79;go_wp2_with fail;go_ret;exact⟨rfl,by go_grown⟩
variable{cs:List aX}
theorem Un{name:ByteArray} {c:aX} (h:(c.name.toList==name.toList)=false):dn name (c::cs)=dn name cs+1:=by show(if (c.name.toList==name.toList)=true then 0 else dn name cs+1)=_;rw[if_neg (by rw[h];simp)]
theorem Oz{name:ByteArray} {c:aX} (h:(c.name.toList==name.toList)=true):dn name (c::cs)=0:=by show(if (c.name.toList==name.toList)=true then 0 else dn name cs+1)=_;rw[if_pos h]
theorem cH(h:k < l.length):l.drop k=l[k]::l.drop (k+1):=drop_eq_getElem_cons h
theorem Ic (cols:List aX)(CA:Option Addr)(cc:Nat)(name:ByteArray)(g:Nat)(w:World)(hC:RC w w.heap.size CA cols)(hg:aB w g 9 #[.string name])(hl:cols.length<=140737488355328):
  ar 78 #[.slice CA cols.length cc,.func (.func 79) #[] #[.pointer (some ⟨g,0,none⟩)]] w λ e w'=>e=.returned (.int .i64 (kL name cols))/\aj w w':=by
 have HC:=aa hC;clear hC;go_enter Tryz.func78,Tryz.ntmps78;go_wp2_with fail;go_loopw [5,8] (λ _ i wr=>∃k:Nat,k<=cols.length/\i=af k/\dn name cols=k+dn name (cols.drop k)/\aj w wr) (λ _ i _=>cols.length - (intOf i).toNat);case atStart=>exact⟨0,Nat.zero_le _,rfl,by simp,Below.refl _ _⟩
 case round=>
  obtain⟨k,hk,rfl,hp,hb⟩:=hrel;have HP:=aa hp;clear hp;by_cases hlt:k < cols.length
  ·obtain⟨b,off,rfl,kG,hex⟩:=(HC.ae.below hb).at_ hlt;have HD:=aa (cH hlt);generalize cols[k]=x at*;unfold mL at hex;have hz:=hg.later hb;go_wp2_with fail;refine(Oy x name g _ hz).mono ?_;rintro e w1 ⟨rfl,b1⟩;have hb1:=ai.then hb b1;clear hex hz b1 hb;cases hm:(x.name.toList==name.toList)
   ·go_wp2_with fail;go_roundw;case rel=>refine⟨k+1,by omega,by go_num,?_,hb1⟩;rw[HP.ae,HD.ae,Un hm];omega
    case measure=>exact Za2
   ·go_wp2_with fail;go_ret;refine⟨?_,hb1⟩;have Ao:dn name cols=k:=by rw[HP.ae,HD.ae,Oz hm];omega
    unfold kL;rw[Ao,if_pos hlt];rfl
  ·go_wp2_with fail;go_ret;refine⟨?_,hb⟩;have Ao:dn name cols=cols.length:=by rw[HP.ae,drop_eq_nil_of_le Tq];unfold dn;omega
   unfold kL;rw[Ao,if_neg Tq];rfl
theorem Fk (cols:List aX)(CA:Option Addr)(cc:Nat)(name:ByteArray)(w:World)(hC:RC w w.heap.size CA cols)(hl:cols.length<=140737488355328):
  ar 43 #[.slice CA cols.length cc,.string name] w λ e w'=>e=.returned (af (kL name cols))/\aj w w':=by have bb:=ah w (.cells #[.string name] 9);have hg:=aB.new w 9 #[.string name];have hC2:=aa (hC.later bb);clear hC;go_enter Tryz.func43,Tryz.ntmps43;go_wp2_with fail;refine(Ic cols CA cc name w.heap.size _ hC2.ae hg hl).mono ?_;rintro e w1 ⟨rfl,b1⟩;have hb:=ai.then bb b1;clear b1 bb hg;exact Zdm
theorem zbI.Kak(h:p:=by exact Zd8):p:=h
theorem zeN.Ka2(h:p:=by
 have dw:=aG cK;have gV:=aB.frozen cK;go_wp2_with fail;clear hst x0 x1 z2 z3 z4 z5 z6 dw gV;refine(Fk cols CA cc name _ HX.ae hl).mono ?_;rintro e w2 ⟨rfl,b3⟩;replace hR:=hR.later b3;replace cK:=cK.later b3;replace hB:=ai.then hB b3;replace HX:=aa (HX.ae.later b3);replace HC:=aa (HC.ae.later b3);clear b3;by_cases uD:dn name cols < cols.length
 ·have HP:=aa (show kL name cols=(dn name cols:Int) by unfold kL;rw[if_pos uD]);rw[HP.ae];have hc1:Bl cols row name=if dn name cols < row.length then(if good (row.getD (dn name cols) aN)=true then(row.getD (dn name cols) aN,0)else(aN,40))else(aN,41):=by unfold Bl;simp only[uD,true_and]
  have NJ:=aa hc1;clear hc1 HP;generalize dn name cols=k at*;have hk2:(k:Int)<=140737488355328:=by omega
  have t0:decide ((k:Int)< 0)=false:=decide_eq_false Tq;by_cases hk:k < row.length
  ·have t1:decide (row.length<=k)=false:=decide_eq_false Tq;obtain⟨b,off,rfl,kG,hval⟩:=HC.ae.at_ hk;have HG:=aa (show row.getD k aN=row[k] by rw[getD_eq_getElem?_getD,getElem?_eq_getElem hk];rfl);have Am:=aa (NJ.ae.trans (if_pos hk));rw[HG.ae] at Am;generalize row[k]=xv at*;have XC:=hval;unfold ed at hval;have x0:=hR.cell 0;have x1:=hR.cell 1;have z2:=hR.cell 2;have z3:=hR.cell 3;have z4:=hR.cell 4;have z5:=hR.cell 5;have z6:=hR.cell 6;simp only[Uaa] at x0 x1 z2 z3 z4 z5 z6;have dw:=aG cK;have gV:=aB.frozen cK;go_wp2_with fail;refine(vt xv _).mono ?_;rintro e w3 ⟨rfl,Lw⟩;replace XC:=XC.keep (w':=w3) λ o=>Lw.cell (p:=⟨b,o,none⟩) kG
   clear x0 x1 z2 z3 z4 z5 z6 dw gV;replace hR:=hR.later Lw;replace cK:=cK.later Lw;replace hB:=ai.then hB Lw;replace HX:=aa (HX.ae.later Lw);replace HC:=aa (HC.ae.later Lw);clear hval Lw;unfold ed at XC;cases hg:good xv
   ·have HQ:=aa (Am.ae.trans (if_neg (by rw[hg];simp)));have x0:=hR.cell 0;have x1:=hR.cell 1;have z2:=hR.cell 2;have z3:=hR.cell 3;have z4:=hR.cell 4;have z5:=hR.cell 5;have z6:=hR.cell 6;simp only[Uaa] at x0 x1 z2 z3 z4 z5 z6;have dw:=aG cK;have gV:=aB.frozen cK;go_wp2_with fail;exact bodyPost_ret (v:=.tuple #[.agg #[ag 0,af 0,.string ByteArray.empty],af 40]) Tac rfl ⟨by rw[HQ.ae];rfl,((hB.setCell bJ _).setCell bJ _).setCell bJ _⟩
   ·have HQ:=aa (Am.ae.trans (if_pos hg));have x0:=hR.cell 0;have x1:=hR.cell 1;have z2:=hR.cell 2;have z3:=hR.cell 3;have z4:=hR.cell 4;have z5:=hR.cell 5;have z6:=hR.cell 6;simp only[Uaa] at x0 x1 z2 z3 z4 z5 z6;have dw:=aG cK;have gV:=aB.frozen cK;exact Zed
  ·have t1:decide (row.length<=k)=true:=decide_eq_true Tq;have HQ:=aa (NJ.ae.trans (if_neg hk));have x0:=hR.cell 0;have x1:=hR.cell 1;have z2:=hR.cell 2;have z3:=hR.cell 3;have z4:=hR.cell 4;have z5:=hR.cell 5;have z6:=hR.cell 6;simp only[Uaa] at x0 x1 z2 z3 z4 z5 z6;exact Zd8
 ·have HP:=aa (show kL name cols= -1 by unfold kL;rw[if_neg uD]);rw[HP.ae];have HQ:=aa (show Bl cols row name=(aN,41) by unfold Bl;rw[if_neg (λ h=>uD h.1)]);open zbI in exact ZaE):p:=h
theorem zf7.Kby(h:p:=by clear Hy Uj x0 x1 z2 z3 z4 z5 z6 dw gV;have b3:=ai.then b1 (ah w1 (.cells #[af 0,ag 0,ag 0,.bool false,.bool false,.nilFunc] 100));replace hR:=hR.later b3;replace cK:=cK.later b3;replace hB:=ai.then hB b3;replace HX:=aa (HX.ae.later b3);open zeN in exact ZcF):p:=h
theorem zgx.KbI(h:p:=by
 go_wp2_with fail;have cK:=aB.new (w.alloc (.cells #[ag 2,ag Kx.k,af Kx.n,.string Kx.s,.string name,af width,.slice A 0 c] 46)) 44 #[ag 0,af 0,au];rw[World.size_alloc] at cK;have hB:=ai.then (ah w (.cells #[ag 2,ag Kx.k,af Kx.n,.string Kx.s,.string name,af width,.slice A 0 c] 46)) (ah _ (.cells #[ag 0,af 0,au] 44));replace HX:=aa (HX.ae.later hB);replace HC:=aa (HC.ae.later hB);clear z6;generalize (w.alloc (.cells #[ag 2,ag Kx.k,af Kx.n,.string Kx.s,.string name,af width,.slice A 0 c] 46)).alloc (.cells #[ag 0,af 0,au] 44)=W at*;have bJ:w.heap.size<=w.heap.size+1:=by omega
 generalize w.heap.size+1=g at*;go_loopw [8,9,20] (λ lv kv i wr=>lv=az/\kv=az/\i=af 0/\wr=W) (λ _ _ _ _=>0);case atStart=>exact⟨rfl,rfl,rfl,rfl⟩
 case round=>obtain⟨rfl,rfl,rfl,rfl⟩:=hrel;have x0:=hR.cell 0;have x1:=hR.cell 1;have z2:=hR.cell 2;have z3:=hR.cell 3;have z4:=hR.cell 4;have z5:=hR.cell 5;have z6:=hR.cell 6;simp only[Uaa] at x0 x1 z2 z3 z4 z5 z6;have dw:=aG cK;have gV:=aB.frozen cK;open zf7 in exact Zeg):p:=h
theorem Yy (Kx:Val)(name:ByteArray)(width:Int)(A:Option Addr)(c:Nat)(cols:List aX)(CA:Option Addr)(cc:Nat)(row:List Val)(RA:Option Addr)(rc:Nat)(w:World)(hC:RC w w.heap.size CA cols)(hl:cols.length<=140737488355328)(hV:RV w w.heap.size RA row)(hl2:row.length<=140737488355328):
  ar 17 #[.agg #[ag 2,ag Kx.k,af Kx.n,.string Kx.s,.string name,af width,.slice A 0 c],.slice CA cols.length cc,.slice RA row.length rc] w λ en w'=>en=.returned (bQ (Bl cols row name).1 (Bl cols row name).2)/\aj w w':=by have HX:=aa hC;have HC:=aa hV;clear hC hV;go_enter Tryz.func17,Tryz.ntmps17;have hR:=(aB.new w 46 #[ag 2,ag Kx.k,af Kx.n,.string Kx.s,.string name,af width,.slice A 0 c]).alloc (.cells #[ag 0,af 0,au] 44);open zgx in exact Zev
theorem ua(h:(fB n c).2≠0):(fB n c).1=aN:=by
 cases c
 ·rfl
 ·exact absurd rfl h
theorem abF (k:Nat)(wd:Int)(l:List Val)(h:(Hu k wd l).2≠0):(Hu k wd l).1=aN:=by
 unfold Hu at*;split at h;case h_6 a b=>unfold zC at*;exact Zg7
 case h_7 a b=>unfold zD at*;exact Zg7
 all_goals first
  | exact absurd rfl h
  | exact ua h
theorem Uo (op wd:Int)(l:List Val)(h:(iN op wd l).2≠0):(iN op wd l).1=aN:=by
 unfold iN at*;split at h
 ·rename_i h1;rw[if_pos h1]
 ·rename_i h1;rw[if_neg h1];split at h
  ·exact absurd rfl h
  ·rename_i h2;rw[if_neg h2];exact abF _ _ _ h
theorem OD (cols:List aX)(row:List Val)(x:Ex)(rs:List (Val×Int))(h:(lX cols row x rs).2≠0):(lX cols row x rs).1=aN:=by
 unfold lX at*;split at h
 ·rename_i h1;rw[if_pos h1]
 ·rename_i h1;rw[if_neg h1];split at h
  ·rename_i h2;rw[if_pos h2]
  ·rename_i h2;rw[if_neg h2];split at h
   ·exact absurd rfl h
   ·rename_i h3;rw[if_neg h3];split at h
    ·rename_i h4;rw[if_pos h4];unfold Bl at*;split at h
     ·rename_i h5;rw[if_pos h5];split at h
      ·exact absurd rfl h
      ·rename_i h6;rw[if_neg h6]
     ·rename_i h5;rw[if_neg h5]
    ·rename_i h4;rw[if_neg h4];exact Uo _ _ _ h
mutual
theorem Tr.Up (cols:List aX)(row:List Val):∀t:Tr,(t.eval cols row).2≠0->(t.eval cols row).1=aN
 | .mk op v name width args,h=>by unfold Tr.eval at*;exact OD _ _ _ _ h
theorem Tr.Bo (cols:List aX)(row:List Val):∀ts:List Tr,∀z∈Tr.iO cols row ts,z.2≠0->z.1=aN
 | [],z,hz,_=>by simp[Tr.iO] at hz
 | t::ts,z,hz,h=>by
   unfold Tr.iO at hz;rcases List.mem_cons.1 hz with rfl | hz
   ·exact Tr.Up cols row t h
   ·exact Tr.Bo cols row ts z hz h
end
section
variable (cols:List aX) (CA:Option Addr) (cc:Nat) (row:List Val) (RA:Option Addr) (rc:Nat)
theorem Yz (op:Int)(xv:Val)(name:ByteArray)(width:Int)(A:Option Addr)(c:Nat)(args:List (Ex×(Val×Int)))(aZ:∀a∈args,a.2.1.Ok)(hz:∀a∈args,a.2.2≠0->a.2.1=aN)(w:World)(hl:args.length<=1599289640356)(hA:RE w w.heap.size A (args.map (·.1)))
  (hC:RC w w.heap.size CA cols) (bU:cols.length<=140737488355328) (hV:RV w w.heap.size RA row) (kH:row.length<=140737488355328)
  (hE:∀a∈args,jF w (.slice CA cols.length cc) (.slice RA row.length rc) a.1 a.2.1 a.2.2):
  ar 17 #[.agg #[ag op,ag xv.k,af xv.n,.string xv.s,.string name,af width,.slice A args.length c],.slice CA cols.length cc,.slice RA row.length rc] w λ en w'=>en=.returned (bQ (lX cols row ⟨op,xv,name,width,none,args.length,0⟩ (args.map (·.2))).1 (lX cols row ⟨op,xv,name,width,none,args.length,0⟩ (args.map (·.2))).2)/\aj w w':=by
 rcases qN args with h0 |⟨pre,bad,post,rfl,Eo,jZ⟩
 ·have hf:cM (args.map (·.2))=0:=yG λ a ha=>by obtain⟨z,hz,rfl⟩:=List.mem_map.1 ha;exact h0 z hz
  by_cases h2:op=2/\args=[]
  ·obtain⟨rfl,rfl⟩:=h2;have k:=Yy xv name width A c cols CA cc row RA rc w hC bU hV kH;have e:lX cols row ⟨2,xv,name,width,none,0,0⟩ []=Bl cols row name:=by unfold lX;rw[if_neg (by simp[cM]),if_neg (by simp[bP]),if_neg Vb,if_pos (by rfl)]
   show Calls _ _ _ _ λ en w'=>en=.returned (bQ (lX cols row ⟨2,xv,name,width,none,0,0⟩ []).1 (lX cols row ⟨2,xv,name,width,none,0,0⟩ []).2)/\_
   rw[e];exact k
  ·have k:=Yu op xv name width A c (.slice CA cols.length cc) (.slice RA row.length rc) (args.map λ a=>(a.1,a.2.1)) (by
    by_cases ho:op=2
    ·right;intro h;exact h2 ⟨ho,by simpa using h⟩
    ·exact .inl ho) (λ a ha=>by obtain⟨z,hz,rfl⟩:=List.mem_map.1 ha;exact aZ z hz) w (by simpa using hl) Taq (λ a ha=>by
    obtain⟨z,hz,rfl⟩:=List.mem_map.1 ha
    have:=hE z hz
    rw[h0 z hz] at this
    exact this)
   rw[length_map] at k;have hm:(args.map λ a=>(a.1,a.2.1)).map (·.2)=(args.map (·.2)).map (·.1):=by simp[Function.comp_def]
   rw[hm] at k;have e:lX cols row ⟨op,xv,name,width,none,args.length,0⟩ (args.map (·.2))=pO ⟨op,xv,name,width,A,args.length,c⟩ ((args.map (·.2)).map (·.1)):=by have agX:bP ⟨op,xv,name,width,A,args.length,c⟩=bP ⟨op,xv,name,width,none,args.length,0⟩:=rfl;unfold lX pO;exact Zb7
   rw[e];exact k
 ·have hbz:bad.2.1=aN:=hz bad Vb jZ;have hbE:=hE bad Vb;rw[hbz] at hbE;have k:=Yv op xv name width A (pre++bad::post).length c (.slice CA cols.length cc) (.slice RA row.length rc) (pre.map λ a=>(a.1,a.2.1)) bad.1 bad.2.2 (post.map (·.1)) Va w (by simp at hl ⊢;omega) hl Taq (λ a ha=>by
   obtain⟨z,hz',rfl⟩:=List.mem_map.1 ha
   have:=hE z (by simp[hz'])
   rw[Eo z hz'] at this
   exact this) hbE jZ
  have hf:cM ((pre++bad::post).map (·.2))=bad.2.2:=by rw[map_append,map_cons];exact Fj (λ a ha=>by obtain⟨z,hz',rfl⟩:=List.mem_map.1 ha;exact Eo z hz') jZ
  have e:lX cols row ⟨op,xv,name,width,none,(pre++bad::post).length,0⟩ ((pre++bad::post).map (·.2))=(aN,bad.2.2):=by unfold lX;rw[if_pos (by rw[hf];exact jZ),hf]
  rw[e];exact k
mutual
theorem Tr.Sg (bU:cols.length<=140737488355328)(kH:row.length<=140737488355328)(hro:∀v∈row,v.Ok):∀(t:Tr) (y:Ex) (w:World),t.ok->t.at_ w (Old w) y->RC w w.heap.size CA cols->RV w w.heap.size RA row->jF w (.slice CA cols.length cc) (.slice RA row.length rc) y (t.eval cols row).1 (t.eval cols row).2
 | .mk op v name width args,y,w,aZ,hat,hC,hV=>by
   intro W hb;have nS:=hat.later hb;unfold Tr.at_ at nS;obtain⟨h1,h2,h3,h4,h5,ys,h6,h7⟩:=nS;unfold Tr.ok at aZ;obtain⟨l,fq,hl2,ub⟩:=Tr.Bp bU kH hro args ys W aZ.2.2.2.2.2 h7 (hC.later hb) (hV.later hb);obtain⟨JX,yv,kY,gP,yA,yn,yc⟩:=y;dsimp only at h1 h2 h3 h4 h5 h6;subst h1 h2 h3 h4 h5;have hlen:l.length=args.length:=by
    have:(l.map (·.2)).length=(Tr.iO cols row args).length:=by rw[hl2]
    rw[length_map,Tr.oL] at this;exact this
   have hzz:∀a∈l,a.2.1.Ok/\(a.2.2≠0->a.2.1=aN):=λ a ha=>by
    have hm:a.2∈Tr.iO cols row args:=by rw[<- hl2];exact List.mem_map.2 ⟨a,ha,rfl⟩
    exact⟨Tr.vE cols row hro args aZ.2.2.2.2.2 _ hm,Tr.Bo cols row args _ hm⟩
   have k:=Yz cols CA cc row RA rc JX yv kY gP yA yc l (λ a ha=>(hzz a ha).1) (λ a ha=>(hzz a ha).2) W (by rw[hlen];exact aZ.2.1) Ta8 (hC.later hb) bU (hV.later hb) kH ub;rw[hl2,hlen] at k;unfold Tr.eval;exact k
theorem Tr.Bp (bU:cols.length<=140737488355328)(kH:row.length<=140737488355328)(hro:∀v∈row,v.Ok):∀(ts:List Tr) (ys:List Ex) (w:World),Tr.cO ts->Tr.aO w (Old w) ts ys->RC w w.heap.size CA cols->RV w w.heap.size RA row->∃l:List (Ex×(Val×Int)),l.map (·.1)=ys/\l.map (·.2)=Tr.iO cols row ts/\∀a∈l,jF w (.slice CA cols.length cc) (.slice RA row.length rc) a.1 a.2.1 a.2.2
 | [],ys,w,_,hat,_,_=>by unfold Tr.aO at hat;subst hat;exact⟨[],rfl,by simp[Tr.iO],by simp⟩
 | t::ts,ys,w,aZ,hat,hC,hV=>by
   unfold Tr.aO at hat;unfold Tr.cO at aZ;obtain⟨y,ys',rfl,h2,h3⟩:=hat;obtain⟨l,fq,hl2,ub⟩:=Tr.Bp bU kH hro ts ys' w aZ.2 h3 hC hV;refine⟨(y,t.eval cols row)::l,by simp[fq],by simp[hl2,Tr.iO],λ a ha=>?_⟩;rcases List.mem_cons.1 ha with rfl | ha
   ·exact Tr.Sg bU kH hro t y w aZ.1 h2 hC hV
   ·exact ub a ha
end
end
def vF (r:Val×Int):Bool×Int:=if r.2≠0 then(false,r.2)else if bZ r.1.k 1=false then(false,40)else(r.1.n==1,0)
theorem alF(h:RE w B A (y::ys)):∃b off,A=some ⟨b,off,none⟩/\b < B/\ck w b off y:=by
 rcases h with h |⟨b,off,h1,h2,h3⟩
 ·cases h
 ·refine⟨b,off,h1,h2,?_⟩;have:=h3 0 y rfl;exact ZeZ
theorem YA (A:Option Addr)(n c:Nat)(hn:0 < n)(Um:n<=1599289640356)(y:Ex)(ys:List Ex)(cV rV:Value)(r:Val×Int)(w:World)(hA:RE w w.heap.size A (y::ys))(hE:jF w cV rV y r.1 r.2):
  ar 16 #[.slice A n c,cV,rV] w λ e w'=>e=.returned (.tuple #[.bool (vF r).1,af (vF r).2])/\aj w w':=by
 obtain⟨b,off,rfl,hb,hex⟩:=alF hA;have HE:=aa hE;clear hA hE;have t0:(n==0)=false:=by simp;omega
 have t0':((n:Int)==0)=false:=by simp;omega
 unfold ck at hex;go_enter Tryz.func16,Tryz.ntmps16;go_wp2_with fail;refine(HE.ae w (Below.refl _ _)).mono ?_;rintro e w1 ⟨rfl,b1⟩;clear hex t0 t0' HE;obtain⟨v,f⟩:=r;unfold bQ;dsimp only;have hv:=aB.new w1 44 (aD v);have hB:=ai.then b1 (ah w1 (.cells (aD v) 44));clear b1;have cv:=aG hv;by_cases hf:f=0
 ·subst hf;go_wp2_with fail;have hg:=aB.new (w1.alloc (.cells (aD v) 44)) 5 #[ag v.k,ag 1];have bb:=ah (w1.alloc (.cells (aD v) 44)) (.cells #[ag v.k,ag 1] 5);rw[World.size_alloc] at hg;have g0:=hg.cell 0;have g1:=hg.cell 1;have glt:=hg.lt;simp only[Uaa] at g0 g1;refine(qL (w1.heap.size+1) 0 2 v.k 1 _ glt g0 g1).mono ?_;rintro e w2 ⟨rfl,b2⟩;replace hB:=ai.then (ai.then hB bb) b2;replace hv:=(hv.later bb).later b2;clear bb b2 g0 g1 glt hg cv;have cv:=aG hv;cases hgo:bZ v.k 1
  ·have HQ:=aa (show vF (v,0)=(false,40) by unfold vF;rw[if_neg Vb,if_pos hgo]);go_wp2_with fail;exact bodyPost_ret (v:=.tuple #[.bool false,af 40]) Tav rfl ⟨by rw[HQ.ae],hB⟩
  ·have HQ:=aa (show vF (v,0)=(v.n==1,0) by unfold vF;rw[if_neg Vb,if_neg (by rw[hgo];simp)]);go_wp2_with fail;exact bodyPost_ret (v:=.tuple #[.bool (v.n==1),af 0]) Tav rfl ⟨by rw[HQ.ae],hB⟩
 ·have t1:(f != 0)=true:=by simpa using hf
  have HQ:=aa (show vF (v,f)=(false,f) by unfold vF;rw[if_pos hf]);clear hf;go_wp2_with fail;exact bodyPost_ret (v:=.tuple #[.bool false,af f]) Tav rfl ⟨by rw[HQ.ae],hB⟩
theorem YB (A:Option Addr)(c:Nat)(cV rV:Value)(w:World):ar 16 #[.slice A 0 c,cV,rV] w λ e w'=>e=.returned (.tuple #[.bool true,af 0])/\w=w':=by go_enter Tryz.func16,Tryz.ntmps16;go_wp2_with fail;exact bodyPost_ret (v:=.tuple #[.bool true,af 0]) Tav rfl ⟨rfl,rfl⟩
def tN (x:Ex)(ts:List Int):Int×Int:=
 if bP x≠0 then(0,bP x)else if x.op=1 then(x.v.k,0)else if gO x.op ts=false then(0,40)else(tY x.op,0)
def YC (w:World)(cV:Value)(y:Ex)(t:Int):Prop:=∀W,aj w W->ar 59 #[.agg (ay y),cV] W λ en w'=>en=.returned (.tuple #[ag t,af 0])/\aj W w'
theorem zc3.Kaz(h:p:=by exact ZdJ):p:=h
theorem zc4.Kaz(h:p:=by exact ZdK):p:=h
theorem zc5.Kaz(h:p:=by exact ZdJ):p:=h
theorem zc6.Kaz(h:p:=by exact ZdK):p:=h
theorem zeu.KaW(h:p:=by
 have Ul:=(tL.ae.cell (p:=⟨g9,0,none⟩) kK).trans (tM 0 v1 0 _ rfl Tq rfl);have vD:=Nat.lt_of_lt_of_le kK tL.ae.size;clear tM tL;go_wp2_with fail;refine(Fg a wa gi nu d jY g9 0 c9 v1 _ vD Ul).mono ?_;rintro e w3 ⟨rfl,b3⟩;clear x0 x1 z6 y0 y1 y2 y3 o4 o5;replace hR:=hR.later b3;replace cK:=cK.later b3;replace hB:=ai.then hB b3;clear b3;have sZ:eY (gO op [v1]=bZ v1 wa):=by have z1:=HWA.ae;have Lw:=Al.ae;show gO _ _=_;simp only[gO,<- z1,<- Lw]
 cases hs:bZ v1 wa
 ·have HQ:=aa (NI.ae (0,40) (by rw[sZ.ae,hs,if_pos rfl]));open zc3 in exact Zbg
 ·have HQ:=aa (NI.ae (gi,0) Tbh);open zc4 in exact Zbg):p:=h
theorem zev.KaW(h:p:=by
 have Ul:=(tL.ae.cell (p:=⟨g9,0,none⟩) kK).trans (tM 0 v1 0 _ rfl Tq rfl);have kc2:=(tL.ae.cell (p:=⟨g9,1,none⟩) kK).trans (tM 1 v2 0 _ rfl Tq rfl);have vD:=Nat.lt_of_lt_of_le kK tL.ae.size;clear tM tL;go_wp2_with fail;refine(Fh a wa gi al nu d jY g9 0 c9 v1 v2 _ vD Ul kc2).mono ?_;rintro e w3 ⟨rfl,b3⟩;clear x0 x1 z6 y0 y1 y2 y3 o4 o5;replace hR:=hR.later b3;replace cK:=cK.later b3;replace hB:=ai.then hB b3;clear b3;have sZ:eY (gO op [v1,v2]=(bZ v1 wa &&(bZ v2 wa &&(!al || bZ v1 v2)))):=by have z1:=HWA.ae;have Lw:=Al.ae;show gO _ _=_;simp only[gO,<- z1,<- Lw]
 cases hs:(bZ v1 wa &&(bZ v2 wa &&(!al || bZ v1 v2)))
 ·have HQ:=aa (NI.ae (0,40) (by rw[sZ.ae,hs,if_pos rfl]));open zc5 in exact Zbg
 ·have HQ:=aa (NI.ae (gi,0) Tbh);open zc6 in exact Zbg):p:=h
theorem zhb.KbV(h:p:=by
 have NI:eY (∀r,(if gO op (args.map (·.2))=false then(0,40)else(tY op,0))=r->tN ⟨op,xv,name,width,A,args.length,c⟩ (args.map (·.2))=r):=λ r hr=>by unfold tN;rw[if_neg Ta3,if_neg H1.ae];exact hr
 clear hwa xp hnu hgi nt Hz agS hOp HOI hwd h1 mK;rcases agU with ⟨hlen,rfl⟩| hlen
 ·obtain⟨⟨Ly,v1⟩,rfl⟩:=alx hlen;open zeu in exact Zcu
 ·obtain⟨⟨Ly,v1⟩,⟨MY,v2⟩,rfl⟩:=aly hlen;open zev in exact Zcu):p:=h
theorem zdt.KaF(h:p:=by rw[Sc] at Ia;obtain⟨hwa,hgi,xp,hnu⟩:=Ia;open zhb in exact Zfe):p:=h
theorem zfu.Kbk(h:p:=by
 replace hR:=hR.later b2;replace hB:=ai.then hB b2;have cK:=aB.new W3 100 #[af a,ag wa,ag gi,.bool al,.bool nu,d];have HOI:=aa (Uj.later (ah W3 (.cells #[af a,ag wa,ag gi,.bool al,.bool nu,d] 100)));have tL:=aa b2;clear Uj KK b2 hd;generalize Hy:bP ⟨op,xv,name,width,A,args.length,c⟩=fe;have mK:=aa Hy;clear Hy;have x0:=hR.cell 0;have x1:=hR.cell 1;have z6:=hR.cell 6;have y0:=cK.cell 0;have y1:=cK.cell 1;have y2:=cK.cell 2;have y3:=cK.cell 3;have o4:=cK.cell 4;have o5:=cK.cell 5;simp only[Uaa] at x0 x1 z6 y0 y1 y2 y3 o4 o5;by_cases hf:fe=0
 ·subst hf;by_cases h1:op=1
  ·have HR:=aa (show tN ⟨op,xv,name,width,A,args.length,c⟩ (args.map (·.2))=(xv.k,0) by unfold tN;rw[if_neg Ta3,if_pos h1]);have t1:(op==1)=true:=by simpa using h1
   clear h1;go_wp2_with fail;exact bodyPost_ret (v:=.tuple #[ag xv.k,af 0]) Tam rfl ⟨by rw[HR.ae],hB⟩
  ·open zdt in exact ZbJ
 ·have HR:=aa (show tN ⟨op,xv,name,width,A,args.length,c⟩ (args.map (·.2))=(0,fe) by unfold tN;rw[if_pos (by rw[mK.ae];exact hf),mK.ae]);have t1:(fe != 0)=true:=by simpa using hf
  clear hf;go_wp2_with fail;exact bodyPost_ret (v:=.tuple #[ag 0,af fe]) Tam rfl ⟨by rw[HR.ae],hB⟩):p:=h
theorem zbJ.Kak(h:p:=by go_wp2_with fail;refine(vB ⟨op,xv,name,width,A,args.length,c⟩ _).mono ?_;rintro e W3 ⟨oo,rfl,Uj,KK⟩;clear x0 x1 z2 z3 z4 z5 z6;open zfu in exact ZdB):p:=h
theorem YD (op:Int)(xv:Val)(name:ByteArray)(width:Int)(A:Option Addr)(c:Nat)(cV:Value)(args:List (Ex×Int))(oJ:op≠2\/args≠ [])(w:World)(hl:args.length<=1599289640356)(hA:RE w w.heap.size A (args.map (·.1)))(hE:∀a∈args,YC w cV a.1 a.2):
  ar 59 #[.agg #[ag op,ag xv.k,af xv.n,.string xv.s,.string name,af width,.slice A args.length c],cV] w λ en w'=>en=.returned (.tuple #[ag (tN ⟨op,xv,name,width,A,args.length,c⟩ (args.map (·.2))).1,af (tN ⟨op,xv,name,width,A,args.length,c⟩ (args.map (·.2))).2])/\aj w w':=by
 have Hx:=aa oJ;have HA:=aa hA;have HE:=aa hE;clear hA hE oJ;go_enter Tryz.func59,Tryz.ntmps59;have hX:=aB.new w 46 #[ag op,ag xv.k,af xv.n,.string xv.s,.string name,af width,.slice A args.length c];have z6:=hX.cell 6;simp only[Uaa] at z6;go_wp2_with fail;have Kx:=ah w (.cells #[ag op,ag xv.k,af xv.n,.string xv.s,.string name,af width,.slice A args.length c] 46);clear z6;generalize w.alloc (.cells #[ag op,ag xv.k,af xv.n,.string xv.s,.string name,af width,.slice A args.length c] 46)=W at*;go_loopw [6,17] (λ kv i wr=>∃k:Nat,k<=args.length/\i=af k/\aH dQ 5 1 wr W.heap.size kv ((args.take k).map (·.2))/\aj W wr) (λ _ i _=>args.length - (intOf i).toNat);case atStart=>exact ZcI
 case round=>
  obtain⟨k,hk,rfl,hp,hb⟩:=hrel;have HP:=aa hp;clear hp;rcases Nat.lt_or_ge k args.length with hlt | vr
  ·obtain⟨b,off,rfl,kG,hex⟩:=(HA.ae.below (Kx.trans (hb.mono Kx.size))).at_ (show k <(args.map (·.1)).length by simpa using hlt);have js:(args.map (·.1))[k]' Tak=args[k].1:=by simp
   exact ZaL
  ·have lT:args.take k=args:=take_of_length_le vr;rw[lT] at HP;clear lT;obtain⟨A9,c9,hu9,uD⟩:=eh (f:=dQ) (size:=1) (λ _=>rfl) HP.ae;rw[length_map] at hu9;subst hu9;have hR:=hX.later hb;have hB:=ai.then Kx hb;clear HP hX Kx;have HKC:=aa uD;open zbJ in exact ZaE
def oM (w:World)(cV:Value)(y:Ex)(t e:Int):Prop:=∀W,aj w W->ar 59 #[.agg (ay y),cV] W λ en w'=>en=.returned (.tuple #[ag t,af e])/\aj W w'
theorem zd1.KaN(h:p:=by
 have js:(args.map (·.1)++bad::post)[k]' Va=args[k].1:=by rw[getElem_append_left Tak];simp
 exact ZaL):p:=h
theorem zia.Kcl(h:p:=by
 have eB:=ai.then Kx (ai.then hb (ai.then bY KK));have te:(er != 0)=true:=by have:=Ox.ae;simpa using this
 clear gj hex bY KK HX Kx hb;go_wp2_with fail;exact bodyPost_ret (v:=.tuple #[ag 0,af er]) Tam rfl ⟨rfl,eB⟩):p:=h
theorem zhd.KbW(h:p:=by clear js fJ HP;open zia in exact ZgL):p:=h
theorem zd2.KaN(h:p:=by open zhd in exact Zff):p:=h
theorem zgu.KbH(h:p:=by
 have Kx:=ah w (.cells #[ag op,ag xv.k,af xv.n,.string xv.s,.string name,af width,.slice A n c] 46);clear x6;generalize w.alloc (.cells #[ag op,ag xv.k,af xv.n,.string xv.s,.string name,af width,.slice A n c] 46)=W at*;go_loopw [6,17] (λ kv i wr=>∃k:Nat,k<=args.length/\i=af k/\aH dQ 5 1 wr W.heap.size kv ((args.take k).map (·.2))/\aj W wr) (λ _ i _=>args.length - (intOf i).toNat);case atStart=>exact ZcI
 case round=>
  obtain⟨k,hk,rfl,hp,hb⟩:=hrel;have HP:=aa hp;clear hp;rcases Nat.lt_or_ge k args.length with hlt | vr
  ·open zd1 in exact Zcg
  ·have fJ:k=args.length:=by omega
   open zd2 in exact Zcg):p:=h
theorem YE (op:Int)(xv:Val)(name:ByteArray)(width:Int)(A:Option Addr)(n c:Nat)(cV:Value)(args:List (Ex×Int))(bad:Ex)(bt er:Int)(post:List Ex)(hn:args.length+1+post.length=n)(w:World)(hl:args.length<=1599289640356)(Um:n<=1599289640356)(hA:RE w w.heap.size A (args.map (·.1)++bad::post))(hE:∀a∈args,YC w cV a.1 a.2)(jZ:oM w cV bad bt er)(her:er≠0):
  ar 59 #[.agg #[ag op,ag xv.k,af xv.n,.string xv.s,.string name,af width,.slice A n c],cV] w λ en w'=>en=.returned (.tuple #[ag 0,af er])/\aj w w':=by have HN:=aa hn;have Ib:=aa jZ;have Ox:=aa her;clear hn jZ her;have HA:=aa hA;have HE:=aa hE;clear hA hE;go_enter Tryz.func59,Tryz.ntmps59;have HX:=aB.new w 46 #[ag op,ag xv.k,af xv.n,.string xv.s,.string name,af width,.slice A n c];open zgu in exact Zeu
def mM (cols:List aX)(name:ByteArray):Int×Int:=if dn name cols < cols.length then((cols.getD (dn name cols) ⟨ByteArray.empty,0⟩).t,0)else(0,41)
theorem zbK.Kak(h:p:=by go_wp2_with fail;exact bodyPost_ret (v:=.tuple #[ag 0,af 41]) Tam rfl ⟨by rw[HQ.ae],hB⟩):p:=h
theorem zeO.Ka2(h:p:=by
 go_wp2_with fail;clear hst x0 x1 z2 z3 z4 z5 z6;refine(Fk cols CA cc name _ HC.ae hl).mono ?_;rintro e w' ⟨rfl,b3⟩;replace hR:=hR.later b3;replace hB:=ai.then hB b3;replace HC:=aa (HC.ae.later b3);clear b3;by_cases uD:dn name cols < cols.length
 ·have HP:=aa (show kL name cols=(dn name cols:Int) by unfold kL;rw[if_pos uD]);rw[HP.ae];have XD:=aa (show mM cols name=((cols.getD (dn name cols) ⟨ByteArray.empty,0⟩).t,0) by unfold mM;rw[if_pos uD]);clear HP;generalize dn name cols=k at*;have hk2:(k:Int)<=140737488355328:=by omega
  have t0:decide (0<=(k:Int))=true:=decide_eq_true Tq;obtain⟨b,off,rfl,kG,OC⟩:=HC.ae.at_ uD;have HG:=aa (show cols.getD k ⟨ByteArray.empty,0⟩=cols[k] by rw[getD_eq_getElem?_getD,getElem?_eq_getElem uD];rfl);have HQ:=XD;rw[HG.ae] at HQ;clear XD;generalize cols[k]=x at*;unfold mL at OC;have x0:=hR.cell 0;have x1:=hR.cell 1;have z2:=hR.cell 2;have z3:=hR.cell 3;have z4:=hR.cell 4;have z5:=hR.cell 5;have z6:=hR.cell 6;simp only[Uaa] at x0 x1 z2 z3 z4 z5 z6;go_wp2_with fail;exact bodyPost_ret (v:=.tuple #[ag x.t,af 0]) Tam rfl ⟨by rw[HQ.ae],hB⟩
 ·have HP:=aa (show kL name cols= -1 by unfold kL;rw[if_neg uD]);rw[HP.ae];have HQ:=aa (show mM cols name=(0,41) by unfold mM;rw[if_neg uD]);open zbK in exact ZaE):p:=h
theorem zf8.Kby(h:p:=by clear Hy Uj x0 x1 z2 z3 z4 z5 z6;have b3:=ai.then b1 (ah w1 (.cells #[af 0,ag 0,ag 0,.bool false,.bool false,.nilFunc] 100));replace hR:=hR.later b3;replace hB:=ai.then hB b3;open zeO in exact ZcF):p:=h
theorem zgy.KbI(h:p:=by
 go_wp2_with fail;have hB:=ah w (.cells #[ag 2,ag Kx.k,af Kx.n,.string Kx.s,.string name,af width,.slice A 0 c] 46);replace HC:=aa (HC.ae.later hB);clear z6;generalize w.alloc (.cells #[ag 2,ag Kx.k,af Kx.n,.string Kx.s,.string name,af width,.slice A 0 c] 46)=W at*;go_loopw [6,17] (λ kv i wr=>kv=az/\i=af 0/\wr=W) (λ _ _ _=>0);case atStart=>exact Zhz
 case round=>obtain⟨rfl,rfl,rfl⟩:=hrel;have x0:=hR.cell 0;have x1:=hR.cell 1;have z2:=hR.cell 2;have z3:=hR.cell 3;have z4:=hR.cell 4;have z5:=hR.cell 5;have z6:=hR.cell 6;simp only[Uaa] at x0 x1 z2 z3 z4 z5 z6;open zf8 in exact Zeg):p:=h
theorem YF (Kx:Val)(name:ByteArray)(width:Int)(A:Option Addr)(c:Nat)(cols:List aX)(CA:Option Addr)(cc:Nat)(w:World)(hC:RC w w.heap.size CA cols)(hl:cols.length<=140737488355328):
  ar 59 #[.agg #[ag 2,ag Kx.k,af Kx.n,.string Kx.s,.string name,af width,.slice A 0 c],.slice CA cols.length cc] w λ en KK=>en=.returned (.tuple #[ag (mM cols name).1,af (mM cols name).2])/\aj w KK:=by have HC:=aa hC;clear hC;go_enter Tryz.func59,Tryz.ntmps59;have hR:=aB.new w 46 #[ag 2,ag Kx.k,af Kx.n,.string Kx.s,.string name,af width,.slice A 0 c];open zgy in exact Zev
def gQ:List (Int×Int)->Int
 | []=>0
 | r::rs=>if r.2≠0 then r.2 else gQ rs
def qO (cols:List aX)(x:Ex)(rs:List (Int×Int)):Int×Int:=
 if gQ rs≠0 then(0,gQ rs)else if bP x≠0 then(0,bP x)else if x.op=1 then(x.v.k,0)else if x.op=2 then mM cols x.name else if gO x.op (rs.map (·.1))=false then(0,40)else(tY x.op,0)
mutual
def Tr.type (cols:List aX):Tr->Int×Int
 | .mk op v name width args=>qO cols ⟨op,v,name,width,none,args.length,0⟩ (Tr.types cols args)
def Tr.types (cols:List aX):List Tr->List (Int×Int)
 | []=> []
 | t::ts=>t.type cols::Tr.types cols ts
end
theorem Tr.oN (cols:List aX):∀ts,(Tr.types cols ts).length=ts.length
 | []=>by simp[Tr.types]
 | t::ts=>by simp[Tr.types,Tr.oN cols ts]
theorem oO:∀(l:List (Ex×(Int×Int))),(∀a∈l,a.2.2=0)\/∃pre bad post,l=pre++bad::post/\(∀a∈pre,a.2.2=0)/\bad.2.2≠0
 | []=> .inl Vb
 | a::l=>by
   by_cases h:a.2.2=0
   ·rcases oO l with h1 |⟨pre,bad,post,h1,h2,h3⟩
    ·exact .inl (by intro x hx;rcases List.mem_cons.1 hx with rfl | hx;exact h;exact h1 x hx)
    ·refine .inr ⟨a::pre,bad,post,by rw[h1];rfl,?_,h3⟩;intro x hx;rcases List.mem_cons.1 hx with rfl | hx
     ·exact h
     ·exact h2 x hx
   ·exact .inr ⟨[],a,l,rfl,by simp,h⟩
theorem qP:∀ {l:List (Int×Int)},(∀a∈l,a.2=0)->gQ l=0
 | [],_=>rfl
 | a::l,h=>by unfold gQ;rw[if_neg TaM];exact qP λ x hx=>h x Tbb
theorem xq:∀ {pre post:List (Int×Int)} {bad:Int×Int},(∀a∈pre,a.2=0)->bad.2≠0->gQ (pre++bad::post)=bad.2
 | [],post,bad,_,hb=>by unfold gQ;simp[hb]
 | a::pre,post,bad,h,hb=>by show gQ (a::(pre++bad::post))=_;unfold gQ;rw[if_neg TaM];exact xq (λ x hx=>h x Tbb) hb
section
variable (cols:List aX) (CA:Option Addr) (cc:Nat)
theorem YG (op:Int)(xv:Val)(name:ByteArray)(width:Int)(A:Option Addr)(c:Nat)(args:List (Ex×(Int×Int)))(w:World)(hl:args.length<=1599289640356)(hA:RE w w.heap.size A (args.map (·.1)))
  (hC:RC w w.heap.size CA cols) (bU:cols.length<=140737488355328) (hE:∀a∈args,oM w (.slice CA cols.length cc) a.1 a.2.1 a.2.2):
  ar 59 #[.agg #[ag op,ag xv.k,af xv.n,.string xv.s,.string name,af width,.slice A args.length c],.slice CA cols.length cc] w λ en w'=>en=.returned (.tuple #[ag (qO cols ⟨op,xv,name,width,none,args.length,0⟩ (args.map (·.2))).1,af (qO cols ⟨op,xv,name,width,none,args.length,0⟩ (args.map (·.2))).2])/\aj w w':=by
 rcases oO args with h0 |⟨pre,bad,post,rfl,Eo,jZ⟩
 ·have hf:gQ (args.map (·.2))=0:=qP λ a ha=>by obtain⟨z,hz,rfl⟩:=List.mem_map.1 ha;exact h0 z hz
  by_cases h2:op=2/\args=[]
  ·obtain⟨rfl,rfl⟩:=h2;have k:=YF xv name width A c cols CA cc w hC bU;have e:qO cols ⟨2,xv,name,width,none,0,0⟩ []=mM cols name:=by unfold qO;rw[if_neg (by simp[gQ]),if_neg (by simp[bP]),if_neg Vb,if_pos (by rfl)]
   show Calls _ _ _ _ λ en w'=>en=.returned (.tuple #[ag (qO cols ⟨2,xv,name,width,none,0,0⟩ []).1,af (qO cols ⟨2,xv,name,width,none,0,0⟩ []).2])/\_
   rw[e];exact k
  ·have k:=YD op xv name width A c (.slice CA cols.length cc) (args.map λ a=>(a.1,a.2.1)) (by
    by_cases ho:op=2
    ·right;intro h;exact h2 ⟨ho,by simpa using h⟩
    ·exact .inl ho) w (by simpa using hl) Taq (λ a ha=>by
    obtain⟨z,hz,rfl⟩:=List.mem_map.1 ha
    have:=hE z hz
    rw[h0 z hz] at this
    exact this)
   rw[length_map] at k;have hm:(args.map λ a=>(a.1,a.2.1)).map (·.2)=(args.map (·.2)).map (·.1):=by simp[Function.comp_def]
   rw[hm] at k;have e:qO cols ⟨op,xv,name,width,none,args.length,0⟩ (args.map (·.2))=tN ⟨op,xv,name,width,A,args.length,c⟩ ((args.map (·.2)).map (·.1)):=by have agX:bP ⟨op,xv,name,width,A,args.length,c⟩=bP ⟨op,xv,name,width,none,args.length,0⟩:=rfl;unfold qO tN;exact Zb7
   rw[e];exact k
 ·have hbE:=hE bad Vb;have k:=YE op xv name width A (pre++bad::post).length c (.slice CA cols.length cc) (pre.map λ a=>(a.1,a.2.1)) bad.1 bad.2.1 bad.2.2 (post.map (·.1)) Va w (by simp at hl ⊢;omega) hl Taq (λ a ha=>by
   obtain⟨z,hz',rfl⟩:=List.mem_map.1 ha
   have:=hE z (by simp[hz'])
   rw[Eo z hz'] at this
   exact this) hbE jZ
  have hf:gQ ((pre++bad::post).map (·.2))=bad.2.2:=by rw[map_append,map_cons];exact xq (λ a ha=>by obtain⟨z,hz',rfl⟩:=List.mem_map.1 ha;exact Eo z hz') jZ
  have e:qO cols ⟨op,xv,name,width,none,(pre++bad::post).length,0⟩ ((pre++bad::post).map (·.2))=(0,bad.2.2):=by unfold qO;rw[if_pos (by rw[hf];exact jZ),hf]
  rw[e];exact k
mutual
theorem Tr.oP (bU:cols.length<=140737488355328):∀(t:Tr) (y:Ex) (w:World),t.ok->t.at_ w (Old w) y->RC w w.heap.size CA cols->oM w (.slice CA cols.length cc) y (t.type cols).1 (t.type cols).2
 | .mk op v name width args,y,w,aZ,hat,hC=>by
   intro W hb;have nS:=hat.later hb;unfold Tr.at_ at nS;obtain⟨h1,h2,h3,h4,h5,ys,h6,h7⟩:=nS;unfold Tr.ok at aZ;obtain⟨l,fq,hl2,ub⟩:=Tr.Bq bU args ys W aZ.2.2.2.2.2 h7 (hC.later hb);obtain⟨JX,yv,kY,gP,yA,yn,yc⟩:=y;dsimp only at h1 h2 h3 h4 h5 h6;subst h1 h2 h3 h4 h5;have hlen:l.length=args.length:=by
    have:(l.map (·.2)).length=(Tr.types cols args).length:=by rw[hl2]
    rw[length_map,Tr.oN] at this;exact this
   have k:=YG cols CA cc JX yv kY gP yA yc l W (by rw[hlen];exact aZ.2.1) Ta8 (hC.later hb) bU ub;rw[hl2,hlen] at k;unfold Tr.type;exact k
theorem Tr.Bq (bU:cols.length<=140737488355328):∀(ts:List Tr) (ys:List Ex) (w:World),Tr.cO ts->Tr.aO w (Old w) ts ys->RC w w.heap.size CA cols->∃l:List (Ex×(Int×Int)),l.map (·.1)=ys/\l.map (·.2)=Tr.types cols ts/\∀a∈l,oM w (.slice CA cols.length cc) a.1 a.2.1 a.2.2
 | [],ys,w,_,hat,_=>by unfold Tr.aO at hat;subst hat;exact⟨[],rfl,by simp[Tr.types],by simp⟩
 | t::ts,ys,w,aZ,hat,hC=>by
   unfold Tr.aO at hat;unfold Tr.cO at aZ;obtain⟨y,ys',rfl,h2,h3⟩:=hat;obtain⟨l,fq,hl2,ub⟩:=Tr.Bq bU ts ys' w aZ.2 h3 hC;refine⟨(y,t.type cols)::l,by simp[fq],by simp[hl2,Tr.types],λ a ha=>?_⟩;rcases List.mem_cons.1 ha with rfl | ha
   ·exact Tr.oP bU t y w aZ.1 h2 hC
   ·exact ub a ha
end
end
theorem vG:Tryz.prog.cellsOf 5=1:=by exact Zgu
theorem si:Tryz.prog.cellsOf 2=1:=by exact Zgu
theorem gC:Tryz.prog.cellsOf 9=1:=by exact Zgu
theorem mN:Tryz.prog.cellsOf 44=3:=by exact Zgu
theorem Sh(h:(Lit.int .u8 n).wf=true):0<=n/\n<=255:=by exact ZgS
section
variable {H:Type} {enc:TypeId×Value->H} {w:World} {base:Nat} {spare:Nat->Bool} {held:Bool} {fuel:Nat} {cs:List Value} {x:DataW H×List MemPlace}
theorem Ie {n:Int}(h:(Lit.int .i64 n).wf=true): -9223372036854775808<=n/\n<=9223372036854775807:=by exact ZgS
theorem YH (h:DataW.trod enc Tryz.prog w base spare held fuel 44 cs=some x):∃a:Val,cs=[ag a.k,af a.n,.string a.s]/\a.Ok/\0<=a.k/\a.k<=255:=by
 obtain⟨xs,n,_,_,hl,hlen,hf⟩:=DataW.trod_struct Tryz.underlying44 h;rw[mN] at hl
 match cs,hl with
 | [c0,c1,c2],_=>
   have get:∀i,i < 3->∃y,xs[i]?=some y:=λ i hi=>⟨xs[i]'(by simp at hlen;omega),getElem?_eq_getElem _⟩
   obtain⟨y0,e0⟩:=get 0 Tq;obtain⟨y1,e1⟩:=get 1 Tq;obtain⟨y2,e2⟩:=get 2 Tq;have t0:DataW.trod enc Tryz.prog w base spare held n 5 (([c0,c1,c2].drop 0).take (Tryz.prog.cellsOf 5))=some y0:=(hf 0 _ rfl).trans e0;have t1:DataW.trod enc Tryz.prog w base spare held n 2 (([c0,c1,c2].drop 1).take (Tryz.prog.cellsOf 2))=some y1:=(hf 1 _ rfl).trans e1;have t2:DataW.trod enc Tryz.prog w base spare held n 9 (([c0,c1,c2].drop 2).take (Tryz.prog.cellsOf 9))=some y2:=(hf 2 _ rfl).trans e2;rw[vG] at t0;rw[si] at t1;rw[gC] at t2;simp only[drop_succ_cons,drop_zero,take_succ_cons,take_zero] at t0 t1 t2;obtain⟨n0,q0,_,f0⟩:=DataW.trod_int Tryz.underlying5 t0;obtain⟨n1,q1,_,f1⟩:=DataW.trod_int Tryz.underlying2 t1;obtain⟨s,q2,_,f2⟩:=DataW.trod_string Tryz.underlying9 t2;simp at q0 q1 q2;subst q0 q1 q2;exact⟨⟨n0,n1,s⟩,rfl,Ie f1,Sh f0⟩
end
theorem pick{P:Nat->α->Prop}:∀n,(∀i,i < n->∃x,P i x)->∃l:List α,l.length=n/\∀i x,l[i]?=some x->P i x
 | 0,_=>⟨[],rfl,λ i x h=>by simp at h⟩
 | n+1,h=>by
   obtain⟨l,hl,hp⟩:=pick n λ i hi=>h i Tq
   obtain⟨y,hy⟩:=h n Tq;refine⟨l++ [y],by simp[hl],λ i x hx=>?_⟩;rcases Nat.lt_trichotomy i n with hi | hi | hi
   ·rw[getElem?_append_left Tq] at hx;exact hp i x hx
   ·subst hi;rw[getElem?_append_right Tq,hl] at hx;simp at hx;subst hx;exact hy
   ·rw[getElem?_eq_none Va] at hx;cases hx
theorem jS{a:Addr} (h:w.cell? a=some v):a.block < w.heap.size/\a.spot=none:=by
 unfold World.cell? at h;split at h
 ·rename_i hb;refine⟨?_,?_⟩
  ·rcases Nat.lt_or_ge a.block w.heap.size with h' | h'
   ·exact h'
   ·rw[Array.getElem?_eq_none h'] at hb;cases hb
  ·split at h
   ·cases h
   ·rename_i hs;simpa using hs
 ·cases h
end Go.Proofs.YtndgjggokjickaaGreatDoor
