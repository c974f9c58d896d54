/- Parts of the proof. -/
import Derived.Test.YtndgjggokjickaaGreatDoorXW1
namespace Go.Proofs.YtndgjggokjickaaGreatDoor
variable{p:Prop}
set_option maxHeartbeats 90000000
set_option maxRecDepth 100000
open Go.ChangeShapes Go.WideShapes Go.ChangeAt Go.RowKit List
set_option linter.unusedVariables false
set_option linter.unusedSimpArgs false
variable{P:Program}{Q:Exit->Act->World->Prop}{a0:Act}{w0:World}{id:Nat}{ops:List Oper}
theorem NS(k:Nat)(R:World->World->Prop)(hrefl:∀w,R w w)(AJ:∀a b c,R a b->R b c->R a c)(nK:∀w,R w w.drew)
  (V:Nat->World->Value->Prop) (U:Nat->World->(Operand->Value)->Prop) (hU:Ya (ops.take k) R U) (hV:∀i w w' v,V i w v->R w w'->V i w' v) (hm:P.follows .mixedOrders=true)
  (aZ:dN (ops.take k) a0.tmps.size (ops.take k) 0=true) (hz:eL ops (ops.drop k) (ops.take k).length=true)
  (hs:Hm P (ops.take k) R V U a0 w0 (ops.take k) 0) (hf:∀w,R w0 w->bD V (λ a w=>(∀i o,(ops.take k)[i]?=some o->U i w a.eval)->wpList P ops.toArray Q (ops.drop k) a w) (ops.take k) 0 a0 w):(Code.region id ops.toArray true).wp P Q a0 w0:=
 Hn (ops.drop k) (ops.take k) (take_append_drop k ops).symm R hrefl AJ nK V U hU hV hm aZ TaL hs hf
def Ry (B gx:Nat)(op:Int):Nat->World->Value->Prop
 | 0=>λ w v=>Found w op v
 | 1=>λ _ v=>v=aw gx
 | 2=>λ _ v=>v=ag op
 | 3=>λ w v=>∃o,v=.tuple #[.agg o,.bool (kF op)]/\yu w op o
 | 4=>λ w v=>∃o,v=.tuple #[.agg o,.bool (kF op)]/\yu w op o
 | 5=>λ w v=>∃o,v=.agg o/\yu w op o
 | 6=>λ _ v=>v=.bool (kF op)
 | 7=>λ w v=>∃g,v=aw g/\B<=g/\∃cs,aB w g 100 cs/\cs.size=6
 | _=>λ _ _=>True
theorem Km (B gx:Nat)(op:Int)(i:Nat)(w w':World)(v:Value)(h:Ry B gx op i w v)(hr:FR op B w w'):Ry B gx op i w' v:=by
 unfold Ry at*;split at h
 ·exact h.fr hr
 ·exact h
 ·exact h
 ·exact Zgi
 ·exact Zgi
 ·exact Zgi
 ·exact h
 ·obtain⟨g,h1,h2,cs,h3,h4⟩:=h;refine⟨g,h1,h2,?_⟩;rcases hr.blk _ _ _ h3 with h5 |⟨_,_,o,h5,h6⟩
  ·exact⟨cs,h5,h4⟩
  ·obtain⟨a,wa,gi,al,nu,d,rfl,_⟩:=h5.shape;exact⟨_,h6,rfl⟩
 ·trivial
def Yc (B:Nat)(op:Int)(i:Nat)(w:World)(ρ:Operand->Value):Prop:=
 i=8->∃g o,ρ (.tmp 4)=aw g/\B<=g/\yu w op o/\aB w g 100 o
variable{w w':World}{ρ ρ':Operand->Value}
theorem Kn(B:Nat)(op:Int)  (i:Nat)(h:Yc B op i w ρ)(hr:FR op B w w')(he:i=8->ρ' (.tmp 4)=ρ (.tmp 4)):Yc B op i w' ρ':=by
 intro hi;obtain⟨g,o,h1,h2,h3,h4⟩:=h hi;rcases hr.blk _ _ _ h4 with h5 |⟨_,_,o',h6,h7⟩
 ·exact⟨g,o,(he hi).trans h1,h2,h3.fr hr,h5⟩
 ·exact⟨g,o',(he hi).trans h1,h2,h6,h7⟩
def bP (x:Ex):Int:=
 if x.op=1/\x.n=0/\good x.v=true\/x.op=2/\x.n=0 then 0
 else if kF x.op=true/\(x.n:Int)=qL x.op/\(x.op≠20\/(1<=x.width/\x.width<=1099511627776))then 0
 else if (x.n:Int)=nj x.op then 42 else 21
def Yd (x:Ex)(w:World)(e:Ending)(w':World):Prop:=∃o,e=.returned (.tuple #[.agg o,af (bP x)])/\yu w' x.op o/\aj w w'
theorem zc6.Kaz(h:p:=by
 go_wp2_with fail;refine(fF x.op _).mono ?_;rintro e w9 ⟨rfl,rfl⟩;by_cases hn:(x.n:Int)=nj x.op
 ·have t1:((x.n:Int)==nj x.op)=true:=by simpa using hn
  have pW:=aa (show bP x=42 by have No:=P1.ae;have KK:=N2.ae;simp only[bP];rw[if_neg Tal,if_neg Tal,if_pos hn]);exact Zbx
 ·have t1:((x.n:Int)==nj x.op)=false:=by simpa using hn
  have pW:=aa (show bP x=21 by have No:=P1.ae;have KK:=N2.ae;simp only[bP];rw[if_neg Tal,if_neg Tal,if_neg hn]);exact Zby):p:=h
theorem zc7.Kaz(h:p:=by have pW:=aa (show bP x=0 by have No:=P1.ae;have KK:=N2.ae;simp only[bP];rw[if_pos Tal]);exact ZbT):p:=h
theorem vq (x:Ex)(w:World):ar 42 #[.agg (ay x)] w (Yd x w):=by
 go_enter Tryz.func42,Tryz.ntmps42;go_wp2_with fail;have k1:=(aB.new w 46 (ay x)).alloc (.cells #[af 0,ag 0,ag 0,.bool false,.bool false,.nilFunc] 100);have Lw:=aB.new (w.alloc (.cells (ay x) 46)) 100 #[af 0,ag 0,ag 0,.bool false,.bool false,.nilFunc];rw[World.size_alloc] at Lw;have hB:=ai.then (ah w (.cells (ay x) 46)) (ah _ (.cells #[af 0,ag 0,ag 0,.bool false,.bool false,.nilFunc] 100));have hgx:w.heap.size <((w.alloc (.cells (ay x) 46)).alloc (.cells #[af 0,ag 0,ag 0,.bool false,.bool false,.nilFunc] 100)).heap.size:=by simp;omega
 generalize (w.alloc (.cells (ay x) 46)).alloc (.cells #[af 0,ag 0,ag 0,.bool false,.bool false,.nilFunc] 100)=W at*;have bI:w.heap.size<=w.heap.size+1:=by omega
 generalize w.heap.size+1=g at*;refine NS 9 (FR x.op W.heap.size) (FR.refl _ _) (λ _ _ _=>FR.trans) (λ u=>?_) (Ry W.heap.size w.heap.size x.op) (Yc W.heap.size x.op) ?_ (λ i u u' v h hr=>Km _ _ _ _ _ _ _ h hr) Va Va Va ?_ ?_
 ·exact⟨(Below.refl _ _).drew,λ LT t cs h=> .inl h,λ LT es c h=>h⟩
 ·intro i o u u' ρ ρ' hi hu hr hk;refine Kn _ _ i hu hr λ e=>?_
  subst e;simp only[take_succ_cons,take_zero] at hi hk;refine hk 7 ?_ _ 4 rfl rfl;injection hi with hi;subst hi;decide
 ·simp only[take_succ_cons,take_zero];refine⟨?_,?_,?_,?_,?_,?_,?_,?_,?_,trivial⟩
  ·intro ρ w3 hc hL hr;have e1:=hc.func 75;refine bu (f:=75) (args:= #[]) (w':=w3) (by simp[go_sem,e1]) ?_;refine(TL x.op w3).mono ?_;rintro e w2 ⟨v,he,hf,hb⟩;exact⟨v,he,FR.later hb hL.below.size,hf,λ h=>by cases h⟩
  ·intro ρ w3 hc hL hr;have h1:_=_:=hr.1;exact Zgq
  ·intro ρ w3 hc hL hr;have h1:_=_:=hr.1;have Nm:=(k1.below hL.below hgx).cell 0;simp only[getElem?_toArray,getElem?_cons_zero] at Nm;exact aq (w':=w3) (by simp[go_sem,h1,Nm]) ⟨FR.refl _ _ _,rfl,λ h=>by cases h⟩
  ·intro ρ w3 hc hL hr;obtain⟨LT,es,h1,hg,TM⟩:Found w3 x.op (ρ (.tmp 8)):=hr.1;have h2:_=_:=hr.2.1;rcases TM with ⟨ho,i,o,hfi,hoi⟩|⟨ho,hfi⟩
   ·have hl:=Yb _ _ _ _ hg x.op i _ hfi;exact aq (v:=.tuple #[.agg o,.bool true]) (w':=w3) Ta9 ⟨FR.refl _ _ _,⟨o,by rw[ho],.inl ⟨ho,hoi⟩⟩,λ h=>by cases h⟩
   ·have hl:=abg _ _ _ _ hg x.op hfi;exact aq (v:=.tuple #[.agg oD,.bool false]) (w':=w3) Ta9 ⟨FR.refl _ _ _,⟨oD,by rw[ho],.inr ⟨ho,rfl⟩⟩,λ h=>by cases h⟩
  ·intro ρ w3 hc hL hr;exact iZ (.inl rfl) rfl ⟨FR.refl _ _ _,hr.1,λ h=>by cases h⟩
  ·intro ρ w3 hc hL hr;obtain⟨o,h1,h2⟩:∃o,ρ (.tmp 7)=.tuple #[.agg o,.bool (kF x.op)]/\yu w3 x.op o:=hr.1;exact aq (w':=w3) TaF ⟨FR.refl _ _ _,⟨o,rfl,h2⟩,λ h=>by cases h⟩
  ·intro ρ w3 hc hL hr;obtain⟨o,h1,h2⟩:∃o,ρ (.tmp 7)=.tuple #[.agg o,.bool (kF x.op)]/\yu w3 x.op o:=hr.1;exact Zgq
  ·intro ρ w3 hc hL hr;refine aq (w':=w3.alloc (.cells #[af 0,ag 0,ag 0,.bool false,.bool false,.nilFunc] 100)) (by simp[go_sem]) ⟨FR.later (ah w3 _) hL.below.size,⟨w3.heap.size,rfl,hL.below.size,_,aB.new w3 _ _,rfl⟩,λ h=>by cases h⟩
  ·intro ρ w3 hc hL hr;obtain⟨LT,h1,hgB,cs,hcs,hsz⟩:∃LT,ρ (.tmp 4)=aw LT/\W.heap.size<=LT/\∃cs,aB w3 LT 100 cs/\cs.size=6:=hr.1;obtain⟨o,h2,ho⟩:∃o,ρ (.tmp 12)=.agg o/\yu w3 x.op o:=hr.2.1;obtain⟨a,wa,gi,al,nu,d,rfl,_,hd⟩:=ho.shape;obtain⟨f1,f2⟩:=dO hcs hsz hgB ho;have ald:=AU hcs hsz a wa gi al nu d;have c:∀i,(hi:i < 6)->w3.cell? ⟨LT,i,none⟩=some (cs[i]' WC):=λ i hi=>(hcs.cell i).trans (Array.getElem?_eq_getElem WC)
   have fz:=hcs.frozen;have Nm:=c 0 WC;have NE:=c 1 WC;have Kx:=c 2 WC;have c3:=c 3 WC;have c4:=c 4 WC;have c5:=c 5 WC;refine Kg (w':=vp w3 LT a wa gi al nu d) ?_ ⟨f1,trivial,λ _=>⟨LT,_,h1,hgB,f2,ald⟩⟩;unfold vp;rcases hd with rfl |⟨F,C,rfl⟩
   ·simp[go_sem,h1,h2,cI,Nm,NE,Kx,c3,c4,c5,fz]
   ·simp[go_sem,h1,h2,cI,Nm,NE,Kx,c3,c4,c5,fz]
 ·intro w3 hL;simp only[Uab];rintro _ ⟨gm,es,rfl,hgm,TM⟩ _ rfl _ rfl _ ⟨o3,rfl,h3⟩ _ ⟨LE,rfl,h4⟩ _ ⟨Ly,rfl,h5⟩ _ rfl _ ⟨g4,rfl,hg4,cs,hcs,hsz⟩ hu;obtain⟨LT,o,hg,hgB,ho,hR⟩:=hu 8 _ rfl rfl;have eh:g4=LT:=by simpa [Act.put,Act.eval] using hg
  subst eh;clear hu hg hcs hsz cs TM hgm es h3 h4 h5 hg4;replace k1:=k1.below hL.below hgx;have cJ:=Lw.below hL.below (aB.lt Lw);replace hB:=hB.trans (hL.below.mono hB.size);clear Lw hL hgx;obtain⟨a,wa,gi,al,nu,d,rfl,_,hd⟩:=ho.shape;have Ko:=λ h=>yu.args ho h
  have jU:d.oneCell'=true:=by rcases hd with rfl |⟨F,C,rfl⟩<;> rfl
  have hst:=λ(u:Addr) (m:Mode) (w:World)=>run_store Tryz.prog w u d m jU
  clear hd jU;have HX:=aa ho;clear ho;simp only[bD,Act.put,Uac];have z0:=k1.cell 0;have z1:=k1.cell 1;have x2:=k1.cell 2;have x3:=k1.cell 3;have x5:=k1.cell 5;have x6:=k1.cell 6;have x0:=hR.cell 0;have x1:=hR.cell 1;have z2:=hR.cell 2;have z3:=hR.cell 3;have z4:=hR.cell 4;have z5:=hR.cell 5;have c0:=cJ.cell 0;have c1:=cJ.cell 1;have c2:=cJ.cell 2;have y3:=cJ.cell 3;have o4:=cJ.cell 4;have o5:=cJ.cell 5;have rf:=cJ.frozen;unfold cI at x0 x1 z2 z3 z4 z5;simp only[Uaa] at z0 z1 x2 x3 x5 x6 x0 x1 z2 z3 z4 z5 c0 c1 c2 y3 o4 o5;cases b1:(x.op==1)
  ·cases MY:(x.op==2)
   ·have n1:¬x.op=1:=by simpa using b1
    have n2:¬x.op=2:=by simpa using MY
    cases q1:kF x.op
    ·clear Ko;exact Zbf
    ·have ha:=Ko q1;clear Ko;cases b4:((x.n:Int)==a)
     ·have n4:¬(x.n:Int)=qL x.op:=by rw[<- ha];simpa using b4
      clear ha;exact Zbf
     ·have n4:(x.n:Int)=qL x.op:=by rw[<- ha];simpa using b4
      have N4:=aa n4;clear ha n4;cases b5:(x.op != 20)
      ·have n5:x.op=20:=by simpa using b5
       have N5:=aa n5;clear n5;have kw:=TB x.width;cases b6:(decide (1<=x.width)&& decide (x.width<=1099511627776))
       ·rw[b6] at kw;have K1:=aa kw;clear kw;go_wp2_with fail;refine(K1.ae _).mono ?_;rintro e w1 ⟨rfl,rfl⟩;have n6:¬(1<=x.width/\x.width<=1099511627776):=by simpa using b6
        clear b6;go_wp2_with fail;refine(fF x.op _).mono ?_;rintro e w9 ⟨rfl,rfl⟩;by_cases hn:(x.n:Int)=nj x.op
        ·have t1:((x.n:Int)==nj x.op)=true:=by simpa using hn
         have pW:=aa (show bP x=42 by have No:=N4.ae;have KK:=N5.ae;simp only[bP];rw[if_neg Tal,if_neg Tal,if_pos hn]);exact Zbx
        ·have t1:((x.n:Int)==nj x.op)=false:=by simpa using hn
         have pW:=aa (show bP x=21 by have No:=N4.ae;have KK:=N5.ae;simp only[bP];rw[if_neg Tal,if_neg Tal,if_neg hn]);exact Zby
       ·rw[b6] at kw;have K1:=aa kw;clear kw;have n6:1<=x.width/\x.width<=1099511627776:=by simpa using b6
        clear b6;go_wp2_with fail;refine(K1.ae _).mono ?_;rintro e w1 ⟨rfl,rfl⟩;have pW:=aa (show bP x=0 by have No:=N4.ae;have KK:=N5.ae;simp only[bP];rw[if_neg Tal,if_pos Tal]);exact ZbT
      ·have n5:¬x.op=20:=by simpa using b5
       have pW:=aa (show bP x=0 by have No:=N4.ae;simp only[bP];rw[if_neg Tal,if_pos Tal]);exact ZbT
   ·have p2:x.op=2:=by simpa using MY
    have q1:kF x.op=false:=by rw[p2];rfl
    rw[q1];have P2:=aa p2;clear Ko p2;cases b2:((x.n:Int)==0)
    ·have n2:¬x.n=0:=by simpa using b2
     go_wp2_with fail;refine(fF x.op _).mono ?_;rintro e w9 ⟨rfl,rfl⟩;by_cases hn:(x.n:Int)=nj x.op
     ·have t1:((x.n:Int)==nj x.op)=true:=by simpa using hn
      have pW:=aa (show bP x=42 by have No:=P2.ae;simp only[bP];rw[if_neg Tal,if_neg Tal,if_pos hn]);exact Zbx
     ·have t1:((x.n:Int)==nj x.op)=false:=by simpa using hn
      have pW:=aa (show bP x=21 by have No:=P2.ae;simp only[bP];rw[if_neg Tal,if_neg Tal,if_neg hn]);exact Zby
    ·have n2:x.n=0:=by simpa using b2
     have N2:=aa n2;clear n2;have pW:=aa (show bP x=0 by have No:=P2.ae;have KK:=N2.ae;simp only[bP];rw[if_pos Tal]);exact ZbT
  ·have p1:x.op=1:=by simpa using b1
   have q1:kF x.op=false:=by rw[p1];rfl
   have MY:(x.op==2)=false:=by rw[p1];rfl
   rw[q1];have P1:=aa p1;clear Ko p1;cases b2:((x.n:Int)==0)
   ·have n2:¬x.n=0:=by simpa using b2
    go_wp2_with fail;refine(fF x.op _).mono ?_;rintro e w9 ⟨rfl,rfl⟩;by_cases hn:(x.n:Int)=nj x.op
    ·have t1:((x.n:Int)==nj x.op)=true:=by simpa using hn
     have pW:=aa (show bP x=42 by have No:=P1.ae;simp only[bP];rw[if_neg Tal,if_neg Tal,if_pos hn]);exact Zbx
    ·have t1:((x.n:Int)==nj x.op)=false:=by simpa using hn
     have pW:=aa (show bP x=21 by have No:=P1.ae;simp only[bP];rw[if_neg Tal,if_neg Tal,if_neg hn]);exact Zby
   ·have n2:x.n=0:=by simpa using b2
    have N2:=aa n2;clear n2;have Uy:=vg x.v;cases bg:good x.v
    ·open zc6 in exact Zbd
    ·open zc7 in exact Zbd
theorem rY (t:Int)(w:World):ar 73 #[ag t] w λ e w'=>e=.returned (.bool (t==0))/\w=w':=by go_enter Tryz.func73,Tryz.ntmps73;exact Zfs
def iM (a b:Int):Int:=if a=0 then 0 else if b=0 then 1 else -1
theorem zep.KaU(h:p:=by refine(K2.ae _).mono ?_;rintro e w1 ⟨rfl,rfl⟩;exact Zfr):p:=h
theorem zeq.KaU(h:p:=by refine(K2.ae _).mono ?_;exact Zhr):p:=h
theorem tE (g c:Nat)(a b:Int)(w:World)(h0:w.cell? ⟨g,0,none⟩=some (ag a))(h1:w.cell? ⟨g,1,none⟩=some (ag b)):
  ar 107 #[aI g 2 c,.func (.func 73) #[] #[]] w λ e w'=>e=.returned (af (iM a b))/\w=w':=by
 unfold iM;cases ha:(a==0)
 ·have ha':¬a=0:=by simpa using ha
  rw[if_neg ha'];cases hb:(b==0)
  ·have hb':¬b=0:=by simpa using hb
   rw[if_neg hb'];have k1:=rY a;have k2:=rY b;rw[ha] at k1;rw[hb] at k2;have K1:=aa k1;have K2:=aa k2;clear k1 k2 ha' hb';go_enter Tryz.func107,Tryz.ntmps107;open zep in exact Zcn
  ·have hb':b=0:=by simpa using hb
   rw[if_pos hb'];have k1:=rY a;have k2:=rY b;rw[ha] at k1;rw[hb] at k2;have K1:=aa k1;have K2:=aa k2;clear k1 k2 ha' hb';go_enter Tryz.func107,Tryz.ntmps107;open zeq in exact Zcn
 ·have ha':a=0:=by simpa using ha
  rw[if_pos ha'];have k1:=rY a;rw[ha] at k1;have K1:=aa k1;clear k1 ha';go_enter Tryz.func107,Tryz.ntmps107;go_wp2_with fail;refine wp_loop_rounds 3 ?_;rw[rounds_succ];go_wp2_with fail;refine(K1.ae _).mono ?_;exact Zhr
theorem abh (w:World):(zeroValue 5).run Tryz.prog w=.ok (ag 0) w:=by exact Zgn
theorem rZ (w:World)(g o n c:Nat)(cs:Array Value)(h:aB w g 5 cs)(hn:0 < n)(hs:o+n<=cs.size):
  (Builtin.clear_ #[97] 0 #[.slice (some ⟨g,o,none⟩) n c]).run Tryz.prog w=.ok (.tuple #[]) (w.setCells g o (List.replicate n (ag 0))):=
 Go.Lib.run_clear_slice w 97 5 0 (ag 0) Tryz.underlying97 abh rfl rfl g o n c hn (λ j hj=>by rw[h.cell,Array.getElem?_eq_getElem WC];rfl) (λ j hj=>h.frozen _)
variable{B:Nat}
theorem fS(g:Nat)(hg:B<=g):∀(vs:List Value) (o:Nat) (w:World),Below B w0 w->Below B w0 (w.setCells g o vs)
 | [],o,w,h=>h
 | v::vs,o,w,h=>by rw[World.setCells];exact fS g hg vs (o+1) _ (h.setCell (p:=⟨g,o,none⟩) hg v)
def abi (g c:Nat)(w:World)(e:Ending)(w':World):Prop:=∃n,n<=1/\e=.returned (aI g n c)/\Below g w w'
theorem zer.KaU(h:p:=by go_ret;exact⟨1,Nat.le_refl _,rfl,hB⟩):p:=h
theorem zes.KaU(h:p:=by go_ret;exact⟨0,by omega,rfl,hB⟩):p:=h
theorem NT (g c:Nat)(a b:Int)(cs:Array Value)(w:World)(h:aB w g 5 cs)(hsz:2<=cs.size)(h0:cs[0]?=some (ag a))(h1:cs[1]?=some (ag b))(hc:2<=c)(hab:a=0\/b=0):
  ar 71 #[aI g 2 c,.func (.func 73) #[] #[]] w (abi g c w):=by
 have c0:=(h.cell 0).trans h0;have c1:=(h.cell 1).trans h1;have fz:=h.frozen;have ki:=tE g c a b w c0 c1;have k2:=rY b;cases ha:(a==0)
 ·have ha':¬a=0:=by simpa using ha
  have hb':b=0:=by omega
  have e0:iM a b=1:=by simp[iM,ha',hb']
  rw[e0] at ki;have KI:=aa ki;have cf:=rZ w g 1 1 (c - 1) cs h WC WC;have hB:=fS g (Nat.le_refl g) (List.replicate 1 (ag 0)) 1 w (Below.refl g w);clear ki k2 e0 ha' hb' hab;generalize w.setCells g 1 (List.replicate 1 (ag 0))=W at*;go_enter Tryz.func71,Tryz.ntmps71;go_wp2_with fail;refine KI.ae.mono ?_;rintro e w1 ⟨rfl,rfl⟩;go_wp2_with fail;refine wp_loop_rounds 3 ?_;rw[rounds_succ];go_wp2_with fail;go_ret;exact⟨1,Nat.le_refl _,rfl,hB⟩
 ·have ha':a=0:=by simpa using ha
  have e0:iM a b=0:=by simp[iM,ha']
  rw[e0] at ki;have KI:=aa ki;clear ki e0 ha' hab;cases hb:(b==0)
  ·rw[hb] at k2;have K1:=aa k2;clear k2;have hs:=h.aU 0 (ag b);have cf:=rZ (w.setCell ⟨g,0,none⟩ (ag b)) g 1 1 (c - 1) _ hs WC Tab;have hB:=fS g (Nat.le_refl g) (List.replicate 1 (ag 0)) 1 _ ((Below.refl g w).setCell (p:=⟨g,0,none⟩) (Nat.le_refl g) (ag b));generalize (w.setCell ⟨g,0,none⟩ (ag b)).setCells g 1 (List.replicate 1 (ag 0))=W at*;go_enter Tryz.func71,Tryz.ntmps71;go_wp2_with fail;refine KI.ae.mono ?_;rintro e w1 ⟨rfl,rfl⟩;open zer in exact Zcn
  ·rw[hb] at k2;have K1:=aa k2;clear k2;have cf:=rZ w g 0 2 c cs h WC WC;have hB:=fS g (Nat.le_refl g) (List.replicate 2 (ag 0)) 0 w (Below.refl g w);generalize w.setCells g 0 (List.replicate 2 (ag 0))=W at*;go_enter Tryz.func71,Tryz.ntmps71;go_wp2_with fail;refine KI.ae.mono ?_;rintro e w1 ⟨rfl,rfl⟩;open zes in exact Zcn
theorem Kq (g c:Nat)(a b:Int)(w:World)(c0:w.cell? ⟨g,0,none⟩=some (ag a))(c1:w.cell? ⟨g,1,none⟩=some (ag b))(ha:a≠0)(hb:b≠0):
  ar 71 #[aI g 2 c,.func (.func 73) #[] #[]] w λ e w'=>e=.returned (aI g 2 c)/\w=w':=by
 have ki:=tE g c a b w c0 c1;have e0:iM a b= -1:=by simp[iM,ha,hb]
 rw[e0] at ki;have KI:=aa ki;clear ki e0;go_enter Tryz.func71,Tryz.ntmps71;go_wp2_with fail;refine KI.ae.mono ?_;exact Zhr
theorem Ea (g c n:Nat)(hn:n<=1)(w:World):ar 74 #[aI g n c] w λ e w'=>e=.returned (aI g n c)/\w=w':=by
 have d1:decide ((n:Int)< 2)=true:=by simp;omega
 go_enter Tryz.func74,Tryz.ntmps74;exact Zc3
theorem zdU.KaL(h:p:=by clear fP y2 cV cQ;go_wp2_with fail;rw[rounds_succ];go_wp2_with fail;go_ret;exact⟨rfl,hL.mono (Nat.le_of_lt h.lt)⟩):p:=h
theorem zdV.KaL(h:p:=by clear fP y2 cV cQ;have h2:=h.later hL;have cf:=rZ w3 g 1 1 (c - 1) cs h2 WC WC;have hB:=fS g (Nat.le_refl g) (List.replicate 1 (ag 0)) 1 w3 (hL.mono (Nat.le_of_lt h.lt));generalize w3.setCells g 1 (List.replicate 1 (ag 0))=W3 at*;go_wp2_with fail;refine wp_loop_rounds 3 ?_;rw[rounds_succ];go_wp2_with fail;go_ret;exact⟨rfl,hB⟩):p:=h
theorem Kr (g c:Nat)(a b:Int)(cs:Array Value)(w:World)(h:aB w g 5 cs)(hsz:2<=cs.size)(h0:cs[0]?=some (ag a))(h1:cs[1]?=some (ag b))(hc:2<=c):
  ar 74 #[aI g 2 c] w λ e w'=>e=.returned (aI g (if a=b then 1 else 2) c)/\Below g w w':=by
 have cV:=λ y:Ext w.heap.size w=>((h.later y.h).cell 0).trans h0
 have cQ:=λ y:Ext w.heap.size w=>((h.later y.h).cell 1).trans h1
 cases hab:(b==a)
 ·have NU:¬a=b:=λ e=>by simp[e] at hab
  rw[if_neg NU];clear NU;go_enter Tryz.func74,Tryz.ntmps74;go_wp2_with fail;refine wp_loop_rounds 3 ?_;rw[rounds_succ];go_wp2_with fail;refine aM 10 w.heap.size w (Below.refl _ _) Va Va Va Va ?_;open zdU in exact ZbY
 ·have NU:a=b:=by have:=hab;simp at this;exact this.symm
  rw[if_pos NU];clear NU;go_enter Tryz.func74,Tryz.ntmps74;go_wp2_with fail;refine wp_loop_rounds 3 ?_;rw[rounds_succ];go_wp2_with fail;refine aM 10 w.heap.size w (Below.refl _ _) Va Va Va Va ?_;open zdV in exact ZbY
theorem oF:(Tryz.prog.info? 5).map (λ i=>(i.zero,i.size,i.bytes))=some (some (ag 0),1,1):=by exact Zgn
def TN (a b:Int)(w:World)(e:Ending)(w':World):Prop:=∃g c cs,e=.returned (aI g 2 c)/\w.heap.size<=g/\aB w' g 5 cs/\cs[0]?=some (ag a)/\cs[1]?=some (ag b)/\2<=cs.size/\2<=c/\aj w w'
theorem TP (p off c:Nat)(a b:Int)(w:World)(hp:p < w.heap.size)(h0:w.cell? ⟨p,off,none⟩=some (ag a))(h1:w.cell? ⟨p,off+1,none⟩=some (ag b)):
  ar 72 #[.slice (some ⟨p,off,none⟩) 2 c] w (TN a b w):=by
 obtain⟨i0,kR,hz0,hz1,hz2⟩:=info_parts oF;have hB:=ah w (.cells #[] 5);have hown:(w.alloc (.cells #[] 5)).ownsRow w.heap.size 5 1 (aI w.heap.size 0 0) 0 []:=⟨by simp,.inr ⟨w.heap.size,0,#[],rfl,Nat.le_refl _,heap_alloc_new w _,Nat.le_refl _,by unfold maxLen;omega,rfl,rfl⟩⟩
 have mq:Reads (w.alloc (.cells #[] 5)) w.heap.size 1 (some ⟨p,off,none⟩) 2 [ag a,ag b]:=by
  refine⟨rfl,λ _=>⟨_,rfl,hp,λ j u hu=>?_⟩⟩
  match j,hu with
  | 0,hu=>simp at hu;subst hu;exact(hB.cell (p:=⟨p,off,none⟩) hp).trans h0
  | 1,hu=>simp at hu;subst hu;exact(hB.cell (p:=⟨p,off+1,none⟩) hp).trans h1
  |(n+2),hu=>simp at hu
 have HW:=aa hown;have HR:=aa mq;clear hown mq;have hnil:(binOp .eql 97 (.slice (some ⟨p,off,none⟩) 2 c) (az)).run Tryz.prog w=.ok (.bool false) w:=Go.Lib.run_eql_slice_nil w 97 5 (some ⟨p,off,none⟩) 2 c 0 0 Tryz.underlying97;go_enter Tryz.func72,Tryz.ntmps72;go_wp2_with (first
  |(at_builtin
    refine cN _ rfl (.tmp 5) (.tmp 6) 97 rfl w.heap.size 5 i0 (ag 0) 1 1 Tryz.underlying97 kR hz0 hz1 hz2 rfl WC (aI w.heap.size 0 0) 0 [] rfl HW.ae w.heap.size (some ⟨p,off,none⟩) 2 c [ag a,ag b] rfl HR.ae (by simp[Value.oneCell']) Tam WC Tac ?_
    intro v2 w2 o2 g2 _
    have O2:=aa o2
    have G2:=aa g2
    clear o2 g2 HW HR))
 go_ret;rcases O2.ae.2 with ⟨_,hz⟩|⟨g,cap,cur,rfl,hb,hg,hn,hm,hs,ht⟩
 ·omega
 ·refine⟨g,cap,cur,rfl,hb,hg,?_,?_,by omega,hn,?_⟩
  ·have:=congrArg (λ l=>l[0]?) ht;simp at this;exact ZeU
  ·have:=congrArg (λ l=>l[1]?) ht;simp at this;exact ZeU
  ·refine hB.trans ⟨G2.ae.os,G2.ae.tape,G2.ae.output,G2.ae.size,λ k hk=>G2.ae.block k Tab λ e=>?_⟩;simp[Value.ownBlock] at e;omega
def cg (a b:Int):Bool:=a==0 || b==0 || a==b
theorem qN (p off c:Nat)(a b:Int)(w:World)(hp:p < w.heap.size)(h0:w.cell? ⟨p,off,none⟩=some (ag a))(h1:w.cell? ⟨p,off+1,none⟩=some (ag b)):
  ar 41 #[.slice (some ⟨p,off,none⟩) 2 c] w λ e w'=>e=.returned (.bool (cg a b))/\aj w w':=by
 go_enter Tryz.func41,Tryz.ntmps41;go_wp2_with fail;refine(TP p off c a b _ hp h0 h1).mono ?_;rintro e w1 ⟨g,c1,cs,rfl,hg,hb,e0,e1,hs,hc1,b1⟩;clear h0 h1;by_cases hz:a=0\/b=0
 ·go_wp2_with fail;refine(NT g c1 a b cs _ hb hs e0 e1 hc1 hz).mono ?_;rintro e w2 ⟨n,hn,rfl,b2⟩;go_wp2_with fail;refine(Ea g c1 n hn _).mono ?_;rintro e w3 ⟨rfl,rfl⟩;have d1:decide ((n:Int)<=1)=true:=by simp;omega
  have HG:=aa (show cg a b=true by rcases hz with rfl | rfl <;> simp[cg]);clear hz;go_wp2_with fail;go_ret;exact⟨by rw[HG.ae];rfl,b1.trans (b2.mono hg)⟩
 ·have ha:a≠0:=λ e=>hz (.inl e)
  have hb0:b≠0:=λ e=>hz (.inr e)
  have c0':=(hb.cell 0).trans e0;have c1':=(hb.cell 1).trans e1;go_wp2_with fail;refine(Kq g c1 a b _ c0' c1' ha hb0).mono ?_;rintro e w2 ⟨rfl,rfl⟩;clear c0' c1';go_wp2_with fail;refine(Kr g c1 a b cs _ hb hs e0 e1 hc1).mono ?_;rintro e w3 ⟨rfl,b3⟩;have HG:=aa (show cg a b=decide (a=b) by rw[Bool.eq_iff_iff];simp[cg,ha,hb0]);by_cases hab:a=b
  ·have HA:=aa hab;rw[if_pos hab];clear hab;go_wp2_with fail;go_ret;exact⟨by rw[HG.ae,decide_eq_true HA.ae];rfl,b1.trans (b3.mono hg)⟩
  ·have HA:=aa hab;rw[if_neg hab];clear hab;go_wp2_with fail;go_ret;exact⟨by rw[HG.ae,decide_eq_false HA.ae];rfl,b1.trans (b3.mono hg)⟩
theorem zgn.KbD(h:p:=by go_wp2_with fail;rw[rounds_succ];go_wp2_with fail;go_ret;exact⟨by rw[hg1];rfl,hB⟩):p:=h
theorem zfy.Kbk(h:p:=by clear x1 x3 c0 gN bN b2 hW2;open zgn in exact Zej):p:=h
theorem EZ (a wa gi:Int)(nu:Bool)(d:Value)(hd:d.oneCell'=true)(p off c:Nat)(k:Int)(w:World)(hp:p < w.heap.size)(h0:w.cell? ⟨p,off,none⟩=some (ag k)):
  ar 45 #[.agg #[af a,ag wa,ag gi,.bool false,.bool nu,d],.slice (some ⟨p,off,none⟩) 1 c] w λ e w'=>e=.returned (.bool (cg k wa))/\aj w w':=by have hB:=ah w (.cells #[af a,ag wa,ag gi,.bool false,.bool nu,d] 100);have hO:=aB.new w 100 #[af a,ag wa,ag gi,.bool false,.bool nu,d];have x1:=hO.cell 1;have x3:=hO.cell 3;simp only[Uaa] at x1 x3;have c0:=(hB.cell (p:=⟨p,off,none⟩) hp).trans h0;go_enter Tryz.func45,Tryz.ntmps45;go_wp2_with fail;generalize w.alloc (.cells #[af a,ag wa,ag gi,.bool false,.bool nu,d] 100)=W at*;refine wp_loop_rounds 2 ?_;open zfy in exact Zdw
theorem zgo.KbD(h:p:=by
 have c1:=(hB.cell (p:=⟨p,off+1,none⟩) hp).trans h1;go_wp2_with fail;rw[rounds_succ];go_wp2_with fail;have gN:=aB.new W2 5 #[ag j,ag wa];have bN:=ah W2 (.cells #[ag j,ag wa] 5);refine(qN W2.heap.size 0 2 j wa _ Tac (gN.cell 0) (gN.cell 1)).mono ?_;rintro e W3 ⟨rfl,b2⟩;have hW3:=ai.then bN b2;replace hB:=ai.then hB hW3;replace hO:=hO.later hW3;clear x1 x3 c0 c1 gN bN b2 hW3;cases hg2:cg j wa
 ·go_wp2_with fail;go_ret;exact⟨by rw[hg1,hg2];rfl,hB⟩
 have x1:=hO.cell 1;have x3:=hO.cell 3;simp only[Uaa] at x1 x3;have c0:=(hB.cell (p:=⟨p,off,none⟩) hp).trans h0;have c1:=(hB.cell (p:=⟨p,off+1,none⟩) hp).trans h1;go_wp2_with fail;rw[rounds_succ];cases al
 ·go_wp2_with fail;go_ret;exact⟨by rw[hg1,hg2];rfl,hB⟩
 ·go_wp2_with fail;refine(qN p off c k j _ (Nat.lt_of_lt_of_le hp hB.size) c0 c1).mono ?_;rintro e w9 ⟨rfl,b9⟩;go_wp2_with fail;go_ret;exact⟨by rw[hg1,hg2];rfl,ai.then hB b9⟩):p:=h
theorem zfz.Kbk(h:p:=by clear x1 x3 c0 c1 gN bN b2 hW2;open zgo in exact Zej):p:=h
theorem Fa (a wa gi:Int)(al nu:Bool)(d:Value)(hd:d.oneCell'=true)(p off c:Nat)(k j:Int)(w:World)(hp:p < w.heap.size)(h0:w.cell? ⟨p,off,none⟩=some (ag k))(h1:w.cell? ⟨p,off+1,none⟩=some (ag j)):
  ar 45 #[.agg #[af a,ag wa,ag gi,.bool al,.bool nu,d],.slice (some ⟨p,off,none⟩) 2 c] w λ e w'=>e=.returned (.bool (cg k wa &&(cg j wa &&(!al || cg k j))))/\aj w w':=by have hB:=ah w (.cells #[af a,ag wa,ag gi,.bool al,.bool nu,d] 100);have hO:=aB.new w 100 #[af a,ag wa,ag gi,.bool al,.bool nu,d];have x1:=hO.cell 1;have x3:=hO.cell 3;simp only[Uaa] at x1 x3;have c0:=(hB.cell (p:=⟨p,off,none⟩) hp).trans h0;have c1:=(hB.cell (p:=⟨p,off+1,none⟩) hp).trans h1;go_enter Tryz.func45,Tryz.ntmps45;go_wp2_with fail;generalize w.alloc (.cells #[af a,ag wa,ag gi,.bool al,.bool nu,d] 100)=W at*;refine wp_loop_rounds 3 ?_;open zfz in exact Zdw
theorem Eb (p off c:Nat)(k:Int)(w:World)(h0:w.cell? ⟨p,off,none⟩=some (ag k)):
  ar 80 #[.slice (some ⟨p,off,none⟩) 1 c,ag 0] w λ e w'=>e=.returned (af (if k=0 then 0 else -1))/\w=w':=by
 by_cases hk:k=0
 ·subst hk;go_enter Tryz.func80,Tryz.ntmps80;go_wp2_with fail;refine wp_loop_rounds 2 ?_;rw[rounds_succ];exact Zc3
 ·have hk2:((0:Int)==k)=false:=by rw[beq_eq_false_iff_ne];omega
  rw[if_neg hk];clear hk;go_enter Tryz.func80,Tryz.ntmps80;go_wp2_with fail;refine wp_loop_rounds 2 ?_;rw[rounds_succ];exact Zfr
theorem Ec (p off c:Nat)(k j:Int)(w:World)(h0:w.cell? ⟨p,off,none⟩=some (ag k))(h1:w.cell? ⟨p,off+1,none⟩=some (ag j)):
  ar 80 #[.slice (some ⟨p,off,none⟩) 2 c,ag 0] w λ e w'=>e=.returned (af (if k=0 then 0 else if j=0 then 1 else -1))/\w=w':=by
 by_cases hk:k=0
 ·subst hk;go_enter Tryz.func80,Tryz.ntmps80;go_wp2_with fail;refine wp_loop_rounds 3 ?_;rw[rounds_succ];exact Zc3
 ·have hk2:((0:Int)==k)=false:=by rw[beq_eq_false_iff_ne];omega
  rw[if_neg hk];clear hk;by_cases hj:j=0
  ·subst hj;go_enter Tryz.func80,Tryz.ntmps80;go_wp2_with fail;refine wp_loop_rounds 3 ?_;rw[rounds_succ];exact Zfr
  ·have hj2:((0:Int)==j)=false:=by rw[beq_eq_false_iff_ne];omega
   rw[if_neg hj];clear hj;go_enter Tryz.func80,Tryz.ntmps80;go_wp2_with fail;refine wp_loop_rounds 3 ?_;rw[rounds_succ];go_wp2_with fail;rw[rounds_succ];exact Zfr
theorem Ks (p off c:Nat)(k:Int)(w:World)(h0:w.cell? ⟨p,off,none⟩=some (ag k)):
  ar 46 #[.slice (some ⟨p,off,none⟩) 1 c,ag 0] w λ e w'=>e=.returned (.bool (k==0))/\w=w':=by
 have K:=aa (Eb p off c k w h0);go_enter Tryz.func46,Tryz.ntmps46;go_wp2_with fail;refine K.ae.mono ?_;rintro e w1 ⟨rfl,rfl⟩;by_cases hk:k=0
 ·subst hk;exact Zc3
 ·have hk2:(k==0)=false:=by simpa using hk
  rw[if_neg hk];go_wp2_with fail;go_ret;exact⟨by rw[hk2];rfl,rfl⟩
theorem Kt (p off c:Nat)(k j:Int)(w:World)(h0:w.cell? ⟨p,off,none⟩=some (ag k))(h1:w.cell? ⟨p,off+1,none⟩=some (ag j)):
  ar 46 #[.slice (some ⟨p,off,none⟩) 2 c,ag 0] w λ e w'=>e=.returned (.bool (k==0 || j==0))/\w=w':=by
 have K:=aa (Ec p off c k j w h0 h1);go_enter Tryz.func46,Tryz.ntmps46;go_wp2_with fail;refine K.ae.mono ?_;rintro e w1 ⟨rfl,rfl⟩;by_cases hk:k=0
 ·subst hk;exact Zc3
 ·have hk2:(k==0)=false:=by simpa using hk
  rw[if_neg hk];by_cases hj:j=0
  ·subst hj;go_wp2_with fail;go_ret;exact⟨by rw[hk2];rfl,rfl⟩
  ·have hj2:(j==0)=false:=by simpa using hj
   rw[if_neg hj];go_wp2_with fail;go_ret;exact⟨by rw[hk2,hj2];rfl,rfl⟩
def Ho (k:Nat)(wd:Int)(l:List Val):Val×Int:=
 match k,l with
 | 3,[a]=>XX a.n
 | 4,[a]=>(bE (a.n==0),0)
 | 5,[a,b]=>zv a.n b.n
 | 6,[a,b]=>zw a.n b.n
 | 7,[a,b]=>zx a.n b.n
 | 8,[a,b]=>zy a.n b.n
 | 9,[a,b]=>zz a.n b.n
 | 10,[a,b]=>(bE (decide (bM a b=0)),0)
 | 11,[a,b]=>(bE (!decide (bM a b=0)),0)
 | 12,[a,b]=>(bE (decide (bM a b < 0)),0)
 | 13,[a,b]=>(bE (decide (bM a b<=0)),0)
 | 14,[a,b]=>(bE (decide (0 < bM a b)),0)
 | 15,[a,b]=>(bE (decide (0<=bM a b)),0)
 | 16,l=>(lM false l,0)
 | 17,l=>(lM true l,0)
 | 18,[a]=>(bE ((a.k==0)==true),0)
 | 19,[a]=>(bE ((a.k==0)==false),0)
 | 20,[a]=>vn a.n wd
 | _,_=>(aN,0)
def asl (w:World)(d:Value)(x:Ex)(l:List Val)(r:Val×Int):Prop:=∃f Ku,d=.func (.func f) #[] Ku/\(Ku= #[]\/∃p,Ku= #[p])/\(∀(args:Array Value) (w:World),(callFunc f args).run Tryz.prog w=.ok (.enter f args) w)/\
 ∀(W:World) (A:Option Addr) (c:Nat),aj w W->RV W W.heap.size A l->ar f (#[.agg (ay x),.slice A l.length c]++Ku) W λ e w'=>e=.returned (bQ r.1 r.2)/\aj W w'
theorem Ye (args:Array Value)(w:World):(callFunc 108 args).run Tryz.prog w=.ok (.enter 108 args) w:=by exact Zgn
theorem Yf (args:Array Value)(w:World):(callFunc 110 args).run Tryz.prog w=.ok (.enter 110 args) w:=by exact Zgn
theorem Yg (args:Array Value)(w:World):(callFunc 128 args).run Tryz.prog w=.ok (.enter 128 args) w:=by exact Zgn
theorem qO (args:Array Value)(w:World):(callFunc 167 args).run Tryz.prog w=.ok (.enter 167 args) w:=by exact Zgn
theorem nM (args:Array Value)(w:World):(callFunc 169 args).run Tryz.prog w=.ok (.enter 169 args) w:=by exact Zgn
theorem Kv (args:Array Value)(w:World):(callFunc 170 args).run Tryz.prog w=.ok (.enter 170 args) w:=by exact Zgn
theorem Kw (args:Array Value)(w:World):(callFunc 172 args).run Tryz.prog w=.ok (.enter 172 args) w:=by exact Zgn
variable{k:Nat}{a wa gi:Int}{al nu:Bool}{d:Value}
theorem zaA.Kaa(h:p:=by obtain⟨u,rfl⟩:=one WC;exact⟨_,#[],rfl,.inl rfl,Ye,λ W A c hb hr=>aaU x A c u W hr⟩):p:=h
theorem zaB.Kaa(h:p:=by obtain⟨u,rfl⟩:=one WC;exact⟨_,#[],rfl,.inl rfl,Yf,λ W A c hb hr=>aaV x A c u W hr⟩):p:=h
theorem zaC.Kaa(h:p:=by obtain⟨u,v,rfl⟩:=two WC;exact⟨_,#[_],rfl,.inr ⟨_,rfl⟩,qO,λ W A c hb hr=>ags x A c q u v W hr (hq.later hb)⟩):p:=h
theorem zaD.Kaa(h:p:=by obtain⟨u,v,rfl⟩:=two WC;exact⟨_,#[_],rfl,.inr ⟨_,rfl⟩,qO,λ W A c hb hr=>agt x A c q u v W hr (hq.later hb)⟩):p:=h
theorem zaE.Kaa(h:p:=by obtain⟨u,v,rfl⟩:=two WC;exact⟨_,#[_],rfl,.inr ⟨_,rfl⟩,qO,λ W A c hb hr=>XZ x A c q u v W hr (hq.later hb)⟩):p:=h
theorem zaF.Kaa(h:p:=by obtain⟨u,v,rfl⟩:=two WC;exact⟨_,#[_],rfl,.inr ⟨_,rfl⟩,qO,λ W A c hb hr=>agu x A c q u v q2 W hr (hq.later hb) (lf.later hb)⟩):p:=h
theorem zaG.Kaa(h:p:=by obtain⟨u,v,rfl⟩:=two WC;exact⟨_,#[_],rfl,.inr ⟨_,rfl⟩,qO,λ W A c hb hr=>agv x A c q u v q2 W hr (hq.later hb) (lf.later hb)⟩):p:=h
theorem zaH.Kaa(h:p:=by obtain⟨u,v,rfl⟩:=two WC;exact⟨_,#[_],rfl,.inr ⟨_,rfl⟩,nM,λ W A c hb hr=>akK x A c q u v W hr (hq.later hb)⟩):p:=h
theorem zaI.Kaa(h:p:=by obtain⟨u,v,rfl⟩:=two WC;exact⟨_,#[_],rfl,.inr ⟨_,rfl⟩,nM,λ W A c hb hr=>akL x A c q u v W hr (hq.later hb)⟩):p:=h
theorem zaJ.Kaa(h:p:=by obtain⟨u,v,rfl⟩:=two WC;exact⟨_,#[_],rfl,.inr ⟨_,rfl⟩,nM,λ W A c hb hr=>akM x A c q u v W hr (hq.later hb)⟩):p:=h
theorem zaK.Kaa(h:p:=by obtain⟨u,v,rfl⟩:=two WC;exact⟨_,#[_],rfl,.inr ⟨_,rfl⟩,nM,λ W A c hb hr=>akN x A c q u v W hr (hq.later hb)⟩):p:=h
theorem zaL.Kaa(h:p:=by obtain⟨u,v,rfl⟩:=two WC;exact⟨_,#[_],rfl,.inr ⟨_,rfl⟩,nM,λ W A c hb hr=>akO x A c q u v W hr (hq.later hb)⟩):p:=h
theorem zaM.Kaa(h:p:=by obtain⟨u,v,rfl⟩:=two WC;exact⟨_,#[_],rfl,.inr ⟨_,rfl⟩,nM,λ W A c hb hr=>akP x A c q u v W hr (hq.later hb)⟩):p:=h
theorem zaN.Kaa(h:p:=by exact Zeu):p:=h
theorem zaO.Kaa(h:p:=by exact Zeu):p:=h
theorem zaP.Kaa(h:p:=by exact ZeX):p:=h
theorem zaQ.Kaa(h:p:=by exact ZeX):p:=h
theorem zaR.Kaa(h:p:=by obtain⟨u,rfl⟩:=one WC;exact⟨_,#[],rfl,.inl rfl,Yg,λ W A c hb hr=>TI x A c u W hr (hwd rfl).1 (hwd rfl).2 (aZ u Tac)⟩):p:=h
theorem gC.does(h:gC w k (.agg (cI a wa gi al nu d)))(x:Ex)(l:List Val)(hl:(l.length:Int)=a)(aZ:∀v∈l,v.Ok)(hwd:k=20->1<=x.width/\x.width<=1099511627776):asl w d x l (Ho k x.width l):=by
 have two:a=2->∃u v,l=[u,v]:=λ e=>by
  match l,hl with
  | [u,v],_=>exact⟨u,v,rfl⟩
  | [],h=>simp at h;omega
  | [u],h=>simp at h;omega
  | u::v::z::r,h=>simp at h;omega
 have one:a=1->∃u,l=[u]:=λ e=>by
  match l,hl with
  | [u],_=>exact⟨u,rfl⟩
  | [],h=>simp at h;omega
  | u::v::r,h=>simp at h;omega
 unfold gC at h;split at h
 ·open zaA in exact Zan
 ·open zaB in exact Zan
 ·obtain⟨q,h,hq⟩:=h;open zaC in exact Zan
 ·obtain⟨q,h,hq⟩:=h;open zaD in exact Zan
 ·obtain⟨q,h,hq⟩:=h;open zaE in exact Zan
 ·obtain⟨q,q2,h,hq,lf⟩:=h;open zaF in exact Zan
 ·obtain⟨q,q2,h,hq,lf⟩:=h;open zaG in exact Zan
 ·obtain⟨q,h,hq⟩:=h;open zaH in exact Zan
 ·obtain⟨q,h,hq⟩:=h;open zaI in exact Zan
 ·obtain⟨q,h,hq⟩:=h;open zaJ in exact Zan
 ·obtain⟨q,h,hq⟩:=h;open zaK in exact Zan
 ·obtain⟨q,h,hq⟩:=h;open zaL in exact Zan
 ·obtain⟨q,h,hq⟩:=h;open zaM in exact Zan
 ·obtain⟨q,h,hq⟩:=h;open zaN in exact Zan
 ·obtain⟨q,h,hq⟩:=h;open zaO in exact Zan
 ·obtain⟨q,h,hq⟩:=h;open zaP in exact Zan
 ·obtain⟨q,h,hq⟩:=h;open zaQ in exact Zan
 ·open zaR in exact Zan
 ·exact h.elim
section
variable {α:Type} {f:α->List Value} {e:TypeId} {size:Nat} {base:Nat} {lv:Value} {l:List α} {y:α}
structure AR (f:α->List Value) (e:TypeId) (size base:Nat) (lv:Value) (l:List α) (y:α) (a b:World):Prop where
 grown:a.grownBy b lv.ownBlock
 old:aF f e size a base lv l->aF f e size b base lv l
 new:∀u,aF f e size a base u (l++ [y])->aF f e size b base u (l++ [y])
theorem AR.refl (w:World):AR f e size base lv l y w w:=⟨⟨rfl,rfl,rfl,Nat.le_refl _,λ _ _ _=>rfl⟩,id,λ _=>id⟩
theorem AR.trans {a b c:World}(h:AR f e size base lv l y a b)(k:AR f e size base lv l y b c):AR f e size base lv l y a c:=
 ⟨h.grown.trans k.grown,λ o=>k.old (h.old o),λ u o=>k.new u (h.new u o)⟩
theorem AR.later {a b:World}(h:aj a b):AR f e size base lv l y a b:=
 ⟨⟨h.os,h.tape,h.output,h.size,λ k hk _=>h.block k hk⟩,λ o=>o.later h,λ u o=>o.later h⟩
theorem AR.drew (w:World):AR f e size base lv l y w w.drew:=AR.later (ai.drew w)
theorem fc {P:Program} {w:World}(t ty:TypeId)(z:Value)(bytes:Nat)(ht:P.underlying t=some (.slice e))(jr:(P.info? e).map (λ i=>(i.zero,i.size,i.bytes))=some (some z,size,bytes))(hzs:z.cells.size=size)(hsz:0 < size)
  (hf:∀x,(f x).length=size) (h1:∀u∈f y,u.oneCell'=true) (hown:aF f e size w base lv l)
  (g0:Nat) (hg0:aB w g0 e (f y).toArray) (hlen:(l.length+1)*bytes<=140737488355328) (mD:l.length+1<=140737488355328) (hbase:base<=w.heap.size):
  ∃v' w',(Builtin.append_ #[t,t] ty #[lv,aI g0 1 1]).run P w=.ok v' w'/\aF f e size w' base v' (l++ [y])/\AR f e size base lv l y w w':=by
 obtain⟨i0,kR,hz0,hz1,hz2⟩:=info_parts jr
 have hnews:∀j u,(f y)[j]?=some u->w.cell? ((⟨g0,0,none⟩:Addr).add j)=some u:=by
  intro j u hu;have:(Addr.add ⟨g0,0,none⟩ j)=⟨g0,j,none⟩:=by unfold Addr.add;split <;> simp_all
  rw[this,hg0.cell];simpa using hu
 have ft:(f y).length=1*size:=by rw[hf];omega
 have conv:∀ {w':World} {v':Value},w'.ownsRow base e size v' (l.length+1) (l.flatMap f++f y)->aF f e size w' base v' (l++ [y]):=λ h=>by unfold aF;rw[length_append,flatMap_append];simpa using h
 by_cases hroom:∃g cap,lv=aI g l.length cap/\l.length+1<=cap
 ·obtain⟨g,cap,rfl,hr⟩:=hroom;obtain⟨w',hrun,ho,hg⟩:=run_append_fits (P:=P) w base t ty e i0 size ht kR hz1 g l.length cap (l.flatMap f) hown ⟨g0,0,none⟩ 1 1 (f y) ft hnews h1 hr;refine⟨_,w',hrun,conv ho,hg,λ _=>?_,λ u hu=>?_⟩
  ·rcases ho.2 with ⟨h,_⟩|⟨g',cap',cur,h,hbg,eh,hn,hm,hs,ht'⟩
   ·cases h
   ·injection h with xf Ed h3';injection xf with xf;injection xf with xf _ _;subst xf h3';refine⟨hown.1,.inr ⟨g,cap,cur,rfl,hbg,eh,by omega,hm,hs,?_⟩⟩;have hx:=congrArg (List.take (l.length*size)) ht';rw[take_take,Nat.min_eq_left (Nat.mul_le_mul_right _ WC),take_append_of_le_length (Nat.le_of_eq hown.1.symm)] at hx;rw[hx];exact take_of_length_le (Nat.le_of_eq hown.1)
  ·by_cases hb:u.ownBlock=some g
   ·rcases hu.2 with ⟨rfl,_⟩|⟨g',cap',cur,rfl,hbg,eh,hn,hm,hs,ht'⟩
    ·simp[Value.ownBlock] at hb
    ·simp only[Value.ownBlock,Option.some.injEq] at hb;subst hb;rcases hown.2 with ⟨h,_⟩|⟨g2,agB,azL,h,_,TQ,_,_,hs2,_⟩
     ·cases h
     ·injection h with xf Ed h3';injection xf with xf;injection xf with xf _ _;subst xf h3';rw[eh] at TQ;injection TQ with TQ;injection TQ with TQ _ _;subst TQ;have asm:cap'=cap:=Nat.eq_of_mul_eq_mul_right hsz (hs.symm.trans hs2);subst asm;have:=conv ho;rw[length_append];exact this
   ·exact hu.keep λ q hq=>hg.block q (hu.lt hq).1 λ e=>hb (by rw[hq];exact e)
 ·obtain⟨v',w',hrun,ho,hg,_,hat⟩:=run_append_own_at (P:=P) w base t ty e i0 z size bytes ht kR hz0 hz1 hz2 hzs hsz lv l.length (l.flatMap f) hown ⟨g0,0,none⟩ 1 1 (f y) ft hnews h1 Tam hlen hbase
  have asn:aj w w':=by
   rcases hown.2 with ⟨rfl,h0⟩|⟨g,cap,cur,rfl,hbg,eh,hn,hm,hs,lN⟩
   ·have hr:=run_append_nil (P:=P) w t ty e i0 z ht kR hz0 ⟨g0,0,none⟩ 1 1 (f y) (by rw[hz1];exact ft) hnews WC WC (by rw[hz2];have:1*bytes<=(l.length+1)*bytes:=Nat.mul_le_mul_right _ WC;omega);exact Zf2
   ·have hno:¬l.length+1<=cap:=λ h=>hroom ⟨g,cap,rfl,h⟩
    have holds:∀j u,(l.flatMap f)[j]?=some u->w.cell? ((⟨g,0,none⟩:Addr).add j)=some u:=World.ownsRow.cells hown (g:=g) rfl;have hr:=run_append_grow (P:=P) w t ty e i0 z ht kR hz0 ⟨g,0,none⟩ l.length cap (l.flatMap f) (by rw[hz1];exact hown.1) holds ⟨g0,0,none⟩ 1 1 (f y) (by rw[hz1];exact ft) hnews WC WC (by rw[hz2];exact growslice_fits WC hlen);exact Zf2
  exact⟨v',w',hrun,conv ho,AR.later asn⟩
end
def aV (v:Val):List Value:=[ag v.k,af v.n,.string v.s]
def dP (k:Int):List Value:=[ag k]
theorem lO:(Tryz.prog.info? 44).map (λ i=>(i.zero,i.size,i.bytes))=some (some (.agg #[ag 0,af 0,au]),3,32):=by exact Zgn
theorem dQ (b off n:Nat):Addr.add ⟨b,off,none⟩ n=⟨b,off+n,none⟩:=by
 unfold Addr.add;split
 ·rename_i h;subst h;rfl
 ·rfl
variable{α:Type}{f:α->List Value}{size:Nat}
theorem Rz(hf:∀x,(f x).length=size):∀(l:List α) (i j:Nat) (x:α),l[i]?=some x->j < size->(l.flatMap f)[i*size+j]?=(f x)[j]?
 | [],i,j,x,h,hj=>by simp at h
 | y::l,0,j,x,h,hj=>by simp at h;subst h;simp only[flatMap_cons,Nat.zero_mul,Nat.zero_add];rw[getElem?_append_left (by rw[hf];exact hj)]
 | y::l,i+1,j,x,h,hj=>by have:=Rz hf l i j x Tak hj;simp only[flatMap_cons];rw[getElem?_append_right (by rw[hf,Nat.succ_mul];omega),hf,<- this];congr 1;rw[Nat.succ_mul];omega
variable{e:TypeId}{base:Nat}{v:Value}{l:List α}
theorem ek(hf:∀x,(f x).length=size)    (h:aF f e size w base v l):
  ∃A c,v=.slice A l.length c/\(l=[]\/∃g,A=some ⟨g,0,none⟩/\g < w.heap.size/\∀i x j u,l[i]?=some x->j < size->(f x)[j]?=some u->w.cell? ⟨g,i*size+j,none⟩=some u):=by
 obtain⟨A,c,rfl,hr,_,hA⟩:=h.reads;refine⟨A,c,rfl,?_⟩;rcases hA with rfl |⟨g,rfl,hg⟩
 ·exact .inl rfl
 ·rcases eq_nil_or_concat l with rfl | hne
  ·exact .inl rfl
  ·have TR:0 < l.length:=by obtain⟨_,_,rfl⟩:=hne;simp
   obtain⟨ad,e,hb,hc⟩:=hr.2 TR;injection e with e;subst e;refine .inr ⟨g,rfl,hb,λ i x j u hx hj hu=>?_⟩;have:=hc (i*size+j) u ((Rz hf l i j x hx hj).trans hu);rw[dQ] at this;exact ZeU
theorem Hp{l:List Val}(h:aF aV 44 3 w base v l):∃A c,v=.slice A l.length c/\RV w w.heap.size A l:=by
 obtain⟨A,c,rfl,hc⟩:=ek (f:=aV) (size:=3) (λ _=>rfl) h;refine⟨A,c,rfl,?_⟩;rcases hc with hc |⟨g,rfl,hg,hc⟩
 ·exact .inl hc
 ·refine .inr ⟨g,0,rfl,hg,λ i x hx=>?_⟩;have k:=λ j u hj hu=>hc i x j u hx hj hu
  exact⟨by simpa using k 0 _ WC rfl,by simpa using k 1 _ WC rfl,by simpa using k 2 _ WC rfl⟩
def tP (op:Int):Int:=if op=4\/op=16\/op=17 then 1 else if 10<=op/\op<=15\/op=18\/op=19 then 0 else 2
def tQ (op:Int):Int:=if op=4\/10<=op/\op<=19 then 1 else 2
def tR (op:Int):Bool:=decide (10<=op/\op<=15)
def AV (op:Int):Bool:=decide (16<=op/\op<=19)
theorem gC.fields(h:gC w k (.agg (cI a wa gi al nu d))):wa=tP k/\gi=tQ k/\al=tR k/\nu=AV k:=by
 unfold gC at h;split at h
 all_goals first
  | exact h.elim
  |(simp[eT,cI] at h;simp[tP,tQ,tR,AV];simp_all)
  |(obtain⟨q,q2,h1,_⟩:=h;simp[eT,cI] at h1;simp[tP,tQ,tR,AV];simp_all)
  |(obtain⟨q,h1,_⟩:=h;simp[eT,cI] at h1;simp[tP,tQ,tR,AV];simp_all)
variable{x:Ex}
theorem AW(h:bP x=0)(h2:x.op≠2)(h1:x.op≠1):kF x.op=true/\(x.n:Int)=qL x.op/\(x.op=20->1<=x.width/\x.width<=1099511627776):=by
 unfold bP at h;rw[if_neg (by simp[h1,h2])] at h;split at h
 ·rename_i hc;refine⟨hc.1,hc.2.1,λ e=>?_⟩;rcases hc.2.2 with h3 | h3
  ·exact absurd e h3
  ·exact h3
 ·split at h <;> omega
variable{op:Int}{xv:Val}{width:Int}{A:Option Addr}
theorem se{name:ByteArray}     {c:Nat}(h:bP ⟨op,xv,name,width,A,l.length,c⟩=0)(h2:op=2):l=[]:=by
 subst h2;unfold bP at h;split at h
 ·rename_i hc;rcases hc with ⟨h3,_⟩|⟨_,h3⟩
  ·exact absurd h3 (show¬((2:Int)=1) by decide)
  ·exact eq_nil_of_length_eq_zero h3
 ·split at h
  ·rename_i hc;exact absurd hc.1 (show¬(kF 2=true) by decide)
  ·split at h <;> omega
def gM (op:Int):List Int->Bool
 | [k]=>cg k (tP op)
 | [k,j]=>cg k (tP op)&&(cg j (tP op)&&(!tR op || cg k j))
 | _=>false
def iN (op width:Int)(vs:List Val):Val×Int:=
 if gM op (vs.map (·.k))=false then(aN,40)else if AV op=false/\(vs.map (·.k)).any (· ==0)=true then(aN,0)else Ho op.toNat width vs
def pO (x:Ex)(vs:List Val):Val×Int:=
 if bP x≠0 then(aN,bP x)else if x.op=1 then(x.v,0)else iN x.op x.width vs
def evV (base:Nat)(lv kv:Value)(vs:List Val)(v:Val)(g:Nat):Nat->World->Value->Prop
 | 0=>λ _ u=>u=lv
 | 1=>λ _ u=>u=.agg (aD v)
 | 2=>λ w u=>∃q,u=aI q 1 1/\aB w q 44 (aV v).toArray/\some q≠lv.ownBlock
 | 3=>λ w u=>aF aV 44 3 w base u (vs++ [v])
 | 4=>λ _ u=>u=kv
 | 5=>λ _ u=>u=aw g
 | 6=>λ _ u=>u=ag v.k
 | 7=>λ w u=>∃q,u=aI q 1 1/\aB w q 5 (dP v.k).toArray/\some q≠lv.ownBlock
 | _=>λ _ _=>True
theorem Fb (base:Nat)(lv kv:Value)(vs:List Val)(v:Val)(g:Nat)(i:Nat)(w w':World)(u:Value)(h:evV base lv kv vs v g i w u)(hr:AR aV 44 3 base lv vs v w w'):evV base lv kv vs v g i w' u:=by
 unfold evV at*;split at h
 ·exact h
 ·exact h
 ·exact Zg8
 ·exact hr.new _ h
 ·exact h
 ·exact h
 ·exact h
 ·exact Zg8
 ·trivial
theorem alh(h:l.length=1):∃p,l=[p]:=by
 match l,h with
 | [p],_=>exact⟨p,rfl⟩
theorem ali(h:l.length=2):∃p q,l=[p,q]:=by
 match l,h with
 | [p,q],_=>exact⟨p,q,rfl⟩
variable{β:Type}{f':β->List Value}{e':TypeId}{size' base':Nat}{u u':Value}{l':List β}{q:Nat}
theorem aF.differ(h:aF f e size w base u l)(h':aF f' e' size' w base' u' l')(ht:e≠e') (hq:u.ownBlock=some q):some q≠u'.ownBlock:=by intro hq';obtain⟨_,_,c1,h1⟩:=h.lt hq;obtain⟨_,_,c2,h2⟩:=h'.lt hq'.symm;exact ZgU
theorem aF.past(h:aF f e size w base u l)(h':aF f' e' size' w base' u' l')(hne:e≠e')(hg:w.grownBy w' u'.ownBlock):aF f e size w' base u l:=
 h.keep λ q hq=>hg.block q (h.lt hq).1 (h.differ h' hne hq)
def cw (w:World)(b off:Nat)(y:Ex):Prop:=
 w.cell? ⟨b,off,none⟩=some (ag y.op)/\w.cell? ⟨b,off+1,none⟩=some (ag y.v.k)/\w.cell? ⟨b,off+2,none⟩=some (af y.v.n)/\w.cell? ⟨b,off+3,none⟩=some (.string y.v.s)/\
 w.cell? ⟨b,off+4,none⟩=some (.string y.name)/\w.cell? ⟨b,off+5,none⟩=some (af y.width)/\w.cell? ⟨b,off+6,none⟩=some (.slice y.A y.n y.c)
variable{b off:Nat}
theorem cw.keep(h:cw w b off x)(hk:∀o,w'.cell? ⟨b,o,none⟩=w.cell? ⟨b,o,none⟩):cw w' b off x:=by unfold cw at*;simp only[hk];exact h
def RE (w:World)(B:Nat)(A:Option Addr)(l:List Ex):Prop:=
 l=[]\/∃b off,A=some ⟨b,off,none⟩/\b < B/\∀i x,l[i]?=some x->cw w b (off+i*7) x
theorem RE.below{l:List Ex}(h:RE w B A l)(hb:Below B w w'):RE w' B A l:=by exact Zcu
variable{B':Nat}
theorem RE.more{l:List Ex}(h:RE w B A l)(hB:B<=B'):RE w B' A l:=by exact ZdJ
theorem RE.at_{l:List Ex}(h:RE w B A l) (hk:k < l.length):∃b off,A=some ⟨b,off,none⟩/\b < B/\cw w b (off+k*7) l[k]:=by exact Zb3
def jB (w:World)(cV rV:Value)(y:Ex)(v:Val)(e:Int):Prop:=∀W,aj w W->ar 17 #[.agg (ay y),cV,rV] W λ en w'=>en=.returned (bQ v e)/\aj W w'
theorem zb6.Kao(h:p:=by exact Zbs):p:=h
theorem zb7.Kao(h:p:=by exact Zbs):p:=h
theorem zb8.Kao(h:p:=by exact Zbq):p:=h
theorem zb9.Kao(h:p:=by exact Zbq):p:=h
theorem zeB.KaY(h:p:=by
 refine(Ks g9 0 c9 v1.k _ TV).mono ?_;rintro e w4 ⟨rfl,rfl⟩;cases hz:(v1.k==0)
 ·have MY:=aa (Nl.ae _ (show iN op width [v1]=Ho op.toNat width [v1] by unfold iN;simp only[map_cons,map_nil];rw[sW.ae,hs,if_neg Tac,if_neg Tal]));open zb6 in exact ZaH
 ·exact Zcj):p:=h
theorem zfh.Kbc(h:p:=by
 replace vr:=Nat.lt_of_lt_of_le vr b2.size;clear b2;have sW:eZ (gM op [v1.k]=cg v1.k wa):=by have LE:=HWA.ae;have Nm:=Ag.ae;show gM _ _=_;simp only[gM,<- LE,<- Nm]
 cases hs:cg v1.k wa
 ·exact ZaW
 ·cases Z3:nu
  ·open zeB in exact Zcs
  ·subst Z3;have MY:=aa (Nl.ae _ (show iN op width [v1]=Ho op.toNat width [v1] by unfold iN;simp only[map_cons,map_nil];rw[sW.ae,hs,if_neg Tac,if_neg (by have:=HGI.ae;simp[<- this])]));open zb7 in exact ZaH):p:=h
theorem zex.KaX(h:p:=by have TV:=(tF.ae.cell (p:=⟨g9,0,none⟩) kG).trans (tG 0 v1.k 0 _ rfl WC rfl);have vr:=Nat.lt_of_lt_of_le kG tF.ae.size;clear tG tF;go_wp2_with fail;refine(EZ a wa gi nu d jU g9 0 c9 v1.k _ vr TV).mono ?_;open zfh in exact Zc2):p:=h
theorem zeC.KaY(h:p:=by
 refine(Kt g9 0 c9 v1.k v2.k _ TV kc2).mono ?_;rintro e w4 ⟨rfl,rfl⟩;cases hz:(v1.k==0 || v2.k==0)
 ·have MY:=aa (Nl.ae _ (show iN op width [v1,v2]=Ho op.toNat width [v1,v2] by unfold iN;simp only[map_cons,map_nil];rw[sW.ae,hs,if_neg Tac,if_neg Tal]));open zb8 in exact ZaH
 ·exact Zcj):p:=h
theorem zfi.Kbc(h:p:=by
 replace kc2:=(b2.cell (p:=⟨g9,1,none⟩) vr).trans kc2;replace vr:=Nat.lt_of_lt_of_le vr b2.size;clear b2;have sW:eZ (gM op [v1.k,v2.k]=(cg v1.k wa &&(cg v2.k wa &&(!al || cg v1.k v2.k)))):=by have LE:=HWA.ae;have Nm:=Ag.ae;show gM _ _=_;simp only[gM,<- LE,<- Nm]
 cases hs:(cg v1.k wa &&(cg v2.k wa &&(!al || cg v1.k v2.k)))
 ·exact ZaW
 ·cases Z3:nu
  ·open zeC in exact Zcs
  ·subst Z3;have MY:=aa (Nl.ae _ (show iN op width [v1,v2]=Ho op.toNat width [v1,v2] by unfold iN;simp only[map_cons,map_nil];rw[sW.ae,hs,if_neg Tac,if_neg (by have:=HGI.ae;simp[<- this])]));open zb9 in exact ZaH):p:=h
theorem zey.KaX(h:p:=by have TV:=(tF.ae.cell (p:=⟨g9,0,none⟩) kG).trans (tG 0 v1.k 0 _ rfl WC rfl);have kc2:=(tF.ae.cell (p:=⟨g9,1,none⟩) kG).trans (tG 1 v2.k 0 _ rfl WC rfl);have vr:=Nat.lt_of_lt_of_le kG tF.ae.size;clear tG tF;go_wp2_with fail;refine(Fa a wa gi al nu d jU g9 0 c9 v1.k v2.k _ vr TV kc2).mono ?_;open zfi in exact Zc2):p:=h
theorem zhd.KbV(h:p:=by
 have Nl:eZ (∀r,iN op width (args.map (·.2))=r->pO ⟨op,xv,name,width,A,args.length,c⟩ (args.map (·.2))=r):=λ r hr=>by unfold pO;rw[if_neg Ta6,if_neg H1.ae];exact hr
 clear hwa xh Z3 TU nk Hs agC hOp HOI HWD hwd h1 mF oH;rcases agE with ⟨hlen,rfl⟩| hlen
 ·obtain⟨⟨y1,v1⟩,rfl⟩:=alh hlen;open zex in exact Zcr
 ·obtain⟨⟨y1,v1⟩,⟨y2,v2⟩,rfl⟩:=ali hlen;open zey in exact Zcr):p:=h
theorem zdx.KaG(h:p:=by have TU:=hOp.args;rw[RD] at Ht TU;obtain⟨hwa,hgi,xh,Z3⟩:=Ht;clear hgi;have HWD:=aa hwd;have HD:=aa (hOp.does ⟨op,xv,name,width,A,args.length,c⟩ (args.map (·.2)) (by rw[length_map,TU];exact nk) (λ u hu=>by obtain⟨z,hz,rfl⟩:=List.mem_map.1 hu;exact aso.ae z hz) (λ e=>HWD.ae (by rw[<- RD,e];rfl)));have Z4:=HD;have HDB:=aa (Below.refl _ _:Below (W3.alloc (.cells #[af a,ag wa,ag gi,.bool al,.bool nu,d] 100)).heap.size (W3.alloc (.cells #[af a,ag wa,ag gi,.bool al,.bool nu,d] 100)) (W3.alloc (.cells #[af a,ag wa,ag gi,.bool al,.bool nu,d] 100)));clear HD;open zhd in exact Ze9):p:=h
theorem zfA.Kbl(h:p:=by
 replace k1:=k1.later KK;replace cJ:=cJ.later KK;replace hB:=ai.then hB KK;replace AZ:=aa ((AZ.ae.below KK).more KK.size);have hR:=aB.new W3 100 #[af a,ag wa,ag gi,.bool al,.bool nu,d];have alk:=TS.later (ah W3 (.cells #[af a,ag wa,ag gi,.bool al,.bool nu,d] 100));have HOI:=aa alk;have tF:=aa KK;clear TS alk b1 KK hd;generalize b3:bP ⟨op,xv,name,width,A,args.length,c⟩=fe;have mF:=aa b3;clear b3;have z0:=k1.cell 0;have z1:=k1.cell 1;have x2:=k1.cell 2;have x3:=k1.cell 3;have x4:=k1.cell 4;have x5:=k1.cell 5;have x6:=k1.cell 6;have x0:=hR.cell 0;have x1:=hR.cell 1;have z2:=hR.cell 2;have z3:=hR.cell 3;have z4:=hR.cell 4;have z5:=hR.cell 5;simp only[Uaa] at z0 z1 x2 x3 x4 x5 x6 x0 x1 z2 z3 z4 z5;have dv:=aG cJ;have gV:=aB.frozen cJ;by_cases hf:fe=0
 ·subst hf;by_cases h1:op=1
  ·have HQ:=aa (show pO ⟨op,xv,name,width,A,args.length,c⟩ (args.map (·.2))=(xv,0) by unfold pO;rw[if_neg Ta6,if_pos h1]);have t1:(op==1)=true:=by simpa using h1
   clear h1;exact Zd9
  ·open zdx in exact ZbH
 ·have HQ:=aa (show pO ⟨op,xv,name,width,A,args.length,c⟩ (args.map (·.2))=(aN,fe) by unfold pO;rw[if_pos (by rw[mF.ae];exact hf),mF.ae]);have t1:(fe != 0)=true:=by simpa using hf
  clear hf;go_wp2_with fail;exact bodyPost_ret (v:=.tuple #[.agg #[ag 0,af 0,.string ByteArray.empty],af fe]) Taf rfl ⟨by rw[HQ.ae];rfl,((hB.setCell bI _).setCell bI _).setCell bI _⟩):p:=h
theorem zbh.Kaf(h:p:=by have oH:eZ (pO ⟨op,xv,name,width,A,args.length,c⟩ (args.map (·.2))=pO ⟨op,xv,name,width,A,args.length,c⟩ (args.map (·.2))):=rfl;go_wp2_with fail;refine(vq ⟨op,xv,name,width,A,args.length,c⟩ _).mono ?_;rintro e W3 ⟨oo,rfl,TS,b1⟩;clear z0 z1 x2 x3 x4 x5 x6;open zfA in exact Zdy):p:=h
theorem zf2.Kbw(h:p:=by
 have LT:=aB.new (w.alloc (.cells #[ag op,ag xv.k,af xv.n,.string xv.s,.string name,af width,.slice A args.length c] 46)) 44 #[ag 0,af 0,au];rw[World.size_alloc] at LT;have Kx:=ai.then (ah w (.cells #[ag op,ag xv.k,af xv.n,.string xv.s,.string name,af width,.slice A args.length c] 46)) (ah _ (.cells #[ag 0,af 0,au] 44));clear x6;generalize (w.alloc (.cells #[ag op,ag xv.k,af xv.n,.string xv.s,.string name,af width,.slice A args.length c] 46)).alloc (.cells #[ag 0,af 0,au] 44)=W at*;have bI:w.heap.size<=w.heap.size+1:=by omega
 generalize w.heap.size+1=g at*;go_loopw [8,9,20] (λ lv kv i wr=>∃k:Nat,k<=args.length/\i=af k/\aF aV 44 3 wr W.heap.size lv ((args.take k).map (·.2))/\aF dP 5 1 wr W.heap.size kv ((args.take k).map (·.2.k))/\aj W wr) (λ _ _ i _=>args.length - (intOf i).toNat);case atStart=>exact⟨0,Nat.zero_le _,rfl,aF.nil,aF.nil,Below.refl _ _⟩
 case round=>
  obtain⟨k,hk,rfl,hO,hK,hb⟩:=hrel;have HO:=aa hO;have HK:=aa hK;clear hO hK;rcases Nat.lt_or_ge k args.length with hlt | ve
  ·obtain⟨b,off,rfl,kz,hex⟩:=(HA.ae.below (Kx.trans (hb.mono Kx.size))).at_ (show k <(args.map (·.1)).length by simpa using hlt);have js:(args.map (·.1))[k]' Tan=args[k].1:=by simp
   exact Zac
  ·have lN:args.take k=args:=take_of_length_le ve;rw[lN] at HO HK;clear lN;obtain⟨A8,c8,hu8,HP⟩:=Hp HO.ae;obtain⟨A9,c9,hu9,Mp⟩:=ek (f:=dP) (size:=1) (λ _=>rfl) HK.ae;rw[length_map] at hu8 hu9;subst hu8 hu9;have k1:=HX.later hb;have cJ:=LT.later hb;have hB:=ai.then Kx hb;clear HO HK HX LT Kx;have AZ:=aa HP;have HKC:=aa Mp;clear HP Mp;open zbh in exact Zav):p:=h
theorem Yh (op:Int)(xv:Val)(name:ByteArray)(width:Int)(A:Option Addr)(c:Nat)(cV rV:Value)(args:List (Ex×Val))(oG:op≠2\/args≠ [])(aZ:∀a∈args,a.2.Ok)(w:World)(hl:args.length<=1599289640356)(hA:RE w w.heap.size A (args.map (·.1)))(hE:∀a∈args,jB w cV rV a.1 a.2 0):
  ar 17 #[.agg #[ag op,ag xv.k,af xv.n,.string xv.s,.string name,af width,.slice A args.length c],cV,rV] w λ en w'=>en=.returned (bQ (pO ⟨op,xv,name,width,A,args.length,c⟩ (args.map (·.2))).1 (pO ⟨op,xv,name,width,A,args.length,c⟩ (args.map (·.2))).2)/\aj w w':=by have Hq:=aa oG;have aso:=aa aZ;clear oG aZ;have HA:=aa hA;have HE:=aa hE;clear hA hE;go_enter Tryz.func17,Tryz.ntmps17;have HX:=(aB.new w 46 #[ag op,ag xv.k,af xv.n,.string xv.s,.string name,af width,.slice A args.length c]).alloc (.cells #[ag 0,af 0,au] 44);open zf2 in exact Zd5
theorem zd4.KaO(h:p:=by
 have js:(args.map (·.1)++bad::post)[k]' Tab=args[k].1:=by rw[getElem_append_left Tan];simp
 exact Zac):p:=h
theorem zh7.Kcj(h:p:=by
 have bG:=ah W3 (.cells #[ag 0,af 0,.string ByteArray.empty] 44);have hb2:=ai.then hb (ai.then (ai.then bY b1) bG);have cJ:=hR.later hb2;have eD:=ai.then Kx hb2;have dv:=aG cJ;have gV:=aB.frozen cJ;have te:(er != 0)=true:=by have:=Oa.ae;simpa using this
 clear gu hex bY b1 bG hb2 cJ HX hR Kx hb;unfold bQ aN;go_wp2_with fail;exact bodyPost_ret (v:=.tuple #[.agg #[ag 0,af 0,.string ByteArray.empty],af er]) Taf rfl ⟨rfl,((eD.setCell bI _).setCell bI _).setCell bI _⟩):p:=h
theorem zhf.KbW(h:p:=by clear js fw HO HK;open zh7 in exact ZgD):p:=h
theorem zd5.KaO(h:p:=by open zhf in exact Zfa):p:=h
theorem zf3.Kbw(h:p:=by
 have hR:=aB.new (w.alloc (.cells #[ag op,ag xv.k,af xv.n,.string xv.s,.string name,af width,.slice A n c] 46)) 44 #[ag 0,af 0,au];rw[World.size_alloc] at hR;have Kx:=ai.then (ah w (.cells #[ag op,ag xv.k,af xv.n,.string xv.s,.string name,af width,.slice A n c] 46)) (ah _ (.cells #[ag 0,af 0,au] 44));clear x6;generalize (w.alloc (.cells #[ag op,ag xv.k,af xv.n,.string xv.s,.string name,af width,.slice A n c] 46)).alloc (.cells #[ag 0,af 0,au] 44)=W at*;have bI:w.heap.size<=w.heap.size+1:=by omega
 generalize w.heap.size+1=g at*;go_loopw [8,9,20] (λ lv kv i wr=>∃k:Nat,k<=args.length/\i=af k/\aF aV 44 3 wr W.heap.size lv ((args.take k).map (·.2))/\aF dP 5 1 wr W.heap.size kv ((args.take k).map (·.2.k))/\aj W wr) (λ _ _ i _=>args.length - (intOf i).toNat);case atStart=>exact⟨0,Nat.zero_le _,rfl,aF.nil,aF.nil,Below.refl _ _⟩
 case round=>
  obtain⟨k,hk,rfl,hO,hK,hb⟩:=hrel;have HO:=aa hO;have HK:=aa hK;clear hO hK;rcases Nat.lt_or_ge k args.length with hlt | ve
  ·open zd4 in exact Zcd
  ·have fw:k=args.length:=by omega
   open zd5 in exact Zcd):p:=h
theorem Yi (op:Int)(xv:Val)(name:ByteArray)(width:Int)(A:Option Addr)(n c:Nat)(cV rV:Value)(args:List (Ex×Val))(bad:Ex)(er:Int)(post:List Ex)(hn:args.length+1+post.length=n)(w:World)(hl:args.length<=1599289640356)(TW:n<=1599289640356)(hA:RE w w.heap.size A (args.map (·.1)++bad::post))(hE:∀a∈args,jB w cV rV a.1 a.2 0)(jV:jB w cV rV bad aN er)(her:er≠0):
  ar 17 #[.agg #[ag op,ag xv.k,af xv.n,.string xv.s,.string name,af width,.slice A n c],cV,rV] w λ en w'=>en=.returned (bQ aN er)/\aj w w':=by have HN:=aa hn;have Hu:=aa jV;have Oa:=aa her;clear hn jV her;have HA:=aa hA;have HE:=aa hE;clear hA hE;go_enter Tryz.func17,Tryz.ntmps17;have HX:=(aB.new w 46 #[ag op,ag xv.k,af xv.n,.string xv.s,.string name,af width,.slice A n c]).alloc (.cells #[ag 0,af 0,au] 44);open zf3 in exact Zd5
inductive Tr where
 | mk (op:Int) (v:Val) (name:ByteArray) (width:Int) (args:List Tr)
def Yj (w:World)(S:Nat->Prop)(A:Option Addr)(l:List Ex):Prop:=
 l=[]\/∃b off,A=some ⟨b,off,none⟩/\S b/\∀i x,l[i]?=some x->cw w b (off+i*7) x
mutual
def Tr.at_ (w:World)(S:Nat->Prop):Tr->Ex->Prop
 | .mk op v name width args,y=>y.op=op/\y.v=v/\y.name=name/\y.width=width/\y.n=args.length/\∃ys,Yj w S y.A ys/\Tr.aO w S args ys
def Tr.aO (w:World)(S:Nat->Prop):List Tr->List Ex->Prop
 | [],ys=>ys=[]
 | t::ts,ys=>∃y ys',ys=y::ys'/\Tr.at_ w S t y/\Tr.aO w S ts ys'
end
variable{S S':Nat->Prop}
theorem Yj.keep{l:List Ex}(h:Yj w S A l)(hk:∀b,S b->(∀o,w'.cell? ⟨b,o,none⟩=w.cell? ⟨b,o,none⟩)/\S' b):Yj w' S' A l:=by
 rcases h with h |⟨b,off,h1,h2,h3⟩
 ·exact .inl h
 ·exact .inr ⟨b,off,h1,(hk b h2).2,λ i x hx=>(h3 i x hx).keep (hk b h2).1⟩
mutual
theorem Tr.at_.keep {w w':World} {S S':Nat->Prop}(hk:∀b,S b->(∀o,w'.cell? ⟨b,o,none⟩=w.cell? ⟨b,o,none⟩)/\S' b):∀(t:Tr) (y:Ex),t.at_ w S y->t.at_ w' S' y
 | .mk op v name width args,y,h=>by unfold Tr.at_ at h ⊢;obtain⟨h1,h2,h3,h4,h5,ys,h6,h7⟩:=h;exact⟨h1,h2,h3,h4,h5,ys,h6.keep hk,Tr.aO.keep hk args ys h7⟩
theorem Tr.aO.keep {w w':World} {S S':Nat->Prop}(hk:∀b,S b->(∀o,w'.cell? ⟨b,o,none⟩=w.cell? ⟨b,o,none⟩)/\S' b):∀(ts:List Tr) (ys:List Ex),Tr.aO w S ts ys->Tr.aO w' S' ts ys
 | [],ys,h=>by unfold Tr.aO at h ⊢;exact h
 | t::ts,ys,h=>by unfold Tr.aO at h ⊢;obtain⟨y,ys',h1,h2,h3⟩:=h;exact⟨y,ys',h1,Tr.at_.keep hk t y h2,Tr.aO.keep hk ts ys' h3⟩
end
theorem Tr.aO.length:∀ {ts:List Tr} {ys:List Ex},Tr.aO w S ts ys->ys.length=ts.length
 | [],ys,h=>by unfold Tr.aO at h;subst h;rfl
 | t::ts,ys,h=>by unfold Tr.aO at h;obtain⟨y,ys',rfl,_,h3⟩:=h;simp[Tr.aO.length h3]
def Old (w:World):Nat->Prop:=λ b=>b < w.heap.size
theorem Yj.old{l:List Ex}(h:Yj w (Old w) A l):RE w w.heap.size A l:=h
variable{y:Ex}
theorem Tr.at_.later{t:Tr} (h:t.at_ w (Old w) y)(hb:aj w w'):t.at_ w' (Old w') y:=
 Tr.at_.keep (λ b hS=>⟨λ o=>hb.cell (p:=⟨b,o,none⟩) hS,Nat.lt_of_lt_of_le hS hb.size⟩) t y h
variable{ts:List Tr}{ys:List Ex}
theorem Tr.aO.later(h:Tr.aO w (Old w) ts ys)(hb:aj w w'):Tr.aO w' (Old w') ts ys:=
 Tr.aO.keep (λ b hS=>⟨λ o=>hb.cell (p:=⟨b,o,none⟩) hS,Nat.lt_of_lt_of_le hS hb.size⟩) ts ys h
mutual
def Tr.ok:Tr->Prop
 | .mk op v name width args=>v.Ok/\args.length<=1599289640356/\(0<=op/\op<=255)/\(-9223372036854775808<=width/\width<=9223372036854775807)/\(0<=v.k/\v.k<=255)/\Tr.cL args
def Tr.cL:List Tr->Prop
 | []=>True
 | t::ts=>t.ok/\Tr.cL ts
end
structure aW where
 name:ByteArray
 t:Int
def mG (w:World)(b off:Nat)(x:aW):Prop:=w.cell? ⟨b,off,none⟩=some (.string x.name)/\w.cell? ⟨b,off+1,none⟩=some (ag x.t)
theorem mG.keep{x:aW}(h:mG w b off x)(hk:∀o,w'.cell? ⟨b,o,none⟩=w.cell? ⟨b,o,none⟩):mG w' b off x:=by unfold mG at*;simp only[hk];exact h
def RC (w:World)(B:Nat)(A:Option Addr)(l:List aW):Prop:=
 l=[]\/∃b off,A=some ⟨b,off,none⟩/\b < B/\∀i x,l[i]?=some x->mG w b (off+i*2) x
theorem RC.below{l:List aW}(h:RC w B A l)(hb:Below B w w'):RC w' B A l:=by exact Zcu
theorem RC.more{l:List aW}(h:RC w B A l)(hB:B<=B'):RC w B' A l:=by exact ZdJ
theorem RC.later{l:List aW}(h:RC w w.heap.size A l)(hb:aj w w'):RC w' w'.heap.size A l:=(h.below hb).more hb.size
theorem RC.at_{l:List aW}(h:RC w B A l) (hk:k < l.length):∃b off,A=some ⟨b,off,none⟩/\b < B/\mG w b (off+k*2) l[k]:=by exact Zb3
theorem RV.later{l:List Val}(h:RV w w.heap.size A l)(hb:aj w w'):RV w' w'.heap.size A l:=(h.below hb).more hb.size
def di (name:ByteArray):List aW->Nat
 | []=>0
 | c::cs=>if (c.name.toList==name.toList)=true then 0 else di name cs+1
def kH (name:ByteArray)(cols:List aW):Int:=if di name cols < cols.length then di name cols else -1
def Bd (cols:List aW)(row:List Val)(name:ByteArray):Val×Int:=
 if di name cols < cols.length/\di name cols < row.length then
  (if good (row.getD (di name cols) aN)=true then(row.getD (di name cols) aN,0)else(aN,40))
 else(aN,41)
def cM:List (Val×Int)->Int
 | []=>0
 | r::rs=>if r.2≠0 then r.2 else cM rs
def lR (cols:List aW)(row:List Val)(x:Ex)(rs:List (Val×Int)):Val×Int:=
 if cM rs≠0 then(aN,cM rs)else if bP x≠0 then(aN,bP x)else if x.op=1 then(x.v,0)else if x.op=2 then Bd cols row x.name else iN x.op x.width (rs.map (·.1))
mutual
def Tr.eval (cols:List aW)(row:List Val):Tr->Val×Int
 | .mk op v name width args=>lR cols row ⟨op,v,name,width,none,args.length,0⟩ (Tr.iO cols row args)
def Tr.iO (cols:List aW)(row:List Val):List Tr->List (Val×Int)
 | []=> []
 | t::ts=>t.eval cols row::Tr.iO cols row ts
end
theorem Tr.oI (cols:List aW)(row:List Val):∀ts,(Tr.iO cols row ts).length=ts.length
 | []=>by simp[Tr.iO]
 | t::ts=>by simp[Tr.iO,Tr.oI cols row ts]
theorem dX:aN.Ok:=⟨by decide,by decide⟩
theorem RF (b:Bool):(bE b).Ok:=by cases b <;> exact⟨by decide,by decide⟩
theorem sf (n:Int): -9223372036854775808<=wrap64 n/\wrap64 n<=9223372036854775807:=by unfold wrap64;omega
variable{n:Int}{c:Bool}
theorem Be(h: -9223372036854775808<=n/\n<=9223372036854775807):(fB n c).1.Ok:=by
 cases c
 ·exact dX
 ·exact h
theorem agF{b:Int}(ha: -9223372036854775808<=a/\a<=9223372036854775807): -9223372036854775808<=Int.tmod a b/\Int.tmod a b<=9223372036854775807:=by
 have h:(Int.tmod a b).natAbs<=a.natAbs:=by rw[Int.natAbs_tmod];exact Nat.mod_le _ _
 have h2:0<=a->0<=Int.tmod a b:=λ h=>Int.tmod_nonneg b h
 have h3:a<=0->Int.tmod a b<=0:=λ h=>by have:=Int.tmod_nonneg b (show 0<= -a by omega);rw[Int.neg_tmod] at this;omega
 omega
theorem Yk (s:Bool)(l:List Val):(lM s l).Ok:=by
 unfold lM;repeat (first | exact dX | exact RF _ | split)
theorem alp (k:Nat)(wd:Int)(l:List Val)(hl:∀v∈l,v.Ok):(Ho k wd l).1.Ok:=by
 unfold Ho;split;case h_7 a b=>unfold zz;split;exact dX;exact Be (agF (hl a Tac))
 all_goals first
  | exact dX
  | exact RF _
  | exact Yk _ _
  | exact Be (sf _)
  |(unfold zy;split;exact dX;exact Be (sf _))
theorem abn (op wd:Int)(l:List Val)(hl:∀v∈l,v.Ok):(iN op wd l).1.Ok:=by
 unfold iN;split
 ·exact dX
 ·split
  ·exact dX
  ·exact alp _ _ _ hl
theorem agG (cols:List aW)(row:List Val)(name:ByteArray)(hr:∀v∈row,v.Ok):(Bd cols row name).1.Ok:=by
 unfold Bd;split
 ·rename_i h;split
  ·rw[getD_eq_getElem?_getD,getElem?_eq_getElem h.2];exact hr _ (getElem_mem h.2)
  ·exact dX
 ·exact dX
mutual
theorem Tr.abo (cols:List aW)(row:List Val)(hr:∀v∈row,v.Ok):∀t:Tr,t.ok->(t.eval cols row).1.Ok
 | .mk op v name width args,h=>by
   unfold Tr.ok at h;unfold Tr.eval lR;have ha:=Tr.vt cols row hr args h.2.2.2.2.2;split
   ·exact dX
   ·split
    ·exact dX
    ·split
     ·exact h.1
     ·split
      ·exact agG _ _ _ hr
      ·refine abn _ _ _ λ u hu=>?_
       obtain⟨z,hz,rfl⟩:=List.mem_map.1 hu;exact ha z hz
theorem Tr.vt (cols:List aW)(row:List Val)(hr:∀v∈row,v.Ok):∀ts:List Tr,Tr.cL ts->∀z∈Tr.iO cols row ts,z.1.Ok
 | [],_,z,hz=>by simp[Tr.iO] at hz
 | t::ts,h,z,hz=>by
   unfold Tr.cL at h;unfold Tr.iO at hz;rcases List.mem_cons.1 hz with rfl | hz
   ·exact Tr.abo cols row hr t h.1
   ·exact Tr.vt cols row hr ts h.2 z hz
end
theorem qP:∀(l:List (Ex×(Val×Int))),(∀a∈l,a.2.2=0)\/∃pre bad post,l=pre++bad::post/\(∀a∈pre,a.2.2=0)/\bad.2.2≠0
 | []=> .inl Tac
 | a::l=>by
   by_cases h:a.2.2=0
   ·rcases qP l with h1 |⟨pre,bad,post,h1,h2,h3⟩
    ·exact .inl (by intro x hx;rcases List.mem_cons.1 hx with rfl | hx;exact h;exact h1 x hx)
    ·refine .inr ⟨a::pre,bad,post,by rw[h1];rfl,?_,h3⟩;intro x hx;rcases List.mem_cons.1 hx with rfl | hx
     ·exact h
     ·exact h2 x hx
   ·exact .inr ⟨[],a,l,rfl,by simp,h⟩
theorem yB:∀ {l:List (Val×Int)},(∀a∈l,a.2=0)->cM l=0
 | [],_=>rfl
 | a::l,h=>by unfold cM;rw[if_neg TaP];exact yB λ x hx=>h x Tbf
theorem Fc:∀ {pre post:List (Val×Int)} {bad:Val×Int},(∀a∈pre,a.2=0)->bad.2≠0->cM (pre++bad::post)=bad.2
 | [],post,bad,_,hb=>by unfold cM;simp[hb]
 | a::pre,post,bad,h,hb=>by show cM (a::(pre++bad::post))=_;unfold cM;rw[if_neg TaP];exact Fc (λ x hx=>h x Tbf) hb
theorem Ob (x:aW)(name:ByteArray)(g:Nat)(w:World)(hg:aB w g 9 #[.string name]):
  ar 79 #[.agg #[.string x.name,ag x.t],aw g] w λ e w'=>e=.returned (.bool (x.name.toList==name.toList))/\aj w w':=by have c0:=(hg.alloc (.cells #[.string x.name,ag x.t] 113)).cell 0;simp only[getElem?_toArray,getElem?_cons_zero] at c0;go_enter Tryz.func79,Tryz.ntmps79;go_wp2_with fail;go_ret;exact⟨rfl,by go_grown⟩
variable{cs:List aW}
theorem TX{name:ByteArray} {c:aW} (h:(c.name.toList==name.toList)=false):di name (c::cs)=di name cs+1:=by show(if (c.name.toList==name.toList)=true then 0 else di name cs+1)=_;rw[if_neg (by rw[h];simp)]
theorem Oc{name:ByteArray} {c:aW} (h:(c.name.toList==name.toList)=true):di name (c::cs)=0:=by show(if (c.name.toList==name.toList)=true then 0 else di name cs+1)=_;rw[if_pos h]
theorem cF(h:k < l.length):l.drop k=l[k]::l.drop (k+1):=drop_eq_getElem_cons h
theorem Hv (cols:List aW)(CA:Option Addr)(cc:Nat)(name:ByteArray)(g:Nat)(w:World)(hC:RC w w.heap.size CA cols)(hg:aB w g 9 #[.string name])(hl:cols.length<=140737488355328):
  ar 78 #[.slice CA cols.length cc,.func (.func 79) #[] #[.pointer (some ⟨g,0,none⟩)]] w λ e w'=>e=.returned (.int .i64 (kH name cols))/\aj w w':=by
 have HC:=aa hC;clear hC;go_enter Tryz.func78,Tryz.ntmps78;go_wp2_with fail;go_loopw [5,8] (λ _ i wr=>∃k:Nat,k<=cols.length/\i=af k/\di name cols=k+di name (cols.drop k)/\aj w wr) (λ _ i _=>cols.length - (intOf i).toNat);case atStart=>exact⟨0,Nat.zero_le _,rfl,by simp,Below.refl _ _⟩
 case round=>
  obtain⟨k,hk,rfl,hp,hb⟩:=hrel;have HK:=aa hp;clear hp;by_cases hlt:k < cols.length
  ·obtain⟨b,off,rfl,kz,hex⟩:=(HC.ae.below hb).at_ hlt;have HD:=aa (cF hlt);generalize cols[k]=x at*;unfold mG at hex;have hz:=hg.later hb;go_wp2_with fail;refine(Ob x name g _ hz).mono ?_;rintro e w1 ⟨rfl,hB⟩;have hb1:=ai.then hb hB;clear hex hz hB hb;cases hm:(x.name.toList==name.toList)
   ·go_wp2_with fail;go_roundw;case rel=>refine⟨k+1,by omega,by go_num,?_,hb1⟩;rw[HK.ae,HD.ae,TX hm];omega
    case measure=>exact Za0
   ·go_wp2_with fail;go_ret;refine⟨?_,hb1⟩;have Ah:di name cols=k:=by rw[HK.ae,HD.ae,Oc hm];omega
    unfold kH;rw[Ah,if_pos hlt];rfl
  ·go_wp2_with fail;go_ret;refine⟨?_,hb⟩;have Ah:di name cols=cols.length:=by rw[HK.ae,drop_eq_nil_of_le WC];unfold di;omega
   unfold kH;rw[Ah,if_neg WC];rfl
theorem Fe (cols:List aW)(CA:Option Addr)(cc:Nat)(name:ByteArray)(w:World)(hC:RC w w.heap.size CA cols)(hl:cols.length<=140737488355328):
  ar 43 #[.slice CA cols.length cc,.string name] w λ e w'=>e=.returned (af (kH name cols))/\aj w w':=by have bb:=ah w (.cells #[.string name] 9);have hg:=aB.new w 9 #[.string name];have hC2:=aa (hC.later bb);clear hC;go_enter Tryz.func43,Tryz.ntmps43;go_wp2_with fail;refine(Hv cols CA cc name w.heap.size _ hC2.ae hg hl).mono ?_;rintro e w1 ⟨rfl,b1⟩;have hb:=ai.then bb b1;clear b1 bb hg;exact Zdi
theorem zbI.Kak(h:p:=by exact Zd3):p:=h
theorem zeN.Ka2(h:p:=by
 have dv:=aG cJ;have gV:=aB.frozen cJ;go_wp2_with fail;clear hst x0 x1 z2 z3 z4 z5 z6 dv gV;refine(Fe cols CA cc name _ HX.ae hl).mono ?_;rintro e w2 ⟨rfl,b3⟩;replace hR:=hR.later b3;replace cJ:=cJ.later b3;replace hB:=ai.then hB b3;replace HX:=aa (HX.ae.later b3);replace HC:=aa (HC.ae.later b3);clear b3;by_cases uw:di name cols < cols.length
 ·have HP:=aa (show kH name cols=(di name cols:Int) by unfold kH;rw[if_pos uw]);rw[HP.ae];have hc1:Bd cols row name=if di name cols < row.length then(if good (row.getD (di name cols) aN)=true then(row.getD (di name cols) aN,0)else(aN,40))else(aN,41):=by unfold Bd;simp only[uw,true_and]
  have Nn:=aa hc1;clear hc1 HP;generalize di name cols=k at*;have hk2:(k:Int)<=140737488355328:=by omega
  have t0:decide ((k:Int)< 0)=false:=decide_eq_false WC;by_cases hk:k < row.length
  ·have t1:decide (row.length<=k)=false:=decide_eq_false WC;obtain⟨b,off,rfl,kz,hval⟩:=HC.ae.at_ hk;have HG:=aa (show row.getD k aN=row[k] by rw[getD_eq_getElem?_getD,getElem?_eq_getElem hk];rfl);have yz:=aa (Nn.ae.trans (if_pos hk));rw[HG.ae] at yz;generalize row[k]=xv at*;have Xm:=hval;unfold ei at hval;have x0:=hR.cell 0;have x1:=hR.cell 1;have z2:=hR.cell 2;have z3:=hR.cell 3;have z4:=hR.cell 4;have z5:=hR.cell 5;have z6:=hR.cell 6;simp only[Uaa] at x0 x1 z2 z3 z4 z5 z6;have dv:=aG cJ;have gV:=aB.frozen cJ;go_wp2_with fail;refine(vg xv _).mono ?_;rintro e w3 ⟨rfl,b2⟩;replace Xm:=Xm.keep (w':=w3) λ o=>b2.cell (p:=⟨b,o,none⟩) kz
   clear x0 x1 z2 z3 z4 z5 z6 dv gV;replace hR:=hR.later b2;replace cJ:=cJ.later b2;replace hB:=ai.then hB b2;replace HX:=aa (HX.ae.later b2);replace HC:=aa (HC.ae.later b2);clear hval b2;unfold ei at Xm;cases hg:good xv
   ·have HQ:=aa (yz.ae.trans (if_neg (by rw[hg];simp)));have x0:=hR.cell 0;have x1:=hR.cell 1;have z2:=hR.cell 2;have z3:=hR.cell 3;have z4:=hR.cell 4;have z5:=hR.cell 5;have z6:=hR.cell 6;simp only[Uaa] at x0 x1 z2 z3 z4 z5 z6;have dv:=aG cJ;have gV:=aB.frozen cJ;go_wp2_with fail;exact bodyPost_ret (v:=.tuple #[.agg #[ag 0,af 0,.string ByteArray.empty],af 40]) Taf rfl ⟨by rw[HQ.ae];rfl,((hB.setCell bI _).setCell bI _).setCell bI _⟩
   ·have HQ:=aa (yz.ae.trans (if_pos hg));have x0:=hR.cell 0;have x1:=hR.cell 1;have z2:=hR.cell 2;have z3:=hR.cell 3;have z4:=hR.cell 4;have z5:=hR.cell 5;have z6:=hR.cell 6;simp only[Uaa] at x0 x1 z2 z3 z4 z5 z6;have dv:=aG cJ;have gV:=aB.frozen cJ;exact Zd9
  ·have t1:decide (row.length<=k)=true:=decide_eq_true WC;have HQ:=aa (Nn.ae.trans (if_neg hk));have x0:=hR.cell 0;have x1:=hR.cell 1;have z2:=hR.cell 2;have z3:=hR.cell 3;have z4:=hR.cell 4;have z5:=hR.cell 5;have z6:=hR.cell 6;simp only[Uaa] at x0 x1 z2 z3 z4 z5 z6;exact Zd3
 ·have HP:=aa (show kH name cols= -1 by unfold kH;rw[if_neg uw]);rw[HP.ae];have HQ:=aa (show Bd cols row name=(aN,41) by unfold Bd;rw[if_neg (λ h=>uw h.1)]);open zbI in exact ZaB):p:=h
theorem zga.Kby(h:p:=by clear Hr TS x0 x1 z2 z3 z4 z5 z6 dv gV;have b3:=ai.then b1 (ah w1 (.cells #[af 0,ag 0,ag 0,.bool false,.bool false,.nilFunc] 100));replace hR:=hR.later b3;replace cJ:=cJ.later b3;replace hB:=ai.then hB b3;replace HX:=aa (HX.ae.later b3);open zeN in exact ZcB):p:=h
theorem zgA.KbI(h:p:=by
 go_wp2_with fail;have cJ:=aB.new (w.alloc (.cells #[ag 2,ag Kx.k,af Kx.n,.string Kx.s,.string name,af width,.slice A 0 c] 46)) 44 #[ag 0,af 0,au];rw[World.size_alloc] at cJ;have hB:=ai.then (ah w (.cells #[ag 2,ag Kx.k,af Kx.n,.string Kx.s,.string name,af width,.slice A 0 c] 46)) (ah _ (.cells #[ag 0,af 0,au] 44));replace HX:=aa (HX.ae.later hB);replace HC:=aa (HC.ae.later hB);clear z6;generalize (w.alloc (.cells #[ag 2,ag Kx.k,af Kx.n,.string Kx.s,.string name,af width,.slice A 0 c] 46)).alloc (.cells #[ag 0,af 0,au] 44)=W at*;have bI:w.heap.size<=w.heap.size+1:=by omega
 generalize w.heap.size+1=g at*;go_loopw [8,9,20] (λ lv kv i wr=>lv=az/\kv=az/\i=af 0/\wr=W) (λ _ _ _ _=>0);case atStart=>exact⟨rfl,rfl,rfl,rfl⟩
 case round=>obtain⟨rfl,rfl,rfl,rfl⟩:=hrel;have x0:=hR.cell 0;have x1:=hR.cell 1;have z2:=hR.cell 2;have z3:=hR.cell 3;have z4:=hR.cell 4;have z5:=hR.cell 5;have z6:=hR.cell 6;simp only[Uaa] at x0 x1 z2 z3 z4 z5 z6;have dv:=aG cJ;have gV:=aB.frozen cJ;open zga in exact Zeb):p:=h
theorem Yl (Kx:Val)(name:ByteArray)(width:Int)(A:Option Addr)(c:Nat)(cols:List aW)(CA:Option Addr)(cc:Nat)(row:List Val)(RA:Option Addr)(rc:Nat)(w:World)(hC:RC w w.heap.size CA cols)(hl:cols.length<=140737488355328)(hV:RV w w.heap.size RA row)(hl2:row.length<=140737488355328):
  ar 17 #[.agg #[ag 2,ag Kx.k,af Kx.n,.string Kx.s,.string name,af width,.slice A 0 c],.slice CA cols.length cc,.slice RA row.length rc] w λ en w'=>en=.returned (bQ (Bd cols row name).1 (Bd cols row name).2)/\aj w w':=by have HX:=aa hC;have HC:=aa hV;clear hC hV;go_enter Tryz.func17,Tryz.ntmps17;have hR:=(aB.new w 46 #[ag 2,ag Kx.k,af Kx.n,.string Kx.s,.string name,af width,.slice A 0 c]).alloc (.cells #[ag 0,af 0,au] 44);open zgA in exact Zep
theorem tS(h:(fB n c).2≠0):(fB n c).1=aN:=by
 cases c
 ·rfl
 ·exact absurd rfl h
theorem abp (k:Nat)(wd:Int)(l:List Val)(h:(Ho k wd l).2≠0):(Ho k wd l).1=aN:=by
 unfold Ho at*;split at h;case h_6 a b=>unfold zy at*;exact ZgZ
 case h_7 a b=>unfold zz at*;exact ZgZ
 all_goals first
  | exact absurd rfl h
  | exact tS h
theorem TY (op wd:Int)(l:List Val)(h:(iN op wd l).2≠0):(iN op wd l).1=aN:=by
 unfold iN at*;split at h
 ·rename_i h1;rw[if_pos h1]
 ·rename_i h1;rw[if_neg h1];split at h
  ·exact absurd rfl h
  ·rename_i h2;rw[if_neg h2];exact abp _ _ _ h
theorem Oe (cols:List aW)(row:List Val)(x:Ex)(rs:List (Val×Int))(h:(lR cols row x rs).2≠0):(lR cols row x rs).1=aN:=by
 unfold lR at*;split at h
 ·rename_i h1;rw[if_pos h1]
 ·rename_i h1;rw[if_neg h1];split at h
  ·rename_i h2;rw[if_pos h2]
  ·rename_i h2;rw[if_neg h2];split at h
   ·exact absurd rfl h
   ·rename_i h3;rw[if_neg h3];split at h
    ·rename_i h4;rw[if_pos h4];unfold Bd at*;split at h
     ·rename_i h5;rw[if_pos h5];split at h
      ·exact absurd rfl h
      ·rename_i h6;rw[if_neg h6]
     ·rename_i h5;rw[if_neg h5]
    ·rename_i h4;rw[if_neg h4];exact TY _ _ _ h
mutual
theorem Tr.TZ (cols:List aW)(row:List Val):∀t:Tr,(t.eval cols row).2≠0->(t.eval cols row).1=aN
 | .mk op v name width args,h=>by unfold Tr.eval at*;exact Oe _ _ _ _ h
theorem Tr.Bf (cols:List aW)(row:List Val):∀ts:List Tr,∀z∈Tr.iO cols row ts,z.2≠0->z.1=aN
 | [],z,hz,_=>by simp[Tr.iO] at hz
 | t::ts,z,hz,h=>by
   unfold Tr.iO at hz;rcases List.mem_cons.1 hz with rfl | hz
   ·exact Tr.TZ cols row t h
   ·exact Tr.Bf cols row ts z hz h
end
section
variable (cols:List aW) (CA:Option Addr) (cc:Nat) (row:List Val) (RA:Option Addr) (rc:Nat)
theorem Ym (op:Int)(xv:Val)(name:ByteArray)(width:Int)(A:Option Addr)(c:Nat)(args:List (Ex×(Val×Int)))(aZ:∀a∈args,a.2.1.Ok)(hz:∀a∈args,a.2.2≠0->a.2.1=aN)(w:World)(hl:args.length<=1599289640356)(hA:RE w w.heap.size A (args.map (·.1)))
  (hC:RC w w.heap.size CA cols) (cf:cols.length<=140737488355328) (hV:RV w w.heap.size RA row) (lS:row.length<=140737488355328)
  (hE:∀a∈args,jB w (.slice CA cols.length cc) (.slice RA row.length rc) a.1 a.2.1 a.2.2):
  ar 17 #[.agg #[ag op,ag xv.k,af xv.n,.string xv.s,.string name,af width,.slice A args.length c],.slice CA cols.length cc,.slice RA row.length rc] w λ en w'=>en=.returned (bQ (lR cols row ⟨op,xv,name,width,none,args.length,0⟩ (args.map (·.2))).1 (lR cols row ⟨op,xv,name,width,none,args.length,0⟩ (args.map (·.2))).2)/\aj w w':=by
 rcases qP args with h0 |⟨pre,bad,post,rfl,Ee,jV⟩
 ·have hf:cM (args.map (·.2))=0:=yB λ a ha=>by obtain⟨z,hz,rfl⟩:=List.mem_map.1 ha;exact h0 z hz
  by_cases h2:op=2/\args=[]
  ·obtain⟨rfl,rfl⟩:=h2;have k:=Yl xv name width A c cols CA cc row RA rc w hC cf hV lS;have e:lR cols row ⟨2,xv,name,width,none,0,0⟩ []=Bd cols row name:=by unfold lR;rw[if_neg (by simp[cM]),if_neg (by simp[bP]),if_neg Tac,if_pos (by rfl)]
   show Calls _ _ _ _ λ en w'=>en=.returned (bQ (lR cols row ⟨2,xv,name,width,none,0,0⟩ []).1 (lR cols row ⟨2,xv,name,width,none,0,0⟩ []).2)/\_
   rw[e];exact k
  ·have k:=Yh op xv name width A c (.slice CA cols.length cc) (.slice RA row.length rc) (args.map λ a=>(a.1,a.2.1)) (by
    by_cases ho:op=2
    ·right;intro h;exact h2 ⟨ho,by simpa using h⟩
    ·exact .inl ho) (λ a ha=>by obtain⟨z,hz,rfl⟩:=List.mem_map.1 ha;exact aZ z hz) w (by simpa using hl) Tat (λ a ha=>by
    obtain⟨z,hz,rfl⟩:=List.mem_map.1 ha
    have:=hE z hz
    rw[h0 z hz] at this
    exact this)
   rw[length_map] at k;have hm:(args.map λ a=>(a.1,a.2.1)).map (·.2)=(args.map (·.2)).map (·.1):=by simp[Function.comp_def]
   rw[hm] at k;have e:lR cols row ⟨op,xv,name,width,none,args.length,0⟩ (args.map (·.2))=pO ⟨op,xv,name,width,A,args.length,c⟩ ((args.map (·.2)).map (·.1)):=by have agH:bP ⟨op,xv,name,width,A,args.length,c⟩=bP ⟨op,xv,name,width,none,args.length,0⟩:=rfl;unfold lR pO;exact Zb4
   rw[e];exact k
 ·have Z5:bad.2.1=aN:=hz bad Tac jV;have hbE:=hE bad Tac;rw[Z5] at hbE;have k:=Yi op xv name width A (pre++bad::post).length c (.slice CA cols.length cc) (.slice RA row.length rc) (pre.map λ a=>(a.1,a.2.1)) bad.1 bad.2.2 (post.map (·.1)) Tab w (by simp at hl ⊢;omega) hl Tat (λ a ha=>by
   obtain⟨z,hz',rfl⟩:=List.mem_map.1 ha
   have:=hE z (by simp[hz'])
   rw[Ee z hz'] at this
   exact this) hbE jV
  have hf:cM ((pre++bad::post).map (·.2))=bad.2.2:=by rw[map_append,map_cons];exact Fc (λ a ha=>by obtain⟨z,hz',rfl⟩:=List.mem_map.1 ha;exact Ee z hz') jV
  have e:lR cols row ⟨op,xv,name,width,none,(pre++bad::post).length,0⟩ ((pre++bad::post).map (·.2))=(aN,bad.2.2):=by unfold lR;rw[if_pos (by rw[hf];exact jV),hf]
  rw[e];exact k
mutual
theorem Tr.RG (cf:cols.length<=140737488355328)(lS:row.length<=140737488355328)(hro:∀v∈row,v.Ok):∀(t:Tr) (y:Ex) (w:World),t.ok->t.at_ w (Old w) y->RC w w.heap.size CA cols->RV w w.heap.size RA row->jB w (.slice CA cols.length cc) (.slice RA row.length rc) y (t.eval cols row).1 (t.eval cols row).2
 | .mk op v name width args,y,w,aZ,hat,hC,hV=>by
   intro W hb;have nN:=hat.later hb;unfold Tr.at_ at nN;obtain⟨h1,h2,h3,h4,h5,ys,h6,h7⟩:=nN;unfold Tr.ok at aZ;obtain⟨l,ft,hl2,tT⟩:=Tr.Bg cf lS hro args ys W aZ.2.2.2.2.2 h7 (hC.later hb) (hV.later hb);obtain⟨JL,yv,kS,gO,yA,yn,yc⟩:=y;dsimp only at h1 h2 h3 h4 h5 h6;subst h1 h2 h3 h4 h5;have hlen:l.length=args.length:=by
    have:(l.map (·.2)).length=(Tr.iO cols row args).length:=by rw[hl2]
    rw[length_map,Tr.oI] at this;exact this
   have hzz:∀a∈l,a.2.1.Ok/\(a.2.2≠0->a.2.1=aN):=λ a ha=>by
    have hm:a.2∈Tr.iO cols row args:=by rw[<- hl2];exact List.mem_map.2 ⟨a,ha,rfl⟩
    exact⟨Tr.vt cols row hro args aZ.2.2.2.2.2 _ hm,Tr.Bf cols row args _ hm⟩
   have k:=Ym cols CA cc row RA rc JL yv kS gO yA yc l (λ a ha=>(hzz a ha).1) (λ a ha=>(hzz a ha).2) W (by rw[hlen];exact aZ.2.1) Tbc (hC.later hb) cf (hV.later hb) lS tT;rw[hl2,hlen] at k;unfold Tr.eval;exact k
theorem Tr.Bg (cf:cols.length<=140737488355328)(lS:row.length<=140737488355328)(hro:∀v∈row,v.Ok):∀(ts:List Tr) (ys:List Ex) (w:World),Tr.cL ts->Tr.aO w (Old w) ts ys->RC w w.heap.size CA cols->RV w w.heap.size RA row->∃l:List (Ex×(Val×Int)),l.map (·.1)=ys/\l.map (·.2)=Tr.iO cols row ts/\∀a∈l,jB w (.slice CA cols.length cc) (.slice RA row.length rc) a.1 a.2.1 a.2.2
 | [],ys,w,_,hat,_,_=>by unfold Tr.aO at hat;subst hat;exact⟨[],rfl,by simp[Tr.iO],by simp⟩
 | t::ts,ys,w,aZ,hat,hC,hV=>by
   unfold Tr.aO at hat;unfold Tr.cL at aZ;obtain⟨y,ys',rfl,h2,h3⟩:=hat;obtain⟨l,ft,hl2,tT⟩:=Tr.Bg cf lS hro ts ys' w aZ.2 h3 hC hV;refine⟨(y,t.eval cols row)::l,by simp[ft],by simp[hl2,Tr.iO],λ a ha=>?_⟩;rcases List.mem_cons.1 ha with rfl | ha
   ·exact Tr.RG cf lS hro t y w aZ.1 h2 hC hV
   ·exact tT a ha
end
end
def vu (r:Val×Int):Bool×Int:=if r.2≠0 then(false,r.2)else if cg r.1.k 1=false then(false,40)else(r.1.n==1,0)
theorem alq(h:RE w B A (y::ys)):∃b off,A=some ⟨b,off,none⟩/\b < B/\cw w b off y:=by
 rcases h with h |⟨b,off,h1,h2,h3⟩
 ·cases h
 ·refine⟨b,off,h1,h2,?_⟩;have:=h3 0 y rfl;exact ZeU
theorem Yn (A:Option Addr)(n c:Nat)(hn:0 < n)(TW:n<=1599289640356)(y:Ex)(ys:List Ex)(cV rV:Value)(r:Val×Int)(w:World)(hA:RE w w.heap.size A (y::ys))(hE:jB w cV rV y r.1 r.2):
  ar 16 #[.slice A n c,cV,rV] w λ e w'=>e=.returned (.tuple #[.bool (vu r).1,af (vu r).2])/\aj w w':=by
 obtain⟨b,off,rfl,hb,hex⟩:=alq hA;have HE:=aa hE;clear hA hE;have t0:(n==0)=false:=by simp;omega
 have t0':((n:Int)==0)=false:=by simp;omega
 unfold cw at hex;go_enter Tryz.func16,Tryz.ntmps16;go_wp2_with fail;refine(HE.ae w (Below.refl _ _)).mono ?_;rintro e w1 ⟨rfl,b1⟩;clear hex t0 t0' HE;obtain⟨v,f⟩:=r;unfold bQ;dsimp only;have hv:=aB.new w1 44 (aD v);have hB:=ai.then b1 (ah w1 (.cells (aD v) 44));clear b1;have cv:=aG hv;by_cases hf:f=0
 ·subst hf;go_wp2_with fail;have hg:=aB.new (w1.alloc (.cells (aD v) 44)) 5 #[ag v.k,ag 1];have bb:=ah (w1.alloc (.cells (aD v) 44)) (.cells #[ag v.k,ag 1] 5);rw[World.size_alloc] at hg;have g0:=hg.cell 0;have g1:=hg.cell 1;have glt:=hg.lt;simp only[Uaa] at g0 g1;refine(qN (w1.heap.size+1) 0 2 v.k 1 _ glt g0 g1).mono ?_;rintro e w2 ⟨rfl,b2⟩;replace hB:=ai.then (ai.then hB bb) b2;replace hv:=(hv.later bb).later b2;clear bb b2 g0 g1 glt hg cv;have cv:=aG hv;cases hgo:cg v.k 1
  ·have HQ:=aa (show vu (v,0)=(false,40) by unfold vu;rw[if_neg Tac,if_pos hgo]);go_wp2_with fail;exact bodyPost_ret (v:=.tuple #[.bool false,af 40]) Tax rfl ⟨by rw[HQ.ae],hB⟩
  ·have HQ:=aa (show vu (v,0)=(v.n==1,0) by unfold vu;rw[if_neg Tac,if_neg (by rw[hgo];simp)]);go_wp2_with fail;exact bodyPost_ret (v:=.tuple #[.bool (v.n==1),af 0]) Tax rfl ⟨by rw[HQ.ae],hB⟩
 ·have t1:(f != 0)=true:=by simpa using hf
  have HQ:=aa (show vu (v,f)=(false,f) by unfold vu;rw[if_pos hf]);clear hf;go_wp2_with fail;exact bodyPost_ret (v:=.tuple #[.bool false,af f]) Tax rfl ⟨by rw[HQ.ae],hB⟩
theorem Yo (A:Option Addr)(c:Nat)(cV rV:Value)(w:World):ar 16 #[.slice A 0 c,cV,rV] w λ e w'=>e=.returned (.tuple #[.bool true,af 0])/\w=w':=by go_enter Tryz.func16,Tryz.ntmps16;go_wp2_with fail;exact bodyPost_ret (v:=.tuple #[.bool true,af 0]) Tax rfl ⟨rfl,rfl⟩
def tH (x:Ex)(ts:List Int):Int×Int:=
 if bP x≠0 then(0,bP x)else if x.op=1 then(x.v.k,0)else if gM x.op ts=false then(0,40)else(tQ x.op,0)
def Yp (w:World)(cV:Value)(y:Ex)(t:Int):Prop:=∀W,aj w W->ar 59 #[.agg (ay y),cV] W λ en w'=>en=.returned (.tuple #[ag t,af 0])/\aj W w'
theorem zc8.KaA(h:p:=by exact ZdF):p:=h
theorem zc9.KaA(h:p:=by exact ZdG):p:=h
theorem zda.KaA(h:p:=by exact ZdF):p:=h
theorem zdb.KaA(h:p:=by exact ZdG):p:=h
theorem zez.KaX(h:p:=by
 have TV:=(tF.ae.cell (p:=⟨g9,0,none⟩) kG).trans (tG 0 v1 0 _ rfl WC rfl);have vr:=Nat.lt_of_lt_of_le kG tF.ae.size;clear tG tF;go_wp2_with fail;refine(EZ a wa gi nu d jU g9 0 c9 v1 _ vr TV).mono ?_;rintro e w3 ⟨rfl,b3⟩;clear x0 x1 z6 c0 c1 c2 y3 o4 o5;replace hR:=hR.later b3;replace cJ:=cJ.later b3;replace hB:=ai.then hB b3;clear b3;have sW:eZ (gM op [v1]=cg v1 wa):=by have z1:=HWA.ae;have Ly:=Ag.ae;show gM _ _=_;simp only[gM,<- z1,<- Ly]
 cases hs:cg v1 wa
 ·have HQ:=aa (Nl.ae (0,40) (by rw[sW.ae,hs,if_pos rfl]));open zc8 in exact Zbe
 ·have HQ:=aa (Nl.ae (gi,0) Tbk);open zc9 in exact Zbe):p:=h
theorem zeA.KaX(h:p:=by
 have TV:=(tF.ae.cell (p:=⟨g9,0,none⟩) kG).trans (tG 0 v1 0 _ rfl WC rfl);have kc2:=(tF.ae.cell (p:=⟨g9,1,none⟩) kG).trans (tG 1 v2 0 _ rfl WC rfl);have vr:=Nat.lt_of_lt_of_le kG tF.ae.size;clear tG tF;go_wp2_with fail;refine(Fa a wa gi al nu d jU g9 0 c9 v1 v2 _ vr TV kc2).mono ?_;rintro e w3 ⟨rfl,b3⟩;clear x0 x1 z6 c0 c1 c2 y3 o4 o5;replace hR:=hR.later b3;replace cJ:=cJ.later b3;replace hB:=ai.then hB b3;clear b3;have sW:eZ (gM op [v1,v2]=(cg v1 wa &&(cg v2 wa &&(!al || cg v1 v2)))):=by have z1:=HWA.ae;have Ly:=Ag.ae;show gM _ _=_;simp only[gM,<- z1,<- Ly]
 cases hs:(cg v1 wa &&(cg v2 wa &&(!al || cg v1 v2)))
 ·have HQ:=aa (Nl.ae (0,40) (by rw[sW.ae,hs,if_pos rfl]));open zda in exact Zbe
 ·have HQ:=aa (Nl.ae (gi,0) Tbk);open zdb in exact Zbe):p:=h
theorem zhe.KbV(h:p:=by
 have Nl:eZ (∀r,(if gM op (args.map (·.2))=false then(0,40)else(tQ op,0))=r->tH ⟨op,xv,name,width,A,args.length,c⟩ (args.map (·.2))=r):=λ r hr=>by unfold tH;rw[if_neg Ta6,if_neg H1.ae];exact hr
 clear hwa xh Lw Z3 nk Hs agC hOp HOI hwd h1 mF;rcases agE with ⟨hlen,rfl⟩| hlen
 ·obtain⟨⟨y1,v1⟩,rfl⟩:=alh hlen;open zez in exact Zcr
 ·obtain⟨⟨y1,v1⟩,⟨y2,v2⟩,rfl⟩:=ali hlen;open zeA in exact Zcr):p:=h
theorem zdy.KaG(h:p:=by rw[RD] at Ht;obtain⟨hwa,Z3,xh,Lw⟩:=Ht;open zhe in exact Ze9):p:=h
theorem zfB.Kbl(h:p:=by
 replace hR:=hR.later KK;replace hB:=ai.then hB KK;have cJ:=aB.new W3 100 #[af a,ag wa,ag gi,.bool al,.bool nu,d];have HOI:=aa (TS.later (ah W3 (.cells #[af a,ag wa,ag gi,.bool al,.bool nu,d] 100)));have tF:=aa KK;clear TS b1 KK hd;generalize Hr:bP ⟨op,xv,name,width,A,args.length,c⟩=fe;have mF:=aa Hr;clear Hr;have x0:=hR.cell 0;have x1:=hR.cell 1;have z6:=hR.cell 6;have c0:=cJ.cell 0;have c1:=cJ.cell 1;have c2:=cJ.cell 2;have y3:=cJ.cell 3;have o4:=cJ.cell 4;have o5:=cJ.cell 5;simp only[Uaa] at x0 x1 z6 c0 c1 c2 y3 o4 o5;by_cases hf:fe=0
 ·subst hf;by_cases h1:op=1
  ·have HR:=aa (show tH ⟨op,xv,name,width,A,args.length,c⟩ (args.map (·.2))=(xv.k,0) by unfold tH;rw[if_neg Ta6,if_pos h1]);have t1:(op==1)=true:=by simpa using h1
   clear h1;go_wp2_with fail;exact bodyPost_ret (v:=.tuple #[ag xv.k,af 0]) Tap rfl ⟨by rw[HR.ae],hB⟩
  ·open zdy in exact ZbH
 ·have HR:=aa (show tH ⟨op,xv,name,width,A,args.length,c⟩ (args.map (·.2))=(0,fe) by unfold tH;rw[if_pos (by rw[mF.ae];exact hf),mF.ae]);have t1:(fe != 0)=true:=by simpa using hf
  clear hf;go_wp2_with fail;exact bodyPost_ret (v:=.tuple #[ag 0,af fe]) Tap rfl ⟨by rw[HR.ae],hB⟩):p:=h
theorem zbJ.Kak(h:p:=by go_wp2_with fail;refine(vq ⟨op,xv,name,width,A,args.length,c⟩ _).mono ?_;rintro e W3 ⟨oo,rfl,TS,b1⟩;clear x0 x1 z2 z3 z4 z5 z6;open zfB in exact Zdy):p:=h
theorem Yq (op:Int)(xv:Val)(name:ByteArray)(width:Int)(A:Option Addr)(c:Nat)(cV:Value)(args:List (Ex×Int))(oG:op≠2\/args≠ [])(w:World)(hl:args.length<=1599289640356)(hA:RE w w.heap.size A (args.map (·.1)))(hE:∀a∈args,Yp w cV a.1 a.2):
  ar 59 #[.agg #[ag op,ag xv.k,af xv.n,.string xv.s,.string name,af width,.slice A args.length c],cV] w λ en w'=>en=.returned (.tuple #[ag (tH ⟨op,xv,name,width,A,args.length,c⟩ (args.map (·.2))).1,af (tH ⟨op,xv,name,width,A,args.length,c⟩ (args.map (·.2))).2])/\aj w w':=by
 have Hq:=aa oG;have HA:=aa hA;have HE:=aa hE;clear hA hE oG;go_enter Tryz.func59,Tryz.ntmps59;have hX:=aB.new w 46 #[ag op,ag xv.k,af xv.n,.string xv.s,.string name,af width,.slice A args.length c];have z6:=hX.cell 6;simp only[Uaa] at z6;go_wp2_with fail;have Kx:=ah w (.cells #[ag op,ag xv.k,af xv.n,.string xv.s,.string name,af width,.slice A args.length c] 46);clear z6;generalize w.alloc (.cells #[ag op,ag xv.k,af xv.n,.string xv.s,.string name,af width,.slice A args.length c] 46)=W at*;go_loopw [6,17] (λ kv i wr=>∃k:Nat,k<=args.length/\i=af k/\aF dP 5 1 wr W.heap.size kv ((args.take k).map (·.2))/\aj W wr) (λ _ i _=>args.length - (intOf i).toNat);case atStart=>exact ZcE
 case round=>
  obtain⟨k,hk,rfl,hp,hb⟩:=hrel;have HK:=aa hp;clear hp;rcases Nat.lt_or_ge k args.length with hlt | ve
  ·obtain⟨b,off,rfl,kz,hex⟩:=(HA.ae.below (Kx.trans (hb.mono Kx.size))).at_ (show k <(args.map (·.1)).length by simpa using hlt);have js:(args.map (·.1))[k]' Tan=args[k].1:=by simp
   exact ZaI
  ·have lN:args.take k=args:=take_of_length_le ve;rw[lN] at HK;clear lN;obtain⟨A9,c9,hu9,uw⟩:=ek (f:=dP) (size:=1) (λ _=>rfl) HK.ae;rw[length_map] at hu9;subst hu9;have hR:=hX.later hb;have hB:=ai.then Kx hb;clear HK hX Kx;have HKC:=aa uw;open zbJ in exact ZaB
def oJ (w:World)(cV:Value)(y:Ex)(t e:Int):Prop:=∀W,aj w W->ar 59 #[.agg (ay y),cV] W λ en w'=>en=.returned (.tuple #[ag t,af e])/\aj W w'
theorem zd6.KaO(h:p:=by
 have js:(args.map (·.1)++bad::post)[k]' Tab=args[k].1:=by rw[getElem_append_left Tan];simp
 exact ZaI):p:=h
theorem zh8.Kcj(h:p:=by
 have eD:=ai.then Kx (ai.then hb (ai.then bY b1));have te:(er != 0)=true:=by have:=Oa.ae;simpa using this
 clear gu hex bY b1 HX Kx hb;go_wp2_with fail;exact bodyPost_ret (v:=.tuple #[ag 0,af er]) Tap rfl ⟨rfl,eD⟩):p:=h
theorem zhg.KbW(h:p:=by clear js fw HK;open zh8 in exact ZgD):p:=h
theorem zd7.KaO(h:p:=by open zhg in exact Zfa):p:=h
theorem zf4.Kbw(h:p:=by
 have Kx:=ah w (.cells #[ag op,ag xv.k,af xv.n,.string xv.s,.string name,af width,.slice A n c] 46);clear x6;generalize w.alloc (.cells #[ag op,ag xv.k,af xv.n,.string xv.s,.string name,af width,.slice A n c] 46)=W at*;go_loopw [6,17] (λ kv i wr=>∃k:Nat,k<=args.length/\i=af k/\aF dP 5 1 wr W.heap.size kv ((args.take k).map (·.2))/\aj W wr) (λ _ i _=>args.length - (intOf i).toNat);case atStart=>exact ZcE
 case round=>
  obtain⟨k,hk,rfl,hp,hb⟩:=hrel;have HK:=aa hp;clear hp;rcases Nat.lt_or_ge k args.length with hlt | ve
  ·open zd6 in exact Zcd
  ·have fw:k=args.length:=by omega
   open zd7 in exact Zcd):p:=h
theorem Yr (op:Int)(xv:Val)(name:ByteArray)(width:Int)(A:Option Addr)(n c:Nat)(cV:Value)(args:List (Ex×Int))(bad:Ex)(bt er:Int)(post:List Ex)(hn:args.length+1+post.length=n)(w:World)(hl:args.length<=1599289640356)(TW:n<=1599289640356)(hA:RE w w.heap.size A (args.map (·.1)++bad::post))(hE:∀a∈args,Yp w cV a.1 a.2)(jV:oJ w cV bad bt er)(her:er≠0):
  ar 59 #[.agg #[ag op,ag xv.k,af xv.n,.string xv.s,.string name,af width,.slice A n c],cV] w λ en w'=>en=.returned (.tuple #[ag 0,af er])/\aj w w':=by have HN:=aa hn;have Hu:=aa jV;have Oa:=aa her;clear hn jV her;have HA:=aa hA;have HE:=aa hE;clear hA hE;go_enter Tryz.func59,Tryz.ntmps59;have HX:=aB.new w 46 #[ag op,ag xv.k,af xv.n,.string xv.s,.string name,af width,.slice A n c];open zf4 in exact Zd5
def mH (cols:List aW)(name:ByteArray):Int×Int:=if di name cols < cols.length then((cols.getD (di name cols) ⟨ByteArray.empty,0⟩).t,0)else(0,41)
theorem zbK.Kak(h:p:=by go_wp2_with fail;exact bodyPost_ret (v:=.tuple #[ag 0,af 41]) Tap rfl ⟨by rw[HQ.ae],hB⟩):p:=h
theorem zeO.Ka2(h:p:=by
 go_wp2_with fail;clear hst x0 x1 z2 z3 z4 z5 z6;refine(Fe cols CA cc name _ HC.ae hl).mono ?_;rintro e w' ⟨rfl,b3⟩;replace hR:=hR.later b3;replace hB:=ai.then hB b3;replace HC:=aa (HC.ae.later b3);clear b3;by_cases uw:di name cols < cols.length
 ·have HP:=aa (show kH name cols=(di name cols:Int) by unfold kH;rw[if_pos uw]);rw[HP.ae];have Xn:=aa (show mH cols name=((cols.getD (di name cols) ⟨ByteArray.empty,0⟩).t,0) by unfold mH;rw[if_pos uw]);clear HP;generalize di name cols=k at*;have hk2:(k:Int)<=140737488355328:=by omega
  have t0:decide (0<=(k:Int))=true:=decide_eq_true WC;obtain⟨b,off,rfl,kz,Od⟩:=HC.ae.at_ uw;have HG:=aa (show cols.getD k ⟨ByteArray.empty,0⟩=cols[k] by rw[getD_eq_getElem?_getD,getElem?_eq_getElem uw];rfl);have HQ:=Xn;rw[HG.ae] at HQ;clear Xn;generalize cols[k]=x at*;unfold mG at Od;have x0:=hR.cell 0;have x1:=hR.cell 1;have z2:=hR.cell 2;have z3:=hR.cell 3;have z4:=hR.cell 4;have z5:=hR.cell 5;have z6:=hR.cell 6;simp only[Uaa] at x0 x1 z2 z3 z4 z5 z6;go_wp2_with fail;exact bodyPost_ret (v:=.tuple #[ag x.t,af 0]) Tap rfl ⟨by rw[HQ.ae],hB⟩
 ·have HP:=aa (show kH name cols= -1 by unfold kH;rw[if_neg uw]);rw[HP.ae];have HQ:=aa (show mH cols name=(0,41) by unfold mH;rw[if_neg uw]);open zbK in exact ZaB):p:=h
theorem zgb.Kby(h:p:=by clear Hr TS x0 x1 z2 z3 z4 z5 z6;have b3:=ai.then b1 (ah w1 (.cells #[af 0,ag 0,ag 0,.bool false,.bool false,.nilFunc] 100));replace hR:=hR.later b3;replace hB:=ai.then hB b3;open zeO in exact ZcB):p:=h
theorem zgB.KbI(h:p:=by
 go_wp2_with fail;have hB:=ah w (.cells #[ag 2,ag Kx.k,af Kx.n,.string Kx.s,.string name,af width,.slice A 0 c] 46);replace HC:=aa (HC.ae.later hB);clear z6;generalize w.alloc (.cells #[ag 2,ag Kx.k,af Kx.n,.string Kx.s,.string name,af width,.slice A 0 c] 46)=W at*;go_loopw [6,17] (λ kv i wr=>kv=az/\i=af 0/\wr=W) (λ _ _ _=>0);case atStart=>exact⟨rfl,rfl,rfl⟩
 case round=>obtain⟨rfl,rfl,rfl⟩:=hrel;have x0:=hR.cell 0;have x1:=hR.cell 1;have z2:=hR.cell 2;have z3:=hR.cell 3;have z4:=hR.cell 4;have z5:=hR.cell 5;have z6:=hR.cell 6;simp only[Uaa] at x0 x1 z2 z3 z4 z5 z6;open zgb in exact Zeb):p:=h
theorem Ys (Kx:Val)(name:ByteArray)(width:Int)(A:Option Addr)(c:Nat)(cols:List aW)(CA:Option Addr)(cc:Nat)(w:World)(hC:RC w w.heap.size CA cols)(hl:cols.length<=140737488355328):
  ar 59 #[.agg #[ag 2,ag Kx.k,af Kx.n,.string Kx.s,.string name,af width,.slice A 0 c],.slice CA cols.length cc] w λ en KK=>en=.returned (.tuple #[ag (mH cols name).1,af (mH cols name).2])/\aj w KK:=by have HC:=aa hC;clear hC;go_enter Tryz.func59,Tryz.ntmps59;have hR:=aB.new w 46 #[ag 2,ag Kx.k,af Kx.n,.string Kx.s,.string name,af width,.slice A 0 c];open zgB in exact Zep
def gP:List (Int×Int)->Int
 | []=>0
 | r::rs=>if r.2≠0 then r.2 else gP rs
def qQ (cols:List aW)(x:Ex)(rs:List (Int×Int)):Int×Int:=
 if gP rs≠0 then(0,gP rs)else if bP x≠0 then(0,bP x)else if x.op=1 then(x.v.k,0)else if x.op=2 then mH cols x.name else if gM x.op (rs.map (·.1))=false then(0,40)else(tQ x.op,0)
mutual
def Tr.type (cols:List aW):Tr->Int×Int
 | .mk op v name width args=>qQ cols ⟨op,v,name,width,none,args.length,0⟩ (Tr.types cols args)
def Tr.types (cols:List aW):List Tr->List (Int×Int)
 | []=> []
 | t::ts=>t.type cols::Tr.types cols ts
end
theorem Tr.oK (cols:List aW):∀ts,(Tr.types cols ts).length=ts.length
 | []=>by simp[Tr.types]
 | t::ts=>by simp[Tr.types,Tr.oK cols ts]
theorem oL:∀(l:List (Ex×(Int×Int))),(∀a∈l,a.2.2=0)\/∃pre bad post,l=pre++bad::post/\(∀a∈pre,a.2.2=0)/\bad.2.2≠0
 | []=> .inl Tac
 | a::l=>by
   by_cases h:a.2.2=0
   ·rcases oL l with h1 |⟨pre,bad,post,h1,h2,h3⟩
    ·exact .inl (by intro x hx;rcases List.mem_cons.1 hx with rfl | hx;exact h;exact h1 x hx)
    ·refine .inr ⟨a::pre,bad,post,by rw[h1];rfl,?_,h3⟩;intro x hx;rcases List.mem_cons.1 hx with rfl | hx
     ·exact h
     ·exact h2 x hx
   ·exact .inr ⟨[],a,l,rfl,by simp,h⟩
theorem qR:∀ {l:List (Int×Int)},(∀a∈l,a.2=0)->gP l=0
 | [],_=>rfl
 | a::l,h=>by unfold gP;rw[if_neg TaP];exact qR λ x hx=>h x Tbf
theorem xi:∀ {pre post:List (Int×Int)} {bad:Int×Int},(∀a∈pre,a.2=0)->bad.2≠0->gP (pre++bad::post)=bad.2
 | [],post,bad,_,hb=>by unfold gP;simp[hb]
 | a::pre,post,bad,h,hb=>by show gP (a::(pre++bad::post))=_;unfold gP;rw[if_neg TaP];exact xi (λ x hx=>h x Tbf) hb
section
variable (cols:List aW) (CA:Option Addr) (cc:Nat)
theorem Yt (op:Int)(xv:Val)(name:ByteArray)(width:Int)(A:Option Addr)(c:Nat)(args:List (Ex×(Int×Int)))(w:World)(hl:args.length<=1599289640356)(hA:RE w w.heap.size A (args.map (·.1)))
  (hC:RC w w.heap.size CA cols) (cf:cols.length<=140737488355328) (hE:∀a∈args,oJ w (.slice CA cols.length cc) a.1 a.2.1 a.2.2):
  ar 59 #[.agg #[ag op,ag xv.k,af xv.n,.string xv.s,.string name,af width,.slice A args.length c],.slice CA cols.length cc] w λ en w'=>en=.returned (.tuple #[ag (qQ cols ⟨op,xv,name,width,none,args.length,0⟩ (args.map (·.2))).1,af (qQ cols ⟨op,xv,name,width,none,args.length,0⟩ (args.map (·.2))).2])/\aj w w':=by
 rcases oL args with h0 |⟨pre,bad,post,rfl,Ee,jV⟩
 ·have hf:gP (args.map (·.2))=0:=qR λ a ha=>by obtain⟨z,hz,rfl⟩:=List.mem_map.1 ha;exact h0 z hz
  by_cases h2:op=2/\args=[]
  ·obtain⟨rfl,rfl⟩:=h2;have k:=Ys xv name width A c cols CA cc w hC cf;have e:qQ cols ⟨2,xv,name,width,none,0,0⟩ []=mH cols name:=by unfold qQ;rw[if_neg (by simp[gP]),if_neg (by simp[bP]),if_neg Tac,if_pos (by rfl)]
   show Calls _ _ _ _ λ en w'=>en=.returned (.tuple #[ag (qQ cols ⟨2,xv,name,width,none,0,0⟩ []).1,af (qQ cols ⟨2,xv,name,width,none,0,0⟩ []).2])/\_
   rw[e];exact k
  ·have k:=Yq op xv name width A c (.slice CA cols.length cc) (args.map λ a=>(a.1,a.2.1)) (by
    by_cases ho:op=2
    ·right;intro h;exact h2 ⟨ho,by simpa using h⟩
    ·exact .inl ho) w (by simpa using hl) Tat (λ a ha=>by
    obtain⟨z,hz,rfl⟩:=List.mem_map.1 ha
    have:=hE z hz
    rw[h0 z hz] at this
    exact this)
   rw[length_map] at k;have hm:(args.map λ a=>(a.1,a.2.1)).map (·.2)=(args.map (·.2)).map (·.1):=by simp[Function.comp_def]
   rw[hm] at k;have e:qQ cols ⟨op,xv,name,width,none,args.length,0⟩ (args.map (·.2))=tH ⟨op,xv,name,width,A,args.length,c⟩ ((args.map (·.2)).map (·.1)):=by have agH:bP ⟨op,xv,name,width,A,args.length,c⟩=bP ⟨op,xv,name,width,none,args.length,0⟩:=rfl;unfold qQ tH;exact Zb4
   rw[e];exact k
 ·have hbE:=hE bad Tac;have k:=Yr op xv name width A (pre++bad::post).length c (.slice CA cols.length cc) (pre.map λ a=>(a.1,a.2.1)) bad.1 bad.2.1 bad.2.2 (post.map (·.1)) Tab w (by simp at hl ⊢;omega) hl Tat (λ a ha=>by
   obtain⟨z,hz',rfl⟩:=List.mem_map.1 ha
   have:=hE z (by simp[hz'])
   rw[Ee z hz'] at this
   exact this) hbE jV
  have hf:gP ((pre++bad::post).map (·.2))=bad.2.2:=by rw[map_append,map_cons];exact xi (λ a ha=>by obtain⟨z,hz',rfl⟩:=List.mem_map.1 ha;exact Ee z hz') jV
  have e:qQ cols ⟨op,xv,name,width,none,(pre++bad::post).length,0⟩ ((pre++bad::post).map (·.2))=(0,bad.2.2):=by unfold qQ;rw[if_pos (by rw[hf];exact jV),hf]
  rw[e];exact k
mutual
theorem Tr.oM (cf:cols.length<=140737488355328):∀(t:Tr) (y:Ex) (w:World),t.ok->t.at_ w (Old w) y->RC w w.heap.size CA cols->oJ w (.slice CA cols.length cc) y (t.type cols).1 (t.type cols).2
 | .mk op v name width args,y,w,aZ,hat,hC=>by
   intro W hb;have nN:=hat.later hb;unfold Tr.at_ at nN;obtain⟨h1,h2,h3,h4,h5,ys,h6,h7⟩:=nN;unfold Tr.ok at aZ;obtain⟨l,ft,hl2,tT⟩:=Tr.Bh cf args ys W aZ.2.2.2.2.2 h7 (hC.later hb);obtain⟨JL,yv,kS,gO,yA,yn,yc⟩:=y;dsimp only at h1 h2 h3 h4 h5 h6;subst h1 h2 h3 h4 h5;have hlen:l.length=args.length:=by
    have:(l.map (·.2)).length=(Tr.types cols args).length:=by rw[hl2]
    rw[length_map,Tr.oK] at this;exact this
   have k:=Yt cols CA cc JL yv kS gO yA yc l W (by rw[hlen];exact aZ.2.1) Tbc (hC.later hb) cf tT;rw[hl2,hlen] at k;unfold Tr.type;exact k
theorem Tr.Bh (cf:cols.length<=140737488355328):∀(ts:List Tr) (ys:List Ex) (w:World),Tr.cL ts->Tr.aO w (Old w) ts ys->RC w w.heap.size CA cols->∃l:List (Ex×(Int×Int)),l.map (·.1)=ys/\l.map (·.2)=Tr.types cols ts/\∀a∈l,oJ w (.slice CA cols.length cc) a.1 a.2.1 a.2.2
 | [],ys,w,_,hat,_=>by unfold Tr.aO at hat;subst hat;exact⟨[],rfl,by simp[Tr.types],by simp⟩
 | t::ts,ys,w,aZ,hat,hC=>by
   unfold Tr.aO at hat;unfold Tr.cL at aZ;obtain⟨y,ys',rfl,h2,h3⟩:=hat;obtain⟨l,ft,hl2,tT⟩:=Tr.Bh cf ts ys' w aZ.2 h3 hC;refine⟨(y,t.type cols)::l,by simp[ft],by simp[hl2,Tr.types],λ a ha=>?_⟩;rcases List.mem_cons.1 ha with rfl | ha
   ·exact Tr.oM cf t y w aZ.1 h2 hC
   ·exact tT a ha
end
end
theorem vw:Tryz.prog.cellsOf 5=1:=by exact Zgn
theorem si:Tryz.prog.cellsOf 2=1:=by exact Zgn
theorem gD:Tryz.prog.cellsOf 9=1:=by exact Zgn
theorem mI:Tryz.prog.cellsOf 44=3:=by exact Zgn
theorem RH(h:(Lit.int .u8 n).wf=true):0<=n/\n<=255:=by exact ZgK
section
variable {H:Type} {enc:TypeId×Value->H} {w:World} {base:Nat} {spare:Nat->Bool} {held:Bool} {fuel:Nat} {cs:List Value} {x:DataW H×List MemPlace}
theorem Hw {n:Int}(h:(Lit.int .i64 n).wf=true): -9223372036854775808<=n/\n<=9223372036854775807:=by exact ZgK
theorem Yu (h:DataW.trod enc Tryz.prog w base spare held fuel 44 cs=some x):∃a:Val,cs=[ag a.k,af a.n,.string a.s]/\a.Ok/\0<=a.k/\a.k<=255:=by
 obtain⟨xs,n,_,_,hl,hlen,hf⟩:=DataW.trod_struct Tryz.underlying44 h;rw[mI] at hl
 match cs,hl with
 | [c0,c1,c2],_=>
   have get:∀i,i < 3->∃y,xs[i]?=some y:=λ i hi=>⟨xs[i]'(by simp at hlen;omega),getElem?_eq_getElem _⟩
   obtain⟨y0,e0⟩:=get 0 WC;obtain⟨y1,e1⟩:=get 1 WC;obtain⟨y2,e2⟩:=get 2 WC;have t0:DataW.trod enc Tryz.prog w base spare held n 5 (([c0,c1,c2].drop 0).take (Tryz.prog.cellsOf 5))=some y0:=(hf 0 _ rfl).trans e0;have t1:DataW.trod enc Tryz.prog w base spare held n 2 (([c0,c1,c2].drop 1).take (Tryz.prog.cellsOf 2))=some y1:=(hf 1 _ rfl).trans e1;have t2:DataW.trod enc Tryz.prog w base spare held n 9 (([c0,c1,c2].drop 2).take (Tryz.prog.cellsOf 9))=some y2:=(hf 2 _ rfl).trans e2;rw[vw] at t0;rw[si] at t1;rw[gD] at t2;simp only[drop_succ_cons,drop_zero,take_succ_cons,take_zero] at t0 t1 t2;obtain⟨n0,q0,_,f0⟩:=DataW.trod_int Tryz.underlying5 t0;obtain⟨n1,q1,_,f1⟩:=DataW.trod_int Tryz.underlying2 t1;obtain⟨s,q2,_,f2⟩:=DataW.trod_string Tryz.underlying9 t2;simp at q0 q1 q2;subst q0 q1 q2;exact⟨⟨n0,n1,s⟩,rfl,Hw f1,RH f0⟩
end
theorem pick{P:Nat->α->Prop}:∀n,(∀i,i < n->∃x,P i x)->∃l:List α,l.length=n/\∀i x,l[i]?=some x->P i x
 | 0,_=>⟨[],rfl,λ i x h=>by simp at h⟩
 | n+1,h=>by
   obtain⟨l,hl,hp⟩:=pick n λ i hi=>h i WC
   obtain⟨y,hy⟩:=h n WC;refine⟨l++ [y],by simp[hl],λ i x hx=>?_⟩;rcases Nat.lt_trichotomy i n with hi | hi | hi
   ·rw[getElem?_append_left WC] at hx;exact hp i x hx
   ·subst hi;rw[getElem?_append_right WC,hl] at hx;simp at hx;subst hx;exact hy
   ·rw[getElem?_eq_none Tab] at hx;cases hx
theorem jN{a:Addr} (h:w.cell? a=some v):a.block < w.heap.size/\a.spot=none:=by
 unfold World.cell? at h;split at h
 ·rename_i hb;refine⟨?_,?_⟩
  ·rcases Nat.lt_or_ge a.block w.heap.size with h' | h'
   ·exact h'
   ·rw[Array.getElem?_eq_none h'] at hb;cases hb
  ·split at h
   ·cases h
   ·rename_i hs;simpa using hs
 ·cases h
end Go.Proofs.YtndgjggokjickaaGreatDoor
