/- Parts of the proof. -/
import Derived.Test.YtndgjggokjickaaGreatDoorXX1
namespace Go.Proofs.YtndgjggokjickaaGreatDoor
variable{p:Prop}
set_option maxHeartbeats 90000000
set_option maxRecDepth 100000
open Go.ChangeShapes Go.WideShapes Go.ChangeAt Go.RowKit List
set_option linter.unusedVariables false
set_option linter.unusedSimpArgs false
variable{P:Program}{Q:Exit->Act->World->Prop}{a0:Act}{w0:World}{id:Nat}{ops:List Oper}
theorem NR(k:Nat)(R:World->World->Prop)(hrefl:∀w,R w w)(AJ:∀a b c,R a b->R b c->R a c)(nO:∀w,R w w.drew)
  (V:Nat->World->Value->Prop) (U:Nat->World->(Operand->Value)->Prop) (hU:XU (ops.take k) R U) (hV:∀i w w' v,V i w v->R w w'->V i w' v) (hm:P.follows .mixedOrders=true)
  (aZ:dM (ops.take k) a0.tmps.size (ops.take k) 0=true) (hz:eI ops (ops.drop k) (ops.take k).length=true)
  (hs:Hi P (ops.take k) R V U a0 w0 (ops.take k) 0) (hf:∀w,R w0 w->bE V (λ a w=>(∀i o,(ops.take k)[i]?=some o->U i w a.eval)->wpList P ops.toArray Q (ops.drop k) a w) (ops.take k) 0 a0 w):(Code.region id ops.toArray true).wp P Q a0 w0:=
 Hj (ops.drop k) (ops.take k) (take_append_drop k ops).symm R hrefl AJ nO V U hU hV hm aZ TaL hs hf
def Rw (B gx:Nat)(op:Int):Nat->World->Value->Prop
 | 0=>λ w v=>Found w op v
 | 1=>λ _ v=>v=aw gx
 | 2=>λ _ v=>v=ag op
 | 3=>λ w v=>∃o,v=.tuple #[.agg o,.bool (kJ op)]/\yC w op o
 | 4=>λ w v=>∃o,v=.tuple #[.agg o,.bool (kJ op)]/\yC w op o
 | 5=>λ w v=>∃o,v=.agg o/\yC w op o
 | 6=>λ _ v=>v=.bool (kJ op)
 | 7=>λ w v=>∃g,v=aw g/\B<=g/\∃cs,aB w g 100 cs/\cs.size=6
 | _=>λ _ _=>True
theorem Kh (B gx:Nat)(op:Int)(i:Nat)(w w':World)(v:Value)(h:Rw B gx op i w v)(hr:FR op B w w'):Rw B gx op i w' v:=by
 unfold Rw at*;split at h
 ·exact h.fr hr
 ·exact h
 ·exact h
 ·exact Zgs
 ·exact Zgs
 ·exact Zgs
 ·exact h
 ·obtain⟨g,h1,h2,cs,h3,h4⟩:=h;refine⟨g,h1,h2,?_⟩;rcases hr.blk _ _ _ h3 with h5 |⟨_,_,o,h5,h6⟩
  ·exact⟨cs,h5,h4⟩
  ·obtain⟨a,wa,gi,al,nu,d,rfl,_⟩:=h5.shape;exact⟨_,h6,rfl⟩
 ·trivial
def XW (B:Nat)(op:Int)(i:Nat)(w:World)(ρ:Operand->Value):Prop:=
 i=8->∃g o,ρ (.tmp 4)=aw g/\B<=g/\yC w op o/\aB w g 100 o
variable{w w':World}{ρ ρ':Operand->Value}
theorem Ki(B:Nat)(op:Int)  (i:Nat)(h:XW B op i w ρ)(hr:FR op B w w')(he:i=8->ρ' (.tmp 4)=ρ (.tmp 4)):XW B op i w' ρ':=by
 intro hi;obtain⟨g,o,h1,h2,h3,h4⟩:=h hi;rcases hr.blk _ _ _ h4 with h5 |⟨_,_,o',h6,h7⟩
 ·exact⟨g,o,(he hi).trans h1,h2,h3.fr hr,h5⟩
 ·exact⟨g,o',(he hi).trans h1,h2,h6,h7⟩
def bQ (x:Ex):Int:=
 if x.op=1/\x.n=0/\good x.v=true\/x.op=2/\x.n=0 then 0
 else if kJ x.op=true/\(x.n:Int)=qN x.op/\(x.op≠20\/(1<=x.width/\x.width<=1099511627776))then 0
 else if (x.n:Int)=nx x.op then 42 else 21
def XX (x:Ex)(w:World)(e:Ending)(w':World):Prop:=∃o,e=.returned (.tuple #[.agg o,af (bQ x)])/\yC w' x.op o/\aj w w'
theorem zc1.Kaz(h:p:=by
 go_wp2_with fail;refine(fD x.op _).mono ?_;rintro e w9 ⟨rfl,rfl⟩;by_cases hn:(x.n:Int)=nx x.op
 ·have t1:((x.n:Int)==nx x.op)=true:=by simpa using hn
  have pX:=aa (show bQ x=42 by have LE:=P1.ae;have KK:=N2.ae;simp only[bQ];rw[if_neg Tam,if_neg Tam,if_pos hn]);exact Zbz
 ·have t1:((x.n:Int)==nx x.op)=false:=by simpa using hn
  have pX:=aa (show bQ x=21 by have LE:=P1.ae;have KK:=N2.ae;simp only[bQ];rw[if_neg Tam,if_neg Tam,if_neg hn]);exact ZbA):p:=h
theorem zc2.Kaz(h:p:=by have pX:=aa (show bQ x=0 by have LE:=P1.ae;have KK:=N2.ae;simp only[bQ];rw[if_pos Tam]);exact ZbW):p:=h
theorem vC (x:Ex)(w:World):ar 42 #[.agg (ay x)] w (XX x w):=by
 go_enter Tryz.func42,Tryz.ntmps42;go_wp2_with fail;have k1:=(aB.new w 46 (ay x)).alloc (.cells #[af 0,ag 0,ag 0,.bool false,.bool false,.nilFunc] 100);have Ly:=aB.new (w.alloc (.cells (ay x) 46)) 100 #[af 0,ag 0,ag 0,.bool false,.bool false,.nilFunc];rw[World.size_alloc] at Ly;have hB:=ai.then (ah w (.cells (ay x) 46)) (ah _ (.cells #[af 0,ag 0,ag 0,.bool false,.bool false,.nilFunc] 100));have hgx:w.heap.size <((w.alloc (.cells (ay x) 46)).alloc (.cells #[af 0,ag 0,ag 0,.bool false,.bool false,.nilFunc] 100)).heap.size:=by simp;omega
 generalize (w.alloc (.cells (ay x) 46)).alloc (.cells #[af 0,ag 0,ag 0,.bool false,.bool false,.nilFunc] 100)=W at*;have bJ:w.heap.size<=w.heap.size+1:=by omega
 generalize w.heap.size+1=g at*;refine NR 9 (FR x.op W.heap.size) (FR.refl _ _) (λ _ _ _=>FR.trans) (λ u=>?_) (Rw W.heap.size w.heap.size x.op) (XW W.heap.size x.op) ?_ (λ i u u' v h hr=>Kh _ _ _ _ _ _ _ h hr) Taa Taa Taa ?_ ?_
 ·exact⟨(Below.refl _ _).drew,λ Nm t cs h=> .inl h,λ Nm es c h=>h⟩
 ·intro i o u u' ρ ρ' hi hu hr hk;refine Ki _ _ i hu hr λ e=>?_
  subst e;simp only[take_succ_cons,take_zero] at hi hk;refine hk 7 ?_ _ 4 rfl rfl;injection hi with hi;subst hi;decide
 ·simp only[take_succ_cons,take_zero];refine⟨?_,?_,?_,?_,?_,?_,?_,?_,?_,trivial⟩
  ·intro ρ w3 hc hL hr;have e1:=hc.func 75;refine bj (f:=75) (args:= #[]) (w':=w3) (by simp[go_sem,e1]) ?_;refine(TJ x.op w3).mono ?_;rintro e w2 ⟨v,he,hf,hb⟩;exact⟨v,he,FR.later hb hL.below.size,hf,λ h=>by cases h⟩
  ·intro ρ w3 hc hL hr;have h1:_=_:=hr.1;exact ZgA
  ·intro ρ w3 hc hL hr;have h1:_=_:=hr.1;have c0:=(k1.below hL.below hgx).cell 0;simp only[getElem?_toArray,getElem?_cons_zero] at c0;exact aq (w':=w3) Tbe ⟨FR.refl _ _ _,rfl,λ h=>by cases h⟩
  ·intro ρ w3 hc hL hr;obtain⟨Nm,es,h1,hg,TK⟩:Found w3 x.op (ρ (.tmp 8)):=hr.1;have h2:_=_:=hr.2.1;rcases TK with ⟨ho,i,o,hfi,hoi⟩|⟨ho,hfi⟩
   ·have hl:=XV _ _ _ _ hg x.op i _ hfi;exact aq (v:=.tuple #[.agg o,.bool true]) (w':=w3) Ta8 ⟨FR.refl _ _ _,⟨o,by rw[ho],.inl ⟨ho,hoi⟩⟩,λ h=>by cases h⟩
   ·have hl:=aaY _ _ _ _ hg x.op hfi;exact aq (v:=.tuple #[.agg oG,.bool false]) (w':=w3) Ta8 ⟨FR.refl _ _ _,⟨oG,by rw[ho],.inr ⟨ho,rfl⟩⟩,λ h=>by cases h⟩
  ·intro ρ w3 hc hL hr;exact iU (.inl rfl) rfl ⟨FR.refl _ _ _,hr.1,λ h=>by cases h⟩
  ·intro ρ w3 hc hL hr;obtain⟨o,h1,h2⟩:∃o,ρ (.tmp 7)=.tuple #[.agg o,.bool (kJ x.op)]/\yC w3 x.op o:=hr.1;exact aq (w':=w3) TaG ⟨FR.refl _ _ _,⟨o,rfl,h2⟩,λ h=>by cases h⟩
  ·intro ρ w3 hc hL hr;obtain⟨o,h1,h2⟩:∃o,ρ (.tmp 7)=.tuple #[.agg o,.bool (kJ x.op)]/\yC w3 x.op o:=hr.1;exact ZgA
  ·intro ρ w3 hc hL hr;refine aq (w':=w3.alloc (.cells #[af 0,ag 0,ag 0,.bool false,.bool false,.nilFunc] 100)) (by simp[go_sem]) ⟨FR.later (ah w3 _) hL.below.size,⟨w3.heap.size,rfl,hL.below.size,_,aB.new w3 _ _,rfl⟩,λ h=>by cases h⟩
  ·intro ρ w3 hc hL hr;obtain⟨Nm,h1,hgB,cs,hcs,hsz⟩:∃Nm,ρ (.tmp 4)=aw Nm/\W.heap.size<=Nm/\∃cs,aB w3 Nm 100 cs/\cs.size=6:=hr.1;obtain⟨o,h2,ho⟩:∃o,ρ (.tmp 12)=.agg o/\yC w3 x.op o:=hr.2.1;obtain⟨a,wa,gi,al,nu,d,rfl,_,hd⟩:=ho.shape;obtain⟨f1,f2⟩:=dN hcs hsz hgB ho;have akW:=AU hcs hsz a wa gi al nu d;have c:∀i,(hi:i < 6)->w3.cell? ⟨Nm,i,none⟩=some (cs[i]' WC):=λ i hi=>(hcs.cell i).trans (Array.getElem?_eq_getElem WC)
   have fz:=hcs.frozen;have c0:=c 0 WC;have c1:=c 1 WC;have LT:=c 2 WC;have c3:=c 3 WC;have c4:=c 4 WC;have c5:=c 5 WC;refine JZ (w':=vB w3 Nm a wa gi al nu d) ?_ ⟨f1,trivial,λ _=>⟨Nm,_,h1,hgB,f2,akW⟩⟩;unfold vB;rcases hd with rfl |⟨F,C,rfl⟩
   ·simp[go_sem,h1,h2,cI,c0,c1,LT,c3,c4,c5,fz]
   ·simp[go_sem,h1,h2,cI,c0,c1,LT,c3,c4,c5,fz]
 ·intro w3 hL;simp only[Uab];rintro _ ⟨gm,es,rfl,hgm,TK⟩ _ rfl _ rfl _ ⟨o3,rfl,h3⟩ _ ⟨Lw,rfl,h4⟩ _ ⟨Kx,rfl,h5⟩ _ rfl _ ⟨g4,rfl,hg4,cs,hcs,hsz⟩ hu;obtain⟨Nm,o,hg,hgB,ho,hR⟩:=hu 8 _ rfl rfl;have ee:g4=Nm:=by simpa [Act.put,Act.eval] using hg
  subst ee;clear hu hg hcs hsz cs TK hgm es h3 h4 h5 hg4;replace k1:=k1.below hL.below hgx;have cJ:=Ly.below hL.below (aB.lt Ly);replace hB:=hB.trans (hL.below.mono hB.size);clear Ly hL hgx;obtain⟨a,wa,gi,al,nu,d,rfl,_,hd⟩:=ho.shape;have Kj:=λ h=>yC.args ho h
  have jV:d.oneCell'=true:=by rcases hd with rfl |⟨F,C,rfl⟩<;> rfl
  have hst:=λ(u:Addr) (m:Mode) (w:World)=>run_store Tryz.prog w u d m jV
  clear hd jV;have HO:=aa ho;clear ho;simp only[bE,Act.put,Uac];have z0:=k1.cell 0;have z1:=k1.cell 1;have x2:=k1.cell 2;have x3:=k1.cell 3;have x5:=k1.cell 5;have x6:=k1.cell 6;have x0:=hR.cell 0;have x1:=hR.cell 1;have z2:=hR.cell 2;have z3:=hR.cell 3;have z4:=hR.cell 4;have z5:=hR.cell 5;have y0:=cJ.cell 0;have y1:=cJ.cell 1;have c2:=cJ.cell 2;have y3:=cJ.cell 3;have o4:=cJ.cell 4;have o5:=cJ.cell 5;have rf:=cJ.frozen;unfold cI at x0 x1 z2 z3 z4 z5;simp only[Uaa] at z0 z1 x2 x3 x5 x6 x0 x1 z2 z3 z4 z5 y0 y1 c2 y3 o4 o5;cases b1:(x.op==1)
  ·cases MY:(x.op==2)
   ·have n1:¬x.op=1:=by simpa using b1
    have n2:¬x.op=2:=by simpa using MY
    cases q1:kJ x.op
    ·clear Kj;exact Zbi
    ·have ha:=Kj q1;clear Kj;cases b4:((x.n:Int)==a)
     ·have n4:¬(x.n:Int)=qN x.op:=by rw[<- ha];simpa using b4
      clear ha;exact Zbi
     ·have n4:(x.n:Int)=qN x.op:=by rw[<- ha];simpa using b4
      have N4:=aa n4;clear ha n4;cases b5:(x.op != 20)
      ·have n5:x.op=20:=by simpa using b5
       have N5:=aa n5;clear n5;have kw:=Tz x.width;cases b6:(decide (1<=x.width)&& decide (x.width<=1099511627776))
       ·rw[b6] at kw;have K1:=aa kw;clear kw;go_wp2_with fail;refine(K1.ae _).mono ?_;rintro e w1 ⟨rfl,rfl⟩;have n6:¬(1<=x.width/\x.width<=1099511627776):=by simpa using b6
        clear b6;go_wp2_with fail;refine(fD x.op _).mono ?_;rintro e w9 ⟨rfl,rfl⟩;by_cases hn:(x.n:Int)=nx x.op
        ·have t1:((x.n:Int)==nx x.op)=true:=by simpa using hn
         have pX:=aa (show bQ x=42 by have LE:=N4.ae;have KK:=N5.ae;simp only[bQ];rw[if_neg Tam,if_neg Tam,if_pos hn]);exact Zbz
        ·have t1:((x.n:Int)==nx x.op)=false:=by simpa using hn
         have pX:=aa (show bQ x=21 by have LE:=N4.ae;have KK:=N5.ae;simp only[bQ];rw[if_neg Tam,if_neg Tam,if_neg hn]);exact ZbA
       ·rw[b6] at kw;have K1:=aa kw;clear kw;have n6:1<=x.width/\x.width<=1099511627776:=by simpa using b6
        clear b6;go_wp2_with fail;refine(K1.ae _).mono ?_;rintro e w1 ⟨rfl,rfl⟩;have pX:=aa (show bQ x=0 by have LE:=N4.ae;have KK:=N5.ae;simp only[bQ];rw[if_neg Tam,if_pos Tam]);exact ZbW
      ·have n5:¬x.op=20:=by simpa using b5
       have pX:=aa (show bQ x=0 by have LE:=N4.ae;simp only[bQ];rw[if_neg Tam,if_pos Tam]);exact ZbW
   ·have p2:x.op=2:=by simpa using MY
    have q1:kJ x.op=false:=by rw[p2];rfl
    rw[q1];have P2:=aa p2;clear Kj p2;cases b2:((x.n:Int)==0)
    ·have n2:¬x.n=0:=by simpa using b2
     go_wp2_with fail;refine(fD x.op _).mono ?_;rintro e w9 ⟨rfl,rfl⟩;by_cases hn:(x.n:Int)=nx x.op
     ·have t1:((x.n:Int)==nx x.op)=true:=by simpa using hn
      have pX:=aa (show bQ x=42 by have LE:=P2.ae;simp only[bQ];rw[if_neg Tam,if_neg Tam,if_pos hn]);exact Zbz
     ·have t1:((x.n:Int)==nx x.op)=false:=by simpa using hn
      have pX:=aa (show bQ x=21 by have LE:=P2.ae;simp only[bQ];rw[if_neg Tam,if_neg Tam,if_neg hn]);exact ZbA
    ·have n2:x.n=0:=by simpa using b2
     have N2:=aa n2;clear n2;have pX:=aa (show bQ x=0 by have LE:=P2.ae;have KK:=N2.ae;simp only[bQ];rw[if_pos Tam]);exact ZbW
  ·have p1:x.op=1:=by simpa using b1
   have q1:kJ x.op=false:=by rw[p1];rfl
   have MY:(x.op==2)=false:=by rw[p1];rfl
   rw[q1];have P1:=aa p1;clear Kj p1;cases b2:((x.n:Int)==0)
   ·have n2:¬x.n=0:=by simpa using b2
    go_wp2_with fail;refine(fD x.op _).mono ?_;rintro e w9 ⟨rfl,rfl⟩;by_cases hn:(x.n:Int)=nx x.op
    ·have t1:((x.n:Int)==nx x.op)=true:=by simpa using hn
     have pX:=aa (show bQ x=42 by have LE:=P1.ae;simp only[bQ];rw[if_neg Tam,if_neg Tam,if_pos hn]);exact Zbz
    ·have t1:((x.n:Int)==nx x.op)=false:=by simpa using hn
     have pX:=aa (show bQ x=21 by have LE:=P1.ae;simp only[bQ];rw[if_neg Tam,if_neg Tam,if_neg hn]);exact ZbA
   ·have n2:x.n=0:=by simpa using b2
    have N2:=aa n2;clear n2;have Uw:=vu x.v;cases bg:good x.v
    ·open zc1 in exact Zbf
    ·open zc2 in exact Zbf
theorem sf (t:Int)(w:World):ar 73 #[ag t] w λ e w'=>e=.returned (.bool (t==0))/\w=w':=by go_enter Tryz.func73,Tryz.ntmps73;exact ZfC
def iI (a b:Int):Int:=if a=0 then 0 else if b=0 then 1 else -1
theorem zeC.KaV(h:p:=by refine(K2.ae _).mono ?_;rintro e w1 ⟨rfl,rfl⟩;exact ZfB):p:=h
theorem zeD.KaV(h:p:=by refine(K2.ae _).mono ?_;exact ZhA):p:=h
theorem tK (g c:Nat)(a b:Int)(w:World)(h0:w.cell? ⟨g,0,none⟩=some (ag a))(h1:w.cell? ⟨g,1,none⟩=some (ag b)):
  ar 107 #[aH g 2 c,.func (.func 73) #[] #[]] w λ e w'=>e=.returned (af (iI a b))/\w=w':=by
 unfold iI;cases ha:(a==0)
 ·have ha':¬a=0:=by simpa using ha
  rw[if_neg ha'];cases hb:(b==0)
  ·have hb':¬b=0:=by simpa using hb
   rw[if_neg hb'];have k1:=sf a;have k2:=sf b;rw[ha] at k1;rw[hb] at k2;have K1:=aa k1;have K2:=aa k2;clear k1 k2 ha' hb';go_enter Tryz.func107,Tryz.ntmps107;open zeC in exact Zcp
  ·have hb':b=0:=by simpa using hb
   rw[if_pos hb'];have k1:=sf a;have k2:=sf b;rw[ha] at k1;rw[hb] at k2;have K1:=aa k1;have K2:=aa k2;clear k1 k2 ha' hb';go_enter Tryz.func107,Tryz.ntmps107;open zeD in exact Zcp
 ·have ha':a=0:=by simpa using ha
  rw[if_pos ha'];have k1:=sf a;rw[ha] at k1;have K1:=aa k1;clear k1 ha';go_enter Tryz.func107,Tryz.ntmps107;go_wp2_with fail;refine wp_loop_rounds 3 ?_;rw[rounds_succ];go_wp2_with fail;refine(K1.ae _).mono ?_;exact ZhA
theorem aaZ (w:World):(zeroValue 5).run Tryz.prog w=.ok (ag 0) w:=by exact Zgx
theorem si (w:World)(g o n c:Nat)(cs:Array Value)(h:aB w g 5 cs)(hn:0 < n)(hs:o+n<=cs.size):
  (Builtin.clear_ #[97] 0 #[.slice (some ⟨g,o,none⟩) n c]).run Tryz.prog w=.ok (.tuple #[]) (w.setCells g o (List.replicate n (ag 0))):=
 Go.Lib.run_clear_slice w 97 5 0 (ag 0) Tryz.underlying97 aaZ rfl rfl g o n c hn (λ j hj=>by rw[h.cell,Array.getElem?_eq_getElem WC];rfl) (λ j hj=>h.frozen _)
variable{B:Nat}
theorem fO(g:Nat)(hg:B<=g):∀(vs:List Value) (o:Nat) (w:World),Below B w0 w->Below B w0 (w.setCells g o vs)
 | [],o,w,h=>h
 | v::vs,o,w,h=>by rw[World.setCells];exact fO g hg vs (o+1) _ (h.setCell (p:=⟨g,o,none⟩) hg v)
def aba (g c:Nat)(w:World)(e:Ending)(w':World):Prop:=∃n,n<=1/\e=.returned (aH g n c)/\Below g w w'
theorem zeE.KaV(h:p:=by go_ret;exact⟨1,Nat.le_refl _,rfl,hB⟩):p:=h
theorem zeF.KaV(h:p:=by go_ret;exact⟨0,by omega,rfl,hB⟩):p:=h
theorem NS (g c:Nat)(a b:Int)(cs:Array Value)(w:World)(h:aB w g 5 cs)(hsz:2<=cs.size)(h0:cs[0]?=some (ag a))(h1:cs[1]?=some (ag b))(hc:2<=c)(hab:a=0\/b=0):
  ar 71 #[aH g 2 c,.func (.func 73) #[] #[]] w (aba g c w):=by
 have c0:=(h.cell 0).trans h0;have c1:=(h.cell 1).trans h1;have fz:=h.frozen;have ki:=tK g c a b w c0 c1;have k2:=sf b;cases ha:(a==0)
 ·have ha':¬a=0:=by simpa using ha
  have hb':b=0:=by omega
  have e0:iI a b=1:=by simp[iI,ha',hb']
  rw[e0] at ki;have KI:=aa ki;have cf:=si w g 1 1 (c - 1) cs h WC WC;have hB:=fO g (Nat.le_refl g) (List.replicate 1 (ag 0)) 1 w (Below.refl g w);clear ki k2 e0 ha' hb' hab;generalize w.setCells g 1 (List.replicate 1 (ag 0))=W at*;go_enter Tryz.func71,Tryz.ntmps71;go_wp2_with fail;refine KI.ae.mono ?_;rintro e w1 ⟨rfl,rfl⟩;go_wp2_with fail;refine wp_loop_rounds 3 ?_;rw[rounds_succ];go_wp2_with fail;go_ret;exact⟨1,Nat.le_refl _,rfl,hB⟩
 ·have ha':a=0:=by simpa using ha
  have e0:iI a b=0:=by simp[iI,ha']
  rw[e0] at ki;have KI:=aa ki;clear ki e0 ha' hab;cases hb:(b==0)
  ·rw[hb] at k2;have K1:=aa k2;clear k2;have hs:=h.aT 0 (ag b);have cf:=si (w.setCell ⟨g,0,none⟩ (ag b)) g 1 1 (c - 1) _ hs WC Tac;have hB:=fO g (Nat.le_refl g) (List.replicate 1 (ag 0)) 1 _ ((Below.refl g w).setCell (p:=⟨g,0,none⟩) (Nat.le_refl g) (ag b));generalize (w.setCell ⟨g,0,none⟩ (ag b)).setCells g 1 (List.replicate 1 (ag 0))=W at*;go_enter Tryz.func71,Tryz.ntmps71;go_wp2_with fail;refine KI.ae.mono ?_;rintro e w1 ⟨rfl,rfl⟩;open zeE in exact Zcp
  ·rw[hb] at k2;have K1:=aa k2;clear k2;have cf:=si w g 0 2 c cs h WC WC;have hB:=fO g (Nat.le_refl g) (List.replicate 2 (ag 0)) 0 w (Below.refl g w);generalize w.setCells g 0 (List.replicate 2 (ag 0))=W at*;go_enter Tryz.func71,Tryz.ntmps71;go_wp2_with fail;refine KI.ae.mono ?_;rintro e w1 ⟨rfl,rfl⟩;open zeF in exact Zcp
theorem Kk (g c:Nat)(a b:Int)(w:World)(c0:w.cell? ⟨g,0,none⟩=some (ag a))(c1:w.cell? ⟨g,1,none⟩=some (ag b))(ha:a≠0)(hb:b≠0):
  ar 71 #[aH g 2 c,.func (.func 73) #[] #[]] w λ e w'=>e=.returned (aH g 2 c)/\w=w':=by
 have ki:=tK g c a b w c0 c1;have e0:iI a b= -1:=by simp[iI,ha,hb]
 rw[e0] at ki;have KI:=aa ki;clear ki e0;go_enter Tryz.func71,Tryz.ntmps71;go_wp2_with fail;refine KI.ae.mono ?_;exact ZhA
theorem DU (g c n:Nat)(hn:n<=1)(w:World):ar 74 #[aH g n c] w λ e w'=>e=.returned (aH g n c)/\w=w':=by
 have d1:decide ((n:Int)< 2)=true:=by simp;omega
 go_enter Tryz.func74,Tryz.ntmps74;exact Zc7
theorem zdF.KaG(h:p:=by clear fM y2 cV cQ;go_wp2_with fail;rw[rounds_succ];go_wp2_with fail;go_ret;exact⟨rfl,hL.mono (Nat.le_of_lt h.lt)⟩):p:=h
theorem zdG.KaG(h:p:=by clear fM y2 cV cQ;have h2:=h.later hL;have cf:=si w3 g 1 1 (c - 1) cs h2 WC WC;have hB:=fO g (Nat.le_refl g) (List.replicate 1 (ag 0)) 1 w3 (hL.mono (Nat.le_of_lt h.lt));generalize w3.setCells g 1 (List.replicate 1 (ag 0))=W3 at*;go_wp2_with fail;refine wp_loop_rounds 3 ?_;rw[rounds_succ];go_wp2_with fail;go_ret;exact⟨rfl,hB⟩):p:=h
theorem zg8.KbQ(h:p:=by simp only[Uab];open zdF in exact ZbB):p:=h
theorem zg9.KbQ(h:p:=by simp only[Uab];open zdG in exact ZbB):p:=h
theorem Kl (g c:Nat)(a b:Int)(cs:Array Value)(w:World)(h:aB w g 5 cs)(hsz:2<=cs.size)(h0:cs[0]?=some (ag a))(h1:cs[1]?=some (ag b))(hc:2<=c):
  ar 74 #[aH g 2 c] w λ e w'=>e=.returned (aH g (if a=b then 1 else 2) c)/\Below g w w':=by
 have cV:=λ y:Ext w.heap.size w=>((h.later y.h).cell 0).trans h0
 have cQ:=λ y:Ext w.heap.size w=>((h.later y.h).cell 1).trans h1
 cases hab:(b==a)
 ·have NT:¬a=b:=λ e=>by simp[e] at hab
  rw[if_neg NT];open zg8 in exact ZeS
 ·have NT:a=b:=by have:=hab;simp at this;exact this.symm
  rw[if_pos NT];open zg9 in exact ZeS
theorem oH:(Tryz.prog.info? 5).map (λ i=>(i.zero,i.size,i.bytes))=some (some (ag 0),1,1):=by exact Zgx
def TL (a b:Int)(w:World)(e:Ending)(w':World):Prop:=∃g c cs,e=.returned (aH g 2 c)/\w.heap.size<=g/\aB w' g 5 cs/\cs[0]?=some (ag a)/\cs[1]?=some (ag b)/\2<=cs.size/\2<=c/\aj w w'
theorem TM (p off c:Nat)(a b:Int)(w:World)(hp:p < w.heap.size)(h0:w.cell? ⟨p,off,none⟩=some (ag a))(h1:w.cell? ⟨p,off+1,none⟩=some (ag b)):
  ar 72 #[.slice (some ⟨p,off,none⟩) 2 c] w (TL a b w):=by
 obtain⟨i0,kZ,hz0,hz1,hz2⟩:=info_parts oH;have hB:=ah w (.cells #[] 5);have hown:(w.alloc (.cells #[] 5)).ownsRow w.heap.size 5 1 (aH w.heap.size 0 0) 0 []:=⟨by simp,.inr ⟨w.heap.size,0,#[],rfl,Nat.le_refl _,heap_alloc_new w _,Nat.le_refl _,by unfold maxLen;omega,rfl,rfl⟩⟩
 have mC:Reads (w.alloc (.cells #[] 5)) w.heap.size 1 (some ⟨p,off,none⟩) 2 [ag a,ag b]:=by
  refine⟨rfl,λ _=>⟨_,rfl,hp,λ j u hu=>?_⟩⟩
  match j,hu with
  | 0,hu=>simp at hu;subst hu;exact(hB.cell (p:=⟨p,off,none⟩) hp).trans h0
  | 1,hu=>simp at hu;subst hu;exact(hB.cell (p:=⟨p,off+1,none⟩) hp).trans h1
  |(n+2),hu=>simp at hu
 have HW:=aa hown;have HR:=aa mC;clear hown mC;have hnil:(binOp .eql 97 (.slice (some ⟨p,off,none⟩) 2 c) (az)).run Tryz.prog w=.ok (.bool false) w:=Go.Lib.run_eql_slice_nil w 97 5 (some ⟨p,off,none⟩) 2 c 0 0 Tryz.underlying97;go_enter Tryz.func72,Tryz.ntmps72;go_wp2_with (first
  |(at_builtin
    refine cM _ rfl (.tmp 5) (.tmp 6) 97 rfl w.heap.size 5 i0 (ag 0) 1 1 Tryz.underlying97 kZ hz0 hz1 hz2 rfl WC (aH w.heap.size 0 0) 0 [] rfl HW.ae w.heap.size (some ⟨p,off,none⟩) 2 c [ag a,ag b] rfl HR.ae (by simp[Value.oneCell']) Tan WC Tad ?_
    intro v2 w2 o2 g2 _
    have O2:=aa o2
    have G2:=aa g2
    clear o2 g2 HW HR))
 go_ret;rcases O2.ae.2 with ⟨_,hz⟩|⟨g,cap,cur,rfl,hb,hg,hn,hm,hs,ht⟩
 ·omega
 ·refine⟨g,cap,cur,rfl,hb,hg,?_,?_,by omega,hn,?_⟩
  ·have:=congrArg (λ l=>l[0]?) ht;simp at this;exact Ze5
  ·have:=congrArg (λ l=>l[1]?) ht;simp at this;exact Ze5
  ·refine hB.trans ⟨G2.ae.os,G2.ae.tape,G2.ae.output,G2.ae.size,λ k hk=>G2.ae.block k Tac λ e=>?_⟩;simp[Value.ownBlock] at e;omega
def bZ (a b:Int):Bool:=a==0 || b==0 || a==b
theorem qP (p off c:Nat)(a b:Int)(w:World)(hp:p < w.heap.size)(h0:w.cell? ⟨p,off,none⟩=some (ag a))(h1:w.cell? ⟨p,off+1,none⟩=some (ag b)):
  ar 41 #[.slice (some ⟨p,off,none⟩) 2 c] w λ e w'=>e=.returned (.bool (bZ a b))/\aj w w':=by
 go_enter Tryz.func41,Tryz.ntmps41;go_wp2_with fail;refine(TM p off c a b _ hp h0 h1).mono ?_;rintro e w1 ⟨g,c1,cs,rfl,hg,hb,e0,e1,hs,hc1,b1⟩;clear h0 h1;by_cases hz:a=0\/b=0
 ·go_wp2_with fail;refine(NS g c1 a b cs _ hb hs e0 e1 hc1 hz).mono ?_;rintro e w2 ⟨n,hn,rfl,b2⟩;go_wp2_with fail;refine(DU g c1 n hn _).mono ?_;rintro e w3 ⟨rfl,rfl⟩;have d1:decide ((n:Int)<=1)=true:=by simp;omega
  have HG:=aa (show bZ a b=true by rcases hz with rfl | rfl <;> simp[bZ]);clear hz;go_wp2_with fail;go_ret;exact⟨by rw[HG.ae];rfl,b1.trans (b2.mono hg)⟩
 ·have ha:a≠0:=λ e=>hz (.inl e)
  have hb0:b≠0:=λ e=>hz (.inr e)
  have c0':=(hb.cell 0).trans e0;have c1':=(hb.cell 1).trans e1;go_wp2_with fail;refine(Kk g c1 a b _ c0' c1' ha hb0).mono ?_;rintro e w2 ⟨rfl,rfl⟩;clear c0' c1';go_wp2_with fail;refine(Kl g c1 a b cs _ hb hs e0 e1 hc1).mono ?_;rintro e w3 ⟨rfl,b3⟩;have HG:=aa (show bZ a b=decide (a=b) by rw[Bool.eq_iff_iff];simp[bZ,ha,hb0]);by_cases hab:a=b
  ·have HA:=aa hab;rw[if_pos hab];clear hab;go_wp2_with fail;go_ret;exact⟨by rw[HG.ae,decide_eq_true HA.ae];rfl,b1.trans (b3.mono hg)⟩
  ·have HA:=aa hab;rw[if_neg hab];clear hab;go_wp2_with fail;go_ret;exact⟨by rw[HG.ae,decide_eq_false HA.ae];rfl,b1.trans (b3.mono hg)⟩
theorem zgw.KbD(h:p:=by go_wp2_with fail;rw[rounds_succ];go_wp2_with fail;go_ret;exact⟨by rw[hg1];rfl,hB⟩):p:=h
theorem zfG.Kbk(h:p:=by clear x1 x3 c0 gN bN b2 hW2;open zgw in exact Zes):p:=h
theorem ET (a wa gi:Int)(nu:Bool)(d:Value)(hd:d.oneCell'=true)(p off c:Nat)(k:Int)(w:World)(hp:p < w.heap.size)(h0:w.cell? ⟨p,off,none⟩=some (ag k)):
  ar 45 #[.agg #[af a,ag wa,ag gi,.bool false,.bool nu,d],.slice (some ⟨p,off,none⟩) 1 c] w λ e w'=>e=.returned (.bool (bZ k wa))/\aj w w':=by have hB:=ah w (.cells #[af a,ag wa,ag gi,.bool false,.bool nu,d] 100);have hO:=aB.new w 100 #[af a,ag wa,ag gi,.bool false,.bool nu,d];have x1:=hO.cell 1;have x3:=hO.cell 3;simp only[Uaa] at x1 x3;have c0:=(hB.cell (p:=⟨p,off,none⟩) hp).trans h0;go_enter Tryz.func45,Tryz.ntmps45;go_wp2_with fail;generalize w.alloc (.cells #[af a,ag wa,ag gi,.bool false,.bool nu,d] 100)=W at*;refine wp_loop_rounds 2 ?_;open zfG in exact ZdC
theorem zgx.KbD(h:p:=by
 have c1:=(hB.cell (p:=⟨p,off+1,none⟩) hp).trans h1;go_wp2_with fail;rw[rounds_succ];go_wp2_with fail;have gN:=aB.new W2 5 #[ag j,ag wa];have bN:=ah W2 (.cells #[ag j,ag wa] 5);refine(qP W2.heap.size 0 2 j wa _ Tad (gN.cell 0) (gN.cell 1)).mono ?_;rintro e W3 ⟨rfl,b2⟩;have hW3:=ai.then bN b2;replace hB:=ai.then hB hW3;replace hO:=hO.later hW3;clear x1 x3 c0 c1 gN bN b2 hW3;cases hg2:bZ j wa
 ·go_wp2_with fail;go_ret;exact⟨by rw[hg1,hg2];rfl,hB⟩
 have x1:=hO.cell 1;have x3:=hO.cell 3;simp only[Uaa] at x1 x3;have c0:=(hB.cell (p:=⟨p,off,none⟩) hp).trans h0;have c1:=(hB.cell (p:=⟨p,off+1,none⟩) hp).trans h1;go_wp2_with fail;rw[rounds_succ];cases al
 ·go_wp2_with fail;go_ret;exact⟨by rw[hg1,hg2];rfl,hB⟩
 ·go_wp2_with fail;refine(qP p off c k j _ (Nat.lt_of_lt_of_le hp hB.size) c0 c1).mono ?_;rintro e w9 ⟨rfl,b9⟩;go_wp2_with fail;go_ret;exact⟨by rw[hg1,hg2];rfl,ai.then hB b9⟩):p:=h
theorem zfH.Kbk(h:p:=by clear x1 x3 c0 c1 gN bN b2 hW2;open zgx in exact Zes):p:=h
theorem EU (a wa gi:Int)(al nu:Bool)(d:Value)(hd:d.oneCell'=true)(p off c:Nat)(k j:Int)(w:World)(hp:p < w.heap.size)(h0:w.cell? ⟨p,off,none⟩=some (ag k))(h1:w.cell? ⟨p,off+1,none⟩=some (ag j)):
  ar 45 #[.agg #[af a,ag wa,ag gi,.bool al,.bool nu,d],.slice (some ⟨p,off,none⟩) 2 c] w λ e w'=>e=.returned (.bool (bZ k wa &&(bZ j wa &&(!al || bZ k j))))/\aj w w':=by have hB:=ah w (.cells #[af a,ag wa,ag gi,.bool al,.bool nu,d] 100);have hO:=aB.new w 100 #[af a,ag wa,ag gi,.bool al,.bool nu,d];have x1:=hO.cell 1;have x3:=hO.cell 3;simp only[Uaa] at x1 x3;have c0:=(hB.cell (p:=⟨p,off,none⟩) hp).trans h0;have c1:=(hB.cell (p:=⟨p,off+1,none⟩) hp).trans h1;go_enter Tryz.func45,Tryz.ntmps45;go_wp2_with fail;generalize w.alloc (.cells #[af a,ag wa,ag gi,.bool al,.bool nu,d] 100)=W at*;refine wp_loop_rounds 3 ?_;open zfH in exact ZdC
theorem DV (p off c:Nat)(k:Int)(w:World)(h0:w.cell? ⟨p,off,none⟩=some (ag k)):
  ar 80 #[.slice (some ⟨p,off,none⟩) 1 c,ag 0] w λ e w'=>e=.returned (af (if k=0 then 0 else -1))/\w=w':=by
 by_cases hk:k=0
 ·subst hk;go_enter Tryz.func80,Tryz.ntmps80;go_wp2_with fail;refine wp_loop_rounds 2 ?_;rw[rounds_succ];exact Zc7
 ·have hk2:((0:Int)==k)=false:=by rw[beq_eq_false_iff_ne];omega
  rw[if_neg hk];clear hk;go_enter Tryz.func80,Tryz.ntmps80;go_wp2_with fail;refine wp_loop_rounds 2 ?_;rw[rounds_succ];exact ZfB
theorem DX (p off c:Nat)(k j:Int)(w:World)(h0:w.cell? ⟨p,off,none⟩=some (ag k))(h1:w.cell? ⟨p,off+1,none⟩=some (ag j)):
  ar 80 #[.slice (some ⟨p,off,none⟩) 2 c,ag 0] w λ e w'=>e=.returned (af (if k=0 then 0 else if j=0 then 1 else -1))/\w=w':=by
 by_cases hk:k=0
 ·subst hk;go_enter Tryz.func80,Tryz.ntmps80;go_wp2_with fail;refine wp_loop_rounds 3 ?_;rw[rounds_succ];exact Zc7
 ·have hk2:((0:Int)==k)=false:=by rw[beq_eq_false_iff_ne];omega
  rw[if_neg hk];clear hk;by_cases hj:j=0
  ·subst hj;go_enter Tryz.func80,Tryz.ntmps80;go_wp2_with fail;refine wp_loop_rounds 3 ?_;rw[rounds_succ];exact ZfB
  ·have hj2:((0:Int)==j)=false:=by rw[beq_eq_false_iff_ne];omega
   rw[if_neg hj];clear hj;go_enter Tryz.func80,Tryz.ntmps80;go_wp2_with fail;refine wp_loop_rounds 3 ?_;rw[rounds_succ];go_wp2_with fail;rw[rounds_succ];exact ZfB
theorem Km (p off c:Nat)(k:Int)(w:World)(h0:w.cell? ⟨p,off,none⟩=some (ag k)):
  ar 46 #[.slice (some ⟨p,off,none⟩) 1 c,ag 0] w λ e w'=>e=.returned (.bool (k==0))/\w=w':=by
 have K:=aa (DV p off c k w h0);go_enter Tryz.func46,Tryz.ntmps46;go_wp2_with fail;refine K.ae.mono ?_;rintro e w1 ⟨rfl,rfl⟩;by_cases hk:k=0
 ·subst hk;exact Zc7
 ·have hk2:(k==0)=false:=by simpa using hk
  rw[if_neg hk];go_wp2_with fail;go_ret;exact⟨by rw[hk2];rfl,rfl⟩
theorem Kn (p off c:Nat)(k j:Int)(w:World)(h0:w.cell? ⟨p,off,none⟩=some (ag k))(h1:w.cell? ⟨p,off+1,none⟩=some (ag j)):
  ar 46 #[.slice (some ⟨p,off,none⟩) 2 c,ag 0] w λ e w'=>e=.returned (.bool (k==0 || j==0))/\w=w':=by
 have K:=aa (DX p off c k j w h0 h1);go_enter Tryz.func46,Tryz.ntmps46;go_wp2_with fail;refine K.ae.mono ?_;rintro e w1 ⟨rfl,rfl⟩;by_cases hk:k=0
 ·subst hk;exact Zc7
 ·have hk2:(k==0)=false:=by simpa using hk
  rw[if_neg hk];by_cases hj:j=0
  ·subst hj;go_wp2_with fail;go_ret;exact⟨by rw[hk2];rfl,rfl⟩
  ·have hj2:(j==0)=false:=by simpa using hj
   rw[if_neg hj];go_wp2_with fail;go_ret;exact⟨by rw[hk2,hj2];rfl,rfl⟩
def Hk (k:Nat)(wd:Int)(l:List Val):Val×Int:=
 match k,l with
 | 3,[a]=>XR a.n
 | 4,[a]=>(bF (a.n==0),0)
 | 5,[a,b]=>zv a.n b.n
 | 6,[a,b]=>zw a.n b.n
 | 7,[a,b]=>zx a.n b.n
 | 8,[a,b]=>zy a.n b.n
 | 9,[a,b]=>zz a.n b.n
 | 10,[a,b]=>(bF (decide (bO a b=0)),0)
 | 11,[a,b]=>(bF (!decide (bO a b=0)),0)
 | 12,[a,b]=>(bF (decide (bO a b < 0)),0)
 | 13,[a,b]=>(bF (decide (bO a b<=0)),0)
 | 14,[a,b]=>(bF (decide (0 < bO a b)),0)
 | 15,[a,b]=>(bF (decide (0<=bO a b)),0)
 | 16,l=>(lT false l,0)
 | 17,l=>(lT true l,0)
 | 18,[a]=>(bF ((a.k==0)==true),0)
 | 19,[a]=>(bF ((a.k==0)==false),0)
 | 20,[a]=>vz a.n wd
 | _,_=>(aN,0)
def arX (w:World)(d:Value)(x:Ex)(l:List Val)(r:Val×Int):Prop:=∃f Ko,d=.func (.func f) #[] Ko/\(Ko= #[]\/∃p,Ko= #[p])/\(∀(args:Array Value) (w:World),(callFunc f args).run Tryz.prog w=.ok (.enter f args) w)/\
 ∀(W:World) (A:Option Addr) (c:Nat),aj w W->RV W W.heap.size A l->ar f (#[.agg (ay x),.slice A l.length c]++Ko) W λ e w'=>e=.returned (bR r.1 r.2)/\aj W w'
theorem XY (args:Array Value)(w:World):(callFunc 108 args).run Tryz.prog w=.ok (.enter 108 args) w:=by exact Zgx
theorem XZ (args:Array Value)(w:World):(callFunc 110 args).run Tryz.prog w=.ok (.enter 110 args) w:=by exact Zgx
theorem Ya (args:Array Value)(w:World):(callFunc 128 args).run Tryz.prog w=.ok (.enter 128 args) w:=by exact Zgx
theorem qQ (args:Array Value)(w:World):(callFunc 167 args).run Tryz.prog w=.ok (.enter 167 args) w:=by exact Zgx
theorem nQ (args:Array Value)(w:World):(callFunc 169 args).run Tryz.prog w=.ok (.enter 169 args) w:=by exact Zgx
theorem Kq (args:Array Value)(w:World):(callFunc 170 args).run Tryz.prog w=.ok (.enter 170 args) w:=by exact Zgx
theorem Kr (args:Array Value)(w:World):(callFunc 172 args).run Tryz.prog w=.ok (.enter 172 args) w:=by exact Zgx
variable{k:Nat}{a wa gi:Int}{al nu:Bool}{d:Value}
theorem zaA.Kab(h:p:=by obtain⟨u,rfl⟩:=one WC;exact⟨_,#[],rfl,.inl rfl,XY,λ W A c hb hr=>aaM x A c u W hr⟩):p:=h
theorem zaB.Kab(h:p:=by obtain⟨u,rfl⟩:=one WC;exact⟨_,#[],rfl,.inl rfl,XZ,λ W A c hb hr=>aaN x A c u W hr⟩):p:=h
theorem zaC.Kab(h:p:=by obtain⟨u,v,rfl⟩:=two WC;exact⟨_,#[_],rfl,.inr ⟨_,rfl⟩,qQ,λ W A c hb hr=>agh x A c q u v W hr (hq.later hb)⟩):p:=h
theorem zaD.Kab(h:p:=by obtain⟨u,v,rfl⟩:=two WC;exact⟨_,#[_],rfl,.inr ⟨_,rfl⟩,qQ,λ W A c hb hr=>agi x A c q u v W hr (hq.later hb)⟩):p:=h
theorem zaE.Kab(h:p:=by obtain⟨u,v,rfl⟩:=two WC;exact⟨_,#[_],rfl,.inr ⟨_,rfl⟩,qQ,λ W A c hb hr=>XT x A c q u v W hr (hq.later hb)⟩):p:=h
theorem zaF.Kab(h:p:=by obtain⟨u,v,rfl⟩:=two WC;exact⟨_,#[_],rfl,.inr ⟨_,rfl⟩,qQ,λ W A c hb hr=>agj x A c q u v q2 W hr (hq.later hb) (lu.later hb)⟩):p:=h
theorem zaG.Kab(h:p:=by obtain⟨u,v,rfl⟩:=two WC;exact⟨_,#[_],rfl,.inr ⟨_,rfl⟩,qQ,λ W A c hb hr=>agk x A c q u v q2 W hr (hq.later hb) (lu.later hb)⟩):p:=h
theorem zaH.Kab(h:p:=by obtain⟨u,v,rfl⟩:=two WC;exact⟨_,#[_],rfl,.inr ⟨_,rfl⟩,nQ,λ W A c hb hr=>akD x A c q u v W hr (hq.later hb)⟩):p:=h
theorem zaI.Kab(h:p:=by obtain⟨u,v,rfl⟩:=two WC;exact⟨_,#[_],rfl,.inr ⟨_,rfl⟩,nQ,λ W A c hb hr=>akE x A c q u v W hr (hq.later hb)⟩):p:=h
theorem zaJ.Kab(h:p:=by obtain⟨u,v,rfl⟩:=two WC;exact⟨_,#[_],rfl,.inr ⟨_,rfl⟩,nQ,λ W A c hb hr=>akF x A c q u v W hr (hq.later hb)⟩):p:=h
theorem zaK.Kab(h:p:=by obtain⟨u,v,rfl⟩:=two WC;exact⟨_,#[_],rfl,.inr ⟨_,rfl⟩,nQ,λ W A c hb hr=>akG x A c q u v W hr (hq.later hb)⟩):p:=h
theorem zaL.Kab(h:p:=by obtain⟨u,v,rfl⟩:=two WC;exact⟨_,#[_],rfl,.inr ⟨_,rfl⟩,nQ,λ W A c hb hr=>akH x A c q u v W hr (hq.later hb)⟩):p:=h
theorem zaM.Kab(h:p:=by obtain⟨u,v,rfl⟩:=two WC;exact⟨_,#[_],rfl,.inr ⟨_,rfl⟩,nQ,λ W A c hb hr=>akI x A c q u v W hr (hq.later hb)⟩):p:=h
theorem zaN.Kab(h:p:=by exact ZeD):p:=h
theorem zaO.Kab(h:p:=by exact ZeD):p:=h
theorem zaP.Kab(h:p:=by exact Ze8):p:=h
theorem zaQ.Kab(h:p:=by exact Ze8):p:=h
theorem zaR.Kab(h:p:=by obtain⟨u,rfl⟩:=one WC;exact⟨_,#[],rfl,.inl rfl,Ya,λ W A c hb hr=>TG x A c u W hr (hwd rfl).1 (hwd rfl).2 (aZ u Tad)⟩):p:=h
theorem gu.does(h:gu w k (.agg (cI a wa gi al nu d)))(x:Ex)(l:List Val)(hl:(l.length:Int)=a)(aZ:∀v∈l,v.Ok)(hwd:k=20->1<=x.width/\x.width<=1099511627776):arX w d x l (Hk k x.width l):=by
 have two:a=2->∃u v,l=[u,v]:=λ e=>by
  match l,hl with
  | [u,v],_=>exact⟨u,v,rfl⟩
  | [],h=>simp at h;omega
  | [u],h=>simp at h;omega
  | u::v::z::r,h=>simp at h;omega
 have one:a=1->∃u,l=[u]:=λ e=>by
  match l,hl with
  | [u],_=>exact⟨u,rfl⟩
  | [],h=>simp at h;omega
  | u::v::r,h=>simp at h;omega
 unfold gu at h;split at h
 ·open zaA in exact Zap
 ·open zaB in exact Zap
 ·obtain⟨q,h,hq⟩:=h;open zaC in exact Zap
 ·obtain⟨q,h,hq⟩:=h;open zaD in exact Zap
 ·obtain⟨q,h,hq⟩:=h;open zaE in exact Zap
 ·obtain⟨q,q2,h,hq,lu⟩:=h;open zaF in exact Zap
 ·obtain⟨q,q2,h,hq,lu⟩:=h;open zaG in exact Zap
 ·obtain⟨q,h,hq⟩:=h;open zaH in exact Zap
 ·obtain⟨q,h,hq⟩:=h;open zaI in exact Zap
 ·obtain⟨q,h,hq⟩:=h;open zaJ in exact Zap
 ·obtain⟨q,h,hq⟩:=h;open zaK in exact Zap
 ·obtain⟨q,h,hq⟩:=h;open zaL in exact Zap
 ·obtain⟨q,h,hq⟩:=h;open zaM in exact Zap
 ·obtain⟨q,h,hq⟩:=h;open zaN in exact Zap
 ·obtain⟨q,h,hq⟩:=h;open zaO in exact Zap
 ·obtain⟨q,h,hq⟩:=h;open zaP in exact Zap
 ·obtain⟨q,h,hq⟩:=h;open zaQ in exact Zap
 ·open zaR in exact Zap
 ·exact h.elim
section
variable {α:Type} {f:α->List Value} {e:TypeId} {size:Nat} {base:Nat} {lv:Value} {l:List α} {y:α}
structure AR (f:α->List Value) (e:TypeId) (size base:Nat) (lv:Value) (l:List α) (y:α) (a b:World):Prop where
 grown:a.grownBy b lv.ownBlock
 old:aI f e size a base lv l->aI f e size b base lv l
 new:∀u,aI f e size a base u (l++ [y])->aI f e size b base u (l++ [y])
theorem AR.refl (w:World):AR f e size base lv l y w w:=⟨⟨rfl,rfl,rfl,Nat.le_refl _,λ _ _ _=>rfl⟩,id,λ _=>id⟩
theorem AR.trans {a b c:World}(h:AR f e size base lv l y a b)(k:AR f e size base lv l y b c):AR f e size base lv l y a c:=
 ⟨h.grown.trans k.grown,λ o=>k.old (h.old o),λ u o=>k.new u (h.new u o)⟩
theorem AR.later {a b:World}(h:aj a b):AR f e size base lv l y a b:=
 ⟨⟨h.os,h.tape,h.output,h.size,λ k hk _=>h.block k hk⟩,λ o=>o.later h,λ u o=>o.later h⟩
theorem AR.drew (w:World):AR f e size base lv l y w w.drew:=AR.later (ai.drew w)
theorem fc {P:Program} {w:World}(t ty:TypeId)(z:Value)(bytes:Nat)(ht:P.underlying t=some (.slice e))(jm:(P.info? e).map (λ i=>(i.zero,i.size,i.bytes))=some (some z,size,bytes))(hzs:z.cells.size=size)(hsz:0 < size)
  (hf:∀x,(f x).length=size) (h1:∀u∈f y,u.oneCell'=true) (hown:aI f e size w base lv l)
  (g0:Nat) (hg0:aB w g0 e (f y).toArray) (hlen:(l.length+1)*bytes<=140737488355328) (mJ:l.length+1<=140737488355328) (hbase:base<=w.heap.size):
  ∃v' w',(Builtin.append_ #[t,t] ty #[lv,aH g0 1 1]).run P w=.ok v' w'/\aI f e size w' base v' (l++ [y])/\AR f e size base lv l y w w':=by
 obtain⟨i0,kZ,hz0,hz1,hz2⟩:=info_parts jm
 have hnews:∀j u,(f y)[j]?=some u->w.cell? ((⟨g0,0,none⟩:Addr).add j)=some u:=by
  intro j u hu;have:(Addr.add ⟨g0,0,none⟩ j)=⟨g0,j,none⟩:=by unfold Addr.add;split <;> simp_all
  rw[this,hg0.cell];simpa using hu
 have ft:(f y).length=1*size:=by rw[hf];omega
 have conv:∀ {w':World} {v':Value},w'.ownsRow base e size v' (l.length+1) (l.flatMap f++f y)->aI f e size w' base v' (l++ [y]):=λ h=>by unfold aI;rw[length_append,flatMap_append];simpa using h
 by_cases hroom:∃g cap,lv=aH g l.length cap/\l.length+1<=cap
 ·obtain⟨g,cap,rfl,hr⟩:=hroom;obtain⟨w',hrun,ho,hg⟩:=run_append_fits (P:=P) w base t ty e i0 size ht kZ hz1 g l.length cap (l.flatMap f) hown ⟨g0,0,none⟩ 1 1 (f y) ft hnews h1 hr;refine⟨_,w',hrun,conv ho,hg,λ _=>?_,λ u hu=>?_⟩
  ·rcases ho.2 with ⟨h,_⟩|⟨g',cap',cur,h,hbg,ee,hn,hm,hs,ht'⟩
   ·cases h
   ·injection h with xm DY h3';injection xm with xm;injection xm with xm _ _;subst xm h3';refine⟨hown.1,.inr ⟨g,cap,cur,rfl,hbg,ee,by omega,hm,hs,?_⟩⟩;have hx:=congrArg (List.take (l.length*size)) ht';rw[take_take,Nat.min_eq_left (Nat.mul_le_mul_right _ WC),take_append_of_le_length (Nat.le_of_eq hown.1.symm)] at hx;rw[hx];exact take_of_length_le (Nat.le_of_eq hown.1)
  ·by_cases hb:u.ownBlock=some g
   ·rcases hu.2 with ⟨rfl,_⟩|⟨g',cap',cur,rfl,hbg,ee,hn,hm,hs,ht'⟩
    ·simp[Value.ownBlock] at hb
    ·simp only[Value.ownBlock,Option.some.injEq] at hb;subst hb;rcases hown.2 with ⟨h,_⟩|⟨g2,agq,azv,h,_,TN,_,_,hs2,_⟩
     ·cases h
     ·injection h with xm DY h3';injection xm with xm;injection xm with xm _ _;subst xm h3';rw[ee] at TN;injection TN with TN;injection TN with TN _ _;subst TN;have arY:cap'=cap:=Nat.eq_of_mul_eq_mul_right hsz (hs.symm.trans hs2);subst arY;have:=conv ho;rw[length_append];exact this
   ·exact hu.keep λ q hq=>hg.block q (hu.lt hq).1 λ e=>hb (by rw[hq];exact e)
 ·obtain⟨v',w',hrun,ho,hg,_,hat⟩:=run_append_own_at (P:=P) w base t ty e i0 z size bytes ht kZ hz0 hz1 hz2 hzs hsz lv l.length (l.flatMap f) hown ⟨g0,0,none⟩ 1 1 (f y) ft hnews h1 Tan hlen hbase
  have arZ:aj w w':=by
   rcases hown.2 with ⟨rfl,h0⟩|⟨g,cap,cur,rfl,hbg,ee,hn,hm,hs,lU⟩
   ·have hr:=run_append_nil (P:=P) w t ty e i0 z ht kZ hz0 ⟨g0,0,none⟩ 1 1 (f y) (by rw[hz1];exact ft) hnews WC WC (by rw[hz2];have:1*bytes<=(l.length+1)*bytes:=Nat.mul_le_mul_right _ WC;omega);exact Zgb
   ·have hno:¬l.length+1<=cap:=λ h=>hroom ⟨g,cap,rfl,h⟩
    have holds:∀j u,(l.flatMap f)[j]?=some u->w.cell? ((⟨g,0,none⟩:Addr).add j)=some u:=World.ownsRow.cells hown (g:=g) rfl;have hr:=run_append_grow (P:=P) w t ty e i0 z ht kZ hz0 ⟨g,0,none⟩ l.length cap (l.flatMap f) (by rw[hz1];exact hown.1) holds ⟨g0,0,none⟩ 1 1 (f y) (by rw[hz1];exact ft) hnews WC WC (by rw[hz2];exact growslice_fits WC hlen);exact Zgb
  exact⟨v',w',hrun,conv ho,AR.later arZ⟩
end
def aV (v:Val):List Value:=[ag v.k,af v.n,.string v.s]
def dO (k:Int):List Value:=[ag k]
theorem lW:(Tryz.prog.info? 44).map (λ i=>(i.zero,i.size,i.bytes))=some (some (.agg #[ag 0,af 0,au]),3,32):=by exact Zgx
theorem et (b off n:Nat):Addr.add ⟨b,off,none⟩ n=⟨b,off+n,none⟩:=by
 unfold Addr.add;split
 ·rename_i h;subst h;rfl
 ·rfl
variable{α:Type}{f:α->List Value}{size:Nat}
theorem Rx(hf:∀x,(f x).length=size):∀(l:List α) (i j:Nat) (x:α),l[i]?=some x->j < size->(l.flatMap f)[i*size+j]?=(f x)[j]?
 | [],i,j,x,h,hj=>by simp at h
 | y::l,0,j,x,h,hj=>by simp at h;subst h;simp only[flatMap_cons,Nat.zero_mul,Nat.zero_add];rw[getElem?_append_left (by rw[hf];exact hj)]
 | y::l,i+1,j,x,h,hj=>by have:=Rx hf l i j x Tal hj;simp only[flatMap_cons];rw[getElem?_append_right (by rw[hf,Nat.succ_mul];omega),hf,<- this];congr 1;rw[Nat.succ_mul];omega
variable{e:TypeId}{base:Nat}{v:Value}{l:List α}
theorem ej(hf:∀x,(f x).length=size)    (h:aI f e size w base v l):
  ∃A c,v=.slice A l.length c/\(l=[]\/∃g,A=some ⟨g,0,none⟩/\g < w.heap.size/\∀i x j u,l[i]?=some x->j < size->(f x)[j]?=some u->w.cell? ⟨g,i*size+j,none⟩=some u):=by
 obtain⟨A,c,rfl,hr,_,hA⟩:=h.reads;refine⟨A,c,rfl,?_⟩;rcases hA with rfl |⟨g,rfl,hg⟩
 ·exact .inl rfl
 ·rcases eq_nil_or_concat l with rfl | hne
  ·exact .inl rfl
  ·have TP:0 < l.length:=by obtain⟨_,_,rfl⟩:=hne;simp
   obtain⟨ad,e,hb,hc⟩:=hr.2 TP;injection e with e;subst e;refine .inr ⟨g,rfl,hb,λ i x j u hx hj hu=>?_⟩;have:=hc (i*size+j) u ((Rx hf l i j x hx hj).trans hu);rw[et] at this;exact Ze5
theorem Hl{l:List Val}(h:aI aV 44 3 w base v l):∃A c,v=.slice A l.length c/\RV w w.heap.size A l:=by
 obtain⟨A,c,rfl,hc⟩:=ej (f:=aV) (size:=3) (λ _=>rfl) h;refine⟨A,c,rfl,?_⟩;rcases hc with hc |⟨g,rfl,hg,hc⟩
 ·exact .inl hc
 ·refine .inr ⟨g,0,rfl,hg,λ i x hx=>?_⟩;have k:=λ j u hj hu=>hc i x j u hx hj hu
  exact⟨by simpa using k 0 _ WC rfl,by simpa using k 1 _ WC rfl,by simpa using k 2 _ WC rfl⟩
def tX (op:Int):Int:=if op=4\/op=16\/op=17 then 1 else if 10<=op/\op<=15\/op=18\/op=19 then 0 else 2
def tY (op:Int):Int:=if op=4\/10<=op/\op<=19 then 1 else 2
def tZ (op:Int):Bool:=decide (10<=op/\op<=15)
def AV (op:Int):Bool:=decide (16<=op/\op<=19)
theorem gu.fields(h:gu w k (.agg (cI a wa gi al nu d))):wa=tX k/\gi=tY k/\al=tZ k/\nu=AV k:=by
 unfold gu at h;split at h
 all_goals first
  | exact h.elim
  |(simp[eR,cI] at h;simp[tX,tY,tZ,AV];simp_all)
  |(obtain⟨q,q2,h1,_⟩:=h;simp[eR,cI] at h1;simp[tX,tY,tZ,AV];simp_all)
  |(obtain⟨q,h1,_⟩:=h;simp[eR,cI] at h1;simp[tX,tY,tZ,AV];simp_all)
variable{x:Ex}
theorem AW(h:bQ x=0)(h2:x.op≠2)(h1:x.op≠1):kJ x.op=true/\(x.n:Int)=qN x.op/\(x.op=20->1<=x.width/\x.width<=1099511627776):=by
 unfold bQ at h;rw[if_neg (by simp[h1,h2])] at h;split at h
 ·rename_i hc;refine⟨hc.1,hc.2.1,λ e=>?_⟩;rcases hc.2.2 with h3 | h3
  ·exact absurd e h3
  ·exact h3
 ·split at h <;> omega
variable{op:Int}{xv:Val}{width:Int}{A:Option Addr}
theorem sj{name:ByteArray}     {c:Nat}(h:bQ ⟨op,xv,name,width,A,l.length,c⟩=0)(h2:op=2):l=[]:=by
 subst h2;unfold bQ at h;split at h
 ·rename_i hc;rcases hc with ⟨h3,_⟩|⟨_,h3⟩
  ·exact absurd h3 (show¬((2:Int)=1) by decide)
  ·exact eq_nil_of_length_eq_zero h3
 ·split at h
  ·rename_i hc;exact absurd hc.1 (show¬(kJ 2=true) by decide)
  ·split at h <;> omega
def gM (op:Int):List Int->Bool
 | [k]=>bZ k (tX op)
 | [k,j]=>bZ k (tX op)&&(bZ j (tX op)&&(!tZ op || bZ k j))
 | _=>false
def iJ (op width:Int)(vs:List Val):Val×Int:=
 if gM op (vs.map (·.k))=false then(aN,40)else if AV op=false/\(vs.map (·.k)).any (· ==0)=true then(aN,0)else Hk op.toNat width vs
def pQ (x:Ex)(vs:List Val):Val×Int:=
 if bQ x≠0 then(aN,bQ x)else if x.op=1 then(x.v,0)else iJ x.op x.width vs
def evV (base:Nat)(lv kv:Value)(vs:List Val)(v:Val)(g:Nat):Nat->World->Value->Prop
 | 0=>λ _ u=>u=lv
 | 1=>λ _ u=>u=.agg (aD v)
 | 2=>λ w u=>∃q,u=aH q 1 1/\aB w q 44 (aV v).toArray/\some q≠lv.ownBlock
 | 3=>λ w u=>aI aV 44 3 w base u (vs++ [v])
 | 4=>λ _ u=>u=kv
 | 5=>λ _ u=>u=aw g
 | 6=>λ _ u=>u=ag v.k
 | 7=>λ w u=>∃q,u=aH q 1 1/\aB w q 5 (dO v.k).toArray/\some q≠lv.ownBlock
 | _=>λ _ _=>True
theorem EW (base:Nat)(lv kv:Value)(vs:List Val)(v:Val)(g:Nat)(i:Nat)(w w':World)(u:Value)(h:evV base lv kv vs v g i w u)(hr:AR aV 44 3 base lv vs v w w'):evV base lv kv vs v g i w' u:=by
 unfold evV at*;split at h
 ·exact h
 ·exact h
 ·exact Zhh
 ·exact hr.new _ h
 ·exact h
 ·exact h
 ·exact h
 ·exact Zhh
 ·trivial
theorem ala(h:l.length=1):∃p,l=[p]:=by
 match l,h with
 | [p],_=>exact⟨p,rfl⟩
theorem alb(h:l.length=2):∃p q,l=[p,q]:=by
 match l,h with
 | [p,q],_=>exact⟨p,q,rfl⟩
variable{β:Type}{f':β->List Value}{e':TypeId}{size' base':Nat}{u u':Value}{l':List β}{q:Nat}
theorem aI.differ(h:aI f e size w base u l)(h':aI f' e' size' w base' u' l')(ht:e≠e') (hq:u.ownBlock=some q):some q≠u'.ownBlock:=by intro hq';obtain⟨_,_,c1,h1⟩:=h.lt hq;obtain⟨_,_,c2,h2⟩:=h'.lt hq'.symm;exact Zg5
theorem aI.past(h:aI f e size w base u l)(h':aI f' e' size' w base' u' l')(hne:e≠e')(hg:w.grownBy w' u'.ownBlock):aI f e size w' base u l:=
 h.keep λ q hq=>hg.block q (h.lt hq).1 (h.differ h' hne hq)
def cw (w:World)(b off:Nat)(y:Ex):Prop:=
 w.cell? ⟨b,off,none⟩=some (ag y.op)/\w.cell? ⟨b,off+1,none⟩=some (ag y.v.k)/\w.cell? ⟨b,off+2,none⟩=some (af y.v.n)/\w.cell? ⟨b,off+3,none⟩=some (.string y.v.s)/\
 w.cell? ⟨b,off+4,none⟩=some (.string y.name)/\w.cell? ⟨b,off+5,none⟩=some (af y.width)/\w.cell? ⟨b,off+6,none⟩=some (.slice y.A y.n y.c)
variable{b off:Nat}
theorem cw.keep(h:cw w b off x)(hk:∀o,w'.cell? ⟨b,o,none⟩=w.cell? ⟨b,o,none⟩):cw w' b off x:=by unfold cw at*;simp only[hk];exact h
def RE (w:World)(B:Nat)(A:Option Addr)(l:List Ex):Prop:=
 l=[]\/∃b off,A=some ⟨b,off,none⟩/\b < B/\∀i x,l[i]?=some x->cw w b (off+i*7) x
theorem RE.below{l:List Ex}(h:RE w B A l)(hb:Below B w w'):RE w' B A l:=by exact Zcw
variable{B':Nat}
theorem RE.more{l:List Ex}(h:RE w B A l)(hB:B<=B'):RE w B' A l:=by exact ZdP
theorem RE.at_{l:List Ex}(h:RE w B A l) (hk:k < l.length):∃b off,A=some ⟨b,off,none⟩/\b < B/\cw w b (off+k*7) l[k]:=by exact Zc1
def jz (w:World)(cV rV:Value)(y:Ex)(v:Val)(e:Int):Prop:=∀W,aj w W->ar 17 #[.agg (ay y),cV,rV] W λ en w'=>en=.returned (bR v e)/\aj W w'
theorem zb6.Kap(h:p:=by exact Zbu):p:=h
theorem zb7.Kap(h:p:=by exact Zbu):p:=h
theorem zb8.Kap(h:p:=by exact Zbt):p:=h
theorem zb9.Kap(h:p:=by exact Zbt):p:=h
theorem zeO.KaZ(h:p:=by
 refine(Km g9 0 c9 v1.k _ TS).mono ?_;rintro e w4 ⟨rfl,rfl⟩;cases hz:(v1.k==0)
 ·have Nm:=aa (Nn.ae _ (show iJ op width [v1]=Hk op.toNat width [v1] by unfold iJ;simp only[map_cons,map_nil];rw[tq.ae,hs,if_neg Tad,if_neg Tam]));open zb6 in exact ZaJ
 ·exact Zcl):p:=h
theorem zfp.Kbc(h:p:=by
 replace vD:=Nat.lt_of_lt_of_le vD Lw.size;clear Lw;have tq:eZ (gM op [v1.k]=bZ v1.k wa):=by have MY:=HWA.ae;have NE:=Ai.ae;show gM _ _=_;simp only[gM,<- MY,<- NE]
 cases hs:bZ v1.k wa
 ·exact ZaY
 ·cases Y7:nu
  ·open zeO in exact Zcu
  ·subst Y7;have Nm:=aa (Nn.ae _ (show iJ op width [v1]=Hk op.toNat width [v1] by unfold iJ;simp only[map_cons,map_nil];rw[tq.ae,hs,if_neg Tad,if_neg (by have:=HGI.ae;simp[<- this])]));open zb7 in exact ZaJ):p:=h
theorem zeK.KaY(h:p:=by have TS:=(tL.ae.cell (p:=⟨g9,0,none⟩) kK).trans (tM 0 v1.k 0 _ rfl WC rfl);have vD:=Nat.lt_of_lt_of_le kK tL.ae.size;clear tM tL;go_wp2_with fail;refine(ET a wa gi nu d jV g9 0 c9 v1.k _ vD TS).mono ?_;open zfp in exact Zc6):p:=h
theorem zeP.KaZ(h:p:=by
 refine(Kn g9 0 c9 v1.k v2.k _ TS kc2).mono ?_;rintro e w4 ⟨rfl,rfl⟩;cases hz:(v1.k==0 || v2.k==0)
 ·have Nm:=aa (Nn.ae _ (show iJ op width [v1,v2]=Hk op.toNat width [v1,v2] by unfold iJ;simp only[map_cons,map_nil];rw[tq.ae,hs,if_neg Tad,if_neg Tam]));open zb8 in exact ZaJ
 ·exact Zcl):p:=h
theorem zfq.Kbc(h:p:=by
 replace kc2:=(Lw.cell (p:=⟨g9,1,none⟩) vD).trans kc2;replace vD:=Nat.lt_of_lt_of_le vD Lw.size;clear Lw;have tq:eZ (gM op [v1.k,v2.k]=(bZ v1.k wa &&(bZ v2.k wa &&(!al || bZ v1.k v2.k)))):=by have MY:=HWA.ae;have NE:=Ai.ae;show gM _ _=_;simp only[gM,<- MY,<- NE]
 cases hs:(bZ v1.k wa &&(bZ v2.k wa &&(!al || bZ v1.k v2.k)))
 ·exact ZaY
 ·cases Y7:nu
  ·open zeP in exact Zcu
  ·subst Y7;have Nm:=aa (Nn.ae _ (show iJ op width [v1,v2]=Hk op.toNat width [v1,v2] by unfold iJ;simp only[map_cons,map_nil];rw[tq.ae,hs,if_neg Tad,if_neg (by have:=HGI.ae;simp[<- this])]));open zb9 in exact ZaJ):p:=h
theorem zeL.KaY(h:p:=by have TS:=(tL.ae.cell (p:=⟨g9,0,none⟩) kK).trans (tM 0 v1.k 0 _ rfl WC rfl);have kc2:=(tL.ae.cell (p:=⟨g9,1,none⟩) kK).trans (tM 1 v2.k 0 _ rfl WC rfl);have vD:=Nat.lt_of_lt_of_le kK tL.ae.size;clear tM tL;go_wp2_with fail;refine(EU a wa gi al nu d jV g9 0 c9 v1.k v2.k _ vD TS kc2).mono ?_;open zfq in exact Zc6):p:=h
theorem zhm.KbW(h:p:=by
 have Nn:eZ (∀r,iJ op width (args.map (·.2))=r->pQ ⟨op,xv,name,width,A,args.length,c⟩ (args.map (·.2))=r):=λ r hr=>by unfold pQ;rw[if_neg Ta5,if_neg H1.ae];exact hr
 clear hwa xp Y7 Ks ny Ho agr hOp HOI HWD hwd h1 mL oJ;rcases agt with ⟨hlen,rfl⟩| hlen
 ·obtain⟨⟨Ly,v1⟩,rfl⟩:=ala hlen;open zeK in exact Zct
 ·obtain⟨⟨Ly,v1⟩,⟨y2,v2⟩,rfl⟩:=alb hlen;open zeL in exact Zct):p:=h
theorem zdQ.KaI(h:p:=by have Ks:=hOp.args;rw[Ry] at Hp Ks;obtain⟨hwa,hgi,xp,Y7⟩:=Hp;clear hgi;have HWD:=aa hwd;have HD:=aa (hOp.does ⟨op,xv,name,width,A,args.length,c⟩ (args.map (·.2)) (by rw[length_map,Ks];exact ny) (λ u hu=>by obtain⟨z,hz,rfl⟩:=List.mem_map.1 hu;exact asa.ae z hz) (λ e=>HWD.ae (by rw[<- Ry,e];rfl)));have Y8:=HD;have HDB:=aa (Below.refl _ _:Below (W3.alloc (.cells #[af a,ag wa,ag gi,.bool al,.bool nu,d] 100)).heap.size (W3.alloc (.cells #[af a,ag wa,ag gi,.bool al,.bool nu,d] 100)) (W3.alloc (.cells #[af a,ag wa,ag gi,.bool al,.bool nu,d] 100)));clear HD;open zhm in exact Zfj):p:=h
theorem zfI.Kbl(h:p:=by
 replace k1:=k1.later b2;replace cJ:=cJ.later b2;replace hB:=ai.then hB b2;replace AZ:=aa ((AZ.ae.below b2).more b2.size);have hR:=aB.new W3 100 #[af a,ag wa,ag gi,.bool al,.bool nu,d];have ald:=TR.later (ah W3 (.cells #[af a,ag wa,ag gi,.bool al,.bool nu,d] 100));have HOI:=aa ald;have tL:=aa b2;clear TR ald Kx b2 hd;generalize b3:bQ ⟨op,xv,name,width,A,args.length,c⟩=fe;have mL:=aa b3;clear b3;have z0:=k1.cell 0;have z1:=k1.cell 1;have x2:=k1.cell 2;have x3:=k1.cell 3;have x4:=k1.cell 4;have x5:=k1.cell 5;have x6:=k1.cell 6;have x0:=hR.cell 0;have x1:=hR.cell 1;have z2:=hR.cell 2;have z3:=hR.cell 3;have z4:=hR.cell 4;have z5:=hR.cell 5;simp only[Uaa] at z0 z1 x2 x3 x4 x5 x6 x0 x1 z2 z3 z4 z5;have dt:=aG cJ;have gV:=aB.frozen cJ;by_cases hf:fe=0
 ·subst hf;by_cases h1:op=1
  ·have HQ:=aa (show pQ ⟨op,xv,name,width,A,args.length,c⟩ (args.map (·.2))=(xv,0) by unfold pQ;rw[if_neg Ta5,if_pos h1]);have t1:(op==1)=true:=by simpa using h1
   clear h1;exact Zei
  ·open zdQ in exact ZbK
 ·have HQ:=aa (show pQ ⟨op,xv,name,width,A,args.length,c⟩ (args.map (·.2))=(aN,fe) by unfold pQ;rw[if_pos (by rw[mL.ae];exact hf),mL.ae]);have t1:(fe != 0)=true:=by simpa using hf
  clear hf;go_wp2_with fail;exact bodyPost_ret (v:=.tuple #[.agg #[ag 0,af 0,.string ByteArray.empty],af fe]) Tah rfl ⟨by rw[HQ.ae];rfl,((hB.setCell bJ _).setCell bJ _).setCell bJ _⟩):p:=h
theorem zbh.Kag(h:p:=by have oJ:eZ (pQ ⟨op,xv,name,width,A,args.length,c⟩ (args.map (·.2))=pQ ⟨op,xv,name,width,A,args.length,c⟩ (args.map (·.2))):=rfl;go_wp2_with fail;refine(vC ⟨op,xv,name,width,A,args.length,c⟩ _).mono ?_;rintro e W3 ⟨oo,rfl,TR,Kx⟩;clear z0 z1 x2 x3 x4 x5 x6;open zfI in exact ZdE):p:=h
theorem zgf.Kbx(h:p:=by
 have No:=aB.new (w.alloc (.cells #[ag op,ag xv.k,af xv.n,.string xv.s,.string name,af width,.slice A args.length c] 46)) 44 #[ag 0,af 0,au];rw[World.size_alloc] at No;have KK:=ai.then (ah w (.cells #[ag op,ag xv.k,af xv.n,.string xv.s,.string name,af width,.slice A args.length c] 46)) (ah _ (.cells #[ag 0,af 0,au] 44));clear x6;generalize (w.alloc (.cells #[ag op,ag xv.k,af xv.n,.string xv.s,.string name,af width,.slice A args.length c] 46)).alloc (.cells #[ag 0,af 0,au] 44)=W at*;have bJ:w.heap.size<=w.heap.size+1:=by omega
 generalize w.heap.size+1=g at*;go_loopw [8,9,20] (λ lv kv i wr=>∃k:Nat,k<=args.length/\i=af k/\aI aV 44 3 wr W.heap.size lv ((args.take k).map (·.2))/\aI dO 5 1 wr W.heap.size kv ((args.take k).map (·.2.k))/\aj W wr) (λ _ _ i _=>args.length - (intOf i).toNat);case atStart=>exact⟨0,Nat.zero_le _,rfl,aI.nil,aI.nil,Below.refl _ _⟩
 case round=>
  obtain⟨k,hk,rfl,hO,hK,hb⟩:=hrel;have HO:=aa hO;have Q3:=aa hK;clear hO hK;rcases Nat.lt_or_ge k args.length with hlt | vt
  ·obtain⟨b,off,rfl,kF,hex⟩:=(HA.ae.below (KK.trans (hb.mono KK.size))).at_ (show k <(args.map (·.1)).length by simpa using hlt);have jn:(args.map (·.1))[k]' Tao=args[k].1:=by simp
   exact Zae
  ·have lU:args.take k=args:=take_of_length_le vt;rw[lU] at HO Q3;clear lU;obtain⟨A8,c8,hu8,jI⟩:=Hl HO.ae;obtain⟨A9,c9,hu9,Mn⟩:=ej (f:=dO) (size:=1) (λ _=>rfl) Q3.ae;rw[length_map] at hu8 hu9;subst hu8 hu9;have k1:=HX.later hb;have cJ:=No.later hb;have hB:=ai.then KK hb;clear HO Q3 HX No KK;have AZ:=aa jI;have HKC:=aa Mn;clear jI Mn;open zbh in exact Zax):p:=h
theorem Yb (op:Int)(xv:Val)(name:ByteArray)(width:Int)(A:Option Addr)(c:Nat)(cV rV:Value)(args:List (Ex×Val))(oI:op≠2\/args≠ [])(aZ:∀a∈args,a.2.Ok)(w:World)(hl:args.length<=1599289640356)(hA:RE w w.heap.size A (args.map (·.1)))(hE:∀a∈args,jz w cV rV a.1 a.2 0):
  ar 17 #[.agg #[ag op,ag xv.k,af xv.n,.string xv.s,.string name,af width,.slice A args.length c],cV,rV] w λ en w'=>en=.returned (bR (pQ ⟨op,xv,name,width,A,args.length,c⟩ (args.map (·.2))).1 (pQ ⟨op,xv,name,width,A,args.length,c⟩ (args.map (·.2))).2)/\aj w w':=by have Hm:=aa oI;have asa:=aa aZ;clear oI aZ;have HA:=aa hA;have HE:=aa hE;clear hA hE;go_enter Tryz.func17,Tryz.ntmps17;have HX:=(aB.new w 46 #[ag op,ag xv.k,af xv.n,.string xv.s,.string name,af width,.slice A args.length c]).alloc (.cells #[ag 0,af 0,au] 44);open zgf in exact Zeb
theorem zeo.KaQ(h:p:=by
 have jn:(args.map (·.1)++bad::post)[k]' Tac=args[k].1:=by rw[getElem_append_left Tao];simp
 exact Zae):p:=h
theorem zih.Kck(h:p:=by
 have bG:=ah W3 (.cells #[ag 0,af 0,.string ByteArray.empty] 44);have b1:=ai.then hb (ai.then (ai.then bY Kx) bG);have cJ:=hR.later b1;have eB:=ai.then KK b1;have dt:=aG cJ;have gV:=aB.frozen cJ;have te:(er != 0)=true:=by have:=NY.ae;simpa using this
 clear fZ hex bY Kx bG b1 cJ HX hR KK hb;unfold bR aN;go_wp2_with fail;exact bodyPost_ret (v:=.tuple #[.agg #[ag 0,af 0,.string ByteArray.empty],af er]) Tah rfl ⟨rfl,((eB.setCell bJ _).setCell bJ _).setCell bJ _⟩):p:=h
theorem zho.KbX(h:p:=by clear jn fH HO Q3;open zih in exact ZgN):p:=h
theorem zep.KaQ(h:p:=by open zho in exact Zfk):p:=h
theorem zgg.Kbx(h:p:=by
 have hR:=aB.new (w.alloc (.cells #[ag op,ag xv.k,af xv.n,.string xv.s,.string name,af width,.slice A n c] 46)) 44 #[ag 0,af 0,au];rw[World.size_alloc] at hR;have KK:=ai.then (ah w (.cells #[ag op,ag xv.k,af xv.n,.string xv.s,.string name,af width,.slice A n c] 46)) (ah _ (.cells #[ag 0,af 0,au] 44));clear x6;generalize (w.alloc (.cells #[ag op,ag xv.k,af xv.n,.string xv.s,.string name,af width,.slice A n c] 46)).alloc (.cells #[ag 0,af 0,au] 44)=W at*;have bJ:w.heap.size<=w.heap.size+1:=by omega
 generalize w.heap.size+1=g at*;go_loopw [8,9,20] (λ lv kv i wr=>∃k:Nat,k<=args.length/\i=af k/\aI aV 44 3 wr W.heap.size lv ((args.take k).map (·.2))/\aI dO 5 1 wr W.heap.size kv ((args.take k).map (·.2.k))/\aj W wr) (λ _ _ i _=>args.length - (intOf i).toNat);case atStart=>exact⟨0,Nat.zero_le _,rfl,aI.nil,aI.nil,Below.refl _ _⟩
 case round=>
  obtain⟨k,hk,rfl,hO,hK,hb⟩:=hrel;have HO:=aa hO;have Q3:=aa hK;clear hO hK;rcases Nat.lt_or_ge k args.length with hlt | vt
  ·open zeo in exact Zcf
  ·have fH:k=args.length:=by omega
   open zep in exact Zcf):p:=h
theorem Yc (op:Int)(xv:Val)(name:ByteArray)(width:Int)(A:Option Addr)(n c:Nat)(cV rV:Value)(args:List (Ex×Val))(bad:Ex)(er:Int)(post:List Ex)(hn:args.length+1+post.length=n)(w:World)(hl:args.length<=1599289640356)(TU:n<=1599289640356)(hA:RE w w.heap.size A (args.map (·.1)++bad::post))(hE:∀a∈args,jz w cV rV a.1 a.2 0)(jW:jz w cV rV bad aN er)(her:er≠0):
  ar 17 #[.agg #[ag op,ag xv.k,af xv.n,.string xv.s,.string name,af width,.slice A n c],cV,rV] w λ en w'=>en=.returned (bR aN er)/\aj w w':=by have HN:=aa hn;have Hq:=aa jW;have NY:=aa her;clear hn jW her;have HA:=aa hA;have HE:=aa hE;clear hA hE;go_enter Tryz.func17,Tryz.ntmps17;have HX:=(aB.new w 46 #[ag op,ag xv.k,af xv.n,.string xv.s,.string name,af width,.slice A n c]).alloc (.cells #[ag 0,af 0,au] 44);open zgg in exact Zeb
inductive Tr where
 | mk (op:Int) (v:Val) (name:ByteArray) (width:Int) (args:List Tr)
def Yd (w:World)(S:Nat->Prop)(A:Option Addr)(l:List Ex):Prop:=
 l=[]\/∃b off,A=some ⟨b,off,none⟩/\S b/\∀i x,l[i]?=some x->cw w b (off+i*7) x
mutual
def Tr.at_ (w:World)(S:Nat->Prop):Tr->Ex->Prop
 | .mk op v name width args,y=>y.op=op/\y.v=v/\y.name=name/\y.width=width/\y.n=args.length/\∃ys,Yd w S y.A ys/\Tr.aO w S args ys
def Tr.aO (w:World)(S:Nat->Prop):List Tr->List Ex->Prop
 | [],ys=>ys=[]
 | t::ts,ys=>∃y ys',ys=y::ys'/\Tr.at_ w S t y/\Tr.aO w S ts ys'
end
variable{S S':Nat->Prop}
theorem Yd.keep{l:List Ex}(h:Yd w S A l)(hk:∀b,S b->(∀o,w'.cell? ⟨b,o,none⟩=w.cell? ⟨b,o,none⟩)/\S' b):Yd w' S' A l:=by
 rcases h with h |⟨b,off,h1,h2,h3⟩
 ·exact .inl h
 ·exact .inr ⟨b,off,h1,(hk b h2).2,λ i x hx=>(h3 i x hx).keep (hk b h2).1⟩
mutual
theorem Tr.at_.keep {w w':World} {S S':Nat->Prop}(hk:∀b,S b->(∀o,w'.cell? ⟨b,o,none⟩=w.cell? ⟨b,o,none⟩)/\S' b):∀(t:Tr) (y:Ex),t.at_ w S y->t.at_ w' S' y
 | .mk op v name width args,y,h=>by unfold Tr.at_ at h ⊢;obtain⟨h1,h2,h3,h4,h5,ys,h6,h7⟩:=h;exact⟨h1,h2,h3,h4,h5,ys,h6.keep hk,Tr.aO.keep hk args ys h7⟩
theorem Tr.aO.keep {w w':World} {S S':Nat->Prop}(hk:∀b,S b->(∀o,w'.cell? ⟨b,o,none⟩=w.cell? ⟨b,o,none⟩)/\S' b):∀(ts:List Tr) (ys:List Ex),Tr.aO w S ts ys->Tr.aO w' S' ts ys
 | [],ys,h=>by unfold Tr.aO at h ⊢;exact h
 | t::ts,ys,h=>by unfold Tr.aO at h ⊢;obtain⟨y,ys',h1,h2,h3⟩:=h;exact⟨y,ys',h1,Tr.at_.keep hk t y h2,Tr.aO.keep hk ts ys' h3⟩
end
theorem Tr.aO.length:∀ {ts:List Tr} {ys:List Ex},Tr.aO w S ts ys->ys.length=ts.length
 | [],ys,h=>by unfold Tr.aO at h;subst h;rfl
 | t::ts,ys,h=>by unfold Tr.aO at h;obtain⟨y,ys',rfl,_,h3⟩:=h;simp[Tr.aO.length h3]
def Old (w:World):Nat->Prop:=λ b=>b < w.heap.size
theorem Yd.old{l:List Ex}(h:Yd w (Old w) A l):RE w w.heap.size A l:=h
variable{y:Ex}
theorem Tr.at_.later{t:Tr} (h:t.at_ w (Old w) y)(hb:aj w w'):t.at_ w' (Old w') y:=
 Tr.at_.keep (λ b hS=>⟨λ o=>hb.cell (p:=⟨b,o,none⟩) hS,Nat.lt_of_lt_of_le hS hb.size⟩) t y h
variable{ts:List Tr}{ys:List Ex}
theorem Tr.aO.later(h:Tr.aO w (Old w) ts ys)(hb:aj w w'):Tr.aO w' (Old w') ts ys:=
 Tr.aO.keep (λ b hS=>⟨λ o=>hb.cell (p:=⟨b,o,none⟩) hS,Nat.lt_of_lt_of_le hS hb.size⟩) ts ys h
mutual
def Tr.ok:Tr->Prop
 | .mk op v name width args=>v.Ok/\args.length<=1599289640356/\(0<=op/\op<=255)/\(-9223372036854775808<=width/\width<=9223372036854775807)/\(0<=v.k/\v.k<=255)/\Tr.cN args
def Tr.cN:List Tr->Prop
 | []=>True
 | t::ts=>t.ok/\Tr.cN ts
end
structure aX where
 name:ByteArray
 t:Int
def pS (w:World)(b off:Nat)(x:aX):Prop:=w.cell? ⟨b,off,none⟩=some (.string x.name)/\w.cell? ⟨b,off+1,none⟩=some (ag x.t)
theorem pS.keep{x:aX}(h:pS w b off x)(hk:∀o,w'.cell? ⟨b,o,none⟩=w.cell? ⟨b,o,none⟩):pS w' b off x:=by unfold pS at*;simp only[hk];exact h
def RC (w:World)(B:Nat)(A:Option Addr)(l:List aX):Prop:=
 l=[]\/∃b off,A=some ⟨b,off,none⟩/\b < B/\∀i x,l[i]?=some x->pS w b (off+i*2) x
theorem RC.below{l:List aX}(h:RC w B A l)(hb:Below B w w'):RC w' B A l:=by exact Zcw
theorem RC.more{l:List aX}(h:RC w B A l)(hB:B<=B'):RC w B' A l:=by exact ZdP
theorem RC.later{l:List aX}(h:RC w w.heap.size A l)(hb:aj w w'):RC w' w'.heap.size A l:=(h.below hb).more hb.size
theorem RC.at_{l:List aX}(h:RC w B A l) (hk:k < l.length):∃b off,A=some ⟨b,off,none⟩/\b < B/\pS w b (off+k*2) l[k]:=by exact Zc1
theorem RV.later{l:List Val}(h:RV w w.heap.size A l)(hb:aj w w'):RV w' w'.heap.size A l:=(h.below hb).more hb.size
def di (name:ByteArray):List aX->Nat
 | []=>0
 | c::cs=>if (c.name.toList==name.toList)=true then 0 else di name cs+1
def kM (name:ByteArray)(cols:List aX):Int:=if di name cols < cols.length then di name cols else -1
def Be (cols:List aX)(row:List Val)(name:ByteArray):Val×Int:=
 if di name cols < cols.length/\di name cols < row.length then
  (if good (row.getD (di name cols) aN)=true then(row.getD (di name cols) aN,0)else(aN,40))
 else(aN,41)
def cL:List (Val×Int)->Int
 | []=>0
 | r::rs=>if r.2≠0 then r.2 else cL rs
def lY (cols:List aX)(row:List Val)(x:Ex)(rs:List (Val×Int)):Val×Int:=
 if cL rs≠0 then(aN,cL rs)else if bQ x≠0 then(aN,bQ x)else if x.op=1 then(x.v,0)else if x.op=2 then Be cols row x.name else iJ x.op x.width (rs.map (·.1))
mutual
def Tr.eval (cols:List aX)(row:List Val):Tr->Val×Int
 | .mk op v name width args=>lY cols row ⟨op,v,name,width,none,args.length,0⟩ (Tr.iK cols row args)
def Tr.iK (cols:List aX)(row:List Val):List Tr->List (Val×Int)
 | []=> []
 | t::ts=>t.eval cols row::Tr.iK cols row ts
end
theorem Tr.oK (cols:List aX)(row:List Val):∀ts,(Tr.iK cols row ts).length=ts.length
 | []=>by simp[Tr.iK]
 | t::ts=>by simp[Tr.iK,Tr.oK cols row ts]
theorem dY:aN.Ok:=⟨by decide,by decide⟩
theorem Rz (b:Bool):(bF b).Ok:=by cases b <;> exact⟨by decide,by decide⟩
theorem sk (n:Int): -9223372036854775808<=wrap64 n/\wrap64 n<=9223372036854775807:=by unfold wrap64;omega
variable{n:Int}{c:Bool}
theorem Bf(h: -9223372036854775808<=n/\n<=9223372036854775807):(fA n c).1.Ok:=by
 cases c
 ·exact dY
 ·exact h
theorem agu{b:Int}(ha: -9223372036854775808<=a/\a<=9223372036854775807): -9223372036854775808<=Int.tmod a b/\Int.tmod a b<=9223372036854775807:=by
 have h:(Int.tmod a b).natAbs<=a.natAbs:=by rw[Int.natAbs_tmod];exact Nat.mod_le _ _
 have h2:0<=a->0<=Int.tmod a b:=λ h=>Int.tmod_nonneg b h
 have h3:a<=0->Int.tmod a b<=0:=λ h=>by have:=Int.tmod_nonneg b (show 0<= -a by omega);rw[Int.neg_tmod] at this;omega
 omega
theorem Ye (s:Bool)(l:List Val):(lT s l).Ok:=by
 unfold lT;repeat (first | exact dY | exact Rz _ | split)
theorem alh (k:Nat)(wd:Int)(l:List Val)(hl:∀v∈l,v.Ok):(Hk k wd l).1.Ok:=by
 unfold Hk;split;case h_7 a b=>unfold zz;split;exact dY;exact Bf (agu (hl a Tad))
 all_goals first
  | exact dY
  | exact Rz _
  | exact Ye _ _
  | exact Bf (sk _)
  |(unfold zy;split;exact dY;exact Bf (sk _))
theorem abf (op wd:Int)(l:List Val)(hl:∀v∈l,v.Ok):(iJ op wd l).1.Ok:=by
 unfold iJ;split
 ·exact dY
 ·split
  ·exact dY
  ·exact alh _ _ _ hl
theorem agv (cols:List aX)(row:List Val)(name:ByteArray)(hr:∀v∈row,v.Ok):(Be cols row name).1.Ok:=by
 unfold Be;split
 ·rename_i h;split
  ·rw[getD_eq_getElem?_getD,getElem?_eq_getElem h.2];exact hr _ (getElem_mem h.2)
  ·exact dY
 ·exact dY
mutual
theorem Tr.abg (cols:List aX)(row:List Val)(hr:∀v∈row,v.Ok):∀t:Tr,t.ok->(t.eval cols row).1.Ok
 | .mk op v name width args,h=>by
   unfold Tr.ok at h;unfold Tr.eval lY;have ha:=Tr.vE cols row hr args h.2.2.2.2.2;split
   ·exact dY
   ·split
    ·exact dY
    ·split
     ·exact h.1
     ·split
      ·exact agv _ _ _ hr
      ·refine abf _ _ _ λ u hu=>?_
       obtain⟨z,hz,rfl⟩:=List.mem_map.1 hu;exact ha z hz
theorem Tr.vE (cols:List aX)(row:List Val)(hr:∀v∈row,v.Ok):∀ts:List Tr,Tr.cN ts->∀z∈Tr.iK cols row ts,z.1.Ok
 | [],_,z,hz=>by simp[Tr.iK] at hz
 | t::ts,h,z,hz=>by
   unfold Tr.cN at h;unfold Tr.iK at hz;rcases List.mem_cons.1 hz with rfl | hz
   ·exact Tr.abg cols row hr t h.1
   ·exact Tr.vE cols row hr ts h.2 z hz
end
theorem qR:∀(l:List (Ex×(Val×Int))),(∀a∈l,a.2.2=0)\/∃pre bad post,l=pre++bad::post/\(∀a∈pre,a.2.2=0)/\bad.2.2≠0
 | []=> .inl Tad
 | a::l=>by
   by_cases h:a.2.2=0
   ·rcases qR l with h1 |⟨pre,bad,post,h1,h2,h3⟩
    ·exact .inl (by intro x hx;rcases List.mem_cons.1 hx with rfl | hx;exact h;exact h1 x hx)
    ·refine .inr ⟨a::pre,bad,post,by rw[h1];rfl,?_,h3⟩;intro x hx;rcases List.mem_cons.1 hx with rfl | hx
     ·exact h
     ·exact h2 x hx
   ·exact .inr ⟨[],a,l,rfl,by simp,h⟩
theorem yE:∀ {l:List (Val×Int)},(∀a∈l,a.2=0)->cL l=0
 | [],_=>rfl
 | a::l,h=>by unfold cL;rw[if_neg TaP];exact yE λ x hx=>h x Tbd
theorem EX:∀ {pre post:List (Val×Int)} {bad:Val×Int},(∀a∈pre,a.2=0)->bad.2≠0->cL (pre++bad::post)=bad.2
 | [],post,bad,_,hb=>by unfold cL;simp[hb]
 | a::pre,post,bad,h,hb=>by show cL (a::(pre++bad::post))=_;unfold cL;rw[if_neg TaP];exact EX (λ x hx=>h x Tbd) hb
theorem NZ (x:aX)(name:ByteArray)(g:Nat)(w:World)(hg:aB w g 9 #[.string name]):
  ar 79 #[.agg #[.string x.name,ag x.t],aw g] w λ e w'=>e=.returned (.bool (x.name.toList==name.toList))/\aj w w':=by have c0:=(hg.alloc (.cells #[.string x.name,ag x.t] 113)).cell 0;simp only[getElem?_toArray,getElem?_cons_zero] at c0;go_enter Tryz.func79,Tryz.ntmps79;go_wp2_with fail;go_ret;exact⟨rfl,by go_grown⟩
variable{cs:List aX}
theorem TV{name:ByteArray} {c:aX} (h:(c.name.toList==name.toList)=false):di name (c::cs)=di name cs+1:=by show(if (c.name.toList==name.toList)=true then 0 else di name cs+1)=_;rw[if_neg (by rw[h];simp)]
theorem Oa{name:ByteArray} {c:aX} (h:(c.name.toList==name.toList)=true):di name (c::cs)=0:=by show(if (c.name.toList==name.toList)=true then 0 else di name cs+1)=_;rw[if_pos h]
theorem cH(h:k < l.length):l.drop k=l[k]::l.drop (k+1):=drop_eq_getElem_cons h
theorem Hr (cols:List aX)(CA:Option Addr)(cc:Nat)(name:ByteArray)(g:Nat)(w:World)(hC:RC w w.heap.size CA cols)(hg:aB w g 9 #[.string name])(hl:cols.length<=140737488355328):
  ar 78 #[.slice CA cols.length cc,.func (.func 79) #[] #[.pointer (some ⟨g,0,none⟩)]] w λ e w'=>e=.returned (.int .i64 (kM name cols))/\aj w w':=by
 have HC:=aa hC;clear hC;go_enter Tryz.func78,Tryz.ntmps78;go_wp2_with fail;go_loopw [5,8] (λ _ i wr=>∃k:Nat,k<=cols.length/\i=af k/\di name cols=k+di name (cols.drop k)/\aj w wr) (λ _ i _=>cols.length - (intOf i).toNat);case atStart=>exact⟨0,Nat.zero_le _,rfl,by simp,Below.refl _ _⟩
 case round=>
  obtain⟨k,hk,rfl,hp,hb⟩:=hrel;have HP:=aa hp;clear hp;by_cases hlt:k < cols.length
  ·obtain⟨b,off,rfl,kF,hex⟩:=(HC.ae.below hb).at_ hlt;have HD:=aa (cH hlt);generalize cols[k]=x at*;unfold pS at hex;have hz:=hg.later hb;go_wp2_with fail;refine(NZ x name g _ hz).mono ?_;rintro e w1 ⟨rfl,b1⟩;have hb1:=ai.then hb b1;clear hex hz b1 hb;cases hm:(x.name.toList==name.toList)
   ·go_wp2_with fail;go_roundw;case rel=>refine⟨k+1,by omega,by go_num,?_,hb1⟩;rw[HP.ae,HD.ae,TV hm];omega
    case measure=>exact Za1
   ·go_wp2_with fail;go_ret;refine⟨?_,hb1⟩;have Aj:di name cols=k:=by rw[HP.ae,HD.ae,Oa hm];omega
    unfold kM;rw[Aj,if_pos hlt];rfl
  ·go_wp2_with fail;go_ret;refine⟨?_,hb⟩;have Aj:di name cols=cols.length:=by rw[HP.ae,drop_eq_nil_of_le WC];unfold di;omega
   unfold kM;rw[Aj,if_neg WC];rfl
theorem EY (cols:List aX)(CA:Option Addr)(cc:Nat)(name:ByteArray)(w:World)(hC:RC w w.heap.size CA cols)(hl:cols.length<=140737488355328):
  ar 43 #[.slice CA cols.length cc,.string name] w λ e w'=>e=.returned (af (kM name cols))/\aj w w':=by have bb:=ah w (.cells #[.string name] 9);have hg:=aB.new w 9 #[.string name];have hC2:=aa (hC.later bb);clear hC;go_enter Tryz.func43,Tryz.ntmps43;go_wp2_with fail;refine(Hr cols CA cc name w.heap.size _ hC2.ae hg hl).mono ?_;rintro e w1 ⟨rfl,b1⟩;have hb:=ai.then bb b1;clear b1 bb hg;exact ZeN
theorem zbI.Kal(h:p:=by exact Zd8):p:=h
theorem ze0.Ka3(h:p:=by
 have dt:=aG cJ;have gV:=aB.frozen cJ;go_wp2_with fail;clear hst x0 x1 z2 z3 z4 z5 z6 dt gV;refine(EY cols CA cc name _ HO.ae hl).mono ?_;rintro e w2 ⟨rfl,b3⟩;replace hR:=hR.later b3;replace cJ:=cJ.later b3;replace hB:=ai.then hB b3;replace HO:=aa (HO.ae.later b3);replace Q3:=aa (Q3.ae.later b3);clear b3;by_cases uE:di name cols < cols.length
 ·have HP:=aa (show kM name cols=(di name cols:Int) by unfold kM;rw[if_pos uE]);rw[HP.ae];have hc1:Be cols row name=if di name cols < row.length then(if good (row.getD (di name cols) aN)=true then(row.getD (di name cols) aN,0)else(aN,40))else(aN,41):=by unfold Be;simp only[uE,true_and]
  have TW:=aa hc1;clear hc1 HP;generalize di name cols=k at*;have hk2:(k:Int)<=140737488355328:=by omega
  have t0:decide ((k:Int)< 0)=false:=decide_eq_false WC;by_cases hk:k < row.length
  ·have t1:decide (row.length<=k)=false:=decide_eq_false WC;obtain⟨b,off,rfl,kF,hval⟩:=Q3.ae.at_ hk;have HG:=aa (show row.getD k aN=row[k] by rw[getD_eq_getElem?_getD,getElem?_eq_getElem hk];rfl);have DZ:=aa (TW.ae.trans (if_pos hk));rw[HG.ae] at DZ;generalize row[k]=xv at*;have hva:=hval;unfold eh at hval;have x0:=hR.cell 0;have x1:=hR.cell 1;have z2:=hR.cell 2;have z3:=hR.cell 3;have z4:=hR.cell 4;have z5:=hR.cell 5;have z6:=hR.cell 6;simp only[Uaa] at x0 x1 z2 z3 z4 z5 z6;have dt:=aG cJ;have gV:=aB.frozen cJ;go_wp2_with fail;refine(vu xv _).mono ?_;rintro e w3 ⟨rfl,Lw⟩;replace hva:=hva.keep (w':=w3) λ o=>Lw.cell (p:=⟨b,o,none⟩) kF
   clear x0 x1 z2 z3 z4 z5 z6 dt gV;replace hR:=hR.later Lw;replace cJ:=cJ.later Lw;replace hB:=ai.then hB Lw;replace HO:=aa (HO.ae.later Lw);replace Q3:=aa (Q3.ae.later Lw);clear hval Lw;unfold eh at hva;cases hg:good xv
   ·have HQ:=aa (DZ.ae.trans (if_neg (by rw[hg];simp)));have x0:=hR.cell 0;have x1:=hR.cell 1;have z2:=hR.cell 2;have z3:=hR.cell 3;have z4:=hR.cell 4;have z5:=hR.cell 5;have z6:=hR.cell 6;simp only[Uaa] at x0 x1 z2 z3 z4 z5 z6;have dt:=aG cJ;have gV:=aB.frozen cJ;go_wp2_with fail;exact bodyPost_ret (v:=.tuple #[.agg #[ag 0,af 0,.string ByteArray.empty],af 40]) Tah rfl ⟨by rw[HQ.ae];rfl,((hB.setCell bJ _).setCell bJ _).setCell bJ _⟩
   ·have HQ:=aa (DZ.ae.trans (if_pos hg));have x0:=hR.cell 0;have x1:=hR.cell 1;have z2:=hR.cell 2;have z3:=hR.cell 3;have z4:=hR.cell 4;have z5:=hR.cell 5;have z6:=hR.cell 6;simp only[Uaa] at x0 x1 z2 z3 z4 z5 z6;have dt:=aG cJ;have gV:=aB.frozen cJ;exact Zei
  ·have t1:decide (row.length<=k)=true:=decide_eq_true WC;have HQ:=aa (TW.ae.trans (if_neg hk));have x0:=hR.cell 0;have x1:=hR.cell 1;have z2:=hR.cell 2;have z3:=hR.cell 3;have z4:=hR.cell 4;have z5:=hR.cell 5;have z6:=hR.cell 6;simp only[Uaa] at x0 x1 z2 z3 z4 z5 z6;exact Zd8
 ·have HP:=aa (show kM name cols= -1 by unfold kM;rw[if_neg uE]);rw[HP.ae];have HQ:=aa (show Be cols row name=(aN,41) by unfold Be;rw[if_neg (λ h=>uE h.1)]);open zbI in exact ZaD):p:=h
theorem zgn.Kbz(h:p:=by clear Hn TR x0 x1 z2 z3 z4 z5 z6 dt gV;have b3:=ai.then b1 (ah w1 (.cells #[af 0,ag 0,ag 0,.bool false,.bool false,.nilFunc] 100));replace hR:=hR.later b3;replace cJ:=cJ.later b3;replace hB:=ai.then hB b3;replace HO:=aa (HO.ae.later b3);open ze0 in exact ZcE):p:=h
theorem zh0.Kcd(h:p:=by
 go_wp2_with fail;have cJ:=aB.new (w.alloc (.cells #[ag 2,ag Kx.k,af Kx.n,.string Kx.s,.string name,af width,.slice A 0 c] 46)) 44 #[ag 0,af 0,au];rw[World.size_alloc] at cJ;have hB:=ai.then (ah w (.cells #[ag 2,ag Kx.k,af Kx.n,.string Kx.s,.string name,af width,.slice A 0 c] 46)) (ah _ (.cells #[ag 0,af 0,au] 44));replace HO:=aa (HO.ae.later hB);replace Q3:=aa (Q3.ae.later hB);clear z6;generalize (w.alloc (.cells #[ag 2,ag Kx.k,af Kx.n,.string Kx.s,.string name,af width,.slice A 0 c] 46)).alloc (.cells #[ag 0,af 0,au] 44)=W at*;have bJ:w.heap.size<=w.heap.size+1:=by omega
 generalize w.heap.size+1=g at*;go_loopw [8,9,20] (λ lv kv i wr=>lv=az/\kv=az/\i=af 0/\wr=W) (λ _ _ _ _=>0);case atStart=>exact⟨rfl,rfl,rfl,rfl⟩
 case round=>obtain⟨rfl,rfl,rfl,rfl⟩:=hrel;have x0:=hR.cell 0;have x1:=hR.cell 1;have z2:=hR.cell 2;have z3:=hR.cell 3;have z4:=hR.cell 4;have z5:=hR.cell 5;have z6:=hR.cell 6;simp only[Uaa] at x0 x1 z2 z3 z4 z5 z6;have dt:=aG cJ;have gV:=aB.frozen cJ;open zgn in exact Zek):p:=h
theorem Yf (Kx:Val)(name:ByteArray)(width:Int)(A:Option Addr)(c:Nat)(cols:List aX)(CA:Option Addr)(cc:Nat)(row:List Val)(RA:Option Addr)(rc:Nat)(w:World)(hC:RC w w.heap.size CA cols)(hl:cols.length<=140737488355328)(hV:RV w w.heap.size RA row)(hl2:row.length<=140737488355328):
  ar 17 #[.agg #[ag 2,ag Kx.k,af Kx.n,.string Kx.s,.string name,af width,.slice A 0 c],.slice CA cols.length cc,.slice RA row.length rc] w λ en w'=>en=.returned (bR (Be cols row name).1 (Be cols row name).2)/\aj w w':=by have HO:=aa hC;have Q3:=aa hV;clear hC hV;go_enter Tryz.func17,Tryz.ntmps17;have hR:=(aB.new w 46 #[ag 2,ag Kx.k,af Kx.n,.string Kx.s,.string name,af width,.slice A 0 c]).alloc (.cells #[ag 0,af 0,au] 44);open zh0 in exact Zgp
theorem ua(h:(fA n c).2≠0):(fA n c).1=aN:=by
 cases c
 ·rfl
 ·exact absurd rfl h
theorem abh (k:Nat)(wd:Int)(l:List Val)(h:(Hk k wd l).2≠0):(Hk k wd l).1=aN:=by
 unfold Hk at*;split at h;case h_6 a b=>unfold zy at*;exact Zg9
 case h_7 a b=>unfold zz at*;exact Zg9
 all_goals first
  | exact absurd rfl h
  | exact ua h
theorem TX (op wd:Int)(l:List Val)(h:(iJ op wd l).2≠0):(iJ op wd l).1=aN:=by
 unfold iJ at*;split at h
 ·rename_i h1;rw[if_pos h1]
 ·rename_i h1;rw[if_neg h1];split at h
  ·exact absurd rfl h
  ·rename_i h2;rw[if_neg h2];exact abh _ _ _ h
theorem Oc (cols:List aX)(row:List Val)(x:Ex)(rs:List (Val×Int))(h:(lY cols row x rs).2≠0):(lY cols row x rs).1=aN:=by
 unfold lY at*;split at h
 ·rename_i h1;rw[if_pos h1]
 ·rename_i h1;rw[if_neg h1];split at h
  ·rename_i h2;rw[if_pos h2]
  ·rename_i h2;rw[if_neg h2];split at h
   ·exact absurd rfl h
   ·rename_i h3;rw[if_neg h3];split at h
    ·rename_i h4;rw[if_pos h4];unfold Be at*;split at h
     ·rename_i h5;rw[if_pos h5];split at h
      ·exact absurd rfl h
      ·rename_i h6;rw[if_neg h6]
     ·rename_i h5;rw[if_neg h5]
    ·rename_i h4;rw[if_neg h4];exact TX _ _ _ h
mutual
theorem Tr.TY (cols:List aX)(row:List Val):∀t:Tr,(t.eval cols row).2≠0->(t.eval cols row).1=aN
 | .mk op v name width args,h=>by unfold Tr.eval at*;exact Oc _ _ _ _ h
theorem Tr.Bg (cols:List aX)(row:List Val):∀ts:List Tr,∀z∈Tr.iK cols row ts,z.2≠0->z.1=aN
 | [],z,hz,_=>by simp[Tr.iK] at hz
 | t::ts,z,hz,h=>by
   unfold Tr.iK at hz;rcases List.mem_cons.1 hz with rfl | hz
   ·exact Tr.TY cols row t h
   ·exact Tr.Bg cols row ts z hz h
end
section
variable (cols:List aX) (CA:Option Addr) (cc:Nat) (row:List Val) (RA:Option Addr) (rc:Nat)
theorem Yg (op:Int)(xv:Val)(name:ByteArray)(width:Int)(A:Option Addr)(c:Nat)(args:List (Ex×(Val×Int)))(aZ:∀a∈args,a.2.1.Ok)(hz:∀a∈args,a.2.2≠0->a.2.1=aN)(w:World)(hl:args.length<=1599289640356)(hA:RE w w.heap.size A (args.map (·.1)))
  (hC:RC w w.heap.size CA cols) (cf:cols.length<=140737488355328) (hV:RV w w.heap.size RA row) (kN:row.length<=140737488355328)
  (hE:∀a∈args,jz w (.slice CA cols.length cc) (.slice RA row.length rc) a.1 a.2.1 a.2.2):
  ar 17 #[.agg #[ag op,ag xv.k,af xv.n,.string xv.s,.string name,af width,.slice A args.length c],.slice CA cols.length cc,.slice RA row.length rc] w λ en w'=>en=.returned (bR (lY cols row ⟨op,xv,name,width,none,args.length,0⟩ (args.map (·.2))).1 (lY cols row ⟨op,xv,name,width,none,args.length,0⟩ (args.map (·.2))).2)/\aj w w':=by
 rcases qR args with h0 |⟨pre,bad,post,rfl,Ea,jW⟩
 ·have hf:cL (args.map (·.2))=0:=yE λ a ha=>by obtain⟨z,hz,rfl⟩:=List.mem_map.1 ha;exact h0 z hz
  by_cases h2:op=2/\args=[]
  ·obtain⟨rfl,rfl⟩:=h2;have k:=Yf xv name width A c cols CA cc row RA rc w hC cf hV kN;have e:lY cols row ⟨2,xv,name,width,none,0,0⟩ []=Be cols row name:=by unfold lY;rw[if_neg (by simp[cL]),if_neg (by simp[bQ]),if_neg Tad,if_pos (by rfl)]
   show Calls _ _ _ _ λ en w'=>en=.returned (bR (lY cols row ⟨2,xv,name,width,none,0,0⟩ []).1 (lY cols row ⟨2,xv,name,width,none,0,0⟩ []).2)/\_
   rw[e];exact k
  ·have k:=Yb op xv name width A c (.slice CA cols.length cc) (.slice RA row.length rc) (args.map λ a=>(a.1,a.2.1)) (by
    by_cases ho:op=2
    ·right;intro h;exact h2 ⟨ho,by simpa using h⟩
    ·exact .inl ho) (λ a ha=>by obtain⟨z,hz,rfl⟩:=List.mem_map.1 ha;exact aZ z hz) w (by simpa using hl) Tau (λ a ha=>by
    obtain⟨z,hz,rfl⟩:=List.mem_map.1 ha
    have:=hE z hz
    rw[h0 z hz] at this
    exact this)
   rw[length_map] at k;have hm:(args.map λ a=>(a.1,a.2.1)).map (·.2)=(args.map (·.2)).map (·.1):=by simp[Function.comp_def]
   rw[hm] at k;have e:lY cols row ⟨op,xv,name,width,none,args.length,0⟩ (args.map (·.2))=pQ ⟨op,xv,name,width,A,args.length,c⟩ ((args.map (·.2)).map (·.1)):=by have agw:bQ ⟨op,xv,name,width,A,args.length,c⟩=bQ ⟨op,xv,name,width,none,args.length,0⟩:=rfl;unfold lY pQ;exact Zb5
   rw[e];exact k
 ·have Z0:bad.2.1=aN:=hz bad Tad jW;have hbE:=hE bad Tad;rw[Z0] at hbE;have k:=Yc op xv name width A (pre++bad::post).length c (.slice CA cols.length cc) (.slice RA row.length rc) (pre.map λ a=>(a.1,a.2.1)) bad.1 bad.2.2 (post.map (·.1)) Tac w (by simp at hl ⊢;omega) hl Tau (λ a ha=>by
   obtain⟨z,hz',rfl⟩:=List.mem_map.1 ha
   have:=hE z (by simp[hz'])
   rw[Ea z hz'] at this
   exact this) hbE jW
  have hf:cL ((pre++bad::post).map (·.2))=bad.2.2:=by rw[map_append,map_cons];exact EX (λ a ha=>by obtain⟨z,hz',rfl⟩:=List.mem_map.1 ha;exact Ea z hz') jW
  have e:lY cols row ⟨op,xv,name,width,none,(pre++bad::post).length,0⟩ ((pre++bad::post).map (·.2))=(aN,bad.2.2):=by unfold lY;rw[if_pos (by rw[hf];exact jW),hf]
  rw[e];exact k
mutual
theorem Tr.RD (cf:cols.length<=140737488355328)(kN:row.length<=140737488355328)(hro:∀v∈row,v.Ok):∀(t:Tr) (y:Ex) (w:World),t.ok->t.at_ w (Old w) y->RC w w.heap.size CA cols->RV w w.heap.size RA row->jz w (.slice CA cols.length cc) (.slice RA row.length rc) y (t.eval cols row).1 (t.eval cols row).2
 | .mk op v name width args,y,w,aZ,hat,hC,hV=>by
   intro W hb;have nR:=hat.later hb;unfold Tr.at_ at nR;obtain⟨h1,h2,h3,h4,h5,ys,h6,h7⟩:=nR;unfold Tr.ok at aZ;obtain⟨l,ft,hl2,ub⟩:=Tr.Bh cf kN hro args ys W aZ.2.2.2.2.2 h7 (hC.later hb) (hV.later hb);obtain⟨JI,yv,ld,gO,yA,yn,yc⟩:=y;dsimp only at h1 h2 h3 h4 h5 h6;subst h1 h2 h3 h4 h5;have hlen:l.length=args.length:=by
    have:(l.map (·.2)).length=(Tr.iK cols row args).length:=by rw[hl2]
    rw[length_map,Tr.oK] at this;exact this
   have hzz:∀a∈l,a.2.1.Ok/\(a.2.2≠0->a.2.1=aN):=λ a ha=>by
    have hm:a.2∈Tr.iK cols row args:=by rw[<- hl2];exact List.mem_map.2 ⟨a,ha,rfl⟩
    exact⟨Tr.vE cols row hro args aZ.2.2.2.2.2 _ hm,Tr.Bg cols row args _ hm⟩
   have k:=Yg cols CA cc row RA rc JI yv ld gO yA yc l (λ a ha=>(hzz a ha).1) (λ a ha=>(hzz a ha).2) W (by rw[hlen];exact aZ.2.1) Tba (hC.later hb) cf (hV.later hb) kN ub;rw[hl2,hlen] at k;unfold Tr.eval;exact k
theorem Tr.Bh (cf:cols.length<=140737488355328)(kN:row.length<=140737488355328)(hro:∀v∈row,v.Ok):∀(ts:List Tr) (ys:List Ex) (w:World),Tr.cN ts->Tr.aO w (Old w) ts ys->RC w w.heap.size CA cols->RV w w.heap.size RA row->∃l:List (Ex×(Val×Int)),l.map (·.1)=ys/\l.map (·.2)=Tr.iK cols row ts/\∀a∈l,jz w (.slice CA cols.length cc) (.slice RA row.length rc) a.1 a.2.1 a.2.2
 | [],ys,w,_,hat,_,_=>by unfold Tr.aO at hat;subst hat;exact⟨[],rfl,by simp[Tr.iK],by simp⟩
 | t::ts,ys,w,aZ,hat,hC,hV=>by
   unfold Tr.aO at hat;unfold Tr.cN at aZ;obtain⟨y,ys',rfl,h2,h3⟩:=hat;obtain⟨l,ft,hl2,ub⟩:=Tr.Bh cf kN hro ts ys' w aZ.2 h3 hC hV;refine⟨(y,t.eval cols row)::l,by simp[ft],by simp[hl2,Tr.iK],λ a ha=>?_⟩;rcases List.mem_cons.1 ha with rfl | ha
   ·exact Tr.RD cf kN hro t y w aZ.1 h2 hC hV
   ·exact ub a ha
end
end
def vF (r:Val×Int):Bool×Int:=if r.2≠0 then(false,r.2)else if bZ r.1.k 1=false then(false,40)else(r.1.n==1,0)
theorem ali(h:RE w B A (y::ys)):∃b off,A=some ⟨b,off,none⟩/\b < B/\cw w b off y:=by
 rcases h with h |⟨b,off,h1,h2,h3⟩
 ·cases h
 ·refine⟨b,off,h1,h2,?_⟩;have:=h3 0 y rfl;exact Ze5
theorem Yh (A:Option Addr)(n c:Nat)(hn:0 < n)(TU:n<=1599289640356)(y:Ex)(ys:List Ex)(cV rV:Value)(r:Val×Int)(w:World)(hA:RE w w.heap.size A (y::ys))(hE:jz w cV rV y r.1 r.2):
  ar 16 #[.slice A n c,cV,rV] w λ e w'=>e=.returned (.tuple #[.bool (vF r).1,af (vF r).2])/\aj w w':=by
 obtain⟨b,off,rfl,hb,hex⟩:=ali hA;have HE:=aa hE;clear hA hE;have t0:(n==0)=false:=by simp;omega
 have t0':((n:Int)==0)=false:=by simp;omega
 unfold cw at hex;go_enter Tryz.func16,Tryz.ntmps16;go_wp2_with fail;refine(HE.ae w (Below.refl _ _)).mono ?_;rintro e w1 ⟨rfl,b1⟩;clear hex t0 t0' HE;obtain⟨v,f⟩:=r;unfold bR;dsimp only;have hv:=aB.new w1 44 (aD v);have hB:=ai.then b1 (ah w1 (.cells (aD v) 44));clear b1;have cv:=aG hv;by_cases hf:f=0
 ·subst hf;go_wp2_with fail;have hg:=aB.new (w1.alloc (.cells (aD v) 44)) 5 #[ag v.k,ag 1];have bb:=ah (w1.alloc (.cells (aD v) 44)) (.cells #[ag v.k,ag 1] 5);rw[World.size_alloc] at hg;have g0:=hg.cell 0;have g1:=hg.cell 1;have glt:=hg.lt;simp only[Uaa] at g0 g1;refine(qP (w1.heap.size+1) 0 2 v.k 1 _ glt g0 g1).mono ?_;rintro e w2 ⟨rfl,b2⟩;replace hB:=ai.then (ai.then hB bb) b2;replace hv:=(hv.later bb).later b2;clear bb b2 g0 g1 glt hg cv;have cv:=aG hv;cases hgo:bZ v.k 1
  ·have HQ:=aa (show vF (v,0)=(false,40) by unfold vF;rw[if_neg Tad,if_pos hgo]);go_wp2_with fail;exact bodyPost_ret (v:=.tuple #[.bool false,af 40]) Taw rfl ⟨by rw[HQ.ae],hB⟩
  ·have HQ:=aa (show vF (v,0)=(v.n==1,0) by unfold vF;rw[if_neg Tad,if_neg (by rw[hgo];simp)]);go_wp2_with fail;exact bodyPost_ret (v:=.tuple #[.bool (v.n==1),af 0]) Taw rfl ⟨by rw[HQ.ae],hB⟩
 ·have t1:(f != 0)=true:=by simpa using hf
  have HQ:=aa (show vF (v,f)=(false,f) by unfold vF;rw[if_pos hf]);clear hf;go_wp2_with fail;exact bodyPost_ret (v:=.tuple #[.bool false,af f]) Taw rfl ⟨by rw[HQ.ae],hB⟩
theorem Yi (A:Option Addr)(c:Nat)(cV rV:Value)(w:World):ar 16 #[.slice A 0 c,cV,rV] w λ e w'=>e=.returned (.tuple #[.bool true,af 0])/\w=w':=by go_enter Tryz.func16,Tryz.ntmps16;go_wp2_with fail;exact bodyPost_ret (v:=.tuple #[.bool true,af 0]) Taw rfl ⟨rfl,rfl⟩
def tN (x:Ex)(ts:List Int):Int×Int:=
 if bQ x≠0 then(0,bQ x)else if x.op=1 then(x.v.k,0)else if gM x.op ts=false then(0,40)else(tY x.op,0)
def Yj (w:World)(cV:Value)(y:Ex)(t:Int):Prop:=∀W,aj w W->ar 59 #[.agg (ay y),cV] W λ en w'=>en=.returned (.tuple #[ag t,af 0])/\aj W w'
theorem zdh.KaB(h:p:=by exact ZdL):p:=h
theorem zdi.KaB(h:p:=by exact ZdM):p:=h
theorem zdj.KaB(h:p:=by exact ZdL):p:=h
theorem zdk.KaB(h:p:=by exact ZdM):p:=h
theorem zeM.KaY(h:p:=by
 have TS:=(tL.ae.cell (p:=⟨g9,0,none⟩) kK).trans (tM 0 v1 0 _ rfl WC rfl);have vD:=Nat.lt_of_lt_of_le kK tL.ae.size;clear tM tL;go_wp2_with fail;refine(ET a wa gi nu d jV g9 0 c9 v1 _ vD TS).mono ?_;rintro e w3 ⟨rfl,b3⟩;clear x0 x1 z6 y0 y1 c2 y3 o4 o5;replace hR:=hR.later b3;replace cJ:=cJ.later b3;replace hB:=ai.then hB b3;clear b3;have tq:eZ (gM op [v1]=bZ v1 wa):=by have z1:=HWA.ae;have Lw:=Ai.ae;show gM _ _=_;simp only[gM,<- z1,<- Lw]
 cases hs:bZ v1 wa
 ·have HQ:=aa (Nn.ae (0,40) (by rw[tq.ae,hs,if_pos rfl]));open zdh in exact Zbh
 ·have HQ:=aa (Nn.ae (gi,0) Tbk);open zdi in exact Zbh):p:=h
theorem zeN.KaY(h:p:=by
 have TS:=(tL.ae.cell (p:=⟨g9,0,none⟩) kK).trans (tM 0 v1 0 _ rfl WC rfl);have kc2:=(tL.ae.cell (p:=⟨g9,1,none⟩) kK).trans (tM 1 v2 0 _ rfl WC rfl);have vD:=Nat.lt_of_lt_of_le kK tL.ae.size;clear tM tL;go_wp2_with fail;refine(EU a wa gi al nu d jV g9 0 c9 v1 v2 _ vD TS kc2).mono ?_;rintro e w3 ⟨rfl,b3⟩;clear x0 x1 z6 y0 y1 c2 y3 o4 o5;replace hR:=hR.later b3;replace cJ:=cJ.later b3;replace hB:=ai.then hB b3;clear b3;have tq:eZ (gM op [v1,v2]=(bZ v1 wa &&(bZ v2 wa &&(!al || bZ v1 v2)))):=by have z1:=HWA.ae;have Lw:=Ai.ae;show gM _ _=_;simp only[gM,<- z1,<- Lw]
 cases hs:(bZ v1 wa &&(bZ v2 wa &&(!al || bZ v1 v2)))
 ·have HQ:=aa (Nn.ae (0,40) (by rw[tq.ae,hs,if_pos rfl]));open zdj in exact Zbh
 ·have HQ:=aa (Nn.ae (gi,0) Tbk);open zdk in exact Zbh):p:=h
theorem zhn.KbW(h:p:=by
 have Nn:eZ (∀r,(if gM op (args.map (·.2))=false then(0,40)else(tY op,0))=r->tN ⟨op,xv,name,width,A,args.length,c⟩ (args.map (·.2))=r):=λ r hr=>by unfold tN;rw[if_neg Ta5,if_neg H1.ae];exact hr
 clear hwa xp LE Y7 ny Ho agr hOp HOI hwd h1 mL;rcases agt with ⟨hlen,rfl⟩| hlen
 ·obtain⟨⟨Ly,v1⟩,rfl⟩:=ala hlen;open zeM in exact Zct
 ·obtain⟨⟨Ly,v1⟩,⟨y2,v2⟩,rfl⟩:=alb hlen;open zeN in exact Zct):p:=h
theorem zdR.KaI(h:p:=by rw[Ry] at Hp;obtain⟨hwa,Y7,xp,LE⟩:=Hp;open zhn in exact Zfj):p:=h
theorem zfJ.Kbl(h:p:=by
 replace hR:=hR.later b2;replace hB:=ai.then hB b2;have cJ:=aB.new W3 100 #[af a,ag wa,ag gi,.bool al,.bool nu,d];have HOI:=aa (TR.later (ah W3 (.cells #[af a,ag wa,ag gi,.bool al,.bool nu,d] 100)));have tL:=aa b2;clear TR Kx b2 hd;generalize Hn:bQ ⟨op,xv,name,width,A,args.length,c⟩=fe;have mL:=aa Hn;clear Hn;have x0:=hR.cell 0;have x1:=hR.cell 1;have z6:=hR.cell 6;have y0:=cJ.cell 0;have y1:=cJ.cell 1;have c2:=cJ.cell 2;have y3:=cJ.cell 3;have o4:=cJ.cell 4;have o5:=cJ.cell 5;simp only[Uaa] at x0 x1 z6 y0 y1 c2 y3 o4 o5;by_cases hf:fe=0
 ·subst hf;by_cases h1:op=1
  ·have HR:=aa (show tN ⟨op,xv,name,width,A,args.length,c⟩ (args.map (·.2))=(xv.k,0) by unfold tN;rw[if_neg Ta5,if_pos h1]);have t1:(op==1)=true:=by simpa using h1
   clear h1;go_wp2_with fail;exact bodyPost_ret (v:=.tuple #[ag xv.k,af 0]) Taq rfl ⟨by rw[HR.ae],hB⟩
  ·open zdR in exact ZbK
 ·have HR:=aa (show tN ⟨op,xv,name,width,A,args.length,c⟩ (args.map (·.2))=(0,fe) by unfold tN;rw[if_pos (by rw[mL.ae];exact hf),mL.ae]);have t1:(fe != 0)=true:=by simpa using hf
  clear hf;go_wp2_with fail;exact bodyPost_ret (v:=.tuple #[ag 0,af fe]) Taq rfl ⟨by rw[HR.ae],hB⟩):p:=h
theorem zbJ.Kal(h:p:=by go_wp2_with fail;refine(vC ⟨op,xv,name,width,A,args.length,c⟩ _).mono ?_;rintro e W3 ⟨oo,rfl,TR,Kx⟩;clear x0 x1 z2 z3 z4 z5 z6;open zfJ in exact ZdE):p:=h
theorem Yk (op:Int)(xv:Val)(name:ByteArray)(width:Int)(A:Option Addr)(c:Nat)(cV:Value)(args:List (Ex×Int))(oI:op≠2\/args≠ [])(w:World)(hl:args.length<=1599289640356)(hA:RE w w.heap.size A (args.map (·.1)))(hE:∀a∈args,Yj w cV a.1 a.2):
  ar 59 #[.agg #[ag op,ag xv.k,af xv.n,.string xv.s,.string name,af width,.slice A args.length c],cV] w λ en w'=>en=.returned (.tuple #[ag (tN ⟨op,xv,name,width,A,args.length,c⟩ (args.map (·.2))).1,af (tN ⟨op,xv,name,width,A,args.length,c⟩ (args.map (·.2))).2])/\aj w w':=by
 have Hm:=aa oI;have HA:=aa hA;have HE:=aa hE;clear hA hE oI;go_enter Tryz.func59,Tryz.ntmps59;have hX:=aB.new w 46 #[ag op,ag xv.k,af xv.n,.string xv.s,.string name,af width,.slice A args.length c];have z6:=hX.cell 6;simp only[Uaa] at z6;go_wp2_with fail;have KK:=ah w (.cells #[ag op,ag xv.k,af xv.n,.string xv.s,.string name,af width,.slice A args.length c] 46);clear z6;generalize w.alloc (.cells #[ag op,ag xv.k,af xv.n,.string xv.s,.string name,af width,.slice A args.length c] 46)=W at*;go_loopw [6,17] (λ kv i wr=>∃k:Nat,k<=args.length/\i=af k/\aI dO 5 1 wr W.heap.size kv ((args.take k).map (·.2))/\aj W wr) (λ _ i _=>args.length - (intOf i).toNat);case atStart=>exact ZcH
 case round=>
  obtain⟨k,hk,rfl,hp,hb⟩:=hrel;have HP:=aa hp;clear hp;rcases Nat.lt_or_ge k args.length with hlt | vt
  ·obtain⟨b,off,rfl,kF,hex⟩:=(HA.ae.below (KK.trans (hb.mono KK.size))).at_ (show k <(args.map (·.1)).length by simpa using hlt);have jn:(args.map (·.1))[k]' Tao=args[k].1:=by simp
   exact ZaK
  ·have lU:args.take k=args:=take_of_length_le vt;rw[lU] at HP;clear lU;obtain⟨A9,c9,hu9,uE⟩:=ej (f:=dO) (size:=1) (λ _=>rfl) HP.ae;rw[length_map] at hu9;subst hu9;have hR:=hX.later hb;have hB:=ai.then KK hb;clear HP hX KK;have HKC:=aa uE;open zbJ in exact ZaD
def oL (w:World)(cV:Value)(y:Ex)(t e:Int):Prop:=∀W,aj w W->ar 59 #[.agg (ay y),cV] W λ en w'=>en=.returned (.tuple #[ag t,af e])/\aj W w'
theorem zeq.KaQ(h:p:=by
 have jn:(args.map (·.1)++bad::post)[k]' Tac=args[k].1:=by rw[getElem_append_left Tao];simp
 exact ZaK):p:=h
theorem zii.Kck(h:p:=by
 have eB:=ai.then KK (ai.then hb (ai.then bY Kx));have te:(er != 0)=true:=by have:=NY.ae;simpa using this
 clear fZ hex bY Kx HX KK hb;go_wp2_with fail;exact bodyPost_ret (v:=.tuple #[ag 0,af er]) Taq rfl ⟨rfl,eB⟩):p:=h
theorem zhp.KbX(h:p:=by clear jn fH HP;open zii in exact ZgN):p:=h
theorem zer.KaQ(h:p:=by open zhp in exact Zfk):p:=h
theorem zgh.Kbx(h:p:=by
 have KK:=ah w (.cells #[ag op,ag xv.k,af xv.n,.string xv.s,.string name,af width,.slice A n c] 46);clear x6;generalize w.alloc (.cells #[ag op,ag xv.k,af xv.n,.string xv.s,.string name,af width,.slice A n c] 46)=W at*;go_loopw [6,17] (λ kv i wr=>∃k:Nat,k<=args.length/\i=af k/\aI dO 5 1 wr W.heap.size kv ((args.take k).map (·.2))/\aj W wr) (λ _ i _=>args.length - (intOf i).toNat);case atStart=>exact ZcH
 case round=>
  obtain⟨k,hk,rfl,hp,hb⟩:=hrel;have HP:=aa hp;clear hp;rcases Nat.lt_or_ge k args.length with hlt | vt
  ·open zeq in exact Zcf
  ·have fH:k=args.length:=by omega
   open zer in exact Zcf):p:=h
theorem Yl (op:Int)(xv:Val)(name:ByteArray)(width:Int)(A:Option Addr)(n c:Nat)(cV:Value)(args:List (Ex×Int))(bad:Ex)(bt er:Int)(post:List Ex)(hn:args.length+1+post.length=n)(w:World)(hl:args.length<=1599289640356)(TU:n<=1599289640356)(hA:RE w w.heap.size A (args.map (·.1)++bad::post))(hE:∀a∈args,Yj w cV a.1 a.2)(jW:oL w cV bad bt er)(her:er≠0):
  ar 59 #[.agg #[ag op,ag xv.k,af xv.n,.string xv.s,.string name,af width,.slice A n c],cV] w λ en w'=>en=.returned (.tuple #[ag 0,af er])/\aj w w':=by have HN:=aa hn;have Hq:=aa jW;have NY:=aa her;clear hn jW her;have HA:=aa hA;have HE:=aa hE;clear hA hE;go_enter Tryz.func59,Tryz.ntmps59;have HX:=aB.new w 46 #[ag op,ag xv.k,af xv.n,.string xv.s,.string name,af width,.slice A n c];open zgh in exact Zeb
def mM (cols:List aX)(name:ByteArray):Int×Int:=if di name cols < cols.length then((cols.getD (di name cols) ⟨ByteArray.empty,0⟩).t,0)else(0,41)
theorem zbK.Kal(h:p:=by go_wp2_with fail;exact bodyPost_ret (v:=.tuple #[ag 0,af 41]) Taq rfl ⟨by rw[HQ.ae],hB⟩):p:=h
theorem ze1.Ka3(h:p:=by
 go_wp2_with fail;clear hst x0 x1 z2 z3 z4 z5 z6;refine(EY cols CA cc name _ Q3.ae hl).mono ?_;rintro e w' ⟨rfl,b3⟩;replace hR:=hR.later b3;replace hB:=ai.then hB b3;replace Q3:=aa (Q3.ae.later b3);clear b3;by_cases uE:di name cols < cols.length
 ·have HP:=aa (show kM name cols=(di name cols:Int) by unfold kM;rw[if_pos uE]);rw[HP.ae];have Xh:=aa (show mM cols name=((cols.getD (di name cols) ⟨ByteArray.empty,0⟩).t,0) by unfold mM;rw[if_pos uE]);clear HP;generalize di name cols=k at*;have hk2:(k:Int)<=140737488355328:=by omega
  have t0:decide (0<=(k:Int))=true:=decide_eq_true WC;obtain⟨b,off,rfl,kF,Ob⟩:=Q3.ae.at_ uE;have HG:=aa (show cols.getD k ⟨ByteArray.empty,0⟩=cols[k] by rw[getD_eq_getElem?_getD,getElem?_eq_getElem uE];rfl);have HQ:=Xh;rw[HG.ae] at HQ;clear Xh;generalize cols[k]=x at*;unfold pS at Ob;have x0:=hR.cell 0;have x1:=hR.cell 1;have z2:=hR.cell 2;have z3:=hR.cell 3;have z4:=hR.cell 4;have z5:=hR.cell 5;have z6:=hR.cell 6;simp only[Uaa] at x0 x1 z2 z3 z4 z5 z6;go_wp2_with fail;exact bodyPost_ret (v:=.tuple #[ag x.t,af 0]) Taq rfl ⟨by rw[HQ.ae],hB⟩
 ·have HP:=aa (show kM name cols= -1 by unfold kM;rw[if_neg uE]);rw[HP.ae];have HQ:=aa (show mM cols name=(0,41) by unfold mM;rw[if_neg uE]);open zbK in exact ZaD):p:=h
theorem zgo.Kbz(h:p:=by clear Hn TR x0 x1 z2 z3 z4 z5 z6;have b3:=ai.then b1 (ah w1 (.cells #[af 0,ag 0,ag 0,.bool false,.bool false,.nilFunc] 100));replace hR:=hR.later b3;replace hB:=ai.then hB b3;open ze1 in exact ZcE):p:=h
theorem zh1.Kcd(h:p:=by
 go_wp2_with fail;have hB:=ah w (.cells #[ag 2,ag Kx.k,af Kx.n,.string Kx.s,.string name,af width,.slice A 0 c] 46);replace Q3:=aa (Q3.ae.later hB);clear z6;generalize w.alloc (.cells #[ag 2,ag Kx.k,af Kx.n,.string Kx.s,.string name,af width,.slice A 0 c] 46)=W at*;go_loopw [6,17] (λ kv i wr=>kv=az/\i=af 0/\wr=W) (λ _ _ _=>0);case atStart=>exact⟨rfl,rfl,rfl⟩
 case round=>obtain⟨rfl,rfl,rfl⟩:=hrel;have x0:=hR.cell 0;have x1:=hR.cell 1;have z2:=hR.cell 2;have z3:=hR.cell 3;have z4:=hR.cell 4;have z5:=hR.cell 5;have z6:=hR.cell 6;simp only[Uaa] at x0 x1 z2 z3 z4 z5 z6;open zgo in exact Zek):p:=h
theorem Ym (Kx:Val)(name:ByteArray)(width:Int)(A:Option Addr)(c:Nat)(cols:List aX)(CA:Option Addr)(cc:Nat)(w:World)(hC:RC w w.heap.size CA cols)(hl:cols.length<=140737488355328):
  ar 59 #[.agg #[ag 2,ag Kx.k,af Kx.n,.string Kx.s,.string name,af width,.slice A 0 c],.slice CA cols.length cc] w λ en KK=>en=.returned (.tuple #[ag (mM cols name).1,af (mM cols name).2])/\aj w KK:=by have Q3:=aa hC;clear hC;go_enter Tryz.func59,Tryz.ntmps59;have hR:=aB.new w 46 #[ag 2,ag Kx.k,af Kx.n,.string Kx.s,.string name,af width,.slice A 0 c];open zh1 in exact Zgp
def gP:List (Int×Int)->Int
 | []=>0
 | r::rs=>if r.2≠0 then r.2 else gP rs
def qT (cols:List aX)(x:Ex)(rs:List (Int×Int)):Int×Int:=
 if gP rs≠0 then(0,gP rs)else if bQ x≠0 then(0,bQ x)else if x.op=1 then(x.v.k,0)else if x.op=2 then mM cols x.name else if gM x.op (rs.map (·.1))=false then(0,40)else(tY x.op,0)
mutual
def Tr.type (cols:List aX):Tr->Int×Int
 | .mk op v name width args=>qT cols ⟨op,v,name,width,none,args.length,0⟩ (Tr.types cols args)
def Tr.types (cols:List aX):List Tr->List (Int×Int)
 | []=> []
 | t::ts=>t.type cols::Tr.types cols ts
end
theorem Tr.oM (cols:List aX):∀ts,(Tr.types cols ts).length=ts.length
 | []=>by simp[Tr.types]
 | t::ts=>by simp[Tr.types,Tr.oM cols ts]
theorem oN:∀(l:List (Ex×(Int×Int))),(∀a∈l,a.2.2=0)\/∃pre bad post,l=pre++bad::post/\(∀a∈pre,a.2.2=0)/\bad.2.2≠0
 | []=> .inl Tad
 | a::l=>by
   by_cases h:a.2.2=0
   ·rcases oN l with h1 |⟨pre,bad,post,h1,h2,h3⟩
    ·exact .inl (by intro x hx;rcases List.mem_cons.1 hx with rfl | hx;exact h;exact h1 x hx)
    ·refine .inr ⟨a::pre,bad,post,by rw[h1];rfl,?_,h3⟩;intro x hx;rcases List.mem_cons.1 hx with rfl | hx
     ·exact h
     ·exact h2 x hx
   ·exact .inr ⟨[],a,l,rfl,by simp,h⟩
theorem qU:∀ {l:List (Int×Int)},(∀a∈l,a.2=0)->gP l=0
 | [],_=>rfl
 | a::l,h=>by unfold gP;rw[if_neg TaP];exact qU λ x hx=>h x Tbd
theorem xq:∀ {pre post:List (Int×Int)} {bad:Int×Int},(∀a∈pre,a.2=0)->bad.2≠0->gP (pre++bad::post)=bad.2
 | [],post,bad,_,hb=>by unfold gP;simp[hb]
 | a::pre,post,bad,h,hb=>by show gP (a::(pre++bad::post))=_;unfold gP;rw[if_neg TaP];exact xq (λ x hx=>h x Tbd) hb
section
variable (cols:List aX) (CA:Option Addr) (cc:Nat)
theorem Yn (op:Int)(xv:Val)(name:ByteArray)(width:Int)(A:Option Addr)(c:Nat)(args:List (Ex×(Int×Int)))(w:World)(hl:args.length<=1599289640356)(hA:RE w w.heap.size A (args.map (·.1)))
  (hC:RC w w.heap.size CA cols) (cf:cols.length<=140737488355328) (hE:∀a∈args,oL w (.slice CA cols.length cc) a.1 a.2.1 a.2.2):
  ar 59 #[.agg #[ag op,ag xv.k,af xv.n,.string xv.s,.string name,af width,.slice A args.length c],.slice CA cols.length cc] w λ en w'=>en=.returned (.tuple #[ag (qT cols ⟨op,xv,name,width,none,args.length,0⟩ (args.map (·.2))).1,af (qT cols ⟨op,xv,name,width,none,args.length,0⟩ (args.map (·.2))).2])/\aj w w':=by
 rcases oN args with h0 |⟨pre,bad,post,rfl,Ea,jW⟩
 ·have hf:gP (args.map (·.2))=0:=qU λ a ha=>by obtain⟨z,hz,rfl⟩:=List.mem_map.1 ha;exact h0 z hz
  by_cases h2:op=2/\args=[]
  ·obtain⟨rfl,rfl⟩:=h2;have k:=Ym xv name width A c cols CA cc w hC cf;have e:qT cols ⟨2,xv,name,width,none,0,0⟩ []=mM cols name:=by unfold qT;rw[if_neg (by simp[gP]),if_neg (by simp[bQ]),if_neg Tad,if_pos (by rfl)]
   show Calls _ _ _ _ λ en w'=>en=.returned (.tuple #[ag (qT cols ⟨2,xv,name,width,none,0,0⟩ []).1,af (qT cols ⟨2,xv,name,width,none,0,0⟩ []).2])/\_
   rw[e];exact k
  ·have k:=Yk op xv name width A c (.slice CA cols.length cc) (args.map λ a=>(a.1,a.2.1)) (by
    by_cases ho:op=2
    ·right;intro h;exact h2 ⟨ho,by simpa using h⟩
    ·exact .inl ho) w (by simpa using hl) Tau (λ a ha=>by
    obtain⟨z,hz,rfl⟩:=List.mem_map.1 ha
    have:=hE z hz
    rw[h0 z hz] at this
    exact this)
   rw[length_map] at k;have hm:(args.map λ a=>(a.1,a.2.1)).map (·.2)=(args.map (·.2)).map (·.1):=by simp[Function.comp_def]
   rw[hm] at k;have e:qT cols ⟨op,xv,name,width,none,args.length,0⟩ (args.map (·.2))=tN ⟨op,xv,name,width,A,args.length,c⟩ ((args.map (·.2)).map (·.1)):=by have agw:bQ ⟨op,xv,name,width,A,args.length,c⟩=bQ ⟨op,xv,name,width,none,args.length,0⟩:=rfl;unfold qT tN;exact Zb5
   rw[e];exact k
 ·have hbE:=hE bad Tad;have k:=Yl op xv name width A (pre++bad::post).length c (.slice CA cols.length cc) (pre.map λ a=>(a.1,a.2.1)) bad.1 bad.2.1 bad.2.2 (post.map (·.1)) Tac w (by simp at hl ⊢;omega) hl Tau (λ a ha=>by
   obtain⟨z,hz',rfl⟩:=List.mem_map.1 ha
   have:=hE z (by simp[hz'])
   rw[Ea z hz'] at this
   exact this) hbE jW
  have hf:gP ((pre++bad::post).map (·.2))=bad.2.2:=by rw[map_append,map_cons];exact xq (λ a ha=>by obtain⟨z,hz',rfl⟩:=List.mem_map.1 ha;exact Ea z hz') jW
  have e:qT cols ⟨op,xv,name,width,none,(pre++bad::post).length,0⟩ ((pre++bad::post).map (·.2))=(0,bad.2.2):=by unfold qT;rw[if_pos (by rw[hf];exact jW),hf]
  rw[e];exact k
mutual
theorem Tr.oO (cf:cols.length<=140737488355328):∀(t:Tr) (y:Ex) (w:World),t.ok->t.at_ w (Old w) y->RC w w.heap.size CA cols->oL w (.slice CA cols.length cc) y (t.type cols).1 (t.type cols).2
 | .mk op v name width args,y,w,aZ,hat,hC=>by
   intro W hb;have nR:=hat.later hb;unfold Tr.at_ at nR;obtain⟨h1,h2,h3,h4,h5,ys,h6,h7⟩:=nR;unfold Tr.ok at aZ;obtain⟨l,ft,hl2,ub⟩:=Tr.Bi cf args ys W aZ.2.2.2.2.2 h7 (hC.later hb);obtain⟨JI,yv,ld,gO,yA,yn,yc⟩:=y;dsimp only at h1 h2 h3 h4 h5 h6;subst h1 h2 h3 h4 h5;have hlen:l.length=args.length:=by
    have:(l.map (·.2)).length=(Tr.types cols args).length:=by rw[hl2]
    rw[length_map,Tr.oM] at this;exact this
   have k:=Yn cols CA cc JI yv ld gO yA yc l W (by rw[hlen];exact aZ.2.1) Tba (hC.later hb) cf ub;rw[hl2,hlen] at k;unfold Tr.type;exact k
theorem Tr.Bi (cf:cols.length<=140737488355328):∀(ts:List Tr) (ys:List Ex) (w:World),Tr.cN ts->Tr.aO w (Old w) ts ys->RC w w.heap.size CA cols->∃l:List (Ex×(Int×Int)),l.map (·.1)=ys/\l.map (·.2)=Tr.types cols ts/\∀a∈l,oL w (.slice CA cols.length cc) a.1 a.2.1 a.2.2
 | [],ys,w,_,hat,_=>by unfold Tr.aO at hat;subst hat;exact⟨[],rfl,by simp[Tr.types],by simp⟩
 | t::ts,ys,w,aZ,hat,hC=>by
   unfold Tr.aO at hat;unfold Tr.cN at aZ;obtain⟨y,ys',rfl,h2,h3⟩:=hat;obtain⟨l,ft,hl2,ub⟩:=Tr.Bi cf ts ys' w aZ.2 h3 hC;refine⟨(y,t.type cols)::l,by simp[ft],by simp[hl2,Tr.types],λ a ha=>?_⟩;rcases List.mem_cons.1 ha with rfl | ha
   ·exact Tr.oO cf t y w aZ.1 h2 hC
   ·exact ub a ha
end
end
theorem vG:Tryz.prog.cellsOf 5=1:=by exact Zgx
theorem sq:Tryz.prog.cellsOf 2=1:=by exact Zgx
theorem gw:Tryz.prog.cellsOf 9=1:=by exact Zgx
theorem mN:Tryz.prog.cellsOf 44=3:=by exact Zgx
theorem RF(h:(Lit.int .u8 n).wf=true):0<=n/\n<=255:=by exact ZgU
section
variable {H:Type} {enc:TypeId×Value->H} {w:World} {base:Nat} {spare:Nat->Bool} {held:Bool} {fuel:Nat} {cs:List Value} {x:DataW H×List MemPlace}
theorem Hs {n:Int}(h:(Lit.int .i64 n).wf=true): -9223372036854775808<=n/\n<=9223372036854775807:=by exact ZgU
theorem Yo (h:DataW.trod enc Tryz.prog w base spare held fuel 44 cs=some x):∃a:Val,cs=[ag a.k,af a.n,.string a.s]/\a.Ok/\0<=a.k/\a.k<=255:=by
 obtain⟨xs,n,_,_,hl,hlen,hf⟩:=DataW.trod_struct Tryz.underlying44 h;rw[mN] at hl
 match cs,hl with
 | [c0,c1,c2],_=>
   have get:∀i,i < 3->∃y,xs[i]?=some y:=λ i hi=>⟨xs[i]'(by simp at hlen;omega),getElem?_eq_getElem _⟩
   obtain⟨y0,e0⟩:=get 0 WC;obtain⟨y1,e1⟩:=get 1 WC;obtain⟨y2,e2⟩:=get 2 WC;have t0:DataW.trod enc Tryz.prog w base spare held n 5 (([c0,c1,c2].drop 0).take (Tryz.prog.cellsOf 5))=some y0:=(hf 0 _ rfl).trans e0;have t1:DataW.trod enc Tryz.prog w base spare held n 2 (([c0,c1,c2].drop 1).take (Tryz.prog.cellsOf 2))=some y1:=(hf 1 _ rfl).trans e1;have t2:DataW.trod enc Tryz.prog w base spare held n 9 (([c0,c1,c2].drop 2).take (Tryz.prog.cellsOf 9))=some y2:=(hf 2 _ rfl).trans e2;rw[vG] at t0;rw[sq] at t1;rw[gw] at t2;simp only[drop_succ_cons,drop_zero,take_succ_cons,take_zero] at t0 t1 t2;obtain⟨n0,q0,_,f0⟩:=DataW.trod_int Tryz.underlying5 t0;obtain⟨n1,q1,_,f1⟩:=DataW.trod_int Tryz.underlying2 t1;obtain⟨s,q2,_,f2⟩:=DataW.trod_string Tryz.underlying9 t2;simp at q0 q1 q2;subst q0 q1 q2;exact⟨⟨n0,n1,s⟩,rfl,Hs f1,RF f0⟩
end
theorem pick{P:Nat->α->Prop}:∀n,(∀i,i < n->∃x,P i x)->∃l:List α,l.length=n/\∀i x,l[i]?=some x->P i x
 | 0,_=>⟨[],rfl,λ i x h=>by simp at h⟩
 | n+1,h=>by
   obtain⟨l,hl,hp⟩:=pick n λ i hi=>h i WC
   obtain⟨y,hy⟩:=h n WC;refine⟨l++ [y],by simp[hl],λ i x hx=>?_⟩;rcases Nat.lt_trichotomy i n with hi | hi | hi
   ·rw[getElem?_append_left WC] at hx;exact hp i x hx
   ·subst hi;rw[getElem?_append_right WC,hl] at hx;simp at hx;subst hx;exact hy
   ·rw[getElem?_eq_none Tac] at hx;cases hx
theorem jO{a:Addr} (h:w.cell? a=some v):a.block < w.heap.size/\a.spot=none:=by
 unfold World.cell? at h;split at h
 ·rename_i hb;refine⟨?_,?_⟩
  ·rcases Nat.lt_or_ge a.block w.heap.size with h' | h'
   ·exact h'
   ·rw[Array.getElem?_eq_none h'] at hb;cases hb
  ·split at h
   ·cases h
   ·rename_i hs;simpa using hs
 ·cases h
end Go.Proofs.YtndgjggokjickaaGreatDoor
