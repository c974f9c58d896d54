/- Parts of the proof. -/
import Derived.Test.YtndgjggokjickaaGreatDoorXG1
namespace Go.Proofs.YtndgjggokjickaaGreatDoor
variable{p:Prop}
set_option maxHeartbeats 90000000
set_option maxRecDepth 100000
open Go.ChangeShapes Go.WideShapes Go.ChangeAt Go.RowKit List
set_option linter.unusedVariables false
set_option linter.unusedSimpArgs false
variable{P:Program}{Q:yD}{a0:Act}{w0:rQ}{id:Nat}{ops:List Oper}
theorem OD(k:Nat)(R:rQ->rQ->Prop)(hrefl:∀w,R w w)(Be:∀a b c,R a b->R b c->R a c)(nT:∀w,R w w.drew)
  (V:Nat->rQ->Value->Prop) (U:Nat->rQ->(Operand->Value)->Prop) (hU:YD (ops.take k) R U) (hV:∀i w w' v,V i w v->R w w'->V i w' v) (hm:P.follows .mixedOrders=true)
  (aZ:dP (ops.take k) a0.tmps.size (ops.take k) 0=true) (hz:eU ops (ops.drop k) (ops.take k).length=true)
  (hs:Hw P (ops.take k) R V U a0 w0 (ops.take k) 0) (hf:∀w,R w0 w->bA V (λ a w=>(∀i o,(ops.take k)[i]?=some o->U i w a.eval)->wpList P ops.toArray Q (ops.drop k) a w) (ops.take k) 0 a0 w):(Code.region id ops.toArray true).wp P Q a0 w0:=
 Hx (ops.drop k) (ops.take k) (take_append_drop k ops).symm R hrefl Be nT V U hU hV hm aZ TaI hs hf
def Sq (B gx:Nat)(op:Int):Nat->rQ->Value->Prop
 | 0=>λ w v=>Found w op v
 | 1=>λ _ v=>v=aw gx
 | 2=>λ _ v=>v=ag op
 | 3=>λ w v=>∃o,v=.tuple #[.agg o,.bool (jK op)]/\yK w op o
 | 4=>λ w v=>∃o,v=.tuple #[.agg o,.bool (jK op)]/\yK w op o
 | 5=>λ w v=>∃o,v=.agg o/\yK w op o
 | 6=>λ _ v=>v=.bool (jK op)
 | 7=>λ w v=>∃g,v=aw g/\B<=g/\∃cs,aB w g 100 cs/\cs.size=6
 | _=>λ _ _=>True
theorem KH (B gx:Nat)(op:Int)(i:Nat)(w w':rQ)(v:Value)(h:Sq B gx op i w v)(hr:FR op B w w'):Sq B gx op i w' v:=by
 unfold Sq at*;split at h
 ·exact h.fr hr
 ·exact h
 ·exact h
 ·exact Zge
 ·exact Zge
 ·exact Zge
 ·exact h
 ·obtain⟨g,h1,h2,cs,h3,h4⟩:=h;refine⟨g,h1,h2,?_⟩;rcases hr.blk _ _ _ h3 with h5 |⟨_,_,o,h5,h6⟩
  ·exact⟨cs,h5,h4⟩
  ·obtain⟨a,wa,gi,al,nu,d,rfl,_⟩:=h5.shape;exact⟨_,h6,rfl⟩
 ·trivial
def YF (B:Nat)(op:Int)(i:Nat)(w:rQ)(ρ:Operand->Value):Prop:=
 i=8->∃g o,ρ (.tmp 4)=aw g/\B<=g/\yK w op o/\aB w g 100 o
variable{w w':rQ}{ρ ρ':Operand->Value}
theorem KJ(B:Nat)(op:Int)  (i:Nat)(h:YF B op i w ρ)(hr:FR op B w w')(he:i=8->ρ' (.tmp 4)=ρ (.tmp 4)):YF B op i w' ρ':=by
 intro hi;obtain⟨g,o,h1,h2,h3,h4⟩:=h hi;rcases hr.blk _ _ _ h4 with h5 |⟨_,_,o',h6,h7⟩
 ·exact⟨g,o,(he hi).trans h1,h2,h3.fr hr,h5⟩
 ·exact⟨g,o',(he hi).trans h1,h2,h6,h7⟩
def bH (x:Ex):Int:=
 if x.op=1/\x.n=0/\good x.v=true\/x.op=2/\x.n=0 then 0
 else if jK x.op=true/\(x.n:Int)=qJ x.op/\(x.op≠20\/(1<=x.width/\x.width<=1099511627776))then 0
 else if (x.n:Int)=nD x.op then 42 else 21
def YG (x:Ex)(w:rQ)(e:Ending)(w':rQ):Prop:=∃o,e=.returned (.tuple #[.agg o,af (bH x)])/\yK w' x.op o/\aj w w'
theorem zcI.Kaz(h:p:=by
 go_wp2_with fail;refine(fW x.op _).mono ?_;rintro e w9 ⟨rfl,rfl⟩;by_cases hn:(x.n:Int)=nD x.op
 ·have t1:((x.n:Int)==nD x.op)=true:=by simpa using hn
  have pV:=aa (show bH x=42 by have Kx:=P1.ae;have KK:=N2.ae;simp only[bH];rw[if_neg Tal,if_neg Tal,if_pos hn]);exact Zbt
 ·have t1:((x.n:Int)==nD x.op)=false:=by simpa using hn
  have pV:=aa (show bH x=21 by have Kx:=P1.ae;have KK:=N2.ae;simp only[bH];rw[if_neg Tal,if_neg Tal,if_neg hn]);exact Zbu):p:=h
theorem zcJ.Kaz(h:p:=by have pV:=aa (show bH x=0 by have Kx:=P1.ae;have KK:=N2.ae;simp only[bH];rw[if_pos Tal]);exact ZbQ):p:=h
theorem vz (x:Ex)(w:rQ):ar 42 #[.agg (az x)] w (YG x w):=by
 go_enter Tryz.func42,Tryz.ntmps42;go_wp2_with fail;have k1:=(aB.new w 46 (az x)).alloc (.cells #[af 0,ag 0,ag 0,.bool false,.bool false,.nilFunc] 100);have LE:=aB.new (w.alloc (.cells (az x) 46)) 100 #[af 0,ag 0,ag 0,.bool false,.bool false,.nilFunc];rw[World.size_alloc] at LE;have hB:=ai.then (ah w (.cells (az x) 46)) (ah _ (.cells #[af 0,ag 0,ag 0,.bool false,.bool false,.nilFunc] 100));have hgx:w.heap.size <((w.alloc (.cells (az x) 46)).alloc (.cells #[af 0,ag 0,ag 0,.bool false,.bool false,.nilFunc] 100)).heap.size:=by simp;omega
 generalize (w.alloc (.cells (az x) 46)).alloc (.cells #[af 0,ag 0,ag 0,.bool false,.bool false,.nilFunc] 100)=W at*;have bJ:w.heap.size<=w.heap.size+1:=by omega
 generalize w.heap.size+1=g at*;refine OD 9 (FR x.op W.heap.size) (FR.refl _ _) (λ _ _ _=>FR.trans) (λ u=>?_) (Sq W.heap.size w.heap.size x.op) (YF W.heap.size x.op) ?_ (λ i u u' v h hr=>KH _ _ _ _ _ _ _ h hr) WC WC WC ?_ ?_
 ·exact⟨(Below.refl _ _).drew,λ Lw t cs h=> .inl h,λ Lw es c h=>h⟩
 ·intro i o u u' ρ ρ' hi hu hr hk;refine KJ _ _ i hu hr λ e=>?_
  subst e;simp only[take_succ_cons,take_zero] at hi hk;refine hk 7 ?_ _ 4 rfl rfl;injection hi with hi;subst hi;decide
 ·simp only[take_succ_cons,take_zero];refine⟨?_,?_,?_,?_,?_,?_,?_,?_,?_,trivial⟩
  ·intro ρ w3 hc hL hr;have e1:=hc.func 75;refine bp (f:=75) (args:= #[]) (w':=w3) (by simp[go_sem,e1]) ?_;refine(Ux x.op w3).mono ?_;rintro e w2 ⟨v,he,hf,hb⟩;exact⟨v,he,FR.later hb hL.below.size,hf,λ h=>by cases h⟩
  ·intro ρ w3 hc hL hr;have h1:_=_:=hr.1;exact Zgk
  ·intro ρ w3 hc hL hr;have h1:_=_:=hr.1;have c0:=(k1.below hL.below hgx).cell 0;simp only[getElem?_toArray,getElem?_cons_zero] at c0;exact aq (w':=w3) Tbg ⟨FR.refl _ _ _,rfl,λ h=>by cases h⟩
  ·intro ρ w3 hc hL hr;obtain⟨Lw,es,h1,hg,Uy⟩:Found w3 x.op (ρ (.tmp 8)):=hr.1;have h2:_=_:=hr.2.1;rcases Uy with ⟨ho,i,o,hfi,hoi⟩|⟨ho,hfi⟩
   ·have hl:=YE _ _ _ _ hg x.op i _ hfi;exact aq (v:=.tuple #[.agg o,.bool true]) (w':=w3) Ta9 ⟨FR.refl _ _ _,⟨o,by rw[ho],.inl ⟨ho,hoi⟩⟩,λ h=>by cases h⟩
   ·have hl:=abJ _ _ _ _ hg x.op hfi;exact aq (v:=.tuple #[.agg oJ,.bool false]) (w':=w3) Ta9 ⟨FR.refl _ _ _,⟨oJ,by rw[ho],.inr ⟨ho,rfl⟩⟩,λ h=>by cases h⟩
  ·intro ρ w3 hc hL hr;exact ji (.inl rfl) rfl ⟨FR.refl _ _ _,hr.1,λ h=>by cases h⟩
  ·intro ρ w3 hc hL hr;obtain⟨o,h1,h2⟩:∃o,ρ (.tmp 7)=.tuple #[.agg o,.bool (jK x.op)]/\yK w3 x.op o:=hr.1;exact aq (w':=w3) TaE ⟨FR.refl _ _ _,⟨o,rfl,h2⟩,λ h=>by cases h⟩
  ·intro ρ w3 hc hL hr;obtain⟨o,h1,h2⟩:∃o,ρ (.tmp 7)=.tuple #[.agg o,.bool (jK x.op)]/\yK w3 x.op o:=hr.1;exact Zgk
  ·intro ρ w3 hc hL hr;refine aq (w':=w3.alloc (.cells #[af 0,ag 0,ag 0,.bool false,.bool false,.nilFunc] 100)) (by simp[go_sem]) ⟨FR.later (ah w3 _) hL.below.size,⟨w3.heap.size,rfl,hL.below.size,_,aB.new w3 _ _,rfl⟩,λ h=>by cases h⟩
  ·intro ρ w3 hc hL hr;obtain⟨Lw,h1,hgB,cs,hcs,hsz⟩:∃Lw,ρ (.tmp 4)=aw Lw/\W.heap.size<=Lw/\∃cs,aB w3 Lw 100 cs/\cs.size=6:=hr.1;obtain⟨o,h2,ho⟩:∃o,ρ (.tmp 12)=.agg o/\yK w3 x.op o:=hr.2.1;obtain⟨a,wa,gi,al,nu,d,rfl,_,hd⟩:=ho.shape;obtain⟨f1,f2⟩:=dQ hcs hsz hgB ho;have YH:=Bk hcs hsz a wa gi al nu d;have c:∀i,(hi:i < 6)->w3.cell? ⟨Lw,i,none⟩=some (cs[i]' TD):=λ i hi=>(hcs.cell i).trans (Array.getElem?_eq_getElem TD)
   have fz:=hcs.frozen;have c0:=c 0 TD;have c1:=c 1 TD;have LT:=c 2 TD;have c3:=c 3 TD;have c4:=c 4 TD;have c5:=c 5 TD;refine Kz (w':=vy w3 Lw a wa gi al nu d) ?_ ⟨f1,trivial,λ _=>⟨Lw,_,h1,hgB,f2,YH⟩⟩;unfold vy;rcases hd with rfl |⟨F,C,rfl⟩
   ·simp[go_sem,h1,h2,cK,c0,c1,LT,c3,c4,c5,fz]
   ·simp[go_sem,h1,h2,cK,c0,c1,LT,c3,c4,c5,fz]
 ·intro w3 hL;simp only[Uab];rintro _ ⟨gm,es,rfl,hgm,Uy⟩ _ rfl _ rfl _ ⟨o3,rfl,h3⟩ _ ⟨Ly,rfl,h4⟩ _ ⟨MY,rfl,h5⟩ _ rfl _ ⟨g4,rfl,hg4,cs,hcs,hsz⟩ hu;obtain⟨Lw,o,hg,hgB,ho,hR⟩:=hu 8 _ rfl rfl;have ej:g4=Lw:=by simpa [Act.put,Act.eval] using hg
  subst ej;clear hu hg hcs hsz cs Uy hgm es h3 h4 h5 hg4;replace k1:=k1.below hL.below hgx;have cN:=LE.below hL.below (aB.lt LE);replace hB:=hB.trans (hL.below.mono hB.size);clear LE hL hgx;obtain⟨a,wa,gi,al,nu,d,rfl,_,hd⟩:=ho.shape;have KL:=λ h=>yK.args ho h
  have jL:d.oneCell'=true:=by rcases hd with rfl |⟨F,C,rfl⟩<;> rfl
  have hst:=λ(u:Addr) (m:Mode) (w:rQ)=>run_store Tryz.prog w u d m jL
  clear hd jL;have HC:=aa ho;clear ho;simp only[bA,Act.put,Uac];have z0:=k1.cell 0;have z1:=k1.cell 1;have x2:=k1.cell 2;have x3:=k1.cell 3;have x5:=k1.cell 5;have x6:=k1.cell 6;have x0:=hR.cell 0;have x1:=hR.cell 1;have z2:=hR.cell 2;have z3:=hR.cell 3;have z4:=hR.cell 4;have z5:=hR.cell 5;have y0:=cN.cell 0;have y1:=cN.cell 1;have c2:=cN.cell 2;have y3:=cN.cell 3;have o4:=cN.cell 4;have o5:=cN.cell 5;have rf:=cN.frozen;unfold cK at x0 x1 z2 z3 z4 z5;simp only[Uaa] at z0 z1 x2 x3 x5 x6 x0 x1 z2 z3 z4 z5 y0 y1 c2 y3 o4 o5;cases b1:(x.op==1)
  ·cases Nm:(x.op==2)
   ·have n1:¬x.op=1:=by simpa using b1
    have n2:¬x.op=2:=by simpa using Nm
    cases q1:jK x.op
    ·clear KL;exact Zbc
    ·have ha:=KL q1;clear KL;cases b4:((x.n:Int)==a)
     ·have n4:¬(x.n:Int)=qJ x.op:=by rw[<- ha];simpa using b4
      clear ha;exact Zbc
     ·have n4:(x.n:Int)=qJ x.op:=by rw[<- ha];simpa using b4
      have N4:=aa n4;clear ha n4;cases b5:(x.op != 20)
      ·have n5:x.op=20:=by simpa using b5
       have N5:=aa n5;clear n5;have kw:=Un x.width;cases b6:(decide (1<=x.width)&& decide (x.width<=1099511627776))
       ·rw[b6] at kw;have K1:=aa kw;clear kw;go_wp2_with fail;refine(K1.ae _).mono ?_;rintro e w1 ⟨rfl,rfl⟩;have n6:¬(1<=x.width/\x.width<=1099511627776):=by simpa using b6
        clear b6;go_wp2_with fail;refine(fW x.op _).mono ?_;rintro e w9 ⟨rfl,rfl⟩;by_cases hn:(x.n:Int)=nD x.op
        ·have t1:((x.n:Int)==nD x.op)=true:=by simpa using hn
         have pV:=aa (show bH x=42 by have Kx:=N4.ae;have KK:=N5.ae;simp only[bH];rw[if_neg Tal,if_neg Tal,if_pos hn]);exact Zbt
        ·have t1:((x.n:Int)==nD x.op)=false:=by simpa using hn
         have pV:=aa (show bH x=21 by have Kx:=N4.ae;have KK:=N5.ae;simp only[bH];rw[if_neg Tal,if_neg Tal,if_neg hn]);exact Zbu
       ·rw[b6] at kw;have K1:=aa kw;clear kw;have n6:1<=x.width/\x.width<=1099511627776:=by simpa using b6
        clear b6;go_wp2_with fail;refine(K1.ae _).mono ?_;rintro e w1 ⟨rfl,rfl⟩;have pV:=aa (show bH x=0 by have Kx:=N4.ae;have KK:=N5.ae;simp only[bH];rw[if_neg Tal,if_pos Tal]);exact ZbQ
      ·have n5:¬x.op=20:=by simpa using b5
       have pV:=aa (show bH x=0 by have Kx:=N4.ae;simp only[bH];rw[if_neg Tal,if_pos Tal]);exact ZbQ
   ·have p2:x.op=2:=by simpa using Nm
    have q1:jK x.op=false:=by rw[p2];rfl
    rw[q1];have P2:=aa p2;clear KL p2;cases b2:((x.n:Int)==0)
    ·have n2:¬x.n=0:=by simpa using b2
     go_wp2_with fail;refine(fW x.op _).mono ?_;rintro e w9 ⟨rfl,rfl⟩;by_cases hn:(x.n:Int)=nD x.op
     ·have t1:((x.n:Int)==nD x.op)=true:=by simpa using hn
      have pV:=aa (show bH x=42 by have Kx:=P2.ae;simp only[bH];rw[if_neg Tal,if_neg Tal,if_pos hn]);exact Zbt
     ·have t1:((x.n:Int)==nD x.op)=false:=by simpa using hn
      have pV:=aa (show bH x=21 by have Kx:=P2.ae;simp only[bH];rw[if_neg Tal,if_neg Tal,if_neg hn]);exact Zbu
    ·have n2:x.n=0:=by simpa using b2
     have N2:=aa n2;clear n2;have pV:=aa (show bH x=0 by have Kx:=P2.ae;have KK:=N2.ae;simp only[bH];rw[if_pos Tal]);exact ZbQ
  ·have p1:x.op=1:=by simpa using b1
   have q1:jK x.op=false:=by rw[p1];rfl
   have Nm:(x.op==2)=false:=by rw[p1];rfl
   rw[q1];have P1:=aa p1;clear KL p1;cases b2:((x.n:Int)==0)
   ·have n2:¬x.n=0:=by simpa using b2
    go_wp2_with fail;refine(fW x.op _).mono ?_;rintro e w9 ⟨rfl,rfl⟩;by_cases hn:(x.n:Int)=nD x.op
    ·have t1:((x.n:Int)==nD x.op)=true:=by simpa using hn
     have pV:=aa (show bH x=42 by have Kx:=P1.ae;simp only[bH];rw[if_neg Tal,if_neg Tal,if_pos hn]);exact Zbt
    ·have t1:((x.n:Int)==nD x.op)=false:=by simpa using hn
     have pV:=aa (show bH x=21 by have Kx:=P1.ae;simp only[bH];rw[if_neg Tal,if_neg Tal,if_neg hn]);exact Zbu
   ·have n2:x.n=0:=by simpa using b2
    have N2:=aa n2;clear n2;have NY:=vq x.v;cases bg:good x.v
    ·open zcI in exact Za9
    ·open zcJ in exact Za9
theorem rY (t:Int)(w:rQ):ar 73 #[ag t] w λ e w'=>e=.returned (.bool (t==0))/\w=w':=by go_enter Tryz.func73,Tryz.ntmps73;exact Zfo
def iX (a b:Int):Int:=if a=0 then 0 else if b=0 then 1 else -1
theorem zek.KaW(h:p:=by refine(K2.ae _).mono ?_;rintro e w1 ⟨rfl,rfl⟩;exact Zfn):p:=h
theorem zel.KaW(h:p:=by refine(K2.ae _).mono ?_;exact Zhm):p:=h
theorem tJ (g c:Nat)(a b:Int)(w:rQ)(h0:w.cell? ⟨g,0,none⟩=some (ag a))(h1:w.cell? ⟨g,1,none⟩=some (ag b)):
  ar 107 #[aL g 2 c,.func (.func 73) #[] #[]] w λ e w'=>e=.returned (af (iX a b))/\w=w':=by
 unfold iX;cases ha:(a==0)
 ·have ha':¬a=0:=by simpa using ha
  rw[if_neg ha'];cases hb:(b==0)
  ·have hb':¬b=0:=by simpa using hb
   rw[if_neg hb'];have k1:=rY a;have k2:=rY b;rw[ha] at k1;rw[hb] at k2;have K1:=aa k1;have K2:=aa k2;clear k1 k2 ha' hb';go_enter Tryz.func107,Tryz.ntmps107;open zek in exact Zci
  ·have hb':b=0:=by simpa using hb
   rw[if_pos hb'];have k1:=rY a;have k2:=rY b;rw[ha] at k1;rw[hb] at k2;have K1:=aa k1;have K2:=aa k2;clear k1 k2 ha' hb';go_enter Tryz.func107,Tryz.ntmps107;open zel in exact Zci
 ·have ha':a=0:=by simpa using ha
  rw[if_pos ha'];have k1:=rY a;rw[ha] at k1;have K1:=aa k1;clear k1 ha';go_enter Tryz.func107,Tryz.ntmps107;go_wp2_with fail;refine wp_loop_rounds 3 ?_;rw[rounds_succ];go_wp2_with fail;refine(K1.ae _).mono ?_;exact Zhm
theorem abL (w:rQ):(zeroValue 5).run Tryz.prog w=.ok (ag 0) w:=by exact ZgH
theorem rZ (w:rQ)(g o n c:Nat)(cs:x_)(h:aB w g 5 cs)(hn:0 < n)(hs:o+n<=cs.size):
  (Builtin.clear_ #[97] 0 #[.slice (some ⟨g,o,none⟩) n c]).run Tryz.prog w=.ok (.tuple #[]) (w.setCells g o (List.replicate n (ag 0))):=
 Go.Lib.run_clear_slice w 97 5 0 (ag 0) Tryz.underlying97 abL rfl rfl g o n c hn (λ j hj=>by rw[h.cell,Array.getElem?_eq_getElem TD];rfl) (λ j hj=>h.frozen _)
variable{B:Nat}
theorem gI(g:Nat)(hg:B<=g):∀(vs:wL) (o:Nat) (w:rQ),Below B w0 w->Below B w0 (w.setCells g o vs)
 | [],o,w,h=>h
 | v::vs,o,w,h=>by rw[World.setCells];exact gI g hg vs (o+1) _ (h.setCell (p:=⟨g,o,none⟩) hg v)
def abM (g c:Nat)(w:rQ)(e:Ending)(w':rQ):Prop:=∃n,n<=1/\e=.returned (aL g n c)/\Below g w w'
theorem zem.KaW(h:p:=by go_ret;exact⟨1,Nat.le_refl _,rfl,hB⟩):p:=h
theorem zen.KaW(h:p:=by go_ret;exact⟨0,by omega,rfl,hB⟩):p:=h
theorem OE (g c:Nat)(a b:Int)(cs:x_)(w:rQ)(h:aB w g 5 cs)(hsz:2<=cs.size)(h0:cs[0]?=some (ag a))(h1:cs[1]?=some (ag b))(hc:2<=c)(hab:a=0\/b=0):
  ar 71 #[aL g 2 c,.func (.func 73) #[] #[]] w (abM g c w):=by
 have c0:=(h.cell 0).trans h0;have c1:=(h.cell 1).trans h1;have fz:=h.frozen;have ki:=tJ g c a b w c0 c1;have k2:=rY b;cases ha:(a==0)
 ·have ha':¬a=0:=by simpa using ha
  have hb':b=0:=by omega
  have e0:iX a b=1:=by simp[iX,ha',hb']
  rw[e0] at ki;have KI:=aa ki;have cL:=rZ w g 1 1 (c - 1) cs h TD TD;have hB:=gI g (Nat.le_refl g) (List.replicate 1 (ag 0)) 1 w (Below.refl g w);clear ki k2 e0 ha' hb' hab;generalize w.setCells g 1 (List.replicate 1 (ag 0))=W at*;go_enter Tryz.func71,Tryz.ntmps71;go_wp2_with fail;refine KI.ae.mono ?_;rintro e w1 ⟨rfl,rfl⟩;go_wp2_with fail;refine wp_loop_rounds 3 ?_;rw[rounds_succ];go_wp2_with fail;go_ret;exact⟨1,Nat.le_refl _,rfl,hB⟩
 ·have ha':a=0:=by simpa using ha
  have e0:iX a b=0:=by simp[iX,ha']
  rw[e0] at ki;have KI:=aa ki;clear ki e0 ha' hab;cases hb:(b==0)
  ·rw[hb] at k2;have K1:=aa k2;clear k2;have hs:=h.aT 0 (ag b);have cL:=rZ (w.setCell ⟨g,0,none⟩ (ag b)) g 1 1 (c - 1) _ hs TD Tab;have hB:=gI g (Nat.le_refl g) (List.replicate 1 (ag 0)) 1 _ ((Below.refl g w).setCell (p:=⟨g,0,none⟩) (Nat.le_refl g) (ag b));generalize (w.setCell ⟨g,0,none⟩ (ag b)).setCells g 1 (List.replicate 1 (ag 0))=W at*;go_enter Tryz.func71,Tryz.ntmps71;go_wp2_with fail;refine KI.ae.mono ?_;rintro e w1 ⟨rfl,rfl⟩;open zem in exact Zci
  ·rw[hb] at k2;have K1:=aa k2;clear k2;have cL:=rZ w g 0 2 c cs h TD TD;have hB:=gI g (Nat.le_refl g) (List.replicate 2 (ag 0)) 0 w (Below.refl g w);generalize w.setCells g 0 (List.replicate 2 (ag 0))=W at*;go_enter Tryz.func71,Tryz.ntmps71;go_wp2_with fail;refine KI.ae.mono ?_;rintro e w1 ⟨rfl,rfl⟩;open zen in exact Zci
theorem KM (g c:Nat)(a b:Int)(w:rQ)(c0:w.cell? ⟨g,0,none⟩=some (ag a))(c1:w.cell? ⟨g,1,none⟩=some (ag b))(ha:a≠0)(hb:b≠0):
  ar 71 #[aL g 2 c,.func (.func 73) #[] #[]] w λ e w'=>e=.returned (aL g 2 c)/\w=w':=by
 have ki:=tJ g c a b w c0 c1;have e0:iX a b= -1:=by simp[iX,ha,hb]
 rw[e0] at ki;have KI:=aa ki;clear ki e0;go_enter Tryz.func71,Tryz.ntmps71;go_wp2_with fail;refine KI.ae.mono ?_;exact Zhm
theorem Em (g c n:Nat)(hn:n<=1)(w:rQ):ar 74 #[aL g n c] w λ e w'=>e=.returned (aL g n c)/\w=w':=by
 have d1:decide ((n:Int)< 2)=true:=by simp;omega
 go_enter Tryz.func74,Tryz.ntmps74;exact Zc0
theorem zdq.KaI(h:p:=by clear fI y2 cV cQ;go_wp2_with fail;rw[rounds_succ];go_wp2_with fail;go_ret;exact⟨rfl,hL.mono (Nat.le_of_lt h.lt)⟩):p:=h
theorem zdr.KaI(h:p:=by clear fI y2 cV cQ;have h2:=h.later hL;have cL:=rZ w3 g 1 1 (c - 1) cs h2 TD TD;have hB:=gI g (Nat.le_refl g) (List.replicate 1 (ag 0)) 1 w3 (hL.mono (Nat.le_of_lt h.lt));generalize w3.setCells g 1 (List.replicate 1 (ag 0))=W3 at*;go_wp2_with fail;refine wp_loop_rounds 3 ?_;rw[rounds_succ];go_wp2_with fail;go_ret;exact⟨rfl,hB⟩):p:=h
theorem zgD.KbO(h:p:=by simp only[Uab];open zdq in exact ZbD):p:=h
theorem zgE.KbO(h:p:=by simp only[Uab];open zdr in exact ZbD):p:=h
theorem KN (g c:Nat)(a b:Int)(cs:x_)(w:rQ)(h:aB w g 5 cs)(hsz:2<=cs.size)(h0:cs[0]?=some (ag a))(h1:cs[1]?=some (ag b))(hc:2<=c):
  ar 74 #[aL g 2 c] w λ e w'=>e=.returned (aL g (if a=b then 1 else 2) c)/\Below g w w':=by
 have cV:=λ y:Ext w.heap.size w=>((h.later y.h).cell 0).trans h0
 have cQ:=λ y:Ext w.heap.size w=>((h.later y.h).cell 1).trans h1
 cases hab:(b==a)
 ·have OG:¬a=b:=λ e=>by simp[e] at hab
  rw[if_neg OG];open zgD in exact ZeE
 ·have OG:a=b:=by have:=hab;simp at this;exact this.symm
  rw[if_pos OG];open zgE in exact ZeE
theorem oK:(Tryz.prog.info? 5).map (λ i=>(i.zero,i.size,i.bytes))=some (some (ag 0),1,1):=by exact ZgH
def Uz (a b:Int)(w:rQ)(e:Ending)(w':rQ):Prop:=∃g c cs,e=.returned (aL g 2 c)/\w.heap.size<=g/\aB w' g 5 cs/\cs[0]?=some (ag a)/\cs[1]?=some (ag b)/\2<=cs.size/\2<=c/\aj w w'
theorem UC (p off c:Nat)(a b:Int)(w:rQ)(hp:p < w.heap.size)(h0:w.cell? ⟨p,off,none⟩=some (ag a))(h1:w.cell? ⟨p,off+1,none⟩=some (ag b)):
  ar 72 #[.slice (some ⟨p,off,none⟩) 2 c] w (Uz a b w):=by
 obtain⟨i0,kL,hz0,hz1,hz2⟩:=info_parts oK;have hB:=ah w (.cells #[] 5);have hown:(w.alloc (.cells #[] 5)).ownsRow w.heap.size 5 1 (aL w.heap.size 0 0) 0 []:=⟨by simp,.inr ⟨w.heap.size,0,#[],rfl,Nat.le_refl _,heap_alloc_new w _,Nat.le_refl _,by unfold maxLen;omega,rfl,rfl⟩⟩
 have XP:Reads (w.alloc (.cells #[] 5)) w.heap.size 1 (some ⟨p,off,none⟩) 2 [ag a,ag b]:=by
  refine⟨rfl,λ _=>⟨_,rfl,hp,λ j u hu=>?_⟩⟩
  match j,hu with
  | 0,hu=>simp at hu;subst hu;exact(hB.cell (p:=⟨p,off,none⟩) hp).trans h0
  | 1,hu=>simp at hu;subst hu;exact(hB.cell (p:=⟨p,off+1,none⟩) hp).trans h1
  |(n+2),hu=>simp at hu
 have HW:=aa hown;have HR:=aa XP;clear hown XP;have hnil:(binOp .eql 97 (.slice (some ⟨p,off,none⟩) 2 c) (ay)).run Tryz.prog w=.ok (.bool false) w:=Go.Lib.run_eql_slice_nil w 97 5 (some ⟨p,off,none⟩) 2 c 0 0 Tryz.underlying97;go_enter Tryz.func72,Tryz.ntmps72;go_wp2_with (first
  |(at_builtin
    refine cP _ rfl (.tmp 5) (.tmp 6) 97 rfl w.heap.size 5 i0 (ag 0) 1 1 Tryz.underlying97 kL hz0 hz1 hz2 rfl TD (aL w.heap.size 0 0) 0 [] rfl HW.ae w.heap.size (some ⟨p,off,none⟩) 2 c [ag a,ag b] rfl HR.ae (by simp[Value.oneCell']) Tak TD Taa ?_
    intro v2 w2 o2 g2 _
    have O2:=aa o2
    have G2:=aa g2
    clear o2 g2 HW HR))
 go_ret;rcases O2.ae.2 with ⟨_,hz⟩|⟨g,cap,cur,rfl,hb,hg,hn,hm,hs,ht⟩
 ·omega
 ·refine⟨g,cap,cur,rfl,hb,hg,?_,?_,by omega,hn,?_⟩
  ·have:=congrArg (λ l=>l[0]?) ht;simp at this;exact ZeR
  ·have:=congrArg (λ l=>l[1]?) ht;simp at this;exact ZeR
  ·refine hB.trans ⟨G2.ae.os,G2.ae.tape,G2.ae.output,G2.ae.size,λ k hk=>G2.ae.block k Tab λ e=>?_⟩;simp[Value.ownBlock] at e;omega
def cf (a b:Int):Bool:=a==0 || b==0 || a==b
theorem qL (p off c:Nat)(a b:Int)(w:rQ)(hp:p < w.heap.size)(h0:w.cell? ⟨p,off,none⟩=some (ag a))(h1:w.cell? ⟨p,off+1,none⟩=some (ag b)):
  ar 41 #[.slice (some ⟨p,off,none⟩) 2 c] w λ e w'=>e=.returned (.bool (cf a b))/\aj w w':=by
 go_enter Tryz.func41,Tryz.ntmps41;go_wp2_with fail;refine(UC p off c a b _ hp h0 h1).mono ?_;rintro e w1 ⟨g,c1,cs,rfl,hg,hb,e0,e1,hs,hc1,b1⟩;clear h0 h1;by_cases hz:a=0\/b=0
 ·go_wp2_with fail;refine(OE g c1 a b cs _ hb hs e0 e1 hc1 hz).mono ?_;rintro e w2 ⟨n,hn,rfl,b2⟩;go_wp2_with fail;refine(Em g c1 n hn _).mono ?_;rintro e w3 ⟨rfl,rfl⟩;have d1:decide ((n:Int)<=1)=true:=by simp;omega
  have HG:=aa (show cf a b=true by rcases hz with rfl | rfl <;> simp[cf]);clear hz;go_wp2_with fail;go_ret;exact⟨by rw[HG.ae];rfl,b1.trans (b2.mono hg)⟩
 ·have ha:a≠0:=λ e=>hz (.inl e)
  have hb0:b≠0:=λ e=>hz (.inr e)
  have c0':=(hb.cell 0).trans e0;have c1':=(hb.cell 1).trans e1;go_wp2_with fail;refine(KM g c1 a b _ c0' c1' ha hb0).mono ?_;rintro e w2 ⟨rfl,rfl⟩;clear c0' c1';go_wp2_with fail;refine(KN g c1 a b cs _ hb hs e0 e1 hc1).mono ?_;rintro e w3 ⟨rfl,b3⟩;have HG:=aa (show cf a b=decide (a=b) by rw[Bool.eq_iff_iff];simp[cf,ha,hb0]);by_cases hab:a=b
  ·have HA:=aa hab;rw[if_pos hab];clear hab;go_wp2_with fail;go_ret;exact⟨by rw[HG.ae,decide_eq_true HA.ae];rfl,b1.trans (b3.mono hg)⟩
  ·have HA:=aa hab;rw[if_neg hab];clear hab;go_wp2_with fail;go_ret;exact⟨by rw[HG.ae,decide_eq_false HA.ae];rfl,b1.trans (b3.mono hg)⟩
theorem zf9.KbD(h:p:=by go_wp2_with fail;rw[rounds_succ];go_wp2_with fail;go_ret;exact⟨by rw[hg1];rfl,hB⟩):p:=h
theorem zfk.Kbk(h:p:=by clear x1 x3 c0 gN bN b2 hW2;open zf9 in exact Zef):p:=h
theorem Fc (a wa gi:Int)(nu:Bool)(d:Value)(hd:d.oneCell'=true)(p off c:Nat)(k:Int)(w:rQ)(hp:p < w.heap.size)(h0:w.cell? ⟨p,off,none⟩=some (ag k)):
  ar 45 #[.agg #[af a,ag wa,ag gi,.bool false,.bool nu,d],.slice (some ⟨p,off,none⟩) 1 c] w λ e w'=>e=.returned (.bool (cf k wa))/\aj w w':=by have hB:=ah w (.cells #[af a,ag wa,ag gi,.bool false,.bool nu,d] 100);have hO:=aB.new w 100 #[af a,ag wa,ag gi,.bool false,.bool nu,d];have x1:=hO.cell 1;have x3:=hO.cell 3;simp only[Uaa] at x1 x3;have c0:=(hB.cell (p:=⟨p,off,none⟩) hp).trans h0;go_enter Tryz.func45,Tryz.ntmps45;go_wp2_with fail;generalize w.alloc (.cells #[af a,ag wa,ag gi,.bool false,.bool nu,d] 100)=W at*;refine wp_loop_rounds 2 ?_;open zfk in exact Zdu
theorem zga.KbD(h:p:=by
 have c1:=(hB.cell (p:=⟨p,off+1,none⟩) hp).trans h1;go_wp2_with fail;rw[rounds_succ];go_wp2_with fail;have gN:=aB.new W2 5 #[ag j,ag wa];have bN:=ah W2 (.cells #[ag j,ag wa] 5);refine(qL W2.heap.size 0 2 j wa _ Taa (gN.cell 0) (gN.cell 1)).mono ?_;rintro e W3 ⟨rfl,b2⟩;have hW3:=ai.then bN b2;replace hB:=ai.then hB hW3;replace hO:=hO.later hW3;clear x1 x3 c0 c1 gN bN b2 hW3;cases hg2:cf j wa
 ·go_wp2_with fail;go_ret;exact⟨by rw[hg1,hg2];rfl,hB⟩
 have x1:=hO.cell 1;have x3:=hO.cell 3;simp only[Uaa] at x1 x3;have c0:=(hB.cell (p:=⟨p,off,none⟩) hp).trans h0;have c1:=(hB.cell (p:=⟨p,off+1,none⟩) hp).trans h1;go_wp2_with fail;rw[rounds_succ];cases al
 ·go_wp2_with fail;go_ret;exact⟨by rw[hg1,hg2];rfl,hB⟩
 ·go_wp2_with fail;refine(qL p off c k j _ (Nat.lt_of_lt_of_le hp hB.size) c0 c1).mono ?_;rintro e w9 ⟨rfl,b9⟩;go_wp2_with fail;go_ret;exact⟨by rw[hg1,hg2];rfl,ai.then hB b9⟩):p:=h
theorem zfl.Kbk(h:p:=by clear x1 x3 c0 c1 gN bN b2 hW2;open zga in exact Zef):p:=h
theorem Fe (a wa gi:Int)(al nu:Bool)(d:Value)(hd:d.oneCell'=true)(p off c:Nat)(k j:Int)(w:rQ)(hp:p < w.heap.size)(h0:w.cell? ⟨p,off,none⟩=some (ag k))(h1:w.cell? ⟨p,off+1,none⟩=some (ag j)):
  ar 45 #[.agg #[af a,ag wa,ag gi,.bool al,.bool nu,d],.slice (some ⟨p,off,none⟩) 2 c] w λ e w'=>e=.returned (.bool (cf k wa &&(cf j wa &&(!al || cf k j))))/\aj w w':=by have hB:=ah w (.cells #[af a,ag wa,ag gi,.bool al,.bool nu,d] 100);have hO:=aB.new w 100 #[af a,ag wa,ag gi,.bool al,.bool nu,d];have x1:=hO.cell 1;have x3:=hO.cell 3;simp only[Uaa] at x1 x3;have c0:=(hB.cell (p:=⟨p,off,none⟩) hp).trans h0;have c1:=(hB.cell (p:=⟨p,off+1,none⟩) hp).trans h1;go_enter Tryz.func45,Tryz.ntmps45;go_wp2_with fail;generalize w.alloc (.cells #[af a,ag wa,ag gi,.bool al,.bool nu,d] 100)=W at*;refine wp_loop_rounds 3 ?_;open zfl in exact Zdu
theorem En (p off c:Nat)(k:Int)(w:rQ)(h0:w.cell? ⟨p,off,none⟩=some (ag k)):
  ar 80 #[.slice (some ⟨p,off,none⟩) 1 c,ag 0] w λ e w'=>e=.returned (af (if k=0 then 0 else -1))/\w=w':=by
 by_cases hk:k=0
 ·subst hk;go_enter Tryz.func80,Tryz.ntmps80;go_wp2_with fail;refine wp_loop_rounds 2 ?_;rw[rounds_succ];exact Zc0
 ·have hk2:((0:Int)==k)=false:=by rw[beq_eq_false_iff_ne];omega
  rw[if_neg hk];clear hk;go_enter Tryz.func80,Tryz.ntmps80;go_wp2_with fail;refine wp_loop_rounds 2 ?_;rw[rounds_succ];exact Zfn
theorem Eo (p off c:Nat)(k j:Int)(w:rQ)(h0:w.cell? ⟨p,off,none⟩=some (ag k))(h1:w.cell? ⟨p,off+1,none⟩=some (ag j)):
  ar 80 #[.slice (some ⟨p,off,none⟩) 2 c,ag 0] w λ e w'=>e=.returned (af (if k=0 then 0 else if j=0 then 1 else -1))/\w=w':=by
 by_cases hk:k=0
 ·subst hk;go_enter Tryz.func80,Tryz.ntmps80;go_wp2_with fail;refine wp_loop_rounds 3 ?_;rw[rounds_succ];exact Zc0
 ·have hk2:((0:Int)==k)=false:=by rw[beq_eq_false_iff_ne];omega
  rw[if_neg hk];clear hk;by_cases hj:j=0
  ·subst hj;go_enter Tryz.func80,Tryz.ntmps80;go_wp2_with fail;refine wp_loop_rounds 3 ?_;rw[rounds_succ];exact Zfn
  ·have hj2:((0:Int)==j)=false:=by rw[beq_eq_false_iff_ne];omega
   rw[if_neg hj];clear hj;go_enter Tryz.func80,Tryz.ntmps80;go_wp2_with fail;refine wp_loop_rounds 3 ?_;rw[rounds_succ];go_wp2_with fail;rw[rounds_succ];exact Zfn
theorem KO (p off c:Nat)(k:Int)(w:rQ)(h0:w.cell? ⟨p,off,none⟩=some (ag k)):
  ar 46 #[.slice (some ⟨p,off,none⟩) 1 c,ag 0] w λ e w'=>e=.returned (.bool (k==0))/\w=w':=by
 have K:=aa (En p off c k w h0);go_enter Tryz.func46,Tryz.ntmps46;go_wp2_with fail;refine K.ae.mono ?_;rintro e w1 ⟨rfl,rfl⟩;by_cases hk:k=0
 ·subst hk;exact Zc0
 ·have hk2:(k==0)=false:=by simpa using hk
  rw[if_neg hk];go_wp2_with fail;go_ret;exact⟨by rw[hk2];rfl,rfl⟩
theorem KP (p off c:Nat)(k j:Int)(w:rQ)(h0:w.cell? ⟨p,off,none⟩=some (ag k))(h1:w.cell? ⟨p,off+1,none⟩=some (ag j)):
  ar 46 #[.slice (some ⟨p,off,none⟩) 2 c,ag 0] w λ e w'=>e=.returned (.bool (k==0 || j==0))/\w=w':=by
 have K:=aa (Eo p off c k j w h0 h1);go_enter Tryz.func46,Tryz.ntmps46;go_wp2_with fail;refine K.ae.mono ?_;rintro e w1 ⟨rfl,rfl⟩;by_cases hk:k=0
 ·subst hk;exact Zc0
 ·have hk2:(k==0)=false:=by simpa using hk
  rw[if_neg hk];by_cases hj:j=0
  ·subst hj;go_wp2_with fail;go_ret;exact⟨by rw[hk2];rfl,rfl⟩
  ·have hj2:(j==0)=false:=by simpa using hj
   rw[if_neg hj];go_wp2_with fail;go_ret;exact⟨by rw[hk2,hj2];rfl,rfl⟩
def Hy (k:Nat)(wd:Int)(l:v_):Val×Int:=
 match k,l with
 | 3,[a]=>YA a.n
 | 4,[a]=>(bE (a.n==0),0)
 | 5,[a,b]=>zK a.n b.n
 | 6,[a,b]=>zL a.n b.n
 | 7,[a,b]=>zM a.n b.n
 | 8,[a,b]=>zN a.n b.n
 | 9,[a,b]=>zO a.n b.n
 | 10,[a,b]=>(bE (decide (bM a b=0)),0)
 | 11,[a,b]=>(bE (!decide (bM a b=0)),0)
 | 12,[a,b]=>(bE (decide (bM a b < 0)),0)
 | 13,[a,b]=>(bE (decide (bM a b<=0)),0)
 | 14,[a,b]=>(bE (decide (0 < bM a b)),0)
 | 15,[a,b]=>(bE (decide (0<=bM a b)),0)
 | 16,l=>(lS false l,0)
 | 17,l=>(lS true l,0)
 | 18,[a]=>(bE ((a.k==0)==true),0)
 | 19,[a]=>(bE ((a.k==0)==false),0)
 | 20,[a]=>vu a.n wd
 | _,_=>(aC,0)
def atN (w:rQ)(d:Value)(x:Ex)(l:v_)(r:Val×Int):Prop:=∃f KQ,d=.func (.func f) #[] KQ/\(KQ= #[]\/∃p,KQ= #[p])/\(∀(args:x_) (w:rQ),(callFunc f args).run Tryz.prog w=.ok (.enter f args) w)/\
 ∀(W:rQ) (A:z_) (c:Nat),aj w W->RV W W.heap.size A l->ar f (#[.agg (az x),.slice A l.length c]++KQ) W λ e w'=>e=.returned (bP r.1 r.2)/\aj W w'
theorem YI (args:x_)(w:rQ):(callFunc 108 args).run Tryz.prog w=.ok (.enter 108 args) w:=by exact ZgH
theorem YJ (args:x_)(w:rQ):(callFunc 110 args).run Tryz.prog w=.ok (.enter 110 args) w:=by exact ZgH
theorem YK (args:x_)(w:rQ):(callFunc 128 args).run Tryz.prog w=.ok (.enter 128 args) w:=by exact ZgH
theorem qM (args:x_)(w:rQ):(callFunc 167 args).run Tryz.prog w=.ok (.enter 167 args) w:=by exact ZgH
theorem nU (args:x_)(w:rQ):(callFunc 169 args).run Tryz.prog w=.ok (.enter 169 args) w:=by exact ZgH
theorem KR (args:x_)(w:rQ):(callFunc 170 args).run Tryz.prog w=.ok (.enter 170 args) w:=by exact ZgH
theorem KS (args:x_)(w:rQ):(callFunc 172 args).run Tryz.prog w=.ok (.enter 172 args) w:=by exact ZgH
variable{k:Nat}{a wa gi:Int}{al nu:Bool}{d:Value}
theorem zaI.Kad(h:p:=by obtain⟨u,rfl⟩:=one TD;exact⟨_,#[],rfl,.inl rfl,YI,λ W A c hb hr=>abx x A c u W hr⟩):p:=h
theorem zaJ.Kad(h:p:=by obtain⟨u,rfl⟩:=one TD;exact⟨_,#[],rfl,.inl rfl,YJ,λ W A c hb hr=>aby x A c u W hr⟩):p:=h
theorem zaK.Kad(h:p:=by obtain⟨u,v,rfl⟩:=two TD;exact⟨_,#[_],rfl,.inr ⟨_,rfl⟩,qM,λ W A c hb hr=>aho x A c q u v W hr (hq.later hb)⟩):p:=h
theorem zaL.Kad(h:p:=by obtain⟨u,v,rfl⟩:=two TD;exact⟨_,#[_],rfl,.inr ⟨_,rfl⟩,qM,λ W A c hb hr=>ahp x A c q u v W hr (hq.later hb)⟩):p:=h
theorem zaM.Kad(h:p:=by obtain⟨u,v,rfl⟩:=two TD;exact⟨_,#[_],rfl,.inr ⟨_,rfl⟩,qM,λ W A c hb hr=>YC x A c q u v W hr (hq.later hb)⟩):p:=h
theorem zaN.Kad(h:p:=by obtain⟨u,v,rfl⟩:=two TD;exact⟨_,#[_],rfl,.inr ⟨_,rfl⟩,qM,λ W A c hb hr=>ahq x A c q u v q2 W hr (hq.later hb) (lx.later hb)⟩):p:=h
theorem zaO.Kad(h:p:=by obtain⟨u,v,rfl⟩:=two TD;exact⟨_,#[_],rfl,.inr ⟨_,rfl⟩,qM,λ W A c hb hr=>ahr x A c q u v q2 W hr (hq.later hb) (lx.later hb)⟩):p:=h
theorem zaP.Kad(h:p:=by obtain⟨u,v,rfl⟩:=two TD;exact⟨_,#[_],rfl,.inr ⟨_,rfl⟩,nU,λ W A c hb hr=>alY x A c q u v W hr (hq.later hb)⟩):p:=h
theorem zaQ.Kad(h:p:=by obtain⟨u,v,rfl⟩:=two TD;exact⟨_,#[_],rfl,.inr ⟨_,rfl⟩,nU,λ W A c hb hr=>alZ x A c q u v W hr (hq.later hb)⟩):p:=h
theorem zaR.Kad(h:p:=by obtain⟨u,v,rfl⟩:=two TD;exact⟨_,#[_],rfl,.inr ⟨_,rfl⟩,nU,λ W A c hb hr=>ama x A c q u v W hr (hq.later hb)⟩):p:=h
theorem zaS.Kad(h:p:=by obtain⟨u,v,rfl⟩:=two TD;exact⟨_,#[_],rfl,.inr ⟨_,rfl⟩,nU,λ W A c hb hr=>amb x A c q u v W hr (hq.later hb)⟩):p:=h
theorem zaT.Kad(h:p:=by obtain⟨u,v,rfl⟩:=two TD;exact⟨_,#[_],rfl,.inr ⟨_,rfl⟩,nU,λ W A c hb hr=>amc x A c q u v W hr (hq.later hb)⟩):p:=h
theorem zaU.Kad(h:p:=by obtain⟨u,v,rfl⟩:=two TD;exact⟨_,#[_],rfl,.inr ⟨_,rfl⟩,nU,λ W A c hb hr=>amd x A c q u v W hr (hq.later hb)⟩):p:=h
theorem zaV.Kad(h:p:=by exact Zeo):p:=h
theorem zaW.Kad(h:p:=by exact Zeo):p:=h
theorem zaX.Kad(h:p:=by exact ZeU):p:=h
theorem zaY.Kad(h:p:=by exact ZeU):p:=h
theorem zaZ.Kad(h:p:=by obtain⟨u,rfl⟩:=one TD;exact⟨_,#[],rfl,.inl rfl,YK,λ W A c hb hr=>Uu x A c u W hr (hwd rfl).1 (hwd rfl).2 (aZ u Taa)⟩):p:=h
theorem gU.does(h:gU w k (.agg (cK a wa gi al nu d)))(x:Ex)(l:v_)(hl:(l.length:Int)=a)(aZ:∀v∈l,v.Ok)(hwd:k=20->1<=x.width/\x.width<=1099511627776):atN w d x l (Hy k x.width l):=by
 have two:a=2->∃u v,l=[u,v]:=λ e=>by
  match l,hl with
  | [u,v],_=>exact⟨u,v,rfl⟩
  | [],h=>simp at h;omega
  | [u],h=>simp at h;omega
  | u::v::z::r,h=>simp at h;omega
 have one:a=1->∃u,l=[u]:=λ e=>by
  match l,hl with
  | [u],_=>exact⟨u,rfl⟩
  | [],h=>simp at h;omega
  | u::v::r,h=>simp at h;omega
 unfold gU at h;split at h
 ·open zaI in exact Zao
 ·open zaJ in exact Zao
 ·obtain⟨q,h,hq⟩:=h;open zaK in exact Zao
 ·obtain⟨q,h,hq⟩:=h;open zaL in exact Zao
 ·obtain⟨q,h,hq⟩:=h;open zaM in exact Zao
 ·obtain⟨q,q2,h,hq,lx⟩:=h;open zaN in exact Zao
 ·obtain⟨q,q2,h,hq,lx⟩:=h;open zaO in exact Zao
 ·obtain⟨q,h,hq⟩:=h;open zaP in exact Zao
 ·obtain⟨q,h,hq⟩:=h;open zaQ in exact Zao
 ·obtain⟨q,h,hq⟩:=h;open zaR in exact Zao
 ·obtain⟨q,h,hq⟩:=h;open zaS in exact Zao
 ·obtain⟨q,h,hq⟩:=h;open zaT in exact Zao
 ·obtain⟨q,h,hq⟩:=h;open zaU in exact Zao
 ·obtain⟨q,h,hq⟩:=h;open zaV in exact Zao
 ·obtain⟨q,h,hq⟩:=h;open zaW in exact Zao
 ·obtain⟨q,h,hq⟩:=h;open zaX in exact Zao
 ·obtain⟨q,h,hq⟩:=h;open zaY in exact Zao
 ·open zaZ in exact Zao
 ·exact h.elim
section
variable {α:Type} {f:α->wL} {e:TypeId} {size:Nat} {base:Nat} {lv:Value} {l:List α} {y:α}
structure AR (f:α->wL) (e:TypeId) (size base:Nat) (lv:Value) (l:List α) (y:α) (a b:rQ):Prop where
 grown:a.grownBy b lv.ownBlock
 old:aH f e size a base lv l->aH f e size b base lv l
 new:∀u,aH f e size a base u (l++ [y])->aH f e size b base u (l++ [y])
theorem AR.refl (w:rQ):AR f e size base lv l y w w:=⟨⟨rfl,rfl,rfl,Nat.le_refl _,λ _ _ _=>rfl⟩,id,λ _=>id⟩
theorem AR.trans {a b c:rQ}(h:AR f e size base lv l y a b)(k:AR f e size base lv l y b c):AR f e size base lv l y a c:=
 ⟨h.grown.trans k.grown,λ o=>k.old (h.old o),λ u o=>k.new u (h.new u o)⟩
theorem AR.later {a b:rQ}(h:aj a b):AR f e size base lv l y a b:=
 ⟨⟨h.os,h.tape,h.output,h.size,λ k hk _=>h.block k hk⟩,λ o=>o.later h,λ u o=>o.later h⟩
theorem AR.drew (w:rQ):AR f e size base lv l y w w.drew:=AR.later (ai.drew w)
theorem fy {P:Program} {w:rQ}(t ty:TypeId)(z:Value)(bytes:Nat)(ht:P.underlying t=some (.slice e))(jB:(P.info? e).map (λ i=>(i.zero,i.size,i.bytes))=some (some z,size,bytes))(hzs:z.cells.size=size)(hsz:0 < size)
  (hf:∀x,(f x).length=size) (h1:∀u∈f y,u.oneCell'=true) (hown:aH f e size w base lv l)
  (g0:Nat) (hg0:aB w g0 e (f y).toArray) (hlen:(l.length+1)*bytes<=140737488355328) (mL:l.length+1<=140737488355328) (hbase:base<=w.heap.size):
  ∃v' w',(Builtin.append_ #[t,t] ty #[lv,aL g0 1 1]).run P w=.ok v' w'/\aH f e size w' base v' (l++ [y])/\AR f e size base lv l y w w':=by
 obtain⟨i0,kL,hz0,hz1,hz2⟩:=info_parts jB
 have hnews:∀j u,(f y)[j]?=some u->w.cell? ((⟨g0,0,none⟩:Addr).add j)=some u:=by
  intro j u hu;have:(Addr.add ⟨g0,0,none⟩ j)=⟨g0,j,none⟩:=by unfold Addr.add;split <;> simp_all
  rw[this,hg0.cell];simpa using hu
 have fJ:(f y).length=1*size:=by rw[hf];omega
 have conv:∀ {w':rQ} {v':Value},w'.ownsRow base e size v' (l.length+1) (l.flatMap f++f y)->aH f e size w' base v' (l++ [y]):=λ h=>by unfold aH;rw[length_append,flatMap_append];simpa using h
 by_cases hroom:∃g cap,lv=aL g l.length cap/\l.length+1<=cap
 ·obtain⟨g,cap,rfl,hr⟩:=hroom;obtain⟨w',hrun,ho,hg⟩:=run_append_fits (P:=P) w base t ty e i0 size ht kL hz1 g l.length cap (l.flatMap f) hown ⟨g0,0,none⟩ 1 1 (f y) fJ hnews h1 hr;refine⟨_,w',hrun,conv ho,hg,λ _=>?_,λ u hu=>?_⟩
  ·rcases ho.2 with ⟨h,_⟩|⟨g',cap',cur,h,hbg,ej,hn,hm,hs,ht'⟩
   ·cases h
   ·injection h with xw Ep h3';injection xw with xw;injection xw with xw _ _;subst xw h3';refine⟨hown.1,.inr ⟨g,cap,cur,rfl,hbg,ej,by omega,hm,hs,?_⟩⟩;have hx:=congrArg (List.take (l.length*size)) ht';rw[take_take,Nat.min_eq_left (Nat.mul_le_mul_right _ TD),take_append_of_le_length (Nat.le_of_eq hown.1.symm)] at hx;rw[hx];exact take_of_length_le (Nat.le_of_eq hown.1)
  ·by_cases hb:u.ownBlock=some g
   ·rcases hu.2 with ⟨rfl,_⟩|⟨g',cap',cur,rfl,hbg,ej,hn,hm,hs,ht'⟩
    ·simp[Value.ownBlock] at hb
    ·simp only[Value.ownBlock,Option.some.injEq] at hb;subst hb;rcases hown.2 with ⟨h,_⟩|⟨g2,ahw,aBF,h,_,UD,_,_,hs2,_⟩
     ·cases h
     ·injection h with xw Ep h3';injection xw with xw;injection xw with xw _ _;subst xw h3';rw[ej] at UD;injection UD with UD;injection UD with UD _ _;subst UD;have abN:cap'=cap:=Nat.eq_of_mul_eq_mul_right hsz (hs.symm.trans hs2);subst abN;have:=conv ho;rw[length_append];exact this
   ·exact hu.keep λ q hq=>hg.block q (hu.lt hq).1 λ e=>hb (by rw[hq];exact e)
 ·obtain⟨v',w',hrun,ho,hg,_,hat⟩:=run_append_own_at (P:=P) w base t ty e i0 z size bytes ht kL hz0 hz1 hz2 hzs hsz lv l.length (l.flatMap f) hown ⟨g0,0,none⟩ 1 1 (f y) fJ hnews h1 Tak hlen hbase
  have atO:aj w w':=by
   rcases hown.2 with ⟨rfl,h0⟩|⟨g,cap,cur,rfl,hbg,ej,hn,hm,hs,lT⟩
   ·have hr:=run_append_nil (P:=P) w t ty e i0 z ht kL hz0 ⟨g0,0,none⟩ 1 1 (f y) (by rw[hz1];exact fJ) hnews TD TD (by rw[hz2];have:1*bytes<=(l.length+1)*bytes:=Nat.mul_le_mul_right _ TD;omega);exact ZfW
   ·have hno:¬l.length+1<=cap:=λ h=>hroom ⟨g,cap,rfl,h⟩
    have holds:∀j u,(l.flatMap f)[j]?=some u->w.cell? ((⟨g,0,none⟩:Addr).add j)=some u:=World.ownsRow.cells hown (g:=g) rfl;have hr:=run_append_grow (P:=P) w t ty e i0 z ht kL hz0 ⟨g,0,none⟩ l.length cap (l.flatMap f) (by rw[hz1];exact hown.1) holds ⟨g0,0,none⟩ 1 1 (f y) (by rw[hz1];exact fJ) hnews TD TD (by rw[hz2];exact growslice_fits TD hlen);exact ZfW
  exact⟨v',w',hrun,conv ho,AR.later atO⟩
end
def aU (v:Val):wL:=[ag v.k,af v.n,.string v.s]
def dR (k:Int):wL:=[ag k]
theorem lU:(Tryz.prog.info? 44).map (λ i=>(i.zero,i.size,i.bytes))=some (some (.agg #[ag 0,af 0,au]),3,32):=by exact ZgH
theorem eB (b off n:Nat):Addr.add ⟨b,off,none⟩ n=⟨b,off+n,none⟩:=by
 unfold Addr.add;split
 ·rename_i h;subst h;rfl
 ·rfl
variable{α:Type}{f:α->wL}{size:Nat}
theorem Sr(hf:∀x,(f x).length=size):∀(l:List α) (i j:Nat) (x:α),l[i]?=some x->j < size->(l.flatMap f)[i*size+j]?=(f x)[j]?
 | [],i,j,x,h,hj=>by simp at h
 | y::l,0,j,x,h,hj=>by simp at h;subst h;simp only[flatMap_cons,Nat.zero_mul,Nat.zero_add];rw[getElem?_append_left (by rw[hf];exact hj)]
 | y::l,i+1,j,x,h,hj=>by have:=Sr hf l i j x Tai hj;simp only[flatMap_cons];rw[getElem?_append_right (by rw[hf,Nat.succ_mul];omega),hf,<- this];congr 1;rw[Nat.succ_mul];omega
variable{e:TypeId}{base:Nat}{v:Value}{l:List α}
theorem dT(hf:∀x,(f x).length=size)    (h:aH f e size w base v l):
  ∃A c,v=.slice A l.length c/\(l=[]\/∃g,A=some ⟨g,0,none⟩/\g < w.heap.size/\∀i x j u,l[i]?=some x->j < size->(f x)[j]?=some u->w.cell? ⟨g,i*size+j,none⟩=some u):=by
 obtain⟨A,c,rfl,hr,_,hA⟩:=h.reads;refine⟨A,c,rfl,?_⟩;rcases hA with rfl |⟨g,rfl,hg⟩
 ·exact .inl rfl
 ·rcases eq_nil_or_concat l with rfl | hne
  ·exact .inl rfl
  ·have UE:0 < l.length:=by obtain⟨_,_,rfl⟩:=hne;simp
   obtain⟨ad,e,hb,hc⟩:=hr.2 UE;injection e with e;subst e;refine .inr ⟨g,rfl,hb,λ i x j u hx hj hu=>?_⟩;have:=hc (i*size+j) u ((Sr hf l i j x hx hj).trans hu);rw[eB] at this;exact ZeR
theorem Hz{l:v_}(h:aH aU 44 3 w base v l):∃A c,v=.slice A l.length c/\RV w w.heap.size A l:=by
 obtain⟨A,c,rfl,hc⟩:=dT (f:=aU) (size:=3) (λ _=>rfl) h;refine⟨A,c,rfl,?_⟩;rcases hc with hc |⟨g,rfl,hg,hc⟩
 ·exact .inl hc
 ·refine .inr ⟨g,0,rfl,hg,λ i x hx=>?_⟩;have k:=λ j u hj hu=>hc i x j u hx hj hu
  exact⟨by simpa using k 0 _ TD rfl,by simpa using k 1 _ TD rfl,by simpa using k 2 _ TD rfl⟩
def tX (op:Int):Int:=if op=4\/op=16\/op=17 then 1 else if 10<=op/\op<=15\/op=18\/op=19 then 0 else 2
def tY (op:Int):Int:=if op=4\/10<=op/\op<=19 then 1 else 2
def tZ (op:Int):Bool:=decide (10<=op/\op<=15)
def Bl (op:Int):Bool:=decide (16<=op/\op<=19)
theorem gU.fields(h:gU w k (.agg (cK a wa gi al nu d))):wa=tX k/\gi=tY k/\al=tZ k/\nu=Bl k:=by
 unfold gU at h;split at h
 all_goals first
  | exact h.elim
  |(simp[fk,cK] at h;simp[tX,tY,tZ,Bl];simp_all)
  |(obtain⟨q,q2,h1,_⟩:=h;simp[fk,cK] at h1;simp[tX,tY,tZ,Bl];simp_all)
  |(obtain⟨q,h1,_⟩:=h;simp[fk,cK] at h1;simp[tX,tY,tZ,Bl];simp_all)
variable{x:Ex}
theorem Bn(h:bH x=0)(h2:x.op≠2)(h1:x.op≠1):jK x.op=true/\(x.n:Int)=qJ x.op/\(x.op=20->1<=x.width/\x.width<=1099511627776):=by
 unfold bH at h;rw[if_neg (by simp[h1,h2])] at h;split at h
 ·rename_i hc;refine⟨hc.1,hc.2.1,λ e=>?_⟩;rcases hc.2.2 with h3 | h3
  ·exact absurd e h3
  ·exact h3
 ·split at h <;> omega
variable{op:Int}{xv:Val}{width:Int}{A:z_}
theorem se{name:t_}     {c:Nat}(h:bH ⟨op,xv,name,width,A,l.length,c⟩=0)(h2:op=2):l=[]:=by
 subst h2;unfold bH at h;split at h
 ·rename_i hc;rcases hc with ⟨h3,_⟩|⟨_,h3⟩
  ·exact absurd h3 (show¬((2:Int)=1) by decide)
  ·exact eq_nil_of_length_eq_zero h3
 ·split at h
  ·rename_i hc;exact absurd hc.1 (show¬(jK 2=true) by decide)
  ·split at h <;> omega
def iq (op:Int):List Int->Bool
 | [k]=>cf k (tX op)
 | [k,j]=>cf k (tX op)&&(cf j (tX op)&&(!tZ op || cf k j))
 | _=>false
def iY (op width:Int)(vs:v_):Val×Int:=
 if iq op (vs.map (·.k))=false then(aC,40)else if Bl op=false/\(vs.map (·.k)).any (· ==0)=true then(aC,0)else Hy op.toNat width vs
def pQ (x:Ex)(vs:v_):Val×Int:=
 if bH x≠0 then(aC,bH x)else if x.op=1 then(x.v,0)else iY x.op x.width vs
def evV (base:Nat)(lv kv:Value)(vs:v_)(v:Val)(g:Nat):Nat->rQ->Value->Prop
 | 0=>λ _ u=>u=lv
 | 1=>λ _ u=>u=.agg (aJ v)
 | 2=>λ w u=>∃q,u=aL q 1 1/\aB w q 44 (aU v).toArray/\some q≠lv.ownBlock
 | 3=>λ w u=>aH aU 44 3 w base u (vs++ [v])
 | 4=>λ _ u=>u=kv
 | 5=>λ _ u=>u=aw g
 | 6=>λ _ u=>u=ag v.k
 | 7=>λ w u=>∃q,u=aL q 1 1/\aB w q 5 (dR v.k).toArray/\some q≠lv.ownBlock
 | _=>λ _ _=>True
theorem Ff (base:Nat)(lv kv:Value)(vs:v_)(v:Val)(g:Nat)(i:Nat)(w w':rQ)(u:Value)(h:evV base lv kv vs v g i w u)(hr:AR aU 44 3 base lv vs v w w'):evV base lv kv vs v g i w' u:=by
 unfold evV at*;split at h
 ·exact h
 ·exact h
 ·exact Zg4
 ·exact hr.new _ h
 ·exact h
 ·exact h
 ·exact h
 ·exact Zg4
 ·trivial
theorem amv(h:l.length=1):∃p,l=[p]:=by
 match l,h with
 | [p],_=>exact⟨p,rfl⟩
theorem amw(h:l.length=2):∃p q,l=[p,q]:=by
 match l,h with
 | [p,q],_=>exact⟨p,q,rfl⟩
variable{β:Type}{f':β->wL}{e':TypeId}{size' base':Nat}{u u':Value}{l':List β}{q:Nat}
theorem aH.differ(h:aH f e size w base u l)(h':aH f' e' size' w base' u' l')(ht:e≠e') (hq:u.ownBlock=some q):some q≠u'.ownBlock:=by intro hq';obtain⟨_,_,c1,h1⟩:=h.lt hq;obtain⟨_,_,c2,h2⟩:=h'.lt hq'.symm;exact ZgP
theorem aH.past(h:aH f e size w base u l)(h':aH f' e' size' w base' u' l')(hne:e≠e')(hg:w.grownBy w' u'.ownBlock):aH f e size w' base u l:=
 h.keep λ q hq=>hg.block q (h.lt hq).1 (h.differ h' hne hq)
def cg (w:rQ)(b off:Nat)(y:Ex):Prop:=
 w.cell? ⟨b,off,none⟩=some (ag y.op)/\w.cell? ⟨b,off+1,none⟩=some (ag y.v.k)/\w.cell? ⟨b,off+2,none⟩=some (af y.v.n)/\w.cell? ⟨b,off+3,none⟩=some (.string y.v.s)/\
 w.cell? ⟨b,off+4,none⟩=some (.string y.name)/\w.cell? ⟨b,off+5,none⟩=some (af y.width)/\w.cell? ⟨b,off+6,none⟩=some (.slice y.A y.n y.c)
variable{b off:Nat}
theorem cg.keep(h:cg w b off x)(hk:∀o,w'.cell? ⟨b,o,none⟩=w.cell? ⟨b,o,none⟩):cg w' b off x:=by unfold cg at*;simp only[hk];exact h
def RE (w:rQ)(B:Nat)(A:z_)(l:u_):Prop:=
 l=[]\/∃b off,A=some ⟨b,off,none⟩/\b < B/\∀i x,l[i]?=some x->cg w b (off+i*7) x
theorem RE.below{l:u_}(h:RE w B A l)(hb:Below B w w'):RE w' B A l:=by exact Zcp
variable{B':Nat}
theorem RE.more{l:u_}(h:RE w B A l)(hB:B<=B'):RE w B' A l:=by exact ZdI
theorem RE.at_{l:u_}(h:RE w B A l) (hk:k < l.length):∃b off,A=some ⟨b,off,none⟩/\b < B/\cg w b (off+k*7) l[k]:=by exact ZcS
def jM (w:rQ)(cV rV:Value)(y:Ex)(v:Val)(e:Int):Prop:=∀W,aj w W->ar 17 #[.agg (az y),cV,rV] W λ en w'=>en=.returned (bP v e)/\aj W w'
theorem zbY.Kaq(h:p:=by exact Zbo):p:=h
theorem zbZ.Kaq(h:p:=by exact Zbo):p:=h
theorem zb0.Kaq(h:p:=by exact Zbn):p:=h
theorem zb1.Kaq(h:p:=by exact Zbn):p:=h
theorem zew.Ka0(h:p:=by
 refine(KO g9 0 c9 v1.k _ UI).mono ?_;rintro e w4 ⟨rfl,rfl⟩;cases hz:(v1.k==0)
 ·have NO:=aa (NU.ae _ (show iY op width [v1]=Hy op.toNat width [v1] by unfold iY;simp only[map_cons,map_nil];rw[sY.ae,hs,if_neg Taa,if_neg Tal]));open zbY in exact ZaG
 ·exact Zcd):p:=h
theorem ze3.Kbc(h:p:=by
 replace vA:=Nat.lt_of_lt_of_le vA Lw.size;clear Lw;have sY:fw (iq op [v1.k]=cf v1.k wa):=by have MY:=HWA.ae;have NE:=Ax.ae;show iq _ _=_;simp only[iq,<- MY,<- NE]
 cases hs:cf v1.k wa
 ·exact ZaV
 ·cases YM:nu
  ·open zew in exact Zcn
  ·subst YM;have NO:=aa (NU.ae _ (show iY op width [v1]=Hy op.toNat width [v1] by unfold iY;simp only[map_cons,map_nil];rw[sY.ae,hs,if_neg Taa,if_neg (by have:=HGI.ae;simp[<- this])]));open zbZ in exact ZaG):p:=h
theorem zes.KaZ(h:p:=by have UI:=(tK.ae.cell (p:=⟨g9,0,none⟩) kQ).trans (tL 0 v1.k 0 _ rfl TD rfl);have vA:=Nat.lt_of_lt_of_le kQ tK.ae.size;clear tL tK;go_wp2_with fail;refine(Fc a wa gi nu d jL g9 0 c9 v1.k _ vA UI).mono ?_;open ze3 in exact ZcZ):p:=h
theorem zex.Ka0(h:p:=by
 refine(KP g9 0 c9 v1.k v2.k _ UI kc2).mono ?_;rintro e w4 ⟨rfl,rfl⟩;cases hz:(v1.k==0 || v2.k==0)
 ·have NO:=aa (NU.ae _ (show iY op width [v1,v2]=Hy op.toNat width [v1,v2] by unfold iY;simp only[map_cons,map_nil];rw[sY.ae,hs,if_neg Taa,if_neg Tal]));open zb0 in exact ZaG
 ·exact Zcd):p:=h
theorem ze4.Kbc(h:p:=by
 replace kc2:=(Lw.cell (p:=⟨g9,1,none⟩) vA).trans kc2;replace vA:=Nat.lt_of_lt_of_le vA Lw.size;clear Lw;have sY:fw (iq op [v1.k,v2.k]=(cf v1.k wa &&(cf v2.k wa &&(!al || cf v1.k v2.k)))):=by have MY:=HWA.ae;have NE:=Ax.ae;show iq _ _=_;simp only[iq,<- MY,<- NE]
 cases hs:(cf v1.k wa &&(cf v2.k wa &&(!al || cf v1.k v2.k)))
 ·exact ZaV
 ·cases YM:nu
  ·open zex in exact Zcn
  ·subst YM;have NO:=aa (NU.ae _ (show iY op width [v1,v2]=Hy op.toNat width [v1,v2] by unfold iY;simp only[map_cons,map_nil];rw[sY.ae,hs,if_neg Taa,if_neg (by have:=HGI.ae;simp[<- this])]));open zb1 in exact ZaG):p:=h
theorem zet.KaZ(h:p:=by have UI:=(tK.ae.cell (p:=⟨g9,0,none⟩) kQ).trans (tL 0 v1.k 0 _ rfl TD rfl);have kc2:=(tK.ae.cell (p:=⟨g9,1,none⟩) kQ).trans (tL 1 v2.k 0 _ rfl TD rfl);have vA:=Nat.lt_of_lt_of_le kQ tK.ae.size;clear tL tK;go_wp2_with fail;refine(Fe a wa gi al nu d jL g9 0 c9 v1.k v2.k _ vA UI kc2).mono ?_;open ze4 in exact ZcZ):p:=h
theorem zgR.KbU(h:p:=by
 have NU:fw (∀r,iY op width (args.map (·.2))=r->pQ ⟨op,xv,name,width,A,args.length,c⟩ (args.map (·.2))=r):=λ r hr=>by unfold pQ;rw[if_neg Ta6,if_neg H1.ae];exact hr
 clear hwa xy YM UH nE Ic ahx hOp HOI HWD hwd h1 mN oM;rcases ahz with ⟨hlen,rfl⟩| hlen
 ·obtain⟨⟨LE,v1⟩,rfl⟩:=amv hlen;open zes in exact Zcm
 ·obtain⟨⟨LE,v1⟩,⟨y2,v2⟩,rfl⟩:=amw hlen;open zet in exact Zcm):p:=h
theorem zdn.KaH(h:p:=by have UH:=hOp.args;rw[Ss] at Ie UH;obtain⟨hwa,Nm,xy,YM⟩:=Ie;clear Nm;have HWD:=aa hwd;have HD:=aa (hOp.does ⟨op,xv,name,width,A,args.length,c⟩ (args.map (·.2)) (by rw[length_map,UH];exact nE) (λ u hu=>by obtain⟨z,hz,rfl⟩:=List.mem_map.1 hu;exact atP.ae z hz) (λ e=>HWD.ae (by rw[<- Ss,e];rfl)));have HD0:=HD;have HDB:=aa (Below.refl _ _:Below (W3.alloc (.cells #[af a,ag wa,ag gi,.bool al,.bool nu,d] 100)).heap.size (W3.alloc (.cells #[af a,ag wa,ag gi,.bool al,.bool nu,d] 100)) (W3.alloc (.cells #[af a,ag wa,ag gi,.bool al,.bool nu,d] 100)));clear HD;open zgR in exact Ze6):p:=h
theorem zfm.Kbl(h:p:=by
 replace k1:=k1.later b2;replace cN:=cN.later b2;replace hB:=ai.then hB b2;replace Bq:=aa ((Bq.ae.below b2).more b2.size);have hR:=aB.new W3 100 #[af a,ag wa,ag gi,.bool al,.bool nu,d];have amy:=UG.later (ah W3 (.cells #[af a,ag wa,ag gi,.bool al,.bool nu,d] 100));have HOI:=aa amy;have tK:=aa b2;clear UG amy KK b2 hd;generalize b3:bH ⟨op,xv,name,width,A,args.length,c⟩=fe;have mN:=aa b3;clear b3;have z0:=k1.cell 0;have z1:=k1.cell 1;have x2:=k1.cell 2;have x3:=k1.cell 3;have x4:=k1.cell 4;have x5:=k1.cell 5;have x6:=k1.cell 6;have x0:=hR.cell 0;have x1:=hR.cell 1;have z2:=hR.cell 2;have z3:=hR.cell 3;have z4:=hR.cell 4;have z5:=hR.cell 5;simp only[Uaa] at z0 z1 x2 x3 x4 x5 x6 x0 x1 z2 z3 z4 z5;have dz:=aK cN;have iB:=aB.frozen cN;by_cases hf:fe=0
 ·subst hf;by_cases h1:op=1
  ·have HQ:=aa (show pQ ⟨op,xv,name,width,A,args.length,c⟩ (args.map (·.2))=(xv,0) by unfold pQ;rw[if_neg Ta6,if_pos h1]);have t1:(op==1)=true:=by simpa using h1
   clear h1;exact Zd6
  ·open zdn in exact ZbC
 ·have HQ:=aa (show pQ ⟨op,xv,name,width,A,args.length,c⟩ (args.map (·.2))=(aC,fe) by unfold pQ;rw[if_pos (by rw[mN.ae];exact hf),mN.ae]);have t1:(fe != 0)=true:=by simpa using hf
  clear hf;go_wp2_with fail;exact bodyPost_ret (v:=.tuple #[.agg #[ag 0,af 0,.string ByteArray.empty],af fe]) Tae rfl ⟨by rw[HQ.ae];rfl,((hB.setCell bJ _).setCell bJ _).setCell bJ _⟩):p:=h
theorem za6.Kag(h:p:=by have oM:fw (pQ ⟨op,xv,name,width,A,args.length,c⟩ (args.map (·.2))=pQ ⟨op,xv,name,width,A,args.length,c⟩ (args.map (·.2))):=rfl;go_wp2_with fail;refine(vz ⟨op,xv,name,width,A,args.length,c⟩ _).mono ?_;rintro e W3 ⟨oo,rfl,UG,KK⟩;clear z0 z1 x2 x3 x4 x5 x6;open zfm in exact Zdw):p:=h
theorem zfS.Kbx(h:p:=by
 have No:=aB.new (w.alloc (.cells #[ag op,ag xv.k,af xv.n,.string xv.s,.string name,af width,.slice A args.length c] 46)) 44 #[ag 0,af 0,au];rw[World.size_alloc] at No;have Kx:=ai.then (ah w (.cells #[ag op,ag xv.k,af xv.n,.string xv.s,.string name,af width,.slice A args.length c] 46)) (ah _ (.cells #[ag 0,af 0,au] 44));clear x6;generalize (w.alloc (.cells #[ag op,ag xv.k,af xv.n,.string xv.s,.string name,af width,.slice A args.length c] 46)).alloc (.cells #[ag 0,af 0,au] 44)=W at*;have bJ:w.heap.size<=w.heap.size+1:=by omega
 generalize w.heap.size+1=g at*;go_loopw [8,9,20] (λ lv kv i wr=>∃k:Nat,k<=args.length/\i=af k/\aH aU 44 3 wr W.heap.size lv ((args.take k).map (·.2))/\aH dR 5 1 wr W.heap.size kv ((args.take k).map (·.2.k))/\aj W wr) (λ _ _ i _=>args.length - (intOf i).toNat);case atStart=>exact⟨0,Nat.zero_le _,rfl,aH.nil,aH.nil,Below.refl _ _⟩
 case round=>
  obtain⟨k,hk,rfl,hO,hK,hb⟩:=hrel;have HC:=aa hO;have HK:=aa hK;clear hO hK;rcases Nat.lt_or_ge k args.length with hlt | vp
  ·obtain⟨b,off,rfl,kM,hex⟩:=(HA.ae.below (Kx.trans (hb.mono Kx.size))).at_ (show k <(args.map (·.1)).length by simpa using hlt);have jC:(args.map (·.1))[k]' Tan=args[k].1:=by simp
   exact Zae
  ·have lT:args.take k=args:=take_of_length_le vp;rw[lT] at HC HK;clear lT;obtain⟨A8,c8,hu8,iz⟩:=Hz HC.ae;obtain⟨A9,c9,hu9,MK⟩:=dT (f:=dR) (size:=1) (λ _=>rfl) HK.ae;rw[length_map] at hu8 hu9;subst hu8 hu9;have k1:=HX.later hb;have cN:=No.later hb;have hB:=ai.then Kx hb;clear HC HK HX No Kx;have Bq:=aa iz;have HKC:=aa MK;clear iz MK;open za6 in exact Zau):p:=h
theorem YL (op:Int)(xv:Val)(name:t_)(width:Int)(A:z_)(c:Nat)(cV rV:Value)(args:List (Ex×Val))(oL:op≠2\/args≠ [])(aZ:∀a∈args,a.2.Ok)(w:rQ)(hl:args.length<=1599289640356)(hA:RE w w.heap.size A (args.map (·.1)))(hE:∀a∈args,jM w cV rV a.1 a.2 0):
  ar 17 #[.agg #[ag op,ag xv.k,af xv.n,.string xv.s,.string name,af width,.slice A args.length c],cV,rV] w λ en w'=>en=.returned (bP (pQ ⟨op,xv,name,width,A,args.length,c⟩ (args.map (·.2))).1 (pQ ⟨op,xv,name,width,A,args.length,c⟩ (args.map (·.2))).2)/\aj w w':=by have Ia:=aa oL;have atP:=aa aZ;clear oL aZ;have HA:=aa hA;have HE:=aa hE;clear hA hE;go_enter Tryz.func17,Tryz.ntmps17;have HX:=(aB.new w 46 #[ag op,ag xv.k,af xv.n,.string xv.s,.string name,af width,.slice A args.length c]).alloc (.cells #[ag 0,af 0,au] 44);open zfS in exact Zd2
theorem zd6.KaR(h:p:=by
 have jC:(args.map (·.1)++bad::post)[k]' Tab=args[k].1:=by rw[getElem_append_left Tan];simp
 exact Zae):p:=h
theorem zhL.Kch(h:p:=by
 have bG:=ah W3 (.cells #[ag 0,af 0,.string ByteArray.empty] 44);have b1:=ai.then hb (ai.then (ai.then bY KK) bG);have cN:=hR.later b1;have eI:=ai.then Kx b1;have dz:=aK cN;have iB:=aB.frozen cN;have te:(er != 0)=true:=by have:=OL.ae;simpa using this
 clear gS hex bY KK bG b1 cN HX hR Kx hb;unfold bP aC;go_wp2_with fail;exact bodyPost_ret (v:=.tuple #[.agg #[ag 0,af 0,.string ByteArray.empty],af er]) Tae rfl ⟨rfl,((eI.setCell bJ _).setCell bJ _).setCell bJ _⟩):p:=h
theorem zgT.KbV(h:p:=by clear jC gw HC HK;open zhL in exact Zgx):p:=h
theorem zd7.KaR(h:p:=by open zgT in exact Ze8):p:=h
theorem zfT.Kbx(h:p:=by
 have hR:=aB.new (w.alloc (.cells #[ag op,ag xv.k,af xv.n,.string xv.s,.string name,af width,.slice A n c] 46)) 44 #[ag 0,af 0,au];rw[World.size_alloc] at hR;have Kx:=ai.then (ah w (.cells #[ag op,ag xv.k,af xv.n,.string xv.s,.string name,af width,.slice A n c] 46)) (ah _ (.cells #[ag 0,af 0,au] 44));clear x6;generalize (w.alloc (.cells #[ag op,ag xv.k,af xv.n,.string xv.s,.string name,af width,.slice A n c] 46)).alloc (.cells #[ag 0,af 0,au] 44)=W at*;have bJ:w.heap.size<=w.heap.size+1:=by omega
 generalize w.heap.size+1=g at*;go_loopw [8,9,20] (λ lv kv i wr=>∃k:Nat,k<=args.length/\i=af k/\aH aU 44 3 wr W.heap.size lv ((args.take k).map (·.2))/\aH dR 5 1 wr W.heap.size kv ((args.take k).map (·.2.k))/\aj W wr) (λ _ _ i _=>args.length - (intOf i).toNat);case atStart=>exact⟨0,Nat.zero_le _,rfl,aH.nil,aH.nil,Below.refl _ _⟩
 case round=>
  obtain⟨k,hk,rfl,hO,hK,hb⟩:=hrel;have HC:=aa hO;have HK:=aa hK;clear hO hK;rcases Nat.lt_or_ge k args.length with hlt | vp
  ·open zd6 in exact Zb8
  ·have gw:k=args.length:=by omega
   open zd7 in exact Zb8):p:=h
theorem YN (op:Int)(xv:Val)(name:t_)(width:Int)(A:z_)(n c:Nat)(cV rV:Value)(args:List (Ex×Val))(bad:Ex)(er:Int)(post:u_)(hn:args.length+1+post.length=n)(w:rQ)(hl:args.length<=1599289640356)(UJ:n<=1599289640356)(hA:RE w w.heap.size A (args.map (·.1)++bad::post))(hE:∀a∈args,jM w cV rV a.1 a.2 0)(kq:jM w cV rV bad aC er)(her:er≠0):
  ar 17 #[.agg #[ag op,ag xv.k,af xv.n,.string xv.s,.string name,af width,.slice A n c],cV,rV] w λ en w'=>en=.returned (bP aC er)/\aj w w':=by have HN:=aa hn;have Ig:=aa kq;have OL:=aa her;clear hn kq her;have HA:=aa hA;have HE:=aa hE;clear hA hE;go_enter Tryz.func17,Tryz.ntmps17;have HX:=(aB.new w 46 #[ag op,ag xv.k,af xv.n,.string xv.s,.string name,af width,.slice A n c]).alloc (.cells #[ag 0,af 0,au] 44);open zfT in exact Zd2
inductive Tr where
 | mk (op:Int) (v:Val) (name:t_) (width:Int) (args:List Tr)
abbrev uF:=List Tr
def YO (w:rQ)(S:Nat->Prop)(A:z_)(l:u_):Prop:=
 l=[]\/∃b off,A=some ⟨b,off,none⟩/\S b/\∀i x,l[i]?=some x->cg w b (off+i*7) x
mutual
def Tr.at_ (w:rQ)(S:Nat->Prop):Tr->Ex->Prop
 | .mk op v name width args,y=>y.op=op/\y.v=v/\y.name=name/\y.width=width/\y.n=args.length/\∃ys,YO w S y.A ys/\Tr.aM w S args ys
def Tr.aM (w:rQ)(S:Nat->Prop):uF->u_->Prop
 | [],ys=>ys=[]
 | t::ts,ys=>∃y ys',ys=y::ys'/\Tr.at_ w S t y/\Tr.aM w S ts ys'
end
variable{S S':Nat->Prop}
theorem YO.keep{l:u_}(h:YO w S A l)(hk:∀b,S b->(∀o,w'.cell? ⟨b,o,none⟩=w.cell? ⟨b,o,none⟩)/\S' b):YO w' S' A l:=by
 rcases h with h |⟨b,off,h1,h2,h3⟩
 ·exact .inl h
 ·exact .inr ⟨b,off,h1,(hk b h2).2,λ i x hx=>(h3 i x hx).keep (hk b h2).1⟩
mutual
theorem Tr.at_.keep {w w':rQ} {S S':Nat->Prop}(hk:∀b,S b->(∀o,w'.cell? ⟨b,o,none⟩=w.cell? ⟨b,o,none⟩)/\S' b):∀(t:Tr) (y:Ex),t.at_ w S y->t.at_ w' S' y
 | .mk op v name width args,y,h=>by unfold Tr.at_ at h ⊢;obtain⟨h1,h2,h3,h4,h5,ys,h6,h7⟩:=h;exact⟨h1,h2,h3,h4,h5,ys,h6.keep hk,Tr.aM.keep hk args ys h7⟩
theorem Tr.aM.keep {w w':rQ} {S S':Nat->Prop}(hk:∀b,S b->(∀o,w'.cell? ⟨b,o,none⟩=w.cell? ⟨b,o,none⟩)/\S' b):∀(ts:uF) (ys:u_),Tr.aM w S ts ys->Tr.aM w' S' ts ys
 | [],ys,h=>by unfold Tr.aM at h ⊢;exact h
 | t::ts,ys,h=>by unfold Tr.aM at h ⊢;obtain⟨y,ys',h1,h2,h3⟩:=h;exact⟨y,ys',h1,Tr.at_.keep hk t y h2,Tr.aM.keep hk ts ys' h3⟩
end
theorem Tr.aM.length:∀ {ts:uF} {ys:u_},Tr.aM w S ts ys->ys.length=ts.length
 | [],ys,h=>by unfold Tr.aM at h;subst h;rfl
 | t::ts,ys,h=>by unfold Tr.aM at h;obtain⟨y,ys',rfl,_,h3⟩:=h;simp[Tr.aM.length h3]
def Old (w:rQ):Nat->Prop:=λ b=>b < w.heap.size
theorem YO.old{l:u_}(h:YO w (Old w) A l):RE w w.heap.size A l:=h
variable{y:Ex}
theorem Tr.at_.later{t:Tr} (h:t.at_ w (Old w) y)(hb:aj w w'):t.at_ w' (Old w') y:=
 Tr.at_.keep (λ b hS=>⟨λ o=>hb.cell (p:=⟨b,o,none⟩) hS,Nat.lt_of_lt_of_le hS hb.size⟩) t y h
variable{ts:uF}{ys:u_}
theorem Tr.aM.later(h:Tr.aM w (Old w) ts ys)(hb:aj w w'):Tr.aM w' (Old w') ts ys:=
 Tr.aM.keep (λ b hS=>⟨λ o=>hb.cell (p:=⟨b,o,none⟩) hS,Nat.lt_of_lt_of_le hS hb.size⟩) ts ys h
mutual
def Tr.ok:Tr->Prop
 | .mk op v name width args=>v.Ok/\args.length<=1599289640356/\(0<=op/\op<=255)/\(-9223372036854775808<=width/\width<=9223372036854775807)/\(0<=v.k/\v.k<=255)/\Tr.cH args
def Tr.cH:uF->Prop
 | []=>True
 | t::ts=>t.ok/\Tr.cH ts
end
structure aV where
 name:t_
 t:Int
def pR (w:rQ)(b off:Nat)(x:aV):Prop:=w.cell? ⟨b,off,none⟩=some (.string x.name)/\w.cell? ⟨b,off+1,none⟩=some (ag x.t)
theorem pR.keep{x:aV}(h:pR w b off x)(hk:∀o,w'.cell? ⟨b,o,none⟩=w.cell? ⟨b,o,none⟩):pR w' b off x:=by unfold pR at*;simp only[hk];exact h
def RC (w:rQ)(B:Nat)(A:z_)(l:List aV):Prop:=
 l=[]\/∃b off,A=some ⟨b,off,none⟩/\b < B/\∀i x,l[i]?=some x->pR w b (off+i*2) x
theorem RC.below{l:List aV}(h:RC w B A l)(hb:Below B w w'):RC w' B A l:=by exact Zcp
theorem RC.more{l:List aV}(h:RC w B A l)(hB:B<=B'):RC w B' A l:=by exact ZdI
theorem RC.later{l:List aV}(h:RC w w.heap.size A l)(hb:aj w w'):RC w' w'.heap.size A l:=(h.below hb).more hb.size
theorem RC.at_{l:List aV}(h:RC w B A l) (hk:k < l.length):∃b off,A=some ⟨b,off,none⟩/\b < B/\pR w b (off+k*2) l[k]:=by exact ZcS
theorem RV.later{l:v_}(h:RV w w.heap.size A l)(hb:aj w w'):RV w' w'.heap.size A l:=(h.below hb).more hb.size
def cY (name:t_):List aV->Nat
 | []=>0
 | c::cs=>if (c.name.toList==name.toList)=true then 0 else cY name cs+1
def kR (name:t_)(cols:List aV):Int:=if cY name cols < cols.length then cY name cols else -1
def xz (cols:List aV)(row:v_)(name:t_):Val×Int:=
 if cY name cols < cols.length/\cY name cols < row.length then
  (if good (row.getD (cY name cols) aC)=true then(row.getD (cY name cols) aC,0)else(aC,40))
 else(aC,41)
def bQ:List (Val×Int)->Int
 | []=>0
 | r::rs=>if r.2≠0 then r.2 else bQ rs
def lg (cols:List aV)(row:v_)(x:Ex)(rs:List (Val×Int)):Val×Int:=
 if bQ rs≠0 then(aC,bQ rs)else if bH x≠0 then(aC,bH x)else if x.op=1 then(x.v,0)else if x.op=2 then xz cols row x.name else iY x.op x.width (rs.map (·.1))
mutual
def Tr.eval (cols:List aV)(row:v_):Tr->Val×Int
 | .mk op v name width args=>lg cols row ⟨op,v,name,width,none,args.length,0⟩ (Tr.eP cols row args)
def Tr.eP (cols:List aV)(row:v_):uF->List (Val×Int)
 | []=> []
 | t::ts=>t.eval cols row::Tr.eP cols row ts
end
theorem Tr.oN (cols:List aV)(row:v_):∀ts,(Tr.eP cols row ts).length=ts.length
 | []=>by simp[Tr.eP]
 | t::ts=>by simp[Tr.eP,Tr.oN cols row ts]
theorem ed:aC.Ok:=⟨by decide,by decide⟩
theorem Su (b:Bool):(bE b).Ok:=by cases b <;> exact⟨by decide,by decide⟩
theorem sf (n:Int): -9223372036854775808<=wrap64 n/\wrap64 n<=9223372036854775807:=by unfold wrap64;omega
variable{n:Int}{c:Bool}
theorem Bu(h: -9223372036854775808<=n/\n<=9223372036854775807):(fS n c).1.Ok:=by
 cases c
 ·exact ed
 ·exact h
theorem ahA{b:Int}(ha: -9223372036854775808<=a/\a<=9223372036854775807): -9223372036854775808<=Int.tmod a b/\Int.tmod a b<=9223372036854775807:=by
 have h:(Int.tmod a b).natAbs<=a.natAbs:=by rw[Int.natAbs_tmod];exact Nat.mod_le _ _
 have h2:0<=a->0<=Int.tmod a b:=λ h=>Int.tmod_nonneg b h
 have h3:a<=0->Int.tmod a b<=0:=λ h=>by have:=Int.tmod_nonneg b (show 0<= -a by omega);rw[Int.neg_tmod] at this;omega
 omega
theorem YP (s:Bool)(l:v_):(lS s l).Ok:=by
 unfold lS;repeat (first | exact ed | exact Su _ | split)
theorem amC (k:Nat)(wd:Int)(l:v_)(hl:∀v∈l,v.Ok):(Hy k wd l).1.Ok:=by
 unfold Hy;split;case h_7 a b=>unfold zO;split;exact ed;exact Bu (ahA (hl a Taa))
 all_goals first
  | exact ed
  | exact Su _
  | exact YP _ _
  | exact Bu (sf _)
  |(unfold zN;split;exact ed;exact Bu (sf _))
theorem abS (op wd:Int)(l:v_)(hl:∀v∈l,v.Ok):(iY op wd l).1.Ok:=by
 unfold iY;split
 ·exact ed
 ·split
  ·exact ed
  ·exact amC _ _ _ hl
theorem ahB (cols:List aV)(row:v_)(name:t_)(hr:∀v∈row,v.Ok):(xz cols row name).1.Ok:=by
 unfold xz;split
 ·rename_i h;split
  ·rw[getD_eq_getElem?_getD,getElem?_eq_getElem h.2];exact hr _ (getElem_mem h.2)
  ·exact ed
 ·exact ed
mutual
theorem Tr.abT (cols:List aV)(row:v_)(hr:∀v∈row,v.Ok):∀t:Tr,t.ok->(t.eval cols row).1.Ok
 | .mk op v name width args,h=>by
   unfold Tr.ok at h;unfold Tr.eval lg;have ha:=Tr.vB cols row hr args h.2.2.2.2.2;split
   ·exact ed
   ·split
    ·exact ed
    ·split
     ·exact h.1
     ·split
      ·exact ahB _ _ _ hr
      ·refine abS _ _ _ λ u hu=>?_
       obtain⟨z,hz,rfl⟩:=List.mem_map.1 hu;exact ha z hz
theorem Tr.vB (cols:List aV)(row:v_)(hr:∀v∈row,v.Ok):∀ts:uF,Tr.cH ts->∀z∈Tr.eP cols row ts,z.1.Ok
 | [],_,z,hz=>by simp[Tr.eP] at hz
 | t::ts,h,z,hz=>by
   unfold Tr.cH at h;unfold Tr.eP at hz;rcases List.mem_cons.1 hz with rfl | hz
   ·exact Tr.abT cols row hr t h.1
   ·exact Tr.vB cols row hr ts h.2 z hz
end
theorem qN:∀(l:List (Ex×(Val×Int))),(∀a∈l,a.2.2=0)\/∃pre bad post,l=pre++bad::post/\(∀a∈pre,a.2.2=0)/\bad.2.2≠0
 | []=> .inl Taa
 | a::l=>by
   by_cases h:a.2.2=0
   ·rcases qN l with h1 |⟨pre,bad,post,h1,h2,h3⟩
    ·exact .inl (by intro x hx;rcases List.mem_cons.1 hx with rfl | hx;exact h;exact h1 x hx)
    ·refine .inr ⟨a::pre,bad,post,by rw[h1];rfl,?_,h3⟩;intro x hx;rcases List.mem_cons.1 hx with rfl | hx
     ·exact h
     ·exact h2 x hx
   ·exact .inr ⟨[],a,l,rfl,by simp,h⟩
theorem yM:∀ {l:List (Val×Int)},(∀a∈l,a.2=0)->bQ l=0
 | [],_=>rfl
 | a::l,h=>by unfold bQ;rw[if_neg TaO];exact yM λ x hx=>h x Tbf
theorem Fg:∀ {pre post:List (Val×Int)} {bad:Val×Int},(∀a∈pre,a.2=0)->bad.2≠0->bQ (pre++bad::post)=bad.2
 | [],post,bad,_,hb=>by unfold bQ;simp[hb]
 | a::pre,post,bad,h,hb=>by show bQ (a::(pre++bad::post))=_;unfold bQ;rw[if_neg TaO];exact Fg (λ x hx=>h x Tbf) hb
theorem OM (x:aV)(name:t_)(g:Nat)(w:rQ)(hg:aB w g 9 #[.string name]):
  ar 79 #[.agg #[.string x.name,ag x.t],aw g] w λ e w'=>e=.returned (.bool (x.name.toList==name.toList))/\aj w w':=by have c0:=(hg.alloc (.cells #[.string x.name,ag x.t] 113)).cell 0;simp only[getElem?_toArray,getElem?_cons_zero] at c0;go_enter Tryz.func79,Tryz.ntmps79;go_wp2_with fail;go_ret;exact⟨rfl,by go_grown⟩
variable{cs:List aV}
theorem UK{name:t_} {c:aV} (h:(c.name.toList==name.toList)=false):cY name (c::cs)=cY name cs+1:=by show(if (c.name.toList==name.toList)=true then 0 else cY name cs+1)=_;rw[if_neg (by rw[h];simp)]
theorem OO{name:t_} {c:aV} (h:(c.name.toList==name.toList)=true):cY name (c::cs)=0:=by show(if (c.name.toList==name.toList)=true then 0 else cY name cs+1)=_;rw[if_pos h]
theorem cJ(h:k < l.length):l.drop k=l[k]::l.drop (k+1):=drop_eq_getElem_cons h
theorem Ih (cols:List aV)(CA:z_)(cc:Nat)(name:t_)(g:Nat)(w:rQ)(hC:RC w w.heap.size CA cols)(hg:aB w g 9 #[.string name])(hl:cols.length<=140737488355328):
  ar 78 #[.slice CA cols.length cc,.func (.func 79) #[] #[.pointer (some ⟨g,0,none⟩)]] w λ e w'=>e=.returned (.int .i64 (kR name cols))/\aj w w':=by
 have HC:=aa hC;clear hC;go_enter Tryz.func78,Tryz.ntmps78;go_wp2_with fail;go_loopw [5,8] (λ _ i wr=>∃k:Nat,k<=cols.length/\i=af k/\cY name cols=k+cY name (cols.drop k)/\aj w wr) (λ _ i _=>cols.length - (intOf i).toNat);case atStart=>exact⟨0,Nat.zero_le _,rfl,by simp,Below.refl _ _⟩
 case round=>
  obtain⟨k,hk,rfl,hp,hb⟩:=hrel;have HP:=aa hp;clear hp;by_cases hlt:k < cols.length
  ·obtain⟨b,off,rfl,kM,hex⟩:=(HC.ae.below hb).at_ hlt;have HD:=aa (cJ hlt);generalize cols[k]=x at*;unfold pR at hex;have hz:=hg.later hb;go_wp2_with fail;refine(OM x name g _ hz).mono ?_;rintro e w1 ⟨rfl,b1⟩;have hb1:=ai.then hb b1;clear hex hz b1 hb;cases hm:(x.name.toList==name.toList)
   ·go_wp2_with fail;go_roundw;case rel=>refine⟨k+1,by omega,by go_num,?_,hb1⟩;rw[HP.ae,HD.ae,UK hm];omega
    case measure=>exact ZaU
   ·go_wp2_with fail;go_ret;refine⟨?_,hb1⟩;have Ay:cY name cols=k:=by rw[HP.ae,HD.ae,OO hm];omega
    unfold kR;rw[Ay,if_pos hlt];rfl
  ·go_wp2_with fail;go_ret;refine⟨?_,hb⟩;have Ay:cY name cols=cols.length:=by rw[HP.ae,drop_eq_nil_of_le TD];unfold cY;omega
   unfold kR;rw[Ay,if_neg TD];rfl
theorem Fh (cols:List aV)(CA:z_)(cc:Nat)(name:t_)(w:rQ)(hC:RC w w.heap.size CA cols)(hl:cols.length<=140737488355328):
  ar 43 #[.slice CA cols.length cc,.string name] w λ e w'=>e=.returned (af (kR name cols))/\aj w w':=by have bb:=ah w (.cells #[.string name] 9);have hg:=aB.new w 9 #[.string name];have hC2:=aa (hC.later bb);clear hC;go_enter Tryz.func43,Tryz.ntmps43;go_wp2_with fail;refine(Ih cols CA cc name w.heap.size _ hC2.ae hg hl).mono ?_;rintro e w1 ⟨rfl,b1⟩;have hb:=ai.then bb b1;clear b1 bb hg;exact Zey
theorem zbx.Kal(h:p:=by exact Zd0):p:=h
theorem zeI.Ka4(h:p:=by
 have dz:=aK cN;have iB:=aB.frozen cN;go_wp2_with fail;clear hst x0 x1 z2 z3 z4 z5 z6 dz iB;refine(Fh cols CA cc name _ HC.ae hl).mono ?_;rintro e w2 ⟨rfl,b3⟩;replace hR:=hR.later b3;replace cN:=cN.later b3;replace hB:=ai.then hB b3;replace HC:=aa (HC.ae.later b3);replace HK:=aa (HK.ae.later b3);clear b3;by_cases uD:cY name cols < cols.length
 ·have HP:=aa (show kR name cols=(cY name cols:Int) by unfold kR;rw[if_pos uD]);rw[HP.ae];have hc1:xz cols row name=if cY name cols < row.length then(if good (row.getD (cY name cols) aC)=true then(row.getD (cY name cols) aC,0)else(aC,40))else(aC,41):=by unfold xz;simp only[uD,true_and]
  have UL:=aa hc1;clear hc1 HP;generalize cY name cols=k at*;have hk2:(k:Int)<=140737488355328:=by omega
  have t0:decide ((k:Int)< 0)=false:=decide_eq_false TD;by_cases hk:k < row.length
  ·have t1:decide (row.length<=k)=false:=decide_eq_false TD;obtain⟨b,off,rfl,kM,hval⟩:=HK.ae.at_ hk;have HG:=aa (show row.getD k aC=row[k] by rw[getD_eq_getElem?_getD,getElem?_eq_getElem hk];rfl);have Er:=aa (UL.ae.trans (if_pos hk));rw[HG.ae] at Er;generalize row[k]=xv at*;have hva:=hval;unfold dE at hval;have x0:=hR.cell 0;have x1:=hR.cell 1;have z2:=hR.cell 2;have z3:=hR.cell 3;have z4:=hR.cell 4;have z5:=hR.cell 5;have z6:=hR.cell 6;simp only[Uaa] at x0 x1 z2 z3 z4 z5 z6;have dz:=aK cN;have iB:=aB.frozen cN;go_wp2_with fail;refine(vq xv _).mono ?_;rintro e w3 ⟨rfl,Lw⟩;replace hva:=hva.keep (w':=w3) λ o=>Lw.cell (p:=⟨b,o,none⟩) kM
   clear x0 x1 z2 z3 z4 z5 z6 dz iB;replace hR:=hR.later Lw;replace cN:=cN.later Lw;replace hB:=ai.then hB Lw;replace HC:=aa (HC.ae.later Lw);replace HK:=aa (HK.ae.later Lw);clear hval Lw;unfold dE at hva;cases hg:good xv
   ·have HQ:=aa (Er.ae.trans (if_neg (by rw[hg];simp)));have x0:=hR.cell 0;have x1:=hR.cell 1;have z2:=hR.cell 2;have z3:=hR.cell 3;have z4:=hR.cell 4;have z5:=hR.cell 5;have z6:=hR.cell 6;simp only[Uaa] at x0 x1 z2 z3 z4 z5 z6;have dz:=aK cN;have iB:=aB.frozen cN;go_wp2_with fail;exact bodyPost_ret (v:=.tuple #[.agg #[ag 0,af 0,.string ByteArray.empty],af 40]) Tae rfl ⟨by rw[HQ.ae];rfl,((hB.setCell bJ _).setCell bJ _).setCell bJ _⟩
   ·have HQ:=aa (Er.ae.trans (if_pos hg));have x0:=hR.cell 0;have x1:=hR.cell 1;have z2:=hR.cell 2;have z3:=hR.cell 3;have z4:=hR.cell 4;have z5:=hR.cell 5;have z6:=hR.cell 6;simp only[Uaa] at x0 x1 z2 z3 z4 z5 z6;have dz:=aK cN;have iB:=aB.frozen cN;exact Zd6
  ·have t1:decide (row.length<=k)=true:=decide_eq_true TD;have HQ:=aa (UL.ae.trans (if_neg hk));have x0:=hR.cell 0;have x1:=hR.cell 1;have z2:=hR.cell 2;have z3:=hR.cell 3;have z4:=hR.cell 4;have z5:=hR.cell 5;have z6:=hR.cell 6;simp only[Uaa] at x0 x1 z2 z3 z4 z5 z6;exact Zd0
 ·have HP:=aa (show kR name cols= -1 by unfold kR;rw[if_neg uD]);rw[HP.ae];have HQ:=aa (show xz cols row name=(aC,41) by unfold xz;rw[if_neg (λ h=>uD h.1)]);open zbx in exact ZaA):p:=h
theorem zf0.Kbz(h:p:=by clear Ib UG x0 x1 z2 z3 z4 z5 z6 dz iB;have b3:=ai.then b1 (ah w1 (.cells #[af 0,ag 0,ag 0,.bool false,.bool false,.nilFunc] 100));replace hR:=hR.later b3;replace cN:=cN.later b3;replace hB:=ai.then hB b3;replace HC:=aa (HC.ae.later b3);open zeI in exact Zcw):p:=h
theorem zhw.Kcb(h:p:=by
 go_wp2_with fail;have cN:=aB.new (w.alloc (.cells #[ag 2,ag Kx.k,af Kx.n,.string Kx.s,.string name,af width,.slice A 0 c] 46)) 44 #[ag 0,af 0,au];rw[World.size_alloc] at cN;have hB:=ai.then (ah w (.cells #[ag 2,ag Kx.k,af Kx.n,.string Kx.s,.string name,af width,.slice A 0 c] 46)) (ah _ (.cells #[ag 0,af 0,au] 44));replace HC:=aa (HC.ae.later hB);replace HK:=aa (HK.ae.later hB);clear z6;generalize (w.alloc (.cells #[ag 2,ag Kx.k,af Kx.n,.string Kx.s,.string name,af width,.slice A 0 c] 46)).alloc (.cells #[ag 0,af 0,au] 44)=W at*;have bJ:w.heap.size<=w.heap.size+1:=by omega
 generalize w.heap.size+1=g at*;go_loopw [8,9,20] (λ lv kv i wr=>lv=ay/\kv=ay/\i=af 0/\wr=W) (λ _ _ _ _=>0);case atStart=>exact⟨rfl,rfl,rfl,rfl⟩
 case round=>obtain⟨rfl,rfl,rfl,rfl⟩:=hrel;have x0:=hR.cell 0;have x1:=hR.cell 1;have z2:=hR.cell 2;have z3:=hR.cell 3;have z4:=hR.cell 4;have z5:=hR.cell 5;have z6:=hR.cell 6;simp only[Uaa] at x0 x1 z2 z3 z4 z5 z6;have dz:=aK cN;have iB:=aB.frozen cN;open zf0 in exact Zd8):p:=h
theorem YQ (Kx:Val)(name:t_)(width:Int)(A:z_)(c:Nat)(cols:List aV)(CA:z_)(cc:Nat)(row:v_)(RA:z_)(rc:Nat)(w:rQ)(hC:RC w w.heap.size CA cols)(hl:cols.length<=140737488355328)(hV:RV w w.heap.size RA row)(hl2:row.length<=140737488355328):
  ar 17 #[.agg #[ag 2,ag Kx.k,af Kx.n,.string Kx.s,.string name,af width,.slice A 0 c],.slice CA cols.length cc,.slice RA row.length rc] w λ en w'=>en=.returned (bP (xz cols row name).1 (xz cols row name).2)/\aj w w':=by have HC:=aa hC;have HK:=aa hV;clear hC hV;go_enter Tryz.func17,Tryz.ntmps17;have hR:=(aB.new w 46 #[ag 2,ag Kx.k,af Kx.n,.string Kx.s,.string name,af width,.slice A 0 c]).alloc (.cells #[ag 0,af 0,au] 44);open zhw in exact Zgb
theorem ub(h:(fS n c).2≠0):(fS n c).1=aC:=by
 cases c
 ·rfl
 ·exact absurd rfl h
theorem abU (k:Nat)(wd:Int)(l:v_)(h:(Hy k wd l).2≠0):(Hy k wd l).1=aC:=by
 unfold Hy at*;split at h;case h_6 a b=>unfold zN at*;exact ZgT
 case h_7 a b=>unfold zO at*;exact ZgT
 all_goals first
  | exact absurd rfl h
  | exact ub h
theorem UM (op wd:Int)(l:v_)(h:(iY op wd l).2≠0):(iY op wd l).1=aC:=by
 unfold iY at*;split at h
 ·rename_i h1;rw[if_pos h1]
 ·rename_i h1;rw[if_neg h1];split at h
  ·exact absurd rfl h
  ·rename_i h2;rw[if_neg h2];exact abU _ _ _ h
theorem OS (cols:List aV)(row:v_)(x:Ex)(rs:List (Val×Int))(h:(lg cols row x rs).2≠0):(lg cols row x rs).1=aC:=by
 unfold lg at*;split at h
 ·rename_i h1;rw[if_pos h1]
 ·rename_i h1;rw[if_neg h1];split at h
  ·rename_i h2;rw[if_pos h2]
  ·rename_i h2;rw[if_neg h2];split at h
   ·exact absurd rfl h
   ·rename_i h3;rw[if_neg h3];split at h
    ·rename_i h4;rw[if_pos h4];unfold xz at*;split at h
     ·rename_i h5;rw[if_pos h5];split at h
      ·exact absurd rfl h
      ·rename_i h6;rw[if_neg h6]
     ·rename_i h5;rw[if_neg h5]
    ·rename_i h4;rw[if_neg h4];exact UM _ _ _ h
mutual
theorem Tr.UN (cols:List aV)(row:v_):∀t:Tr,(t.eval cols row).2≠0->(t.eval cols row).1=aC
 | .mk op v name width args,h=>by unfold Tr.eval at*;exact OS _ _ _ _ h
theorem Tr.Bv (cols:List aV)(row:v_):∀ts:uF,∀z∈Tr.eP cols row ts,z.2≠0->z.1=aC
 | [],z,hz,_=>by simp[Tr.eP] at hz
 | t::ts,z,hz,h=>by
   unfold Tr.eP at hz;rcases List.mem_cons.1 hz with rfl | hz
   ·exact Tr.UN cols row t h
   ·exact Tr.Bv cols row ts z hz h
end
section
variable (cols:List aV) (CA:z_) (cc:Nat) (row:v_) (RA:z_) (rc:Nat)
theorem YR (op:Int)(xv:Val)(name:t_)(width:Int)(A:z_)(c:Nat)(args:List (Ex×(Val×Int)))(aZ:∀a∈args,a.2.1.Ok)(hz:∀a∈args,a.2.2≠0->a.2.1=aC)(w:rQ)(hl:args.length<=1599289640356)(hA:RE w w.heap.size A (args.map (·.1)))
  (hC:RC w w.heap.size CA cols) (cL:cols.length<=140737488355328) (hV:RV w w.heap.size RA row) (lX:row.length<=140737488355328)
  (hE:∀a∈args,jM w (.slice CA cols.length cc) (.slice RA row.length rc) a.1 a.2.1 a.2.2):
  ar 17 #[.agg #[ag op,ag xv.k,af xv.n,.string xv.s,.string name,af width,.slice A args.length c],.slice CA cols.length cc,.slice RA row.length rc] w λ en w'=>en=.returned (bP (lg cols row ⟨op,xv,name,width,none,args.length,0⟩ (args.map (·.2))).1 (lg cols row ⟨op,xv,name,width,none,args.length,0⟩ (args.map (·.2))).2)/\aj w w':=by
 rcases qN args with h0 |⟨pre,bad,post,rfl,Es,kq⟩
 ·have hf:bQ (args.map (·.2))=0:=yM λ a ha=>by obtain⟨z,hz,rfl⟩:=List.mem_map.1 ha;exact h0 z hz
  by_cases h2:op=2/\args=[]
  ·obtain⟨rfl,rfl⟩:=h2;have k:=YQ xv name width A c cols CA cc row RA rc w hC cL hV lX;have e:lg cols row ⟨2,xv,name,width,none,0,0⟩ []=xz cols row name:=by unfold lg;rw[if_neg (by simp[bQ]),if_neg (by simp[bH]),if_neg Taa,if_pos (by rfl)]
   show Calls _ _ _ _ λ en w'=>en=.returned (bP (lg cols row ⟨2,xv,name,width,none,0,0⟩ []).1 (lg cols row ⟨2,xv,name,width,none,0,0⟩ []).2)/\_
   rw[e];exact k
  ·have k:=YL op xv name width A c (.slice CA cols.length cc) (.slice RA row.length rc) (args.map λ a=>(a.1,a.2.1)) (by
    by_cases ho:op=2
    ·right;intro h;exact h2 ⟨ho,by simpa using h⟩
    ·exact .inl ho) (λ a ha=>by obtain⟨z,hz,rfl⟩:=List.mem_map.1 ha;exact aZ z hz) w (by simpa using hl) Tas (λ a ha=>by
    obtain⟨z,hz,rfl⟩:=List.mem_map.1 ha
    have:=hE z hz
    rw[h0 z hz] at this
    exact this)
   rw[length_map] at k;have hm:(args.map λ a=>(a.1,a.2.1)).map (·.2)=(args.map (·.2)).map (·.1):=by simp[Function.comp_def]
   rw[hm] at k;have e:lg cols row ⟨op,xv,name,width,none,args.length,0⟩ (args.map (·.2))=pQ ⟨op,xv,name,width,A,args.length,c⟩ ((args.map (·.2)).map (·.1)):=by have ahC:bH ⟨op,xv,name,width,A,args.length,c⟩=bH ⟨op,xv,name,width,none,args.length,0⟩:=rfl;unfold lg pQ;exact ZbX
   rw[e];exact k
 ·have hbz:bad.2.1=aC:=hz bad Taa kq;have hbE:=hE bad Taa;rw[hbz] at hbE;have k:=YN op xv name width A (pre++bad::post).length c (.slice CA cols.length cc) (.slice RA row.length rc) (pre.map λ a=>(a.1,a.2.1)) bad.1 bad.2.2 (post.map (·.1)) Tab w (by simp at hl ⊢;omega) hl Tas (λ a ha=>by
   obtain⟨z,hz',rfl⟩:=List.mem_map.1 ha
   have:=hE z (by simp[hz'])
   rw[Es z hz'] at this
   exact this) hbE kq
  have hf:bQ ((pre++bad::post).map (·.2))=bad.2.2:=by rw[map_append,map_cons];exact Fg (λ a ha=>by obtain⟨z,hz',rfl⟩:=List.mem_map.1 ha;exact Es z hz') kq
  have e:lg cols row ⟨op,xv,name,width,none,(pre++bad::post).length,0⟩ ((pre++bad::post).map (·.2))=(aC,bad.2.2):=by unfold lg;rw[if_pos (by rw[hf];exact kq),hf]
  rw[e];exact k
mutual
theorem Tr.Sv (cL:cols.length<=140737488355328)(lX:row.length<=140737488355328)(hro:∀v∈row,v.Ok):∀(t:Tr) (y:Ex) (w:rQ),t.ok->t.at_ w (Old w) y->RC w w.heap.size CA cols->RV w w.heap.size RA row->jM w (.slice CA cols.length cc) (.slice RA row.length rc) y (t.eval cols row).1 (t.eval cols row).2
 | .mk op v name width args,y,w,aZ,hat,hC,hV=>by
   intro W hb;have nX:=hat.later hb;unfold Tr.at_ at nX;obtain⟨h1,h2,h3,h4,h5,ys,h6,h7⟩:=nX;unfold Tr.ok at aZ;obtain⟨l,fJ,hl2,ud⟩:=Tr.Bw cL lX hro args ys W aZ.2.2.2.2.2 h7 (hC.later hb) (hV.later hb);obtain⟨Kc,yv,lj,ir,yA,yn,yc⟩:=y;dsimp only at h1 h2 h3 h4 h5 h6;subst h1 h2 h3 h4 h5;have hlen:l.length=args.length:=by
    have:(l.map (·.2)).length=(Tr.eP cols row args).length:=by rw[hl2]
    rw[length_map,Tr.oN] at this;exact this
   have hzz:∀a∈l,a.2.1.Ok/\(a.2.2≠0->a.2.1=aC):=λ a ha=>by
    have hm:a.2∈Tr.eP cols row args:=by rw[<- hl2];exact List.mem_map.2 ⟨a,ha,rfl⟩
    exact⟨Tr.vB cols row hro args aZ.2.2.2.2.2 _ hm,Tr.Bv cols row args _ hm⟩
   have k:=YR cols CA cc row RA rc Kc yv lj ir yA yc l (λ a ha=>(hzz a ha).1) (λ a ha=>(hzz a ha).2) W (by rw[hlen];exact aZ.2.1) Tbc (hC.later hb) cL (hV.later hb) lX ud;rw[hl2,hlen] at k;unfold Tr.eval;exact k
theorem Tr.Bw (cL:cols.length<=140737488355328)(lX:row.length<=140737488355328)(hro:∀v∈row,v.Ok):∀(ts:uF) (ys:u_) (w:rQ),Tr.cH ts->Tr.aM w (Old w) ts ys->RC w w.heap.size CA cols->RV w w.heap.size RA row->∃l:List (Ex×(Val×Int)),l.map (·.1)=ys/\l.map (·.2)=Tr.eP cols row ts/\∀a∈l,jM w (.slice CA cols.length cc) (.slice RA row.length rc) a.1 a.2.1 a.2.2
 | [],ys,w,_,hat,_,_=>by unfold Tr.aM at hat;subst hat;exact⟨[],rfl,by simp[Tr.eP],by simp⟩
 | t::ts,ys,w,aZ,hat,hC,hV=>by
   unfold Tr.aM at hat;unfold Tr.cH at aZ;obtain⟨y,ys',rfl,h2,h3⟩:=hat;obtain⟨l,fJ,hl2,ud⟩:=Tr.Bw cL lX hro ts ys' w aZ.2 h3 hC hV;refine⟨(y,t.eval cols row)::l,by simp[fJ],by simp[hl2,Tr.eP],λ a ha=>?_⟩;rcases List.mem_cons.1 ha with rfl | ha
   ·exact Tr.Sv cL lX hro t y w aZ.1 h2 hC hV
   ·exact ud a ha
end
end
def vC (r:Val×Int):Bool×Int:=if r.2≠0 then(false,r.2)else if cf r.1.k 1=false then(false,40)else(r.1.n==1,0)
theorem amD(h:RE w B A (y::ys)):∃b off,A=some ⟨b,off,none⟩/\b < B/\cg w b off y:=by
 rcases h with h |⟨b,off,h1,h2,h3⟩
 ·cases h
 ·refine⟨b,off,h1,h2,?_⟩;have:=h3 0 y rfl;exact ZeR
theorem YS (A:z_)(n c:Nat)(hn:0 < n)(UJ:n<=1599289640356)(y:Ex)(ys:u_)(cV rV:Value)(r:Val×Int)(w:rQ)(hA:RE w w.heap.size A (y::ys))(hE:jM w cV rV y r.1 r.2):
  ar 16 #[.slice A n c,cV,rV] w λ e w'=>e=.returned (.tuple #[.bool (vC r).1,af (vC r).2])/\aj w w':=by
 obtain⟨b,off,rfl,hb,hex⟩:=amD hA;have HE:=aa hE;clear hA hE;have t0:(n==0)=false:=by simp;omega
 have t0':((n:Int)==0)=false:=by simp;omega
 unfold cg at hex;go_enter Tryz.func16,Tryz.ntmps16;go_wp2_with fail;refine(HE.ae w (Below.refl _ _)).mono ?_;rintro e w1 ⟨rfl,b1⟩;clear hex t0 t0' HE;obtain⟨v,f⟩:=r;unfold bP;dsimp only;have hv:=aB.new w1 44 (aJ v);have hB:=ai.then b1 (ah w1 (.cells (aJ v) 44));clear b1;have cv:=aK hv;by_cases hf:f=0
 ·subst hf;go_wp2_with fail;have hg:=aB.new (w1.alloc (.cells (aJ v) 44)) 5 #[ag v.k,ag 1];have bb:=ah (w1.alloc (.cells (aJ v) 44)) (.cells #[ag v.k,ag 1] 5);rw[World.size_alloc] at hg;have g0:=hg.cell 0;have g1:=hg.cell 1;have glt:=hg.lt;simp only[Uaa] at g0 g1;refine(qL (w1.heap.size+1) 0 2 v.k 1 _ glt g0 g1).mono ?_;rintro e w2 ⟨rfl,b2⟩;replace hB:=ai.then (ai.then hB bb) b2;replace hv:=(hv.later bb).later b2;clear bb b2 g0 g1 glt hg cv;have cv:=aK hv;cases hgo:cf v.k 1
  ·have HQ:=aa (show vC (v,0)=(false,40) by unfold vC;rw[if_neg Taa,if_pos hgo]);go_wp2_with fail;exact bodyPost_ret (v:=.tuple #[.bool false,af 40]) Tau rfl ⟨by rw[HQ.ae],hB⟩
  ·have HQ:=aa (show vC (v,0)=(v.n==1,0) by unfold vC;rw[if_neg Taa,if_neg (by rw[hgo];simp)]);go_wp2_with fail;exact bodyPost_ret (v:=.tuple #[.bool (v.n==1),af 0]) Tau rfl ⟨by rw[HQ.ae],hB⟩
 ·have t1:(f != 0)=true:=by simpa using hf
  have HQ:=aa (show vC (v,f)=(false,f) by unfold vC;rw[if_pos hf]);clear hf;go_wp2_with fail;exact bodyPost_ret (v:=.tuple #[.bool false,af f]) Tau rfl ⟨by rw[HQ.ae],hB⟩
theorem YT (A:z_)(c:Nat)(cV rV:Value)(w:rQ):ar 16 #[.slice A 0 c,cV,rV] w λ e w'=>e=.returned (.tuple #[.bool true,af 0])/\w=w':=by go_enter Tryz.func16,Tryz.ntmps16;go_wp2_with fail;exact bodyPost_ret (v:=.tuple #[.bool true,af 0]) Tau rfl ⟨rfl,rfl⟩
def tM (x:Ex)(ts:List Int):Int×Int:=
 if bH x≠0 then(0,bH x)else if x.op=1 then(x.v.k,0)else if iq x.op ts=false then(0,40)else(tY x.op,0)
def YU (w:rQ)(cV:Value)(y:Ex)(t:Int):Prop:=∀W,aj w W->ar 59 #[.agg (az y),cV] W λ en w'=>en=.returned (.tuple #[ag t,af 0])/\aj W w'
theorem zcY.KaB(h:p:=by exact ZdD):p:=h
theorem zcZ.KaB(h:p:=by exact ZdE):p:=h
theorem zc0.KaB(h:p:=by exact ZdD):p:=h
theorem zc1.KaB(h:p:=by exact ZdE):p:=h
theorem zeu.KaZ(h:p:=by
 have UI:=(tK.ae.cell (p:=⟨g9,0,none⟩) kQ).trans (tL 0 v1 0 _ rfl TD rfl);have vA:=Nat.lt_of_lt_of_le kQ tK.ae.size;clear tL tK;go_wp2_with fail;refine(Fc a wa gi nu d jL g9 0 c9 v1 _ vA UI).mono ?_;rintro e w3 ⟨rfl,b3⟩;clear x0 x1 z6 y0 y1 c2 y3 o4 o5;replace hR:=hR.later b3;replace cN:=cN.later b3;replace hB:=ai.then hB b3;clear b3;have sY:fw (iq op [v1]=cf v1 wa):=by have z1:=HWA.ae;have Lw:=Ax.ae;show iq _ _=_;simp only[iq,<- z1,<- Lw]
 cases hs:cf v1 wa
 ·have HQ:=aa (NU.ae (0,40) (by rw[sY.ae,hs,if_pos rfl]));open zcY in exact Zbb
 ·have HQ:=aa (NU.ae (gi,0) Tbn);open zcZ in exact Zbb):p:=h
theorem zev.KaZ(h:p:=by
 have UI:=(tK.ae.cell (p:=⟨g9,0,none⟩) kQ).trans (tL 0 v1 0 _ rfl TD rfl);have kc2:=(tK.ae.cell (p:=⟨g9,1,none⟩) kQ).trans (tL 1 v2 0 _ rfl TD rfl);have vA:=Nat.lt_of_lt_of_le kQ tK.ae.size;clear tL tK;go_wp2_with fail;refine(Fe a wa gi al nu d jL g9 0 c9 v1 v2 _ vA UI kc2).mono ?_;rintro e w3 ⟨rfl,b3⟩;clear x0 x1 z6 y0 y1 c2 y3 o4 o5;replace hR:=hR.later b3;replace cN:=cN.later b3;replace hB:=ai.then hB b3;clear b3;have sY:fw (iq op [v1,v2]=(cf v1 wa &&(cf v2 wa &&(!al || cf v1 v2)))):=by have z1:=HWA.ae;have Lw:=Ax.ae;show iq _ _=_;simp only[iq,<- z1,<- Lw]
 cases hs:(cf v1 wa &&(cf v2 wa &&(!al || cf v1 v2)))
 ·have HQ:=aa (NU.ae (0,40) (by rw[sY.ae,hs,if_pos rfl]));open zc0 in exact Zbb
 ·have HQ:=aa (NU.ae (gi,0) Tbn);open zc1 in exact Zbb):p:=h
theorem zgS.KbU(h:p:=by
 have NU:fw (∀r,(if iq op (args.map (·.2))=false then(0,40)else(tY op,0))=r->tM ⟨op,xv,name,width,A,args.length,c⟩ (args.map (·.2))=r):=λ r hr=>by unfold tM;rw[if_neg Ta6,if_neg H1.ae];exact hr
 clear hwa xy hnu YM nE Ic ahx hOp HOI hwd h1 mN;rcases ahz with ⟨hlen,rfl⟩| hlen
 ·obtain⟨⟨LE,v1⟩,rfl⟩:=amv hlen;open zeu in exact Zcm
 ·obtain⟨⟨LE,v1⟩,⟨y2,v2⟩,rfl⟩:=amw hlen;open zev in exact Zcm):p:=h
theorem zdo.KaH(h:p:=by rw[Ss] at Ie;obtain⟨hwa,YM,xy,hnu⟩:=Ie;open zgS in exact Ze6):p:=h
theorem zfn.Kbl(h:p:=by
 replace hR:=hR.later b2;replace hB:=ai.then hB b2;have cN:=aB.new W3 100 #[af a,ag wa,ag gi,.bool al,.bool nu,d];have HOI:=aa (UG.later (ah W3 (.cells #[af a,ag wa,ag gi,.bool al,.bool nu,d] 100)));have tK:=aa b2;clear UG KK b2 hd;generalize Ib:bH ⟨op,xv,name,width,A,args.length,c⟩=fe;have mN:=aa Ib;clear Ib;have x0:=hR.cell 0;have x1:=hR.cell 1;have z6:=hR.cell 6;have y0:=cN.cell 0;have y1:=cN.cell 1;have c2:=cN.cell 2;have y3:=cN.cell 3;have o4:=cN.cell 4;have o5:=cN.cell 5;simp only[Uaa] at x0 x1 z6 y0 y1 c2 y3 o4 o5;by_cases hf:fe=0
 ·subst hf;by_cases h1:op=1
  ·have HR:=aa (show tM ⟨op,xv,name,width,A,args.length,c⟩ (args.map (·.2))=(xv.k,0) by unfold tM;rw[if_neg Ta6,if_pos h1]);have t1:(op==1)=true:=by simpa using h1
   clear h1;go_wp2_with fail;exact bodyPost_ret (v:=.tuple #[ag xv.k,af 0]) Tap rfl ⟨by rw[HR.ae],hB⟩
  ·open zdo in exact ZbC
 ·have HR:=aa (show tM ⟨op,xv,name,width,A,args.length,c⟩ (args.map (·.2))=(0,fe) by unfold tM;rw[if_pos (by rw[mN.ae];exact hf),mN.ae]);have t1:(fe != 0)=true:=by simpa using hf
  clear hf;go_wp2_with fail;exact bodyPost_ret (v:=.tuple #[ag 0,af fe]) Tap rfl ⟨by rw[HR.ae],hB⟩):p:=h
theorem zby.Kal(h:p:=by go_wp2_with fail;refine(vz ⟨op,xv,name,width,A,args.length,c⟩ _).mono ?_;rintro e W3 ⟨oo,rfl,UG,KK⟩;clear x0 x1 z2 z3 z4 z5 z6;open zfn in exact Zdw):p:=h
theorem YV (op:Int)(xv:Val)(name:t_)(width:Int)(A:z_)(c:Nat)(cV:Value)(args:List (Ex×Int))(oL:op≠2\/args≠ [])(w:rQ)(hl:args.length<=1599289640356)(hA:RE w w.heap.size A (args.map (·.1)))(hE:∀a∈args,YU w cV a.1 a.2):
  ar 59 #[.agg #[ag op,ag xv.k,af xv.n,.string xv.s,.string name,af width,.slice A args.length c],cV] w λ en w'=>en=.returned (.tuple #[ag (tM ⟨op,xv,name,width,A,args.length,c⟩ (args.map (·.2))).1,af (tM ⟨op,xv,name,width,A,args.length,c⟩ (args.map (·.2))).2])/\aj w w':=by
 have Ia:=aa oL;have HA:=aa hA;have HE:=aa hE;clear hA hE oL;go_enter Tryz.func59,Tryz.ntmps59;have hX:=aB.new w 46 #[ag op,ag xv.k,af xv.n,.string xv.s,.string name,af width,.slice A args.length c];have z6:=hX.cell 6;simp only[Uaa] at z6;go_wp2_with fail;have Kx:=ah w (.cells #[ag op,ag xv.k,af xv.n,.string xv.s,.string name,af width,.slice A args.length c] 46);clear z6;generalize w.alloc (.cells #[ag op,ag xv.k,af xv.n,.string xv.s,.string name,af width,.slice A args.length c] 46)=W at*;go_loopw [6,17] (λ kv i wr=>∃k:Nat,k<=args.length/\i=af k/\aH dR 5 1 wr W.heap.size kv ((args.take k).map (·.2))/\aj W wr) (λ _ i _=>args.length - (intOf i).toNat);case atStart=>exact Zcz
 case round=>
  obtain⟨k,hk,rfl,hp,hb⟩:=hrel;have HP:=aa hp;clear hp;rcases Nat.lt_or_ge k args.length with hlt | vp
  ·obtain⟨b,off,rfl,kM,hex⟩:=(HA.ae.below (Kx.trans (hb.mono Kx.size))).at_ (show k <(args.map (·.1)).length by simpa using hlt);have jC:(args.map (·.1))[k]' Tan=args[k].1:=by simp
   exact ZaH
  ·have lT:args.take k=args:=take_of_length_le vp;rw[lT] at HP;clear lT;obtain⟨A9,c9,hu9,uD⟩:=dT (f:=dR) (size:=1) (λ _=>rfl) HP.ae;rw[length_map] at hu9;subst hu9;have hR:=hX.later hb;have hB:=ai.then Kx hb;clear HP hX Kx;have HKC:=aa uD;open zby in exact ZaA
def oO (w:rQ)(cV:Value)(y:Ex)(t e:Int):Prop:=∀W,aj w W->ar 59 #[.agg (az y),cV] W λ en w'=>en=.returned (.tuple #[ag t,af e])/\aj W w'
theorem zd8.KaR(h:p:=by
 have jC:(args.map (·.1)++bad::post)[k]' Tab=args[k].1:=by rw[getElem_append_left Tan];simp
 exact ZaH):p:=h
theorem zhM.Kch(h:p:=by
 have eI:=ai.then Kx (ai.then hb (ai.then bY KK));have te:(er != 0)=true:=by have:=OL.ae;simpa using this
 clear gS hex bY KK HX Kx hb;go_wp2_with fail;exact bodyPost_ret (v:=.tuple #[ag 0,af er]) Tap rfl ⟨rfl,eI⟩):p:=h
theorem zgU.KbV(h:p:=by clear jC gw HP;open zhM in exact Zgx):p:=h
theorem zd9.KaR(h:p:=by open zgU in exact Ze8):p:=h
theorem zfU.Kbx(h:p:=by
 have Kx:=ah w (.cells #[ag op,ag xv.k,af xv.n,.string xv.s,.string name,af width,.slice A n c] 46);clear x6;generalize w.alloc (.cells #[ag op,ag xv.k,af xv.n,.string xv.s,.string name,af width,.slice A n c] 46)=W at*;go_loopw [6,17] (λ kv i wr=>∃k:Nat,k<=args.length/\i=af k/\aH dR 5 1 wr W.heap.size kv ((args.take k).map (·.2))/\aj W wr) (λ _ i _=>args.length - (intOf i).toNat);case atStart=>exact Zcz
 case round=>
  obtain⟨k,hk,rfl,hp,hb⟩:=hrel;have HP:=aa hp;clear hp;rcases Nat.lt_or_ge k args.length with hlt | vp
  ·open zd8 in exact Zb8
  ·have gw:k=args.length:=by omega
   open zd9 in exact Zb8):p:=h
theorem YW (op:Int)(xv:Val)(name:t_)(width:Int)(A:z_)(n c:Nat)(cV:Value)(args:List (Ex×Int))(bad:Ex)(bt er:Int)(post:u_)(hn:args.length+1+post.length=n)(w:rQ)(hl:args.length<=1599289640356)(UJ:n<=1599289640356)(hA:RE w w.heap.size A (args.map (·.1)++bad::post))(hE:∀a∈args,YU w cV a.1 a.2)(kq:oO w cV bad bt er)(her:er≠0):
  ar 59 #[.agg #[ag op,ag xv.k,af xv.n,.string xv.s,.string name,af width,.slice A n c],cV] w λ en w'=>en=.returned (.tuple #[ag 0,af er])/\aj w w':=by have HN:=aa hn;have Ig:=aa kq;have OL:=aa her;clear hn kq her;have HA:=aa hA;have HE:=aa hE;clear hA hE;go_enter Tryz.func59,Tryz.ntmps59;have HX:=aB.new w 46 #[ag op,ag xv.k,af xv.n,.string xv.s,.string name,af width,.slice A n c];open zfU in exact Zd2
def mO (cols:List aV)(name:t_):Int×Int:=if cY name cols < cols.length then((cols.getD (cY name cols) ⟨ByteArray.empty,0⟩).t,0)else(0,41)
theorem zbz.Kal(h:p:=by go_wp2_with fail;exact bodyPost_ret (v:=.tuple #[ag 0,af 41]) Tap rfl ⟨by rw[HQ.ae],hB⟩):p:=h
theorem zeJ.Ka4(h:p:=by
 go_wp2_with fail;clear hst x0 x1 z2 z3 z4 z5 z6;refine(Fh cols CA cc name _ HK.ae hl).mono ?_;rintro e w' ⟨rfl,b3⟩;replace hR:=hR.later b3;replace hB:=ai.then hB b3;replace HK:=aa (HK.ae.later b3);clear b3;by_cases uD:cY name cols < cols.length
 ·have HP:=aa (show kR name cols=(cY name cols:Int) by unfold kR;rw[if_pos uD]);rw[HP.ae];have XQ:=aa (show mO cols name=((cols.getD (cY name cols) ⟨ByteArray.empty,0⟩).t,0) by unfold mO;rw[if_pos uD]);clear HP;generalize cY name cols=k at*;have hk2:(k:Int)<=140737488355328:=by omega
  have t0:decide (0<=(k:Int))=true:=decide_eq_true TD;obtain⟨b,off,rfl,kM,OQ⟩:=HK.ae.at_ uD;have HG:=aa (show cols.getD k ⟨ByteArray.empty,0⟩=cols[k] by rw[getD_eq_getElem?_getD,getElem?_eq_getElem uD];rfl);have HQ:=XQ;rw[HG.ae] at HQ;clear XQ;generalize cols[k]=x at*;unfold pR at OQ;have x0:=hR.cell 0;have x1:=hR.cell 1;have z2:=hR.cell 2;have z3:=hR.cell 3;have z4:=hR.cell 4;have z5:=hR.cell 5;have z6:=hR.cell 6;simp only[Uaa] at x0 x1 z2 z3 z4 z5 z6;go_wp2_with fail;exact bodyPost_ret (v:=.tuple #[ag x.t,af 0]) Tap rfl ⟨by rw[HQ.ae],hB⟩
 ·have HP:=aa (show kR name cols= -1 by unfold kR;rw[if_neg uD]);rw[HP.ae];have HQ:=aa (show mO cols name=(0,41) by unfold mO;rw[if_neg uD]);open zbz in exact ZaA):p:=h
theorem zf1.Kbz(h:p:=by clear Ib UG x0 x1 z2 z3 z4 z5 z6;have b3:=ai.then b1 (ah w1 (.cells #[af 0,ag 0,ag 0,.bool false,.bool false,.nilFunc] 100));replace hR:=hR.later b3;replace hB:=ai.then hB b3;open zeJ in exact Zcw):p:=h
theorem zhx.Kcb(h:p:=by
 go_wp2_with fail;have hB:=ah w (.cells #[ag 2,ag Kx.k,af Kx.n,.string Kx.s,.string name,af width,.slice A 0 c] 46);replace HK:=aa (HK.ae.later hB);clear z6;generalize w.alloc (.cells #[ag 2,ag Kx.k,af Kx.n,.string Kx.s,.string name,af width,.slice A 0 c] 46)=W at*;go_loopw [6,17] (λ kv i wr=>kv=ay/\i=af 0/\wr=W) (λ _ _ _=>0);case atStart=>exact⟨rfl,rfl,rfl⟩
 case round=>obtain⟨rfl,rfl,rfl⟩:=hrel;have x0:=hR.cell 0;have x1:=hR.cell 1;have z2:=hR.cell 2;have z3:=hR.cell 3;have z4:=hR.cell 4;have z5:=hR.cell 5;have z6:=hR.cell 6;simp only[Uaa] at x0 x1 z2 z3 z4 z5 z6;open zf1 in exact Zd8):p:=h
theorem YX (Kx:Val)(name:t_)(width:Int)(A:z_)(c:Nat)(cols:List aV)(CA:z_)(cc:Nat)(w:rQ)(hC:RC w w.heap.size CA cols)(hl:cols.length<=140737488355328):
  ar 59 #[.agg #[ag 2,ag Kx.k,af Kx.n,.string Kx.s,.string name,af width,.slice A 0 c],.slice CA cols.length cc] w λ en KK=>en=.returned (.tuple #[ag (mO cols name).1,af (mO cols name).2])/\aj w KK:=by have HK:=aa hC;clear hC;go_enter Tryz.func59,Tryz.ntmps59;have hR:=aB.new w 46 #[ag 2,ag Kx.k,af Kx.n,.string Kx.s,.string name,af width,.slice A 0 c];open zhx in exact Zgb
def gJ:List (Int×Int)->Int
 | []=>0
 | r::rs=>if r.2≠0 then r.2 else gJ rs
def pS (cols:List aV)(x:Ex)(rs:List (Int×Int)):Int×Int:=
 if gJ rs≠0 then(0,gJ rs)else if bH x≠0 then(0,bH x)else if x.op=1 then(x.v.k,0)else if x.op=2 then mO cols x.name else if iq x.op (rs.map (·.1))=false then(0,40)else(tY x.op,0)
mutual
def Tr.type (cols:List aV):Tr->Int×Int
 | .mk op v name width args=>pS cols ⟨op,v,name,width,none,args.length,0⟩ (Tr.types cols args)
def Tr.types (cols:List aV):uF->List (Int×Int)
 | []=> []
 | t::ts=>t.type cols::Tr.types cols ts
end
theorem Tr.oP (cols:List aV):∀ts,(Tr.types cols ts).length=ts.length
 | []=>by simp[Tr.types]
 | t::ts=>by simp[Tr.types,Tr.oP cols ts]
theorem oQ:∀(l:List (Ex×(Int×Int))),(∀a∈l,a.2.2=0)\/∃pre bad post,l=pre++bad::post/\(∀a∈pre,a.2.2=0)/\bad.2.2≠0
 | []=> .inl Taa
 | a::l=>by
   by_cases h:a.2.2=0
   ·rcases oQ l with h1 |⟨pre,bad,post,h1,h2,h3⟩
    ·exact .inl (by intro x hx;rcases List.mem_cons.1 hx with rfl | hx;exact h;exact h1 x hx)
    ·refine .inr ⟨a::pre,bad,post,by rw[h1];rfl,?_,h3⟩;intro x hx;rcases List.mem_cons.1 hx with rfl | hx
     ·exact h
     ·exact h2 x hx
   ·exact .inr ⟨[],a,l,rfl,by simp,h⟩
theorem qO:∀ {l:List (Int×Int)},(∀a∈l,a.2=0)->gJ l=0
 | [],_=>rfl
 | a::l,h=>by unfold gJ;rw[if_neg TaO];exact qO λ x hx=>h x Tbf
theorem xA:∀ {pre post:List (Int×Int)} {bad:Int×Int},(∀a∈pre,a.2=0)->bad.2≠0->gJ (pre++bad::post)=bad.2
 | [],post,bad,_,hb=>by unfold gJ;simp[hb]
 | a::pre,post,bad,h,hb=>by show gJ (a::(pre++bad::post))=_;unfold gJ;rw[if_neg TaO];exact xA (λ x hx=>h x Tbf) hb
section
variable (cols:List aV) (CA:z_) (cc:Nat)
theorem YY (op:Int)(xv:Val)(name:t_)(width:Int)(A:z_)(c:Nat)(args:List (Ex×(Int×Int)))(w:rQ)(hl:args.length<=1599289640356)(hA:RE w w.heap.size A (args.map (·.1)))
  (hC:RC w w.heap.size CA cols) (cL:cols.length<=140737488355328) (hE:∀a∈args,oO w (.slice CA cols.length cc) a.1 a.2.1 a.2.2):
  ar 59 #[.agg #[ag op,ag xv.k,af xv.n,.string xv.s,.string name,af width,.slice A args.length c],.slice CA cols.length cc] w λ en w'=>en=.returned (.tuple #[ag (pS cols ⟨op,xv,name,width,none,args.length,0⟩ (args.map (·.2))).1,af (pS cols ⟨op,xv,name,width,none,args.length,0⟩ (args.map (·.2))).2])/\aj w w':=by
 rcases oQ args with h0 |⟨pre,bad,post,rfl,Es,kq⟩
 ·have hf:gJ (args.map (·.2))=0:=qO λ a ha=>by obtain⟨z,hz,rfl⟩:=List.mem_map.1 ha;exact h0 z hz
  by_cases h2:op=2/\args=[]
  ·obtain⟨rfl,rfl⟩:=h2;have k:=YX xv name width A c cols CA cc w hC cL;have e:pS cols ⟨2,xv,name,width,none,0,0⟩ []=mO cols name:=by unfold pS;rw[if_neg (by simp[gJ]),if_neg (by simp[bH]),if_neg Taa,if_pos (by rfl)]
   show Calls _ _ _ _ λ en w'=>en=.returned (.tuple #[ag (pS cols ⟨2,xv,name,width,none,0,0⟩ []).1,af (pS cols ⟨2,xv,name,width,none,0,0⟩ []).2])/\_
   rw[e];exact k
  ·have k:=YV op xv name width A c (.slice CA cols.length cc) (args.map λ a=>(a.1,a.2.1)) (by
    by_cases ho:op=2
    ·right;intro h;exact h2 ⟨ho,by simpa using h⟩
    ·exact .inl ho) w (by simpa using hl) Tas (λ a ha=>by
    obtain⟨z,hz,rfl⟩:=List.mem_map.1 ha
    have:=hE z hz
    rw[h0 z hz] at this
    exact this)
   rw[length_map] at k;have hm:(args.map λ a=>(a.1,a.2.1)).map (·.2)=(args.map (·.2)).map (·.1):=by simp[Function.comp_def]
   rw[hm] at k;have e:pS cols ⟨op,xv,name,width,none,args.length,0⟩ (args.map (·.2))=tM ⟨op,xv,name,width,A,args.length,c⟩ ((args.map (·.2)).map (·.1)):=by have ahC:bH ⟨op,xv,name,width,A,args.length,c⟩=bH ⟨op,xv,name,width,none,args.length,0⟩:=rfl;unfold pS tM;exact ZbX
   rw[e];exact k
 ·have hbE:=hE bad Taa;have k:=YW op xv name width A (pre++bad::post).length c (.slice CA cols.length cc) (pre.map λ a=>(a.1,a.2.1)) bad.1 bad.2.1 bad.2.2 (post.map (·.1)) Tab w (by simp at hl ⊢;omega) hl Tas (λ a ha=>by
   obtain⟨z,hz',rfl⟩:=List.mem_map.1 ha
   have:=hE z (by simp[hz'])
   rw[Es z hz'] at this
   exact this) hbE kq
  have hf:gJ ((pre++bad::post).map (·.2))=bad.2.2:=by rw[map_append,map_cons];exact xA (λ a ha=>by obtain⟨z,hz',rfl⟩:=List.mem_map.1 ha;exact Es z hz') kq
  have e:pS cols ⟨op,xv,name,width,none,(pre++bad::post).length,0⟩ ((pre++bad::post).map (·.2))=(0,bad.2.2):=by unfold pS;rw[if_pos (by rw[hf];exact kq),hf]
  rw[e];exact k
mutual
theorem Tr.oT (cL:cols.length<=140737488355328):∀(t:Tr) (y:Ex) (w:rQ),t.ok->t.at_ w (Old w) y->RC w w.heap.size CA cols->oO w (.slice CA cols.length cc) y (t.type cols).1 (t.type cols).2
 | .mk op v name width args,y,w,aZ,hat,hC=>by
   intro W hb;have nX:=hat.later hb;unfold Tr.at_ at nX;obtain⟨h1,h2,h3,h4,h5,ys,h6,h7⟩:=nX;unfold Tr.ok at aZ;obtain⟨l,fJ,hl2,ud⟩:=Tr.Bz cL args ys W aZ.2.2.2.2.2 h7 (hC.later hb);obtain⟨Kc,yv,lj,ir,yA,yn,yc⟩:=y;dsimp only at h1 h2 h3 h4 h5 h6;subst h1 h2 h3 h4 h5;have hlen:l.length=args.length:=by
    have:(l.map (·.2)).length=(Tr.types cols args).length:=by rw[hl2]
    rw[length_map,Tr.oP] at this;exact this
   have k:=YY cols CA cc Kc yv lj ir yA yc l W (by rw[hlen];exact aZ.2.1) Tbc (hC.later hb) cL ud;rw[hl2,hlen] at k;unfold Tr.type;exact k
theorem Tr.Bz (cL:cols.length<=140737488355328):∀(ts:uF) (ys:u_) (w:rQ),Tr.cH ts->Tr.aM w (Old w) ts ys->RC w w.heap.size CA cols->∃l:List (Ex×(Int×Int)),l.map (·.1)=ys/\l.map (·.2)=Tr.types cols ts/\∀a∈l,oO w (.slice CA cols.length cc) a.1 a.2.1 a.2.2
 | [],ys,w,_,hat,_=>by unfold Tr.aM at hat;subst hat;exact⟨[],rfl,by simp[Tr.types],by simp⟩
 | t::ts,ys,w,aZ,hat,hC=>by
   unfold Tr.aM at hat;unfold Tr.cH at aZ;obtain⟨y,ys',rfl,h2,h3⟩:=hat;obtain⟨l,fJ,hl2,ud⟩:=Tr.Bz cL ts ys' w aZ.2 h3 hC;refine⟨(y,t.type cols)::l,by simp[fJ],by simp[hl2,Tr.types],λ a ha=>?_⟩;rcases List.mem_cons.1 ha with rfl | ha
   ·exact Tr.oT cL t y w aZ.1 h2 hC
   ·exact ud a ha
end
end
theorem vD:Tryz.prog.cellsOf 5=1:=by exact ZgH
theorem xB:Tryz.prog.cellsOf 2=1:=by exact ZgH
theorem ly:Tryz.prog.cellsOf 9=1:=by exact ZgH
theorem mP:Tryz.prog.cellsOf 44=3:=by exact ZgH
theorem Sx(h:(Lit.int .u8 n).wf=true):0<=n/\n<=255:=by exact ZgE
section
variable {H:Type} {enc:TypeId×Value->H} {w:rQ} {base:Nat} {spare:Nat->Bool} {held:Bool} {fuel:Nat} {cs:wL} {x:DataW H×List MemPlace}
theorem OT {n:Int}(h:(Lit.int .i64 n).wf=true): -9223372036854775808<=n/\n<=9223372036854775807:=by exact ZgE
theorem YZ (h:DataW.trod enc Tryz.prog w base spare held fuel 44 cs=some x):∃a:Val,cs=[ag a.k,af a.n,.string a.s]/\a.Ok/\0<=a.k/\a.k<=255:=by
 obtain⟨xs,n,_,_,hl,hlen,hf⟩:=DataW.trod_struct Tryz.underlying44 h;rw[mP] at hl
 match cs,hl with
 | [c0,c1,c2],_=>
   have get:∀i,i < 3->∃y,xs[i]?=some y:=λ i hi=>⟨xs[i]'(by simp at hlen;omega),getElem?_eq_getElem _⟩
   obtain⟨y0,e0⟩:=get 0 TD;obtain⟨y1,e1⟩:=get 1 TD;obtain⟨y2,e2⟩:=get 2 TD;have t0:DataW.trod enc Tryz.prog w base spare held n 5 (([c0,c1,c2].drop 0).take (Tryz.prog.cellsOf 5))=some y0:=(hf 0 _ rfl).trans e0;have t1:DataW.trod enc Tryz.prog w base spare held n 2 (([c0,c1,c2].drop 1).take (Tryz.prog.cellsOf 2))=some y1:=(hf 1 _ rfl).trans e1;have t2:DataW.trod enc Tryz.prog w base spare held n 9 (([c0,c1,c2].drop 2).take (Tryz.prog.cellsOf 9))=some y2:=(hf 2 _ rfl).trans e2;rw[vD] at t0;rw[xB] at t1;rw[ly] at t2;simp only[drop_succ_cons,drop_zero,take_succ_cons,take_zero] at t0 t1 t2;obtain⟨n0,q0,_,f0⟩:=DataW.trod_int Tryz.underlying5 t0;obtain⟨n1,q1,_,f1⟩:=DataW.trod_int Tryz.underlying2 t1;obtain⟨s,q2,_,f2⟩:=DataW.trod_string Tryz.underlying9 t2;simp at q0 q1 q2;subst q0 q1 q2;exact⟨⟨n0,n1,s⟩,rfl,OT f1,Sx f0⟩
end
theorem pick{P:Nat->α->Prop}:∀n,(∀i,i < n->∃x,P i x)->∃l:List α,l.length=n/\∀i x,l[i]?=some x->P i x
 | 0,_=>⟨[],rfl,λ i x h=>by simp at h⟩
 | n+1,h=>by
   obtain⟨l,hl,hp⟩:=pick n λ i hi=>h i TD
   obtain⟨y,hy⟩:=h n TD;refine⟨l++ [y],by simp[hl],λ i x hx=>?_⟩;rcases Nat.lt_trichotomy i n with hi | hi | hi
   ·rw[getElem?_append_left TD] at hx;exact hp i x hx
   ·subst hi;rw[getElem?_append_right TD,hl] at hx;simp at hx;subst hx;exact hy
   ·rw[getElem?_eq_none Tab] at hx;cases hx
theorem jX{a:Addr} (h:w.cell? a=some v):a.block < w.heap.size/\a.spot=none:=by
 unfold World.cell? at h;split at h
 ·rename_i hb;refine⟨?_,?_⟩
  ·rcases Nat.lt_or_ge a.block w.heap.size with h' | h'
   ·exact h'
   ·rw[Array.getElem?_eq_none h'] at hb;cases hb
  ·split at h
   ·cases h
   ·rename_i hs;simpa using hs
 ·cases h
end Go.Proofs.YtndgjggokjickaaGreatDoor
