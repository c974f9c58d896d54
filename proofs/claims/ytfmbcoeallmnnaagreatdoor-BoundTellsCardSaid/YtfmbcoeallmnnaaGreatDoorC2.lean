/- Parts of the proof. -/
import Derived.BigQuiet
import Derived.Test.YtfmbcoeallmnnaaGreatDoorRows
import Derived.Handy
import Derived.WalkLawsBesides
import Derived.Lib.Hide
import Derived.Deep.AppendLies
import Derived.Deep.RegionWith
import Derived.Test.YtfmbcoeallmnnaaGreatDoorC1
namespace Go.Proofs.YtfmbcoeallmnnaaGreatDoor
open Go.RowKit
structure Ext (B:Nat) (w0:World) where
 w:World
 h:Below B w0 w
instance (B:Nat) (w0:World):Nonempty (Ext B w0):=⟨⟨w0,Below.refl _ _⟩⟩
theorem gY {P:Program} {ops:Array Oper} {C:World→Prop} {Q:Act→Prop}:∀(l:List Oper) (a:Act),wpQuiet P ops C Q l a→
  ∃vs:List Value,vs.length=l.length∧
   (∀i o,l[i]?=some o→∃v,vs[i]?=some v∧
     ((Region.wanted o (yielded ops ((l.take i).zip vs |>.foldl (fun b ov=>b.put ov.1.dst ov.2) a).tmps)=true∧∀w,C w→o.quietAt P ((l.take i).zip vs |>.foldl (fun b ov=>b.put ov.1.dst ov.2) a) C w v)∨
      (Region.wanted o (yielded ops ((l.take i).zip vs |>.foldl (fun b ov=>b.put ov.1.dst ov.2) a).tmps)=false∧v=undef)))∧
   Q ((l.zip vs).foldl (fun b ov=>b.put ov.1.dst ov.2) a)
 | [],a,h=>⟨[],rfl,fun i o ho=>by simp at ho,h⟩
 | o::l,a,h=>by
   unfold wpQuiet at h;by_cases hw:Region.wanted o (yielded ops a.tmps)=true
   ·rw[if_pos hw] at h;obtain⟨v,hv,hn⟩:=h;obtain⟨vs,hl,hall,hq⟩:=gY l _ hn;refine⟨v::vs,by simp[hl],fun i o' oG=>?_,by simpa using hq⟩
    match i with
    | 0=>simp at oG;subst oG;exact⟨v,rfl,.inl ⟨by simpa using hw,by simpa using hv⟩⟩
    | i+1=>obtain⟨v',h1,h2⟩:=hall i o' (by simpa using oG);exact⟨v',by simpa using h1,by simpa using h2⟩
   ·rw[if_neg hw] at h;obtain⟨vs,hl,hall,hq⟩:=gY l _ h;refine⟨undef::vs,by simp[hl],fun i o' oG=>?_,by simpa using hq⟩
    match i with
    | 0=>simp at oG;subst oG;exact⟨undef,rfl,.inr ⟨by simpa using hw,rfl⟩⟩
    | i+1=>obtain⟨v',h1,h2⟩:=hall i o' (by simpa using oG);exact⟨v',by simpa using h1,by simpa using h2⟩
theorem gQ {l:List Oper} {vs:List Value} {k:Nat} {o:Oper} {v:Value}(hl:vs.length=l.length)(ho:l[k]?=some o)(hv:vs[k]?=some v):((l.take (k+1)).zip vs)=((l.take k).zip vs)++ [(o,v)]:=by
 have hk:k < l.length:=by
  rcases Nat.lt_or_ge k l.length with h' | h'
  ·exact h'
  ·rw[List.getElem?_eq_none h'] at ho;cases ho
 rw[List.take_add_one,ho];have e1:vs=vs.take k++v::vs.drop (k+1):=by
  conv=>lhs;rw[← List.take_append_drop k vs]
  congr 1;rw[List.drop_eq_getElem_cons (by omega)];congr 1;rw[List.getElem?_eq_getElem (by omega)] at hv;injection hv
 have hlen:(l.take k).length=(vs.take k).length:=by simp;omega
 conv=>lhs;rw[e1]
 rw[List.zip_append hlen];have e2:(l.take k).zip vs=(l.take k).zip (vs.take k):=by
  conv=>lhs;rw[← List.take_append_drop k vs]
  have h0:(l.take k++ []).zip (vs.take k++vs.drop k)=(l.take k).zip (vs.take k)++([]:List Oper).zip (vs.drop k):=List.zip_append hlen;simpa using h0
 rw[e2];simp
theorem lX {l:List Oper} {vs:List Value} {a:Act}(aS:bR l a.tmps.size l 0=true)(hl:vs.length=l.length):∀(k:Nat),k≤l.length→
  (((l.take k).zip vs).foldl (fun b ov=>b.put ov.1.dst ov.2) a).tmps.size=a.tmps.size∧
  (∀j oj d v,j < k→l[j]?=some oj→oj.dst=some d→vs[j]?=some v→(((l.take k).zip vs).foldl (fun b ov=>b.put ov.1.dst ov.2) a).tmps[d]?=some v)∧
  (∀t,(∀j oj,j < k→l[j]?=some oj→oj.dst≠some t)→(((l.take k).zip vs).foldl (fun b ov=>b.put ov.1.dst ov.2) a).tmps[t]?=a.tmps[t]?)
 | 0,_=>by simp
 | k+1,hk=>by
   obtain⟨h1,h2,h3⟩:=lX aS hl k (by omega);obtain⟨o,ho⟩:∃o,l[k]?=some o:=⟨l[k]'(by omega),List.getElem?_eq_getElem (by omega)⟩;obtain⟨v,hv⟩:∃v,vs[k]?=some v:=⟨vs[k]'(by omega),List.getElem?_eq_getElem (by omega)⟩;have e:=gQ hl ho hv;rw[e,List.foldl_append];generalize ((l.take k).zip vs).foldl (fun b ov=>b.put ov.1.dst ov.2) a=b at*;have dx:=aO aS k o ho;rw[Nat.zero_add] at dx;simp only[List.foldl_cons,List.foldl_nil];refine⟨?_,?_,?_⟩
   ·cases hd:o.dst <;> simp[Act.put,h1]
   ·intro j oj d v' hj gK hd hv';by_cases hjk:j=k
    ·subst hjk;rw[ho] at gK;injection gK with gK;subst gK
     rw[hv] at hv';injection hv' with hv';subst hv'
     simp only[eh,hd,Bool.and_eq_true,decide_eq_true_eq] at dx;have hb:d < b.tmps.size:=by rw[h1];exact dx.1.1.2.1
     simp[hd,Act.put,hb]
    ·have hold:=h2 j oj d v' (by omega) gK hd hv';cases PL:o.dst with
     | none=>exact hold
     | some d'=>
       have hne:d'≠d:=by intro e';subst e';have fJ:=aO aS j oj gK;simp only[eh,hd,Bool.and_eq_true,Nat.zero_add,beq_iff_eq] at fJ;simp only[eh,PL,Bool.and_eq_true,beq_iff_eq] at dx;rw[fJ.1.1.2.2] at dx;have:=dx.1.1.2.2;injection this with this;exact hjk this
       simp only[Act.put,Array.getElem?_setIfInBounds_ne hne];exact hold
   ·intro t ht;have hold:=h3 t (fun j oj hj gK=>ht j oj (by omega) gK);cases PL:o.dst with
    | none=>exact hold
    | some d'=>
      have hne:d'≠t:=fun e'=>ht k o (by omega) ho (by rw[PL,e'])
      simp only[Act.put,Array.getElem?_setIfInBounds_ne hne];exact hold
theorem fK {P:Program} {o:Oper} {a:Act} {C:World→Prop} {w:World} {v:Value} {ρ:Operand→Value}(tP:∀cs b,o.op≠ .select cs b)(he:∀x∈o.op.operands,ρ x=a.eval x)(hC:C w)
  (h:o.quietAt P a C w v):mE P o ρ w fun v' w'=>(C w→C w')∧v'=v:=by
 unfold Oper.quietAt at h;unfold mE;rw[execOp_congr o tP he];generalize (execOp a.eval o).run P w=r at*;cases r with
 | ok n w'=>
   cases n <;> simp only[Oper.quietUpon] at h;case value u=>obtain⟨rfl,rfl⟩:=h;exact⟨id,rfl⟩
   case skip=>obtain⟨rfl,rfl⟩:=h;exact⟨id,rfl⟩
   case enter f args=>obtain⟨rfl,hc⟩:=h;exact hc.mono fun e w'' ⟨he,hc'⟩=>⟨v,he,fun _=>hc',rfl⟩
 | halt x w'=>simp only[Oper.quietUpon] at h
theorem pR {o:Oper} {t:Tmp}:t∈tmpsOf o↔Operand.tmp t∈o.op.operands:=by
 unfold tmpsOf;simp only[List.mem_filterMap,Array.mem_toList_iff];constructor
 ·rintro⟨x,hx,h⟩;cases x <;> simp at h;subst h;exact hx
 ·intro h;exact⟨_,h,rfl⟩
theorem lY {l:List Oper} {V:Nat→World→Value→Prop} {Em ρ:Operand→Value} {w:World} {o:Oper}:∀ {ts:List Tmp},cD l V Em ρ w o ts→∀t∈ts,match dX l o t with | some j=>V j w (ρ (.tmp t))| none=>ρ (.tmp t)=Em (.tmp t)
 | [],_,t,h=>by cases h
 | x::ts,hr,t,h=>by
   rcases List.mem_cons.1 h with rfl | h
   ·exact hr.1
   ·exact lY hr.2 t h
def zU (l:List Oper):Bool:=l.all fun o=>match o.op with | .select _ _=>false | _=>true
theorem nJ {P:Program} {Q:Exit→Act→World→Prop} {a0:Act} {w0:World} {id:Nat} {ops:List Oper}(zs:List Oper)(l:List Oper)(nA:ops=l++zs)(C:World→Prop)(SQ:C w0)(iy:∀w,C w→C w.drew)
  (hm:P.follows .mixedOrders=true) (tP:zU l=true) (aS:bR l a0.tmps.size l 0=true) (hz:cF (l++zs) zs l.length=true)
  (h:wpQuiet P ops.toArray C (fun a=>∀w,C w→wpList P ops.toArray Q zs a w) l a0):(Code.region id ops.toArray true).wp P Q a0 w0:=by
 subst nA;obtain⟨vs,hl,hall,hq⟩:=gY l a0 h;refine nH zs l rfl (fun w w'=>C w→C w') (fun _ h=>h) (fun _ _ _ h1 h2 h=>h2 (h1 h)) (fun w h=>iy w h) (fun i _ v=>vs[i]?=some v) (fun _ _ _ _ h _=>h) hm aS hz ?_ ?_
 ·have key:∀(k:Nat) (rest:List Oper),l.drop k=rest→Steps P l (fun w w'=>C w→C w') (fun i _ v=>vs[i]?=some v) a0 w0 rest k:=by
   intro k rest;induction rest generalizing k with
   | nil=>intro _;trivial
   | cons o rest ih=>
     intro hk;have mI:l[k]?=some o:=by have:=congrArg (fun x=>x[0]?) hk;simpa using this
     have Ip:k < l.length:=by
      rcases Nat.lt_or_ge k l.length with h' | h'
      ·exact h'
      ·rw[List.getElem?_eq_none h'] at mI;cases mI
     refine⟨?_,ih (k+1) (by rw[← List.tail_drop,hk];rfl)⟩;intro ρ w hc hR hr;have FA:C w:=hR SQ;obtain⟨v,hv,uG⟩:=hall k o mI;obtain⟨f1,f2,f3⟩:=lX aS hl k (by omega);have dx:=aO aS k o mI;rw[Nat.zero_add] at dx;have uH:∀cs b,o.op≠ .select cs b:=by intro cs b e;have:=List.all_eq_true.1 tP o (List.mem_of_getElem? mI);rw[e] at this;cases this
     have mF:∀x∈o.op.operands,ρ x=(((l.take k).zip vs).foldl (fun b ov=>b.put ov.1.dst ov.2) a0).eval x:=by
      intro x hx;cases x with
      | const v=>rw[hc.const];rfl
      | global g=>rw[hc.global];rfl
      | func f=>rw[hc.func];rfl
      | tmp t=>
        have SR:=pR.2 hx;have hrt:=lY hr t SR;simp only[eh,Bool.and_eq_true] at dx;have LP:=List.all_eq_true.1 dx.1.2 t SR;unfold dX at hrt;cases hs:cA t l 0 with
        | none=>simp only[hs] at hrt;rw[hrt];refine(ep (f3 t ?_)).symm;intro j oj _ gK hd;obtain⟨j',hj'⟩:=eY (k:=0) gK hd;rw[hs] at hj';cases hj'
        | some j=>
          obtain⟨j',oj,e,hj,hd⟩:=fH hs;rw[Nat.zero_add] at e;subst e;simp only[hs] at hrt LP;by_cases he:eE o j=true
          ·simp only[he,if_true] at hrt;have hjk:j < k:=of_decide_eq_true (List.all_eq_true.1 dx.1.1.1 j (cN.1 he));have:=f2 j oj t _ hjk hj hd hrt;simp[Act.eval,this]
          ·rw[Bool.not_eq_true] at he;simp only[he,Bool.false_or,hj] at LP hrt;have PM:ρ (.tmp t)=a0.eval (.tmp t):=by simpa using hrt
           rw[PM];refine(ep (f3 t ?_)).symm;intro i oi hik hoi SS;have kB:=aO aS i oi hoi;simp only[eh,SS,Bool.and_eq_true,Nat.zero_add,beq_iff_eq] at kB;have Ix:i=j:=by have:=kB.1.1.2.2;rw[hs] at this;injection this with this;exact this.symm
           subst Ix;rw[hj] at hoi;injection hoi with hoi;subst hoi
           have fJ:=aO aS i oj hj;simp only[eh,Bool.and_eq_true,Nat.zero_add] at fJ;have:=of_decide_eq_true (List.all_eq_true.1 fJ.1.1.1 k (cN.1 LP));omega
     have hT:mE P o ρ w (fun v' w'=>(C w→C w')∧v'=v)→mE P o ρ w (fun v' w'=>(C w→C w')∧vs[k]?=some v'):=by
      unfold mE;intro h';generalize (execOp ρ o).run P w=r at*;cases r with
      | ok n w'=>
        cases n <;> first | exact⟨h'.1,by rw[h'.2];exact hv⟩| exact h'.elim | skip
        exact h'.mono fun e w'' ⟨u,h1,h2,h3⟩=>⟨u,h1,h2,by rw[h3];exact hv⟩
      | halt x w'=>exact h'.elim
     cases hg:o.guard with
     | none=>
       rcases uG with ⟨_,PN⟩|⟨hw,_⟩
       ·exact hT (fK uH mF FA (PN w FA))
       ·simp[Region.wanted,hg] at hw
     | some g=>
       obtain⟨j,want⟩:=g;simp only[eh,hg,Bool.and_eq_true] at dx;have hjk:j < k:=of_decide_eq_true (List.all_eq_true.1 dx.1.1.1 j (cN.1 dx.2.1));obtain⟨oj,gK⟩:∃oj,l[j]?=some oj:=⟨l[j]'(by omega),List.getElem?_eq_getElem (by omega)⟩;have wN:=dx.2.2;rw[gK] at wN;obtain⟨d,hd⟩:=Option.isSome_iff_exists.1 wN;simp only[gK,Option.bind_some,hd];intro PJ;have Iy:=f2 j oj d _ hjk gK hd PJ;have kC:yielded (l++zs).toArray (((l.take k).zip vs).foldl (fun b ov=>b.put ov.1.dst ov.2) a0).tmps j=match ρ (.tmp d)with | .bool b=>some b | _=>none:=by unfold yielded;rw[fI gK];simp only[Option.bind_some,hd,Iy];cases ρ (.tmp d)<;> rfl
       constructor
       ·intro jv;rcases uG with ⟨_,PN⟩|⟨hw,_⟩
        ·exact hT (fK uH mF FA (PN w FA))
        ·simp[Region.wanted,hg,kC,jv] at hw
       ·intro jv;rcases uG with ⟨hw,_⟩|⟨_,hu⟩
        ·exfalso;simp only[Region.wanted,hg,kC] at hw;apply jv;cases lL:ρ (.tmp d)<;> rw[lL] at hw <;> simp at hw;rw[hw]
        ·rw[← hu];exact hv
  exact key 0 l rfl
 ·intro w hR;have FA:C w:=hR SQ;have key:∀(k:Nat) (rest:List Oper),l.drop k=rest→k≤l.length→dr (fun i _ v=>vs[i]?=some v) (fun a w=>wpList P (l++zs).toArray Q zs a w) rest k (((l.take k).zip vs).foldl (fun b ov=>b.put ov.1.dst ov.2) a0) w:=by
   intro k rest;induction rest generalizing k with
   | nil=>intro hk Ct;have:l.length≤k:=List.drop_eq_nil_iff.1 hk;have e:l.take k=l:=List.take_of_length_le this;rw[e];exact hq w FA
   | cons o rest ih=>
     intro hk Ct;have mI:l[k]?=some o:=by have:=congrArg (fun x=>x[0]?) hk;simpa using this
     have Ip:k < l.length:=by
      rcases Nat.lt_or_ge k l.length with h' | h'
      ·exact h'
      ·rw[List.getElem?_eq_none h'] at mI;cases mI
     have hstep:∀v,vs[k]?=some v→((l.take (k+1)).zip vs).foldl (fun b ov=>b.put ov.1.dst ov.2) a0=(((l.take k).zip vs).foldl (fun b ov=>b.put ov.1.dst ov.2) a0).put o.dst v:=by intro v hv;rw[gQ hl mI hv,List.foldl_append];rfl
     have lW:=ih (k+1) (by rw[← List.tail_drop,hk];rfl) (by omega);unfold dr;cases hd:o.dst with
     | none=>simp only;obtain⟨v,hv⟩:∃v,vs[k]?=some v:=⟨vs[k]'(by omega),List.getElem?_eq_getElem (by omega)⟩;rw[hstep v hv,hd] at lW;exact lW
     | some d=>simp only;intro v hv;rw[hstep v hv,hd] at lW;exact lW
  have:=key 0 l rfl (by omega);simpa using this
theorem cZ {P:Program} {Q:Exit→Act→World→Prop} {a0:Act} {w:World} {id:Nat} {ops:List Oper}(k B:Nat)(w0:World)(hb:Below B w0 w)(hm:P.follows .mixedOrders=true)(tP:zU (ops.take k)=true)
  (aS:bR (ops.take k) a0.tmps.size (ops.take k) 0=true) (hz:cF ops (ops.drop k) (ops.take k).length=true)
  (h:wpQuiet P ops.toArray (fun w'=>∃x:Ext B w0,w'=x.w) (fun a=>∀w,(∃x:Ext B w0,w=x.w)→wpList P ops.toArray Q (ops.drop k) a w) (ops.take k) a0):(Code.region id ops.toArray true).wp P Q a0 w:=
 nJ (ops.drop k) (ops.take k) (List.take_append_drop k ops).symm (fun w'=>∃x:Ext B w0,w'=x.w) ⟨⟨w,hb⟩,rfl⟩ (fun w' ⟨x,e⟩=>⟨⟨w'.drew,by rw[e];exact x.h.drew⟩,rfl⟩) hm tP aS (by rw[List.take_append_drop];exact hz) h
theorem dP {P:Program} {f:FuncId} {args:Array Value} {B:Nat} {w0:World} {x:Ext B w0} {v:Value}(hB:B≤w0.heap.size)
  (h:Calls P f args x.w fun e w'=>e=.returned v∧Below x.w.heap.size x.w w'):Calls P f args x.w fun e w''=>e=.returned v∧∃x:Ext B w0,w''=x.w:=
 h.mono fun _ _ ⟨he,hb⟩=>⟨he,⟨_,x.h.trans (hb.mono (Nat.le_trans hB x.h.size))⟩,rfl⟩
theorem dD {P:Program} {f:FuncId} {args:Array Value} {B:Nat} {w0:World} {x:Ext B w0} {v:Value}
  (h:Calls P f args x.w fun e w'=>e=.returned v∧x.w=w'):Calls P f args x.w fun e w''=>e=.returned v∧∃x:Ext B w0,w''=x.w:=
 h.mono fun _ _ ⟨he,hb⟩=>⟨he,x,hb.symm⟩
def ae (w w':World):Prop:=Below w.heap.size w w'
theorem ae.refl (w:World):ae w w:=Below.refl _ _
theorem ae.trans {a b c:World}(h:ae a b)(k:ae b c):ae a c:=Below.trans h (Below.mono k h.size)
theorem ae.drew (w:World):ae w w.drew:=(Below.refl _ _).drew
section
variable {P:Program} {o:Oper} {ρ:Operand→Value} {w:World} {T:Value→World→Prop}
theorem cJ {v:Value} {w':World}(h:(execOp ρ o).run P w=.ok (.value v) w')(hT:T v w'):mE P o ρ w T:=by unfold mE;rw[h];exact hT
theorem uI {w':World}(h:(execOp ρ o).run P w=.ok .skip w')(hT:T undef w'):mE P o ρ w T:=by unfold mE;rw[h];exact hT
theorem lZ {f:FuncId} {args:Array Value} {w':World}(h:(execOp ρ o).run P w=.ok (.enter f args) w')(hc:Calls P f args w' fun e w''=>∃v,e=.returned v∧T v w''):mE P o ρ w T:=by unfold mE;rw[h];exact hc
theorem Iz {x:Operand} {v:Value}(ho:o.op=.move x∨o.op=.assign x)(hx:ρ x=v)(hT:T v w):mE P o ρ w T:=by refine cJ (v:=v) (w':=w) ?_ hT;rcases ho with ho | ho <;> simp[execOp,ho,hx]
end
open Go.ChangeShapes Go.WideShapes Go.ChangeAt
set_option linter.unusedVariables false
def SU (a b:Int):Int:=if a < b then -1 else if b < a then 1 else 0
def zV (a b:ByteArray):Int:=if Op.bytesLess a.toList b.toList=true then -1 else if (a.toList==b.toList)=true then 0 else 1
def G5 (x y z:Int):Int:=if x=0 then(if y=0 then z else y)else x
structure Val where
 k:Int
 n:Int
 s:ByteArray
def FB (a b:Val):Int:=G5 (SU a.k b.k) (SU a.n b.n) (zV a.s b.s)
theorem mJ (a:Addr)(n:Nat):(a.add n).block=a.block:=by unfold Addr.add;split <;> rfl
def Reads (w:World)(B size:Nat)(A:Option Addr)(n:Nat)(xs:List Value):Prop:=
 xs.length=n*size∧(0 < n→∃ad,A=some ad∧ad.block < B∧∀j u,xs[j]?=some u→w.cell? (ad.add j)=some u)
section
variable {w w':World} {B B' size n:Nat} {A:Option Addr} {xs:List Value}
theorem Reads.none_:Reads w B size A 0 []:=⟨by simp,fun h=>absurd h (by omega)⟩
theorem Reads.keep (h:Reads w B size A n xs)(hk:∀p:Addr,p.block < B→w'.cell? p=w.cell? p):Reads w' B size A n xs:=
 ⟨h.1,fun hn=>by
   obtain⟨ad,e,hb,hc⟩:=h.2 hn
   exact⟨ad,e,hb,fun j u hu=>(hk _ (by rw[mJ];exact hb)).trans (hc j u hu)⟩⟩
theorem Reads.more (h:Reads w B size A n xs)(hB:B≤B'):Reads w B' size A n xs:=
 ⟨h.1,fun hn=>by
   obtain⟨ad,e,hb,hc⟩:=h.2 hn
   exact⟨ad,e,by omega,hc⟩⟩
theorem Reads.below (h:Reads w B size A n xs)(hb:Below B w w'):Reads w' B size A n xs:=h.keep fun _ hp=>hb.cell hp
theorem Reads.Cu {base:Nat} {e:TypeId} {c:Nat}(h:w.ownsRow base e size (.slice A n c) n xs):Reads w w.heap.size size A n xs:=by
 refine⟨h.1,fun hn=>?_⟩;obtain⟨g,cap,hv,_,hlt⟩:=h.form hn;have hA:A=some ⟨g,0,none⟩:=by injection hv
 subst hA;exact⟨_,rfl,hlt,h.cells (g:=g) rfl⟩
end
section
variable {P:Program} (w:World)
theorem iz (base:Nat)(t ty e:TypeId)(i:TypeInfo)(size:Nat)(ht:P.underlying t=some (.slice e))(hi:P.info? e=some i)
  (v:Value) (n:Nat) (xs:List Value) (hown:w.ownsRow base e size v n xs) (c:Nat):(Builtin.append_ #[t,t] ty #[v,.slice none 0 c]).run P w=.ok v w:=by
 rcases hown.2 with ⟨rfl,rfl⟩|⟨g,cap,cur,rfl,_,_,Wj,_⟩
 ·simp[Builtin.append_,run_underlying ht,sizeOf,typeInfo,hi,Builtin.lenOf,Builtin.firstCells]
 ·simp[Builtin.append_,run_underlying ht,sizeOf,typeInfo,hi,Builtin.lenOf,Builtin.firstCells,Wj,storeCells]
theorem fL (base:Nat)(t ty e:TypeId)(i:TypeInfo)(z:Value)(size bytes:Nat)(ht:P.underlying t=some (.slice e))(hi:P.info? e=some i)(hz:i.zero=some z)
  (hsize:i.size=size) (hby:i.bytes=bytes) (hzs:z.cells.size=size) (hsz:0 < size)
  (v:Value) (n:Nat) (xs:List Value) (hown:w.ownsRow base e size v n xs)
  (B:Nat) (A:Option Addr) (m c:Nat) (news:List Value) (hr:Reads w B size A m news) (h1:∀u∈news,u.oneCell'=true)
  (h63:n+m≤maxLen) (hbytes:(n+m)*bytes≤140737488355328) (hbase:base≤w.heap.size):
  ∃v' w',(Builtin.append_ #[t,t] ty #[v,.slice A m c]).run P w=.ok v' w'∧w'.ownsRow base e size v' (n+m) (xs++news)∧w.grownBy w' v.ownBlock∧
   (v'.ownBlock=v.ownBlock∨v'.ownBlock=some w.heap.size):=by
 rcases A with _ | ad
 ·have hm:m=0:=by
   rcases Nat.eq_zero_or_pos m with h0 | h0
   ·exact h0
   ·obtain⟨ad,h,_⟩:=hr.2 h0;cases h
  subst hm;have hn:news=[]:=List.eq_nil_of_length_eq_zero (by simpa using hr.1);subst hn;exact⟨v,w,iz w base t ty e i size ht hi v n xs hown c,by simpa using hown,World.grownBy.refl w _,.inl rfl⟩
 ·have rL:∀j u,news[j]?=some u→w.cell? (ad.add j)=some u:=by
   intro j u hu;rcases Nat.eq_zero_or_pos m with h0 | h0
   ·subst h0;have hn:news=[]:=List.eq_nil_of_length_eq_zero (by simpa using hr.1);subst hn;simp at hu
   ·obtain⟨G6,h,_,hc⟩:=hr.2 h0;injection h with h;subst h;exact hc j u hu
  obtain⟨v',w',hrun,h2,h3,_,h5⟩:=run_append_own_at (P:=P) w base t ty e i z size bytes ht hi hz hsize hby hzs hsz v n xs hown ad m c news hr.1 rL h1 h63 hbytes hbase;exact⟨v',w',hrun,h2,h3,h5⟩
theorem lM {o:Oper} {a:Act} {K:Act→World→Prop} {Q:Exit→Act→World→Prop}(s x:Operand)(t:TypeId)
  (ho:o.op=.call { callee:=.builtin .append,args:= #[s,x],argTypes:= #[t,t] })
  (base:Nat) (e:TypeId) (i:TypeInfo) (z:Value) (size bytes:Nat) (ht:P.underlying t=some (.slice e)) (hi:P.info? e=some i) (hz:i.zero=some z)
  (hsize:i.size=size) (hby:i.bytes=bytes) (hzs:z.cells.size=size) (hsz:0 < size)
  (v:Value) (n:Nat) (xs:List Value) (hs:a.eval s=v) (hown:w.ownsRow base e size v n xs)
  (B:Nat) (A:Option Addr) (m c:Nat) (news:List Value) (hx:a.eval x=.slice A m c) (hr:Reads w B size A m news) (h1:∀u∈news,u.oneCell'=true)
  (h63:n+m≤maxLen) (hbytes:(n+m)*bytes≤140737488355328) (hbase:base≤w.heap.size)
  (h:∀v' w',w'.ownsRow base e size v' (n+m) (xs++news)→w.grownBy w' v.ownBlock→(v'.ownBlock=v.ownBlock∨v'.ownBlock=some w.heap.size)→K (a.put o.dst v') w'):o.wp P a w K Q:=by
 obtain⟨v',w',hrun,h2,h3,h4⟩:=fL (P:=P) w base t o.type e i z size bytes ht hi hz hsize hby hzs hsz v n xs hown B A m c news hr h1 h63 hbytes hbase;unfold Oper.wp execOp;simp only[ho,resolve,invoke,builtin,Sem.run_bind,Sem.run_pure,Result.andThen_ok,List.map_toArray,List.map_cons,List.map_nil,hs,hx,hrun];exact h v' w' h2 h3 h4
theorem eu {ops:Array Oper} {rest:List Oper} {o:Oper} {a:Act} {Q:Exit→Act→World→Prop}(hgd:o.guard=none)(s x:Operand)(t:TypeId)
  (ho:o.op=.call { callee:=.builtin .append,args:= #[s,x],argTypes:= #[t,t] })
  (base:Nat) (e:TypeId) (i:TypeInfo) (z:Value) (size bytes:Nat) (ht:P.underlying t=some (.slice e)) (hi:P.info? e=some i) (hz:i.zero=some z)
  (hsize:i.size=size) (hby:i.bytes=bytes) (hzs:z.cells.size=size) (hsz:0 < size)
  (v:Value) (n:Nat) (xs:List Value) (hs:a.eval s=v) (hown:w.ownsRow base e size v n xs)
  (B:Nat) (A:Option Addr) (m c:Nat) (news:List Value) (hx:a.eval x=.slice A m c) (hr:Reads w B size A m news) (h1:∀u∈news,u.oneCell'=true)
  (h63:n+m≤maxLen) (hbytes:(n+m)*bytes≤140737488355328) (hbase:base≤w.heap.size)
  (h:∀v' w',w'.ownsRow base e size v' (n+m) (xs++news)→w.grownBy w' v.ownBlock→(v'.ownBlock=v.ownBlock∨v'.ownBlock=some w.heap.size)→wpList P ops Q rest (a.put o.dst v') w'):wpList P ops Q (o::rest) a w:=
 wpList_plain hgd fun _ hK=>lM w s x t ho base e i z size bytes ht hi hz hsize hby hzs hsz v n xs hs hown B A m c news hx hr h1 h63 hbytes hbase fun v' w' h2 h3 h4=>hK _ _ (h v' w' h2 h3 h4)
end
def ah (w:World)(g:Nat)(t:TypeId)(cs:Array Value):Prop:=w.heap[g]?=some (.cells cs t (0,0))
section
variable {w w':World} {g:Nat} {t:TypeId} {cs:Array Value}
theorem ah.lt (h:ah w g t cs):g < w.heap.size:=by
 rcases Nat.lt_or_ge g w.heap.size with hlt | Ck
 ·exact hlt
 ·unfold ah at h;rw[Array.getElem?_eq_none Ck] at h;cases h
theorem ah.cell (h:ah w g t cs)(i:Nat):w.cell? ⟨g,i,none⟩=cs[i]?:=cell_of_row w g i cs t (0,0) h
theorem ah.frozen (h:ah w g t cs)(i:Nat):w.frozen? ⟨g,i,none⟩=false:=by unfold ah at h;simp[World.frozen?,h]
theorem ah.new (w:World)(t:TypeId)(cs:Array Value):ah (w.alloc (.cells cs t)) w.heap.size t cs:=heap_alloc_new w _
theorem ah.drew (h:ah w g t cs):ah w.drew g t cs:=h
theorem ah.alloc (h:ah w g t cs)(o:Obj):ah (w.alloc o) g t cs:=(Below.heap_alloc w o g h.lt).trans h
theorem ah.cn (h:ah w g t cs)(i:Nat)(u:Value):ah (w.setCell ⟨g,i,none⟩ u) g t (cs.setIfInBounds i u):=by unfold ah at h ⊢;simp[World.setCell,Array.getElem?_modify,h]
theorem ah.far (h:ah w g t cs) {p:Addr}(hp:g≠p.block)(u:Value):ah (w.setCell p u) g t cs:=(Below.heap_setCell w p u g hp).trans h
theorem ah.below {B:Nat}(h:ah w g t cs)(hb:Below B w w')(hg:g < B):ah w' g t cs:=(hb.block g hg).trans h
theorem ah.later (h:ah w g t cs)(hb:Below w.heap.size w w'):ah w' g t cs:=h.below hb h.lt
theorem ah.grown {row:Option Nat}(h:ah w g t cs)(hb:w.grownBy w' row)(hg:some g≠row):ah w' g t cs:=(hb.block g h.lt hg).trans h
end
def aW {α:Type}(f:α→List Value)(e:TypeId)(size:Nat)(w:World)(base:Nat)(v:Value)(l:List α):Prop:=w.ownsRow base e size v l.length (l.flatMap f)
section
variable {α:Type} {f:α→List Value} {e:TypeId} {size:Nat} {w w':World} {base:Nat} {v:Value} {l:List α}
theorem aW.nil:aW f e size w base (.slice none 0 0) []:=⟨by simp,.inl ⟨rfl,rfl⟩⟩
theorem aW.reads (h:aW f e size w base v l):∃A c,v=.slice A l.length c∧Reads w w.heap.size size A l.length (l.flatMap f)∧l.length≤c∧(l=[]∨∃g,A=some ⟨g,0,none⟩∧base≤g):=by
 rcases h.2 with ⟨rfl,h0⟩|⟨g,cap,cur,rfl,hb,hg,hn,hm,hs,ht⟩
 ·have:l=[]:=List.eq_nil_of_length_eq_zero h0;subst this;exact⟨none,0,rfl,Reads.none_,Nat.le_refl _,.inl rfl⟩
 ·exact⟨some ⟨g,0,none⟩,cap,rfl,Reads.Cu h,hn,.inr ⟨g,rfl,hb⟩⟩
theorem aW.keep (h:aW f e size w base v l)(hk:∀g,v.ownBlock=some g→w'.heap[g]?=w.heap[g]?):aW f e size w' base v l:=by
 refine⟨h.1,?_⟩;rcases h.2 with h0 |⟨g,cap,cur,rfl,hbg,hg,hn,hm,hs,ht⟩
 ·exact .inl h0
 ·exact .inr ⟨g,cap,cur,rfl,hbg,(hk g rfl).trans hg,hn,hm,hs,ht⟩
theorem aW.lt (h:aW f e size w base v l) {g:Nat}(hg:v.ownBlock=some g):g < w.heap.size∧base≤g∧∃cur,w.heap[g]?=some (.cells cur e (0,0)):=by
 rcases h.2 with ⟨rfl,_⟩|⟨g',cap,cur,rfl,hbg,Cv,hn,hm,hs,ht⟩
 ·simp[Value.ownBlock] at hg
 ·simp only[Value.ownBlock,Option.some.injEq] at hg;subst hg;refine⟨?_,hbg,cur,Cv⟩;rcases Nat.lt_or_ge g' w.heap.size with hlt | Ck
  ·exact hlt
  ·rw[Array.getElem?_eq_none Ck] at Cv;cases Cv
theorem aW.later (h:aW f e size w base v l)(hb:Below w.heap.size w w'):aW f e size w' base v l:=h.keep fun g hg=>hb.block g (h.lt hg).1
theorem aW.other (h:aW f e size w base v l) {q:Nat} {t:TypeId} {cs:Array Value}(hq:ah w q t cs)(ht:t≠e):v.ownBlock≠some q:=by intro hg;obtain⟨_,_,cur,hc⟩:=h.lt hg;unfold ah at hq;rw[hq] at hc;injection hc with hc;injection hc with _ hc _;exact ht hc
theorem aW.grown {p:Nat}(h:aW f e size w base v l)(hg:w.grownBy w' (some p))(hp:v.ownBlock≠some p):aW f e size w' base v l:=h.keep fun g cU=>hg.block g (h.lt cU).1 fun e=>hp (by rw[cU];exact e)
theorem iU (h:aW f e size w base v l)(hg:w.grownBy w' v.ownBlock)(hbase:base≤w.heap.size):Below base w w':=by refine⟨hg.os,hg.tape,hg.output,hg.size,fun k hk=>hg.block k (by omega) fun e=>?_⟩;have:=(h.lt e.symm).2.1;omega
theorem ew {P:Program} {ops:Array Oper} {rest:List Oper} {o:Oper} {a:Act} {Q:Exit→Act→World→Prop}(hgd:o.guard=none)(s x:Operand)(t:TypeId)
  (ho:o.op=.call { callee:=.builtin .append,args:= #[s,x],argTypes:= #[t,t] })
  (z:Value) (bytes:Nat) (ht:P.underlying t=some (.slice e)) (jw:(P.info? e).map (fun i=>(i.zero,i.size,i.bytes))=some (some z,size,bytes)) (hzs:z.cells.size=size) (hsz:0 < size)
  (y:α) (hf:(f y).length=size) (h1:∀u∈f y,u.oneCell'=true)
  (hs:a.eval s=v) (hown:aW f e size w base v l)
  (g:Nat) (hx:a.eval x=.slice (some ⟨g,0,none⟩) 1 1) (hg:ah w g e (f y).toArray)
  (hlen:(l.length+1)*bytes≤140737488355328) (kD:l.length+1≤140737488355328) (hbase:base≤w.heap.size)
  (h:∀v' w',aW f e size w' base v' (l++ [y])→w.grownBy w' v.ownBlock→wpList P ops Q rest (a.put o.dst v') w'):wpList P ops Q (o::rest) a w:=by
 obtain⟨i0,pj,hz0,hz1,hz2⟩:=info_parts jw;refine eu w hgd s x t ho base e i0 z size bytes ht pj hz0 hz1 hz2 hzs hsz v l.length (l.flatMap f) hs hown (g+1) (some ⟨g,0,none⟩) 1 1 (f y) hx ⟨by omega,fun _=>⟨_,rfl,Nat.lt_succ_self _,?_⟩⟩ h1 (by unfold maxLen;omega) hlen hbase ?_
 ·intro j u hu;have:(Addr.add ⟨g,0,none⟩ j)=⟨g,j,none⟩:=by unfold Addr.add;split <;> simp_all
  rw[this,hg.cell];simpa using hu
 ·intro v' w' h2 h3 h4;refine h v' w' ?_ h3;unfold aW;rw[List.length_append,List.flatMap_append];simpa using h2
end
set_option linter.unusedSimpArgs false
def aL:Val:=⟨0,0,ByteArray.empty⟩
def num (n:Int):Val:=⟨2,n,ByteArray.empty⟩
def kY (b:Bool):Val:=⟨1,if b then 1 else 0,ByteArray.empty⟩
def Val.Ok (a:Val):Prop:= -9223372036854775808≤a.n∧a.n≤9223372036854775807
theorem ae.then {a b c:World}(h:Below a.heap.size a b)(k:Below b.heap.size b c):Below a.heap.size a c:=h.trans (k.mono h.size)
theorem aa (w:World)(o:Obj):Below w.heap.size w (w.alloc o):=(Below.refl _ _).alloc (Nat.le_refl _) o
def pS (s:ByteArray):Bool:=s.toList== []
def good (v:Val):Bool:=
 if v.k=0 then(v.n==0 && pS v.s)else if v.k=1 then(pS v.s &&(v.n==0 || v.n==1))else if v.k=2 then pS v.s else if v.k=3 then v.n==0 else false
set_option maxHeartbeats 2000000
theorem IA (v:Val)(w:World):Calls Tryz.prog 44 #[.agg #[.int .u8 v.k,.int .i64 v.n,.string v.s]] w fun e w'=>e=.returned (.bool (good v))∧Below w.heap.size w w':=by
 obtain⟨k,n,s⟩:=v;unfold good pS;dsimp only;by_cases h0:k=0
 ·subst h0;go_enter Tryz.func44,Tryz.ntmps44;go_wp2;all_goals
   go_ret;refine⟨?_,by go_grown⟩;simp_all
 ·have e0:(k==0)=false:=by simpa using h0
  by_cases h1:k=1
  ·subst h1;cases hs:(s.toList== [])
   ·go_enter Tryz.func44,Tryz.ntmps44;go_wp2;all_goals
     go_ret;refine⟨?_,by go_grown⟩;simp_all
   ·cases hn:(n==0)
    ·go_enter Tryz.func44,Tryz.ntmps44;go_wp2;all_goals
      go_ret;refine⟨?_,by go_grown⟩;simp_all
    ·go_enter Tryz.func44,Tryz.ntmps44;go_wp2;all_goals
      go_ret;refine⟨?_,by go_grown⟩;simp_all
  ·have e1:(k==1)=false:=by simpa using h1
   by_cases h2:k=2
   ·subst h2;go_enter Tryz.func44,Tryz.ntmps44;go_wp2;all_goals
     go_ret;refine⟨?_,by go_grown⟩;simp_all
   ·have e2:(k==2)=false:=by simpa using h2
    by_cases h3:k=3
    ·subst h3;go_enter Tryz.func44,Tryz.ntmps44;go_wp2;all_goals
      go_ret;refine⟨?_,by go_grown⟩;simp_all
    ·have e3:(k==3)=false:=by simpa using h3
     go_enter Tryz.func44,Tryz.ntmps44;go_wp2;all_goals
      go_ret;refine⟨?_,by go_grown⟩;simp_all
def uJ (n:Int)(ok:Bool):Val×Int:=if ok then(num n,0)else(aL,43)
theorem FC (n:Int)(w:World):Calls Tryz.prog 67 #[.int .i64 n] w fun e w'=>e=.returned (.bool (decide (1≤n)&& decide (n≤1099511627776)))∧w=w':=by
 by_cases h1:1≤n
 ·have d1:decide (1≤n)=true:=by simpa using h1
  rw[d1];go_enter Tryz.func67,Tryz.ntmps67;go_wp2;all_goals
   go_ret;refine⟨?_,by first | rfl | go_grown⟩;simp_all
 ·have d1:decide (1≤n)=false:=by simpa using h1
  rw[d1];go_enter Tryz.func67,Tryz.ntmps67;go_wp2;all_goals
   go_ret;refine⟨?_,by first | rfl | go_grown⟩;simp_all
def fD (op:Int):Int:=if op=21 then 0 else if 22≤op∧op≤26 then 1 else if op=27∨op=28 then 2 else -1
theorem eF (op:Int)(w:World):Calls Tryz.prog 55 #[.int .u8 op] w fun e w'=>e=.returned (.int .i64 (fD op))∧w=w':=by
 unfold fD;by_cases h1:op=21
 ·subst h1;go_enter Tryz.func55,Tryz.ntmps55;go_wp2;go_ret;exact⟨rfl,rfl⟩
 ·have e1:(op==21)=false:=by simpa using h1
  rw[if_neg h1];by_cases h2:22≤op∧op≤26
  ·rw[if_pos h2];obtain⟨h2,h3⟩:=h2;have d2:decide (22≤op)=true:=by simpa using h2
   have d3:decide (op≤26)=true:=by simpa using h3
   go_enter Tryz.func55,Tryz.ntmps55;go_wp2;go_ret;exact⟨rfl,rfl⟩
  ·rw[if_neg h2];have IB:decide (22≤op)=false∨(decide (22≤op)=true∧decide (op≤26)=false):=by
    by_cases h:22≤op
    ·right;simp;omega
    ·left;simpa using h
   by_cases h3:op=27∨op=28
   ·rw[if_pos h3];rcases h3 with rfl | rfl;all_goals
     go_enter Tryz.func55,Tryz.ntmps55;go_wp2;go_ret;exact⟨rfl,rfl⟩
   ·rw[if_neg h3];have e3:(op==27)=false:=by rw[beq_eq_false_iff_ne];omega
    have e4:(op==28)=false:=by rw[beq_eq_false_iff_ne];omega
    clear h1 h2 h3;rcases IB with d2 |⟨d2,d3⟩;all_goals
     go_enter Tryz.func55,Tryz.ntmps55;go_wp2;go_ret;exact⟨rfl,rfl⟩
structure Sp where
 a:Int
 b:Int
def aM (s:Sp):Value:=.agg #[.int .i64 s.a,.int .i64 s.b]
def cP:Int:= -4611687117939015680
def bo:Int:=4611687117939015679
def aw:Sp:=⟨0,0⟩
def aP:Sp:=⟨cP,bo⟩
def ct (a b:Int):Sp:=if b≤a then aw else⟨a,b⟩
def cw (x y:Sp):Sp:=ct (max x.a y.a) (min x.b y.b)
def iV (k:Int):Sp:=ct cP (min k bo)
def kE (k:Int):Sp:=if bo - 1≤k then aw else ct (max (k+1) cP) bo
def fM (k:Int):Sp:=ct (max k cP) bo
def jx (k:Int):Sp:=iV (min k (bo - 1)+1)
def pT (op k:Int):Sp:=
 if op=12 then iV k else if op=14 then kE k else if op=15 then fM k else if op=13 then jx k else cw (fM k) (jx k)
def yu (op:Int):Bool:=decide (op=10∨12≤op∧op≤15)
def Cw (x y:Sp):Sp:=if x.b≤x.a then y else if y.b≤y.a then x else⟨min x.a y.a,max x.b y.b⟩
def Wk (a b:Int):Val×Int:=uJ (wrap64 (a+b)) (decide (a < wrap64 (a+b))==decide (0 < b))
def Wl (a b:Int):Val×Int:=uJ (wrap64 (a - b)) (decide (wrap64 (a - b)< a)==decide (0 < b))
def Wm (a b:Int):Val×Int:=uJ (wrap64 (a*b)) (a==0 ||(wrap64 (Int.tdiv (wrap64 (a*b)) a)==b &&(a != -1 || b != -9223372036854775808)))
def Wo (a b:Int):Val×Int:=uJ (wrap64 (Int.tdiv a b)) (a != -9223372036854775808 || b != -1)
def Wp (a b:Int):Val×Int:=uJ (Int.tmod a b) true
def Wt (a:Int):Val×Int:=uJ (wrap64 (-a)) (a != -9223372036854775808)
structure Ex where
 op:Int
 v:Val
 name:ByteArray
 width:Int
 A:Option Addr
 n:Nat
 c:Nat
def Wu (a b:Int):Val×Int:=if b=0 then(aL,44)else Wo a b
def Wv (a b:Int):Val×Int:=if b=0 then(aL,44)else Wp a b
def Oo (n wd:Int):Int:=n % wd
def Mi (n wd:Int):Val×Int:=uJ (wrap64 (n - Oo n wd)) (decide (-9223372036854775808+Oo n wd≤n))
def jy (v x:Val):Bool:=v.k==x.k && v.n==x.n && v.s.toList==x.s.toList
def SV (v:Val)(l:List Val):Bool:=l.any (jy v)
def IC (short:Bool)(l:List Val):Val:=if SV (kY short) l then kY short else if SV aL l then aL else kY (!short)
end Go.Proofs.YtfmbcoeallmnnaaGreatDoor
