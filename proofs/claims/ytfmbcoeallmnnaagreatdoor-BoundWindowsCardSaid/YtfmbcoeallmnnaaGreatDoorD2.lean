/- Parts of the proof. -/
import Derived.BigQuiet
import Derived.Test.YtfmbcoeallmnnaaGreatDoorRows
import Derived.Handy
import Derived.WalkLawsBesides
import Derived.Lib.Hide
import Derived.Deep.AppendLies
import Derived.Deep.RegionWith
import Derived.Test.YtfmbcoeallmnnaaGreatDoorD1
namespace Go.Proofs.YtfmbcoeallmnnaaGreatDoor
open Go.RowKit
structure Ext (B:Nat) (w0:World) where
 w:World
 h:Below B w0 w
instance (B:Nat) (w0:World):Nonempty (Ext B w0):=⟨⟨w0,Below.refl _ _⟩⟩
theorem Ext.cell {B:Nat} {w0:World}(x:Ext B w0) {p:Addr}(hp:p.block < B):x.w.cell? p=w0.cell? p:=x.h.cell hp
theorem iD {P:Program} {ops:Array Oper} {C:World→Prop} {Q:Act→Prop}:∀(l:List Oper) (a:Act),wpQuiet P ops C Q l a→
  ∃vs:List Value,vs.length=l.length∧
   (∀i o,l[i]?=some o→∃v,vs[i]?=some v∧
     ((Region.wanted o (yielded ops ((l.take i).zip vs |>.foldl (fun b ov=>b.put ov.1.dst ov.2) a).tmps)=true∧∀w,C w→o.quietAt P ((l.take i).zip vs |>.foldl (fun b ov=>b.put ov.1.dst ov.2) a) C w v)∨
      (Region.wanted o (yielded ops ((l.take i).zip vs |>.foldl (fun b ov=>b.put ov.1.dst ov.2) a).tmps)=false∧v=undef)))∧
   Q ((l.zip vs).foldl (fun b ov=>b.put ov.1.dst ov.2) a)
 | [],a,h=>⟨[],rfl,fun i o ho=>by simp at ho,h⟩
 | o::l,a,h=>by
   unfold wpQuiet at h;by_cases hw:Region.wanted o (yielded ops a.tmps)=true
   ·rw[if_pos hw] at h;obtain⟨v,hv,hn⟩:=h;obtain⟨vs,hl,hall,hq⟩:=iD l _ hn;refine⟨v::vs,by simp[hl],fun i o' pI=>?_,by simpa using hq⟩
    match i with
    | 0=>simp at pI;subst pI;exact⟨v,rfl,.inl ⟨by simpa using hw,by simpa using hv⟩⟩
    | i+1=>obtain⟨v',h1,h2⟩:=hall i o' (by simpa using pI);exact⟨v',by simpa using h1,by simpa using h2⟩
   ·rw[if_neg hw] at h;obtain⟨vs,hl,hall,hq⟩:=iD l _ h;refine⟨undef::vs,by simp[hl],fun i o' pI=>?_,by simpa using hq⟩
    match i with
    | 0=>simp at pI;subst pI;exact⟨undef,rfl,.inr ⟨by simpa using hw,rfl⟩⟩
    | i+1=>obtain⟨v',h1,h2⟩:=hall i o' (by simpa using pI);exact⟨v',by simpa using h1,by simpa using h2⟩
theorem iu {l:List Oper} {vs:List Value} {k:Nat} {o:Oper} {v:Value}(hl:vs.length=l.length)(ho:l[k]?=some o)(hv:vs[k]?=some v):((l.take (k+1)).zip vs)=((l.take k).zip vs)++ [(o,v)]:=by
 have hk:k < l.length:=by
  rcases Nat.lt_or_ge k l.length with h' | h'
  ·exact h'
  ·rw[List.getElem?_eq_none h'] at ho;cases ho
 rw[List.take_add_one,ho];have e1:vs=vs.take k++v::vs.drop (k+1):=by
  conv=>lhs;rw[← List.take_append_drop k vs]
  congr 1;rw[List.drop_eq_getElem_cons (by omega)];congr 1;rw[List.getElem?_eq_getElem (by omega)] at hv;injection hv
 have hlen:(l.take k).length=(vs.take k).length:=by simp;omega
 conv=>lhs;rw[e1]
 rw[List.zip_append hlen];have e2:(l.take k).zip vs=(l.take k).zip (vs.take k):=by
  conv=>lhs;rw[← List.take_append_drop k vs]
  have h0:(l.take k++ []).zip (vs.take k++vs.drop k)=(l.take k).zip (vs.take k)++([]:List Oper).zip (vs.drop k):=List.zip_append hlen;simpa using h0
 rw[e2];simp
theorem mG {l:List Oper} {vs:List Value} {a:Act}(aZ:bX l a.tmps.size l 0=true)(hl:vs.length=l.length):∀(k:Nat),k≤l.length→
  (((l.take k).zip vs).foldl (fun b ov=>b.put ov.1.dst ov.2) a).tmps.size=a.tmps.size∧
  (∀j oj d v,j < k→l[j]?=some oj→oj.dst=some d→vs[j]?=some v→(((l.take k).zip vs).foldl (fun b ov=>b.put ov.1.dst ov.2) a).tmps[d]?=some v)∧
  (∀t,(∀j oj,j < k→l[j]?=some oj→oj.dst≠some t)→(((l.take k).zip vs).foldl (fun b ov=>b.put ov.1.dst ov.2) a).tmps[t]?=a.tmps[t]?)
 | 0,_=>by simp
 | k+1,hk=>by
   obtain⟨h1,h2,h3⟩:=mG aZ hl k (by omega);obtain⟨o,ho⟩:∃o,l[k]?=some o:=⟨l[k]'(by omega),List.getElem?_eq_getElem (by omega)⟩;obtain⟨v,hv⟩:∃v,vs[k]?=some v:=⟨vs[k]'(by omega),List.getElem?_eq_getElem (by omega)⟩;have e:=iu hl ho hv;rw[e,List.foldl_append];generalize ((l.take k).zip vs).foldl (fun b ov=>b.put ov.1.dst ov.2) a=b at*;have dF:=aR aZ k o ho;rw[Nat.zero_add] at dF;simp only[List.foldl_cons,List.foldl_nil];refine⟨?_,?_,?_⟩
   ·cases hd:o.dst <;> simp[Act.put,h1]
   ·intro j oj d v' hj ig hd hv';by_cases hjk:j=k
    ·subst hjk;rw[ho] at ig;injection ig with ig;subst ig
     rw[hv] at hv';injection hv' with hv';subst hv'
     simp only[ew,hd,Bool.and_eq_true,decide_eq_true_eq] at dF;have hb:d < b.tmps.size:=by rw[h1];exact dF.1.1.2.1
     simp[hd,Act.put,hb]
    ·have hold:=h2 j oj d v' (by omega) ig hd hv';cases Un:o.dst with
     | none=>exact hold
     | some d'=>
       have hne:d'≠d:=by intro e';subst e';have fX:=aR aZ j oj ig;simp only[ew,hd,Bool.and_eq_true,Nat.zero_add,beq_iff_eq] at fX;simp only[ew,Un,Bool.and_eq_true,beq_iff_eq] at dF;rw[fX.1.1.2.2] at dF;have:=dF.1.1.2.2;injection this with this;exact hjk this
       simp only[Act.put,Array.getElem?_setIfInBounds_ne hne];exact hold
   ·intro t ht;have hold:=h3 t (fun j oj hj ig=>ht j oj (by omega) ig);cases Un:o.dst with
    | none=>exact hold
    | some d'=>
      have hne:d'≠t:=fun e'=>ht k o (by omega) ho (by rw[Un,e'])
      simp only[Act.put,Array.getElem?_setIfInBounds_ne hne];exact hold
theorem fY {P:Program} {o:Oper} {a:Act} {C:World→Prop} {w:World} {v:Value} {ρ:Operand→Value}(vp:∀cs b,o.op≠ .select cs b)(he:∀x∈o.op.operands,ρ x=a.eval x)(hC:C w)
  (h:o.quietAt P a C w v):nw P o ρ w fun v' w'=>(C w→C w')∧v'=v:=by
 unfold Oper.quietAt at h;unfold nw;rw[execOp_congr o vp he];generalize (execOp a.eval o).run P w=r at*;cases r with
 | ok n w'=>
   cases n <;> simp only[Oper.quietUpon] at h;case value u=>obtain⟨rfl,rfl⟩:=h;exact⟨id,rfl⟩
   case skip=>obtain⟨rfl,rfl⟩:=h;exact⟨id,rfl⟩
   case enter f args=>obtain⟨rfl,hc⟩:=h;exact hc.mono fun e w'' ⟨he,hc'⟩=>⟨v,he,fun _=>hc',rfl⟩
 | halt x w'=>simp only[Oper.quietUpon] at h
theorem qP {o:Oper} {t:Tmp}:t∈tmpsOf o↔Operand.tmp t∈o.op.operands:=by
 unfold tmpsOf;simp only[List.mem_filterMap,Array.mem_toList_iff];constructor
 ·rintro⟨x,hx,h⟩;cases x <;> simp at h;subst h;exact hx
 ·intro h;exact⟨_,h,rfl⟩
theorem mH {l:List Oper} {V:Nat→World→Value→Prop} {Hy ρ:Operand→Value} {w:World} {o:Oper}:∀ {ts:List Tmp},cL l V Hy ρ w o ts→∀t∈ts,match ed l o t with | some j=>V j w (ρ (.tmp t))| none=>ρ (.tmp t)=Hy (.tmp t)
 | [],_,t,h=>by cases h
 | x::ts,hr,t,h=>by
   rcases List.mem_cons.1 h with rfl | h
   ·exact hr.1
   ·exact mH hr.2 t h
def Cx (l:List Oper):Bool:=l.all fun o=>match o.op with | .select _ _=>false | _=>true
theorem oI {P:Program} {Q:Exit→Act→World→Prop} {a0:Act} {w0:World} {id:Nat} {ops:List Oper}(zs:List Oper)(l:List Oper)(ow:ops=l++zs)(C:World→Prop)(XF:C w0)(iW:∀w,C w→C w.drew)
  (hm:P.follows .mixedOrders=true) (vp:Cx l=true) (aZ:bX l a0.tmps.size l 0=true) (hz:cH (l++zs) zs l.length=true)
  (h:wpQuiet P ops.toArray C (fun a=>∀w,C w→wpList P ops.toArray Q zs a w) l a0):(Code.region id ops.toArray true).wp P Q a0 w0:=by
 subst ow;obtain⟨vs,hl,hall,hq⟩:=iD l a0 h;refine iJ zs l rfl (fun w w'=>C w→C w') (fun _ h=>h) (fun _ _ _ h1 h2 h=>h2 (h1 h)) (fun w h=>iW w h) (fun i _ v=>vs[i]?=some v) (fun _ _ _ _ h _=>h) hm aZ hz ?_ ?_
 ·have key:∀(k:Nat) (rest:List Oper),l.drop k=rest→Steps P l (fun w w'=>C w→C w') (fun i _ v=>vs[i]?=some v) a0 w0 rest k:=by
   intro k rest;induction rest generalizing k with
   | nil=>intro _;trivial
   | cons o rest ih=>
     intro hk;have nz:l[k]?=some o:=by have:=congrArg (fun x=>x[0]?) hk;simpa using this
     have Mf:k < l.length:=by
      rcases Nat.lt_or_ge k l.length with h' | h'
      ·exact h'
      ·rw[List.getElem?_eq_none h'] at nz;cases nz
     refine⟨?_,ih (k+1) (by rw[← List.tail_drop,hk];rfl)⟩;intro ρ w hc hR hr;have Jx:C w:=hR XF;obtain⟨v,hv,wq⟩:=hall k o nz;obtain⟨f1,f2,f3⟩:=mG aZ hl k (by omega);have dF:=aR aZ k o nz;rw[Nat.zero_add] at dF;have wu:∀cs b,o.op≠ .select cs b:=by intro cs b e;have:=List.all_eq_true.1 vp o (List.mem_of_getElem? nz);rw[e] at this;cases this
     have mC:∀x∈o.op.operands,ρ x=(((l.take k).zip vs).foldl (fun b ov=>b.put ov.1.dst ov.2) a0).eval x:=by
      intro x hx;cases x with
      | const v=>rw[hc.const];rfl
      | global g=>rw[hc.global];rfl
      | func f=>rw[hc.func];rfl
      | tmp t=>
        have XG:=qP.2 hx;have hrt:=mH hr t XG;simp only[ew,Bool.and_eq_true] at dF;have PQ:=List.all_eq_true.1 dF.1.2 t XG;unfold ed at hrt;cases hs:cF t l 0 with
        | none=>simp only[hs] at hrt;rw[hrt];refine(eB (f3 t ?_)).symm;intro j oj _ ig hd;obtain⟨j',hj'⟩:=fl (k:=0) ig hd;rw[hs] at hj';cases hj'
        | some j=>
          obtain⟨j',oj,e,hj,hd⟩:=fV hs;rw[Nat.zero_add] at e;subst e;simp only[hs] at hrt PQ;by_cases he:eK o j=true
          ·simp only[he,if_true] at hrt;have hjk:j < k:=of_decide_eq_true (List.all_eq_true.1 dF.1.1.1 j (cY.1 he));have:=f2 j oj t _ hjk hj hd hrt;simp[Act.eval,this]
          ·rw[Bool.not_eq_true] at he;simp only[he,Bool.false_or,hj] at PQ hrt;have Uo:ρ (.tmp t)=a0.eval (.tmp t):=by simpa using hrt
           rw[Uo];refine(eB (f3 t ?_)).symm;intro i oi hik hoi XH;have kY:=aR aZ i oi hoi;simp only[ew,XH,Bool.and_eq_true,Nat.zero_add,beq_iff_eq] at kY;have Mk:i=j:=by have:=kY.1.1.2.2;rw[hs] at this;injection this with this;exact this.symm
           subst Mk;rw[hj] at hoi;injection hoi with hoi;subst hoi
           have fX:=aR aZ i oj hj;simp only[ew,Bool.and_eq_true,Nat.zero_add] at fX;have:=of_decide_eq_true (List.all_eq_true.1 fX.1.1.1 k (cY.1 PQ));omega
     have hT:nw P o ρ w (fun v' w'=>(C w→C w')∧v'=v)→nw P o ρ w (fun v' w'=>(C w→C w')∧vs[k]?=some v'):=by
      unfold nw;intro h';generalize (execOp ρ o).run P w=r at*;cases r with
      | ok n w'=>
        cases n <;> first | exact⟨h'.1,by rw[h'.2];exact hv⟩| exact h'.elim | skip
        exact h'.mono fun e w'' ⟨u,h1,h2,h3⟩=>⟨u,h1,h2,by rw[h3];exact hv⟩
      | halt x w'=>exact h'.elim
     cases hg:o.guard with
     | none=>
       rcases wq with ⟨_,Up⟩|⟨hw,_⟩
       ·exact hT (fY wu mC Jx (Up w Jx))
       ·simp[Region.wanted,hg] at hw
     | some g=>
       obtain⟨j,want⟩:=g;simp only[ew,hg,Bool.and_eq_true] at dF;have hjk:j < k:=of_decide_eq_true (List.all_eq_true.1 dF.1.1.1 j (cY.1 dF.2.1));obtain⟨oj,ig⟩:∃oj,l[j]?=some oj:=⟨l[j]'(by omega),List.getElem?_eq_getElem (by omega)⟩;have yR:=dF.2.2;rw[ig] at yR;obtain⟨d,hd⟩:=Option.isSome_iff_exists.1 yR;simp only[ig,Option.bind_some,hd];intro Ul;have Ml:=f2 j oj d _ hjk ig hd Ul;have kZ:yielded (l++zs).toArray (((l.take k).zip vs).foldl (fun b ov=>b.put ov.1.dst ov.2) a0).tmps j=match ρ (.tmp d)with | .bool b=>some b | _=>none:=by unfold yielded;rw[fW ig];simp only[Option.bind_some,hd,Ml];cases ρ (.tmp d)<;> rfl
       constructor
       ·intro jU;rcases wq with ⟨_,Up⟩|⟨hw,_⟩
        ·exact hT (fY wu mC Jx (Up w Jx))
        ·simp[Region.wanted,hg,kZ,jU] at hw
       ·intro jU;rcases wq with ⟨hw,_⟩|⟨_,hu⟩
        ·exfalso;simp only[Region.wanted,hg,kZ] at hw;apply jU;cases lU:ρ (.tmp d)<;> rw[lU] at hw <;> simp at hw;rw[hw]
        ·rw[← hu];exact hv
  exact key 0 l rfl
 ·intro w hR;have Jx:C w:=hR XF;have key:∀(k:Nat) (rest:List Oper),l.drop k=rest→k≤l.length→cN (fun i _ v=>vs[i]?=some v) (fun a w=>wpList P (l++zs).toArray Q zs a w) rest k (((l.take k).zip vs).foldl (fun b ov=>b.put ov.1.dst ov.2) a0) w:=by
   intro k rest;induction rest generalizing k with
   | nil=>intro hk Fp;have:l.length≤k:=List.drop_eq_nil_iff.1 hk;have e:l.take k=l:=List.take_of_length_le this;rw[e];exact hq w Jx
   | cons o rest ih=>
     intro hk Fp;have nz:l[k]?=some o:=by have:=congrArg (fun x=>x[0]?) hk;simpa using this
     have Mf:k < l.length:=by
      rcases Nat.lt_or_ge k l.length with h' | h'
      ·exact h'
      ·rw[List.getElem?_eq_none h'] at nz;cases nz
     have hstep:∀v,vs[k]?=some v→((l.take (k+1)).zip vs).foldl (fun b ov=>b.put ov.1.dst ov.2) a0=(((l.take k).zip vs).foldl (fun b ov=>b.put ov.1.dst ov.2) a0).put o.dst v:=by intro v hv;rw[iu hl nz hv,List.foldl_append];rfl
     have mF:=ih (k+1) (by rw[← List.tail_drop,hk];rfl) (by omega);unfold cN;cases hd:o.dst with
     | none=>simp only;obtain⟨v,hv⟩:∃v,vs[k]?=some v:=⟨vs[k]'(by omega),List.getElem?_eq_getElem (by omega)⟩;rw[hstep v hv,hd] at mF;exact mF
     | some d=>simp only;intro v hv;rw[hstep v hv,hd] at mF;exact mF
  have:=key 0 l rfl (by omega);simpa using this
theorem bD {P:Program} {Q:Exit→Act→World→Prop} {a0:Act} {w:World} {id:Nat} {ops:List Oper}(k B:Nat)(w0:World)(hb:Below B w0 w)(hm:P.follows .mixedOrders=true)(vp:Cx (ops.take k)=true)
  (aZ:bX (ops.take k) a0.tmps.size (ops.take k) 0=true) (hz:cH ops (ops.drop k) (ops.take k).length=true)
  (h:wpQuiet P ops.toArray (fun w'=>∃x:Ext B w0,w'=x.w) (fun a=>∀w,(∃x:Ext B w0,w=x.w)→wpList P ops.toArray Q (ops.drop k) a w) (ops.take k) a0):(Code.region id ops.toArray true).wp P Q a0 w:=
 oI (ops.drop k) (ops.take k) (List.take_append_drop k ops).symm (fun w'=>∃x:Ext B w0,w'=x.w) ⟨⟨w,hb⟩,rfl⟩ (fun w' ⟨x,e⟩=>⟨⟨w'.drew,by rw[e];exact x.h.drew⟩,rfl⟩) hm vp aZ (by rw[List.take_append_drop];exact hz) h
theorem aT {P:Program} {f:FuncId} {args:Array Value} {B:Nat} {w0:World} {x:Ext B w0} {v:Value}(hB:B≤w0.heap.size)
  (h:Calls P f args x.w fun e w'=>e=.returned v∧Below x.w.heap.size x.w w'):Calls P f args x.w fun e w''=>e=.returned v∧∃x:Ext B w0,w''=x.w:=
 h.mono fun _ _ ⟨he,hb⟩=>⟨he,⟨_,x.h.trans (hb.mono (Nat.le_trans hB x.h.size))⟩,rfl⟩
theorem di {P:Program} {f:FuncId} {args:Array Value} {B:Nat} {w0:World} {x:Ext B w0} {v:Value}
  (h:Calls P f args x.w fun e w'=>e=.returned v∧x.w=w'):Calls P f args x.w fun e w''=>e=.returned v∧∃x:Ext B w0,w''=x.w:=
 h.mono fun _ _ ⟨he,hb⟩=>⟨he,x,hb.symm⟩
def ae (w w':World):Prop:=Below w.heap.size w w'
theorem ae.refl (w:World):ae w w:=Below.refl _ _
theorem ae.trans {a b c:World}(h:ae a b)(k:ae b c):ae a c:=Below.trans h (Below.mono k h.size)
theorem ae.drew (w:World):ae w w.drew:=(Below.refl _ _).drew
section
variable {P:Program} {o:Oper} {ρ:Operand→Value} {w:World} {T:Value→World→Prop}
theorem ai {v:Value} {w':World}(h:(execOp ρ o).run P w=.ok (.value v) w')(hT:T v w'):nw P o ρ w T:=by unfold nw;rw[h];exact hT
theorem wy {w':World}(h:(execOp ρ o).run P w=.ok .skip w')(hT:T undef w'):nw P o ρ w T:=by unfold nw;rw[h];exact hT
theorem fZ {f:FuncId} {args:Array Value} {w':World}(h:(execOp ρ o).run P w=.ok (.enter f args) w')(hc:Calls P f args w' fun e w''=>∃v,e=.returned v∧T v w''):nw P o ρ w T:=by unfold nw;rw[h];exact hc
theorem oJ {x:Operand} {v:Value}(ho:o.op=.move x∨o.op=.assign x)(hx:ρ x=v)(hT:T v w):nw P o ρ w T:=by refine ai (v:=v) (w':=w) ?_ hT;rcases ho with ho | ho <;> simp[execOp,ho,hx]
end
open Go.ChangeShapes Go.WideShapes Go.ChangeAt
set_option linter.unusedVariables false
def mI (a b:Int):Int:=if a < b then -1 else if b < a then 1 else 0
set_option maxHeartbeats 1000000
theorem Uq (a b:Int)(w:World):Calls Tryz.prog 135 #[.int .u8 a,.int .u8 b] w fun e w'=>e=.returned (.int .i64 (mI a b))∧w=w':=by
 unfold mI;by_cases h1:a < b
 ·go_enter Tryz.func135,Tryz.ntmps135;go_wp2;go_ret;exact⟨rfl,rfl⟩
 ·by_cases h2:b < a
  ·go_enter Tryz.func135,Tryz.ntmps135;go_wp2;go_ret;exact⟨rfl,rfl⟩
  ·go_enter Tryz.func135,Tryz.ntmps135;go_wp2;go_ret;exact⟨rfl,rfl⟩
theorem Qj (a b:Int)(w:World):Calls Tryz.prog 136 #[.int .i64 a,.int .i64 b] w fun e w'=>e=.returned (.int .i64 (mI a b))∧w=w':=by
 unfold mI;by_cases h1:a < b
 ·go_enter Tryz.func136,Tryz.ntmps136;go_wp2;go_ret;exact⟨rfl,rfl⟩
 ·by_cases h2:b < a
  ·go_enter Tryz.func136,Tryz.ntmps136;go_wp2;go_ret;exact⟨rfl,rfl⟩
  ·go_enter Tryz.func136,Tryz.ntmps136;go_wp2;go_ret;exact⟨rfl,rfl⟩
def tF (a b:ByteArray):Int:=if Op.bytesLess a.toList b.toList=true then -1 else if (a.toList==b.toList)=true then 0 else 1
theorem Qk (a b:ByteArray)(w:World):Calls Tryz.prog 137 #[.string a,.string b] w fun e w'=>e=.returned (.int .i64 (tF a b))∧w=w':=by
 unfold tF;cases h1:Op.bytesLess a.toList b.toList
 ·cases h2:(a.toList==b.toList)
  ·go_enter Tryz.func137,Tryz.ntmps137;go_wp2;go_ret;exact⟨rfl,rfl⟩
  ·go_enter Tryz.func137,Tryz.ntmps137;go_wp2;go_ret;exact⟨rfl,rfl⟩
 ·go_enter Tryz.func137,Tryz.ntmps137;go_wp2;go_ret;exact⟨rfl,rfl⟩
def XI (x y z:Int):Int:=if x=0 then(if y=0 then z else y)else x
theorem Mm (x y z:Int)(w:World):Calls Tryz.prog 134 #[.slice (some ⟨w.heap.size,0,none⟩) 3 3] (w.alloc (.cells #[.int .i64 x,.int .i64 y,.int .i64 z] 3)) fun e w'=>
  e=.returned (.int .i64 (XI x y z))∧w'=w.alloc (.cells #[.int .i64 x,.int .i64 y,.int .i64 z] 3):=by
 unfold XI;have q1:∀u:Int,u≠0→((u != 0)=true):=fun u h=>by simp[h]
 by_cases h1:x=0
 ·subst h1;by_cases h2:y=0
  ·subst h2;by_cases h3:z=0
   ·subst h3;go_enter Tryz.func134,Tryz.ntmps134;go_wp2;refine wp_loop_rounds 4 ?_
    iterate 4 (rw[rounds_succ];go_wp2)
    go_ret;exact⟨rfl,rfl⟩
   ·have:=q1 z h3;go_enter Tryz.func134,Tryz.ntmps134;go_wp2;refine wp_loop_rounds 4 ?_
    iterate 3 (rw[rounds_succ];go_wp2)
    go_ret;exact⟨rfl,rfl⟩
  ·have:=q1 y h2;go_enter Tryz.func134,Tryz.ntmps134;go_wp2;refine wp_loop_rounds 4 ?_
   iterate 2 (rw[rounds_succ];go_wp2)
   go_ret;exact⟨rfl,rfl⟩
 ·have:=q1 x h1;go_enter Tryz.func134,Tryz.ntmps134;go_wp2;refine wp_loop_rounds 4 ?_;rw[rounds_succ];go_wp2;go_ret;exact⟨rfl,rfl⟩
structure Val where
 k:Int
 n:Int
 s:ByteArray
def gf (a b:Val):Int:=XI (mI a.k b.k) (mI a.n b.n) (tF a.s b.s)
theorem iK (a b:Val)(w:World):Calls Tryz.prog 118 #[.agg #[.int .u8 a.k,.int .i64 a.n,.string a.s],.agg #[.int .u8 b.k,.int .i64 b.n,.string b.s]] w fun e w'=>
  e=.returned (.int .i64 (gf a b))∧Below w.heap.size w w':=by
 obtain⟨ak,an,ax⟩:=a;obtain⟨bk,bn,bx⟩:=b;go_enter Tryz.func118,Tryz.ntmps118;go_wp2_with fail;have hc:∀(x:Ext (w.heap.size+2) ((w.alloc (.cells #[.int .u8 ak,.int .i64 an,.string ax] 26)).alloc (.cells #[.int .u8 bk,.int .i64 bn,.string bx] 26))) (i:Nat),x.w.cell? ⟨w.heap.size,i,none⟩= #[Value.int .u8 ak,.int .i64 an,.string ax][i]?∧x.w.cell? ⟨w.heap.size+1,i,none⟩= #[Value.int .u8 bk,.int .i64 bn,.string bx][i]?:=by
  intro x i;refine⟨?_,?_⟩
  ·rw[x.cell (by simp)];simp
  ·rw[x.cell (by simp)];simp
 have c0:=fun x=>(hc x 0).1
 have c1:=fun x=>(hc x 1).1
 have c2:=fun x=>(hc x 2).1
 have d0:=fun x=>(hc x 0).2
 have d1:=fun x=>(hc x 1).2
 have d2:=fun x=>(hc x 2).2
 clear hc;simp at c0 c1 c2 d0 d1 d2;refine bD 15 (w.heap.size+2) _ (Below.refl _ _) (by kernel_rfl) (by kernel_rfl) (by kernel_rfl) (by kernel_rfl) ?_;simp only[List.take_succ_cons,List.take_zero,List.drop_succ_cons,List.drop_zero];repeat (go_big_quiet_step (first
  |(go_at_call 135;exact di (Uq _ _ _))
  |(go_at_call 136;exact di (Qj _ _ _))
  |(go_at_call 137;exact di (Qk _ _ _))))
 refine wpQuiet_nil ?_;rintro W ⟨x,hx⟩;have hW:=x.h;rw[← hx] at hW;clear c0 c1 c2 d0 d1 d2 hx x;go_wp2_with fail;refine(Mm _ _ _ _).mono ?_;rintro e w' ⟨rfl,rfl⟩;go_wp2_with fail;go_ret;have hB:Below w.heap.size w W:=(((Below.refl _ _).alloc (Nat.le_refl _) _).alloc (by simp) _).trans (hW.mono (by simp));exact⟨rfl,hB.alloc hB.size _⟩
theorem nA (a:Addr)(n:Nat):(a.add n).block=a.block:=by unfold Addr.add;split <;> rfl
def Reads (w:World)(B size:Nat)(A:Option Addr)(n:Nat)(xs:List Value):Prop:=
 xs.length=n*size∧(0 < n→∃ad,A=some ad∧ad.block < B∧∀j u,xs[j]?=some u→w.cell? (ad.add j)=some u)
section
variable {w w':World} {B B' size n:Nat} {A:Option Addr} {xs:List Value}
theorem Reads.none_:Reads w B size A 0 []:=⟨by simp,fun h=>absurd h (by omega)⟩
theorem Reads.keep (h:Reads w B size A n xs)(hk:∀p:Addr,p.block < B→w'.cell? p=w.cell? p):Reads w' B size A n xs:=
 ⟨h.1,fun hn=>by
   obtain⟨ad,e,hb,hc⟩:=h.2 hn
   exact⟨ad,e,hb,fun j u hu=>(hk _ (by rw[nA];exact hb)).trans (hc j u hu)⟩⟩
theorem Reads.more (h:Reads w B size A n xs)(hB:B≤B'):Reads w B' size A n xs:=
 ⟨h.1,fun hn=>by
   obtain⟨ad,e,hb,hc⟩:=h.2 hn
   exact⟨ad,e,by omega,hc⟩⟩
theorem Reads.below (h:Reads w B size A n xs)(hb:Below B w w'):Reads w' B size A n xs:=h.keep fun _ hp=>hb.cell hp
theorem Reads.Fq {base:Nat} {e:TypeId} {c:Nat}(h:w.ownsRow base e size (.slice A n c) n xs):Reads w w.heap.size size A n xs:=by
 refine⟨h.1,fun hn=>?_⟩;obtain⟨g,cap,hv,_,hlt⟩:=h.form hn;have hA:A=some ⟨g,0,none⟩:=by injection hv
 subst hA;exact⟨_,rfl,hlt,h.cells (g:=g) rfl⟩
end
section
variable {P:Program} (w:World)
theorem iX (base:Nat)(t ty e:TypeId)(i:TypeInfo)(size:Nat)(ht:P.underlying t=some (.slice e))(hi:P.info? e=some i)
  (v:Value) (n:Nat) (xs:List Value) (hown:w.ownsRow base e size v n xs) (c:Nat):(Builtin.append_ #[t,t] ty #[v,.slice none 0 c]).run P w=.ok v w:=by
 rcases hown.2 with ⟨rfl,rfl⟩|⟨g,cap,cur,rfl,_,_,J7,_⟩
 ·simp[Builtin.append_,run_underlying ht,sizeOf,typeInfo,hi,Builtin.lenOf,Builtin.firstCells]
 ·simp[Builtin.append_,run_underlying ht,sizeOf,typeInfo,hi,Builtin.lenOf,Builtin.firstCells,J7,storeCells]
theorem gh (base:Nat)(t ty e:TypeId)(i:TypeInfo)(z:Value)(size bytes:Nat)(ht:P.underlying t=some (.slice e))(hi:P.info? e=some i)(hz:i.zero=some z)
  (hsize:i.size=size) (hby:i.bytes=bytes) (hzs:z.cells.size=size) (hsz:0 < size)
  (v:Value) (n:Nat) (xs:List Value) (hown:w.ownsRow base e size v n xs)
  (B:Nat) (A:Option Addr) (m c:Nat) (news:List Value) (hr:Reads w B size A m news) (h1:∀u∈news,u.oneCell'=true)
  (h63:n+m≤maxLen) (hbytes:(n+m)*bytes≤140737488355328) (hbase:base≤w.heap.size):
  ∃v' w',(Builtin.append_ #[t,t] ty #[v,.slice A m c]).run P w=.ok v' w'∧w'.ownsRow base e size v' (n+m) (xs++news)∧w.grownBy w' v.ownBlock∧
   (v'.ownBlock=v.ownBlock∨v'.ownBlock=some w.heap.size):=by
 rcases A with _ | ad
 ·have hm:m=0:=by
   rcases Nat.eq_zero_or_pos m with h0 | h0
   ·exact h0
   ·obtain⟨ad,h,_⟩:=hr.2 h0;cases h
  subst hm;have hn:news=[]:=List.eq_nil_of_length_eq_zero (by simpa using hr.1);subst hn;exact⟨v,w,iX w base t ty e i size ht hi v n xs hown c,by simpa using hown,World.grownBy.refl w _,.inl rfl⟩
 ·have tG:∀j u,news[j]?=some u→w.cell? (ad.add j)=some u:=by
   intro j u hu;rcases Nat.eq_zero_or_pos m with h0 | h0
   ·subst h0;have hn:news=[]:=List.eq_nil_of_length_eq_zero (by simpa using hr.1);subst hn;simp at hu
   ·obtain⟨ad',h,_,hc⟩:=hr.2 h0;injection h with h;subst h;exact hc j u hu
  obtain⟨v',w',hrun,h2,h3,_,h5⟩:=run_append_own_at (P:=P) w base t ty e i z size bytes ht hi hz hsize hby hzs hsz v n xs hown ad m c news hr.1 tG h1 h63 hbytes hbase;exact⟨v',w',hrun,h2,h3,h5⟩
theorem mq {o:Oper} {a:Act} {K:Act→World→Prop} {Q:Exit→Act→World→Prop}(s x:Operand)(t:TypeId)
  (ho:o.op=.call { callee:=.builtin .append,args:= #[s,x],argTypes:= #[t,t] })
  (base:Nat) (e:TypeId) (i:TypeInfo) (z:Value) (size bytes:Nat) (ht:P.underlying t=some (.slice e)) (hi:P.info? e=some i) (hz:i.zero=some z)
  (hsize:i.size=size) (hby:i.bytes=bytes) (hzs:z.cells.size=size) (hsz:0 < size)
  (v:Value) (n:Nat) (xs:List Value) (hs:a.eval s=v) (hown:w.ownsRow base e size v n xs)
  (B:Nat) (A:Option Addr) (m c:Nat) (news:List Value) (hx:a.eval x=.slice A m c) (hr:Reads w B size A m news) (h1:∀u∈news,u.oneCell'=true)
  (h63:n+m≤maxLen) (hbytes:(n+m)*bytes≤140737488355328) (hbase:base≤w.heap.size)
  (h:∀v' w',w'.ownsRow base e size v' (n+m) (xs++news)→w.grownBy w' v.ownBlock→(v'.ownBlock=v.ownBlock∨v'.ownBlock=some w.heap.size)→K (a.put o.dst v') w'):o.wp P a w K Q:=by
 obtain⟨v',w',hrun,h2,h3,h4⟩:=gh (P:=P) w base t o.type e i z size bytes ht hi hz hsize hby hzs hsz v n xs hown B A m c news hr h1 h63 hbytes hbase;unfold Oper.wp execOp;simp only[ho,resolve,invoke,builtin,Sem.run_bind,Sem.run_pure,Result.andThen_ok,List.map_toArray,List.map_cons,List.map_nil,hs,hx,hrun];exact h v' w' h2 h3 h4
theorem eD {ops:Array Oper} {rest:List Oper} {o:Oper} {a:Act} {Q:Exit→Act→World→Prop}(hgd:o.guard=none)(s x:Operand)(t:TypeId)
  (ho:o.op=.call { callee:=.builtin .append,args:= #[s,x],argTypes:= #[t,t] })
  (base:Nat) (e:TypeId) (i:TypeInfo) (z:Value) (size bytes:Nat) (ht:P.underlying t=some (.slice e)) (hi:P.info? e=some i) (hz:i.zero=some z)
  (hsize:i.size=size) (hby:i.bytes=bytes) (hzs:z.cells.size=size) (hsz:0 < size)
  (v:Value) (n:Nat) (xs:List Value) (hs:a.eval s=v) (hown:w.ownsRow base e size v n xs)
  (B:Nat) (A:Option Addr) (m c:Nat) (news:List Value) (hx:a.eval x=.slice A m c) (hr:Reads w B size A m news) (h1:∀u∈news,u.oneCell'=true)
  (h63:n+m≤maxLen) (hbytes:(n+m)*bytes≤140737488355328) (hbase:base≤w.heap.size)
  (h:∀v' w',w'.ownsRow base e size v' (n+m) (xs++news)→w.grownBy w' v.ownBlock→(v'.ownBlock=v.ownBlock∨v'.ownBlock=some w.heap.size)→wpList P ops Q rest (a.put o.dst v') w'):wpList P ops Q (o::rest) a w:=
 wpList_plain hgd fun _ hK=>mq w s x t ho base e i z size bytes ht hi hz hsize hby hzs hsz v n xs hs hown B A m c news hx hr h1 h63 hbytes hbase fun v' w' h2 h3 h4=>hK _ _ (h v' w' h2 h3 h4)
end
def ag (w:World)(g:Nat)(t:TypeId)(cs:Array Value):Prop:=w.heap[g]?=some (.cells cs t (0,0))
section
variable {w w':World} {g:Nat} {t:TypeId} {cs:Array Value}
theorem ag.lt (h:ag w g t cs):g < w.heap.size:=by
 rcases Nat.lt_or_ge g w.heap.size with hlt | AW
 ·exact hlt
 ·unfold ag at h;rw[Array.getElem?_eq_none AW] at h;cases h
theorem ag.cell (h:ag w g t cs)(i:Nat):w.cell? ⟨g,i,none⟩=cs[i]?:=cell_of_row w g i cs t (0,0) h
theorem ag.frozen (h:ag w g t cs)(i:Nat):w.frozen? ⟨g,i,none⟩=false:=by unfold ag at h;simp[World.frozen?,h]
theorem ag.new (w:World)(t:TypeId)(cs:Array Value):ag (w.alloc (.cells cs t)) w.heap.size t cs:=heap_alloc_new w _
theorem ag.drew (h:ag w g t cs):ag w.drew g t cs:=h
theorem ag.alloc (h:ag w g t cs)(o:Obj):ag (w.alloc o) g t cs:=(Below.heap_alloc w o g h.lt).trans h
theorem ag.cA (h:ag w g t cs)(i:Nat)(u:Value):ag (w.setCell ⟨g,i,none⟩ u) g t (cs.setIfInBounds i u):=by unfold ag at h ⊢;simp[World.setCell,Array.getElem?_modify,h]
theorem ag.far (h:ag w g t cs) {p:Addr}(hp:g≠p.block)(u:Value):ag (w.setCell p u) g t cs:=(Below.heap_setCell w p u g hp).trans h
theorem ag.below {B:Nat}(h:ag w g t cs)(hb:Below B w w')(hg:g < B):ag w' g t cs:=(hb.block g hg).trans h
theorem ag.later (h:ag w g t cs)(hb:Below w.heap.size w w'):ag w' g t cs:=h.below hb h.lt
theorem ag.grown {row:Option Nat}(h:ag w g t cs)(hb:w.grownBy w' row)(hg:some g≠row):ag w' g t cs:=(hb.block g h.lt hg).trans h
end
def aQ {α:Type}(f:α→List Value)(e:TypeId)(size:Nat)(w:World)(base:Nat)(v:Value)(l:List α):Prop:=w.ownsRow base e size v l.length (l.flatMap f)
section
variable {α:Type} {f:α→List Value} {e:TypeId} {size:Nat} {w w':World} {base:Nat} {v:Value} {l:List α}
theorem aQ.nil:aQ f e size w base (.slice none 0 0) []:=⟨by simp,.inl ⟨rfl,rfl⟩⟩
theorem aQ.reads (h:aQ f e size w base v l):∃A c,v=.slice A l.length c∧Reads w w.heap.size size A l.length (l.flatMap f)∧l.length≤c∧(l=[]∨∃g,A=some ⟨g,0,none⟩∧base≤g):=by
 rcases h.2 with ⟨rfl,h0⟩|⟨g,cap,cur,rfl,hb,hg,hn,hm,hs,ht⟩
 ·have:l=[]:=List.eq_nil_of_length_eq_zero h0;subst this;exact⟨none,0,rfl,Reads.none_,Nat.le_refl _,.inl rfl⟩
 ·exact⟨some ⟨g,0,none⟩,cap,rfl,Reads.Fq h,hn,.inr ⟨g,rfl,hb⟩⟩
theorem aQ.keep (h:aQ f e size w base v l)(hk:∀g,v.ownBlock=some g→w'.heap[g]?=w.heap[g]?):aQ f e size w' base v l:=by
 refine⟨h.1,?_⟩;rcases h.2 with h0 |⟨g,cap,cur,rfl,hbg,hg,hn,hm,hs,ht⟩
 ·exact .inl h0
 ·exact .inr ⟨g,cap,cur,rfl,hbg,(hk g rfl).trans hg,hn,hm,hs,ht⟩
theorem aQ.lt (h:aQ f e size w base v l) {g:Nat}(hg:v.ownBlock=some g):g < w.heap.size∧base≤g∧∃cur,w.heap[g]?=some (.cells cur e (0,0)):=by
 rcases h.2 with ⟨rfl,_⟩|⟨g',cap,cur,rfl,hbg,Fs,hn,hm,hs,ht⟩
 ·simp[Value.ownBlock] at hg
 ·simp only[Value.ownBlock,Option.some.injEq] at hg;subst hg;refine⟨?_,hbg,cur,Fs⟩;rcases Nat.lt_or_ge g' w.heap.size with hlt | AW
  ·exact hlt
  ·rw[Array.getElem?_eq_none AW] at Fs;cases Fs
theorem aQ.later (h:aQ f e size w base v l)(hb:Below w.heap.size w w'):aQ f e size w' base v l:=h.keep fun g hg=>hb.block g (h.lt hg).1
theorem aQ.other (h:aQ f e size w base v l) {q:Nat} {t:TypeId} {cs:Array Value}(hq:ag w q t cs)(ht:t≠e):v.ownBlock≠some q:=by intro hg;obtain⟨_,_,cur,hc⟩:=h.lt hg;unfold ag at hq;rw[hq] at hc;injection hc with hc;injection hc with _ hc _;exact ht hc
theorem aQ.grown {p:Nat}(h:aQ f e size w base v l)(hg:w.grownBy w' (some p))(hp:v.ownBlock≠some p):aQ f e size w' base v l:=h.keep fun g dh=>hg.block g (h.lt dh).1 fun e=>hp (by rw[dh];exact e)
theorem eR (h:aQ f e size w base v l)(hg:w.grownBy w' v.ownBlock)(hbase:base≤w.heap.size):Below base w w':=by refine⟨hg.os,hg.tape,hg.output,hg.size,fun k hk=>hg.block k (by omega) fun e=>?_⟩;have:=(h.lt e.symm).2.1;omega
theorem dm {P:Program} {ops:Array Oper} {rest:List Oper} {o:Oper} {a:Act} {Q:Exit→Act→World→Prop}(hgd:o.guard=none)(s x:Operand)(t:TypeId)
  (ho:o.op=.call { callee:=.builtin .append,args:= #[s,x],argTypes:= #[t,t] })
  (z:Value) (bytes:Nat) (ht:P.underlying t=some (.slice e)) (jV:(P.info? e).map (fun i=>(i.zero,i.size,i.bytes))=some (some z,size,bytes)) (hzs:z.cells.size=size) (hsz:0 < size)
  (y:α) (hf:(f y).length=size) (h1:∀u∈f y,u.oneCell'=true)
  (hs:a.eval s=v) (hown:aQ f e size w base v l)
  (g:Nat) (hx:a.eval x=.slice (some ⟨g,0,none⟩) 1 1) (hg:ag w g e (f y).toArray)
  (hlen:(l.length+1)*bytes≤140737488355328) (ld:l.length+1≤140737488355328) (hbase:base≤w.heap.size)
  (h:∀v' w',aQ f e size w' base v' (l++ [y])→w.grownBy w' v.ownBlock→wpList P ops Q rest (a.put o.dst v') w'):wpList P ops Q (o::rest) a w:=by
 obtain⟨i0,qj,hz0,hz1,hz2⟩:=info_parts jV;refine eD w hgd s x t ho base e i0 z size bytes ht qj hz0 hz1 hz2 hzs hsz v l.length (l.flatMap f) hs hown (g+1) (some ⟨g,0,none⟩) 1 1 (f y) hx ⟨by omega,fun _=>⟨_,rfl,Nat.lt_succ_self _,?_⟩⟩ h1 (by unfold maxLen;omega) hlen hbase ?_
 ·intro j u hu;have:(Addr.add ⟨g,0,none⟩ j)=⟨g,j,none⟩:=by unfold Addr.add;split <;> simp_all
  rw[this,hg.cell];simpa using hu
 ·intro v' w' h2 h3 h4;refine h v' w' ?_ h3;unfold aQ;rw[List.length_append,List.flatMap_append];simpa using h2
end
set_option linter.unusedSimpArgs false
def ah:Val:=⟨0,0,ByteArray.empty⟩
def num (n:Int):Val:=⟨2,n,ByteArray.empty⟩
def aL (b:Bool):Val:=⟨1,if b then 1 else 0,ByteArray.empty⟩
def cI (v:Val)(err:Int):Value:=.tuple #[.agg #[.int .u8 v.k,.int .i64 v.n,.string v.s],.int .i64 err]
def Val.Ok (a:Val):Prop:= -9223372036854775808≤a.n∧a.n≤9223372036854775807
theorem ae.then {a b c:World}(h:Below a.heap.size a b)(k:Below b.heap.size b c):Below a.heap.size a c:=h.trans (k.mono h.size)
theorem aa (w:World)(o:Obj):Below w.heap.size w (w.alloc o):=(Below.refl _ _).alloc (Nat.le_refl _) o
theorem ay {w:World} {g:Nat} {t:TypeId} {k n:Int} {s:ByteArray}(h:ag w g t #[.int .u8 k,.int .i64 n,.string s]):w.cell? ⟨g,0,none⟩=some (.int .u8 k)∧w.cell? ⟨g,1,none⟩=some (.int .i64 n)∧w.cell? ⟨g,2,none⟩=some (.string s):=⟨h.cell 0,h.cell 1,h.cell 2⟩
def tH (s:ByteArray):Bool:=s.toList== []
def good (v:Val):Bool:=
 if v.k=0 then(v.n==0 && tH v.s)else if v.k=1 then(tH v.s &&(v.n==0 || v.n==1))else if v.k=2 then tH v.s else if v.k=3 then v.n==0 else false
set_option maxHeartbeats 2000000
theorem Cy (v:Val)(w:World):Calls Tryz.prog 44 #[.agg #[.int .u8 v.k,.int .i64 v.n,.string v.s]] w fun e w'=>e=.returned (.bool (good v))∧Below w.heap.size w w':=by
 obtain⟨k,n,s⟩:=v;unfold good tH;dsimp only;by_cases h0:k=0
 ·subst h0;go_enter Tryz.func44,Tryz.ntmps44;go_wp2;all_goals
   go_ret;refine⟨?_,by go_grown⟩;simp_all
 ·have e0:(k==0)=false:=by simpa using h0
  by_cases h1:k=1
  ·subst h1;cases hs:(s.toList== [])
   ·go_enter Tryz.func44,Tryz.ntmps44;go_wp2;all_goals
     go_ret;refine⟨?_,by go_grown⟩;simp_all
   ·cases hn:(n==0)
    ·go_enter Tryz.func44,Tryz.ntmps44;go_wp2;all_goals
      go_ret;refine⟨?_,by go_grown⟩;simp_all
    ·go_enter Tryz.func44,Tryz.ntmps44;go_wp2;all_goals
      go_ret;refine⟨?_,by go_grown⟩;simp_all
  ·have e1:(k==1)=false:=by simpa using h1
   by_cases h2:k=2
   ·subst h2;go_enter Tryz.func44,Tryz.ntmps44;go_wp2;all_goals
     go_ret;refine⟨?_,by go_grown⟩;simp_all
   ·have e2:(k==2)=false:=by simpa using h2
    by_cases h3:k=3
    ·subst h3;go_enter Tryz.func44,Tryz.ntmps44;go_wp2;all_goals
      go_ret;refine⟨?_,by go_grown⟩;simp_all
    ·have e3:(k==3)=false:=by simpa using h3
     go_enter Tryz.func44,Tryz.ntmps44;go_wp2;all_goals
      go_ret;refine⟨?_,by go_grown⟩;simp_all
theorem pJ (b:Bool)(w:World):Calls Tryz.prog 80 #[.bool b] w fun e w'=>e=.returned (cI (aL b) 0)∧Below w.heap.size w w':=by
 unfold cI aL;cases b
 ·go_enter Tryz.func80,Tryz.ntmps80;go_wp2;exact bodyPost_ret (v:=.tuple #[.agg #[.int .u8 1,.int .i64 0,.string ByteArray.empty],.int .i64 0]) (by simp[results,Tryz.results80,go_sem];try rfl) rfl ⟨rfl,by go_grown⟩
 ·go_enter Tryz.func80,Tryz.ntmps80;go_wp2;exact bodyPost_ret (v:=.tuple #[.agg #[.int .u8 1,.int .i64 1,.string ByteArray.empty],.int .i64 0]) (by simp[results,Tryz.results80,go_sem];try rfl) rfl ⟨rfl,by go_grown⟩
def eT (n:Int)(ok:Bool):Val×Int:=if ok then(num n,0)else(ah,43)
theorem iE (n:Int)(ok:Bool)(w:World):Calls Tryz.prog 78 #[.int .i64 n,.bool ok] w fun e w'=>e=.returned (cI (eT n ok).1 (eT n ok).2)∧Below w.heap.size w w':=by
 unfold cI eT;cases ok
 ·go_enter Tryz.func78,Tryz.ntmps78;go_wp2;exact bodyPost_ret (v:=.tuple #[.agg #[.int .u8 0,.int .i64 0,.string ByteArray.empty],.int .i64 43]) (by simp[results,Tryz.results78,go_sem];try rfl) rfl ⟨rfl,by go_grown⟩
 ·go_enter Tryz.func78,Tryz.ntmps78;go_wp2;exact bodyPost_ret (v:=.tuple #[.agg #[.int .u8 2,.int .i64 n,.string ByteArray.empty],.int .i64 0]) (by simp[results,Tryz.results78,go_sem];try rfl) rfl ⟨rfl,by go_grown⟩
theorem Jy (n:Int)(w:World):Calls Tryz.prog 67 #[.int .i64 n] w fun e w'=>e=.returned (.bool (decide (1≤n)&& decide (n≤1099511627776)))∧w=w':=by
 by_cases h1:1≤n
 ·have d1:decide (1≤n)=true:=by simpa using h1
  rw[d1];go_enter Tryz.func67,Tryz.ntmps67;go_wp2;all_goals
   go_ret;refine⟨?_,by first | rfl | go_grown⟩;simp_all
 ·have d1:decide (1≤n)=false:=by simpa using h1
  rw[d1];go_enter Tryz.func67,Tryz.ntmps67;go_wp2;all_goals
   go_ret;refine⟨?_,by first | rfl | go_grown⟩;simp_all
def gj (op:Int):Int:=if op=21 then 0 else if 22≤op∧op≤26 then 1 else if op=27∨op=28 then 2 else -1
theorem eL (op:Int)(w:World):Calls Tryz.prog 55 #[.int .u8 op] w fun e w'=>e=.returned (.int .i64 (gj op))∧w=w':=by
 unfold gj;by_cases h1:op=21
 ·subst h1;go_enter Tryz.func55,Tryz.ntmps55;go_wp2;go_ret;exact⟨rfl,rfl⟩
 ·have e1:(op==21)=false:=by simpa using h1
  rw[if_neg h1];by_cases h2:22≤op∧op≤26
  ·rw[if_pos h2];obtain⟨h2,h3⟩:=h2;have d2:decide (22≤op)=true:=by simpa using h2
   have d3:decide (op≤26)=true:=by simpa using h3
   go_enter Tryz.func55,Tryz.ntmps55;go_wp2;go_ret;exact⟨rfl,rfl⟩
  ·rw[if_neg h2];have Mn:decide (22≤op)=false∨(decide (22≤op)=true∧decide (op≤26)=false):=by
    by_cases h:22≤op
    ·right;simp;omega
    ·left;simpa using h
   by_cases h3:op=27∨op=28
   ·rw[if_pos h3];rcases h3 with rfl | rfl;all_goals
     go_enter Tryz.func55,Tryz.ntmps55;go_wp2;go_ret;exact⟨rfl,rfl⟩
   ·rw[if_neg h3];have e3:(op==27)=false:=by rw[beq_eq_false_iff_ne];omega
    have e4:(op==28)=false:=by rw[beq_eq_false_iff_ne];omega
    clear h1 h2 h3;rcases Mn with d2 |⟨d2,d3⟩;all_goals
     go_enter Tryz.func55,Tryz.ntmps55;go_wp2;go_ret;exact⟨rfl,rfl⟩
end Go.Proofs.YtfmbcoeallmnnaaGreatDoor
