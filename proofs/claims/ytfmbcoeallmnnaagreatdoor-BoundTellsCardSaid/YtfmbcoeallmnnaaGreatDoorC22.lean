/- Parts of the proof. -/
import Derived.BigQuiet
import Derived.Deep.RegionWith
import Derived.Handy
import Derived.WalkLawsBesides
import Derived.Lib.Hide
import Derived.Laws.EntriesVeiled
import Derived.Deep.DeepCutAuto
import Derived.Test.YtfmbcoeallmnnaaGreatDoorC21
namespace Go.Proofs.YtfmbcoeallmnnaaGreatDoor.R
open Go.RowKit
structure Ext (B:Nat) (w0:World) where
 w:World
 h:Below B w0 w
instance (B:Nat) (w0:World):Nonempty (Ext B w0):=⟨⟨w0,Below.refl _ _⟩⟩
theorem gY {P:Program} {ops:Array Oper} {C:World→Prop} {Q:Act→Prop}:∀(l:List Oper) (a:Act),wpQuiet P ops C Q l a→
  ∃vs:List Value,vs.length=l.length∧
   (∀i o,l[i]?=some o→∃v,vs[i]?=some v∧
     ((Region.wanted o (yielded ops ((l.take i).zip vs |>.foldl (fun b ov=>b.put ov.1.dst ov.2) a).tmps)=true∧∀w,C w→o.quietAt P ((l.take i).zip vs |>.foldl (fun b ov=>b.put ov.1.dst ov.2) a) C w v)∨
      (Region.wanted o (yielded ops ((l.take i).zip vs |>.foldl (fun b ov=>b.put ov.1.dst ov.2) a).tmps)=false∧v=undef)))∧
   Q ((l.zip vs).foldl (fun b ov=>b.put ov.1.dst ov.2) a)
 | [],a,h=>⟨[],rfl,fun i o ho=>by simp at ho,h⟩
 | o::l,a,h=>by
   unfold wpQuiet at h;by_cases hw:Region.wanted o (yielded ops a.tmps)=true
   ·rw[if_pos hw] at h;obtain⟨v,hv,hn⟩:=h;obtain⟨vs,hl,hall,hq⟩:=gY l _ hn;refine⟨v::vs,by simp[hl],fun i o' oG=>?_,by simpa using hq⟩
    match i with
    | 0=>simp at oG;subst oG;exact⟨v,rfl,.inl ⟨by simpa using hw,by simpa using hv⟩⟩
    | i+1=>obtain⟨v',h1,h2⟩:=hall i o' (by simpa using oG);exact⟨v',by simpa using h1,by simpa using h2⟩
   ·rw[if_neg hw] at h;obtain⟨vs,hl,hall,hq⟩:=gY l _ h;refine⟨undef::vs,by simp[hl],fun i o' oG=>?_,by simpa using hq⟩
    match i with
    | 0=>simp at oG;subst oG;exact⟨undef,rfl,.inr ⟨by simpa using hw,rfl⟩⟩
    | i+1=>obtain⟨v',h1,h2⟩:=hall i o' (by simpa using oG);exact⟨v',by simpa using h1,by simpa using h2⟩
theorem gQ {l:List Oper} {vs:List Value} {k:Nat} {o:Oper} {v:Value}(hl:vs.length=l.length)(ho:l[k]?=some o)(hv:vs[k]?=some v):((l.take (k+1)).zip vs)=((l.take k).zip vs)++ [(o,v)]:=by
 have hk:k < l.length:=by
  rcases Nat.lt_or_ge k l.length with h' | h'
  ·exact h'
  ·rw[List.getElem?_eq_none h'] at ho;cases ho
 rw[List.take_add_one,ho];have e1:vs=vs.take k++v::vs.drop (k+1):=by
  conv=>lhs;rw[← List.take_append_drop k vs]
  congr 1;rw[List.drop_eq_getElem_cons (by omega)];congr 1;rw[List.getElem?_eq_getElem (by omega)] at hv;injection hv
 have hlen:(l.take k).length=(vs.take k).length:=by simp;omega
 conv=>lhs;rw[e1]
 rw[List.zip_append hlen];have e2:(l.take k).zip vs=(l.take k).zip (vs.take k):=by
  conv=>lhs;rw[← List.take_append_drop k vs]
  have h0:(l.take k++ []).zip (vs.take k++vs.drop k)=(l.take k).zip (vs.take k)++([]:List Oper).zip (vs.drop k):=List.zip_append hlen;simpa using h0
 rw[e2];simp
theorem lX {l:List Oper} {vs:List Value} {a:Act}(aS:bR l a.tmps.size l 0=true)(hl:vs.length=l.length):∀(k:Nat),k≤l.length→
  (((l.take k).zip vs).foldl (fun b ov=>b.put ov.1.dst ov.2) a).tmps.size=a.tmps.size∧
  (∀j oj d v,j < k→l[j]?=some oj→oj.dst=some d→vs[j]?=some v→(((l.take k).zip vs).foldl (fun b ov=>b.put ov.1.dst ov.2) a).tmps[d]?=some v)∧
  (∀t,(∀j oj,j < k→l[j]?=some oj→oj.dst≠some t)→(((l.take k).zip vs).foldl (fun b ov=>b.put ov.1.dst ov.2) a).tmps[t]?=a.tmps[t]?)
 | 0,_=>by simp
 | k+1,hk=>by
   obtain⟨h1,h2,h3⟩:=lX aS hl k (by omega);obtain⟨o,ho⟩:∃o,l[k]?=some o:=⟨l[k]'(by omega),List.getElem?_eq_getElem (by omega)⟩;obtain⟨v,hv⟩:∃v,vs[k]?=some v:=⟨vs[k]'(by omega),List.getElem?_eq_getElem (by omega)⟩;have e:=gQ hl ho hv;rw[e,List.foldl_append];generalize ((l.take k).zip vs).foldl (fun b ov=>b.put ov.1.dst ov.2) a=b at*;have dx:=aO aS k o ho;rw[Nat.zero_add] at dx;simp only[List.foldl_cons,List.foldl_nil];refine⟨?_,?_,?_⟩
   ·cases hd:o.dst <;> simp[Act.put,h1]
   ·intro j oj d v' hj gK hd hv';by_cases hjk:j=k
    ·subst hjk;rw[ho] at gK;injection gK with gK;subst gK
     rw[hv] at hv';injection hv' with hv';subst hv'
     simp only[eh,hd,Bool.and_eq_true,decide_eq_true_eq] at dx;have hb:d < b.tmps.size:=by rw[h1];exact dx.1.1.2.1
     simp[hd,Act.put,hb]
    ·have hold:=h2 j oj d v' (by omega) gK hd hv';cases PL:o.dst with
     | none=>exact hold
     | some d'=>
       have hne:d'≠d:=by intro e';subst e';have fJ:=aO aS j oj gK;simp only[eh,hd,Bool.and_eq_true,Nat.zero_add,beq_iff_eq] at fJ;simp only[eh,PL,Bool.and_eq_true,beq_iff_eq] at dx;rw[fJ.1.1.2.2] at dx;have:=dx.1.1.2.2;injection this with this;exact hjk this
       simp only[Act.put,Array.getElem?_setIfInBounds_ne hne];exact hold
   ·intro t ht;have hold:=h3 t (fun j oj hj gK=>ht j oj (by omega) gK);cases PL:o.dst with
    | none=>exact hold
    | some d'=>
      have hne:d'≠t:=fun e'=>ht k o (by omega) ho (by rw[PL,e'])
      simp only[Act.put,Array.getElem?_setIfInBounds_ne hne];exact hold
theorem fK {P:Program} {o:Oper} {a:Act} {C:World→Prop} {w:World} {v:Value} {ρ:Operand→Value}(tP:∀cs b,o.op≠ .select cs b)(he:∀x∈o.op.operands,ρ x=a.eval x)(hC:C w)
  (h:o.quietAt P a C w v):mE P o ρ w fun v' w'=>(C w→C w')∧v'=v:=by
 unfold Oper.quietAt at h;unfold mE;rw[execOp_congr o tP he];generalize (execOp a.eval o).run P w=r at*;cases r with
 | ok n w'=>
   cases n <;> simp only[Oper.quietUpon] at h;case value u=>obtain⟨rfl,rfl⟩:=h;exact⟨id,rfl⟩
   case skip=>obtain⟨rfl,rfl⟩:=h;exact⟨id,rfl⟩
   case enter f args=>obtain⟨rfl,hc⟩:=h;exact hc.mono fun e w'' ⟨he,hc'⟩=>⟨v,he,fun _=>hc',rfl⟩
 | halt x w'=>simp only[Oper.quietUpon] at h
theorem pR {o:Oper} {t:Tmp}:t∈tmpsOf o↔Operand.tmp t∈o.op.operands:=by
 unfold tmpsOf;simp only[List.mem_filterMap,Array.mem_toList_iff];constructor
 ·rintro⟨x,hx,h⟩;cases x <;> simp at h;subst h;exact hx
 ·intro h;exact⟨_,h,rfl⟩
theorem lY {l:List Oper} {V:Nat→World→Value→Prop} {Em ρ:Operand→Value} {w:World} {o:Oper}:∀ {ts:List Tmp},cD l V Em ρ w o ts→∀t∈ts,match dX l o t with | some j=>V j w (ρ (.tmp t))| none=>ρ (.tmp t)=Em (.tmp t)
 | [],_,t,h=>by cases h
 | x::ts,hr,t,h=>by
   rcases List.mem_cons.1 h with rfl | h
   ·exact hr.1
   ·exact lY hr.2 t h
def zU (l:List Oper):Bool:=l.all fun o=>match o.op with | .select _ _=>false | _=>true
theorem nJ {P:Program} {Q:Exit→Act→World→Prop} {a0:Act} {w0:World} {id:Nat} {ops:List Oper}(zs:List Oper)(l:List Oper)(nA:ops=l++zs)(C:World→Prop)(SQ:C w0)(iy:∀w,C w→C w.drew)
  (hm:P.follows .mixedOrders=true) (tP:zU l=true) (aS:bR l a0.tmps.size l 0=true) (hz:cF (l++zs) zs l.length=true)
  (h:wpQuiet P ops.toArray C (fun a=>∀w,C w→wpList P ops.toArray Q zs a w) l a0):(Code.region id ops.toArray true).wp P Q a0 w0:=by
 subst nA;obtain⟨vs,hl,hall,hq⟩:=gY l a0 h;refine nH zs l rfl (fun w w'=>C w→C w') (fun _ h=>h) (fun _ _ _ h1 h2 h=>h2 (h1 h)) (fun w h=>iy w h) (fun i _ v=>vs[i]?=some v) (fun _ _ _ _ h _=>h) hm aS hz ?_ ?_
 ·have key:∀(k:Nat) (rest:List Oper),l.drop k=rest→Steps P l (fun w w'=>C w→C w') (fun i _ v=>vs[i]?=some v) a0 w0 rest k:=by
   intro k rest;induction rest generalizing k with
   | nil=>intro _;trivial
   | cons o rest ih=>
     intro hk;have mI:l[k]?=some o:=by have:=congrArg (fun x=>x[0]?) hk;simpa using this
     have Ip:k < l.length:=by
      rcases Nat.lt_or_ge k l.length with h' | h'
      ·exact h'
      ·rw[List.getElem?_eq_none h'] at mI;cases mI
     refine⟨?_,ih (k+1) (by rw[← List.tail_drop,hk];rfl)⟩;intro ρ w hc hR hr;have FA:C w:=hR SQ;obtain⟨v,hv,uG⟩:=hall k o mI;obtain⟨f1,f2,f3⟩:=lX aS hl k (by omega);have dx:=aO aS k o mI;rw[Nat.zero_add] at dx;have uH:∀cs b,o.op≠ .select cs b:=by intro cs b e;have:=List.all_eq_true.1 tP o (List.mem_of_getElem? mI);rw[e] at this;cases this
     have mF:∀x∈o.op.operands,ρ x=(((l.take k).zip vs).foldl (fun b ov=>b.put ov.1.dst ov.2) a0).eval x:=by
      intro x hx;cases x with
      | const v=>rw[hc.const];rfl
      | global g=>rw[hc.global];rfl
      | func f=>rw[hc.func];rfl
      | tmp t=>
        have SR:=pR.2 hx;have hrt:=lY hr t SR;simp only[eh,Bool.and_eq_true] at dx;have LP:=List.all_eq_true.1 dx.1.2 t SR;unfold dX at hrt;cases hs:cA t l 0 with
        | none=>simp only[hs] at hrt;rw[hrt];refine(ep (f3 t ?_)).symm;intro j oj _ gK hd;obtain⟨j',hj'⟩:=eY (k:=0) gK hd;rw[hs] at hj';cases hj'
        | some j=>
          obtain⟨j',oj,e,hj,hd⟩:=fH hs;rw[Nat.zero_add] at e;subst e;simp only[hs] at hrt LP;by_cases he:eE o j=true
          ·simp only[he,if_true] at hrt;have hjk:j < k:=of_decide_eq_true (List.all_eq_true.1 dx.1.1.1 j (cN.1 he));have:=f2 j oj t _ hjk hj hd hrt;simp[Act.eval,this]
          ·rw[Bool.not_eq_true] at he;simp only[he,Bool.false_or,hj] at LP hrt;have PM:ρ (.tmp t)=a0.eval (.tmp t):=by simpa using hrt
           rw[PM];refine(ep (f3 t ?_)).symm;intro i oi hik hoi SS;have kB:=aO aS i oi hoi;simp only[eh,SS,Bool.and_eq_true,Nat.zero_add,beq_iff_eq] at kB;have Ix:i=j:=by have:=kB.1.1.2.2;rw[hs] at this;injection this with this;exact this.symm
           subst Ix;rw[hj] at hoi;injection hoi with hoi;subst hoi
           have fJ:=aO aS i oj hj;simp only[eh,Bool.and_eq_true,Nat.zero_add] at fJ;have:=of_decide_eq_true (List.all_eq_true.1 fJ.1.1.1 k (cN.1 LP));omega
     have hT:mE P o ρ w (fun v' w'=>(C w→C w')∧v'=v)→mE P o ρ w (fun v' w'=>(C w→C w')∧vs[k]?=some v'):=by
      unfold mE;intro h';generalize (execOp ρ o).run P w=r at*;cases r with
      | ok n w'=>
        cases n <;> first | exact⟨h'.1,by rw[h'.2];exact hv⟩| exact h'.elim | skip
        exact h'.mono fun e w'' ⟨u,h1,h2,h3⟩=>⟨u,h1,h2,by rw[h3];exact hv⟩
      | halt x w'=>exact h'.elim
     cases hg:o.guard with
     | none=>
       rcases uG with ⟨_,PN⟩|⟨hw,_⟩
       ·exact hT (fK uH mF FA (PN w FA))
       ·simp[Region.wanted,hg] at hw
     | some g=>
       obtain⟨j,want⟩:=g;simp only[eh,hg,Bool.and_eq_true] at dx;have hjk:j < k:=of_decide_eq_true (List.all_eq_true.1 dx.1.1.1 j (cN.1 dx.2.1));obtain⟨oj,gK⟩:∃oj,l[j]?=some oj:=⟨l[j]'(by omega),List.getElem?_eq_getElem (by omega)⟩;have wN:=dx.2.2;rw[gK] at wN;obtain⟨d,hd⟩:=Option.isSome_iff_exists.1 wN;simp only[gK,Option.bind_some,hd];intro PJ;have Iy:=f2 j oj d _ hjk gK hd PJ;have kC:yielded (l++zs).toArray (((l.take k).zip vs).foldl (fun b ov=>b.put ov.1.dst ov.2) a0).tmps j=match ρ (.tmp d)with | .bool b=>some b | _=>none:=by unfold yielded;rw[fI gK];simp only[Option.bind_some,hd,Iy];cases ρ (.tmp d)<;> rfl
       constructor
       ·intro jv;rcases uG with ⟨_,PN⟩|⟨hw,_⟩
        ·exact hT (fK uH mF FA (PN w FA))
        ·simp[Region.wanted,hg,kC,jv] at hw
       ·intro jv;rcases uG with ⟨hw,_⟩|⟨_,hu⟩
        ·exfalso;simp only[Region.wanted,hg,kC] at hw;apply jv;cases lL:ρ (.tmp d)<;> rw[lL] at hw <;> simp at hw;rw[hw]
        ·rw[← hu];exact hv
  exact key 0 l rfl
 ·intro w hR;have FA:C w:=hR SQ;have key:∀(k:Nat) (rest:List Oper),l.drop k=rest→k≤l.length→dr (fun i _ v=>vs[i]?=some v) (fun a w=>wpList P (l++zs).toArray Q zs a w) rest k (((l.take k).zip vs).foldl (fun b ov=>b.put ov.1.dst ov.2) a0) w:=by
   intro k rest;induction rest generalizing k with
   | nil=>intro hk Ct;have:l.length≤k:=List.drop_eq_nil_iff.1 hk;have e:l.take k=l:=List.take_of_length_le this;rw[e];exact hq w FA
   | cons o rest ih=>
     intro hk Ct;have mI:l[k]?=some o:=by have:=congrArg (fun x=>x[0]?) hk;simpa using this
     have Ip:k < l.length:=by
      rcases Nat.lt_or_ge k l.length with h' | h'
      ·exact h'
      ·rw[List.getElem?_eq_none h'] at mI;cases mI
     have hstep:∀v,vs[k]?=some v→((l.take (k+1)).zip vs).foldl (fun b ov=>b.put ov.1.dst ov.2) a0=(((l.take k).zip vs).foldl (fun b ov=>b.put ov.1.dst ov.2) a0).put o.dst v:=by intro v hv;rw[gQ hl mI hv,List.foldl_append];rfl
     have lW:=ih (k+1) (by rw[← List.tail_drop,hk];rfl) (by omega);unfold dr;cases hd:o.dst with
     | none=>simp only;obtain⟨v,hv⟩:∃v,vs[k]?=some v:=⟨vs[k]'(by omega),List.getElem?_eq_getElem (by omega)⟩;rw[hstep v hv,hd] at lW;exact lW
     | some d=>simp only;intro v hv;rw[hstep v hv,hd] at lW;exact lW
  have:=key 0 l rfl (by omega);simpa using this
theorem cZ {P:Program} {Q:Exit→Act→World→Prop} {a0:Act} {w:World} {id:Nat} {ops:List Oper}(k B:Nat)(w0:World)(hb:Below B w0 w)(hm:P.follows .mixedOrders=true)(tP:zU (ops.take k)=true)
  (aS:bR (ops.take k) a0.tmps.size (ops.take k) 0=true) (hz:cF ops (ops.drop k) (ops.take k).length=true)
  (h:wpQuiet P ops.toArray (fun w'=>∃x:Ext B w0,w'=x.w) (fun a=>∀w,(∃x:Ext B w0,w=x.w)→wpList P ops.toArray Q (ops.drop k) a w) (ops.take k) a0):(Code.region id ops.toArray true).wp P Q a0 w:=
 nJ (ops.drop k) (ops.take k) (List.take_append_drop k ops).symm (fun w'=>∃x:Ext B w0,w'=x.w) ⟨⟨w,hb⟩,rfl⟩ (fun w' ⟨x,e⟩=>⟨⟨w'.drew,by rw[e];exact x.h.drew⟩,rfl⟩) hm tP aS (by rw[List.take_append_drop];exact hz) h
theorem dP {P:Program} {f:FuncId} {args:Array Value} {B:Nat} {w0:World} {x:Ext B w0} {v:Value}(hB:B≤w0.heap.size)
  (h:Calls P f args x.w fun e w'=>e=.returned v∧Below x.w.heap.size x.w w'):Calls P f args x.w fun e w''=>e=.returned v∧∃x:Ext B w0,w''=x.w:=
 h.mono fun _ _ ⟨he,hb⟩=>⟨he,⟨_,x.h.trans (hb.mono (Nat.le_trans hB x.h.size))⟩,rfl⟩
def ae (w w':World):Prop:=Below w.heap.size w w'
theorem ae.refl (w:World):ae w w:=Below.refl _ _
theorem ae.trans {a b c:World}(h:ae a b)(k:ae b c):ae a c:=Below.trans h (Below.mono k h.size)
theorem ae.drew (w:World):ae w w.drew:=(Below.refl _ _).drew
section
variable {P:Program} {o:Oper} {ρ:Operand→Value} {w:World} {T:Value→World→Prop}
theorem cJ {v:Value} {w':World}(h:(execOp ρ o).run P w=.ok (.value v) w')(hT:T v w'):mE P o ρ w T:=by unfold mE;rw[h];exact hT
theorem lZ {f:FuncId} {args:Array Value} {w':World}(h:(execOp ρ o).run P w=.ok (.enter f args) w')(hc:Calls P f args w' fun e w''=>∃v,e=.returned v∧T v w''):mE P o ρ w T:=by unfold mE;rw[h];exact hc
end
set_option linter.unusedVariables false
section
variable {α:Type} {f:α→List Value} {e:TypeId} {size:Nat} {base:Nat} {lv:Value} {l:List α} {y:α}
structure AR (f:α→List Value) (e:TypeId) (size base:Nat) (lv:Value) (l:List α) (y:α) (a b:World):Prop where
 grown:a.grownBy b lv.ownBlock
 old:aW f e size a base lv l→aW f e size b base lv l
 new:∀u,aW f e size a base u (l++ [y])→aW f e size b base u (l++ [y])
theorem AR.later {a b:World}(h:Below a.heap.size a b):AR f e size base lv l y a b:=
 ⟨⟨h.os,h.tape,h.output,h.size,fun k hk _=>h.block k hk⟩,fun o=>o.later h,fun u o=>o.later h⟩
theorem eV {a b:World}(h:a.grownBy b none):Below a.heap.size a b:=⟨h.os,h.tape,h.output,h.size,fun k hk=>h.block k hk (by simp)⟩
theorem fO {P:Program} {w:World}(t ty:TypeId)(z:Value)(bytes:Nat)(ht:P.underlying t=some (.slice e))(jw:(P.info? e).map (fun i=>(i.zero,i.size,i.bytes))=some (some z,size,bytes))(hzs:z.cells.size=size)(hsz:0 < size)
  (hf:∀x,(f x).length=size) (h1:∀u∈f y,u.oneCell'=true) (hown:aW f e size w base lv l)
  (g0:Nat) (hg0:ah w g0 e (f y).toArray) (hlen:(l.length+1)*bytes≤140737488355328) (kD:l.length+1≤140737488355328) (hbase:base≤w.heap.size):
  ∃v' w',(Builtin.append_ #[t,t] ty #[lv,.slice (some ⟨g0,0,none⟩) 1 1]).run P w=.ok v' w'∧aW f e size w' base v' (l++ [y])∧AR f e size base lv l y w w':=by
 obtain⟨i0,pj,hz0,hz1,hz2⟩:=info_parts jw;have hnews:∀j u,(f y)[j]?=some u→w.cell? ((⟨g0,0,none⟩:Addr).add j)=some u:=by
  intro j u hu;have:(Addr.add ⟨g0,0,none⟩ j)=⟨g0,j,none⟩:=by unfold Addr.add;split <;> simp_all
  rw[this,hg0.cell];simpa using hu
 have dG:(f y).length=1*size:=by rw[hf];omega
 have conv:∀ {w':World} {v':Value},w'.ownsRow base e size v' (l.length+1) (l.flatMap f++f y)→aW f e size w' base v' (l++ [y]):=fun h=>by unfold aW;rw[List.length_append,List.flatMap_append];simpa using h
 by_cases hroom:∃g cap,lv=.slice (some ⟨g,0,none⟩) l.length cap∧l.length+1≤cap
 ·obtain⟨g,cap,rfl,hr⟩:=hroom;obtain⟨w',hrun,ho,hg⟩:=run_append_fits (P:=P) w base t ty e i0 size ht pj hz1 g l.length cap (l.flatMap f) hown ⟨g0,0,none⟩ 1 1 (f y) dG hnews h1 hr;refine⟨_,w',hrun,conv ho,hg,fun _=>?_,fun u hu=>?_⟩
  ·rcases ho.2 with ⟨h,_⟩|⟨g',cap',cur,h,hbg,cU,hn,hm,hs,PS⟩
   ·cases h
   ·injection h with jS rH Oq;injection jS with jS;injection jS with jS _ _;subst jS Oq;refine⟨hown.1,.inr ⟨g,cap,cur,rfl,hbg,cU,by omega,hm,hs,?_⟩⟩;have hx:=congrArg (List.take (l.length*size)) PS;rw[List.take_take,Nat.min_eq_left (Nat.mul_le_mul_right _ (by omega)),List.take_append_of_le_length (Nat.le_of_eq hown.1.symm)] at hx;rw[hx];exact List.take_of_length_le (Nat.le_of_eq hown.1)
  ·by_cases hb:u.ownBlock=some g
   ·rcases hu.2 with ⟨rfl,_⟩|⟨g',cap',cur,rfl,hbg,cU,hn,hm,hs,PS⟩
    ·simp[Value.ownBlock] at hb
    ·simp only[Value.ownBlock,Option.some.injEq] at hb;subst hb;rcases hown.2 with ⟨h,_⟩|⟨g2,WE,WG,h,_,rM,_,_,hs2,_⟩
     ·cases h
     ·injection h with jS rH Oq;injection jS with jS;injection jS with jS _ _;subst jS Oq;rw[cU] at rM;injection rM with rM;injection rM with rM _ _;subst rM;have PT:cap'=cap:=Nat.eq_of_mul_eq_mul_right hsz (hs.symm.trans hs2);subst PT;have:=conv ho;rw[List.length_append];exact this
   ·exact hu.keep fun q hq=>hg.block q (hu.lt hq).1 fun e=>hb (by rw[hq];exact e)
 ·obtain⟨v',w',hrun,ho,hg,_,hat⟩:=run_append_own_at (P:=P) w base t ty e i0 z size bytes ht pj hz0 hz1 hz2 hzs hsz lv l.length (l.flatMap f) hown ⟨g0,0,none⟩ 1 1 (f y) dG hnews h1 (by unfold maxLen;omega) hlen hbase;have PU:Below w.heap.size w w':=by
   rcases hown.2 with ⟨rfl,h0⟩|⟨g,cap,cur,rfl,hbg,cU,hn,hm,hs,yC⟩
   ·have hr:=run_append_nil (P:=P) w t ty e i0 z ht pj hz0 ⟨g0,0,none⟩ 1 1 (f y) (by rw[hz1];exact dG) hnews (by omega) (by omega) (by rw[hz2];have:1*bytes≤(l.length+1)*bytes:=Nat.mul_le_mul_right _ (by omega);omega);rw[hr] at hrun;injection hrun with _ hw;rw[← hw];exact(ae.drew w).alloc (Nat.le_refl _) _
   ·have hno:¬l.length+1≤cap:=fun h=>hroom ⟨g,cap,rfl,h⟩
    have holds:∀j u,(l.flatMap f)[j]?=some u→w.cell? ((⟨g,0,none⟩:Addr).add j)=some u:=World.ownsRow.cells hown (g:=g) rfl;have hr:=run_append_grow (P:=P) w t ty e i0 z ht pj hz0 ⟨g,0,none⟩ l.length cap (l.flatMap f) (by rw[hz1];exact hown.1) holds ⟨g0,0,none⟩ 1 1 (f y) (by rw[hz1];exact dG) hnews (by omega) (by omega) (by rw[hz2];exact growslice_fits (by omega) hlen);rw[hr] at hrun;injection hrun with _ hw;rw[← hw];exact(ae.drew w).alloc (Nat.le_refl _) _
  exact⟨v',w',hrun,conv ho,AR.later PU⟩
end
def zX (l:List Oper)(R:World→World→Prop)(U:Nat→World→(Operand→Value)→Prop):Prop:=
 ∀i o w w' ρ ρ',l[i]?=some o→U i w ρ→R w w'→(∀j∈bZ o,∀oj d,l[j]?=some oj→oj.dst=some d→ρ' (.tmp d)=ρ (.tmp d))→U i w' ρ'
structure Inv2 (l:List Oper) (V:Nat→World→Value→Prop) (U:Nat→World→(Operand→Value)→Prop) (R:World→World→Prop) (a0:Act) (w0:World) (m:Nat) (listed:Array Bool) (a:Act) (w:World):Prop where
 base:Inv l V R a0 w0 m listed a w
 post:∀i o,l[i]?=some o→listed.getD i false=true→U i w a.eval
section
variable {P:Program} {l zs:List Oper} {Q:Exit→Act→World→Prop} {R:World→World→Prop} {V:Nat→World→Value→Prop} {U:Nat→World→(Operand→Value)→Prop} {a0:Act} {w0:World}
theorem Inv2.step (aS:bR l a0.tmps.size l 0=true)(hV:∀i w w' v,V i w v→R w w'→V i w' v)(hU:zX l R U)(hrefl:∀w,R w w)(hT:∀a b c,R a b→R b c→R a c) {m:Nat} {listed:Array Bool} {a:Act} {w w':World} {v:Value}(I:Inv2 l V U R a0 w0 m listed a w) {i:Nat} {o:Oper}(ho:l[i]?=some o)(yr:i < m)
  (yq:listed.getD i false=false) (hall:∀j∈bZ o,listed.getD j false=true) (hr:R w w') (hv:V i w' v) (hu:U i w' a.eval):Inv2 l V U R a0 w0 m (listed.setIfInBounds i true) (a.put o.dst v) w':=by
 refine⟨I.base.step aS hV hT ho yr yq hall hr hv,?_⟩;have pA:i < listed.size:=by rw[I.base.len];exact yr
 have dx:=aO aS i o ho;rw[Nat.zero_add] at dx;have keep:∀j d oj,l[j]?=some oj→oj.dst=some d→j≠i→(a.put o.dst v).eval (.tmp d)=a.eval (.tmp d):=by
  intro j d oj hj hd sU;refine Act.eval_put fun d' PI e=>?_
  injection e with e;subst e;have fJ:=aO aS j oj hj;simp only[eh,hd,Bool.and_eq_true,Nat.zero_add,beq_iff_eq] at fJ;simp only[eh,PI,Bool.and_eq_true,beq_iff_eq] at dx;rw[fJ.1.1.2.2] at dx;have:=dx.1.1.2.2;injection this with this;exact sU this
 intro j oj hj hl;by_cases sU:j=i
 ·subst sU;rw[hj] at ho;injection ho with ho;subst ho
  refine hU j oj w' w' a.eval _ hj hu (hrefl _) fun k hk ok d pQ hd=>keep k d ok pQ hd ?_
  intro e;subst e;have:=hall k hk;rw[yq] at this;cases this
 ·have hl':listed.getD j false=true:=by rw[bT _ _ _ pA,if_neg sU] at hl;exact hl
  refine hU j oj w w' a.eval _ hj (I.post j oj hj hl') hr fun k hk ok d pQ hd=>keep k d ok pQ hd ?_
  intro e;subst e;have:=I.base.closed j oj hj hl' k hk;rw[yq] at this;cases this
end
open Go.ChangeShapes Go.WideShapes Go.ChangeAt
theorem ae.then {a b c:World}(h:Below a.heap.size a b)(k:Below b.heap.size b c):Below a.heap.size a c:=h.trans (k.mono h.size)
theorem aa (w:World)(o:Obj):Below w.heap.size w (w.alloc o):=(Below.refl _ _).alloc (Nat.le_refl _) o
theorem ot (w:World):∀k,Below w.heap.size w (w.drewN k)
 | 0=>Below.refl _ _
 | k+1=>(ot w k).drew
theorem ji {w:World} {p:Addr} {v:Value}(h:w.cell? p=some v):p.block < w.heap.size:=by
 rcases Nat.lt_or_ge p.block w.heap.size with hlt | Ck
 ·exact hlt
 ·unfold World.cell? at h;rw[Array.getElem?_eq_none Ck] at h;simp at h
def strOf (l:List UInt8):Value:=.string ⟨l.toArray⟩
theorem sr {α:Type} {f:α→List Value} {size:Nat}(hf:∀x,(f x).length=size):∀(l:List α) (k:Nat) (x:α),l[k]?=some x→∀r u,(f x)[r]?=some u→(l.flatMap f)[k*size+r]?=some u
 | [],k,x,h,_,_,_=>by simp at h
 | y::l,0,x,h,r,u,hu=>by
   simp at h;subst h;have hr:r <(f y).length:=by
    rcases Nat.lt_or_ge r (f y).length with h' | h'
    ·exact h'
    ·rw[List.getElem?_eq_none h'] at hu;cases hu
   rw[Nat.zero_mul,Nat.zero_add,List.flatMap_cons,List.getElem?_append_left hr];exact hu
 | y::l,k+1,x,h,r,u,hu=>by have:=sr hf l k x (by simpa using h) r u hu;rw[List.flatMap_cons,List.getElem?_append_right (by rw[hf,Nat.succ_mul];omega),hf];rw[show(k+1)*size+r - size=k*size+r by rw[Nat.succ_mul];omega];exact this
section
variable {α:Type} {f:α→List Value} {e:TypeId} {size:Nat} {w w':World} {base:Nat} {v:Value} {l:List α}
theorem aW.cell (hf:∀x,(f x).length=size)(h:aW f e size w base v l) {k:Nat} {x:α}(hk:l[k]?=some x):
  ∃g c,v=.slice (some ⟨g,0,none⟩) l.length c∧base≤g∧g < w.heap.size∧∀r u,(f x)[r]?=some u→w.cell? ⟨g,k*size+r,none⟩=some u:=by
 have Ct:k < l.length:=by
  rcases Nat.lt_or_ge k l.length with h' | h'
  ·exact h'
  ·rw[List.getElem?_eq_none h'] at hk;cases hk
 rcases h.2 with ⟨_,h0⟩|⟨g,cap,cur,rfl,hb,hg,hn,hm,hs,ht⟩
 ·omega
 ·have hlt:g < w.heap.size:=by
   rcases Nat.lt_or_ge g w.heap.size with h' | h'
   ·exact h'
   ·rw[Array.getElem?_eq_none h'] at hg;cases hg
  refine⟨g,cap,rfl,hb,hlt,fun r u hu=>?_⟩;have h1:=sr hf l k x hk r u hu;rw[← ht] at h1;have h2:cur[k*size+r]?=some u:=by
   rw[List.getElem?_take] at h1;split at h1
   ·simpa using h1
   ·cases h1
  unfold World.cell?;simp[hg,h2]
theorem aW.form (h:aW f e size w base v l):∃A c,v=.slice A l.length c:=by obtain⟨A,c,hv,_⟩:=h.reads;exact⟨A,c,hv⟩
end
set_option linter.unusedSimpArgs false
structure Ex where
 op:Int
 v:Val
 name:ByteArray
 width:Int
 A:Option Addr
 n:Nat
 c:Nat
def cM (y:Ex):List Value:=[.int .u8 y.op,.int .u8 y.v.k,.int .i64 y.v.n,.string y.v.s,.string y.name,.int .i64 y.width,.slice y.A y.n y.c]
def iL (y:Ex):Value:=.agg (cM y).toArray
def RL {β:Type}(f:β→List Value)(size:Nat)(w:World)(S:Nat→Prop)(A:Option Addr)(l:List β):Prop:=
 l=[]∨∃b off,A=some ⟨b,off,none⟩∧S b∧∀i y j u,l[i]?=some y→(f y)[j]?=some u→w.cell? ⟨b,off+i*size+j,none⟩=some u
theorem RL.keep {β:Type} {f:β→List Value} {size:Nat} {w w':World} {S S':Nat→Prop} {A:Option Addr} {l:List β}(h:RL f size w S A l)(hk:∀b,S b→(∀o,w'.cell? ⟨b,o,none⟩=w.cell? ⟨b,o,none⟩)∧S' b):RL f size w' S' A l:=by
 rcases h with h |⟨b,off,h1,h2,h3⟩
 ·exact .inl h
 ·exact .inr ⟨b,off,h1,(hk b h2).2,fun i y j u hy hu=>((hk b h2).1 _).trans (h3 i y j u hy hu)⟩
mutual
def Tr.at_ (w:World)(S:Nat→Prop):Tr→Ex→Prop
 | .mk op v name width args,y=>y.op=op∧y.v=v∧y.name=name∧y.width=width∧y.n=args.length∧∃ys,RL cM 7 w S y.A ys∧Tr.bL w S args ys
def Tr.bL (w:World)(S:Nat→Prop):List Tr→List Ex→Prop
 | [],ys=>ys=[]
 | t::ts,ys=>∃y ys',ys=y::ys'∧Tr.at_ w S t y∧Tr.bL w S ts ys'
end
mutual
theorem Tr.at_.keep {w w':World} {S S':Nat→Prop}(hk:∀b,S b→(∀o,w'.cell? ⟨b,o,none⟩=w.cell? ⟨b,o,none⟩)∧S' b):∀(t:Tr) (y:Ex),t.at_ w S y→t.at_ w' S' y
 | .mk op v name width args,y,h=>by unfold Tr.at_ at h ⊢;obtain⟨h1,h2,h3,h4,h5,ys,h6,h7⟩:=h;exact⟨h1,h2,h3,h4,h5,ys,h6.keep hk,Tr.bL.keep hk args ys h7⟩
theorem Tr.bL.keep {w w':World} {S S':Nat→Prop}(hk:∀b,S b→(∀o,w'.cell? ⟨b,o,none⟩=w.cell? ⟨b,o,none⟩)∧S' b):∀(ts:List Tr) (ys:List Ex),Tr.bL w S ts ys→Tr.bL w' S' ts ys
 | [],ys,h=>by unfold Tr.bL at h ⊢;exact h
 | t::ts,ys,h=>by unfold Tr.bL at h ⊢;obtain⟨y,ys',h1,h2,h3⟩:=h;exact⟨y,ys',h1,Tr.at_.keep hk t y h2,Tr.bL.keep hk ts ys' h3⟩
end
theorem Tr.bL.length {w:World} {S:Nat→Prop}:∀ {ts:List Tr} {ys:List Ex},Tr.bL w S ts ys→ys.length=ts.length
 | [],ys,h=>by unfold Tr.bL at h;subst h;rfl
 | t::ts,ys,h=>by unfold Tr.bL at h;obtain⟨y,ys',rfl,_,h3⟩:=h;simp[Tr.bL.length h3]
theorem Tr.rq {w:World} {S:Nat→Prop} {t:Tr} {y:Ex}(h:t.at_ w S y):Tr.bL w S [t] [y]:=by unfold Tr.bL;exact⟨y,[],rfl,h,by unfold Tr.bL;rfl⟩
theorem Tr.ER {w:World} {S:Nat→Prop} {t u:Tr} {y z:Ex}(h:t.at_ w S y)(k:u.at_ w S z):Tr.bL w S [t,u] [y,z]:=by unfold Tr.bL;exact⟨y,[z],rfl,h,Tr.rq k⟩
theorem Tr.all_nil {w:World} {S:Nat→Prop}:Tr.bL w S [] []:=by unfold Tr.bL;rfl
structure El (α:Type) where
 β:Type
 f:β→List Value
 size:Nat
 hf:∀y,(f y).length=size
 rel:World→(Nat→Prop)→α→β→Prop
 keep:∀ {w w':World} {S S':Nat→Prop} {x:α} {y:β},(∀b,S b→(∀o,w'.cell? ⟨b,o,none⟩=w.cell? ⟨b,o,none⟩)∧S' b)→rel w S x y→rel w' S' x y
inductive jd {α β:Type} (R:α→β→Prop):List α→List β→Prop
 | nil:jd R [] []
 | cons {x:α} {y:β} {l:List α} {m:List β}:R x y→jd R l m→jd R (x::l) (y::m)
theorem jd.imp {α β:Type} {R R':α→β→Prop}(h:∀x y,R x y→R' x y):∀ {l:List α} {m:List β},jd R l m→jd R' l m
 | _,_,.nil=> .nil
 | _,_,.cons a b=> .cons (h _ _ a) (b.imp h)
theorem jd.len {α β:Type} {R:α→β→Prop}:∀ {l:List α} {m:List β},jd R l m→m.length=l.length
 | _,_,.nil=>rfl
 | _,_,.cons a b=>by simp[b.len]
theorem jd.append {α β:Type} {R:α→β→Prop}:∀ {l l':List α} {m m':List β},jd R l m→jd R l' m'→jd R (l++l') (m++m')
 | _,_,_,_,.nil,k=>k
 | _,_,_,_,.cons a b,k=> .cons a (b.append k)
theorem jd.one {α β:Type} {R:α→β→Prop} {x:α} {y:β}(h:R x y):jd R [x] [y]:=.cons h .nil
def El.lies {α:Type}(E:El α)(w:World)(S:Nat→Prop)(A:Option Addr)(n:Nat)(l:List α):Prop:=n=l.length∧∃ys,RL E.f E.size w S A ys∧jd (E.rel w S) l ys
theorem El.lies.keep {α:Type} {E:El α} {w w':World} {S S':Nat→Prop} {A:Option Addr} {n:Nat} {l:List α}(h:E.lies w S A n l)(hk:∀b,S b→(∀o,w'.cell? ⟨b,o,none⟩=w.cell? ⟨b,o,none⟩)∧S' b):E.lies w' S' A n l:=by obtain⟨h1,ys,h2,h3⟩:=h;exact⟨h1,ys,h2.keep hk,h3.imp fun x y=>E.keep hk⟩
theorem El.JX {α:Type}(E:El α)(w:World)(S:Nat→Prop):E.lies w S none 0 []:=⟨rfl,[],.inl rfl,.nil⟩
def my:El Tr:=⟨Ex,cM,7,fun _=>rfl,Tr.at_,fun hk h=>Tr.at_.keep hk _ _ h⟩
def jM:El (Tr×ByteArray):=⟨Ex×ByteArray,fun y=>cM y.1++ [.string y.2],8,fun _=>rfl,fun w S x y=>x.1.at_ w S y.1∧y.2=x.2,fun hk h=>⟨Tr.at_.keep hk _ _ h.1,h.2⟩⟩
def js:El (Tr×Bool):=⟨Ex×Bool,fun y=>cM y.1++ [.bool y.2],8,fun _=>rfl,fun w S x y=>x.1.at_ w S y.1∧y.2=x.2,fun hk h=>⟨Tr.at_.keep hk _ _ h.1,h.2⟩⟩
def OV:El (ByteArray×Int):=⟨ByteArray×Int,fun y=> [.string y.1,.int .u8 y.2],2,fun _=>rfl,fun _ _ x y=>y=x,fun _ h=>h⟩
def JY:El Int:=⟨Int,fun y=> [.int .i64 y],1,fun _=>rfl,fun _ _ x y=>y=x,fun _ h=>h⟩
def OW:El (ByteArray×Tr):=⟨ByteArray×Ex,fun y=> .string y.1::cM y.2,8,fun _=>rfl,fun w S x y=>y.1=x.1∧x.2.at_ w S y.2,fun hk h=>⟨h.1,Tr.at_.keep hk _ _ h.2⟩⟩
structure Sl where
 A:Option Addr
 n:Nat
 c:Nat
def OX:El (List Tr):=⟨Sl,fun y=> [.slice y.A y.n y.c],1,fun _=>rfl,fun w S x y=>my.lies w S y.A y.n x,fun hk h=>El.lies.keep h hk⟩
def gf (B:Nat)(w:World):Nat→Prop:=fun b=>B≤b∧b < w.heap.size
theorem cell_of_heap {w w':World} {b:Nat}(h:w'.heap[b]?=w.heap[b]?)(o:Nat):w'.cell? ⟨b,o,none⟩=w.cell? ⟨b,o,none⟩:=by unfold World.cell?;simp only[h]
theorem dW {g B:Nat} {w w':World}(h:w.grownBy w' (some g))(hg:g < B):∀b,gf B w b→(∀o,w'.cell? ⟨b,o,none⟩=w.cell? ⟨b,o,none⟩)∧gf B w' b:=fun b hb=>
 ⟨cell_of_heap (h.block b hb.2 (fun e=>by injection e with e;have:=hb.1;omega)),hb.1,Nat.lt_of_lt_of_le hb.2 h.size⟩
theorem fk {B:Nat} {w w':World}(h:Below w.heap.size w w'):∀b,gf B w b→(∀o,w'.cell? ⟨b,o,none⟩=w.cell? ⟨b,o,none⟩)∧gf B w' b:=fun b hb=>
 ⟨cell_of_heap (h.block b hb.2),hb.1,Nat.lt_of_lt_of_le hb.2 h.size⟩
theorem kj {B q:Nat} {w:World}(hq:q < B)(i:Nat)(u:Value):∀b,gf B w b→(∀o,(w.setCell ⟨q,i,none⟩ u).cell? ⟨b,o,none⟩=w.cell? ⟨b,o,none⟩)∧gf B (w.setCell ⟨q,i,none⟩ u) b:=fun b hb=>
 ⟨cell_of_heap (Below.heap_setCell w ⟨q,i,none⟩ u b (by have:=hb.1;simp;omega)),hb.1,by simpa [World.setCell] using hb.2⟩
theorem eP {B B':Nat} {w:World}(h:B'≤B):∀b,gf B w b→(∀o,w.cell? ⟨b,o,none⟩=w.cell? ⟨b,o,none⟩)∧gf B' w b:=fun b hb=>⟨fun _=>rfl,Nat.le_trans h hb.1,hb.2⟩
section
variable {B B' g q:Nat} {w w':World} {t:Tr} {y:Ex}
theorem Tr.at_.grown (h:t.at_ w (gf B w) y)(hg:w.grownBy w' (some g))(hB:g < B):t.at_ w' (gf B w') y:=Tr.at_.keep (dW hg hB) t y h
theorem Tr.at_.later (h:t.at_ w (gf B w) y)(hb:Below w.heap.size w w'):t.at_ w' (gf B w') y:=Tr.at_.keep (fk hb) t y h
theorem Tr.at_.set (h:t.at_ w (gf B w) y)(hq:q < B)(i:Nat)(u:Value):t.at_ (w.setCell ⟨q,i,none⟩ u) (gf B (w.setCell ⟨q,i,none⟩ u)) y:=Tr.at_.keep (kj hq i u) t y h
theorem Tr.at_.more (h:t.at_ w (gf B w) y)(hB:B'≤B):t.at_ w (gf B' w) y:=Tr.at_.keep (eP hB) t y h
end
section
variable {α:Type} {E:El α} {B B' g q:Nat} {w w':World} {A:Option Addr} {n:Nat} {l:List α}
theorem El.lies.more (h:E.lies w (gf B w) A n l)(hB:B'≤B):E.lies w (gf B' w) A n l:=h.keep (eP hB)
end
def Bx (B q:Nat)(w:World):Nat→Prop:=fun b=>B≤b∧b < w.heap.size∧b≠q
section
variable {B B' g q:Nat} {w w':World} {t:Tr} {y:Ex}
theorem eB (h:w.grownBy w' (some g))(hg:g < B):∀b,Bx B q w b→(∀o,w'.cell? ⟨b,o,none⟩=w.cell? ⟨b,o,none⟩)∧Bx B q w' b:=fun b hb=>
 ⟨cell_of_heap (h.block b hb.2.1 (fun e=>by injection e with e;have:=hb.1;omega)),hb.1,Nat.lt_of_lt_of_le hb.2.1 h.size,hb.2.2⟩
theorem eC (h:Below w.heap.size w w'):∀b,Bx B q w b→(∀o,w'.cell? ⟨b,o,none⟩=w.cell? ⟨b,o,none⟩)∧Bx B q w' b:=fun b hb=>
 ⟨cell_of_heap (h.block b hb.2.1),hb.1,Nat.lt_of_lt_of_le hb.2.1 h.size,hb.2.2⟩
theorem zf (i:Nat)(u:Value):∀b,Bx B q w b→(∀o,(w.setCell ⟨q,i,none⟩ u).cell? ⟨b,o,none⟩=w.cell? ⟨b,o,none⟩)∧Bx B q (w.setCell ⟨q,i,none⟩ u) b:=fun b hb=>
 ⟨cell_of_heap (Below.heap_setCell w ⟨q,i,none⟩ u b (fun e=>hb.2.2 e)),hb.1,by simpa [World.setCell] using hb.2.1,hb.2.2⟩
theorem Dk {p:Nat}(hp:p < B)(i:Nat)(u:Value):∀b,Bx B q w b→(∀o,(w.setCell ⟨p,i,none⟩ u).cell? ⟨b,o,none⟩=w.cell? ⟨b,o,none⟩)∧Bx B q (w.setCell ⟨p,i,none⟩ u) b:=fun b hb=>
 ⟨cell_of_heap (Below.heap_setCell w ⟨p,i,none⟩ u b (by have:=hb.1;simp;omega)),hb.1,by simpa [World.setCell] using hb.2.1,hb.2.2⟩
theorem kN (hB:B'≤B):∀b,Bx B q w b→(∀o,w.cell? ⟨b,o,none⟩=w.cell? ⟨b,o,none⟩)∧gf B' w b:=fun b hb=>⟨fun _=>rfl,Nat.le_trans hB hb.1,hb.2.1⟩
theorem qs (o:Obj)(hB:B'≤B):∀b,gf B w b→(∀i,(w.alloc o).cell? ⟨b,i,none⟩=w.cell? ⟨b,i,none⟩)∧Bx B' w.heap.size (w.alloc o) b:=fun b hb=>
 ⟨cell_of_heap (Below.heap_alloc w o b hb.2),Nat.le_trans hB hb.1,by have:=hb.2;simp;omega,by have:=hb.2;omega⟩
theorem OY (hq:q < B)(hB:B'≤B):∀b,gf B w b→(∀i,w.cell? ⟨b,i,none⟩=w.cell? ⟨b,i,none⟩)∧Bx B' q w b:=fun b hb=>
 ⟨fun _=>rfl,Nat.le_trans hB hb.1,hb.2,by have:=hb.1;omega⟩
end
theorem zg {β:Type} {f:β→List Value} {size:Nat}(hf:∀x,(f x).length=size) {w:World} {S:Nat→Prop} {G:Nat} {T:TypeId} {ys:List β}(h:ah w G T (ys.flatMap f).toArray)(hS:S G):RL f size w S (some ⟨G,0,none⟩) ys:=by refine .inr ⟨G,0,rfl,hS,fun i y j u hy hu=>?_⟩;have:=sr hf ys i y hy j u hu;have hc:=h.cell (i*size+j);rw[Nat.zero_add,hc];simpa using this
theorem jN (y:Ex):(cM y).length=7:=rfl
def iM:Val:=⟨0,0,⟨#[]⟩⟩
def vE (op:Int)(G n:Nat):Ex:=⟨op,iM,⟨#[]⟩,0,some ⟨G,0,none⟩,n,n⟩
theorem zh {w:World} {S:Nat→Prop} {G:Nat} {T:TypeId} {x:Tr} {y:Ex}(op:Int)(h:ah w G T (cM y).toArray)(hS:S G)(hx:x.at_ w S y):(gH op [x]).at_ w S (vE op G 1):=by unfold gH Tr.at_;exact⟨rfl,rfl,rfl,rfl,rfl,[y],zg jN (by simpa using h) hS,Tr.rq hx⟩
theorem JZ {w:World} {S:Nat→Prop} {G:Nat} {T:TypeId} {x x2:Tr} {y y2:Ex}(op:Int)(h:ah w G T (cM y++cM y2).toArray)(hS:S G)(hx:x.at_ w S y)(hx2:x2.at_ w S y2):(gH op [x,x2]).at_ w S (vE op G 2):=by unfold gH Tr.at_;exact⟨rfl,rfl,rfl,rfl,rfl,[y,y2],zg jN (by simpa using h) hS,Tr.ER hx hx2⟩
theorem vF (w:World)(S:Nat→Prop)(v:Val):(ig v).at_ w S ⟨1,v,⟨#[]⟩,0,none,0,0⟩:=by unfold ig Tr.at_;exact⟨rfl,rfl,rfl,rfl,rfl,[],.inl rfl,Tr.all_nil⟩
theorem QP (w:World)(S:Nat→Prop)(n:ByteArray):(jJ n).at_ w S ⟨2,iM,n,0,none,0,0⟩:=by unfold jJ Tr.at_;exact⟨rfl,rfl,rfl,rfl,rfl,[],.inl rfl,Tr.all_nil⟩
theorem Dl (w:World)(S:Nat→Prop)(op:Int):(gH op []).at_ w S ⟨op,iM,⟨#[]⟩,0,none,0,0⟩:=by unfold gH Tr.at_;exact⟨rfl,rfl,rfl,rfl,rfl,[],.inl rfl,Tr.all_nil⟩
inductive aF where
 | good (l:fA)
 | bad (n:Nat)
def aF.left:aF→Nat
 | .good l=>l.length
 | .bad n=>n
def aF.dN:aF→Bool
 | .good _=>true
 | .bad _=>false
def aF.words:aF→fA
 | .good l=>l
 | .bad _=> []
def af {α:Type}(p:Ps α):aF→aF
 | .bad n=> .bad n
 | .good l=>match p l with
   | .ok (_,r)=> .good r
   | .error n=> .bad n
def au {α:Type}(p:Ps α):aF→α→Prop
 | .bad _,_=>True
 | .good l,x=>match p l with
   | .ok (y,_)=>x=y
   | .error _=>True
theorem ay {α β:Type} {p:Ps α} {f:α→Ps β} {σ:aF} {x:α}(h:au p σ x):af (p >>= f) σ=af (f x) (af p σ):=by
 match σ with
 | .bad n=>rfl
 | .good l=>
   simp only[af,au,ee] at h ⊢;cases e:p l with
   | error n=>rfl
   | ok y=>obtain⟨y,r⟩:=y;rw[e] at h;simp only at h;subst h;rfl
theorem aj {α β:Type} {p:Ps α} {f:α→Ps β} {σ:aF} {x:α} {z:β}(h:au p σ x)(k:au (f x) (af p σ) z):au (p >>= f) σ z:=by
 match σ with
 | .bad n=>trivial
 | .good l=>
   simp only[af,au,ee] at h k ⊢;cases e:p l with
   | error n=>trivial
   | ok y=>obtain⟨y,r⟩:=y;rw[e] at h k;simp only at h k ⊢;subst h;exact k
theorem bs {α:Type}(x:α)(σ:aF):af (pure x:Ps α) σ=σ:=by cases σ <;> rfl
theorem aT {α:Type}(x:α)(σ:aF):au (pure x:Ps α) σ x:=by cases σ <;> trivial
theorem su {α:Type}(p:Ps α)(n:Nat)(x:α):au p (.bad n) x:=trivial
theorem Ba {α:Type} {p:Ps α} {l:fA} {n:Nat}(h:p l=.error n):af p (.good l)=.bad n:=by simp only[af,h]
theorem zi {α:Type} {p:Ps α} {l r:fA} {x:α}(h:p l=.ok (x,r)):af p (.good l)=.good r:=by simp only[af,h]
theorem Ka {α:Type} {p:Ps α} {l r:fA} {x:α}(h:p l=.ok (x,r)):au p (.good l) x:=by simp only[au,h]
def aF.head (s:List UInt8)(σ:aF):Bool:=bQ s σ.words
theorem aG (s:List UInt8)(σ:aF):au (may s) σ (σ.head s):=by
 match σ with
 | .bad n=>trivial
 | .good l=>
   simp only[au,may,aF.head,aF.words];cases e:bQ s l
   ·rfl
   ·rfl
theorem Bb (s:List UInt8)(σ:aF):af (may s) σ=if σ.head s then .good σ.words.tail else σ:=by
 match σ with
 | .bad n=>rfl
 | .good l=>
   simp only[af,may,aF.head,aF.words];by_cases e:bQ s l=true
   ·simp only[e,if_true]
   ·simp only[e];rfl
theorem xL (s:List UInt8)(σ:aF):af (must s) σ=if σ.head s then .good σ.words.tail else .bad σ.left:=by
 match σ with
 | .bad n=>rfl
 | .good l=>
   simp only[af,must,aF.head,aF.words,aF.left];by_cases e:bQ s l=true
   ·simp only[e,if_true]
   ·simp only[e];rfl
theorem bF (p:Ps Unit)(σ:aF):au p σ ():=by
 match σ with
 | .bad n=>trivial
 | .good l=>simp only[au];split <;> trivial
def aF.of (W:fA):aF→Prop
 | .good l=>l <:+ W∧fT l
 | .bad n=>0 < n∧n≤W.length
theorem aF.VV {α:Type} {p:Ps α}(hp:bX p) {W:fA} {σ:aF}(h:σ.of W):(af p σ).of W:=by
 match σ with
 | .bad n=>exact h
 | .good l=>
   obtain⟨h1,h2⟩:=h;cases e:p l with
   | error n=>rw[Ba e];obtain⟨k1,k2⟩:=hp.err e;exact⟨k2 h2,Nat.le_trans k1 h1.length_le⟩
   | ok y=>obtain⟨x,r⟩:=y;rw[zi e];obtain⟨k1,k2⟩:=hp.ok e;exact⟨k1.trans h1,k2 h2⟩
theorem aF.Dm {W:fA} {σ:aF}(h:σ.of W):0 < σ.left∧σ.left≤W.length:=by
 match σ with
 | .bad n=>exact h
 | .good l=>exact⟨h.2.pos,h.1.length_le⟩
theorem aF.of_next {W l:fA}(h:(aF.good l).of W):∃t r,l=t::r∧W[W.length - l.length]?=some t:=by
 obtain⟨⟨b,hb⟩,h2⟩:=h
 match l,h2.pos with
 | t::r,_=>refine⟨t,r,rfl,?_⟩;rw[← hb,List.length_append,Nat.add_sub_cancel,List.getElem?_append_right (Nat.le_refl _),Nat.sub_self];rfl
theorem aF.bh {α:Type} {p:Ps α}(hp:bX p)(σ:aF):(af p σ).left≤σ.left:=by
 match σ with
 | .bad n=>exact Nat.le_refl _
 | .good l=>
   cases e:p l with
   | error n=>rw[Ba e];exact(hp.err e).1
   | ok y=>obtain⟨x,r⟩:=y;rw[zi e];exact hp.len e
theorem kO:∀ks,gU ks []=none
 | []=>rfl
 |(s,o)::ks=>by simp only[gU,bQ];exact kO ks
theorem vG {below:Ps Tr}(hb:bX below)(lv:Nat):∀(f g:Nat) (x:Tr) (l:fA),l.length≤f→l.length≤g→iJ below lv f x l=iJ below lv g x l
 | 0,0,x,l,_,_=>rfl
 | 0,g+1,x,l,h,_=>by have:l=[]:=List.eq_nil_of_length_eq_zero (by omega);subst this;simp only[iJ,kO];rfl
 | f+1,0,x,l,_,h=>by have:l=[]:=List.eq_nil_of_length_eq_zero (by omega);subst this;simp only[iJ,kO];rfl
 | f+1,g+1,x,l,hf,hg=>by
   simp only[iJ];cases e:gU (opsL lv) l with
   | none=>rfl
   | some o=>
     obtain⟨s,_,hs⟩:=gw e;have ht:=head_tail hs;simp only[ee];cases e2:below l.tail with
     | error n=>rfl
     | ok y=>obtain⟨y,r⟩:=y;have:=hb.len e2;exact vG hb lv f g _ r (by omega) (by omega)
def pK (below:Ps Tr)(lv:Nat)(x:Tr):Ps Tr:=fun l=>iJ below lv l.length x l
theorem ES (below:Ps Tr)(lv:Nat):ly below lv=(do let x ← below;pK below lv x):=rfl
theorem vH {below:Ps Tr}(hb:bX below)(lv:Nat)(x:Tr)(l:fA):pK below lv x l=match gU (opsL lv) l with
  | none=> .ok (x,l)
  | some o=>(do let y ← below;pK below lv (gH o [x,y])) l.tail:=by
 match l with
 | []=>simp only[kO];rfl
 | t::r=>
   show iJ below lv (r.length+1) x (t::r)=_;simp only[iJ];cases e:gU (opsL lv) (t::r)with
   | none=>rfl
   | some o=>
     simp only[ee,List.tail_cons];cases e2:below r with
     | error n=>rfl
     | ok y=>obtain⟨y,r2⟩:=y;have:=hb.len e2;exact vG hb lv _ _ _ r2 (by omega) (Nat.le_refl _)
theorem vI {α:Type} {el:Ps α}(hb:bX el):∀(f g:Nat) (acc:List α) (l:fA),l.length≤f→l.length≤g→kJ el f acc l=kJ el g acc l
 | 0,0,x,l,_,_=>rfl
 | 0,g+1,x,l,h,_=>by have:l=[]:=List.eq_nil_of_length_eq_zero (by omega);subst this;simp[kJ,bQ];rfl
 | f+1,0,x,l,_,h=>by have:l=[]:=List.eq_nil_of_length_eq_zero (by omega);subst this;simp[kJ,bQ];rfl
 | f+1,g+1,x,l,hf,hg=>by
   simp only[kJ];cases e:bQ aU l
   ·rfl
   ·have ht:=head_tail e;simp only[if_true,ee];cases e2:el l.tail with
    | error n=>rfl
    | ok y=>obtain⟨y,r⟩:=y;have:=hb.len e2;exact vI hb f g _ r (by omega) (by omega)
def Bc {α:Type}(el:Ps α)(acc:List α):Ps (List α):=fun l=>kJ el l.length acc l
theorem ET {α:Type}(el:Ps α):gI el=(do let x ← el;Bc el [x]):=rfl
theorem rr {α:Type} {el:Ps α}(hb:bX el)(acc:List α):Bc el acc=(do
  if ← may aU then
   let y ← el
   Bc el (acc++ [y])
  else return acc):=by
 funext l;rw[vB]
 match l with
 | []=>rfl
 | t::r=>
   show kJ el (r.length+1) acc (t::r)=_;simp only[kJ];cases e:bQ aU (t::r)
   ·rfl
   ·simp only[if_true,ee,List.tail_cons];cases e2:el r with
    | error n=>rfl
    | ok y=>obtain⟨y,r2⟩:=y;have:=hb.len e2;exact vI hb _ _ _ r2 (by omega) (Nat.le_refl _)
def aF.op (lv:Nat)(σ:aF):Option Int:=gU (opsL lv) σ.words
theorem xM {below:Ps Tr}(hb:bX below)(lv:Nat)(x:Tr)(σ:aF):af (pK below lv x) σ=match σ.op lv with
  | none=>σ
  | some o=>af (do let y ← below;pK below lv (gH o [x,y])) (.good σ.words.tail):=by
 match σ with
 | .bad n=>simp only[aF.op,aF.words,kO];rfl
 | .good l=>simp only[af,aF.op,aF.words];rw[vH hb];cases e:gU (opsL lv) l <;> rfl
theorem tT {below:Ps Tr}(hb:bX below)(lv:Nat)(x:Tr)(σ:aF)(h:σ.op lv=none):au (pK below lv x) σ x:=by
 match σ with
 | .bad n=>trivial
 | .good l=>have:gU (opsL lv) l=none:=h;simp only[au,vH hb,this]
theorem tU {below:Ps Tr}(hb:bX below)(lv:Nat)(x z:Tr)(o:Int)(σ:aF)(h:σ.op lv=some o)(k:au (do let y ← below;pK below lv (gH o [x,y])) (.good σ.words.tail) z):au (pK below lv x) σ z:=by
 match σ with
 | .bad n=>trivial
 | .good l=>have h:gU (opsL lv) l=some o:=h;simp only[au,vH hb,h];exact k
end Go.Proofs.YtfmbcoeallmnnaaGreatDoor.R
