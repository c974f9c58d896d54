/- Parts of the proof. -/
import Derived.BigQuiet
import Derived.Deep.RegionWith
import Derived.Handy
import Derived.WalkLawsBesides
import Derived.Lib.Hide
import Derived.Laws.EntriesVeiled
import Derived.Deep.DeepCutAuto
import Derived.Lib.ParseIntB
import Derived.Lib.Case
import Derived.Test.YtcneefmaghoejaaGreatDoorC1
namespace Go.Proofs.YtcneefmaghoejaaGreatDoor
open Go.RowKit
structure Ext (B:Nat) (w0:World) where
 w:World
 h:Below B w0 w
instance (B:Nat) (w0:World):Nonempty (Ext B w0):=⟨⟨w0,Below.refl _ _⟩⟩
theorem Ext.cell {B:Nat} {w0:World}(x:Ext B w0) {p:Addr}(hp:p.block < B):x.w.cell? p=w0.cell? p:=x.h.cell hp
theorem uE {P:Program} {ops:Array Oper} {C:World→Prop} {Q:Act→Prop}:∀(l:List Oper) (a:Act),wpQuiet P ops C Q l a→
  ∃vs:List Value,vs.length=l.length∧
   (∀i o,l[i]?=some o→∃v,vs[i]?=some v∧
     ((Region.wanted o (yielded ops ((l.take i).zip vs |>.foldl (fun b ov=>b.put ov.1.dst ov.2) a).tmps)=true∧∀w,C w→o.quietAt P ((l.take i).zip vs |>.foldl (fun b ov=>b.put ov.1.dst ov.2) a) C w v)∨
      (Region.wanted o (yielded ops ((l.take i).zip vs |>.foldl (fun b ov=>b.put ov.1.dst ov.2) a).tmps)=false∧v=undef)))∧
   Q ((l.zip vs).foldl (fun b ov=>b.put ov.1.dst ov.2) a)
 | [],a,h=>⟨[],rfl,fun i o ho=>by simp at ho,h⟩
 | o::l,a,h=>by
   unfold wpQuiet at h;by_cases hw:Region.wanted o (yielded ops a.tmps)=true
   ·rw[if_pos hw] at h;obtain⟨v,hv,hn⟩:=h;obtain⟨vs,hl,hall,hq⟩:=uE l _ hn;refine⟨v::vs,by simp[hl],fun i o' Cf=>?_,by simpa using hq⟩
    match i with
    | 0=>simp at Cf;subst Cf;exact⟨v,rfl,.inl ⟨by simpa using hw,by simpa using hv⟩⟩
    | i+1=>obtain⟨v',h1,h2⟩:=hall i o' (by simpa using Cf);exact⟨v',by simpa using h1,by simpa using h2⟩
   ·rw[if_neg hw] at h;obtain⟨vs,hl,hall,hq⟩:=uE l _ h;refine⟨undef::vs,by simp[hl],fun i o' Cf=>?_,by simpa using hq⟩
    match i with
    | 0=>simp at Cf;subst Cf;exact⟨undef,rfl,.inr ⟨by simpa using hw,rfl⟩⟩
    | i+1=>obtain⟨v',h1,h2⟩:=hall i o' (by simpa using Cf);exact⟨v',by simpa using h1,by simpa using h2⟩
theorem uu {l:List Oper} {vs:List Value} {k:Nat} {o:Oper} {v:Value}(hl:vs.length=l.length)(ho:l[k]?=some o)(hv:vs[k]?=some v):((l.take (k+1)).zip vs)=((l.take k).zip vs)++ [(o,v)]:=by
 have hk:k < l.length:=by
  rcases Nat.lt_or_ge k l.length with h' | h'
  ·exact h'
  ·rw[List.getElem?_eq_none h'] at ho;cases ho
 rw[List.take_add_one,ho];have e1:vs=vs.take k++v::vs.drop (k+1):=by
  conv=>lhs;rw[← List.take_append_drop k vs]
  congr 1;rw[List.drop_eq_getElem_cons (by omega)];congr 1;rw[List.getElem?_eq_getElem (by omega)] at hv;injection hv
 have hlen:(l.take k).length=(vs.take k).length:=by simp;omega
 conv=>lhs;rw[e1]
 rw[List.zip_append hlen];have e2:(l.take k).zip vs=(l.take k).zip (vs.take k):=by
  conv=>lhs;rw[← List.take_append_drop k vs]
  have h0:(l.take k++ []).zip (vs.take k++vs.drop k)=(l.take k).zip (vs.take k)++([]:List Oper).zip (vs.drop k):=List.zip_append hlen;simpa using h0
 rw[e2];simp
theorem CH {l:List Oper} {vs:List Value} {a:Act}(aO:eQ l a.tmps.size l 0=true)(hl:vs.length=l.length):∀(k:Nat),k≤l.length→
  (((l.take k).zip vs).foldl (fun b ov=>b.put ov.1.dst ov.2) a).tmps.size=a.tmps.size∧
  (∀j oj d v,j < k→l[j]?=some oj→oj.dst=some d→vs[j]?=some v→(((l.take k).zip vs).foldl (fun b ov=>b.put ov.1.dst ov.2) a).tmps[d]?=some v)∧
  (∀t,(∀j oj,j < k→l[j]?=some oj→oj.dst≠some t)→(((l.take k).zip vs).foldl (fun b ov=>b.put ov.1.dst ov.2) a).tmps[t]?=a.tmps[t]?)
 | 0,_=>by simp
 | k+1,hk=>by
   obtain⟨h1,h2,h3⟩:=CH aO hl k (by omega);obtain⟨o,ho⟩:∃o,l[k]?=some o:=⟨l[k]'(by omega),List.getElem?_eq_getElem (by omega)⟩;obtain⟨v,hv⟩:∃v,vs[k]?=some v:=⟨vs[k]'(by omega),List.getElem?_eq_getElem (by omega)⟩;have e:=uu hl ho hv;rw[e,List.foldl_append];generalize ((l.take k).zip vs).foldl (fun b ov=>b.put ov.1.dst ov.2) a=b at*;have mg:=dN aO k o ho;rw[Nat.zero_add] at mg;simp only[List.foldl_cons,List.foldl_nil];refine⟨?_,?_,?_⟩
   ·cases hd:o.dst <;> simp[Act.put,h1]
   ·intro j oj d v' hj qz hd hv';by_cases hjk:j=k
    ·subst hjk;rw[ho] at qz;injection qz with qz;subst qz
     rw[hv] at hv';injection hv' with hv';subst hv'
     simp only[mZ,hd,Bool.and_eq_true,decide_eq_true_eq] at mg;have hb:d < b.tmps.size:=by rw[h1];exact mg.1.1.2.1
     simp[hd,Act.put,hb]
    ·have hold:=h2 j oj d v' (by omega) qz hd hv';cases hdo:o.dst with
     | none=>exact hold
     | some d'=>
       have hne:d'≠d:=by intro e';subst e';have pG:=dN aO j oj qz;simp only[mZ,hd,Bool.and_eq_true,Nat.zero_add,beq_iff_eq] at pG;simp only[mZ,hdo,Bool.and_eq_true,beq_iff_eq] at mg;rw[pG.1.1.2.2] at mg;have:=mg.1.1.2.2;injection this with this;exact hjk this
       simp only[Act.put,Array.getElem?_setIfInBounds_ne hne];exact hold
   ·intro t ht;have hold:=h3 t (fun j oj hj qz=>ht j oj (by omega) qz);cases hdo:o.dst with
    | none=>exact hold
    | some d'=>
      have hne:d'≠t:=fun e'=>ht k o (by omega) ho (by rw[hdo,e'])
      simp only[Act.put,Array.getElem?_setIfInBounds_ne hne];exact hold
theorem rI {P:Program} {o:Oper} {a:Act} {C:World→Prop} {w:World} {v:Value} {ρ:Operand→Value}(Gj:∀cs b,o.op≠ .select cs b)(he:∀x∈o.op.operands,ρ x=a.eval x)(hC:C w)
  (h:o.quietAt P a C w v):xR P o ρ w fun v' w'=>(C w→C w')∧v'=v:=by
 unfold Oper.quietAt at h;unfold xR;rw[execOp_congr o Gj he];generalize (execOp a.eval o).run P w=r at*;cases r with
 | ok n w'=>
   cases n <;> simp only[Oper.quietUpon] at h;case value u=>obtain⟨rfl,rfl⟩:=h;exact⟨id,rfl⟩
   case skip=>obtain⟨rfl,rfl⟩:=h;exact⟨id,rfl⟩
   case enter f args=>obtain⟨rfl,hc⟩:=h;exact hc.mono fun e w'' ⟨he,hc'⟩=>⟨v,he,fun _=>hc',rfl⟩
 | halt x w'=>simp only[Oper.quietUpon] at h
theorem JN {o:Oper} {t:Tmp}:t∈tmpsOf o↔Operand.tmp t∈o.op.operands:=by
 unfold tmpsOf;simp only[List.mem_filterMap,Array.mem_toList_iff];constructor
 ·rintro⟨x,hx,h⟩;cases x <;> simp at h;subst h;exact hx
 ·intro h;exact⟨_,h,rfl⟩
theorem CI {l:List Oper} {V:Nat→World→Value→Prop} {Z7 ρ:Operand→Value} {w:World} {o:Oper}:∀ {ts:List Tmp},nT l V Z7 ρ w o ts→∀t∈ts,match ct l o t with | some j=>V j w (ρ (.tmp t))| none=>ρ (.tmp t)=Z7 (.tmp t)
 | [],_,t,h=>by cases h
 | x::ts,hr,t,h=>by
   rcases List.mem_cons.1 h with rfl | h
   ·exact hr.1
   ·exact CI hr.2 t h
def YJ (l:List Oper):Bool:=l.all fun o=>match o.op with | .select _ _=>false | _=>true
theorem Gk {P:Program} {Q:Exit→Act→World→Prop} {a0:Act} {w0:World} {id:Nat} {ops:List Oper}(zs:List Oper)(l:List Oper)(Er:ops=l++zs)(C:World→Prop)(hC0:C w0)(rG:∀w,C w→C w.drew)
  (hm:P.follows .mixedOrders=true) (Gj:YJ l=true) (aO:eQ l a0.tmps.size l 0=true) (hz:fL (l++zs) zs l.length=true)
  (h:wpQuiet P ops.toArray C (fun a=>∀w,C w→wpList P ops.toArray Q zs a w) l a0):(Code.region id ops.toArray true).wp P Q a0 w0:=by
 subst Er;obtain⟨vs,hl,hall,hq⟩:=uE l a0 h;refine Gi zs l rfl (fun w w'=>C w→C w') (fun _ h=>h) (fun _ _ _ h1 h2 h=>h2 (h1 h)) (fun w h=>rG w h) (fun i _ v=>vs[i]?=some v) (fun _ _ _ _ h _=>h) hm aO hz ?_ ?_
 ·have key:∀(k:Nat) (rest:List Oper),l.drop k=rest→Steps P l (fun w w'=>C w→C w') (fun i _ v=>vs[i]?=some v) a0 w0 rest k:=by
   intro k rest;induction rest generalizing k with
   | nil=>intro _;trivial
   | cons o rest ih=>
     intro hk;have Es:l[k]?=some o:=by have:=congrArg (fun x=>x[0]?) hk;simpa using this
     have aaa:k < l.length:=by
      rcases Nat.lt_or_ge k l.length with h' | h'
      ·exact h'
      ·rw[List.getElem?_eq_none h'] at Es;cases Es
     refine⟨?_,ih (k+1) (by rw[← List.tail_drop,hk];rfl)⟩;intro ρ w hc hR hr;have U5:C w:=hR hC0;obtain⟨v,hv,Rb⟩:=hall k o Es;obtain⟨f1,f2,f3⟩:=CH aO hl k (by omega);have mg:=dN aO k o Es;rw[Nat.zero_add] at mg;have lF:∀cs b,o.op≠ .select cs b:=by intro cs b e;have:=List.all_eq_true.1 Gj o (List.mem_of_getElem? Es);rw[e] at this;cases this
     have yX:∀x∈o.op.operands,ρ x=(((l.take k).zip vs).foldl (fun b ov=>b.put ov.1.dst ov.2) a0).eval x:=by
      intro x hx;cases x with
      | const v=>rw[hc.const];rfl
      | global g=>rw[hc.global];rfl
      | func f=>rw[hc.func];rfl
      | tmp t=>
        have ky:=JN.2 hx;have hrt:=CI hr t ky;simp only[mZ,Bool.and_eq_true] at mg;have U6:=List.all_eq_true.1 mg.1.2 t ky;unfold ct at hrt;cases hs:jY t l 0 with
        | none=>simp only[hs] at hrt;rw[hrt];refine(oW (f3 t ?_)).symm;intro j oj _ qz hd;obtain⟨j',hj'⟩:=qu (k:=0) qz hd;rw[hs] at hj';cases hj'
        | some j=>
          obtain⟨j',oj,e,hj,hd⟩:=rE hs;rw[Nat.zero_add] at e;subst e;simp only[hs] at hrt U6;by_cases he:iq o j=true
          ·simp only[he,if_true] at hrt;have hjk:j < k:=of_decide_eq_true (List.all_eq_true.1 mg.1.1.1 j (dZ.1 he));have:=f2 j oj t _ hjk hj hd hrt;simp[Act.eval,this]
          ·rw[Bool.not_eq_true] at he;simp only[he,Bool.false_or,hj] at U6 hrt;have aeP:ρ (.tmp t)=a0.eval (.tmp t):=by simpa using hrt
           rw[aeP];refine(oW (f3 t ?_)).symm;intro i oi hik hoi hdi;have rH:=dN aO i oi hoi;simp only[mZ,hdi,Bool.and_eq_true,Nat.zero_add,beq_iff_eq] at rH;have hij:i=j:=by have:=rH.1.1.2.2;rw[hs] at this;injection this with this;exact this.symm
           subst hij;rw[hj] at hoi;injection hoi with hoi;subst hoi
           have pG:=dN aO i oj hj;simp only[mZ,Bool.and_eq_true,Nat.zero_add] at pG;have:=of_decide_eq_true (List.all_eq_true.1 pG.1.1.1 k (dZ.1 U6));omega
     have hT:xR P o ρ w (fun v' w'=>(C w→C w')∧v'=v)→xR P o ρ w (fun v' w'=>(C w→C w')∧vs[k]?=some v'):=by
      unfold xR;intro h';generalize (execOp ρ o).run P w=r at*;cases r with
      | ok n w'=>
        cases n <;> first | exact⟨h'.1,by rw[h'.2];exact hv⟩| exact h'.elim | skip
        exact h'.mono fun e w'' ⟨u,h1,h2,h3⟩=>⟨u,h1,h2,by rw[h3];exact hv⟩
      | halt x w'=>exact h'.elim
     cases hg:o.guard with
     | none=>
       rcases Rb with ⟨_,hqa⟩|⟨hw,_⟩
       ·exact hT (rI lF yX U5 (hqa w U5))
       ·simp[Region.wanted,hg] at hw
     | some g=>
       obtain⟨j,want⟩:=g;simp only[mZ,hg,Bool.and_eq_true] at mg;have hjk:j < k:=of_decide_eq_true (List.all_eq_true.1 mg.1.1.1 j (dZ.1 mg.2.1));obtain⟨oj,qz⟩:∃oj,l[j]?=some oj:=⟨l[j]'(by omega),List.getElem?_eq_getElem (by omega)⟩;have FZ:=mg.2.2;rw[qz] at FZ;obtain⟨d,hd⟩:=Option.isSome_iff_exists.1 FZ;simp only[qz,Option.bind_some,hd];intro hyv;have aaf:=f2 j oj d _ hjk qz hd hyv;have zO:yielded (l++zs).toArray (((l.take k).zip vs).foldl (fun b ov=>b.put ov.1.dst ov.2) a0).tmps j=match ρ (.tmp d)with | .bool b=>some b | _=>none:=by unfold yielded;rw[pF qz];simp only[Option.bind_some,hd,aaf];cases ρ (.tmp d)<;> rfl
       constructor
       ·intro xU;rcases Rb with ⟨_,hqa⟩|⟨hw,_⟩
        ·exact hT (rI lF yX U5 (hqa w U5))
        ·simp[Region.wanted,hg,zO,xU] at hw
       ·intro xU;rcases Rb with ⟨hw,_⟩|⟨_,hu⟩
        ·exfalso;simp only[Region.wanted,hg,zO] at hw;apply xU;cases lz:ρ (.tmp d)<;> rw[lz] at hw <;> simp at hw;rw[hw]
        ·rw[← hu];exact hv
  exact key 0 l rfl
 ·intro w hR;have U5:C w:=hR hC0;have key:∀(k:Nat) (rest:List Oper),l.drop k=rest→k≤l.length→kA (fun i _ v=>vs[i]?=some v) (fun a w=>wpList P (l++zs).toArray Q zs a w) rest k (((l.take k).zip vs).foldl (fun b ov=>b.put ov.1.dst ov.2) a0) w:=by
   intro k rest;induction rest generalizing k with
   | nil=>intro hk Wh;have:l.length≤k:=List.drop_eq_nil_iff.1 hk;have e:l.take k=l:=List.take_of_length_le this;rw[e];exact hq w U5
   | cons o rest ih=>
     intro hk Wh;have Es:l[k]?=some o:=by have:=congrArg (fun x=>x[0]?) hk;simpa using this
     have aaa:k < l.length:=by
      rcases Nat.lt_or_ge k l.length with h' | h'
      ·exact h'
      ·rw[List.getElem?_eq_none h'] at Es;cases Es
     have hstep:∀v,vs[k]?=some v→((l.take (k+1)).zip vs).foldl (fun b ov=>b.put ov.1.dst ov.2) a0=(((l.take k).zip vs).foldl (fun b ov=>b.put ov.1.dst ov.2) a0).put o.dst v:=by intro v hv;rw[uu hl Es hv,List.foldl_append];rfl
     have CG:=ih (k+1) (by rw[← List.tail_drop,hk];rfl) (by omega);unfold kA;cases hd:o.dst with
     | none=>simp only;obtain⟨v,hv⟩:∃v,vs[k]?=some v:=⟨vs[k]'(by omega),List.getElem?_eq_getElem (by omega)⟩;rw[hstep v hv,hd] at CG;exact CG
     | some d=>simp only;intro v hv;rw[hstep v hv,hd] at CG;exact CG
  have:=key 0 l rfl (by omega);simpa using this
theorem fY {P:Program} {Q:Exit→Act→World→Prop} {a0:Act} {w:World} {id:Nat} {ops:List Oper}(k B:Nat)(w0:World)(hb:Below B w0 w)(hm:P.follows .mixedOrders=true)(Gj:YJ (ops.take k)=true)
  (aO:eQ (ops.take k) a0.tmps.size (ops.take k) 0=true) (hz:fL ops (ops.drop k) (ops.take k).length=true)
  (h:wpQuiet P ops.toArray (fun w'=>∃x:Ext B w0,w'=x.w) (fun a=>∀w,(∃x:Ext B w0,w=x.w)→wpList P ops.toArray Q (ops.drop k) a w) (ops.take k) a0):(Code.region id ops.toArray true).wp P Q a0 w:=
 Gk (ops.drop k) (ops.take k) (List.take_append_drop k ops).symm (fun w'=>∃x:Ext B w0,w'=x.w) ⟨⟨w,hb⟩,rfl⟩ (fun w' ⟨x,e⟩=>⟨⟨w'.drew,by rw[e];exact x.h.drew⟩,rfl⟩) hm Gj aO (by rw[List.take_append_drop];exact hz) h
theorem ji {P:Program} {f:FuncId} {args:Array Value} {B:Nat} {w0:World} {x:Ext B w0} {v:Value}(hB:B≤w0.heap.size)
  (h:Calls P f args x.w fun e w'=>e=.returned v∧Below x.w.heap.size x.w w'):Calls P f args x.w fun e w''=>e=.returned v∧∃x:Ext B w0,w''=x.w:=
 h.mono fun _ _ ⟨he,hb⟩=>⟨he,⟨_,x.h.trans (hb.mono (Nat.le_trans hB x.h.size))⟩,rfl⟩
def ah (w w':World):Prop:=Below w.heap.size w w'
theorem ah.refl (w:World):ah w w:=Below.refl _ _
theorem ah.trans {a b c:World}(h:ah a b)(k:ah b c):ah a c:=Below.trans h (Below.mono k h.size)
theorem ah.drew (w:World):ah w w.drew:=(Below.refl _ _).drew
section
variable {P:Program} {o:Oper} {ρ:Operand→Value} {w:World} {T:Value→World→Prop}
theorem cz {v:Value} {w':World}(h:(execOp ρ o).run P w=.ok (.value v) w')(hT:T v w'):xR P o ρ w T:=by unfold xR;rw[h];exact hT
theorem vB {w':World}(h:(execOp ρ o).run P w=.ok .skip w')(hT:T undef w'):xR P o ρ w T:=by unfold xR;rw[h];exact hT
theorem Gl {f:FuncId} {args:Array Value} {w':World}(h:(execOp ρ o).run P w=.ok (.enter f args) w')(hc:Calls P f args w' fun e w''=>∃v,e=.returned v∧T v w''):xR P o ρ w T:=by unfold xR;rw[h];exact hc
end
set_option linter.unusedVariables false
section
variable {α:Type} {f:α→List Value} {e:TypeId} {size:Nat} {base:Nat} {lv:Value} {l:List α} {y:α}
structure AR (f:α→List Value) (e:TypeId) (size base:Nat) (lv:Value) (l:List α) (y:α) (a b:World):Prop where
 grown:a.grownBy b lv.ownBlock
 old:df f e size a base lv l→df f e size b base lv l
 new:∀u,df f e size a base u (l++ [y])→df f e size b base u (l++ [y])
theorem AR.refl (w:World):AR f e size base lv l y w w:=⟨⟨rfl,rfl,rfl,Nat.le_refl _,fun _ _ _=>rfl⟩,id,fun _=>id⟩
theorem AR.trans {a b c:World}(h:AR f e size base lv l y a b)(k:AR f e size base lv l y b c):AR f e size base lv l y a c:=
 ⟨h.grown.trans k.grown,fun o=>k.old (h.old o),fun u o=>k.new u (h.new u o)⟩
theorem AR.later {a b:World}(h:Below a.heap.size a b):AR f e size base lv l y a b:=
 ⟨⟨h.os,h.tape,h.output,h.size,fun k hk _=>h.block k hk⟩,fun o=>o.later h,fun u o=>o.later h⟩
theorem AR.drew (w:World):AR f e size base lv l y w w.drew:=AR.later (ah.drew w)
theorem gw {a b:World}(h:a.grownBy b none):Below a.heap.size a b:=⟨h.os,h.tape,h.output,h.size,fun k hk=>h.block k hk (by simp)⟩
theorem lG {P:Program} {w:World}(t ty:TypeId)(z:Value)(bytes:Nat)(ht:P.underlying t=some (.slice e))(nS:(P.info? e).map (fun i=>(i.zero,i.size,i.bytes))=some (some z,size,bytes))(hzs:z.cells.size=size)(hsz:0 < size)
  (hf:∀x,(f x).length=size) (h1:∀u∈f y,u.oneCell'=true) (hown:df f e size w base lv l)
  (g0:Nat) (hg0:au w g0 e (f y).toArray) (hlen:(l.length+1)*bytes≤140737488355328) (oU:l.length+1≤140737488355328) (hbase:base≤w.heap.size):
  ∃v' w',(Builtin.append_ #[t,t] ty #[lv,.slice (some ⟨g0,0,none⟩) 1 1]).run P w=.ok v' w'∧df f e size w' base v' (l++ [y])∧AR f e size base lv l y w w':=by
 obtain⟨i0,CF,hz0,hz1,hz2⟩:=info_parts nS;have hnews:∀j u,(f y)[j]?=some u→w.cell? ((⟨g0,0,none⟩:Addr).add j)=some u:=by
  intro j u hu;have:(Addr.add ⟨g0,0,none⟩ j)=⟨g0,j,none⟩:=by unfold Addr.add;split <;> simp_all
  rw[this,hg0.cell];simpa using hu
 have eU:(f y).length=1*size:=by rw[hf];omega
 have conv:∀ {w':World} {v':Value},w'.ownsRow base e size v' (l.length+1) (l.flatMap f++f y)→df f e size w' base v' (l++ [y]):=fun h=>by unfold df;rw[List.length_append,List.flatMap_append];simpa using h
 by_cases hroom:∃g cap,lv=.slice (some ⟨g,0,none⟩) l.length cap∧l.length+1≤cap
 ·obtain⟨g,cap,rfl,hr⟩:=hroom;obtain⟨w',hrun,ho,hg⟩:=run_append_fits (P:=P) w base t ty e i0 size ht CF hz1 g l.length cap (l.flatMap f) hown ⟨g0,0,none⟩ 1 1 (f y) eU hnews h1 hr;refine⟨_,w',hrun,conv ho,hg,fun _=>?_,fun u hu=>?_⟩
  ·rcases ho.2 with ⟨h,_⟩|⟨g',cap',cur,h,hbg,aF,hn,hm,hs,ht'⟩
   ·cases h
   ·injection h with kB jH h3';injection kB with kB;injection kB with kB _ _;subst kB h3';refine⟨hown.1,.inr ⟨g,cap,cur,rfl,hbg,aF,by omega,hm,hs,?_⟩⟩;have hx:=congrArg (List.take (l.length*size)) ht';rw[List.take_take,Nat.min_eq_left (Nat.mul_le_mul_right _ (by omega)),List.take_append_of_le_length (Nat.le_of_eq hown.1.symm)] at hx;rw[hx];exact List.take_of_length_le (Nat.le_of_eq hown.1)
  ·by_cases hb:u.ownBlock=some g
   ·rcases hu.2 with ⟨rfl,_⟩|⟨g',cap',cur,rfl,hbg,aF,hn,hm,hs,ht'⟩
    ·simp[Value.ownBlock] at hb
    ·simp only[Value.ownBlock,Option.some.injEq] at hb;subst hb;rcases hown.2 with ⟨h,_⟩|⟨g2,aah,akc,h,_,NR,_,_,hs2,_⟩
     ·cases h
     ·injection h with kB jH h3';injection kB with kB;injection kB with kB _ _;subst kB h3';rw[aF] at NR;injection NR with NR;injection NR with NR _ _;subst NR;have aeS:cap'=cap:=Nat.eq_of_mul_eq_mul_right hsz (hs.symm.trans hs2);subst aeS;have:=conv ho;rw[List.length_append];exact this
   ·exact hu.keep fun q hq=>hg.block q (hu.lt hq).1 fun e=>hb (by rw[hq];exact e)
 ·obtain⟨v',w',hrun,ho,hg,_,hat⟩:=run_append_own_at (P:=P) w base t ty e i0 z size bytes ht CF hz0 hz1 hz2 hzs hsz lv l.length (l.flatMap f) hown ⟨g0,0,none⟩ 1 1 (f y) eU hnews h1 (by unfold maxLen;omega) hlen hbase;have aeT:Below w.heap.size w w':=by
   rcases hown.2 with ⟨rfl,h0⟩|⟨g,cap,cur,rfl,hbg,aF,hn,hm,hs,nk⟩
   ·have hr:=run_append_nil (P:=P) w t ty e i0 z ht CF hz0 ⟨g0,0,none⟩ 1 1 (f y) (by rw[hz1];exact eU) hnews (by omega) (by omega) (by rw[hz2];have:1*bytes≤(l.length+1)*bytes:=Nat.mul_le_mul_right _ (by omega);omega);rw[hr] at hrun;injection hrun with _ hw;rw[← hw];exact(ah.drew w).alloc (Nat.le_refl _) _
   ·have hno:¬l.length+1≤cap:=fun h=>hroom ⟨g,cap,rfl,h⟩
    have holds:∀j u,(l.flatMap f)[j]?=some u→w.cell? ((⟨g,0,none⟩:Addr).add j)=some u:=World.ownsRow.cells hown (g:=g) rfl;have hr:=run_append_grow (P:=P) w t ty e i0 z ht CF hz0 ⟨g,0,none⟩ l.length cap (l.flatMap f) (by rw[hz1];exact hown.1) holds ⟨g0,0,none⟩ 1 1 (f y) (by rw[hz1];exact eU) hnews (by omega) (by omega) (by rw[hz2];exact growslice_fits (by omega) hlen);rw[hr] at hrun;injection hrun with _ hw;rw[← hw];exact(ah.drew w).alloc (Nat.le_refl _) _
  exact⟨v',w',hrun,conv ho,AR.later aeT⟩
end
def aai (l:List Oper)(R:World→World→Prop)(U:Nat→World→(Operand→Value)→Prop):Prop:=
 ∀i o w w' ρ ρ',l[i]?=some o→U i w ρ→R w w'→(∀j∈iI o,∀oj d,l[j]?=some oj→oj.dst=some d→ρ' (.tmp d)=ρ (.tmp d))→U i w' ρ'
structure Inv2 (l:List Oper) (V:Nat→World→Value→Prop) (U:Nat→World→(Operand→Value)→Prop) (R:World→World→Prop) (a0:Act) (w0:World) (m:Nat) (listed:Array Bool) (a:Act) (w:World):Prop where
 base:Inv l V R a0 w0 m listed a w
 post:∀i o,l[i]?=some o→listed.getD i false=true→U i w a.eval
section
variable {P:Program} {l zs:List Oper} {Q:Exit→Act→World→Prop} {R:World→World→Prop} {V:Nat→World→Value→Prop} {U:Nat→World→(Operand→Value)→Prop} {a0:Act} {w0:World}
theorem Inv2.step (aO:eQ l a0.tmps.size l 0=true)(hV:∀i w w' v,V i w v→R w w'→V i w' v)(hU:aai l R U)(hrefl:∀w,R w w)(hT:∀a b c,R a b→R b c→R a c) {m:Nat} {listed:Array Bool} {a:Act} {w w':World} {v:Value}(I:Inv2 l V U R a0 w0 m listed a w) {i:Nat} {o:Oper}(ho:l[i]?=some o)(YI:i < m)
  (Wc:listed.getD i false=false) (hall:∀j∈iI o,listed.getD j false=true) (hr:R w w') (hv:V i w' v) (hu:U i w' a.eval):Inv2 l V U R a0 w0 m (listed.setIfInBounds i true) (a.put o.dst v) w':=by
 refine⟨I.base.step aO hV hT ho YI Wc hall hr hv,?_⟩;have JB:i < listed.size:=by rw[I.base.len];exact YI
 have mg:=dN aO i o ho;rw[Nat.zero_add] at mg;have keep:∀j d oj,l[j]?=some oj→oj.dst=some d→j≠i→(a.put o.dst v).eval (.tmp d)=a.eval (.tmp d):=by
  intro j d oj hj hd QY;refine Act.eval_put fun d' We e=>?_
  injection e with e;subst e;have pG:=dN aO j oj hj;simp only[mZ,hd,Bool.and_eq_true,Nat.zero_add,beq_iff_eq] at pG;simp only[mZ,We,Bool.and_eq_true,beq_iff_eq] at mg;rw[pG.1.1.2.2] at mg;have:=mg.1.1.2.2;injection this with this;exact QY this
 intro j oj hj hl;by_cases QY:j=i
 ·subst QY;rw[hj] at ho;injection ho with ho;subst ho
  refine hU j oj w' w' a.eval _ hj hu (hrefl _) fun k hk ok d JM hd=>keep k d ok JM hd ?_
  intro e;subst e;have:=hall k hk;rw[Wc] at this;cases this
 ·have hl':listed.getD j false=true:=by rw[gQ _ _ _ JB,if_neg QY] at hl;exact hl
  refine hU j oj w w' a.eval _ hj (I.post j oj hj hl') hr fun k hk ok d JM hd=>keep k d ok JM hd ?_
  intro e;subst e;have:=I.base.closed j oj hj hl' k hk;rw[Wc] at this;cases this
end
open Go.ChangeShapes Go.WideShapes Go.ChangeAt
theorem Below.then {B:Nat} {a b c:World}(h:Below B a b)(hB:B≤a.heap.size)(k:Below b.heap.size b c):Below B a c:=h.trans (k.mono (Nat.le_trans hB h.size))
theorem ah.then {a b c:World}(h:Below a.heap.size a b)(k:Below b.heap.size b c):Below a.heap.size a c:=h.trans (k.mono h.size)
theorem aa (w:World)(o:Obj):Below w.heap.size w (w.alloc o):=(Below.refl _ _).alloc (Nat.le_refl _) o
theorem dO (w:World):∀k,Below w.heap.size w (w.drewN k)
 | 0=>Below.refl _ _
 | k+1=>(dO w k).drew
theorem ay {w:World} {p:Addr} {v:Value}(h:w.cell? p=some v):p.block < w.heap.size:=by
 rcases Nat.lt_or_ge p.block w.heap.size with hlt | JA
 ·exact hlt
 ·unfold World.cell? at h;rw[Array.getElem?_eq_none JA] at h;simp at h
def strOf (l:List UInt8):Value:=.string ⟨l.toArray⟩
set_option linter.unusedSimpArgs false
def dr (c:UInt8):Bool:=(decide (97≤c)&& decide (c≤122))||(decide (65≤c)&& decide (c≤90))|| c==95
def bp (c:UInt8):Bool:=decide (48≤c)&& decide (c≤57)
def dD (c:UInt8):Bool:=dr c || bp c
def eH (c:UInt8):Bool:=c==32 || c==9 || c==10 || c==13
def Cg (c:UInt8):Bool:=decide (65≤c)&& decide (c≤90)
def rJ (c:UInt8):UInt8:=if Cg c then c+32 else c
def bZ:Bool→List UInt8→List UInt8
 | _,[]=> []
 | true,c::r=>if c=10 then bZ false r else bZ true r
 | false,c::r=>if eH c then bZ false r else if c=45∧r.head?=some 45 then bZ true r else c::r
def jg (l:List UInt8):Nat:=l.foldl (fun v c=>v*10+(c.toNat - 48)) 0
def rf (l:List UInt8):Bool:=(decide (l.length≤1)|| !(l.head?==some 48))&& decide (jg l≤9223372036854775807)
def eW:List UInt8→Option (List UInt8×List UInt8)
 | []=>none
 | [c]=>if c=39 then some ([],[])else none
 | c::d::r=>if c=39 then(if d=39 then(eW r).map fun x=>(39::x.1,x.2)else some ([],d::r))else(eW (d::r)).map fun x=>(c::x.1,x.2)
def signs:List (List UInt8):=[[60,62],[60,61],[62,61],[40],[41],[44],[42],[43],[45],[47],[37],[61],[60],[62],[59]]
def gj:List (List UInt8)→List UInt8→Option (List UInt8)
 | [],_=>none
 | s::l,r=>if s.isPrefixOf r then some s else gj l r
structure Wd where
 k:Nat
 s:List UInt8
 n:Int
deriving DecidableEq
structure Tok where
 w:Wd
 p:Nat
deriving DecidableEq
def eR:List UInt8→Except Nat (Wd×List UInt8)
 | []=> .error 30
 | c::r=>
   if dr c then(if ((c::r).takeWhile dD).length≤32 then .ok (⟨1,((c::r).takeWhile dD).map rJ,0⟩,(c::r).dropWhile dD)else .error 2)
   else if bp c then(if rf ((c::r).takeWhile bp)&& !(((c::r).dropWhile bp).head?.any dr)then .ok (⟨2,[],jg ((c::r).takeWhile bp)⟩,(c::r).dropWhile bp)else .error 30)
   else if c=39 then(match eW r with
    | some (t,rest)=> .ok (⟨3,t,0⟩,rest)
    | none=> .error 30)
   else match gj signs (c::r)with
    | some s=> .ok (⟨4,s,0⟩,(c::r).drop s.length)
    | none=> .error 30
def uF (n:Nat):Nat→List UInt8→Except (Nat×Nat) (List Tok)
 | 0,_=> .error (0,30)
 | f+1,r=>match bZ false r with
   | []=> .ok [⟨⟨0,[],0⟩,n⟩]
   | c::r'=>match eR (c::r')with
     | .error e=> .error (n - (c::r').length,e)
     | .ok (w,rest)=>match uF n f rest with
       | .error e=> .error e
       | .ok l=> .ok (⟨w,n - (c::r').length⟩::l)
def mh (s:List UInt8):Except (Nat×Nat) (List Tok):=if 4096 < s.length then .error (0,2)else uF s.length (s.length+1) s
def kn:List (List UInt8):=[[97,110,100],[97,115],[98,121],[99,97,108,108],[99,114,101,97,116,101],[100,101,108,101,116,101],[100,101,115,99],[100,114,111,112],[102,97,108,115,101],[102,114,111,109],[103,114,111,117,112],[104,97,118,105,110,103],[105,110,115,101,114,116],[105,110,116,111],[105,115],[108,105,109,105,116],[110,111,116],[110,117,108,108],[111,110,108,121],[111,114],[111,114,100,101,114],[115,101,108,101,99,116],[115,101,116],[116,114,117,101],[117,112,100,97,116,101],[118,97,108,117,101,115],[119,104,101,114,101]]
def vC (s:List UInt8):Bool:=kn.contains s
def aaj (s:List UInt8):Bool:=
 match s with
 | []=>false
 | c::r=>decide ((c::r).length≤32)&& !vC (c::r)&& !bp c &&(c::r).all (fun c=> !Cg c && dD c)
theorem iQ:∀(b:Bool) (r:List UInt8),(bZ b r).length≤r.length
 | _,[]=>by simp[bZ]
 | true,c::r=>by have h1:=iQ false r;have h2:=iQ true r;simp only[bZ];split <;> simp only[List.length_cons] <;> omega
 | false,c::r=>by
   have h1:=iQ false r;have h2:=iQ true r;simp only[bZ];split
   ·simp only[List.length_cons];omega
   ·split <;> simp only[List.length_cons] <;> omega
theorem rK:∀(r:List UInt8) (t rest:List UInt8),eW r=some (t,rest)→∃b,r=b++rest∧b≠ []
 | [],t,rest,h=>by simp[eW] at h
 | [c],t,rest,h=>by
   simp only[eW] at h;split at h
   ·rename_i hc;injection h with h;injection h with h1 h2;subst h1 h2 hc;exact⟨[39],rfl,by simp⟩
   ·cases h
 | c::d::r,t,rest,h=>by
   simp only[eW] at h;split at h
   ·rename_i hc;subst hc;split at h
    ·rename_i hd;subst hd;cases hr:eW r with
     | none=>rw[hr] at h;cases h
     | some x=>obtain⟨t',rest'⟩:=x;rw[hr] at h;simp only[Option.map_some,Option.some.injEq,Prod.mk.injEq] at h;obtain⟨rfl,rfl⟩:=h;obtain⟨b,hb,_⟩:=rK r t' _ hr;exact⟨39::39::b,by rw[hb];rfl,by simp⟩
    ·injection h with h;injection h with h1 h2;subst h1 h2;exact⟨[39],rfl,by simp⟩
   ·cases hr:eW (d::r)with
    | none=>rw[hr] at h;cases h
    | some x=>obtain⟨t',rest'⟩:=x;rw[hr] at h;simp only[Option.map_some,Option.some.injEq,Prod.mk.injEq] at h;obtain⟨rfl,rfl⟩:=h;obtain⟨b,hb,_⟩:=rK (d::r) t' _ hr;exact⟨c::b,by rw[hb];rfl,by simp⟩
theorem mG:∀ {l:List (List UInt8)} {r s:List UInt8},gj l r=some s→s∈l∧s <+: r
 | [],r,s,h=>by simp[gj] at h
 | x::l,r,s,h=>by
   simp only[gj] at h;split at h
   ·rename_i hp;injection h with h;subst h;exact⟨List.mem_cons_self,by simpa using hp⟩
   ·obtain⟨h1,h2⟩:=mG h;exact⟨List.mem_cons_of_mem _ h1,h2⟩
theorem zP {r rest:List UInt8} {w:Wd}(h:eR r=.ok (w,rest)):∃b,r=b++rest∧b≠ []:=by
 match r with
 | []=>simp[eR] at h
 | c::r=>
   simp only[eR] at h;split at h
   ·rename_i hc;split at h
    ·injection h with h;injection h with h1 h2;subst h1 h2;refine⟨_,(List.takeWhile_append_dropWhile (p:=dD)).symm,?_⟩;have:dD c=true:=by simp[dD,hc]
     simp[List.takeWhile_cons,this]
    ·cases h
   ·split at h
    ·rename_i hc;split at h
     ·injection h with h;injection h with h1 h2;subst h1 h2;refine⟨_,(List.takeWhile_append_dropWhile (p:=bp)).symm,?_⟩;simp[List.takeWhile_cons,hc]
     ·cases h
    ·split at h
     ·split at h
      ·rename_i t rest' ht;injection h with h;injection h with h1 h2;subst h1 h2;obtain⟨b,hb,_⟩:=rK _ _ _ ht;exact⟨c::b,by rw[hb];rfl,by simp⟩
      ·cases h
     ·split at h
      ·rename_i s hs;injection h with h;injection h with h1 h2;subst h1 h2;obtain⟨h1,t,h2⟩:=mG hs;refine⟨s,?_,?_⟩
       ·rw[← h2];simp
       ·intro e;subst e;revert h1;decide
      ·cases h
theorem tx {r rest:List UInt8} {w:Wd}(h:eR r=.ok (w,rest)):rest.length < r.length:=by obtain⟨b,rfl,hb⟩:=zP h;have:0 < b.length:=List.length_pos_iff.2 hb;simp;omega
theorem CJ (n:Nat):∀(f g:Nat) (r:List UInt8),r.length < f→r.length < g→uF n f r=uF n g r
 | 0,_,_,h,_=>by omega
 | _,0,_,_,h=>by omega
 | f+1,g+1,r,hf,hg=>by
   have hs:=iQ false r;simp only[uF];cases hk:bZ false r with
   | nil=>rfl
   | cons c r'=>
     rw[hk] at hs;simp only;cases ho:eR (c::r')with
     | error e=>rfl
     | ok x=>obtain⟨w,rest⟩:=x;have:=tx ho;simp only;rw[CJ n f g rest (by omega) (by omega)]
def fp (p:UInt8→Bool)(l:List UInt8)(k:Nat):Nat:=k+((l.drop k).takeWhile p).length
theorem oY (p:UInt8→Bool)(l:List UInt8)(k:Nat)(hk:k≤l.length):fp p l k≤l.length:=by have:=(List.takeWhile_sublist (p:=p) (l:=l.drop k)).length_le;simp only[List.length_drop] at this;unfold fp;omega
theorem qA (p:UInt8→Bool)(l:List UInt8)(k:Nat):k≤fp p l k:=by unfold fp;omega
theorem ft (s:ByteArray)(k:Nat)(hk:k < s.size):s.data.toList[k]?=some s[k]:=by rw[List.getElem?_eq_getElem (by simpa using hk)];simp[ByteArray.getElem_eq_getElem_data]
theorem drop_at {l:List UInt8} {k:Nat} {c:UInt8}(h:l[k]?=some c):l.drop k=c::l.drop (k+1):=by
 have hk:k < l.length:=by
  rcases Nat.lt_or_ge k l.length with h' | h'
  ·exact h'
  ·rw[List.getElem?_eq_none h'] at h;cases h
 rw[List.drop_eq_getElem_cons hk];rw[List.getElem?_eq_getElem hk] at h;injection h with h;rw[h]
theorem pH {p:UInt8→Bool} {l:List UInt8} {k:Nat} {c:UInt8}(h:l[k]?=some c)(hp:p c=true):fp p l k=fp p l (k+1):=by unfold fp;rw[drop_at h,List.takeWhile_cons,if_pos hp,List.length_cons];omega
theorem yY {p:UInt8→Bool} {l:List UInt8} {k:Nat} {c:UInt8}(h:l[k]?=some c)(hp:p c=false):fp p l k=k:=by unfold fp;rw[drop_at h,List.takeWhile_cons,if_neg (by rw[hp];decide)];rfl
theorem vD {p:UInt8→Bool} {l:List UInt8} {k:Nat}(h:l.length≤k):fp p l k=k:=by unfold fp;rw[List.drop_eq_nil_of_le h];rfl
theorem LR (p:UInt8→Bool):∀r:List UInt8,r.drop (r.takeWhile p).length=r.dropWhile p
 | []=>rfl
 | c::r=>by
   rw[List.takeWhile_cons,List.dropWhile_cons];split
   ·simpa using LR p r
   ·rfl
theorem Wi (p:UInt8→Bool)(r:List UInt8):r.take (r.takeWhile p).length=r.takeWhile p:=by
 induction r with
 | nil=>rfl
 | cons c r ih=>
   rw[List.takeWhile_cons];split
   ·simpa using ih
   ·rfl
theorem mH (p:UInt8→Bool)(l:List UInt8)(k:Nat):l.drop (fp p l k)=(l.drop k).dropWhile p:=by unfold fp;rw[← List.drop_drop,LR]
theorem Gm (p:UInt8→Bool)(l:List UInt8)(k:Nat):(l.drop k).take (fp p l k - k)=(l.drop k).takeWhile p:=by unfold fp;rw[Nat.add_sub_cancel_left,Wi]
theorem uG:∀r:List UInt8,bZ false r=bZ false (r.dropWhile eH)
 | []=>rfl
 | c::r=>by
   rw[List.dropWhile_cons];split
   ·rename_i h;rw[bZ,if_pos h];exact uG r
   ·rfl
theorem vE:∀r:List UInt8,bZ true r=bZ false (r.dropWhile fun c=> !(c==10))
 | []=>rfl
 | c::r=>by
   rw[List.dropWhile_cons];by_cases h:c=10
   ·subst h;simp only[bZ,beq_self_eq_true,Bool.not_true,Bool.false_eq_true,if_false];simp[eH]
   ·have h2:(!(c==10))=true:=by simp[h]
    rw[if_pos h2,bZ,if_neg h];exact vE r
theorem Rc {r:List UInt8}(h:Lib.hasPrefix r [45,45]=true):bZ false r=bZ false (r.dropWhile fun c=> !(c==10)):=by
 rw[← vE]
 match r with
 | []=>simp[Lib.hasPrefix] at h
 | [c]=>simp[Lib.hasPrefix,List.isPrefixOf] at h
 | c::d::r=>simp[Lib.hasPrefix,List.isPrefixOf] at h;obtain⟨rfl,rfl⟩:=h;simp[bZ,eH]
theorem NS {r:List UInt8}(h:Lib.hasPrefix (r.dropWhile eH) [45,45]=false):bZ false r=r.dropWhile eH:=by
 rw[uG];generalize hr:r.dropWhile eH=q at*
 match q with
 | []=>rfl
 | c::q=>
   have hb:eH c=false:=by have:=List.head?_dropWhile_not eH r;rw[hr] at this;simpa using this
   rw[bZ,hb,if_neg (by decide)];rw[if_neg];rintro⟨rfl,h2⟩;cases q with
   | nil=>simp at h2
   | cons d q=>simp at h2;subst h2;simp[Lib.hasPrefix,List.isPrefixOf] at h
theorem mI:∀(b:Bool) (r:List UInt8),bZ b r <:+ r
 | _,[]=>by simp[bZ]
 | true,c::r=>by
   simp only[bZ];split
   ·exact(mI false r).trans (List.suffix_cons _ _)
   ·exact(mI true r).trans (List.suffix_cons _ _)
 | false,c::r=>by
   simp only[bZ];split
   ·exact(mI false r).trans (List.suffix_cons _ _)
   ·split
    ·exact(mI true r).trans (List.suffix_cons _ _)
    ·exact List.suffix_refl _
theorem drop_suffix {r l:List UInt8}(h:r <:+ l):l.drop (l.length - r.length)=r:=by obtain⟨p,rfl⟩:=h;simp
theorem Re (l:List UInt8)(c:UInt8):jg (l++ [c])=jg l*10+(c.toNat - 48):=by simp[jg]
theorem Gn (l:List UInt8):∀v,v≤l.foldl (fun v c=>v*10+(c.toNat - 48)) v:=by
 induction l with
 | nil=>intro v;exact Nat.le_refl _
 | cons c l ih=>intro v;have:=ih (v*10+(c.toNat - 48));simp only[List.foldl_cons];omega
theorem xV:∀(l:List UInt8) (v:Nat),(∀c∈l,bp c=true)→v≤18446744073709551615→
  Lib.parseUintM 18446744073709551615 v l=if l.foldl (fun v c=>v*10+(c.toNat - 48)) v≤18446744073709551615 then .ok (l.foldl (fun v c=>v*10+(c.toNat - 48)) v)else .range
 | [],v,_,hv=>by simp[Lib.parseUintM,hv]
 | c::l,v,hd,hv=>by
   have hc:48≤c.toNat∧c.toNat≤57:=by have:=hd c List.mem_cons_self;simpa [bp,UInt8.le_iff_toNat_le] using this
   have hm:=Gn l (v*10+(c.toNat - 48));rw[Lib.parseUintM,if_pos hc,List.foldl_cons];by_cases h1:1844674407370955162≤v
   ·rw[if_pos h1,if_neg (by omega)]
   ·rw[if_neg h1];by_cases h2:18446744073709551615 < v*10+(c.toNat - 48)
    ·rw[if_pos h2,if_neg (by omega)]
    ·rw[if_neg h2];exact xV l _ (fun c h=>hd c (List.mem_cons_of_mem _ h)) (by omega)
theorem zQ {l:List UInt8}(hne:l≠ [])(hd:∀c∈l,bp c=true):Lib.parseIntB 64 l=if jg l≤9223372036854775807 then .ok (jg l:Int)else .range:=by
 match l with
 | []=>exact absurd rfl hne
 | c::r=>
   have hc:48≤c.toNat∧c.toNat≤57:=by have:=hd c List.mem_cons_self;simpa [bp,UInt8.le_iff_toNat_le] using this
   have hu:=xV (c::r) 0 hd (by omega);change _=if jg (c::r)≤_ then Lib.NumEnd.ok (jg (c::r))else _ at hu
   have e1:¬(c.toNat=43∨c.toNat=45):=by omega
   have e2:¬c.toNat=45:=by omega
   have e3:¬c.toNat=43:=by omega
   simp only[Lib.parseIntB,e2,e3,or_false,if_false,Lib.parseUintB,if_neg hne];rw[show 2 ^ 64 - 1=18446744073709551615 from rfl,hu];by_cases h1:jg (c::r)≤18446744073709551615
   ·rw[if_pos h1];simp only[show 2 ^(64 - 1)=9223372036854775808 from rfl];by_cases h2:jg (c::r)≤9223372036854775807
    ·rw[if_pos h2,if_neg (by omega),if_neg (by simp)]
    ·rw[if_neg h2,if_pos (by simp;omega)]
   ·rw[if_neg h1,if_neg (by omega)]
theorem JO {c:UInt8}(h:dD c=true):c.toNat < 128:=by simp[dD,dr,bp,UInt8.le_iff_toNat_le,← UInt8.toNat_inj] at h;omega
theorem yZ {p:UInt8→Bool}(l:List UInt8):∀c∈l.takeWhile p,p c=true:=fun c hc=>List.all_eq_true.1 (List.all_takeWhile (p:=p) (l:=l)) c hc
end Go.Proofs.YtcneefmaghoejaaGreatDoor
