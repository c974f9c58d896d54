/- Parts of the proof. -/
import Derived.BigQuiet
import Derived.Deep.RegionWith
import Derived.Handy
import Derived.WalkLawsBesides
import Derived.Lib.Hide
import Derived.Laws.EntriesVeiled
import Derived.Deep.DeepCutAuto
import Derived.Test.YtfmbcoeallmnnaaGreatDoorD22
namespace Go.Proofs.YtfmbcoeallmnnaaGreatDoor.R
open Go.RowKit
structure Ext (B:Nat) (w0:World) where
 w:World
 h:Below B w0 w
instance (B:Nat) (w0:World):Nonempty (Ext B w0):=⟨⟨w0,Below.refl _ _⟩⟩
theorem Ext.cell {B:Nat} {w0:World}(x:Ext B w0) {p:Addr}(hp:p.block < B):x.w.cell? p=w0.cell? p:=x.h.cell hp
theorem iD {P:Program} {ops:Array Oper} {C:World→Prop} {Q:Act→Prop}:∀(l:List Oper) (a:Act),wpQuiet P ops C Q l a→
  ∃vs:List Value,vs.length=l.length∧
   (∀i o,l[i]?=some o→∃v,vs[i]?=some v∧
     ((Region.wanted o (yielded ops ((l.take i).zip vs |>.foldl (fun b ov=>b.put ov.1.dst ov.2) a).tmps)=true∧∀w,C w→o.quietAt P ((l.take i).zip vs |>.foldl (fun b ov=>b.put ov.1.dst ov.2) a) C w v)∨
      (Region.wanted o (yielded ops ((l.take i).zip vs |>.foldl (fun b ov=>b.put ov.1.dst ov.2) a).tmps)=false∧v=undef)))∧
   Q ((l.zip vs).foldl (fun b ov=>b.put ov.1.dst ov.2) a)
 | [],a,h=>⟨[],rfl,fun i o ho=>by simp at ho,h⟩
 | o::l,a,h=>by
   unfold wpQuiet at h;by_cases hw:Region.wanted o (yielded ops a.tmps)=true
   ·rw[if_pos hw] at h;obtain⟨v,hv,hn⟩:=h;obtain⟨vs,hl,hall,hq⟩:=iD l _ hn;refine⟨v::vs,by simp[hl],fun i o' pI=>?_,by simpa using hq⟩
    match i with
    | 0=>simp at pI;subst pI;exact⟨v,rfl,.inl ⟨by simpa using hw,by simpa using hv⟩⟩
    | i+1=>obtain⟨v',h1,h2⟩:=hall i o' (by simpa using pI);exact⟨v',by simpa using h1,by simpa using h2⟩
   ·rw[if_neg hw] at h;obtain⟨vs,hl,hall,hq⟩:=iD l _ h;refine⟨undef::vs,by simp[hl],fun i o' pI=>?_,by simpa using hq⟩
    match i with
    | 0=>simp at pI;subst pI;exact⟨undef,rfl,.inr ⟨by simpa using hw,rfl⟩⟩
    | i+1=>obtain⟨v',h1,h2⟩:=hall i o' (by simpa using pI);exact⟨v',by simpa using h1,by simpa using h2⟩
theorem iu {l:List Oper} {vs:List Value} {k:Nat} {o:Oper} {v:Value}(hl:vs.length=l.length)(ho:l[k]?=some o)(hv:vs[k]?=some v):((l.take (k+1)).zip vs)=((l.take k).zip vs)++ [(o,v)]:=by
 have hk:k < l.length:=by
  rcases Nat.lt_or_ge k l.length with h' | h'
  ·exact h'
  ·rw[List.getElem?_eq_none h'] at ho;cases ho
 rw[List.take_add_one,ho];have e1:vs=vs.take k++v::vs.drop (k+1):=by
  conv=>lhs;rw[← List.take_append_drop k vs]
  congr 1;rw[List.drop_eq_getElem_cons (by omega)];congr 1;rw[List.getElem?_eq_getElem (by omega)] at hv;injection hv
 have hlen:(l.take k).length=(vs.take k).length:=by simp;omega
 conv=>lhs;rw[e1]
 rw[List.zip_append hlen];have e2:(l.take k).zip vs=(l.take k).zip (vs.take k):=by
  conv=>lhs;rw[← List.take_append_drop k vs]
  have h0:(l.take k++ []).zip (vs.take k++vs.drop k)=(l.take k).zip (vs.take k)++([]:List Oper).zip (vs.drop k):=List.zip_append hlen;simpa using h0
 rw[e2];simp
theorem mG {l:List Oper} {vs:List Value} {a:Act}(aZ:bX l a.tmps.size l 0=true)(hl:vs.length=l.length):∀(k:Nat),k≤l.length→
  (((l.take k).zip vs).foldl (fun b ov=>b.put ov.1.dst ov.2) a).tmps.size=a.tmps.size∧
  (∀j oj d v,j < k→l[j]?=some oj→oj.dst=some d→vs[j]?=some v→(((l.take k).zip vs).foldl (fun b ov=>b.put ov.1.dst ov.2) a).tmps[d]?=some v)∧
  (∀t,(∀j oj,j < k→l[j]?=some oj→oj.dst≠some t)→(((l.take k).zip vs).foldl (fun b ov=>b.put ov.1.dst ov.2) a).tmps[t]?=a.tmps[t]?)
 | 0,_=>by simp
 | k+1,hk=>by
   obtain⟨h1,h2,h3⟩:=mG aZ hl k (by omega);obtain⟨o,ho⟩:∃o,l[k]?=some o:=⟨l[k]'(by omega),List.getElem?_eq_getElem (by omega)⟩;obtain⟨v,hv⟩:∃v,vs[k]?=some v:=⟨vs[k]'(by omega),List.getElem?_eq_getElem (by omega)⟩;have e:=iu hl ho hv;rw[e,List.foldl_append];generalize ((l.take k).zip vs).foldl (fun b ov=>b.put ov.1.dst ov.2) a=b at*;have dF:=aR aZ k o ho;rw[Nat.zero_add] at dF;simp only[List.foldl_cons,List.foldl_nil];refine⟨?_,?_,?_⟩
   ·cases hd:o.dst <;> simp[Act.put,h1]
   ·intro j oj d v' hj ig hd hv';by_cases hjk:j=k
    ·subst hjk;rw[ho] at ig;injection ig with ig;subst ig
     rw[hv] at hv';injection hv' with hv';subst hv'
     simp only[ew,hd,Bool.and_eq_true,decide_eq_true_eq] at dF;have hb:d < b.tmps.size:=by rw[h1];exact dF.1.1.2.1
     simp[hd,Act.put,hb]
    ·have hold:=h2 j oj d v' (by omega) ig hd hv';cases Un:o.dst with
     | none=>exact hold
     | some d'=>
       have hne:d'≠d:=by intro e';subst e';have fX:=aR aZ j oj ig;simp only[ew,hd,Bool.and_eq_true,Nat.zero_add,beq_iff_eq] at fX;simp only[ew,Un,Bool.and_eq_true,beq_iff_eq] at dF;rw[fX.1.1.2.2] at dF;have:=dF.1.1.2.2;injection this with this;exact hjk this
       simp only[Act.put,Array.getElem?_setIfInBounds_ne hne];exact hold
   ·intro t ht;have hold:=h3 t (fun j oj hj ig=>ht j oj (by omega) ig);cases Un:o.dst with
    | none=>exact hold
    | some d'=>
      have hne:d'≠t:=fun e'=>ht k o (by omega) ho (by rw[Un,e'])
      simp only[Act.put,Array.getElem?_setIfInBounds_ne hne];exact hold
theorem fY {P:Program} {o:Oper} {a:Act} {C:World→Prop} {w:World} {v:Value} {ρ:Operand→Value}(vp:∀cs b,o.op≠ .select cs b)(he:∀x∈o.op.operands,ρ x=a.eval x)(hC:C w)
  (h:o.quietAt P a C w v):nw P o ρ w fun v' w'=>(C w→C w')∧v'=v:=by
 unfold Oper.quietAt at h;unfold nw;rw[execOp_congr o vp he];generalize (execOp a.eval o).run P w=r at*;cases r with
 | ok n w'=>
   cases n <;> simp only[Oper.quietUpon] at h;case value u=>obtain⟨rfl,rfl⟩:=h;exact⟨id,rfl⟩
   case skip=>obtain⟨rfl,rfl⟩:=h;exact⟨id,rfl⟩
   case enter f args=>obtain⟨rfl,hc⟩:=h;exact hc.mono fun e w'' ⟨he,hc'⟩=>⟨v,he,fun _=>hc',rfl⟩
 | halt x w'=>simp only[Oper.quietUpon] at h
theorem qP {o:Oper} {t:Tmp}:t∈tmpsOf o↔Operand.tmp t∈o.op.operands:=by
 unfold tmpsOf;simp only[List.mem_filterMap,Array.mem_toList_iff];constructor
 ·rintro⟨x,hx,h⟩;cases x <;> simp at h;subst h;exact hx
 ·intro h;exact⟨_,h,rfl⟩
theorem mH {l:List Oper} {V:Nat→World→Value→Prop} {Hy ρ:Operand→Value} {w:World} {o:Oper}:∀ {ts:List Tmp},cL l V Hy ρ w o ts→∀t∈ts,match ed l o t with | some j=>V j w (ρ (.tmp t))| none=>ρ (.tmp t)=Hy (.tmp t)
 | [],_,t,h=>by cases h
 | x::ts,hr,t,h=>by
   rcases List.mem_cons.1 h with rfl | h
   ·exact hr.1
   ·exact mH hr.2 t h
def Cx (l:List Oper):Bool:=l.all fun o=>match o.op with | .select _ _=>false | _=>true
theorem oI {P:Program} {Q:Exit→Act→World→Prop} {a0:Act} {w0:World} {id:Nat} {ops:List Oper}(zs:List Oper)(l:List Oper)(ow:ops=l++zs)(C:World→Prop)(XF:C w0)(iW:∀w,C w→C w.drew)
  (hm:P.follows .mixedOrders=true) (vp:Cx l=true) (aZ:bX l a0.tmps.size l 0=true) (hz:cH (l++zs) zs l.length=true)
  (h:wpQuiet P ops.toArray C (fun a=>∀w,C w→wpList P ops.toArray Q zs a w) l a0):(Code.region id ops.toArray true).wp P Q a0 w0:=by
 subst ow;obtain⟨vs,hl,hall,hq⟩:=iD l a0 h;refine iJ zs l rfl (fun w w'=>C w→C w') (fun _ h=>h) (fun _ _ _ h1 h2 h=>h2 (h1 h)) (fun w h=>iW w h) (fun i _ v=>vs[i]?=some v) (fun _ _ _ _ h _=>h) hm aZ hz ?_ ?_
 ·have key:∀(k:Nat) (rest:List Oper),l.drop k=rest→Steps P l (fun w w'=>C w→C w') (fun i _ v=>vs[i]?=some v) a0 w0 rest k:=by
   intro k rest;induction rest generalizing k with
   | nil=>intro _;trivial
   | cons o rest ih=>
     intro hk;have nz:l[k]?=some o:=by have:=congrArg (fun x=>x[0]?) hk;simpa using this
     have Mf:k < l.length:=by
      rcases Nat.lt_or_ge k l.length with h' | h'
      ·exact h'
      ·rw[List.getElem?_eq_none h'] at nz;cases nz
     refine⟨?_,ih (k+1) (by rw[← List.tail_drop,hk];rfl)⟩;intro ρ w hc hR hr;have Jx:C w:=hR XF;obtain⟨v,hv,wq⟩:=hall k o nz;obtain⟨f1,f2,f3⟩:=mG aZ hl k (by omega);have dF:=aR aZ k o nz;rw[Nat.zero_add] at dF;have wu:∀cs b,o.op≠ .select cs b:=by intro cs b e;have:=List.all_eq_true.1 vp o (List.mem_of_getElem? nz);rw[e] at this;cases this
     have mC:∀x∈o.op.operands,ρ x=(((l.take k).zip vs).foldl (fun b ov=>b.put ov.1.dst ov.2) a0).eval x:=by
      intro x hx;cases x with
      | const v=>rw[hc.const];rfl
      | global g=>rw[hc.global];rfl
      | func f=>rw[hc.func];rfl
      | tmp t=>
        have XG:=qP.2 hx;have hrt:=mH hr t XG;simp only[ew,Bool.and_eq_true] at dF;have PQ:=List.all_eq_true.1 dF.1.2 t XG;unfold ed at hrt;cases hs:cF t l 0 with
        | none=>simp only[hs] at hrt;rw[hrt];refine(eB (f3 t ?_)).symm;intro j oj _ ig hd;obtain⟨j',hj'⟩:=fl (k:=0) ig hd;rw[hs] at hj';cases hj'
        | some j=>
          obtain⟨j',oj,e,hj,hd⟩:=fV hs;rw[Nat.zero_add] at e;subst e;simp only[hs] at hrt PQ;by_cases he:eK o j=true
          ·simp only[he,if_true] at hrt;have hjk:j < k:=of_decide_eq_true (List.all_eq_true.1 dF.1.1.1 j (cY.1 he));have:=f2 j oj t _ hjk hj hd hrt;simp[Act.eval,this]
          ·rw[Bool.not_eq_true] at he;simp only[he,Bool.false_or,hj] at PQ hrt;have Uo:ρ (.tmp t)=a0.eval (.tmp t):=by simpa using hrt
           rw[Uo];refine(eB (f3 t ?_)).symm;intro i oi hik hoi XH;have kY:=aR aZ i oi hoi;simp only[ew,XH,Bool.and_eq_true,Nat.zero_add,beq_iff_eq] at kY;have Mk:i=j:=by have:=kY.1.1.2.2;rw[hs] at this;injection this with this;exact this.symm
           subst Mk;rw[hj] at hoi;injection hoi with hoi;subst hoi
           have fX:=aR aZ i oj hj;simp only[ew,Bool.and_eq_true,Nat.zero_add] at fX;have:=of_decide_eq_true (List.all_eq_true.1 fX.1.1.1 k (cY.1 PQ));omega
     have hT:nw P o ρ w (fun v' w'=>(C w→C w')∧v'=v)→nw P o ρ w (fun v' w'=>(C w→C w')∧vs[k]?=some v'):=by
      unfold nw;intro h';generalize (execOp ρ o).run P w=r at*;cases r with
      | ok n w'=>
        cases n <;> first | exact⟨h'.1,by rw[h'.2];exact hv⟩| exact h'.elim | skip
        exact h'.mono fun e w'' ⟨u,h1,h2,h3⟩=>⟨u,h1,h2,by rw[h3];exact hv⟩
      | halt x w'=>exact h'.elim
     cases hg:o.guard with
     | none=>
       rcases wq with ⟨_,Up⟩|⟨hw,_⟩
       ·exact hT (fY wu mC Jx (Up w Jx))
       ·simp[Region.wanted,hg] at hw
     | some g=>
       obtain⟨j,want⟩:=g;simp only[ew,hg,Bool.and_eq_true] at dF;have hjk:j < k:=of_decide_eq_true (List.all_eq_true.1 dF.1.1.1 j (cY.1 dF.2.1));obtain⟨oj,ig⟩:∃oj,l[j]?=some oj:=⟨l[j]'(by omega),List.getElem?_eq_getElem (by omega)⟩;have yR:=dF.2.2;rw[ig] at yR;obtain⟨d,hd⟩:=Option.isSome_iff_exists.1 yR;simp only[ig,Option.bind_some,hd];intro Ul;have Ml:=f2 j oj d _ hjk ig hd Ul;have kZ:yielded (l++zs).toArray (((l.take k).zip vs).foldl (fun b ov=>b.put ov.1.dst ov.2) a0).tmps j=match ρ (.tmp d)with | .bool b=>some b | _=>none:=by unfold yielded;rw[fW ig];simp only[Option.bind_some,hd,Ml];cases ρ (.tmp d)<;> rfl
       constructor
       ·intro jU;rcases wq with ⟨_,Up⟩|⟨hw,_⟩
        ·exact hT (fY wu mC Jx (Up w Jx))
        ·simp[Region.wanted,hg,kZ,jU] at hw
       ·intro jU;rcases wq with ⟨hw,_⟩|⟨_,hu⟩
        ·exfalso;simp only[Region.wanted,hg,kZ] at hw;apply jU;cases lU:ρ (.tmp d)<;> rw[lU] at hw <;> simp at hw;rw[hw]
        ·rw[← hu];exact hv
  exact key 0 l rfl
 ·intro w hR;have Jx:C w:=hR XF;have key:∀(k:Nat) (rest:List Oper),l.drop k=rest→k≤l.length→cN (fun i _ v=>vs[i]?=some v) (fun a w=>wpList P (l++zs).toArray Q zs a w) rest k (((l.take k).zip vs).foldl (fun b ov=>b.put ov.1.dst ov.2) a0) w:=by
   intro k rest;induction rest generalizing k with
   | nil=>intro hk Fp;have:l.length≤k:=List.drop_eq_nil_iff.1 hk;have e:l.take k=l:=List.take_of_length_le this;rw[e];exact hq w Jx
   | cons o rest ih=>
     intro hk Fp;have nz:l[k]?=some o:=by have:=congrArg (fun x=>x[0]?) hk;simpa using this
     have Mf:k < l.length:=by
      rcases Nat.lt_or_ge k l.length with h' | h'
      ·exact h'
      ·rw[List.getElem?_eq_none h'] at nz;cases nz
     have hstep:∀v,vs[k]?=some v→((l.take (k+1)).zip vs).foldl (fun b ov=>b.put ov.1.dst ov.2) a0=(((l.take k).zip vs).foldl (fun b ov=>b.put ov.1.dst ov.2) a0).put o.dst v:=by intro v hv;rw[iu hl nz hv,List.foldl_append];rfl
     have mF:=ih (k+1) (by rw[← List.tail_drop,hk];rfl) (by omega);unfold cN;cases hd:o.dst with
     | none=>simp only;obtain⟨v,hv⟩:∃v,vs[k]?=some v:=⟨vs[k]'(by omega),List.getElem?_eq_getElem (by omega)⟩;rw[hstep v hv,hd] at mF;exact mF
     | some d=>simp only;intro v hv;rw[hstep v hv,hd] at mF;exact mF
  have:=key 0 l rfl (by omega);simpa using this
theorem bD {P:Program} {Q:Exit→Act→World→Prop} {a0:Act} {w:World} {id:Nat} {ops:List Oper}(k B:Nat)(w0:World)(hb:Below B w0 w)(hm:P.follows .mixedOrders=true)(vp:Cx (ops.take k)=true)
  (aZ:bX (ops.take k) a0.tmps.size (ops.take k) 0=true) (hz:cH ops (ops.drop k) (ops.take k).length=true)
  (h:wpQuiet P ops.toArray (fun w'=>∃x:Ext B w0,w'=x.w) (fun a=>∀w,(∃x:Ext B w0,w=x.w)→wpList P ops.toArray Q (ops.drop k) a w) (ops.take k) a0):(Code.region id ops.toArray true).wp P Q a0 w:=
 oI (ops.drop k) (ops.take k) (List.take_append_drop k ops).symm (fun w'=>∃x:Ext B w0,w'=x.w) ⟨⟨w,hb⟩,rfl⟩ (fun w' ⟨x,e⟩=>⟨⟨w'.drew,by rw[e];exact x.h.drew⟩,rfl⟩) hm vp aZ (by rw[List.take_append_drop];exact hz) h
theorem aT {P:Program} {f:FuncId} {args:Array Value} {B:Nat} {w0:World} {x:Ext B w0} {v:Value}(hB:B≤w0.heap.size)
  (h:Calls P f args x.w fun e w'=>e=.returned v∧Below x.w.heap.size x.w w'):Calls P f args x.w fun e w''=>e=.returned v∧∃x:Ext B w0,w''=x.w:=
 h.mono fun _ _ ⟨he,hb⟩=>⟨he,⟨_,x.h.trans (hb.mono (Nat.le_trans hB x.h.size))⟩,rfl⟩
def ae (w w':World):Prop:=Below w.heap.size w w'
theorem ae.refl (w:World):ae w w:=Below.refl _ _
theorem ae.trans {a b c:World}(h:ae a b)(k:ae b c):ae a c:=Below.trans h (Below.mono k h.size)
theorem ae.drew (w:World):ae w w.drew:=(Below.refl _ _).drew
section
variable {P:Program} {o:Oper} {ρ:Operand→Value} {w:World} {T:Value→World→Prop}
theorem ai {v:Value} {w':World}(h:(execOp ρ o).run P w=.ok (.value v) w')(hT:T v w'):nw P o ρ w T:=by unfold nw;rw[h];exact hT
theorem fZ {f:FuncId} {args:Array Value} {w':World}(h:(execOp ρ o).run P w=.ok (.enter f args) w')(hc:Calls P f args w' fun e w''=>∃v,e=.returned v∧T v w''):nw P o ρ w T:=by unfold nw;rw[h];exact hc
end
set_option linter.unusedVariables false
section
variable {α:Type} {f:α→List Value} {e:TypeId} {size:Nat} {base:Nat} {lv:Value} {l:List α} {y:α}
structure AR (f:α→List Value) (e:TypeId) (size base:Nat) (lv:Value) (l:List α) (y:α) (a b:World):Prop where
 grown:a.grownBy b lv.ownBlock
 old:aQ f e size a base lv l→aQ f e size b base lv l
 new:∀u,aQ f e size a base u (l++ [y])→aQ f e size b base u (l++ [y])
theorem AR.refl (w:World):AR f e size base lv l y w w:=⟨⟨rfl,rfl,rfl,Nat.le_refl _,fun _ _ _=>rfl⟩,id,fun _=>id⟩
theorem AR.trans {a b c:World}(h:AR f e size base lv l y a b)(k:AR f e size base lv l y b c):AR f e size base lv l y a c:=
 ⟨h.grown.trans k.grown,fun o=>k.old (h.old o),fun u o=>k.new u (h.new u o)⟩
theorem AR.later {a b:World}(h:Below a.heap.size a b):AR f e size base lv l y a b:=
 ⟨⟨h.os,h.tape,h.output,h.size,fun k hk _=>h.block k hk⟩,fun o=>o.later h,fun u o=>o.later h⟩
theorem AR.drew (w:World):AR f e size base lv l y w w.drew:=AR.later (ae.drew w)
theorem fh {a b:World}(h:a.grownBy b none):Below a.heap.size a b:=⟨h.os,h.tape,h.output,h.size,fun k hk=>h.block k hk (by simp)⟩
theorem ei {P:Program} {w:World}(t ty:TypeId)(z:Value)(bytes:Nat)(ht:P.underlying t=some (.slice e))(jV:(P.info? e).map (fun i=>(i.zero,i.size,i.bytes))=some (some z,size,bytes))(hzs:z.cells.size=size)(hsz:0 < size)
  (hf:∀x,(f x).length=size) (h1:∀u∈f y,u.oneCell'=true) (hown:aQ f e size w base lv l)
  (g0:Nat) (hg0:ag w g0 e (f y).toArray) (hlen:(l.length+1)*bytes≤140737488355328) (ld:l.length+1≤140737488355328) (hbase:base≤w.heap.size):
  ∃v' w',(Builtin.append_ #[t,t] ty #[lv,.slice (some ⟨g0,0,none⟩) 1 1]).run P w=.ok v' w'∧aQ f e size w' base v' (l++ [y])∧AR f e size base lv l y w w':=by
 obtain⟨i0,qj,hz0,hz1,hz2⟩:=info_parts jV;have hnews:∀j u,(f y)[j]?=some u→w.cell? ((⟨g0,0,none⟩:Addr).add j)=some u:=by
  intro j u hu;have:(Addr.add ⟨g0,0,none⟩ j)=⟨g0,j,none⟩:=by unfold Addr.add;split <;> simp_all
  rw[this,hg0.cell];simpa using hu
 have dN:(f y).length=1*size:=by rw[hf];omega
 have conv:∀ {w':World} {v':Value},w'.ownsRow base e size v' (l.length+1) (l.flatMap f++f y)→aQ f e size w' base v' (l++ [y]):=fun h=>by unfold aQ;rw[List.length_append,List.flatMap_append];simpa using h
 by_cases hroom:∃g cap,lv=.slice (some ⟨g,0,none⟩) l.length cap∧l.length+1≤cap
 ·obtain⟨g,cap,rfl,hr⟩:=hroom;obtain⟨w',hrun,ho,hg⟩:=run_append_fits (P:=P) w base t ty e i0 size ht qj hz1 g l.length cap (l.flatMap f) hown ⟨g0,0,none⟩ 1 1 (f y) dN hnews h1 hr;refine⟨_,w',hrun,conv ho,hg,fun _=>?_,fun u hu=>?_⟩
  ·rcases ho.2 with ⟨h,_⟩|⟨g',cap',cur,h,hbg,dh,hn,hm,hs,Ux⟩
   ·cases h
   ·injection h with kD tE SK;injection kD with kD;injection kD with kD _ _;subst kD SK;refine⟨hown.1,.inr ⟨g,cap,cur,rfl,hbg,dh,by omega,hm,hs,?_⟩⟩;have hx:=congrArg (List.take (l.length*size)) Ux;rw[List.take_take,Nat.min_eq_left (Nat.mul_le_mul_right _ (by omega)),List.take_append_of_le_length (Nat.le_of_eq hown.1.symm)] at hx;rw[hx];exact List.take_of_length_le (Nat.le_of_eq hown.1)
  ·by_cases hb:u.ownBlock=some g
   ·rcases hu.2 with ⟨rfl,_⟩|⟨g',cap',cur,rfl,hbg,dh,hn,hm,hs,Ux⟩
    ·simp[Value.ownBlock] at hb
    ·simp only[Value.ownBlock,Option.some.injEq] at hb;subst hb;rcases hown.2 with ⟨h,_⟩|⟨g2,L1,L3,h,_,tK,_,_,hs2,_⟩
     ·cases h
     ·injection h with kD tE SK;injection kD with kD;injection kD with kD _ _;subst kD SK;rw[dh] at tK;injection tK with tK;injection tK with tK _ _;subst tK;have Uy:cap'=cap:=Nat.eq_of_mul_eq_mul_right hsz (hs.symm.trans hs2);subst Uy;have:=conv ho;rw[List.length_append];exact this
   ·exact hu.keep fun q hq=>hg.block q (hu.lt hq).1 fun e=>hb (by rw[hq];exact e)
 ·obtain⟨v',w',hrun,ho,hg,_,hat⟩:=run_append_own_at (P:=P) w base t ty e i0 z size bytes ht qj hz0 hz1 hz2 hzs hsz lv l.length (l.flatMap f) hown ⟨g0,0,none⟩ 1 1 (f y) dN hnews h1 (by unfold maxLen;omega) hlen hbase;have Uz:Below w.heap.size w w':=by
   rcases hown.2 with ⟨rfl,h0⟩|⟨g,cap,cur,rfl,hbg,dh,hn,hm,hs,yK⟩
   ·have hr:=run_append_nil (P:=P) w t ty e i0 z ht qj hz0 ⟨g0,0,none⟩ 1 1 (f y) (by rw[hz1];exact dN) hnews (by omega) (by omega) (by rw[hz2];have:1*bytes≤(l.length+1)*bytes:=Nat.mul_le_mul_right _ (by omega);omega);rw[hr] at hrun;injection hrun with _ hw;rw[← hw];exact(ae.drew w).alloc (Nat.le_refl _) _
   ·have hno:¬l.length+1≤cap:=fun h=>hroom ⟨g,cap,rfl,h⟩
    have holds:∀j u,(l.flatMap f)[j]?=some u→w.cell? ((⟨g,0,none⟩:Addr).add j)=some u:=World.ownsRow.cells hown (g:=g) rfl;have hr:=run_append_grow (P:=P) w t ty e i0 z ht qj hz0 ⟨g,0,none⟩ l.length cap (l.flatMap f) (by rw[hz1];exact hown.1) holds ⟨g0,0,none⟩ 1 1 (f y) (by rw[hz1];exact dN) hnews (by omega) (by omega) (by rw[hz2];exact growslice_fits (by omega) hlen);rw[hr] at hrun;injection hrun with _ hw;rw[← hw];exact(ae.drew w).alloc (Nat.le_refl _) _
  exact⟨v',w',hrun,conv ho,AR.later Uz⟩
end
def CD (l:List Oper)(R:World→World→Prop)(U:Nat→World→(Operand→Value)→Prop):Prop:=
 ∀i o w w' ρ ρ',l[i]?=some o→U i w ρ→R w w'→(∀j∈cj o,∀oj d,l[j]?=some oj→oj.dst=some d→ρ' (.tmp d)=ρ (.tmp d))→U i w' ρ'
structure Inv2 (l:List Oper) (V:Nat→World→Value→Prop) (U:Nat→World→(Operand→Value)→Prop) (R:World→World→Prop) (a0:Act) (w0:World) (m:Nat) (listed:Array Bool) (a:Act) (w:World):Prop where
 base:Inv l V R a0 w0 m listed a w
 post:∀i o,l[i]?=some o→listed.getD i false=true→U i w a.eval
section
variable {P:Program} {l zs:List Oper} {Q:Exit→Act→World→Prop} {R:World→World→Prop} {V:Nat→World→Value→Prop} {U:Nat→World→(Operand→Value)→Prop} {a0:Act} {w0:World}
theorem Inv2.step (aZ:bX l a0.tmps.size l 0=true)(hV:∀i w w' v,V i w v→R w w'→V i w' v)(hU:CD l R U)(hrefl:∀w,R w w)(hT:∀a b c,R a b→R b c→R a c) {m:Nat} {listed:Array Bool} {a:Act} {w w':World} {v:Value}(I:Inv2 l V U R a0 w0 m listed a w) {i:Nat} {o:Oper}(ho:l[i]?=some o)(AU:i < m)
  (AQ:listed.getD i false=false) (hall:∀j∈cj o,listed.getD j false=true) (hr:R w w') (hv:V i w' v) (hu:U i w' a.eval):Inv2 l V U R a0 w0 m (listed.setIfInBounds i true) (a.put o.dst v) w':=by
 refine⟨I.base.step aZ hV hT ho AU AQ hall hr hv,?_⟩;have qz:i < listed.size:=by rw[I.base.len];exact AU
 have dF:=aR aZ i o ho;rw[Nat.zero_add] at dF;have keep:∀j d oj,l[j]?=some oj→oj.dst=some d→j≠i→(a.put o.dst v).eval (.tmp d)=a.eval (.tmp d):=by
  intro j d oj hj hd uG;refine Act.eval_put fun d' Uk e=>?_
  injection e with e;subst e;have fX:=aR aZ j oj hj;simp only[ew,hd,Bool.and_eq_true,Nat.zero_add,beq_iff_eq] at fX;simp only[ew,Uk,Bool.and_eq_true,beq_iff_eq] at dF;rw[fX.1.1.2.2] at dF;have:=dF.1.1.2.2;injection this with this;exact uG this
 intro j oj hj hl;by_cases uG:j=i
 ·subst uG;rw[hj] at ho;injection ho with ho;subst ho
  refine hU j oj w' w' a.eval _ hj hu (hrefl _) fun k hk ok d qO hd=>keep k d ok qO hd ?_
  intro e;subst e;have:=hall k hk;rw[AQ] at this;cases this
 ·have hl':listed.getD j false=true:=by rw[cd _ _ _ qz,if_neg uG] at hl;exact hl
  refine hU j oj w w' a.eval _ hj (I.post j oj hj hl') hr fun k hk ok d qO hd=>keep k d ok qO hd ?_
  intro e;subst e;have:=I.base.closed j oj hj hl' k hk;rw[AQ] at this;cases this
end
open Go.ChangeShapes Go.WideShapes Go.ChangeAt
theorem ae.then {a b c:World}(h:Below a.heap.size a b)(k:Below b.heap.size b c):Below a.heap.size a c:=h.trans (k.mono h.size)
theorem aa (w:World)(o:Obj):Below w.heap.size w (w.alloc o):=(Below.refl _ _).alloc (Nat.le_refl _) o
theorem px (w:World):∀k,Below w.heap.size w (w.drewN k)
 | 0=>Below.refl _ _
 | k+1=>(px w k).drew
theorem jH {w:World} {p:Addr} {v:Value}(h:w.cell? p=some v):p.block < w.heap.size:=by
 rcases Nat.lt_or_ge p.block w.heap.size with hlt | AW
 ·exact hlt
 ·unfold World.cell? at h;rw[Array.getElem?_eq_none AW] at h;simp at h
def strOf (l:List UInt8):Value:=.string ⟨l.toArray⟩
theorem ud {α:Type} {f:α→List Value} {size:Nat}(hf:∀x,(f x).length=size):∀(l:List α) (k:Nat) (x:α),l[k]?=some x→∀r u,(f x)[r]?=some u→(l.flatMap f)[k*size+r]?=some u
 | [],k,x,h,_,_,_=>by simp at h
 | y::l,0,x,h,r,u,hu=>by
   simp at h;subst h;have hr:r <(f y).length:=by
    rcases Nat.lt_or_ge r (f y).length with h' | h'
    ·exact h'
    ·rw[List.getElem?_eq_none h'] at hu;cases hu
   rw[Nat.zero_mul,Nat.zero_add,List.flatMap_cons,List.getElem?_append_left hr];exact hu
 | y::l,k+1,x,h,r,u,hu=>by have:=ud hf l k x (by simpa using h) r u hu;rw[List.flatMap_cons,List.getElem?_append_right (by rw[hf,Nat.succ_mul];omega),hf];rw[show(k+1)*size+r - size=k*size+r by rw[Nat.succ_mul];omega];exact this
section
variable {α:Type} {f:α→List Value} {e:TypeId} {size:Nat} {w w':World} {base:Nat} {v:Value} {l:List α}
theorem aQ.cell (hf:∀x,(f x).length=size)(h:aQ f e size w base v l) {k:Nat} {x:α}(hk:l[k]?=some x):
  ∃g c,v=.slice (some ⟨g,0,none⟩) l.length c∧base≤g∧g < w.heap.size∧∀r u,(f x)[r]?=some u→w.cell? ⟨g,k*size+r,none⟩=some u:=by
 have Fp:k < l.length:=by
  rcases Nat.lt_or_ge k l.length with h' | h'
  ·exact h'
  ·rw[List.getElem?_eq_none h'] at hk;cases hk
 rcases h.2 with ⟨_,h0⟩|⟨g,cap,cur,rfl,hb,hg,hn,hm,hs,ht⟩
 ·omega
 ·have hlt:g < w.heap.size:=by
   rcases Nat.lt_or_ge g w.heap.size with h' | h'
   ·exact h'
   ·rw[Array.getElem?_eq_none h'] at hg;cases hg
  refine⟨g,cap,rfl,hb,hlt,fun r u hu=>?_⟩;have h1:=ud hf l k x hk r u hu;rw[← ht] at h1;have h2:cur[k*size+r]?=some u:=by
   rw[List.getElem?_take] at h1;split at h1
   ·simpa using h1
   ·cases h1
  unfold World.cell?;simp[hg,h2]
theorem aQ.form (h:aQ f e size w base v l):∃A c,v=.slice A l.length c:=by obtain⟨A,c,hv,_⟩:=h.reads;exact⟨A,c,hv⟩
end
set_option linter.unusedSimpArgs false
structure Ex where
 op:Int
 v:Val
 name:ByteArray
 width:Int
 A:Option Addr
 n:Nat
 c:Nat
def cW (y:Ex):List Value:=[.int .u8 y.op,.int .u8 y.v.k,.int .i64 y.v.n,.string y.v.s,.string y.name,.int .i64 y.width,.slice y.A y.n y.c]
def ji (y:Ex):Value:=.agg (cW y).toArray
def RL {β:Type}(f:β→List Value)(size:Nat)(w:World)(S:Nat→Prop)(A:Option Addr)(l:List β):Prop:=
 l=[]∨∃b off,A=some ⟨b,off,none⟩∧S b∧∀i y j u,l[i]?=some y→(f y)[j]?=some u→w.cell? ⟨b,off+i*size+j,none⟩=some u
theorem RL.keep {β:Type} {f:β→List Value} {size:Nat} {w w':World} {S S':Nat→Prop} {A:Option Addr} {l:List β}(h:RL f size w S A l)(hk:∀b,S b→(∀o,w'.cell? ⟨b,o,none⟩=w.cell? ⟨b,o,none⟩)∧S' b):RL f size w' S' A l:=by
 rcases h with h |⟨b,off,h1,h2,h3⟩
 ·exact .inl h
 ·exact .inr ⟨b,off,h1,(hk b h2).2,fun i y j u hy hu=>((hk b h2).1 _).trans (h3 i y j u hy hu)⟩
mutual
def Tr.at_ (w:World)(S:Nat→Prop):Tr→Ex→Prop
 | .mk op v name width args,y=>y.op=op∧y.v=v∧y.name=name∧y.width=width∧y.n=args.length∧∃ys,RL cW 7 w S y.A ys∧Tr.bJ w S args ys
def Tr.bJ (w:World)(S:Nat→Prop):List Tr→List Ex→Prop
 | [],ys=>ys=[]
 | t::ts,ys=>∃y ys',ys=y::ys'∧Tr.at_ w S t y∧Tr.bJ w S ts ys'
end
mutual
theorem Tr.at_.keep {w w':World} {S S':Nat→Prop}(hk:∀b,S b→(∀o,w'.cell? ⟨b,o,none⟩=w.cell? ⟨b,o,none⟩)∧S' b):∀(t:Tr) (y:Ex),t.at_ w S y→t.at_ w' S' y
 | .mk op v name width args,y,h=>by unfold Tr.at_ at h ⊢;obtain⟨h1,h2,h3,h4,h5,ys,h6,h7⟩:=h;exact⟨h1,h2,h3,h4,h5,ys,h6.keep hk,Tr.bJ.keep hk args ys h7⟩
theorem Tr.bJ.keep {w w':World} {S S':Nat→Prop}(hk:∀b,S b→(∀o,w'.cell? ⟨b,o,none⟩=w.cell? ⟨b,o,none⟩)∧S' b):∀(ts:List Tr) (ys:List Ex),Tr.bJ w S ts ys→Tr.bJ w' S' ts ys
 | [],ys,h=>by unfold Tr.bJ at h ⊢;exact h
 | t::ts,ys,h=>by unfold Tr.bJ at h ⊢;obtain⟨y,ys',h1,h2,h3⟩:=h;exact⟨y,ys',h1,Tr.at_.keep hk t y h2,Tr.bJ.keep hk ts ys' h3⟩
end
theorem Tr.bJ.length {w:World} {S:Nat→Prop}:∀ {ts:List Tr} {ys:List Ex},Tr.bJ w S ts ys→ys.length=ts.length
 | [],ys,h=>by unfold Tr.bJ at h;subst h;rfl
 | t::ts,ys,h=>by unfold Tr.bJ at h;obtain⟨y,ys',rfl,_,h3⟩:=h;simp[Tr.bJ.length h3]
theorem Tr.sY {w:World} {S:Nat→Prop} {t:Tr} {y:Ex}(h:t.at_ w S y):Tr.bJ w S [t] [y]:=by unfold Tr.bJ;exact⟨y,[],rfl,h,by unfold Tr.bJ;rfl⟩
theorem Tr.IM {w:World} {S:Nat→Prop} {t u:Tr} {y z:Ex}(h:t.at_ w S y)(k:u.at_ w S z):Tr.bJ w S [t,u] [y,z]:=by unfold Tr.bJ;exact⟨y,[z],rfl,h,Tr.sY k⟩
theorem Tr.all_nil {w:World} {S:Nat→Prop}:Tr.bJ w S [] []:=by unfold Tr.bJ;rfl
structure El (α:Type) where
 β:Type
 f:β→List Value
 size:Nat
 hf:∀y,(f y).length=size
 rel:World→(Nat→Prop)→α→β→Prop
 keep:∀ {w w':World} {S S':Nat→Prop} {x:α} {y:β},(∀b,S b→(∀o,w'.cell? ⟨b,o,none⟩=w.cell? ⟨b,o,none⟩)∧S' b)→rel w S x y→rel w' S' x y
inductive jC {α β:Type} (R:α→β→Prop):List α→List β→Prop
 | nil:jC R [] []
 | cons {x:α} {y:β} {l:List α} {m:List β}:R x y→jC R l m→jC R (x::l) (y::m)
theorem jC.imp {α β:Type} {R R':α→β→Prop}(h:∀x y,R x y→R' x y):∀ {l:List α} {m:List β},jC R l m→jC R' l m
 | _,_,.nil=> .nil
 | _,_,.cons a b=> .cons (h _ _ a) (b.imp h)
theorem jC.len {α β:Type} {R:α→β→Prop}:∀ {l:List α} {m:List β},jC R l m→m.length=l.length
 | _,_,.nil=>rfl
 | _,_,.cons a b=>by simp[b.len]
theorem jC.append {α β:Type} {R:α→β→Prop}:∀ {l l':List α} {m m':List β},jC R l m→jC R l' m'→jC R (l++l') (m++m')
 | _,_,_,_,.nil,k=>k
 | _,_,_,_,.cons a b,k=> .cons a (b.append k)
theorem jC.one {α β:Type} {R:α→β→Prop} {x:α} {y:β}(h:R x y):jC R [x] [y]:=.cons h .nil
def El.lies {α:Type}(E:El α)(w:World)(S:Nat→Prop)(A:Option Addr)(n:Nat)(l:List α):Prop:=n=l.length∧∃ys,RL E.f E.size w S A ys∧jC (E.rel w S) l ys
theorem El.lies.keep {α:Type} {E:El α} {w w':World} {S S':Nat→Prop} {A:Option Addr} {n:Nat} {l:List α}(h:E.lies w S A n l)(hk:∀b,S b→(∀o,w'.cell? ⟨b,o,none⟩=w.cell? ⟨b,o,none⟩)∧S' b):E.lies w' S' A n l:=by obtain⟨h1,ys,h2,h3⟩:=h;exact⟨h1,ys,h2.keep hk,h3.imp fun x y=>E.keep hk⟩
theorem El.NM {α:Type}(E:El α)(w:World)(S:Nat→Prop):E.lies w S none 0 []:=⟨rfl,[],.inl rfl,.nil⟩
def nh:El Tr:=⟨Ex,cW,7,fun _=>rfl,Tr.at_,fun hk h=>Tr.at_.keep hk _ _ h⟩
def kt:El (Tr×ByteArray):=⟨Ex×ByteArray,fun y=>cW y.1++ [.string y.2],8,fun _=>rfl,fun w S x y=>x.1.at_ w S y.1∧y.2=x.2,fun hk h=>⟨Tr.at_.keep hk _ _ h.1,h.2⟩⟩
def jP:El (Tr×Bool):=⟨Ex×Bool,fun y=>cW y.1++ [.bool y.2],8,fun _=>rfl,fun w S x y=>x.1.at_ w S y.1∧y.2=x.2,fun hk h=>⟨Tr.at_.keep hk _ _ h.1,h.2⟩⟩
def Tu:El (ByteArray×Int):=⟨ByteArray×Int,fun y=> [.string y.1,.int .u8 y.2],2,fun _=>rfl,fun _ _ x y=>y=x,fun _ h=>h⟩
def NN:El Int:=⟨Int,fun y=> [.int .i64 y],1,fun _=>rfl,fun _ _ x y=>y=x,fun _ h=>h⟩
def Tw:El (ByteArray×Tr):=⟨ByteArray×Ex,fun y=> .string y.1::cW y.2,8,fun _=>rfl,fun w S x y=>y.1=x.1∧x.2.at_ w S y.2,fun hk h=>⟨h.1,Tr.at_.keep hk _ _ h.2⟩⟩
structure Sl where
 A:Option Addr
 n:Nat
 c:Nat
def Tx:El (List Tr):=⟨Sl,fun y=> [.slice y.A y.n y.c],1,fun _=>rfl,fun w S x y=>nh.lies w S y.A y.n x,fun hk h=>El.lies.keep h hk⟩
def gK (B:Nat)(w:World):Nat→Prop:=fun b=>B≤b∧b < w.heap.size
theorem cell_of_heap {w w':World} {b:Nat}(h:w'.heap[b]?=w.heap[b]?)(o:Nat):w'.cell? ⟨b,o,none⟩=w.cell? ⟨b,o,none⟩:=by unfold World.cell?;simp only[h]
theorem dZ {g B:Nat} {w w':World}(h:w.grownBy w' (some g))(hg:g < B):∀b,gK B w b→(∀o,w'.cell? ⟨b,o,none⟩=w.cell? ⟨b,o,none⟩)∧gK B w' b:=fun b hb=>
 ⟨cell_of_heap (h.block b hb.2 (fun e=>by injection e with e;have:=hb.1;omega)),hb.1,Nat.lt_of_lt_of_le hb.2 h.size⟩
theorem fC {B:Nat} {w w':World}(h:Below w.heap.size w w'):∀b,gK B w b→(∀o,w'.cell? ⟨b,o,none⟩=w.cell? ⟨b,o,none⟩)∧gK B w' b:=fun b hb=>
 ⟨cell_of_heap (h.block b hb.2),hb.1,Nat.lt_of_lt_of_le hb.2 h.size⟩
theorem kN {B q:Nat} {w:World}(hq:q < B)(i:Nat)(u:Value):∀b,gK B w b→(∀o,(w.setCell ⟨q,i,none⟩ u).cell? ⟨b,o,none⟩=w.cell? ⟨b,o,none⟩)∧gK B (w.setCell ⟨q,i,none⟩ u) b:=fun b hb=>
 ⟨cell_of_heap (Below.heap_setCell w ⟨q,i,none⟩ u b (by have:=hb.1;simp;omega)),hb.1,by simpa [World.setCell] using hb.2⟩
theorem eY {B B':Nat} {w:World}(h:B'≤B):∀b,gK B w b→(∀o,w.cell? ⟨b,o,none⟩=w.cell? ⟨b,o,none⟩)∧gK B' w b:=fun b hb=>⟨fun _=>rfl,Nat.le_trans h hb.1,hb.2⟩
section
variable {B B' g q:Nat} {w w':World} {t:Tr} {y:Ex}
theorem Tr.at_.grown (h:t.at_ w (gK B w) y)(hg:w.grownBy w' (some g))(hB:g < B):t.at_ w' (gK B w') y:=Tr.at_.keep (dZ hg hB) t y h
theorem Tr.at_.later (h:t.at_ w (gK B w) y)(hb:Below w.heap.size w w'):t.at_ w' (gK B w') y:=Tr.at_.keep (fC hb) t y h
theorem Tr.at_.set (h:t.at_ w (gK B w) y)(hq:q < B)(i:Nat)(u:Value):t.at_ (w.setCell ⟨q,i,none⟩ u) (gK B (w.setCell ⟨q,i,none⟩ u)) y:=Tr.at_.keep (kN hq i u) t y h
theorem Tr.at_.more (h:t.at_ w (gK B w) y)(hB:B'≤B):t.at_ w (gK B' w) y:=Tr.at_.keep (eY hB) t y h
end
section
variable {α:Type} {E:El α} {B B' g q:Nat} {w w':World} {A:Option Addr} {n:Nat} {l:List α}
theorem El.lies.more (h:E.lies w (gK B w) A n l)(hB:B'≤B):E.lies w (gK B' w) A n l:=h.keep (eY hB)
end
def Bx (B q:Nat)(w:World):Nat→Prop:=fun b=>B≤b∧b < w.heap.size∧b≠q
section
variable {B B' g q:Nat} {w w':World} {t:Tr} {y:Ex}
theorem eH (h:w.grownBy w' (some g))(hg:g < B):∀b,Bx B q w b→(∀o,w'.cell? ⟨b,o,none⟩=w.cell? ⟨b,o,none⟩)∧Bx B q w' b:=fun b hb=>
 ⟨cell_of_heap (h.block b hb.2.1 (fun e=>by injection e with e;have:=hb.1;omega)),hb.1,Nat.lt_of_lt_of_le hb.2.1 h.size,hb.2.2⟩
theorem eI (h:Below w.heap.size w w'):∀b,Bx B q w b→(∀o,w'.cell? ⟨b,o,none⟩=w.cell? ⟨b,o,none⟩)∧Bx B q w' b:=fun b hb=>
 ⟨cell_of_heap (h.block b hb.2.1),hb.1,Nat.lt_of_lt_of_le hb.2.1 h.size,hb.2.2⟩
theorem BH (i:Nat)(u:Value):∀b,Bx B q w b→(∀o,(w.setCell ⟨q,i,none⟩ u).cell? ⟨b,o,none⟩=w.cell? ⟨b,o,none⟩)∧Bx B q (w.setCell ⟨q,i,none⟩ u) b:=fun b hb=>
 ⟨cell_of_heap (Below.heap_setCell w ⟨q,i,none⟩ u b (fun e=>hb.2.2 e)),hb.1,by simpa [World.setCell] using hb.2.1,hb.2.2⟩
theorem Gp {p:Nat}(hp:p < B)(i:Nat)(u:Value):∀b,Bx B q w b→(∀o,(w.setCell ⟨p,i,none⟩ u).cell? ⟨b,o,none⟩=w.cell? ⟨b,o,none⟩)∧Bx B q (w.setCell ⟨p,i,none⟩ u) b:=fun b hb=>
 ⟨cell_of_heap (Below.heap_setCell w ⟨p,i,none⟩ u b (by have:=hb.1;simp;omega)),hb.1,by simpa [World.setCell] using hb.2.1,hb.2.2⟩
theorem lH (hB:B'≤B):∀b,Bx B q w b→(∀o,w.cell? ⟨b,o,none⟩=w.cell? ⟨b,o,none⟩)∧gK B' w b:=fun b hb=>⟨fun _=>rfl,Nat.le_trans hB hb.1,hb.2.1⟩
theorem rB (o:Obj)(hB:B'≤B):∀b,gK B w b→(∀i,(w.alloc o).cell? ⟨b,i,none⟩=w.cell? ⟨b,i,none⟩)∧Bx B' w.heap.size (w.alloc o) b:=fun b hb=>
 ⟨cell_of_heap (Below.heap_alloc w o b hb.2),Nat.le_trans hB hb.1,by have:=hb.2;simp;omega,by have:=hb.2;omega⟩
theorem Ty (hq:q < B)(hB:B'≤B):∀b,gK B w b→(∀i,w.cell? ⟨b,i,none⟩=w.cell? ⟨b,i,none⟩)∧Bx B' q w b:=fun b hb=>
 ⟨fun _=>rfl,Nat.le_trans hB hb.1,hb.2,by have:=hb.1;omega⟩
end
theorem BI {β:Type} {f:β→List Value} {size:Nat}(hf:∀x,(f x).length=size) {w:World} {S:Nat→Prop} {G:Nat} {T:TypeId} {ys:List β}(h:ag w G T (ys.flatMap f).toArray)(hS:S G):RL f size w S (some ⟨G,0,none⟩) ys:=by refine .inr ⟨G,0,rfl,hS,fun i y j u hy hu=>?_⟩;have:=ud hf ys i y hy j u hu;have hc:=h.cell (i*size+j);rw[Nat.zero_add,hc];simpa using this
theorem ku (y:Ex):(cW y).length=7:=rfl
def jk:Val:=⟨0,0,⟨#[]⟩⟩
def xN (op:Int)(G n:Nat):Ex:=⟨op,jk,⟨#[]⟩,0,some ⟨G,0,none⟩,n,n⟩
theorem BJ {w:World} {S:Nat→Prop} {G:Nat} {T:TypeId} {x:Tr} {y:Ex}(op:Int)(h:ag w G T (cW y).toArray)(hS:S G)(hx:x.at_ w S y):(gZ op [x]).at_ w S (xN op G 1):=by unfold gZ Tr.at_;exact⟨rfl,rfl,rfl,rfl,rfl,[y],BI ku (by simpa using h) hS,Tr.sY hx⟩
theorem NP {w:World} {S:Nat→Prop} {G:Nat} {T:TypeId} {x x2:Tr} {y y2:Ex}(op:Int)(h:ag w G T (cW y++cW y2).toArray)(hS:S G)(hx:x.at_ w S y)(hx2:x2.at_ w S y2):(gZ op [x,x2]).at_ w S (xN op G 2):=by unfold gZ Tr.at_;exact⟨rfl,rfl,rfl,rfl,rfl,[y,y2],BI ku (by simpa using h) hS,Tr.IM hx hx2⟩
theorem xO (w:World)(S:Nat→Prop)(v:Val):(iH v).at_ w S ⟨1,v,⟨#[]⟩,0,none,0,0⟩:=by unfold iH Tr.at_;exact⟨rfl,rfl,rfl,rfl,rfl,[],.inl rfl,Tr.all_nil⟩
theorem Vt (w:World)(S:Nat→Prop)(n:ByteArray):(eF n).at_ w S ⟨2,jk,n,0,none,0,0⟩:=by unfold eF Tr.at_;exact⟨rfl,rfl,rfl,rfl,rfl,[],.inl rfl,Tr.all_nil⟩
theorem Gq (w:World)(S:Nat→Prop)(op:Int):(gZ op []).at_ w S ⟨op,jk,⟨#[]⟩,0,none,0,0⟩:=by unfold gZ Tr.at_;exact⟨rfl,rfl,rfl,rfl,rfl,[],.inl rfl,Tr.all_nil⟩
inductive aH where
 | good (l:fN)
 | bad (n:Nat)
def aH.left:aH→Nat
 | .good l=>l.length
 | .bad n=>n
def aH.dR:aH→Bool
 | .good _=>true
 | .bad _=>false
def aH.words:aH→fN
 | .good l=>l
 | .bad _=> []
def af {α:Type}(p:Ps α):aH→aH
 | .bad n=> .bad n
 | .good l=>match p l with
   | .ok (_,r)=> .good r
   | .error n=> .bad n
def au {α:Type}(p:Ps α):aH→α→Prop
 | .bad _,_=>True
 | .good l,x=>match p l with
   | .ok (y,_)=>x=y
   | .error _=>True
theorem az {α β:Type} {p:Ps α} {f:α→Ps β} {σ:aH} {x:α}(h:au p σ x):af (p >>= f) σ=af (f x) (af p σ):=by
 match σ with
 | .bad n=>rfl
 | .good l=>
   simp only[af,au,ep] at h ⊢;cases e:p l with
   | error n=>rfl
   | ok y=>obtain⟨y,r⟩:=y;rw[e] at h;simp only at h;subst h;rfl
theorem aj {α β:Type} {p:Ps α} {f:α→Ps β} {σ:aH} {x:α} {z:β}(h:au p σ x)(k:au (f x) (af p σ) z):au (p >>= f) σ z:=by
 match σ with
 | .bad n=>trivial
 | .good l=>
   simp only[af,au,ep] at h k ⊢;cases e:p l with
   | error n=>trivial
   | ok y=>obtain⟨y,r⟩:=y;rw[e] at h k;simp only at h k ⊢;subst h;exact k
theorem bz {α:Type}(x:α)(σ:aH):af (pure x:Ps α) σ=σ:=by cases σ <;> rfl
theorem aW {α:Type}(x:α)(σ:aH):au (pure x:Ps α) σ x:=by cases σ <;> trivial
theorem ue {α:Type}(p:Ps α)(n:Nat)(x:α):au p (.bad n) x:=trivial
theorem DM {α:Type} {p:Ps α} {l:fN} {n:Nat}(h:p l=.error n):af p (.good l)=.bad n:=by simp only[af,h]
theorem BK {α:Type} {p:Ps α} {l r:fN} {x:α}(h:p l=.ok (x,r)):af p (.good l)=.good r:=by simp only[af,h]
theorem NQ {α:Type} {p:Ps α} {l r:fN} {x:α}(h:p l=.ok (x,r)):au p (.good l) x:=by simp only[au,h]
def aH.head (s:List UInt8)(σ:aH):Bool:=bV s σ.words
theorem aI (s:List UInt8)(σ:aH):au (may s) σ (σ.head s):=by
 match σ with
 | .bad n=>trivial
 | .good l=>
   simp only[au,may,aH.head,aH.words];cases e:bV s l
   ·rfl
   ·rfl
theorem DN (s:List UInt8)(σ:aH):af (may s) σ=if σ.head s then .good σ.words.tail else σ:=by
 match σ with
 | .bad n=>rfl
 | .good l=>
   simp only[af,may,aH.head,aH.words];by_cases e:bV s l=true
   ·simp only[e,if_true]
   ·simp only[e];rfl
theorem Ai (s:List UInt8)(σ:aH):af (must s) σ=if σ.head s then .good σ.words.tail else .bad σ.left:=by
 match σ with
 | .bad n=>rfl
 | .good l=>
   simp only[af,must,aH.head,aH.words,aH.left];by_cases e:bV s l=true
   ·simp only[e,if_true]
   ·simp only[e];rfl
theorem bM (p:Ps Unit)(σ:aH):au p σ ():=by
 match σ with
 | .bad n=>trivial
 | .good l=>simp only[au];split <;> trivial
def aH.of (W:fN):aH→Prop
 | .good l=>l <:+ W∧gC l
 | .bad n=>0 < n∧n≤W.length
theorem aH.G3 {α:Type} {p:Ps α}(hp:cg p) {W:fN} {σ:aH}(h:σ.of W):(af p σ).of W:=by
 match σ with
 | .bad n=>exact h
 | .good l=>
   obtain⟨h1,h2⟩:=h;cases e:p l with
   | error n=>rw[DM e];obtain⟨k1,k2⟩:=hp.err e;exact⟨k2 h2,Nat.le_trans k1 h1.length_le⟩
   | ok y=>obtain⟨x,r⟩:=y;rw[BK e];obtain⟨k1,k2⟩:=hp.ok e;exact⟨k1.trans h1,k2 h2⟩
theorem aH.Gr {W:fN} {σ:aH}(h:σ.of W):0 < σ.left∧σ.left≤W.length:=by
 match σ with
 | .bad n=>exact h
 | .good l=>exact⟨h.2.pos,h.1.length_le⟩
theorem aH.of_next {W l:fN}(h:(aH.good l).of W):∃t r,l=t::r∧W[W.length - l.length]?=some t:=by
 obtain⟨⟨b,hb⟩,h2⟩:=h
 match l,h2.pos with
 | t::r,_=>refine⟨t,r,rfl,?_⟩;rw[← hb,List.length_append,Nat.add_sub_cancel,List.getElem?_append_right (Nat.le_refl _),Nat.sub_self];rfl
theorem aH.bs {α:Type} {p:Ps α}(hp:cg p)(σ:aH):(af p σ).left≤σ.left:=by
 match σ with
 | .bad n=>exact Nat.le_refl _
 | .good l=>
   cases e:p l with
   | error n=>rw[DM e];exact(hp.err e).1
   | ok y=>obtain⟨x,r⟩:=y;rw[BK e];exact hp.len e
theorem lI:∀ks,ix ks []=none
 | []=>rfl
 |(s,o)::ks=>by simp only[ix,bV];exact lI ks
theorem xP {below:Ps Tr}(hb:cg below)(lv:Nat):∀(f g:Nat) (x:Tr) (l:fN),l.length≤f→l.length≤g→jg below lv f x l=jg below lv g x l
 | 0,0,x,l,_,_=>rfl
 | 0,g+1,x,l,h,_=>by have:l=[]:=List.eq_nil_of_length_eq_zero (by omega);subst this;simp only[jg,lI];rfl
 | f+1,0,x,l,_,h=>by have:l=[]:=List.eq_nil_of_length_eq_zero (by omega);subst this;simp only[jg,lI];rfl
 | f+1,g+1,x,l,hf,hg=>by
   simp only[jg];cases e:ix (opsL lv) l with
   | none=>rfl
   | some o=>
     obtain⟨s,_,hs⟩:=gS e;have ht:=head_tail hs;simp only[ep];cases e2:below l.tail with
     | error n=>rfl
     | ok y=>obtain⟨y,r⟩:=y;have:=hb.len e2;exact xP hb lv f g _ r (by omega) (by omega)
def qI (below:Ps Tr)(lv:Nat)(x:Tr):Ps Tr:=fun l=>jg below lv l.length x l
theorem IP (below:Ps Tr)(lv:Nat):mb below lv=(do let x ← below;qI below lv x):=rfl
theorem xQ {below:Ps Tr}(hb:cg below)(lv:Nat)(x:Tr)(l:fN):qI below lv x l=match ix (opsL lv) l with
  | none=> .ok (x,l)
  | some o=>(do let y ← below;qI below lv (gZ o [x,y])) l.tail:=by
 match l with
 | []=>simp only[lI];rfl
 | t::r=>
   show jg below lv (r.length+1) x (t::r)=_;simp only[jg];cases e:ix (opsL lv) (t::r)with
   | none=>rfl
   | some o=>
     simp only[ep,List.tail_cons];cases e2:below r with
     | error n=>rfl
     | ok y=>obtain⟨y,r2⟩:=y;have:=hb.len e2;exact xP hb lv _ _ _ r2 (by omega) (Nat.le_refl _)
theorem xR {α:Type} {el:Ps α}(hb:cg el):∀(f g:Nat) (acc:List α) (l:fN),l.length≤f→l.length≤g→lC el f acc l=lC el g acc l
 | 0,0,x,l,_,_=>rfl
 | 0,g+1,x,l,h,_=>by have:l=[]:=List.eq_nil_of_length_eq_zero (by omega);subst this;simp[lC,bV];rfl
 | f+1,0,x,l,_,h=>by have:l=[]:=List.eq_nil_of_length_eq_zero (by omega);subst this;simp[lC,bV];rfl
 | f+1,g+1,x,l,hf,hg=>by
   simp only[lC];cases e:bV aX l
   ·rfl
   ·have ht:=head_tail e;simp only[if_true,ep];cases e2:el l.tail with
    | error n=>rfl
    | ok y=>obtain⟨y,r⟩:=y;have:=hb.len e2;exact xR hb f g _ r (by omega) (by omega)
def DO {α:Type}(el:Ps α)(acc:List α):Ps (List α):=fun l=>lC el l.length acc l
theorem IQ {α:Type}(el:Ps α):ic el=(do let x ← el;DO el [x]):=rfl
theorem sZ {α:Type} {el:Ps α}(hb:cg el)(acc:List α):DO el acc=(do
  if ← may aX then
   let y ← el
   DO el (acc++ [y])
  else return acc):=by
 funext l;rw[xK]
 match l with
 | []=>rfl
 | t::r=>
   show lC el (r.length+1) acc (t::r)=_;simp only[lC];cases e:bV aX (t::r)
   ·rfl
   ·simp only[if_true,ep,List.tail_cons];cases e2:el r with
    | error n=>rfl
    | ok y=>obtain⟨y,r2⟩:=y;have:=hb.len e2;exact xR hb _ _ _ r2 (by omega) (Nat.le_refl _)
def aH.op (lv:Nat)(σ:aH):Option Int:=ix (opsL lv) σ.words
theorem Aj {below:Ps Tr}(hb:cg below)(lv:Nat)(x:Tr)(σ:aH):af (qI below lv x) σ=match σ.op lv with
  | none=>σ
  | some o=>af (do let y ← below;qI below lv (gZ o [x,y])) (.good σ.words.tail):=by
 match σ with
 | .bad n=>simp only[aH.op,aH.words,lI];rfl
 | .good l=>simp only[af,aH.op,aH.words];rw[xQ hb];cases e:ix (opsL lv) l <;> rfl
theorem vx {below:Ps Tr}(hb:cg below)(lv:Nat)(x:Tr)(σ:aH)(h:σ.op lv=none):au (qI below lv x) σ x:=by
 match σ with
 | .bad n=>trivial
 | .good l=>have:ix (opsL lv) l=none:=h;simp only[au,xQ hb,this]
theorem vy {below:Ps Tr}(hb:cg below)(lv:Nat)(x z:Tr)(o:Int)(σ:aH)(h:σ.op lv=some o)(k:au (do let y ← below;qI below lv (gZ o [x,y])) (.good σ.words.tail) z):au (qI below lv x) σ z:=by
 match σ with
 | .bad n=>trivial
 | .good l=>have h:ix (opsL lv) l=some o:=h;simp only[au,xQ hb,h];exact k
end Go.Proofs.YtfmbcoeallmnnaaGreatDoor.R
