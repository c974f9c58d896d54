/- Parts of the proof. -/
import Derived.BigQuiet
import Derived.Test.YtndgjggokjickaaGreatDoorRows
import Derived.Handy
import Derived.WalkLawsBesides
import Derived.Lib.Hide
import Derived.Deep.AppendLies
import Derived.Deep.RegionWith
import Derived.Laws.EntriesVeiled
import Derived.Test.YtndgjggokjickaaGreatDoorXG0
namespace Go.Proofs.YtndgjggokjickaaGreatDoor
open List
variable{p:Prop}
set_option maxHeartbeats 90000000
set_option maxRecDepth 100000
open Go.RowKit
def tmpsOf (o:Oper):List Tmp:=o.op.operands.toList.filterMap λ | .tmp t=>some t | _=>none
def gT (t:Tmp):List Oper->Nat->Option Nat
 | [],_=>none
 | o::l,i=>if o.dst=some t then some i else gT t l (i+1)
def iJ (o:Oper)(j:Nat):Bool:=o.after.toList.any λ e=>Region.binds .any e && Nat.beq e.on j
def df (l:List Oper)(o:Oper)(t:Tmp):Option Nat:=
 match gT t l 0 with
 | some j=>if iJ o j then some j else none
 | none=>none
def ft (o:Oper):List Nat:=(o.after.toList.filter (Region.binds .any ·)).map (·.on)
def lN (l:List Oper)(N:Nat)(i:Nat)(o:Oper):Bool:=
 (ft o).all (λ j=>decide (j < i))&&
 (match o.dst with | some d=>decide (d < N)&&(gT d l 0==some i)| none=>true)&&
 (tmpsOf o).all (λ t=>match gT t l 0 with | some j=>iJ o j ||(match l[j]? with | some oj=>iJ oj i | none=>false)| none=>true)&&
 (match o.guard with | none=>true | some (j,_)=>iJ o j &&(match l[j]? with | some oj=>oj.dst.isSome | none=>false))
def dP (l:List Oper)(N:Nat):List Oper->Nat->Bool
 | [],_=>true
 | o::rest,i=>lN l N i o && dP l N rest (i+1)
def Bd (l:List Oper):Nat->List Nat->Bool
 | 0,_=>true
 | k+1,S=>S.contains k && Bd l k (S++(match l[k]? with | some o=>ft o | none=> []))
def eU (l:List Oper):List Oper->Nat->Bool
 | [],_=>true
 | o::rest,i=>(ft o).all (λ j=>decide (j < i))&& Bd l i (ft o)&& eU l rest (i+1)
def xq (P:Program)(o:Oper)(ρ:Operand->Value)(w:rQ)(T:Value->rQ->Prop):Prop:=
 match (execOp ρ o).run P w with
 | .ok (.value v) w'=>T v w'
 | .ok .skip w'=>T undef w'
 | .ok (.enter f args) w'=>Calls P f args w' λ e w''=>∃v,e=.returned v/\T v w''
 | _=>False
structure oG (ρ:Operand->Value):Prop where
 const:∀v,ρ (.const v)=v
 func:∀f,ρ (.func f)=.func (.func f) #[] #[]
 global:∀g,ρ (.global g)=aw g
theorem mJ (a:Act):oG a.eval:=⟨λ _=>rfl,λ _=>rfl,λ _=>rfl⟩
def lO (l:List Oper)(V:Nat->rQ->Value->Prop)(ρ0 ρ:Operand->Value)(w:rQ)(o:Oper):List Tmp->Prop
 | []=>True
 | t::ts=>(match df l o t with | some j=>V j w (ρ (.tmp t))| none=>ρ (.tmp t)=ρ0 (.tmp t))/\lO l V ρ0 ρ w o ts
def Yt (P:Program)(l:List Oper)(R:rQ->rQ->Prop)(V:Nat->rQ->Value->Prop)(a0:Act)(w0:rQ)(i:Nat)(o:Oper):Prop:=
 ∀ρ w,oG ρ->R w0 w->lO l V a0.eval ρ w o (tmpsOf o)->
  match o.guard with
  | none=>xq P o ρ w λ v w'=>R w w'/\V i w' v
  | some (j,want)=>match (l[j]?).bind (·.dst)with
    | some d=>V j w (ρ (.tmp d))->(ρ (.tmp d)=.bool want->xq P o ρ w λ v w'=>R w w'/\V i w' v)/\(ρ (.tmp d)≠ .bool want->V i w undef)
    | none=>False
def Steps (P:Program)(l:List Oper)(R:rQ->rQ->Prop)(V:Nat->rQ->Value->Prop)(a0:Act)(w0:rQ):List Oper->Nat->Prop
 | [],_=>True
 | o::rest,i=>Yt P l R V a0 w0 i o/\Steps P l R V a0 w0 rest (i+1)
def bA (V:Nat->rQ->Value->Prop)(K:Act->rQ->Prop):List Oper->Nat->Act->rQ->Prop
 | [],_,a,w=>K a w
 | o::rest,i,a,w=>match o.dst with
   | some d=>∀v,V i w v->bA V K rest (i+1) (a.put (some d) v) w
   | none=>bA V K rest (i+1) a w
variable{P:Program}{L:List Oper}{R:rQ->rQ->Prop}{V:Nat->rQ->Value->Prop}{a0:Act}{w0:rQ}
theorem Kr:∀ {l:List Oper} {k:Nat},Steps P L R V a0 w0 l k->∀i o,l[i]?=some o->Yt P L R V a0 w0 (k+i) o
 | [],_,_,i,o,h=>by simp at h
 | x::l,k,hs,0,o,h=>by simp at h;subst h;exact hs.1
 | x::l,k,hs,i+1,o,h=>by have:=Kr hs.2 i o Tai;rwa [show k+1+i=k+(i+1) by omega] at this
variable{N:Nat}
theorem cI:∀ {l:List Oper} {k:Nat},dP L N l k=true->∀i o,l[i]?=some o->lN L N (k+i) o=true
 | [],_,_,i,o,h=>by simp at h
 | x::l,k,hs,0,o,h=>by simp at h;subst h;simp only[dP,Bool.and_eq_true] at hs;exact hs.1
 | x::l,k,hs,i+1,o,h=>by simp only[dP,Bool.and_eq_true] at hs;have:=cI hs.2 i o Tai;rwa [show k+1+i=k+(i+1) by omega] at this
theorem iU:∀ {l:List Oper} {k:Nat},eU L l k=true->∀i o,l[i]?=some o->(ft o).all (λ j=>decide (j < k+i))=true/\Bd L (k+i) (ft o)=true
 | [],_,_,i,o,h=>by simp at h
 | x::l,k,hs,0,o,h=>by simp at h;subst h;simp only[eU,Bool.and_eq_true] at hs;exact hs.1
 | x::l,k,hs,i+1,o,h=>by simp only[eU,Bool.and_eq_true] at hs;have:=iU hs.2 i o Tai;rwa [show k+1+i=k+(i+1) by omega] at this
variable{o:Oper}{j:Nat}
theorem jG:j∈ft o↔∃e∈o.after,Region.binds .any e=true/\e.on=j:=by
 unfold ft;simp only[mem_map,mem_filter,Array.mem_toList_iff];constructor
 ·rintro⟨e,⟨h1,h2⟩,h3⟩;exact⟨e,h1,h2,h3⟩
 ·rintro⟨e,h1,h2,h3⟩;exact⟨e,⟨h1,h2⟩,h3⟩
theorem cO:iJ o j=true↔j∈ft o:=by rw[jG];unfold iJ;simp only[any_eq_true,Bool.and_eq_true,Nat.beq_eq,Array.mem_toList_iff]
theorem iV(done:Nat->Prop)(hdc:∀i o,L[i]?=some o->done i->∀j∈ft o,done j):
  ∀(k:Nat) (S:List Nat),Bd L k S=true->(∀j∈S,done j)->∀j,j < k->done j
 | 0,_,_,_,j,hj=>absurd hj TD
 | k+1,S,hc,hS,j,hj=>by
   simp only[Bd,Bool.and_eq_true] at hc;have hk:done k:=hS k (by simpa using hc.1);by_cases e:j=k
   ·subst e;exact hk
   ·refine iV done hdc k _ hc.2 ?_ j TD;intro i hi;rcases List.mem_append.1 hi with h | h
    ·exact hS i h
    ·split at h
     ·rename_i o ho;exact hdc k o ho hk i h
     ·cases h
variable{t:Tmp}
theorem oH:∀ {l:List Oper} {k i:Nat} {o:Oper},l[i]?=some o->o.dst=some t->(∃j,gT t l k=some j)
 | [],_,i,o,h,_=>by simp at h
 | x::l,k,0,o,h,hd=>by simp at h;subst h;exact⟨k,by simp[gT,hd]⟩
 | x::l,k,i+1,o,h,hd=>by
   by_cases hx:x.dst=some t
   ·exact⟨k,by simp[gT,hx]⟩
   ·obtain⟨j,hj⟩:=oH (l:=l) (k:=k+1) (i:=i) (o:=o) Tai hd;exact⟨j,by simp[gT,hx,hj]⟩
theorem qC:∀ {l:List Oper} {k j:Nat},gT t l k=some j->∃i o,j=k+i/\l[i]?=some o/\o.dst=some t
 | [],_,_,h=>by simp[gT] at h
 | x::l,k,j,h=>by
   unfold gT at h;split at h
   ·rename_i hx;injection h with h;subst h;exact⟨0,x,rfl,rfl,hx⟩
   ·obtain⟨i,o,e,h1,h2⟩:=qC h;exact⟨i+1,o,by omega,by simpa using h1,h2⟩
structure Inv (l:List Oper) (V:Nat->rQ->Value->Prop) (R:rQ->rQ->Prop) (a0:Act) (w0:rQ) (m:Nat) (listed:Array Bool) (a:Act) (w:rQ):Prop where
 r:R w0 w
 defers:a.defers=a0.defers
 size:a.tmps.size=a0.tmps.size
 old:∀t,(∀i o,l[i]?=some o->o.dst=some t->listed.getD i false=true->False)->a.tmps[t]?=a0.tmps[t]?
 new:∀i o d,l[i]?=some o->listed.getD i false=true->o.dst=some d->V i w (a.eval (.tmp d))
 closed:∀i o,l[i]?=some o->listed.getD i false=true->∀j∈ft o,listed.getD j false=true
 len:listed.size=m
 tail:∀i,l.length<=i->listed.getD i false=false
def bu (l:Nat)(listed:Array Bool):Nat:=((List.range l).filter λ i=> !listed.getD i false).length
theorem eO (listed:Array Bool)(i j:Nat)(hi:i < listed.size):(listed.setIfInBounds i true).getD j false=if j=i then true else listed.getD j false:=by
 by_cases h:j=i
 ·subst h;simp[hi]
 ·simp only[Array.getD_eq_getD_getElem?,if_neg h];rw[Array.getElem?_setIfInBounds_ne (λ e=>h e.symm)]
variable{q:Nat->Bool}{i:Nat}
theorem yI{p:Nat->Bool} :∀ {L:List Nat},L.Nodup->i∈L->p i=true->q i=false->(∀j∈L,j≠i->q j=p j)->(L.filter q).length+1=(L.filter p).length
 | [],_,h,_,_,_=>by cases h
 | x::L,hn,hm,hp,hq,hpq=>by
   have hn':=(List.nodup_cons.1 hn);by_cases hx:x=i
   ·subst hx;have he:L.filter q=L.filter p:=filter_congr λ j hj=>hpq j (mem_cons_of_mem _ hj) (λ e=>hn'.1 (e▸hj))
    rw[filter_cons,filter_cons,hp,hq,he];simp
   ·have hi:i∈L:=by
     rcases List.mem_cons.1 hm with h | h
     ·exact absurd h.symm hx
     ·exact h
    have ih:=yI hn'.2 hi hp hq (λ j hj=>hpq j (mem_cons_of_mem _ hj));have hxq:=hpq x (mem_cons_self) hx;rw[filter_cons,filter_cons,hxq];split
    ·simp only[length_cons];omega
    ·exact ih
theorem lq (l:Nat)(listed:Array Bool)(i:Nat)(hi:i < listed.size)(hl:i < l)(h:listed.getD i false=false):bu l (listed.setIfInBounds i true)+1=bu l listed:=by unfold bu;refine yI (i:=i) nodup_range (List.mem_range.2 hl) TaN (by rw[eO _ _ _ hi];simp) ?_;intro j _ hj;rw[eO _ _ _ hi,if_neg hj]
variable{listed:Array Bool}
theorem eh{l:Nat} (h:bu l listed=0):∀i,i < l->listed.getD i false=true:=by
 intro i hi;unfold bu at h;have:=List.length_eq_zero_iff.1 h
 cases hc:listed.getD i false with
 | true=>rfl
 | false=>
   have hm:i∈(List.range l).filter λ i=> !listed.getD i false:=List.mem_filter.2 ⟨List.mem_range.2 hi,by simp[hc]⟩
   rw[this] at hm;cases hm
theorem least{p:Nat->Prop}:∀n,p n->∃i,p i/\∀j,j < i->¬p j:=by
 intro n hn
 induction n using Nat.strongRecOn with
 | ind n ih=>
   by_cases h:∃j,j < n/\p j
   ·obtain⟨j,hj,hp⟩:=h;exact ih j hj hp
   ·exact⟨n,hn,λ j hj hp=>h ⟨j,hj,hp⟩⟩
theorem lr{l:Nat} (h:bu l listed≠0):∃i,i < l/\listed.getD i false=false:=by
 unfold bu at h
 match hf:(List.range l).filter λ i=> !listed.getD i false with
 | []=>rw[hf] at h;exact absurd rfl h
 | i::_=>
   have hm:i∈(List.range l).filter λ i=> !listed.getD i false:=by rw[hf];exact mem_cons_self
   have:=List.mem_filter.1 hm;exact⟨i,List.mem_range.1 this.1,by simpa using this.2⟩
variable{T:Value->rQ->Prop}{K:Act->rQ->Prop}{Q:yD}
theorem jH{a:Act} {w:rQ}   
  (h:xq P o a.eval w T) (hK:∀v w',T v w'->K (a.put o.dst v) w'):o.wp P a w K Q:=by
 unfold xq at h;unfold Oper.wp;generalize (execOp a.eval o).run P w=r at*
 cases r with
 | ok n w'=>
   cases n <;> simp only[Oper.upon] <;> first | exact hK _ _ h | exact h.elim | skip
   exact h.mono λ e w'' ⟨v,he,ht⟩=>by subst he;exact hK _ _ ht
 | halt x w'=>exact h.elim
theorem mK{a:Act} (h:a.tmps[t]?=a0.tmps[t]?):a.eval (.tmp t)=a0.eval (.tmp t):=by simp[Act.eval,Array.getD_eq_getD_getElem?,h]
section
variable {P:Program} {l zs:List Oper} {Q:yD} {R:rQ->rQ->Prop} {V:Nat->rQ->Value->Prop} {a0:Act} {w0:rQ}
theorem nR {i:Nat} {o:Oper}(h:l[i]?=some o):(l++zs).toArray[i]?=some o:=by
 have:i < l.length:=by
  rcases Nat.lt_or_ge i l.length with h' | h'
  ·exact h'
  ·rw[getElem?_eq_none h'] at h;cases h
 simp[getElem?_append_left this,h]
theorem Inv.reads (aZ:dP l a0.tmps.size l 0=true) {listed:Array Bool} {a:Act} {w:rQ} {m:Nat}(I:Inv l V R a0 w0 m listed a w) {i:Nat} {o:Oper}(ho:l[i]?=some o)
  (hun:listed.getD i false=false) (hall:∀j∈ft o,listed.getD j false=true):∀ts,(∀t∈ts,t∈tmpsOf o)->lO l V a0.eval a.eval w o ts
 | [],_=>trivial
 | t::ts,alN=>by
   refine⟨?_,Inv.reads aZ I ho hun hall ts (λ t ht=>alN t (mem_cons_of_mem _ ht))⟩;have Oq:=cI aZ i o ho;rw[Nat.zero_add] at Oq;simp only[lN,Bool.and_eq_true] at Oq;have ht:=List.all_eq_true.1 Oq.1.2 t (alN t mem_cons_self);unfold df;cases hs:gT t l 0 with
   | none=>refine mK (I.old t ?_);intro j oj hj hd _;obtain⟨k,hk⟩:=oH (k:=0) hj hd;rw[hs] at hk;cases hk
   | some j=>
     simp only[hs] at ht;obtain⟨j',oj,e,hj,hd⟩:=qC hs;rw[Nat.zero_add] at e;subst e;by_cases he:iJ o j=true
     ·simp only[he,if_true];exact I.new j oj t hj (hall j (cO.1 he)) hd
     ·simp only[he];rw[Bool.not_eq_true] at he;simp only[he,Bool.false_or,hj] at ht;refine mK (I.old t ?_);intro k ok hk hdk hlk;have Yu:=cI aZ k ok hk;simp only[lN,hdk,Bool.and_eq_true,Nat.zero_add,beq_iff_eq] at Yu;have hkj:k=j:=by have:=Yu.1.1.2.2;rw[hs] at this;injection this with this;exact this.symm
      subst hkj;rw[hj] at hk;injection hk with hk;subst hk
      have:=I.closed k oj hj hlk i (cO.1 ht);rw[hun] at this;cases this
theorem Inv.step (aZ:dP l a0.tmps.size l 0=true)(hV:∀i w w' v,V i w v->R w w'->V i w' v)(hT:∀a b c,R a b->R b c->R a c) {m:Nat} {listed:Array Bool} {a:Act} {w w':rQ} {v:Value}(I:Inv l V R a0 w0 m listed a w) {i:Nat} {o:Oper}(ho:l[i]?=some o)(Sh:i < m)
  (hun:listed.getD i false=false) (hall:∀j∈ft o,listed.getD j false=true) (hr:R w w') (hv:V i w' v):Inv l V R a0 w0 m (listed.setIfInBounds i true) (a.put o.dst v) w':=by
 have rW:i < listed.size:=by rw[I.len];exact Sh
 have Ks:i < l.length:=by
  rcases Nat.lt_or_ge i l.length with h' | h'
  ·exact h'
  ·rw[getElem?_eq_none h'] at ho;cases ho
 have jI:=cI aZ i o ho;rw[Nat.zero_add] at jI;refine⟨hT _ _ _ I.r hr,?_,?_,?_,?_,?_,by simp[I.len],?_⟩
 ·cases hd:o.dst <;> simp[Act.put,I.defers]
 ·cases hd:o.dst <;> simp[Act.put,I.size]
 ·intro t ht;have hto:o.dst≠some t:=λ e=>ht i o ho e (by rw[eO _ _ _ rW,if_pos rfl])
  have h1:(a.put o.dst v).tmps[t]?=a.tmps[t]?:=by
   cases hd:o.dst with
   | none=>rfl
   | some d=>
     have:d≠t:=λ e=>hto (by rw[hd,e])
     simp[Act.put,Array.getElem?_setIfInBounds_ne this]
  rw[h1];refine I.old t ?_;intro j oj hj hd hl;exact ht j oj hj hd (by rw[eO _ _ _ rW];split <;> simp_all)
 ·intro j oj d hj hl hd;by_cases XN:j=i
  ·subst XN;rw[hj] at ho;injection ho with ho;subst ho;simp only[lN,hd,Bool.and_eq_true,decide_eq_true_eq] at jI
   have:(a.put oj.dst v).eval (.tmp d)=v:=by
    have hb:d < a.tmps.size:=by rw[I.size];exact jI.1.1.2.1
    simp[hd,Act.put,Act.eval,hb]
   rw[this];exact hv
  ·have hl':listed.getD j false=true:=by rw[eO _ _ _ rW,if_neg XN] at hl;exact hl
   have hne:o.dst≠some d:=by intro e;have qD:=cI aZ j oj hj;simp only[lN,hd,Bool.and_eq_true,Nat.zero_add,beq_iff_eq] at qD;simp only[lN,e,Bool.and_eq_true,beq_iff_eq] at jI;rw[qD.1.1.2.2] at jI;have:=jI.1.1.2.2;injection this with this;exact XN this
   have h1:(a.put o.dst v).eval (.tmp d)=a.eval (.tmp d):=Act.eval_put λ d' vd e=>by injection e with e;subst e;exact hne vd
   rw[h1];exact hV _ _ _ _ (I.new j oj d hj hl' hd) hr
 ·intro j oj hj hl k hk;rw[eO _ _ _ rW];by_cases hki:k=i
  ·rw[if_pos hki]
  ·rw[if_neg hki];by_cases XN:j=i
   ·subst XN;rw[hj] at ho;injection ho with ho;subst ho;exact hall k hk
   ·rw[eO _ _ _ rW,if_neg XN] at hl;exact I.closed j oj hj hl k hk
 ·intro j hj;rw[eO _ _ _ rW,if_neg TD];exact I.tail j hj
def fill (f:Tmp->Value):List Oper->Act->Act
 | [],a=>a
 | o::rest,a=>fill f rest (match o.dst with | some d=>a.put (some d) (f d)| none=>a)
theorem ko (f:Tmp->Value):∀(l:List Oper) (a:Act),(fill f l a).defers=a.defers
 | [],_=>rfl
 | o::rest,a=>by rw[fill,ko f rest];cases o.dst <;> rfl
theorem nS (f:Tmp->Value):∀(l:List Oper) (a:Act),(fill f l a).tmps.size=a.tmps.size
 | [],_=>rfl
 | o::rest,a=>by rw[fill,nS f rest];cases o.dst <;> simp[Act.put]
theorem qE (f:Tmp->Value):∀(l:List Oper) (a:Act) (t:Nat),t < a.tmps.size->(fill f l a).tmps[t]?=if (∃o∈l,o.dst=some t)then some (f t)else a.tmps[t]?
 | [],_,_,_=>by simp[fill]
 | o::rest,a,t,ht=>by
   rw[fill,qE f rest _ t (by cases o.dst <;> simpa [Act.put] using ht)];by_cases h1:∃o'∈rest,o'.dst=some t
   ·rw[if_pos h1,if_pos (by obtain⟨o',h,e⟩:=h1;exact⟨o',mem_cons_of_mem _ h,e⟩)]
   ·rw[if_neg h1];by_cases h2:o.dst=some t
    ·rw[if_pos ⟨o,mem_cons_self,h2⟩,h2];simp[Act.put,ht]
    ·rw[if_neg (by rintro⟨o',h,e⟩;rcases List.mem_cons.1 h with rfl | h;exact h2 e;exact h1 ⟨o',h,e⟩)];cases hd:o.dst with
     | none=>rfl
     | some d=>simp[Act.put,Array.getElem?_setIfInBounds_ne (show d≠t from λ e=>h2 (by rw[hd,e]))]
theorem xr {K:Act->rQ->Prop} {w:rQ}(f:Tmp->Value):∀(L:List Oper) (k:Nat) (a:Act),(∀i o d,L[i]?=some o->o.dst=some d->V (k+i) w (f d))->bA V K L k a w->K (fill f L a) w
 | [],_,_,_,h=>h
 | o::rest,k,a,hv,h=>by
   rw[fill];have Kt:∀i o' d,rest[i]?=some o'->o'.dst=some d->V (k+1+i) w (f d):=λ i o' d h1 h2=>by have:=hv (i+1) o' d Ta5 h2;rwa [show k+(i+1)=k+1+i by omega] at this
   unfold bA at h;cases hd:o.dst with
   | none=>simp only[hd] at h;exact xr f rest (k+1) a Kt h
   | some d=>simp only[hd] at h;exact xr f rest (k+1) _ Kt (h _ (by have:=hv 0 o d rfl hd;simpa using this))
theorem qF {ops:Array Oper} {listed:Array Bool} {i:Nat} {o:Oper}(ho:ops[i]?=some o)(hu:listed.getD i true=false)(hall:∀j∈ft o,listed.getD j false=true):i∈Region.ready .any ops listed:=
 mem_ready.2 ⟨hu,o,ho,λ e he hb=>hall _ (jG.2 ⟨e,he,hb,rfl⟩)⟩
theorem eA {listed:Array Bool} {i:Nat}(h:i < listed.size):listed.getD i true=listed.getD i false:=by simp[h]
theorem qG {N:Nat}(aZ:dP l N l 0=true)(hz:eU (l++zs) zs l.length=true):∀(k:Nat) (rest:List Oper),zs.drop k=rest->∀(listed:Array Bool) (a:Act) (w:rQ),listed.size=(l++zs).length->
  (∀i,i <(l++zs).length->(listed.getD i false=true↔i < l.length+k))->wpList P (l++zs).toArray Q rest a w->wpAny P .any (l++zs).toArray Q rest.length listed a w
 | k,[],hk,listed,a,w,hs,hl,h=>by
   refine⟨?_,h⟩;have hlen:zs.length<=k:=List.drop_eq_nil_iff.1 hk;rw[eq_nil_iff_forall_not_mem];intro i hi;obtain⟨hu,o,ho,_⟩:=mem_ready.1 hi;have Ks:i <(l++zs).length:=by
    rcases Nat.lt_or_ge i (l++zs).length with h' | h'
    ·exact h'
    ·rw[Array.getElem?_eq_none (by simpa using h')] at ho;cases ho
   rw[eA TD] at hu;have:=(hl i Ks).2 (by simp at Ks;omega);rw[hu] at this;cases this
 | k,o::rest,hk,listed,a,w,hs,hl,h=>by
   have hkz:zs[k]?=some o:=by have:=congrArg (λ x=>x[0]?) hk;simpa using this
   have alP:k < zs.length:=by
    rcases Nat.lt_or_ge k zs.length with h' | h'
    ·exact h'
    ·rw[getElem?_eq_none h'] at hkz;cases hkz
   have Ku:(l++zs)[l.length+k]?=some o:=by rw[getElem?_append_right TD];simpa using hkz
   have ES:zs.drop (k+1)=rest:=by rw[<- tail_drop,hk];rfl
   have ht:=iU hz k o hkz;have alQ:∀j∈ft o,listed.getD j false=true:=λ j Lw=>by have:=of_decide_eq_true (List.all_eq_true.1 ht.1 j Lw);exact(hl j Tab).2 this
   have hun:listed.getD (l.length+k) true=false:=by
    rw[eA (by rw[hs];simp;omega)];cases hc:listed.getD (l.length+k) false with
    | false=>rfl
    | true=>exact absurd ((hl _ Tab).1 hc) TD
   have jh:l.length+k∈Region.ready .any (l++zs).toArray listed:=qF (by simpa using Ku) hun alQ;refine⟨(λ h0=>by rw[h0] at jh;cases jh),λ i hi=>?_⟩;obtain⟨hu,oj,hoi,hall⟩:=mem_ready.1 hi;have Ks:i <(l++zs).length:=by
    rcases Nat.lt_or_ge i (l++zs).length with h' | h'
    ·exact h'
    ·rw[Array.getElem?_eq_none (by simpa using h')] at hoi;cases hoi
   rw[eA TD] at hu;have aBD:l.length+k<=i:=by
    rcases Nat.lt_or_ge i (l.length+k)with h' | h'
    ·have:=(hl i Ks).2 h';rw[hu] at this;cases this
    ·exact h'
   have hik:i=l.length+k:=by
    rcases Nat.lt_or_ge (l.length+k) i with h' | h'
    ·exfalso;have hzj:zs[i - l.length]?=some oj:=by
      have:(l++zs)[i]?=some oj:=by simpa using hoi
      rw[getElem?_append_right TD] at this;exact this
     have Si:=iU hz (i - l.length) oj hzj;rw[show l.length+(i - l.length)=i by omega] at Si;have hc:=iV (L:=l++zs) (λ j=>j <(l++zs).length->listed.getD j false=true) (by
      intro j Kx Lw hdone e he hlt
      have alR:j <(l++zs).length:=by
       rcases Nat.lt_or_ge j (l++zs).length with h' | h'
       ·exact h'
       ·rw[getElem?_eq_none h'] at Lw;cases Lw
      have ve:=(hl j alR).1 (hdone alR)
      by_cases hjz:l.length<=j
      ·have KK:zs[j - l.length]?=some Kx:=by rw[getElem?_append_right TD] at Lw;exact Lw
       have:=of_decide_eq_true (List.all_eq_true.1 (iU hz (j - l.length) Kx KK).1 e he)
       exact(hl e hlt).2 TD
      ·have hj:l[j]?=some Kx:=by rw[getElem?_append_left TD] at Lw;exact Lw
       have qD:=cI aZ j Kx hj
       simp only[lN,Bool.and_eq_true,Nat.zero_add] at qD
       have:=of_decide_eq_true (List.all_eq_true.1 qD.1.1.1 e he)
       exact(hl e hlt).2 TD) i (ft oj) Si.2 (by
      intro j Lw hlt
      obtain⟨e,he,hb,rfl⟩:=jG.1 Lw
      exact hall e he hb) (l.length+k) h' Tab
     exact absurd ((hl _ Tab).1 hc) TD
    ·omega
   subst hik;have ho:(l++zs).toArray[l.length+k]?=some o:=by simpa using Ku
   have hw:wpOp P (l++zs).toArray Q (l.length+k) (wpList P (l++zs).toArray Q rest) a w:=by unfold wpOp;rw[ho];unfold wpList at h;exact h
   refine wpOp_mono (λ a' w' h'=>qG aZ hz (k+1) rest ES _ a' w' (by simp[hs]) ?_ h') hw;intro i hi;rw[eO _ _ _ (by rw[hs];simp;omega)];by_cases Yv:i=l.length+k
   ·rw[if_pos Yv];exact⟨λ _=>by omega,λ _=>rfl⟩
   ·rw[if_neg Yv,hl i hi];omega
theorem bh (n i:Nat):(Array.replicate n false).getD i false=false:=by simp only[Array.getD_eq_getD_getElem?,Array.getElem?_replicate];split <;> rfl
theorem Aw {a b:Act}(h1:a.tmps=b.tmps)(h2:a.defers=b.defers):a=b:=by cases a;cases b;simp_all
theorem zfE.Kbq(h:p:=by rw[<- ha] at hK;exact Zbh):p:=h
theorem zbO.Kan(h:p:=by open zfE in exact ZdH):p:=h
theorem Kv {N:Nat}(aZ:dP l N l 0=true)(hz:eU (l++zs) zs l.length=true)(hf:∀w,R w0 w->bA V (λ a w=>wpList P (l++zs).toArray Q zs a w) l 0 a0 w) {listed:Array Bool} {a:Act} {w:rQ}(I:Inv l V R a0 w0 (l++zs).length listed a w)
  (h0:bu l.length listed=0):wpAny P .any (l++zs).toArray Q zs.length listed a w:=by
 open zbO in exact ZaC
theorem zal.KW(h:p:=by
 have hst:=Kr hs i oj vg;rw[Nat.zero_add] at hst;have XP:=Inv.reads aZ I vg Bg fu (tmpsOf oj) (λ _ h=>h);have hstep:=hst a.eval w (mJ a) I.r XP;have Kw:∀v w',R w w'->V i w' v->wpAny P .any (l++zs).toArray Q fuel (listed.setIfInBounds i true) (a.put oj.dst v) w':=by intro v w' hr hv;refine ih _ _ _ (I.step aZ hV Be vg xt Bg fu hr hv) ?_;have:=lq l.length listed i Tbh rW Bg;omega
 unfold wpOp;rw[oI];show if Region.wanted oj (yielded (l++zs).toArray a.tmps)=true then _ else _
 cases hg:oj.guard with
 | none=>rw[if_pos (by simp[Region.wanted,hg])];simp only[hg] at hstep;exact .inl (jH hstep λ v w' h=>Kw v w' h.1 h.2)
 | some g=>
   obtain⟨k,want⟩:=g;simp only[hg] at hstep;have qD:=cI aZ i oj vg;simp only[lN,hg,Bool.and_eq_true,Nat.zero_add] at qD;have tH:listed.getD k false=true:=fu k (cO.1 qD.2.1)
   cases hd:(l[k]?).bind (·.dst)with
   | none=>simp only[hd] at hstep
   | some d=>
     simp only[hd] at hstep
     obtain⟨ok,sX,hdk⟩:∃ok,l[k]?=some ok/\ok.dst=some d:=by
      cases hlk:l[k]? with
      | none=>rw[hlk] at hd;cases hd
      | some ok=>rw[hlk] at hd;exact⟨ok,rfl,hd⟩
     have hyv:=I.new k ok d sX tH hdk;obtain⟨h1,h2⟩:=hstep hyv;have Yu:=cI aZ k ok sX;simp only[lN,hdk,Bool.and_eq_true,decide_eq_true_eq,Nat.zero_add] at Yu;have atD:d < a.tmps.size:=by rw[I.size];exact Yu.1.1.2.1
     have Bh:yielded (l++zs).toArray a.tmps k=match a.eval (.tmp d)with | .bool b=>some b | _=>none:=by unfold yielded;rw[nR sX];simp only[Option.bind_some,hdk,Act.eval,Array.getD_eq_getD_getElem?,Array.getElem?_eq_getElem atD,Option.getD_some];cases a.tmps[d] <;> rfl
     by_cases yJ:a.eval (.tmp d)=.bool want
     ·rw[if_pos (by simp[Region.wanted,hg,Bh,yJ])];exact .inl (jH (h1 yJ) λ v w' h=>Kw v w' h.1 h.2)
     ·rw[if_neg (by
       simp only[Region.wanted,hg,Bh]
       intro hc
       apply yJ
       cases hv:a.eval (.tmp d)<;> rw[hv] at hc <;> simp at hc
       rw[hc])]
      exact Kw undef w (hrefl w) (h2 yJ)):p:=h
theorem fL {id:Nat} {ops:List Oper}(zs:List Oper)(l:List Oper)(kP:ops=l++zs)(R:rQ->rQ->Prop)(hrefl:∀w,R w w)(Be:∀a b c,R a b->R b c->R a c)(nT:∀w,R w w.drew)
  (V:Nat->rQ->Value->Prop) (hV:∀Kx w w' v,V Kx w v->R w w'->V Kx w' v) (hm:P.follows .mixedOrders=true) (aZ:dP l a0.tmps.size l 0=true) (hz:eU (l++zs) zs l.length=true)
  (hs:Steps P l R V a0 w0 l 0) (hf:∀w,R w0 w->bA V (λ a w=>wpList P ops.toArray Q zs a w) l 0 a0 w):(Code.region id ops.toArray true).wp P Q a0 w0:=by
 subst kP
 have main:∀(fuel:Nat) (listed:Array Bool) (a:Act) (w:rQ),Inv l V R a0 w0 (l++zs).length listed a w->fuel=bu l.length listed+zs.length->wpAny P .any (l++zs).toArray Q fuel listed a w:=by
  intro fuel
  induction fuel with
  | zero=>
    intro listed a w I hfu;have h0:bu l.length listed=0:=by omega
    have hz0:zs.length=0:=by omega
    have:=Kv aZ hz hf I h0;rwa [hz0] at this
  | succ fuel ih=>
    intro listed a w I hfu;by_cases h0:bu l.length listed=0
    ·have:=Kv aZ hz hf I h0;exact Zfa
    ·open zal in exact Zad
 refine wp_region_any hm ?_;have h0:R w0 w0.drew:=nT w0;have:=main (l++zs).toArray.size (Array.replicate (l++zs).toArray.size false) a0 w0.drew ⟨h0,rfl,rfl,λ _ _=>rfl,(λ Kx o d _ h=>by rw[bh] at h;cases h),(λ Kx o _ h=>by rw[bh] at h;cases h),by simp,λ Kx _=>bh _ _⟩ (by
  have:bu l.length (Array.replicate (l++zs).toArray.size false)=l.length:=by
   unfold bu
   rw[List.filter_eq_self.2 (λ Kx _=>by rw[bh];rfl),length_range]
  rw[this];simp)
 exact this
end
structure Ext (B:Nat) (w0:rQ) where
 w:rQ
 h:Below B w0 w
instance (B:Nat) (w0:rQ):Nonempty (Ext B w0):=⟨⟨w0,Below.refl _ _⟩⟩
variable{B:Nat}
theorem Ext.cell(x:Ext B w0) {p:Addr}(hp:p.block < B):x.w.cell? p=w0.cell? p:=x.h.cell hp
variable{C:rQ->Prop}
theorem tV{ops:Array Oper}  {Q:Act->Prop}:∀(l:List Oper) (a:Act),wpQuiet P ops C Q l a->
  ∃vs:wL,vs.length=l.length/\
   (∀i o,l[i]?=some o->∃v,vs[i]?=some v/\
     ((Region.wanted o (yielded ops ((l.take i).zip vs |>.foldl (λ b ov=>b.put ov.1.dst ov.2) a).tmps)=true/\∀w,C w->o.quietAt P ((l.take i).zip vs |>.foldl (λ b ov=>b.put ov.1.dst ov.2) a) C w v)\/
      (Region.wanted o (yielded ops ((l.take i).zip vs |>.foldl (λ b ov=>b.put ov.1.dst ov.2) a).tmps)=false/\v=undef)))/\
   Q ((l.zip vs).foldl (λ b ov=>b.put ov.1.dst ov.2) a)
 | [],a,h=>⟨[],rfl,λ i o ho=>by simp at ho,h⟩
 | o::l,a,h=>by
   unfold wpQuiet at h;by_cases hw:Region.wanted o (yielded ops a.tmps)=true
   ·rw[if_pos hw] at h;obtain⟨v,hv,hn⟩:=h;obtain⟨vs,hl,hall,hq⟩:=tV l _ hn;refine⟨v::vs,by simp[hl],λ i o' Bi=>?_,by simpa using hq⟩
    match i with
    | 0=>simp at Bi;subst Bi;exact⟨v,rfl,.inl ⟨by simpa using hw,by simpa using hv⟩⟩
    | i+1=>obtain⟨v',h1,h2⟩:=hall i o' (by simpa using Bi);exact⟨v',by simpa using h1,by simpa using h2⟩
   ·rw[if_neg hw] at h;obtain⟨vs,hl,hall,hq⟩:=tV l _ h;refine⟨undef::vs,by simp[hl],λ i o' Bi=>?_,by simpa using hq⟩
    match i with
    | 0=>simp at Bi;subst Bi;exact⟨undef,rfl,.inr ⟨by simpa using hw,rfl⟩⟩
    | i+1=>obtain⟨v',h1,h2⟩:=hall i o' (by simpa using Bi);exact⟨v',by simpa using h1,by simpa using h2⟩
variable{l:List Oper}{vs:wL}
theorem tI{k:Nat}  {v:Value}(hl:vs.length=l.length)(ho:l[k]?=some o)(hv:vs[k]?=some v):((l.take (k+1)).zip vs)=((l.take k).zip vs)++ [(o,v)]:=by
 have hk:k < l.length:=by exact ZfI
 rw[take_add_one,ho]
 have e1:vs=vs.take k++v::vs.drop (k+1):=by
  conv=>lhs;rw[<- take_append_drop k vs]
  congr 1;rw[drop_eq_getElem_cons TD];congr 1;rw[getElem?_eq_getElem TD] at hv;injection hv
 have hlen:(l.take k).length=(vs.take k).length:=by simp;omega
 conv=>lhs;rw[e1]
 rw[zip_append hlen]
 have e2:(l.take k).zip vs=(l.take k).zip (vs.take k):=by
  conv=>lhs;rw[<- take_append_drop k vs]
  have h0:(l.take k++ []).zip (vs.take k++vs.drop k)=(l.take k).zip (vs.take k)++([]:List Oper).zip (vs.drop k):=zip_append hlen;simpa using h0
 rw[e2];simp
theorem ET{a:Act}(aZ:dP l a.tmps.size l 0=true)(hl:vs.length=l.length):∀(k:Nat),k<=l.length->
  (((l.take k).zip vs).foldl (λ b ov=>b.put ov.1.dst ov.2) a).tmps.size=a.tmps.size/\
  (∀j oj d v,j < k->l[j]?=some oj->oj.dst=some d->vs[j]?=some v->(((l.take k).zip vs).foldl (λ b ov=>b.put ov.1.dst ov.2) a).tmps[d]?=some v)/\
  (∀t,(∀j oj,j < k->l[j]?=some oj->oj.dst≠some t)->(((l.take k).zip vs).foldl (λ b ov=>b.put ov.1.dst ov.2) a).tmps[t]?=a.tmps[t]?)
 | 0,_=>by simp
 | k+1,hk=>by
   obtain⟨h1,h2,h3⟩:=ET aZ hl k TD;obtain⟨o,ho⟩:∃o,l[k]?=some o:=⟨l[k]' TD,getElem?_eq_getElem TD⟩;obtain⟨v,hv⟩:∃v,vs[k]?=some v:=⟨vs[k]' TD,getElem?_eq_getElem TD⟩;have e:=tI hl ho hv;rw[e,foldl_append];generalize ((l.take k).zip vs).foldl (λ b ov=>b.put ov.1.dst ov.2) a=b at*;have jI:=cI aZ k o ho;rw[Nat.zero_add] at jI;simp only[foldl_cons,foldl_nil];refine⟨?_,?_,?_⟩
   ·cases hd:o.dst <;> simp[Act.put,h1]
   ·intro j oj d v' Kx hj hd hv';by_cases XN:j=k
    ·subst XN;rw[ho] at hj;injection hj with hj;subst hj
     rw[hv] at hv';injection hv' with hv';subst hv'
     simp only[lN,hd,Bool.and_eq_true,decide_eq_true_eq] at jI;have hb:d < b.tmps.size:=by rw[h1];exact jI.1.1.2.1
     simp[hd,Act.put,hb]
    ·have hold:=h2 j oj d v' TD hj hd hv';cases hdo:o.dst with
     | none=>exact hold
     | some d'=>
       have hne:d'≠d:=by intro e';subst e';have qD:=cI aZ j oj hj;simp only[lN,hd,Bool.and_eq_true,Nat.zero_add,beq_iff_eq] at qD;simp only[lN,hdo,Bool.and_eq_true,beq_iff_eq] at jI;rw[qD.1.1.2.2] at jI;have:=jI.1.1.2.2;injection this with this;exact XN this
       simp only[Act.put,Array.getElem?_setIfInBounds_ne hne];exact hold
   ·intro t ht;have hold:=h3 t (λ j oj Kx hj=>ht j oj TD hj);cases hdo:o.dst with
    | none=>exact hold
    | some d'=>
      have hne:d'≠t:=λ e'=>ht k o TD ho (by rw[hdo,e'])
      simp only[Act.put,Array.getElem?_setIfInBounds_ne hne];exact hold
variable{ρ:Operand->Value}
theorem qH{a:Act}  {w:rQ} {v:Value} (Yw:∀cs b,o.op≠ .select cs b)(he:∀x∈o.op.operands,ρ x=a.eval x)(hC:C w)
  (h:o.quietAt P a C w v):xq P o ρ w λ v' w'=>(C w->C w')/\v'=v:=by
 unfold Oper.quietAt at h;unfold xq;rw[execOp_congr o Yw he];generalize (execOp a.eval o).run P w=r at*
 cases r with
 | ok n w'=>
   cases n <;> simp only[Oper.quietUpon] at h;case value u=>obtain⟨rfl,rfl⟩:=h;exact⟨id,rfl⟩
   case skip=>obtain⟨rfl,rfl⟩:=h;exact⟨id,rfl⟩
   case enter f args=>obtain⟨rfl,hc⟩:=h;exact hc.mono λ e w'' ⟨he,hc'⟩=>⟨v,he,λ _=>hc',rfl⟩
 | halt x w'=>simp only[Oper.quietUpon] at h
theorem Ou:t∈tmpsOf o↔Operand.tmp t∈o.op.operands:=by
 unfold tmpsOf;simp only[mem_filterMap,Array.mem_toList_iff];constructor
 ·rintro⟨x,hx,h⟩;cases x <;> simp at h;subst h;exact hx
 ·intro h;exact⟨_,h,rfl⟩
variable{ρ0:Operand->Value}
theorem EU{w:rQ} :∀ {ts:List Tmp},lO l V ρ0 ρ w o ts->∀t∈ts,match df l o t with | some j=>V j w (ρ (.tmp t))| none=>ρ (.tmp t)=ρ0 (.tmp t)
 | [],_,t,h=>by cases h
 | x::ts,hr,t,h=>by
   rcases List.mem_cons.1 h with rfl | h
   ·exact hr.1
   ·exact EU hr.2 t h
def afu (l:List Oper):Bool:=l.all λ o=>match o.op with | .select _ _=>false | _=>true
variable{id:Nat}{ops:List Oper}
theorem zg6.Kb0(h:p:=by
 refine⟨?_,ih (k+1) (by rw[<- tail_drop,hk];rfl)⟩;intro ρ w hc hR hr;have hCw:C w:=hR hC0;obtain⟨v,hv,Yx⟩:=hall k o Hr;obtain⟨f1,f2,f3⟩:=ET aZ hl k TD;have jI:=cI aZ k o Hr;rw[Nat.zero_add] at jI;have alS:∀cs b,o.op≠ .select cs b:=by intro cs b e;have:=List.all_eq_true.1 Yw o (mem_of_getElem? Hr);rw[e] at this;cases this
 have gS:∀x∈o.op.operands,ρ x=(((l.take k).zip vs).foldl (λ b ov=>b.put ov.1.dst ov.2) a0).eval x:=by
  intro x hx
  cases x with
  | const v=>rw[hc.const];rfl
  | global g=>rw[hc.global];rfl
  | func f=>rw[hc.func];rfl
  | tmp t=>
    have hmt:=Ou.2 hx;have hrt:=EU hr t hmt;simp only[lN,Bool.and_eq_true] at jI;have hot:=List.all_eq_true.1 jI.1.2 t hmt;unfold df at hrt
    cases hs:gT t l 0 with
    | none=>simp only[hs] at hrt;rw[hrt];refine(mK (f3 t ?_)).symm;intro KK Kx _ oI hd;obtain⟨j',hj'⟩:=oH (k:=0) oI hd;rw[hs] at hj';cases hj'
    | some KK=>
      obtain⟨j',Kx,e,hj,hd⟩:=qC hs;rw[Nat.zero_add] at e;subst e;simp only[hs] at hrt hot;by_cases he:iJ o KK=true
      ·simp only[he,if_true] at hrt;have hjk:KK < k:=of_decide_eq_true (List.all_eq_true.1 jI.1.1.1 KK (cO.1 he));have:=f2 KK Kx t _ hjk hj hd hrt;simp[Act.eval,this]
      ·rw[Bool.not_eq_true] at he;simp only[he,Bool.false_or,hj] at hot hrt;have atG:ρ (.tmp t)=a0.eval (.tmp t):=by simpa using hrt
       rw[atG];refine(mK (f3 t ?_)).symm;intro j oi hik hoi hdi;have vh:=cI aZ j oi hoi;simp only[lN,hdi,Bool.and_eq_true,Nat.zero_add,beq_iff_eq] at vh;have nA:j=KK:=by have:=vh.1.1.2.2;rw[hs] at this;injection this with this;exact this.symm
       subst nA;rw[hj] at hoi;injection hoi with hoi;subst hoi;have qD:=cI aZ j Kx hj;simp only[lN,Bool.and_eq_true,Nat.zero_add] at qD;have:=of_decide_eq_true (List.all_eq_true.1 qD.1.1.1 k (cO.1 hot));omega
 have hT:xq P o ρ w (λ v' w'=>(C w->C w')/\v'=v)->xq P o ρ w (λ v' w'=>(C w->C w')/\vs[k]?=some v'):=by
  unfold xq;intro h';generalize (execOp ρ o).run P w=r at*
  cases r with
  | ok n w'=>
    cases n <;> first | exact⟨h'.1,by rw[h'.2];exact hv⟩| exact h'.elim | skip
    exact h'.mono λ e w'' ⟨u,h1,h2,h3⟩=>⟨u,h1,h2,by rw[h3];exact hv⟩
  | halt x w'=>exact h'.elim
 cases hg:o.guard with
 | none=>
   rcases Yx with ⟨_,hqa⟩|⟨hw,_⟩
   ·exact hT (qH alS gS hCw (hqa w hCw))
   ·simp[Region.wanted,hg] at hw
 | some g=>
   obtain⟨KK,want⟩:=g;simp only[lN,hg,Bool.and_eq_true] at jI;have hjk:KK < k:=of_decide_eq_true (List.all_eq_true.1 jI.1.1.1 KK (cO.1 jI.2.1));obtain⟨Kx,oI⟩:∃Kx,l[KK]?=some Kx:=⟨l[KK]' TD,getElem?_eq_getElem TD⟩;have Yy:=jI.2.2;rw[oI] at Yy;obtain⟨d,hd⟩:=Option.isSome_iff_exists.1 Yy;simp only[oI,Option.bind_some,hd];intro hyv;have alT:=f2 KK Kx d _ hjk oI hd hyv;have Bh:yielded (l++zs).toArray (((l.take k).zip vs).foldl (λ b ov=>b.put ov.1.dst ov.2) a0).tmps KK=match ρ (.tmp d)with | .bool b=>some b | _=>none:=by unfold yielded;rw[nR oI];simp only[Option.bind_some,hd,alT];cases ρ (.tmp d)<;> rfl
   constructor
   ·intro yJ;rcases Yx with ⟨_,hqa⟩|⟨hw,_⟩
    ·exact hT (qH alS gS hCw (hqa w hCw))
    ·simp[Region.wanted,hg,Bh,yJ] at hw
   ·intro yJ;rcases Yx with ⟨hw,_⟩|⟨_,hu⟩
    ·exfalso;simp only[Region.wanted,hg,Bh] at hw;apply yJ;cases Ov:ρ (.tmp d)<;> rw[Ov] at hw <;> simp at hw;rw[hw]
    ·rw[<- hu];exact hv):p:=h
theorem zg7.Kb0(h:p:=by
 have hstep:∀v,vs[k]?=some v->((l.take (k+1)).zip vs).foldl (λ b ov=>b.put ov.1.dst ov.2) a0=(((l.take k).zip vs).foldl (λ b ov=>b.put ov.1.dst ov.2) a0).put o.dst v:=by intro v hv;rw[tI hl Hr hv,foldl_append];rfl
 have ES:=ih (k+1) (by rw[<- tail_drop,hk];rfl) TD;unfold bA
 cases hd:o.dst with
 | none=>simp only;obtain⟨v,hv⟩:∃v,vs[k]?=some v:=⟨vs[k]' TD,getElem?_eq_getElem TD⟩;rw[hstep v hv,hd] at ES;exact ES
 | some d=>simp only;intro v hv;rw[hstep v hv,hd] at ES;exact ES):p:=h
theorem Ky(zs:List Oper)(l:List Oper)(kP:ops=l++zs)(C:rQ->Prop)(hC0:C w0)(nT:∀w,C w->C w.drew)
  (hm:P.follows .mixedOrders=true) (Yw:afu l=true) (aZ:dP l a0.tmps.size l 0=true) (hz:eU (l++zs) zs l.length=true)
  (h:wpQuiet P ops.toArray C (λ a=>∀w,C w->wpList P ops.toArray Q zs a w) l a0):(Code.region id ops.toArray true).wp P Q a0 w0:=by
 subst kP;obtain⟨vs,hl,hall,hq⟩:=tV l a0 h;refine fL zs l rfl (λ w w'=>C w->C w') (λ _ h=>h) (λ _ _ _ h1 h2 h=>h2 (h1 h)) (λ w h=>nT w h) (λ j _ v=>vs[j]?=some v) (λ _ _ _ _ h _=>h) hm aZ hz ?_ ?_
 ·have key:∀(k:Nat) (rest:List Oper),l.drop k=rest->Steps P l (λ w w'=>C w->C w') (λ j _ v=>vs[j]?=some v) a0 w0 rest k:=by
   intro k rest
   induction rest generalizing k with
   | nil=>intro _;trivial
   | cons o rest ih=>intro hk;open zg6 in exact Zfm
  exact key 0 l rfl
 ·intro w hR;have hCw:C w:=hR hC0
  have key:∀(k:Nat) (rest:List Oper),l.drop k=rest->k<=l.length->bA (λ j _ v=>vs[j]?=some v) (λ a w=>wpList P (l++zs).toArray Q zs a w) rest k (((l.take k).zip vs).foldl (λ b ov=>b.put ov.1.dst ov.2) a0) w:=by
   intro k rest
   induction rest generalizing k with
   | nil=>intro hk tH;have:l.length<=k:=List.drop_eq_nil_iff.1 hk;have e:l.take k=l:=take_of_length_le this;rw[e];exact hq w hCw
   | cons o rest ih=>intro hk tH;open zg7 in exact Zfm
  have:=key 0 l rfl TD;exact ZeR
theorem aW{w:rQ}  (k B:Nat)(w0:rQ)(hb:Below B w0 w)(hm:P.follows .mixedOrders=true)(Yw:afu (ops.take k)=true)
  (aZ:dP (ops.take k) a0.tmps.size (ops.take k) 0=true) (hz:eU ops (ops.drop k) (ops.take k).length=true)
  (h:wpQuiet P ops.toArray (λ w'=>∃x:Ext B w0,w'=x.w) (λ a=>∀w,(∃x:Ext B w0,w=x.w)->wpList P ops.toArray Q (ops.drop k) a w) (ops.take k) a0):(Code.region id ops.toArray true).wp P Q a0 w:=
 Ky (ops.drop k) (ops.take k) (take_append_drop k ops).symm (λ w'=>∃x:Ext B w0,w'=x.w) ⟨⟨w,hb⟩,rfl⟩ (λ w' ⟨x,e⟩=>⟨⟨w'.drew,by rw[e];exact x.h.drew⟩,rfl⟩) hm Yw aZ TaI h
variable{f:FuncId}
theorem aP{args:x_}   {x:Ext B w0} {v:Value}(hB:B<=w0.heap.size)
  (h:Calls P f args x.w λ e w'=>e=.returned v/\Below x.w.heap.size x.w w'):Calls P f args x.w λ e w''=>e=.returned v/\∃x:Ext B w0,w''=x.w:=
 h.mono λ _ _ ⟨he,hb⟩=>⟨he,⟨_,x.h.trans (hb.mono (Nat.le_trans hB x.h.size))⟩,rfl⟩
theorem dr{args:x_}   {x:Ext B w0} {v:Value}
  (h:Calls P f args x.w λ e w'=>e=.returned v/\x.w=w'):Calls P f args x.w λ e w''=>e=.returned v/\∃x:Ext B w0,w''=x.w:=
 h.mono λ _ _ ⟨he,hb⟩=>⟨he,x,hb.symm⟩
def ai (w w':rQ):Prop:=aj w w'
theorem ai.refl (w:rQ):ai w w:=Below.refl _ _
variable{a b:rQ}
theorem ai.trans{c:rQ}(h:ai a b)(k:ai b c):ai a c:=Below.trans h (Below.mono k h.size)
theorem ai.drew (w:rQ):ai w w.drew:=(Below.refl _ _).drew
theorem bz(k:Nat)(V:Nat->rQ->Value->Prop)(hV:∀i w w' v,V i w v->ai w w'->V i w' v)(hm:P.follows .mixedOrders=true)
  (aZ:dP (ops.take k) a0.tmps.size (ops.take k) 0=true) (hz:eU ops (ops.drop k) (ops.take k).length=true)
  (hs:Steps P (ops.take k) ai V a0 w0 (ops.take k) 0) (hf:∀w,ai w0 w->bA V (λ a w=>wpList P ops.toArray Q (ops.drop k) a w) (ops.take k) 0 a0 w):(Code.region id ops.toArray true).wp P Q a0 w0:=
 fL (ops.drop k) (ops.take k) (take_append_drop k ops).symm ai ai.refl (λ _ _ _=>ai.trans) ai.drew V hV hm aZ TaI hs hf
section
variable {P:Program} {o:Oper} {ρ:Operand->Value} {w:rQ} {T:Value->rQ->Prop}
theorem aq {v:Value} {w':rQ}(h:(execOp ρ o).run P w=.ok (.value v) w')(hT:T v w'):xq P o ρ w T:=by unfold xq;rw[h];exact hT
theorem Kz {w':rQ}(h:(execOp ρ o).run P w=.ok .skip w')(hT:T undef w'):xq P o ρ w T:=by unfold xq;rw[h];exact hT
theorem bp {f:FuncId} {args:x_} {w':rQ}(h:(execOp ρ o).run P w=.ok (.enter f args) w')(hc:Calls P f args w' λ e w''=>∃v,e=.returned v/\T v w''):xq P o ρ w T:=by unfold xq;rw[h];exact hc
theorem ji {x:Operand} {v:Value}(ho:o.op=.move x\/o.op=.assign x)(hx:ρ x=v)(hT:T v w):xq P o ρ w T:=by
 refine aq (v:=v) (w':=w) ?_ hT;rcases ho with ho | ho <;> simp[execOp,ho,hx]
end
open Go.ChangeShapes Go.WideShapes Go.ChangeAt
set_option linter.unusedVariables false
def lQ (a b:Int):Int:=if a < b then -1 else if b < a then 1 else 0
theorem ahm (a b:Int)(w:rQ):ar 48 #[ag a,ag b] w λ e w'=>e=.returned (af (lQ a b))/\w=w':=by
 unfold lQ;by_cases h1:a < b
 ·exact Zgq
 ·by_cases h2:b < a
  ·exact Zgq
  ·exact Zgq
theorem abp (a b:Int)(w:rQ):ar 49 #[af a,af b] w λ e w'=>e=.returned (af (lQ a b))/\w=w':=by
 unfold lQ;by_cases h1:a < b
 ·exact Zgr
 ·by_cases h2:b < a
  ·exact Zgr
  ·exact Zgr
def lu (a b:t_):Int:=if Op.bytesLess a.toList b.toList=true then -1 else if (a.toList==b.toList)=true then 0 else 1
theorem abq (a b:t_)(w:rQ):ar 50 #[.string a,.string b] w λ e w'=>e=.returned (af (lu a b))/\w=w':=by
 unfold lu;cases h1:Op.bytesLess a.toList b.toList
 ·cases h2:(a.toList==b.toList)
  ·exact Zgs
  ·exact Zgs
 ·exact Zgs
def or3 (x y z:Int):Int:=if x=0 then(if y=0 then z else y)else x
def oB (x y:Int):Int:=if x=0 then y else x
theorem Yz (x y z:Int)(w:rQ):ar 47 #[aL w.heap.size 3 3] (w.alloc (.cells #[af x,af y,af z] 3)) λ e w'=>
  e=.returned (af (or3 x y z))/\w'=w.alloc (.cells #[af x,af y,af z] 3):=by
 unfold or3;have q1:∀u:Int,u≠0->((u != 0)=true):=λ u h=>by simp[h]
 by_cases h1:x=0
 ·subst h1;by_cases h2:y=0
  ·subst h2;by_cases h3:z=0
   ·subst h3;go_enter Tryz.func47,Tryz.ntmps47;go_wp2;refine wp_loop_rounds 4 ?_;iterate 4 (rw[rounds_succ];go_wp2)
    exact Zbp
   ·have:=q1 z h3;go_enter Tryz.func47,Tryz.ntmps47;go_wp2;refine wp_loop_rounds 4 ?_;iterate 3 (rw[rounds_succ];go_wp2)
    exact Zbp
  ·have:=q1 y h2;go_enter Tryz.func47,Tryz.ntmps47;go_wp2;refine wp_loop_rounds 4 ?_;iterate 2 (rw[rounds_succ];go_wp2)
   exact Zbp
 ·have:=q1 x h1;go_enter Tryz.func47,Tryz.ntmps47;go_wp2;refine wp_loop_rounds 4 ?_;rw[rounds_succ];exact Zfo
structure Val where
 k:Int
 n:Int
 s:t_
abbrev v_:=List Val
abbrev y_:=List (v_)
abbrev aJ (v:Val):x_:= #[.int .u8 v.k,.int .i64 v.n,.string v.s]
def bM (a b:Val):Int:=or3 (lQ a.k b.k) (lQ a.n b.n) (lu a.s b.s)
theorem ei (a b:Val)(w:rQ):ar 18 #[.agg (aJ a),.agg (aJ b)] w λ e w'=>
  e=.returned (af (bM a b))/\aj w w':=by
 obtain⟨ak,an,ax⟩:=a;obtain⟨bk,bn,bx⟩:=b;go_enter Tryz.func18,Tryz.ntmps18;go_wp2_with fail
 have hc:∀(y2:Ext (w.heap.size+2) ((w.alloc (.cells #[ag ak,af an,.string ax] 44)).alloc (.cells #[ag bk,af bn,.string bx] 44))) (i:Nat),y2.w.cell? ⟨w.heap.size,i,none⟩= #[Value.int .u8 ak,af an,.string ax][i]?/\y2.w.cell? ⟨w.heap.size+1,i,none⟩= #[Value.int .u8 bk,af bn,.string bx][i]?:=by
  intro y2 i;refine⟨?_,?_⟩
  ·rw[y2.cell Taa];simp
  ·rw[y2.cell Taa];simp
 have c0:=λ y2=>(hc y2 0).1
 have c1:=λ y2=>(hc y2 1).1
 have c2:=λ y2=>(hc y2 2).1
 have d0:=λ y2=>(hc y2 0).2
 have d1:=λ y2=>(hc y2 1).2
 have d2:=λ y2=>(hc y2 2).2
 clear hc;simp at c0 c1 c2 d0 d1 d2;refine aW 15 (w.heap.size+2) _ (Below.refl _ _) WC WC WC WC ?_;simp only[Uab];repeat (go_big_quiet_step (first
  |(go_at_call 48;exact dr (ahm _ _ _))
  |(go_at_call 49;exact dr (abp _ _ _))
  |(go_at_call 50;exact dr (abq _ _ _))))
 refine wpQuiet_nil ?_;rintro w3 ⟨y2,fI⟩;have hL:=y2.h;rw[<- fI] at hL;clear c0 c1 c2 d0 d1 d2 fI y2;go_wp2_with fail;refine(Yz _ _ _ _).mono ?_;rintro e w' ⟨rfl,rfl⟩;go_wp2_with fail;go_ret;have hB:aj w w3:=(((Below.refl _ _).alloc (Nat.le_refl _) _).alloc Taa _).trans (hL.mono Taa);exact⟨rfl,hB.alloc hB.size _⟩
theorem vk (a:Addr)(n:Nat):(a.add n).block=a.block:=by unfold Addr.add;split <;> rfl
def Reads (w:rQ)(B size:Nat)(A:z_)(n:Nat)(xs:wL):Prop:=
 xs.length=n*size/\(0 < n->∃ad,A=some ad/\ad.block < B/\∀j u,xs[j]?=some u->w.cell? (ad.add j)=some u)
section
variable {w w':rQ} {B B' size n:Nat} {A:z_} {xs:wL}
theorem Reads.none_:Reads w B size A 0 []:=⟨by simp,λ h=>absurd h TD⟩
theorem Reads.ahn {base:Nat} {e:TypeId} {c:Nat}(h:w.ownsRow base e size (.slice A n c) n xs):Reads w w.heap.size size A n xs:=by
 refine⟨h.1,λ hn=>?_⟩;obtain⟨g,cap,hv,_,hlt⟩:=h.form hn;have hA:A=some ⟨g,0,none⟩:=by injection hv
 subst hA;exact⟨_,rfl,hlt,h.cells (g:=g) rfl⟩
end
section
variable {P:Program} (w:rQ)
theorem vo (base:Nat)(t ty e:TypeId)(i:TypeInfo)(size:Nat)(ht:P.underlying t=some (.slice e))(hi:P.info? e=some i)
  (v:Value) (n:Nat) (xs:wL) (hown:w.ownsRow base e size v n xs) (c:Nat):(Builtin.append_ #[t,t] ty #[v,.slice none 0 c]).run P w=.ok v w:=by
 rcases hown.2 with ⟨rfl,rfl⟩|⟨g,cap,cur,rfl,_,_,hnc,_⟩
 ·simp[Builtin.append_,run_underlying ht,sizeOf,typeInfo,hi,Builtin.lenOf,Builtin.firstCells]
 ·simp[Builtin.append_,run_underlying ht,sizeOf,typeInfo,hi,Builtin.lenOf,Builtin.firstCells,hnc,storeCells]
theorem gH (base:Nat)(t ty e:TypeId)(i:TypeInfo)(z:Value)(size bytes:Nat)(ht:P.underlying t=some (.slice e))(hi:P.info? e=some i)(hz:i.zero=some z)
  (hsize:i.size=size) (hby:i.bytes=bytes) (hzs:z.cells.size=size) (hsz:0 < size)
  (v:Value) (n:Nat) (xs:wL) (hown:w.ownsRow base e size v n xs)
  (B:Nat) (A:z_) (m c:Nat) (news:wL) (hr:Reads w B size A m news) (h1:∀u∈news,u.oneCell'=true)
  (h63:n+m<=maxLen) (hbytes:(n+m)*bytes<=140737488355328) (hbase:base<=w.heap.size):
  ∃v' w',(Builtin.append_ #[t,t] ty #[v,.slice A m c]).run P w=.ok v' w'/\w'.ownsRow base e size v' (n+m) (xs++news)/\w.grownBy w' v.ownBlock/\
   (v'.ownBlock=v.ownBlock\/v'.ownBlock=some w.heap.size):=by
 rcases A with _ | ad
 ·have hm:m=0:=by
   rcases Nat.eq_zero_or_pos m with h0 | h0
   ·exact h0
   ·obtain⟨ad,h,_⟩:=hr.2 h0;cases h
  subst hm;have hn:news=[]:=eq_nil_of_length_eq_zero (by simpa using hr.1);subst hn;exact⟨v,w,vo w base t ty e i size ht hi v n xs hown c,by simpa using hown,World.grownBy.refl w _,.inl rfl⟩
 ·have nC:∀j u,news[j]?=some u->w.cell? (ad.add j)=some u:=by
   intro j u hu;rcases Nat.eq_zero_or_pos m with h0 | h0
   ·subst h0;have hn:news=[]:=eq_nil_of_length_eq_zero (by simpa using hr.1);subst hn;simp at hu
   ·obtain⟨ad',h,_,hc⟩:=hr.2 h0;injection h with h;subst h;exact hc j u hu
  obtain⟨v',w',hrun,h2,h3,_,h5⟩:=run_append_own_at (P:=P) w base t ty e i z size bytes ht hi hz hsize hby hzs hsz v n xs hown ad m c news hr.1 nC h1 h63 hbytes hbase;exact⟨v',w',hrun,h2,h3,h5⟩
theorem Ek {o:Oper} {a:Act} {K:Act->rQ->Prop} {Q:yD}(s x:Operand)(t:TypeId)
  (ho:o.op=.call { callee:=.builtin .append,args:= #[s,x],argTypes:= #[t,t] })
  (base:Nat) (e:TypeId) (i:TypeInfo) (z:Value) (size bytes:Nat) (ht:P.underlying t=some (.slice e)) (hi:P.info? e=some i) (hz:i.zero=some z)
  (hsize:i.size=size) (hby:i.bytes=bytes) (hzs:z.cells.size=size) (hsz:0 < size)
  (v:Value) (n:Nat) (xs:wL) (hs:a.eval s=v) (hown:w.ownsRow base e size v n xs)
  (B:Nat) (A:z_) (m c:Nat) (news:wL) (hx:a.eval x=.slice A m c) (hr:Reads w B size A m news) (h1:∀u∈news,u.oneCell'=true)
  (h63:n+m<=maxLen) (hbytes:(n+m)*bytes<=140737488355328) (hbase:base<=w.heap.size)
  (h:∀v' w',w'.ownsRow base e size v' (n+m) (xs++news)->w.grownBy w' v.ownBlock->(v'.ownBlock=v.ownBlock\/v'.ownBlock=some w.heap.size)->K (a.put o.dst v') w'):o.wp P a w K Q:=by obtain⟨v',w',hrun,h2,h3,h4⟩:=gH (P:=P) w base t o.type e i z size bytes ht hi hz hsize hby hzs hsz v n xs hown B A m c news hr h1 h63 hbytes hbase;unfold Oper.wp execOp;simp only[ho,resolve,invoke,builtin,Sem.run_bind,Sem.run_pure,Result.andThen_ok,map_toArray,map_cons,map_nil,hs,hx,hrun];exact h v' w' h2 h3 h4
theorem cP {ops:Array Oper} {rest:List Oper} {o:Oper} {a:Act} {Q:yD}(hgd:o.guard=none)(s x:Operand)(t:TypeId)
  (ho:o.op=.call { callee:=.builtin .append,args:= #[s,x],argTypes:= #[t,t] })
  (base:Nat) (e:TypeId) (i:TypeInfo) (z:Value) (size bytes:Nat) (ht:P.underlying t=some (.slice e)) (hi:P.info? e=some i) (hz:i.zero=some z)
  (hsize:i.size=size) (hby:i.bytes=bytes) (hzs:z.cells.size=size) (hsz:0 < size)
  (v:Value) (n:Nat) (xs:wL) (hs:a.eval s=v) (hown:w.ownsRow base e size v n xs)
  (B:Nat) (A:z_) (m c:Nat) (news:wL) (hx:a.eval x=.slice A m c) (hr:Reads w B size A m news) (h1:∀u∈news,u.oneCell'=true)
  (h63:n+m<=maxLen) (hbytes:(n+m)*bytes<=140737488355328) (hbase:base<=w.heap.size)
  (h:∀v' w',w'.ownsRow base e size v' (n+m) (xs++news)->w.grownBy w' v.ownBlock->(v'.ownBlock=v.ownBlock\/v'.ownBlock=some w.heap.size)->wpList P ops Q rest (a.put o.dst v') w'):wpList P ops Q (o::rest) a w:=
 wpList_plain hgd λ _ hK=>Ek w s x t ho base e i z size bytes ht hi hz hsize hby hzs hsz v n xs hs hown B A m c news hx hr h1 h63 hbytes hbase λ v' w' h2 h3 h4=>hK _ _ (h v' w' h2 h3 h4)
end
def aB (w:rQ)(g:Nat)(t:TypeId)(cs:x_):Prop:=w.heap[g]?=some (.cells cs t (0,0))
section
variable {w w':rQ} {g:Nat} {t:TypeId} {cs:x_}
theorem aB.lt (h:aB w g t cs):g < w.heap.size:=by
 rcases Nat.lt_or_ge g w.heap.size with hlt | vp
 ·exact hlt
 ·unfold aB at h;rw[Array.getElem?_eq_none vp] at h;cases h
theorem aB.cell (h:aB w g t cs)(i:Nat):w.cell? ⟨g,i,none⟩=cs[i]?:=cell_of_row w g i cs t (0,0) h
theorem aB.frozen (h:aB w g t cs)(i:Nat):w.frozen? ⟨g,i,none⟩=false:=by unfold aB at h;simp[World.frozen?,h]
theorem aB.new (w:rQ)(t:TypeId)(cs:x_):aB (w.alloc (.cells cs t)) w.heap.size t cs:=heap_alloc_new w _
theorem aB.drew (h:aB w g t cs):aB w.drew g t cs:=h
theorem aB.alloc (h:aB w g t cs)(o:Obj):aB (w.alloc o) g t cs:=(Below.heap_alloc w o g h.lt).trans h
theorem aB.aT (h:aB w g t cs)(i:Nat)(u:Value):aB (w.setCell ⟨g,i,none⟩ u) g t (cs.setIfInBounds i u):=by unfold aB at h ⊢;simp[World.setCell,Array.getElem?_modify,h]
theorem aB.far (h:aB w g t cs) {p:Addr}(hp:g≠p.block)(u:Value):aB (w.setCell p u) g t cs:=(Below.heap_setCell w p u g hp).trans h
theorem aB.below {B:Nat}(h:aB w g t cs)(hb:Below B w w')(hg:g < B):aB w' g t cs:=(hb.block g hg).trans h
theorem aB.later (h:aB w g t cs)(hb:aj w w'):aB w' g t cs:=h.below hb h.lt
theorem aB.grown {row:Option Nat}(h:aB w g t cs)(hb:w.grownBy w' row)(hg:some g≠row):aB w' g t cs:=(hb.block g h.lt hg).trans h
end
variable{w':rQ}
theorem aO{p:Nat} {w:rQ}(h:aj w w'):w.grownBy w' (some p):=⟨h.os,h.tape,h.output,h.size,λ k hk _=>h.block k hk⟩
theorem aY{p:Nat} {c:rQ}(h:a.grownBy b (some p))(k:b.grownBy c (some p)):a.grownBy c (some p):=
 ⟨k.os.trans h.os,k.tape.trans h.tape,k.output.trans h.output,Nat.le_trans h.size k.size,λ i hi hne=>(k.block i (Nat.lt_of_lt_of_le hi h.size) hne).trans (h.block i hi hne)⟩
theorem aG{p:Nat} (h:a.grownBy b (some p))(i:Nat)(u:Value):a.grownBy (b.setCell ⟨p,i,none⟩ u) (some p):=by
 refine⟨h.os,h.tape,h.output,?_,λ k hk hne=>?_⟩
 ·have:(b.setCell ⟨p,i,none⟩ u).heap.size=b.heap.size:=by simp[World.setCell]
  rw[this];exact h.size
 ·rw[Below.heap_setCell b ⟨p,i,none⟩ u k (λ e=>hne Tbd)];exact h.block k hk hne
theorem lR{p:Nat} (h:a.grownBy b (some p)):a.grownBy b.drew (some p):=⟨h.os,h.tape,h.output,h.size,h.block⟩
variable{α:Type}
def aH(f:α->wL)(e:TypeId)(size:Nat)(w:rQ)(base:Nat)(v:Value)(l:List α):Prop:=w.ownsRow base e size v l.length (l.flatMap f)
section
variable {α:Type} {f:α->wL} {e:TypeId} {size:Nat} {w w':rQ} {base:Nat} {v:Value} {l:List α}
theorem aH.nil:aH f e size w base (ay) []:=⟨by simp,.inl ⟨rfl,rfl⟩⟩
theorem aH.reads (h:aH f e size w base v l):∃A c,v=.slice A l.length c/\Reads w w.heap.size size A l.length (l.flatMap f)/\l.length<=c/\(l=[]\/∃g,A=some ⟨g,0,none⟩/\base<=g):=by
 rcases h.2 with ⟨rfl,h0⟩|⟨g,cap,cur,rfl,hb,hg,hn,hm,hs,ht⟩
 ·have:l=[]:=eq_nil_of_length_eq_zero h0;subst this;exact⟨none,0,rfl,Reads.none_,Nat.le_refl _,.inl rfl⟩
 ·exact⟨some ⟨g,0,none⟩,cap,rfl,Reads.ahn h,hn,.inr ⟨g,rfl,hb⟩⟩
theorem aH.keep (h:aH f e size w base v l)(hk:∀g,v.ownBlock=some g->w'.heap[g]?=w.heap[g]?):aH f e size w' base v l:=by
 refine⟨h.1,?_⟩;rcases h.2 with h0 |⟨g,cap,cur,rfl,hbg,hg,hn,hm,hs,ht⟩
 ·exact .inl h0
 ·exact .inr ⟨g,cap,cur,rfl,hbg,(hk g rfl).trans hg,hn,hm,hs,ht⟩
theorem aH.lt (h:aH f e size w base v l) {g:Nat}(hb:v.ownBlock=some g):g < w.heap.size/\base<=g/\∃cur,w.heap[g]?=some (.cells cur e (0,0)):=by
 rcases h.2 with ⟨rfl,_⟩|⟨g',cap,cur,rfl,hbg,Sj,hn,hm,hs,ht⟩
 ·simp[Value.ownBlock] at hb
 ·simp only[Value.ownBlock,Option.some.injEq] at hb;subst hb;refine⟨?_,hbg,cur,Sj⟩;rcases Nat.lt_or_ge g' w.heap.size with hlt | vp
  ·exact hlt
  ·rw[Array.getElem?_eq_none vp] at Sj;cases Sj
theorem aH.later (h:aH f e size w base v l)(hb:aj w w'):aH f e size w' base v l:=h.keep λ g hg=>hb.block g (h.lt hg).1
theorem aH.other (h:aH f e size w base v l) {q:Nat} {t:TypeId} {cs:x_}(h1:aB w q t cs)(ht:t≠e):v.ownBlock≠some q:=by intro hg;obtain⟨_,_,cur,h2⟩:=h.lt hg;unfold aB at h1;exact ZgP
theorem aH.grown {p:Nat}(h:aH f e size w base v l)(hg:w.grownBy w' (some p))(hp:v.ownBlock≠some p):aH f e size w' base v l:=h.keep λ g ej=>hg.block g (h.lt ej).1 λ e=>hp (by rw[ej];exact e)
theorem bj (h:aH f e size w base v l)(hg:w.grownBy w' v.ownBlock)(hbase:base<=w.heap.size):Below base w w':=by refine⟨hg.os,hg.tape,hg.output,hg.size,λ k hk=>hg.block k TD λ e=>?_⟩;have:=(h.lt e.symm).2.1;omega
theorem aS {P:Program} {ops:Array Oper} {rest:List Oper} {o:Oper} {a:Act} {Q:yD}(hgd:o.guard=none)(s x:Operand)(t:TypeId)
  (ho:o.op=.call { callee:=.builtin .append,args:= #[s,x],argTypes:= #[t,t] })
  (z:Value) (bytes:Nat) (ht:P.underlying t=some (.slice e)) (jB:(P.info? e).map (λ i=>(i.zero,i.size,i.bytes))=some (some z,size,bytes)) (hzs:z.cells.size=size) (hsz:0 < size)
  (y:α) (hf:(f y).length=size) (h1:∀u∈f y,u.oneCell'=true)
  (hs:a.eval s=v) (hown:aH f e size w base v l)
  (g:Nat) (hx:a.eval x=aL g 1 1) (hg:aB w g e (f y).toArray)
  (hlen:(l.length+1)*bytes<=140737488355328) (mL:l.length+1<=140737488355328) (hbase:base<=w.heap.size)
  (h:∀v' w',aH f e size w' base v' (l++ [y])->w.grownBy w' v.ownBlock->wpList P ops Q rest (a.put o.dst v') w'):wpList P ops Q (o::rest) a w:=by
 obtain⟨i0,kL,hz0,hz1,hz2⟩:=info_parts jB;refine cP w hgd s x t ho base e i0 z size bytes ht kL hz0 hz1 hz2 hzs hsz v l.length (l.flatMap f) hs hown (g+1) (some ⟨g,0,none⟩) 1 1 (f y) hx ⟨by omega,λ _=>⟨_,rfl,Nat.lt_succ_self _,?_⟩⟩ h1 Tak hlen hbase ?_
 ·exact ZeM
 ·intro v' w' h2 h3 h4;refine h v' w' ?_ h3;exact ZgX
end
set_option linter.unusedSimpArgs false
def aC:Val:=⟨0,0,ByteArray.empty⟩
def num (n:Int):Val:=⟨2,n,ByteArray.empty⟩
def bE (b:Bool):Val:=⟨1,if b then 1 else 0,ByteArray.empty⟩
def bP (v:Val)(err:Int):Value:=.tuple #[.agg (aJ v),af err]
def Val.Ok (a:Val):Prop:= -9223372036854775808<=a.n/\a.n<=9223372036854775807
theorem ai.then{c:rQ}(h:aj a b)(k:aj b c):aj a c:=h.trans (k.mono h.size)
theorem ah (w:rQ)(o:Obj):aj w (w.alloc o):=(Below.refl _ _).alloc (Nat.le_refl _) o
variable{g:Nat}
theorem aK{w:rQ}  {t:TypeId} {k n:Int} {s:t_}(h:aB w g t #[ag k,af n,.string s]):w.cell? ⟨g,0,none⟩=some (ag k)/\w.cell? ⟨g,1,none⟩=some (af n)/\w.cell? ⟨g,2,none⟩=some (.string s):=⟨h.cell 0,h.cell 1,h.cell 2⟩
def Hs (s:t_):Bool:=s.toList== []
def good (v:Val):Bool:=
 if v.k=0 then(v.n==0 && Hs v.s)else if v.k=1 then(Hs v.s &&(v.n==0 || v.n==1))else if v.k=2 then Hs v.s else if v.k=3 then v.n==0 else false
theorem vq (v:Val)(w:rQ):ar 44 #[.agg (aJ v)] w λ e w'=>e=.returned (.bool (good v))/\aj w w':=by
 obtain⟨k,n,s⟩:=v;unfold good Hs;dsimp only;by_cases h0:k=0
 ·subst h0;exact Zbr
 ·have e0:(k==0)=false:=by simpa using h0
  by_cases h1:k=1
  ·subst h1;cases hs:(s.toList== [])
   ·exact Zbr
   ·cases hn:(n==0)
    ·exact Zbr
    ·exact Zbr
  ·have e1:(k==1)=false:=by simpa using h1
   by_cases h2:k=2
   ·subst h2;exact Zbr
   ·have e2:(k==2)=false:=by simpa using h2
    by_cases h3:k=3
    ·subst h3;exact Zbr
    ·have e3:(k==3)=false:=by simpa using h3
     exact Zbr
theorem rX (b:Bool)(w:rQ):ar 111 #[.bool b] w λ e w'=>e=.returned (bP (bE b) 0)/\aj w w':=by
 unfold bP bE;cases b
 ·go_enter Tryz.func111,Tryz.ntmps111;go_wp2;exact bodyPost_ret (v:=.tuple #[.agg #[ag 1,af 0,.string ByteArray.empty],af 0]) Ta7 rfl ⟨rfl,by go_grown⟩
 ·go_enter Tryz.func111,Tryz.ntmps111;go_wp2;exact bodyPost_ret (v:=.tuple #[.agg #[ag 1,af 1,.string ByteArray.empty],af 0]) Ta7 rfl ⟨rfl,by go_grown⟩
def fS (n:Int)(ok:Bool):Val×Int:=if ok then(num n,0)else(aC,43)
theorem iK (n:Int)(ok:Bool)(w:rQ):ar 109 #[af n,.bool ok] w λ e w'=>e=.returned (bP (fS n ok).1 (fS n ok).2)/\aj w w':=by
 unfold bP fS;cases ok
 ·go_enter Tryz.func109,Tryz.ntmps109;go_wp2;exact bodyPost_ret (v:=.tuple #[.agg #[ag 0,af 0,.string ByteArray.empty],af 43]) Ta8 rfl ⟨rfl,by go_grown⟩
 ·go_enter Tryz.func109,Tryz.ntmps109;go_wp2;exact bodyPost_ret (v:=.tuple #[.agg #[ag 2,af n,.string ByteArray.empty],af 0]) Ta8 rfl ⟨rfl,by go_grown⟩
theorem Un (n:Int)(w:rQ):ar 76 #[af n] w λ e w'=>e=.returned (.bool (decide (1<=n)&& decide (n<=1099511627776)))/\w=w':=by
 by_cases h1:1<=n
 ·have d1:decide (1<=n)=true:=by simpa using h1
  exact Ze9
 ·have d1:decide (1<=n)=false:=by simpa using h1
  exact Ze9
def nD (op:Int):Int:=if op=21 then 0 else if 22<=op/\op<=26 then 1 else if op=27\/op=28 then 2 else -1
theorem fW (op:Int)(w:rQ):ar 77 #[ag op] w λ e w'=>e=.returned (af (nD op))/\w=w':=by
 unfold nD;by_cases h1:op=21
 ·subst h1;go_enter Tryz.func77,Tryz.ntmps77;exact Zfo
 ·have e1:(op==21)=false:=by simpa using h1
  rw[if_neg h1];by_cases h2:22<=op/\op<=26
  ·rw[if_pos h2];obtain⟨h2,h3⟩:=h2;have d2:decide (22<=op)=true:=by simpa using h2
   have d3:decide (op<=26)=true:=by simpa using h3
   go_enter Tryz.func77,Tryz.ntmps77;exact Zfo
  ·rw[if_neg h2]
   have hor:decide (22<=op)=false\/(decide (22<=op)=true/\decide (op<=26)=false):=by
    by_cases h:22<=op
    ·right;simp;omega
    ·left;simpa using h
   by_cases h3:op=27\/op=28
   ·rw[if_pos h3]
    rcases h3 with rfl | rfl;all_goals
     go_enter Tryz.func77,Tryz.ntmps77;go_wp2;go_ret;exact⟨rfl,rfl⟩
   ·rw[if_neg h3];have e3:(op==27)=false:=by rw[beq_eq_false_iff_ne];omega
    have e4:(op==28)=false:=by rw[beq_eq_false_iff_ne];omega
    clear h1 h2 h3
    rcases hor with d2 |⟨d2,d3⟩;all_goals
     go_enter Tryz.func77,Tryz.ntmps77;go_wp2;go_ret;exact⟨rfl,rfl⟩
def zK (a b:Int):Val×Int:=fS (wrap64 (a+b)) (decide (a < wrap64 (a+b))==decide (0 < b))
def zL (a b:Int):Val×Int:=fS (wrap64 (a - b)) (decide (wrap64 (a - b)< a)==decide (0 < b))
def zM (a b:Int):Val×Int:=fS (wrap64 (a*b)) (a==0 ||(wrap64 (Int.tdiv (wrap64 (a*b)) a)==b &&(a != -1 || b != -9223372036854775808)))
def Uo (a b:Int):Val×Int:=fS (wrap64 (Int.tdiv a b)) (a != -9223372036854775808 || b != -1)
def Up (a b:Int):Val×Int:=fS (Int.tmod a b) true
def YA (a:Int):Val×Int:=fS (wrap64 (-a)) (a != -9223372036854775808)
theorem abt (a b:Int)(w:rQ):ar 113 #[af a,af b] w λ e w'=>e=.returned (bP (zK a b).1 (zK a b).2)/\aj w w':=by
 go_enter Tryz.func113,Tryz.ntmps113;go_wp2_with fail
 all_goals
  refine(iK _ _ _).mono ?_;rintro e w' ⟨rfl,hr⟩;generalize Kx:fS _ _=r;have he:zK a b=r:=by rw[<- Kx];unfold zK;first |(simp_all;done)|(congr 1;rw[Bool.eq_iff_iff];simp_all;done)|(congr 1;simp_all;done)
  have HE:=aa he;clear he Kx;unfold bP;have hR:=(aB.new w 44 #[ag 0,af 0,au]).later hr;have hB:=ai.then (ah w (.cells #[ag 0,af 0,au] 44)) hr
  clear hr;have dz:=aK hR;have iB:=aB.frozen hR;clear hR;go_wp2_with fail;exact bodyPost_ret (v:=.tuple #[.agg (aJ r.1),af r.2]) (by simp[results,Tryz.results113,go_sem,dz]) rfl ⟨by rw[HE.ae];rfl,((hB.setCell (Nat.le_refl _) _).setCell (Nat.le_refl _) _).setCell (Nat.le_refl _) _⟩
theorem abu (a b:Int)(w:rQ):ar 114 #[af a,af b] w λ e w'=>e=.returned (bP (zL a b).1 (zL a b).2)/\aj w w':=by
 go_enter Tryz.func114,Tryz.ntmps114;go_wp2_with fail
 all_goals
  refine(iK _ _ _).mono ?_;rintro e w' ⟨rfl,hr⟩;generalize Kx:fS _ _=r;have he:zL a b=r:=by rw[<- Kx];unfold zL;first |(simp_all;done)|(congr 1;rw[Bool.eq_iff_iff];simp_all;done)|(congr 1;simp_all;done)
  have HE:=aa he;clear he Kx;unfold bP;have hR:=(aB.new w 44 #[ag 0,af 0,au]).later hr;have hB:=ai.then (ah w (.cells #[ag 0,af 0,au] 44)) hr
  clear hr;have dz:=aK hR;have iB:=aB.frozen hR;clear hR;go_wp2_with fail;exact bodyPost_ret (v:=.tuple #[.agg (aJ r.1),af r.2]) (by simp[results,Tryz.results114,go_sem,dz]) rfl ⟨by rw[HE.ae];rfl,((hB.setCell (Nat.le_refl _) _).setCell (Nat.le_refl _) _).setCell (Nat.le_refl _) _⟩
theorem Uq (a b:Int)(w:rQ):ar 115 #[af a,af b] w λ e w'=>e=.returned (bP (zM a b).1 (zM a b).2)/\aj w w':=by
 go_enter Tryz.func115,Tryz.ntmps115;go_wp2_with fail
 all_goals
  refine(iK _ _ _).mono ?_;rintro e w' ⟨rfl,hr⟩;generalize Kx:fS _ _=r;have he:zM a b=r:=by rw[<- Kx];unfold zM;first |(simp_all;done)|(congr 1;rw[Bool.eq_iff_iff];simp_all;done)|(congr 1;simp_all;done)
  have HE:=aa he;clear he Kx;unfold bP;have hR:=(aB.new w 44 #[ag 0,af 0,au]).later hr;have hB:=ai.then (ah w (.cells #[ag 0,af 0,au] 44)) hr
  clear hr;have dz:=aK hR;have iB:=aB.frozen hR;clear hR;go_wp2_with fail;exact bodyPost_ret (v:=.tuple #[.agg (aJ r.1),af r.2]) (by simp[results,Tryz.results115,go_sem,dz]) rfl ⟨by rw[HE.ae];rfl,((hB.setCell (Nat.le_refl _) _).setCell (Nat.le_refl _) _).setCell (Nat.le_refl _) _⟩
theorem abv (a b:Int)(hb:b≠0)(w:rQ):ar 117 #[af a,af b] w λ e w'=>e=.returned (bP (Uo a b).1 (Uo a b).2)/\aj w w':=by
 go_enter Tryz.func117,Tryz.ntmps117;go_wp2_with fail
 all_goals
  refine(iK _ _ _).mono ?_;rintro e w' ⟨rfl,hr⟩;generalize Kx:fS _ _=r;have he:Uo a b=r:=by rw[<- Kx];unfold Uo;first |(simp_all;done)|(congr 1;rw[Bool.eq_iff_iff];simp_all;done)|(congr 1;simp_all;done)
  have HE:=aa he;clear he Kx;unfold bP;have hR:=(aB.new w 44 #[ag 0,af 0,au]).later hr;have hB:=ai.then (ah w (.cells #[ag 0,af 0,au] 44)) hr
  clear hr;have dz:=aK hR;have iB:=aB.frozen hR;clear hR;go_wp2_with fail;exact bodyPost_ret (v:=.tuple #[.agg (aJ r.1),af r.2]) (by simp[results,Tryz.results117,go_sem,dz]) rfl ⟨by rw[HE.ae];rfl,((hB.setCell (Nat.le_refl _) _).setCell (Nat.le_refl _) _).setCell (Nat.le_refl _) _⟩
theorem abw (a b:Int)(hb:b≠0)(w:rQ):ar 118 #[af a,af b] w λ e w'=>e=.returned (bP (Up a b).1 (Up a b).2)/\aj w w':=by
 go_enter Tryz.func118,Tryz.ntmps118;go_wp2_with fail
 all_goals
  refine(iK _ _ _).mono ?_;rintro e w' ⟨rfl,hr⟩;generalize Kx:fS _ _=r;have he:Up a b=r:=by rw[<- Kx];unfold Up;first |(simp_all;done)|(congr 1;rw[Bool.eq_iff_iff];simp_all;done)|(congr 1;simp_all;done)
  have HE:=aa he;clear he Kx;unfold bP;have hR:=(aB.new w 44 #[ag 0,af 0,au]).later hr;have hB:=ai.then (ah w (.cells #[ag 0,af 0,au] 44)) hr
  clear hr;have dz:=aK hR;have iB:=aB.frozen hR;clear hR;go_wp2_with fail;exact bodyPost_ret (v:=.tuple #[.agg (aJ r.1),af r.2]) (by simp[results,Tryz.results118,go_sem,dz]) rfl ⟨by rw[HE.ae];rfl,((hB.setCell (Nat.le_refl _) _).setCell (Nat.le_refl _) _).setCell (Nat.le_refl _) _⟩
theorem alU (c:Int)(w:rQ):ar 120 #[af c] w λ e w'=>e=.returned (.bool (decide (c=0)))/\w=w':=by go_enter Tryz.func120,Tryz.ntmps120;exact ZbY
theorem alV (c:Int)(w:rQ):ar 121 #[af c] w λ e w'=>e=.returned (.bool (!decide (c=0)))/\w=w':=by go_enter Tryz.func121,Tryz.ntmps121;exact ZbY
theorem is_lt (c:Int)(w:rQ):ar 122 #[af c] w λ e w'=>e=.returned (.bool (decide (c < 0)))/\w=w':=by go_enter Tryz.func122,Tryz.ntmps122;exact ZbY
theorem is_le (c:Int)(w:rQ):ar 123 #[af c] w λ e w'=>e=.returned (.bool (decide (c<=0)))/\w=w':=by go_enter Tryz.func123,Tryz.ntmps123;exact ZbY
theorem alW (c:Int)(w:rQ):ar 124 #[af c] w λ e w'=>e=.returned (.bool (decide (0 < c)))/\w=w':=by go_enter Tryz.func124,Tryz.ntmps124;exact ZbY
theorem alX (c:Int)(w:rQ):ar 125 #[af c] w λ e w'=>e=.returned (.bool (decide (0<=c)))/\w=w':=by go_enter Tryz.func125,Tryz.ntmps125;exact ZbY
structure Ex where
 op:Int
 v:Val
 name:t_
 width:Int
 A:z_
 n:Nat
 c:Nat
abbrev u_:=List Ex
abbrev az (y:Ex):x_:= #[.int .u8 y.op,.int .u8 y.v.k,.int .i64 y.v.n,.string y.v.s,.string y.name,.int .i64 y.width,.slice y.A y.n y.c]
abbrev dt:x_:= #[.int .u8 0,.int .u8 0,.int .i64 0,.string ⟨#[]⟩,.string ⟨#[]⟩,.int .i64 0,.slice none 0 0]
def dE (w:rQ)(b off:Nat)(x:Val):Prop:=
 w.cell? ⟨b,off,none⟩=some (ag x.k)/\w.cell? ⟨b,off+1,none⟩=some (af x.n)/\w.cell? ⟨b,off+2,none⟩=some (.string x.s)
def RV (w:rQ)(B:Nat)(A:z_)(l:v_):Prop:=
 l=[]\/∃b off,A=some ⟨b,off,none⟩/\b < B/\∀i x,l[i]?=some x->dE w b (off+i*3) x
variable{off:Nat}{x:Val}
theorem dE.keep{w:rQ} {b:Nat} (h:dE w b off x)(hk:∀o,w'.cell? ⟨b,o,none⟩=w.cell? ⟨b,o,none⟩):dE w' b off x:=by unfold dE at*;simp only[hk];exact h
theorem RV.below{w:rQ}  {A:z_} {l:v_}(h:RV w B A l)(hb:Below B w w'):RV w' B A l:=by exact Zcp
variable{B':Nat}
theorem RV.more{w:rQ}  {A:z_} {l:v_}(h:RV w B A l)(hB:B<=B'):RV w B' A l:=by exact ZdI
theorem RV.at_{w:rQ}  {A:z_} {l:v_}(h:RV w B A l) {k:Nat}(hk:k < l.length):∃b off,A=some ⟨b,off,none⟩/\b < B/\dE w b (off+k*3) l[k]:=by exact ZcS
theorem RV.one{w:rQ}  {A:z_} (h:RV w B A [x]):∃b off,A=some ⟨b,off,none⟩/\b < B/\dE w b off x:=by obtain⟨b,off,h1,h2,h3⟩:=h.at_ (k:=0) Taa;exact⟨b,off,h1,h2,by simpa using h3⟩
variable{y:Val}
theorem RV.two{w:rQ}  {A:z_} (h:RV w B A [x,y]):∃b off,A=some ⟨b,off,none⟩/\b < B/\dE w b off x/\dE w b (off+3) y:=by
 rcases h with h |⟨b,off,h1,h2,h3⟩
 ·simp at h
 ·exact⟨b,off,h1,h2,by simpa using h3 0 x rfl,by simpa using h3 1 y rfl⟩
theorem Ow (n:Int)(ok:Bool)(w:rQ):ar 109 #[af n,.bool ok] w λ e w'=>e=.returned (.tuple #[.agg #[ag (fS n ok).1.k,af (fS n ok).1.n,.string (fS n ok).1.s],af (fS n ok).2])/\aj w w':=iK n ok w
theorem jJ (b:Bool)(w:rQ):ar 111 #[.bool b] w λ e w'=>e=.returned (.tuple #[.agg #[ag (bE b).k,af (bE b).n,.string (bE b).s],af 0])/\aj w w':=rX b w
theorem zgs.KbK(h:p:=by
 unfold dE at cV;have bJ:w.heap.size<=w.heap.size+1:=by omega
 generalize w.heap.size+1=g at*;refine aW 13 W.heap.size W (Below.refl _ _) WC WC WC WC ?_;simp only[Uab];repeat (go_big_quiet_step (first
  |(go_at_call 109;exact aP (Nat.le_refl _) (Ow _ _ _))))
 refine wpQuiet_nil ?_;rintro w3 ⟨y2,fI⟩;have hL:=y2.h;rw[<- fI] at hL;clear fI y2 cV;replace hR:=hR.later hL;replace hB:=ai.then hB hL;generalize cG:fS _ _=r;have hr:YA a.n=r:=by rw[<- cG];unfold YA;rfl
 have HE:=aa hr;clear hr cG;have dz:=aK hR;have iB:=aB.frozen hR;clear hR;go_wp2_with fail;exact bodyPost_ret (v:=.tuple #[.agg (aJ r.1),af r.2]) (by simp[results,Tryz.results108,go_sem,dz]) rfl ⟨by rw[HE.ae];rfl,((hB.setCell (bJ) _).setCell (bJ) _).setCell (bJ) _⟩):p:=h
theorem zce.Kas(h:p:=by
 replace hv:=hv.keep (w':=W) λ o=>hB.cell (p:=⟨b,o,none⟩) hb
 open zgs in exact Zep):p:=h
theorem abx (x:Ex)(A:z_)(c:Nat)(a:Val)(w:rQ)(h:RV w w.heap.size A [a]):ar 108 #[.agg (az x),.slice A 1 c] w λ e w'=>e=.returned (bP (YA a.n).1 (YA a.n).2)/\aj w w':=by obtain⟨b,off,rfl,hb,hv⟩:=h.one;go_enter Tryz.func108,Tryz.ntmps108;open zce in exact ZaJ
theorem zcf.Kas(h:p:=by
 have bJ:w.heap.size<=w.heap.size+1:=by omega
 generalize w.heap.size+1=g at*;refine(rX _ _).mono ?_;rintro e w' ⟨rfl,b3⟩;replace hR:=hR.later b3;replace hB:=ai.then hB b3;clear b3 hv' hv;generalize hr:bE _=r;have he:(r,(0:Int))=(bE (a.n==0),0):=by rw[<- hr]
 have HE:=aa he;clear he hr;unfold bP;have dz:=aK hR;have iB:=aB.frozen hR;clear hR;go_wp2_with fail;exact bodyPost_ret (v:=.tuple #[.agg #[ag (r,(0:Int)).1.k,af (r,(0:Int)).1.n,.string (r,(0:Int)).1.s],af (r,(0:Int)).2]) (by simp[results,Tryz.results110,go_sem,dz]) rfl ⟨by have:=HE.ae;injection this with h1 h2;rw[<- h1];rfl,((hB.setCell (bJ) _).setCell (bJ) _).setCell (bJ) _⟩):p:=h
theorem zgW.KbW(h:p:=by go_enter Tryz.func110,Tryz.ntmps110;open zcf in exact ZaJ):p:=h
theorem aby (x:Ex)(A:z_)(c:Nat)(a:Val)(w:rQ)(h:RV w w.heap.size A [a]):ar 110 #[.agg (az x),.slice A 1 c] w λ e w'=>e=.returned (bP (bE (a.n==0)) 0)/\aj w w':=by obtain⟨b,off,rfl,hb,hv⟩:=h.one;open zgW in exact Zfc
theorem Sk (a:Int)(g:Nat)(w:rQ):ar 168 #[af a,af 0,aw g] w λ e w'=>e=.returned (bP aC 44)/\aj w w':=by go_enter Tryz.func168,Tryz.ntmps168;go_wp2_with fail;exact bodyPost_ret (v:=.tuple #[.agg #[ag 0,af 0,.string ByteArray.empty],af 44]) (by simp[results,Tryz.results168,go_sem];try rfl) rfl ⟨rfl,by go_grown⟩
theorem YB (a b:Int)(hb:b≠0)(g k:Nat)(r:Val×Int)(w:rQ)(hg:aB w g 206 #[.func (.func k) #[] #[]])(he:∀args w,(callFunc k args).run Tryz.prog w=.ok (.enter k args) w)
  (hk:∀w,ar k #[af a,af b] w λ e w'=>e=.returned (bP r.1 r.2)/\aj w w'):ar 168 #[af a,af b,aw g] w λ e w'=>e=.returned (bP r.1 r.2)/\aj w w':=by
 have HK:=aa hk;clear hk;have e1:(b==0)=false:=by simpa using hb
 have cG:=(hg.alloc (.cells #[ag 0,af 0,au] 44)).cell 0;simp only[getElem?_toArray,getElem?_cons_zero] at cG;go_enter Tryz.func168,Tryz.ntmps168;go_wp2_with fail;refine(HK.ae _).mono ?_;rintro e w' ⟨rfl,hr⟩;unfold bP;have hR:=(aB.new w 44 #[ag 0,af 0,au]).later hr;have hB:=ai.then (ah w (.cells #[ag 0,af 0,au] 44)) hr;clear hr cG;have dz:=aK hR;have iB:=aB.frozen hR;clear hR;go_wp2_with fail;exact bodyPost_ret (v:=.tuple #[.agg (aJ r.1),af r.2]) (by simp[results,Tryz.results168,go_sem,dz]) rfl ⟨rfl,((hB.setCell (Nat.le_refl _) _).setCell (Nat.le_refl _) _).setCell (Nat.le_refl _) _⟩
theorem abz (a b:Int)(w:rQ):ar 113 #[af a,af b] w λ e w'=>e=.returned (.tuple #[.agg #[ag (zK a b).1.k,af (zK a b).1.n,.string (zK a b).1.s],af (zK a b).2])/\aj w w':=abt a b w
theorem zc2.KaC(h:p:=by generalize hr:(zK a.n b'.n)=r at*;exact Za5):p:=h
theorem zb3.Kar(h:p:=by
 generalize w.heap.size+1=g at*;refine aW 12 W.heap.size W (Below.refl _ _) WC WC WC WC ?_;simp only[Uab];repeat (go_big_quiet_step (first
  |(go_at_call 113;exact aP (Nat.le_refl _) (abz a.n b'.n _))))
 open zc2 in exact Zbe):p:=h
theorem zaa.KG(h:p:=by have lx:aB W q 206 #[.func (.func 113) #[] #[]]:=hq.later hB;open zb3 in exact ZaI):p:=h
theorem aho (x:Ex)(A:z_)(c q:Nat)(a b':Val)(w:rQ)(h:RV w w.heap.size A [a,b'])(hq:aB w q 206 #[.func (.func 113) #[] #[]]):ar 167 #[.agg (az x),.slice A 2 c,.pointer (some ⟨q,0,none⟩)] w λ e w'=>e=.returned (bP (zK a.n b'.n).1 (zK a.n b'.n).2)/\aj w w':=by obtain⟨b,off,rfl,hb,hv,hu⟩:=h.two;go_enter Tryz.func167,Tryz.ntmps167;open zaa in exact Zac
theorem abA (a b:Int)(w:rQ):ar 114 #[af a,af b] w λ e w'=>e=.returned (.tuple #[.agg #[ag (zL a b).1.k,af (zL a b).1.n,.string (zL a b).1.s],af (zL a b).2])/\aj w w':=abu a b w
theorem zc3.KaC(h:p:=by generalize hr:(zL a.n b'.n)=r at*;exact Za5):p:=h
theorem zb4.Kar(h:p:=by
 generalize w.heap.size+1=g at*;refine aW 12 W.heap.size W (Below.refl _ _) WC WC WC WC ?_;simp only[Uab];repeat (go_big_quiet_step (first
  |(go_at_call 114;exact aP (Nat.le_refl _) (abA a.n b'.n _))))
 open zc3 in exact Zbe):p:=h
theorem zab.KG(h:p:=by have lx:aB W q 206 #[.func (.func 114) #[] #[]]:=hq.later hB;open zb4 in exact ZaI):p:=h
theorem ahp (x:Ex)(A:z_)(c q:Nat)(a b':Val)(w:rQ)(h:RV w w.heap.size A [a,b'])(hq:aB w q 206 #[.func (.func 114) #[] #[]]):ar 167 #[.agg (az x),.slice A 2 c,.pointer (some ⟨q,0,none⟩)] w λ e w'=>e=.returned (bP (zL a.n b'.n).1 (zL a.n b'.n).2)/\aj w w':=by obtain⟨b,off,rfl,hb,hv,hu⟩:=h.two;go_enter Tryz.func167,Tryz.ntmps167;open zab in exact Zac
theorem Ur (a b:Int)(w:rQ):ar 115 #[af a,af b] w λ e w'=>e=.returned (.tuple #[.agg #[ag (zM a b).1.k,af (zM a b).1.n,.string (zM a b).1.s],af (zM a b).2])/\aj w w':=Uq a b w
theorem zc4.KaC(h:p:=by generalize hr:(zM a.n b'.n)=r at*;exact Za5):p:=h
theorem zb5.Kar(h:p:=by
 generalize w.heap.size+1=g at*;refine aW 12 W.heap.size W (Below.refl _ _) WC WC WC WC ?_;simp only[Uab];repeat (go_big_quiet_step (first
  |(go_at_call 115;exact aP (Nat.le_refl _) (Ur a.n b'.n _))))
 open zc4 in exact Zbe):p:=h
theorem zac.KG(h:p:=by have lx:aB W q 206 #[.func (.func 115) #[] #[]]:=hq.later hB;open zb5 in exact ZaI):p:=h
theorem YC (x:Ex)(A:z_)(c q:Nat)(a b':Val)(w:rQ)(h:RV w w.heap.size A [a,b'])(hq:aB w q 206 #[.func (.func 115) #[] #[]]):ar 167 #[.agg (az x),.slice A 2 c,.pointer (some ⟨q,0,none⟩)] w λ e w'=>e=.returned (bP (zM a.n b'.n).1 (zM a.n b'.n).2)/\aj w w':=by obtain⟨b,off,rfl,hb,hv,hu⟩:=h.two;go_enter Tryz.func167,Tryz.ntmps167;open zac in exact Zac
theorem Us (args:x_)(w:rQ):(callFunc 117 args).run Tryz.prog w=.ok (.enter 117 args) w:=by exact ZgH
def zN (a b:Int):Val×Int:=if b=0 then(aC,44)else Uo a b
theorem abB (a b:Int)(g:Nat)(w:rQ)(hg:aB w g 206 #[.func (.func 117) #[] #[]]):ar 168 #[.int .i64 a,.int .i64 b,.pointer (some ⟨g,0,none⟩)] w λ e w'=>e=.returned (.tuple #[.agg #[.int .u8 (zN a b).1.k,.int .i64 (zN a b).1.n,.string (zN a b).1.s],.int .i64 (zN a b).2])/\aj w w':=by
 by_cases hb:b=0
 ·have e:zN a b=(aC,44):=if_pos hb;rw[e];subst hb;exact Sk a g w
 ·have e:zN a b=Uo a b:=if_neg hb;rw[e];exact YB a b hb g _ _ w hg Us (abv a b hb)
theorem zc5.KaC(h:p:=by generalize hr:(zN a.n b'.n)=r at*;exact Za5):p:=h
theorem zb6.Kar(h:p:=by
 generalize w.heap.size+1=g at*;refine aW 12 W.heap.size W (Below.refl _ _) WC WC WC WC ?_;simp only[Uab];repeat (go_big_quiet_step (first
  |(go_at_call 168;exact aP (Nat.le_refl _) (abB a.n b'.n q2 _ (hq3.later (Ext.h _))))))
 open zc5 in exact Zbe):p:=h
theorem zad.KG(h:p:=by have hq3:=lx.later hB;have lx:aB W q 206 #[.func (.func 168) #[] #[aw q2]]:=hq.later hB;open zb6 in exact ZaI):p:=h
theorem ahq (x:Ex)(A:z_)(c q:Nat)(a b':Val)(q2:Nat)(w:rQ)(h:RV w w.heap.size A [a,b'])(hq:aB w q 206 #[.func (.func 168) #[] #[.pointer (some ⟨q2,0,none⟩)]])(lx:aB w q2 206 #[.func (.func 117) #[] #[]]):ar 167 #[.agg (az x),.slice A 2 c,.pointer (some ⟨q,0,none⟩)] w λ e w'=>e=.returned (bP (zN a.n b'.n).1 (zN a.n b'.n).2)/\aj w w':=by obtain⟨b,off,rfl,hb,hv,hu⟩:=h.two;go_enter Tryz.func167,Tryz.ntmps167;open zad in exact Zac
theorem Ut (args:x_)(w:rQ):(callFunc 118 args).run Tryz.prog w=.ok (.enter 118 args) w:=by exact ZgH
def zO (a b:Int):Val×Int:=if b=0 then(aC,44)else Up a b
theorem abC (a b:Int)(g:Nat)(w:rQ)(hg:aB w g 206 #[.func (.func 118) #[] #[]]):ar 168 #[.int .i64 a,.int .i64 b,.pointer (some ⟨g,0,none⟩)] w λ e w'=>e=.returned (.tuple #[.agg #[.int .u8 (zO a b).1.k,.int .i64 (zO a b).1.n,.string (zO a b).1.s],.int .i64 (zO a b).2])/\aj w w':=by
 by_cases hb:b=0
 ·have e:zO a b=(aC,44):=if_pos hb;rw[e];subst hb;exact Sk a g w
 ·have e:zO a b=Up a b:=if_neg hb;rw[e];exact YB a b hb g _ _ w hg Ut (abw a b hb)
theorem zc6.KaC(h:p:=by generalize hr:(zO a.n b'.n)=r at*;exact Za5):p:=h
theorem zb7.Kar(h:p:=by
 generalize w.heap.size+1=g at*;refine aW 12 W.heap.size W (Below.refl _ _) WC WC WC WC ?_;simp only[Uab];repeat (go_big_quiet_step (first
  |(go_at_call 168;exact aP (Nat.le_refl _) (abC a.n b'.n q2 _ (hq3.later (Ext.h _))))))
 open zc6 in exact Zbe):p:=h
theorem zae.KG(h:p:=by have hq3:=lx.later hB;have lx:aB W q 206 #[.func (.func 168) #[] #[aw q2]]:=hq.later hB;open zb7 in exact ZaI):p:=h
theorem ahr (x:Ex)(A:z_)(c q:Nat)(a b':Val)(q2:Nat)(w:rQ)(h:RV w w.heap.size A [a,b'])(hq:aB w q 206 #[.func (.func 168) #[] #[.pointer (some ⟨q2,0,none⟩)]])(lx:aB w q2 206 #[.func (.func 118) #[] #[]]):ar 167 #[.agg (az x),.slice A 2 c,.pointer (some ⟨q,0,none⟩)] w λ e w'=>e=.returned (bP (zO a.n b'.n).1 (zO a.n b'.n).2)/\aj w w':=by obtain⟨b,off,rfl,hb,hv,hu⟩:=h.two;go_enter Tryz.func167,Tryz.ntmps167;open zae in exact Zac
theorem zc7.KaC(h:p:=by
 generalize hr:bE (decide (cc=0))=r at*;have HE:fw ((r,(0:Int))=(bE (decide (bM a b'=0)),0)):=by rw[HC.ae,hr];exact rfl
 exact Zaw):p:=h
theorem zb8.Kar(h:p:=by
 generalize w.heap.size+1=g at*;have kC:=aa (ei a b');generalize hcc:bM a b'=cc at kC;have HC:=aa hcc;clear hcc;refine aW 12 W.heap.size W (Below.refl _ _) WC WC WC WC ?_;simp only[Uab];repeat (go_big_quiet_step (first
  |(go_at_call 18;exact aP (Nat.le_refl _) (kC.ae _))
  |(go_at_call 120;exact dr (alU cc _))
  |(go_at_call 111;exact aP (Nat.le_refl _) (jJ _ _))))
 open zc7 in exact Zbe):p:=h
theorem zaf.KG(h:p:=by have lx:aB W q 208 #[.func (.func 120) #[] #[]]:=hq.later hB;open zb8 in exact ZaI):p:=h
theorem alY (x:Ex)(A:z_)(c q:Nat)(a b':Val)(w:rQ)(h:RV w w.heap.size A [a,b'])(hq:aB w q 208 #[.func (.func 120) #[] #[]]):ar 169 #[.agg (az x),.slice A 2 c,.pointer (some ⟨q,0,none⟩)] w λ e w'=>e=.returned (bP (bE (decide (bM a b'=0))) 0)/\aj w w':=by obtain⟨b,off,rfl,hb,hv,hu⟩:=h.two;go_enter Tryz.func169,Tryz.ntmps169;open zaf in exact Zac
theorem zc8.KaC(h:p:=by
 generalize hr:bE (!decide (cc=0))=r at*;have HE:fw ((r,(0:Int))=(bE (!decide (bM a b'=0)),0)):=by rw[HC.ae,hr];exact rfl
 exact Zaw):p:=h
theorem zb9.Kar(h:p:=by
 generalize w.heap.size+1=g at*;have kC:=aa (ei a b');generalize hcc:bM a b'=cc at kC;have HC:=aa hcc;clear hcc;refine aW 12 W.heap.size W (Below.refl _ _) WC WC WC WC ?_;simp only[Uab];repeat (go_big_quiet_step (first
  |(go_at_call 18;exact aP (Nat.le_refl _) (kC.ae _))
  |(go_at_call 121;exact dr (alV cc _))
  |(go_at_call 111;exact aP (Nat.le_refl _) (jJ _ _))))
 open zc8 in exact Zbe):p:=h
theorem zag.KG(h:p:=by have lx:aB W q 208 #[.func (.func 121) #[] #[]]:=hq.later hB;open zb9 in exact ZaI):p:=h
theorem alZ (x:Ex)(A:z_)(c q:Nat)(a b':Val)(w:rQ)(h:RV w w.heap.size A [a,b'])(hq:aB w q 208 #[.func (.func 121) #[] #[]]):ar 169 #[.agg (az x),.slice A 2 c,.pointer (some ⟨q,0,none⟩)] w λ e w'=>e=.returned (bP (bE (!decide (bM a b'=0))) 0)/\aj w w':=by obtain⟨b,off,rfl,hb,hv,hu⟩:=h.two;go_enter Tryz.func169,Tryz.ntmps169;open zag in exact Zac
theorem zc9.KaC(h:p:=by
 generalize hr:bE (decide (cc < 0))=r at*;have HE:fw ((r,(0:Int))=(bE (decide (bM a b' < 0)),0)):=by rw[HC.ae,hr];exact rfl
 exact Zaw):p:=h
theorem zca.Kar(h:p:=by
 generalize w.heap.size+1=g at*;have kC:=aa (ei a b');generalize hcc:bM a b'=cc at kC;have HC:=aa hcc;clear hcc;refine aW 12 W.heap.size W (Below.refl _ _) WC WC WC WC ?_;simp only[Uab];repeat (go_big_quiet_step (first
  |(go_at_call 18;exact aP (Nat.le_refl _) (kC.ae _))
  |(go_at_call 122;exact dr (is_lt cc _))
  |(go_at_call 111;exact aP (Nat.le_refl _) (jJ _ _))))
 open zc9 in exact Zbe):p:=h
theorem zah.KG(h:p:=by have lx:aB W q 208 #[.func (.func 122) #[] #[]]:=hq.later hB;open zca in exact ZaI):p:=h
theorem ama (x:Ex)(A:z_)(c q:Nat)(a b':Val)(w:rQ)(h:RV w w.heap.size A [a,b'])(hq:aB w q 208 #[.func (.func 122) #[] #[]]):ar 169 #[.agg (az x),.slice A 2 c,.pointer (some ⟨q,0,none⟩)] w λ e w'=>e=.returned (bP (bE (decide (bM a b' < 0))) 0)/\aj w w':=by obtain⟨b,off,rfl,hb,hv,hu⟩:=h.two;go_enter Tryz.func169,Tryz.ntmps169;open zah in exact Zac
theorem zda.KaC(h:p:=by
 generalize hr:bE (decide (cc<=0))=r at*;have HE:fw ((r,(0:Int))=(bE (decide (bM a b'<=0)),0)):=by rw[HC.ae,hr];exact rfl
 exact Zaw):p:=h
theorem zcb.Kar(h:p:=by
 generalize w.heap.size+1=g at*;have kC:=aa (ei a b');generalize hcc:bM a b'=cc at kC;have HC:=aa hcc;clear hcc;refine aW 12 W.heap.size W (Below.refl _ _) WC WC WC WC ?_;simp only[Uab];repeat (go_big_quiet_step (first
  |(go_at_call 18;exact aP (Nat.le_refl _) (kC.ae _))
  |(go_at_call 123;exact dr (is_le cc _))
  |(go_at_call 111;exact aP (Nat.le_refl _) (jJ _ _))))
 open zda in exact Zbe):p:=h
theorem zai.KG(h:p:=by have lx:aB W q 208 #[.func (.func 123) #[] #[]]:=hq.later hB;open zcb in exact ZaI):p:=h
theorem amb (x:Ex)(A:z_)(c q:Nat)(a b':Val)(w:rQ)(h:RV w w.heap.size A [a,b'])(hq:aB w q 208 #[.func (.func 123) #[] #[]]):ar 169 #[.agg (az x),.slice A 2 c,.pointer (some ⟨q,0,none⟩)] w λ e w'=>e=.returned (bP (bE (decide (bM a b'<=0))) 0)/\aj w w':=by obtain⟨b,off,rfl,hb,hv,hu⟩:=h.two;go_enter Tryz.func169,Tryz.ntmps169;open zai in exact Zac
theorem zdb.KaC(h:p:=by
 generalize hr:bE (decide (0 < cc))=r at*;have HE:fw ((r,(0:Int))=(bE (decide (0 < bM a b')),0)):=by rw[HC.ae,hr];exact rfl
 exact Zaw):p:=h
theorem zcc.Kar(h:p:=by
 generalize w.heap.size+1=g at*;have kC:=aa (ei a b');generalize hcc:bM a b'=cc at kC;have HC:=aa hcc;clear hcc;refine aW 12 W.heap.size W (Below.refl _ _) WC WC WC WC ?_;simp only[Uab];repeat (go_big_quiet_step (first
  |(go_at_call 18;exact aP (Nat.le_refl _) (kC.ae _))
  |(go_at_call 124;exact dr (alW cc _))
  |(go_at_call 111;exact aP (Nat.le_refl _) (jJ _ _))))
 open zdb in exact Zbe):p:=h
theorem zaj.KG(h:p:=by have lx:aB W q 208 #[.func (.func 124) #[] #[]]:=hq.later hB;open zcc in exact ZaI):p:=h
theorem amc (x:Ex)(A:z_)(c q:Nat)(a b':Val)(w:rQ)(h:RV w w.heap.size A [a,b'])(hq:aB w q 208 #[.func (.func 124) #[] #[]]):ar 169 #[.agg (az x),.slice A 2 c,.pointer (some ⟨q,0,none⟩)] w λ e w'=>e=.returned (bP (bE (decide (0 < bM a b'))) 0)/\aj w w':=by obtain⟨b,off,rfl,hb,hv,hu⟩:=h.two;go_enter Tryz.func169,Tryz.ntmps169;open zaj in exact Zac
theorem zdc.KaC(h:p:=by
 generalize hr:bE (decide (0<=cc))=r at*;have HE:fw ((r,(0:Int))=(bE (decide (0<=bM a b')),0)):=by rw[HC.ae,hr];exact rfl
 exact Zaw):p:=h
theorem zcd.Kar(h:p:=by
 generalize w.heap.size+1=g at*;have kC:=aa (ei a b');generalize hcc:bM a b'=cc at kC;have HC:=aa hcc;clear hcc;refine aW 12 W.heap.size W (Below.refl _ _) WC WC WC WC ?_;simp only[Uab];repeat (go_big_quiet_step (first
  |(go_at_call 18;exact aP (Nat.le_refl _) (kC.ae _))
  |(go_at_call 125;exact dr (alX cc _))
  |(go_at_call 111;exact aP (Nat.le_refl _) (jJ _ _))))
 open zdc in exact Zbe):p:=h
theorem zak.KG(h:p:=by have lx:aB W q 208 #[.func (.func 125) #[] #[]]:=hq.later hB;open zcd in exact ZaI):p:=h
theorem amd (x:Ex)(A:z_)(c q:Nat)(a b':Val)(w:rQ)(h:RV w w.heap.size A [a,b'])(hq:aB w q 208 #[.func (.func 125) #[] #[]]):ar 169 #[.agg (az x),.slice A 2 c,.pointer (some ⟨q,0,none⟩)] w λ e w'=>e=.returned (bP (bE (decide (0<=bM a b'))) 0)/\aj w w':=by obtain⟨b,off,rfl,hb,hv,hu⟩:=h.two;go_enter Tryz.func169,Tryz.ntmps169;open zak in exact Zac
theorem zb2.Kar(h:p:=by
 generalize w.heap.size+1=g at*;refine aW 10 W.heap.size W (Below.refl _ _) WC WC WC WC ?_;simp only[Uab];repeat (go_big_quiet_step (first
  |(go_at_call 111;exact aP (Nat.le_refl _) (jJ _ _))))
 refine wpQuiet_nil ?_;rintro w3 ⟨y2,fI⟩;have hL:=y2.h;rw[<- fI] at hL;clear fI y2 cV cQ;replace hR:=hR.later hL;replace hB:=ai.then hB hL;generalize hr:bE _=r at*;have HE:fw ((r,(0:Int))=(bE ((a.k==0)==is),0)):=by rw[<- hr];exact rfl
 clear hr;have dz:=aK hR;have iB:=aB.frozen hR;clear hR;go_wp2_with fail;exact bodyPost_ret (v:=.tuple #[.agg #[ag (r,(0:Int)).1.k,af (r,(0:Int)).1.n,.string (r,(0:Int)).1.s],af (r,(0:Int)).2]) (by simp[results,Tryz.results172,go_sem,dz]) rfl ⟨by have:=HE.ae;injection this with h1 h2;rw[<- h1];rfl,((hB.setCell (bJ) _).setCell (bJ) _).setCell (bJ) _⟩):p:=h
theorem zgu.KbK(h:p:=by unfold dE at cV;have lx:aB W q 4 #[.bool is]:=hq.later hB;open zb2 in exact ZaI):p:=h
theorem zeP.Ka7(h:p:=by
 replace hv:=hv.keep (w':=W) λ o=>hB.cell (p:=⟨b,o,none⟩) hb
 open zgu in exact Zep):p:=h
theorem KB (x:Ex)(A:z_)(c q:Nat)(is:Bool)(a:Val)(w:rQ)(h:RV w w.heap.size A [a])(hq:aB w q 4 #[.bool is]):ar 172 #[.agg (az x),.slice A 1 c,aw q] w λ e w'=>e=.returned (bP (bE ((a.k==0)==is)) 0)/\aj w w':=by obtain⟨b,off,rfl,hb,hv⟩:=h.one;go_enter Tryz.func172,Tryz.ntmps172;open zeP in exact ZcJ
def vt (n wd:Int):Int:=n % wd
def vu (n wd:Int):Val×Int:=fS (wrap64 (n - vt n wd)) (decide (-9223372036854775808+vt n wd<=n))
theorem abD (n wd:Int)(h1:1<=wd):Int.tmod (Int.tmod n wd+wd) wd=vt n wd/\ -wd < Int.tmod n wd/\Int.tmod n wd < wd/\0<=vt n wd/\vt n wd < wd:=by have b1:=Int.tmod_lt_of_pos n (show 0 < wd by omega);have b2:=Int.lt_tmod_of_pos n (show 0 < wd by omega);have b3:=Int.emod_nonneg n (show wd≠0 by omega);have b4:=Int.emod_lt_of_pos n (show 0 < wd by omega);refine⟨?_,b2,b1,b3,b4⟩;rw[Int.tmod_eq_emod_of_nonneg (show 0<=Int.tmod n wd+wd by omega)];unfold vt;rw[Int.add_emod_right];have e:=Int.tmod_add_mul_tdiv n wd;have h2:(Int.tmod n wd+wd*Int.tdiv n wd)% wd=Int.tmod n wd % wd:=Int.add_mul_emod_self_left _ _ _;rw[e] at h2;exact h2.symm
theorem zdx.KaI(h:p:=by
 clear fI y2 cV;replace hR:=hR.later hL;replace hB:=ai.then hB hL;go_wp2_with fail;refine(iK _ _ _).mono ?_;rintro e w' ⟨rfl,b3⟩;replace hR:=hR.later b3;replace hB:=ai.then hB b3;clear b3 hv';generalize hr:fS _ _=r;have he:vu a.n x.width=r:=by rw[<- hr,HBT.ae]
 have HE:=aa he;clear he hr HBT;unfold bP;have dz:=aK hR;have iB:=aB.frozen hR;clear hR;go_wp2_with fail;exact bodyPost_ret (v:=.tuple #[.agg (aJ r.1),af r.2]) (by simp[results,Tryz.results128,go_sem,dz]) rfl ⟨by rw[HE.ae];rfl,((hB.setCell (bJ) _).setCell (bJ) _).setCell (bJ) _⟩):p:=h
theorem zcg.Kas(h:p:=by
 have bJ:w.heap.size<=w.heap.size+1:=by omega
 generalize w.heap.size+1=g at*;have cV:=λ y:Ext W.heap.size W=>(hX.later y.h).cell 5
 simp only[Uaa] at cV;refine aW 11 W.heap.size W (Below.refl _ _) WC WC WC WC ?_;simp only[Uab];open zdx in exact ZbD):p:=h
theorem zgX.KbW(h:p:=by go_enter Tryz.func128,Tryz.ntmps128;open zcg in exact ZaJ):p:=h
theorem Uu (x:Ex)(A:z_)(c:Nat)(a:Val)(w:rQ)(h:RV w w.heap.size A [a])(hw1:1<=x.width)(hw2:x.width<=1099511627776)(hn:a.Ok):ar 128 #[.agg (az x),.slice A 1 c] w λ e w'=>e=.returned (bP (vu a.n x.width).1 (vu a.n x.width).2)/\aj w w':=by
 obtain⟨b,off,rfl,hb,hv⟩:=h.one;obtain⟨n1,n2⟩:=hn;obtain⟨r1,r2,r3,r4,r5⟩:=abD a.n x.width hw1;have HBT:fw (vu a.n x.width=fS (wrap64 (a.n - vt a.n x.width)) (decide (-9223372036854775808+vt a.n x.width<=a.n))):=rfl;have hz:(x.width==0)=false:=by rw[beq_eq_false_iff_ne];omega
 generalize vt a.n x.width=rs at*;open zgX in exact Zfc
def pP (v x:Val):Bool:=v.k==x.k && v.n==x.n && v.s.toList==x.s.toList
def Ht (v:Val)(l:v_):Bool:=l.any (pP v)
def abF (l:v_)(v:Val)(w:rQ)(e:Ending)(w':rQ):Prop:=∃i:Int,e=.returned (af i)/\decide (0<=i)=Ht v l/\aj w w'
theorem zdp.KaI(h:p:=by
 clear fI y2 cV cU cQ;have bW:=ai.then hB (ai.then hb hL)
 have ame:pP v x=false->∀y∈l.take (k+1),pP v y=false:=by
  intro heq y hy;rw[HT.ae] at hy;rcases List.mem_append.1 hy with hy | hy
  ·exact HP.ae y hy
  ·simp at hy;subst hy;exact heq
 have HN2:=aa ame;clear ame HT;obtain⟨xk,xn,xs⟩:=x;dsimp only;by_cases h1:v.k=xk
 ·subst h1;by_cases h2:v.n=xn
  ·subst h2;by_cases h3:v.s.toList=xs.toList
   ·have EW:pP v ⟨v.k,v.n,xs⟩=true:=by simp[pP,h3]
    have HV1:=aa EW;clear EW;go_wp2_with fail;go_ret;exact⟨_,rfl,by rw[show Ht v l=true from List.any_eq_true.2 ⟨_,HM.ae,HV1.ae⟩];simp,bW⟩
   ·have EW:pP v ⟨v.k,v.n,xs⟩=false:=by simp[pP,h3]
    exact Zcx
  ·have EW:pP v ⟨v.k,xn,xs⟩=false:=by simp[pP,h2]
   exact Zcx
 ·have EW:pP v ⟨xk,xn,xs⟩=false:=by simp[pP,h1]
  exact Zcx):p:=h
theorem Uv (A:z_)(c:Nat)(l:v_)(v:Val)(w:rQ)(h:RV w w.heap.size A l)(hl:l.length<=1000000):ar 196 #[.slice A l.length c,.agg (aJ v)] w (abF l v w):=by
 have HH:=aa h;clear h;go_enter Tryz.func196,Tryz.ntmps196;go_wp2_with fail;have hV:=aB.new w 44 (aJ v);have hB:=ah w (.cells (aJ v) 44);generalize w.alloc (.cells (aJ v) 44)=W at*;go_loopw [8] (λ i wr=>∃k:Nat,k<=l.length/\i=af k/\(∀x∈l.take k,pP v x=false)/\aj W wr) (λ i _=>l.length - (intOf i).toNat);case atStart=>exact⟨0,Nat.zero_le _,rfl,by simp,Below.refl _ _⟩
 case round=>
  obtain⟨k,hk,rfl,hp,hb⟩:=hrel;have HP:=aa hp;clear hp;by_cases hlt:k < l.length
  ·obtain⟨b,off,rfl,Kx,cQ⟩:=((HH.ae.below hB).more hB.size |>.below hb).at_ hlt;have HT:=aa (show l.take (k+1)=l.take k++ [l[k]] by rw[take_add_one,getElem?_eq_getElem hlt];rfl);have HM:=aa (getElem_mem hlt);generalize l[k]=x at*;go_wp2_with fail;have cV:=λ y:Ext wr.heap.size wr=>cQ.keep (w':=y.w) λ o=>y.cell (p:=⟨b,o,none⟩) (Nat.lt_of_lt_of_le Kx hb.size)
   have cU:=λ y:Ext wr.heap.size wr=>aK (hV.later (ai.then hb y.h))
   unfold dE at cV;refine aW 5 wr.heap.size wr (Below.refl _ _) WC WC WC WC ?_;simp only[Uab];open zdp in exact ZbD
  ·have hall:Ht v l=false:=by have:=HP.ae;rw[take_of_length_le TD] at this;unfold Ht;rw[any_eq_false];intro x hx;rw[this x hx];simp
   have Ax:=aa hall;clear hall;go_wp2_with fail;go_ret;exact⟨_,rfl,by rw[Ax.ae];rfl,ai.then hB hb⟩
theorem vw (A:z_)(c:Nat)(l:v_)(v:Val)(w:rQ)(h:RV w w.heap.size A l)(hl:l.length<=1000000):ar 171 #[.slice A l.length c,.agg (aJ v)] w λ e w'=>e=.returned (.bool (Ht v l))/\aj w w':=by have HH:=aa h;clear h;go_enter Tryz.func171,Tryz.ntmps171;have hB:=ah w (.cells (aJ v) 44);go_wp2_with fail;refine(Uv A c l v _ ((HH.ae.below hB).more hB.size) hl).mono ?_;rintro e w' ⟨i,rfl,hi,b1⟩;go_wp2_with fail;go_ret;exact⟨rfl,ai.then hB b1⟩
def lS (short:Bool)(l:v_):Val:=if Ht (bE short) l then bE short else if Ht aC l then aC else bE (!short)
theorem KD (x:Ex)(A:z_)(c q:Nat)(short:Bool)(l:v_)(w:rQ)(h:RV w w.heap.size A l)(hl:l.length<=1000000)(cN:aB w q 4 #[.bool short]):ar 170 #[.agg (az x),.slice A l.length c,aw q] w λ e w'=>e=.returned (bP (lS short l) 0)/\aj w w':=by
 have HH:=aa h;clear h;have hB:=ai.then (ah w (.cells (az x) 46)) (ah _ (.cells #[ag 0,af 0,au] 44));have hR:=aB.new (w.alloc (.cells (az x) 46)) 44 #[ag 0,af 0,au];rw[World.size_alloc] at hR;replace cN:=cN.later hB;have cb:=cN.cell 0;simp only[getElem?_toArray,getElem?_cons_zero] at cb;go_enter Tryz.func170,Tryz.ntmps170;go_wp2_with fail;clear cb;generalize (w.alloc (.cells (az x) 46)).alloc (.cells #[ag 0,af 0,au] 44)=W at*;have bJ:w.heap.size<=w.heap.size+1:=by omega
 generalize w.heap.size+1=g at*;refine(rX short _).mono ?_;rintro e w1 ⟨rfl,b1⟩;unfold bP;replace hR:=hR.later (ai.then b1 (ah w1 (.cells #[ag (bE short).k,af (bE short).n,.string (bE short).s] 44)));replace cN:=cN.later (ai.then b1 (ah w1 (.cells #[ag (bE short).k,af (bE short).n,.string (bE short).s] 44)));replace hB:=ai.then hB (ai.then b1 (ah w1 (.cells #[ag (bE short).k,af (bE short).n,.string (bE short).s] 44)));have hV:=aB.new w1 44 #[ag (bE short).k,af (bE short).n,.string (bE short).s];clear b1;have cV:=aK hV;go_wp2_with fail;clear cV;generalize w1.alloc (.cells #[ag (bE short).k,af (bE short).n,.string (bE short).s] 44)=W1 at*;generalize w1.heap.size=g1 at*;refine(vw A c l (bE short) _ ((HH.ae.below hB).more hB.size) hl).mono ?_;rintro e w2 ⟨rfl,b3⟩;replace hR:=hR.later b3;replace cN:=cN.later b3;replace hB:=ai.then hB b3;replace hV:=hV.later b3;clear b3;cases h1:Ht (bE short) l
 ·go_wp2_with fail;refine(vw A c l aC _ ((HH.ae.below hB).more hB.size) hl).mono ?_;rintro e w3 ⟨rfl,Lw⟩;replace hR:=hR.later Lw;replace cN:=cN.later Lw;replace hB:=ai.then hB Lw;clear Lw hV;have dz:=aK hR;have iB:=aB.frozen hR;cases h2:Ht aC l
  ·have cb:=cN.cell 0;simp only[getElem?_toArray,getElem?_cons_zero] at cb;have HL:=aa (show lS short l=bE (!short) by simp[lS,h1,h2]);go_wp2_with fail;refine(rX _ _).mono ?_;rintro e w4 ⟨rfl,b4⟩;unfold bP;replace hR:=hR.later b4;replace hB:=ai.then hB b4;clear b4 dz iB cb;have dz:=aK hR;have iB:=aB.frozen hR;clear hR;generalize hr:bE (!short)=r at*;exact Zdv
  ·have HL:=aa (show lS short l=aC by simp[lS,h1,h2]);clear hR;go_wp2_with fail;exact bodyPost_ret (v:=.tuple #[.agg #[ag 0,af 0,.string ByteArray.empty],af 0]) (by simp[results,Tryz.results170,go_sem,dz];try rfl) rfl ⟨by rw[HL.ae];rfl,((hB.setCell bJ _).setCell bJ _).setCell bJ _⟩
 ·have HL:=aa (show lS short l=bE short by simp[lS,h1]);have dz:=aK hR;have iB:=aB.frozen hR;have cV:=aK hV;clear hR hV;generalize hr:bE short=r at*;exact Zdv
def fk (args wants gives:Int)(alike amf:Bool)(d:Value):Value:=.agg #[af args,ag wants,ag gives,.bool alike,.bool amf,d]
def gU (w:rQ):Nat->Value->Prop
 | 3,v=>v=fk 1 2 2 false false (.func (.func 108) #[] #[])
 | 4,v=>v=fk 1 1 1 false false (.func (.func 110) #[] #[])
 | 5,v=>∃q,v=fk 2 2 2 false false (.func (.func 167) #[] #[aw q])/\aB w q 206 #[(.func (.func 113) #[] #[])]
 | 6,v=>∃q,v=fk 2 2 2 false false (.func (.func 167) #[] #[aw q])/\aB w q 206 #[(.func (.func 114) #[] #[])]
 | 7,v=>∃q,v=fk 2 2 2 false false (.func (.func 167) #[] #[aw q])/\aB w q 206 #[(.func (.func 115) #[] #[])]
 | 8,v=>∃q q2,v=fk 2 2 2 false false (.func (.func 167) #[] #[aw q])/\aB w q 206 #[(.func (.func 168) #[] #[aw q2])]/\aB w q2 206 #[(.func (.func 117) #[] #[])]
 | 9,v=>∃q q2,v=fk 2 2 2 false false (.func (.func 167) #[] #[aw q])/\aB w q 206 #[(.func (.func 168) #[] #[aw q2])]/\aB w q2 206 #[(.func (.func 118) #[] #[])]
 | 10,v=>∃q,v=fk 2 0 1 true false (.func (.func 169) #[] #[aw q])/\aB w q 208 #[(.func (.func 120) #[] #[])]
 | 11,v=>∃q,v=fk 2 0 1 true false (.func (.func 169) #[] #[aw q])/\aB w q 208 #[(.func (.func 121) #[] #[])]
 | 12,v=>∃q,v=fk 2 0 1 true false (.func (.func 169) #[] #[aw q])/\aB w q 208 #[(.func (.func 122) #[] #[])]
 | 13,v=>∃q,v=fk 2 0 1 true false (.func (.func 169) #[] #[aw q])/\aB w q 208 #[(.func (.func 123) #[] #[])]
 | 14,v=>∃q,v=fk 2 0 1 true false (.func (.func 169) #[] #[aw q])/\aB w q 208 #[(.func (.func 124) #[] #[])]
 | 15,v=>∃q,v=fk 2 0 1 true false (.func (.func 169) #[] #[aw q])/\aB w q 208 #[(.func (.func 125) #[] #[])]
 | 16,v=>∃q,v=fk 2 1 1 false true (.func (.func 170) #[] #[aw q])/\aB w q 4 #[.bool false]
 | 17,v=>∃q,v=fk 2 1 1 false true (.func (.func 170) #[] #[aw q])/\aB w q 4 #[.bool true]
 | 18,v=>∃q,v=fk 1 0 1 false true (.func (.func 172) #[] #[aw q])/\aB w q 4 #[.bool true]
 | 19,v=>∃q,v=fk 1 0 1 false true (.func (.func 172) #[] #[aw q])/\aB w q 4 #[.bool false]
 | 20,v=>v=fk 1 2 2 false false (.func (.func 128) #[] #[])
 | _,_=>False
theorem gU.keep{w:rQ}(hk:∀(q:Nat) (t:TypeId) (cs:x_),aB w q t cs->aB w' q t cs):∀(k:Nat) (v:Value),gU w k v->gU w' k v:=by
 intro k v h;unfold gU at*;split at h
 ·exact h
 ·exact h
 ·exact Zbw
 ·exact Zbw
 ·exact Zbw
 ·exact ZgO
 ·exact ZgO
 ·exact Zbw
 ·exact Zbw
 ·exact Zbw
 ·exact Zbw
 ·exact Zbw
 ·exact Zbw
 ·exact Zbw
 ·exact Zbw
 ·exact Zbw
 ·exact Zbw
 ·exact h
 ·exact h
def Ox (w:rQ)(g:Nat)(es:Array MapEntry)(c:Nat):Prop:=w.heap[g]?=some (.map es c)/\∀e∈es.toList,∃k:Nat,e.key=ag k/\gU w k e.val
variable{es:Array MapEntry}
theorem Ox.lt{w:rQ}   {c:Nat}(h:Ox w g es c):g < w.heap.size:=by
 rcases Nat.lt_or_ge g w.heap.size with hlt | vp
 ·exact hlt
 ·have:=h.1;rw[Array.getElem?_eq_none vp] at this;cases this
theorem Ox.later{w:rQ}   {c:Nat}(h:Ox w g es c)(hb:aj w w'):Ox w' g es c:=
 ⟨(hb.block g h.lt).trans h.1,λ e he=>by obtain⟨k,h1,h2⟩:=h.2 e he;exact⟨k,h1,h2.keep (λ q t cs hq=>hq.later hb) _ _⟩⟩
def iL (w:rQ)(g:Nat)(es:Array MapEntry)(c:Nat):rQ:= { w with heap:=w.heap.setIfInBounds g (.map es c)}
theorem Hu{w:rQ}(h:Below B w0 w)(g:Nat)(hg:B<=g)(es:Array MapEntry)(c:Nat):Below B w0 (iL w g es c):=by
 refine⟨h.os,h.tape,h.output,?_,λ k hk=>?_⟩
 ·have:=h.size;simp[iL];exact this
 ·rw[<- h.block k hk];simp only[iL,Array.getElem?_setIfInBounds];rw[if_neg TD]
theorem Ox.push{w:rQ}   {c:Nat}(h:Ox w g es c)(k:Nat)(v:Value)(hv:gU w k v):Ox (iL w g (es.push ⟨ag k,v,c⟩) (c+1)) g (es.push ⟨ag k,v,c⟩) (c+1):=by
 have hlt:=h.lt
 have keep:∀(q:Nat) (t:TypeId) (cs:x_),aB w q t cs->aB (iL w g (es.push ⟨ag k,v,c⟩) (c+1)) q t cs:=by
  intro q t cs hq;have hne:g≠q:=by intro e;subst e;have h1:=h.1;unfold aB at hq;rw[hq] at h1;cases h1
  unfold aB at*;simp only[iL,Array.getElem?_setIfInBounds];rw[if_neg hne];exact hq
 refine⟨by simp[iL,hlt],λ e he=>?_⟩;rw[Array.toList_push] at he;rcases List.mem_append.1 he with he | he
 ·obtain⟨k',h1,h2⟩:=h.2 e he;exact⟨k',h1,h2.keep keep _ _⟩
 ·simp at he;subst he;exact⟨k,rfl,hv.keep keep _ _⟩
theorem xu (e:Bool)(k:Int)(w:rQ):(Instr.checkKey e 10000 5 (ag k)).run Tryz.prog w=.ok () w:=
 MapKept.run_checkKey Tryz.underlying5 (by simp[MapKept.IsKey]) e 9999
theorem ahv (w:rQ)(g:Nat)(es:Array MapEntry)(c:Nat)(hg:w.heap[g]?=some (.map es c))(k:Int)(v:Value)(hf:Instr.findNow (.int .u8) (ag k) es.toList 0=some none):
  (Instr.mapUpdate 154 (.map (some g)) (ag k) v).run Tryz.prog w=.ok () (iL w g (es.push ⟨ag k,v,c⟩) (c+1)):=by unfold Instr.mapUpdate;simp only[Sem.run_bind,run_underlying Tryz.underlying154,Result.andThen_ok,MapKept.run_getObj_map hg,xu,Instr.findKey,run_underlying Tryz.underlying5,hf,Sem.run_pure,MapKept.run_setObj_map _ hg];rfl
def Hv (fv:Value)(w:rQ)(e:Ending)(w':rQ):Prop:=∃q,e=.returned (.agg #[af 2,ag 2,ag 2,.bool false,.bool false,(.func (.func 167) #[] #[aw q])])/\aB w' q 206 #[fv]/\aj w w'
theorem zd1.KaQ(h:p:=by
 go_enter Tryz.func112,Tryz.ntmps112;go_wp2;refine bodyPost_ret (v:=.agg #[af 2,ag 2,ag 2,.bool false,.bool false,(.func (.func 167) #[] #[aw w.heap.size])]) ?_ rfl ?_
 ·simp[results,Tryz.results112,go_sem];try rfl
 ·exact⟨w.heap.size,rfl,(aB.new w 206 #[.func F0 #[] C0]).alloc _,by go_grown⟩):p:=h
theorem mM (F0:Fn)(C0:x_)(w:rQ):ar 112 #[.func F0 #[] C0] w (Hv (.func F0 #[] C0) w):=by
 open zd1 in exact Zb5
def Oy (fv:Value)(w:rQ)(e:Ending)(w':rQ):Prop:=∃q,e=.returned (.agg #[af 2,ag 0,ag 1,.bool true,.bool false,(.func (.func 169) #[] #[aw q])])/\aB w' q 208 #[fv]/\aj w w'
theorem zd2.KaQ(h:p:=by
 go_enter Tryz.func119,Tryz.ntmps119;go_wp2;refine bodyPost_ret (v:=.agg #[af 2,ag 0,ag 1,.bool true,.bool false,(.func (.func 169) #[] #[aw w.heap.size])]) ?_ rfl ?_
 ·simp[results,Tryz.results119,go_sem];try rfl
 ·exact⟨w.heap.size,rfl,(aB.new w 208 #[.func F0 #[] C0]).alloc _,by go_grown⟩):p:=h
theorem lI (F0:Fn)(C0:x_)(w:rQ):ar 119 #[.func F0 #[] C0] w (Oy (.func F0 #[] C0) w):=by
 open zd2 in exact Zb5
def Oz (fv:Bool)(w:rQ)(e:Ending)(w':rQ):Prop:=∃q,e=.returned (.agg #[af 2,ag 1,ag 1,.bool false,.bool true,(.func (.func 170) #[] #[aw q])])/\aB w' q 4 #[.bool fv]/\aj w w'
theorem zd3.KaQ(h:p:=by
 go_enter Tryz.func126,Tryz.ntmps126;go_wp2;refine bodyPost_ret (v:=.agg #[af 2,ag 1,ag 1,.bool false,.bool true,(.func (.func 170) #[] #[aw w.heap.size])]) ?_ rfl ?_
 ·simp[results,Tryz.results126,go_sem];try rfl
 ·exact ZgN):p:=h
theorem EX (fv:Bool)(w:rQ):ar 126 #[.bool fv] w (Oz fv w):=by
 open zd3 in exact Zb5
def OC (fv:Bool)(w:rQ)(e:Ending)(w':rQ):Prop:=∃q,e=.returned (.agg #[af 1,ag 0,ag 1,.bool false,.bool true,(.func (.func 172) #[] #[aw q])])/\aB w' q 4 #[.bool fv]/\aj w w'
theorem zd4.KaQ(h:p:=by
 go_enter Tryz.func127,Tryz.ntmps127;go_wp2;refine bodyPost_ret (v:=.agg #[af 1,ag 0,ag 1,.bool false,.bool true,(.func (.func 172) #[] #[aw w.heap.size])]) ?_ rfl ?_
 ·simp[results,Tryz.results127,go_sem];try rfl
 ·exact ZgN):p:=h
theorem EY (fv:Bool)(w:rQ):ar 127 #[.bool fv] w (OC fv w):=by
 open zd4 in exact Zb5
def abG (F0:Fn)(C0:x_)(w:rQ)(e:Ending)(w':rQ):Prop:=∃q q2,e=.returned (.agg #[af 2,ag 2,ag 2,.bool false,.bool false,(.func (.func 167) #[] #[aw q])])/\aB w' q 206 #[.func (.func 168) #[] #[aw q2]]/\aB w' q2 206 #[.func F0 #[] C0]/\aj w w'
theorem zd5.KaQ(h:p:=by
 go_enter Tryz.func116,Tryz.ntmps116;go_wp2_with fail;have h2:=(aB.new w 206 #[.func F0 #[] C0]).alloc (.cells #[af 0,ag 0,ag 0,.bool false,.bool false,.nilFunc] 100);have hR:=aB.new (w.alloc (.cells #[.func F0 #[] C0] 206)) 100 #[af 0,ag 0,ag 0,.bool false,.bool false,.nilFunc];rw[World.size_alloc] at hR;have hB:=ai.then (ah w (.cells #[.func F0 #[] C0] 206)) (ah _ (.cells #[af 0,ag 0,ag 0,.bool false,.bool false,.nilFunc] 100));generalize (w.alloc (.cells #[.func F0 #[] C0] 206)).alloc (.cells #[af 0,ag 0,ag 0,.bool false,.bool false,.nilFunc] 100)=W at*;have bJ:w.heap.size<=w.heap.size+1:=by omega
 have hne:w.heap.size≠w.heap.size+1:=by omega
 generalize w.heap.size+1=g at*;refine(mM _ _ _).mono ?_;rintro e w1 ⟨q,rfl,hq,b1⟩;replace h2:=h2.later b1;replace hR:=hR.later b1;replace hB:=ai.then hB b1;clear b1;have Uw:q≠g:=λ e=>by subst e;unfold aB at hq hR;rw[hq] at hR;injection hR with hR;injection hR with _ hR _;revert hR;decide
 have cR:∀i,i < 6->∃u,w1.cell? ⟨g,i,none⟩=some u:=λ i hi=>⟨_,(hR.cell i).trans (Array.getElem?_eq_getElem TaC)⟩
 have x0:=hR.cell 0;have x1:=hR.cell 1;have z2:=hR.cell 2;have z3:=hR.cell 3;have z4:=hR.cell 4;have z5:=hR.cell 5;simp only[Uaa] at x0 x1 z2 z3 z4 z5;have fR:=hR.frozen;clear cR hR;go_wp2_with fail;refine bodyPost_ret (v:=.agg #[af 2,ag 2,ag 2,.bool false,.bool false,(.func (.func 167) #[] #[aw q])]) ?_ rfl ?_
 ·simp[results,Tryz.results116,go_sem,x0,x1,z2,z3,z4,z5]
 ·exact⟨q,w.heap.size,rfl,(((((hq.far (p:=⟨g,0,none⟩) Uw _).far (p:=⟨g,1,none⟩) Uw _).far (p:=⟨g,2,none⟩) Uw _).far (p:=⟨g,3,none⟩) Uw _).far (p:=⟨g,4,none⟩) Uw _).far (p:=⟨g,5,none⟩) Uw _,(((((h2.far (p:=⟨g,0,none⟩) hne _).far (p:=⟨g,1,none⟩) hne _).far (p:=⟨g,2,none⟩) hne _).far (p:=⟨g,3,none⟩) hne _).far (p:=⟨g,4,none⟩) hne _).far (p:=⟨g,5,none⟩) hne _,(((((hB.setCell bJ _).setCell bJ _).setCell bJ _).setCell bJ _).setCell bJ _).setCell bJ _⟩):p:=h
theorem Sm (F0:Fn)(C0:x_)(w:rQ):ar 116 #[.func F0 #[] C0] w (abG F0 C0 w):=by
 open zd5 in exact Zb5
def iM (k:Nat)(w:rQ)(e:Ending)(w':rQ):Prop:=∃v,e=.returned v/\gU w' k v/\aj w w'
theorem atH (w:rQ):ar 112 #[(.func (.func 113) #[] #[])] w (iM 5 w):=
 (mM _ _ w).mono λ e w' ⟨q,he,hq,hb⟩=>⟨_,he,⟨q,rfl,hq⟩,hb⟩
theorem atI (w:rQ):ar 112 #[(.func (.func 114) #[] #[])] w (iM 6 w):=
 (mM _ _ w).mono λ e w' ⟨q,he,hq,hb⟩=>⟨_,he,⟨q,rfl,hq⟩,hb⟩
theorem atJ (w:rQ):ar 112 #[(.func (.func 115) #[] #[])] w (iM 7 w):=
 (mM _ _ w).mono λ e w' ⟨q,he,hq,hb⟩=>⟨_,he,⟨q,rfl,hq⟩,hb⟩
theorem atK (w:rQ):ar 116 #[(.func (.func 117) #[] #[])] w (iM 8 w):=
 (Sm _ _ w).mono λ e w' ⟨q,q2,he,hq,lx,hb⟩=>⟨_,he,⟨q,q2,rfl,hq,lx⟩,hb⟩
theorem atL (w:rQ):ar 116 #[(.func (.func 118) #[] #[])] w (iM 9 w):=
 (Sm _ _ w).mono λ e w' ⟨q,q2,he,hq,lx,hb⟩=>⟨_,he,⟨q,q2,rfl,hq,lx⟩,hb⟩
theorem amg (w:rQ):ar 119 #[(.func (.func 120) #[] #[])] w (iM 10 w):=
 (lI _ _ w).mono λ e w' ⟨q,he,hq,hb⟩=>⟨_,he,⟨q,rfl,hq⟩,hb⟩
theorem amh (w:rQ):ar 119 #[(.func (.func 121) #[] #[])] w (iM 11 w):=
 (lI _ _ w).mono λ e w' ⟨q,he,hq,hb⟩=>⟨_,he,⟨q,rfl,hq⟩,hb⟩
theorem ami (w:rQ):ar 119 #[(.func (.func 122) #[] #[])] w (iM 12 w):=
 (lI _ _ w).mono λ e w' ⟨q,he,hq,hb⟩=>⟨_,he,⟨q,rfl,hq⟩,hb⟩
theorem amj (w:rQ):ar 119 #[(.func (.func 123) #[] #[])] w (iM 13 w):=
 (lI _ _ w).mono λ e w' ⟨q,he,hq,hb⟩=>⟨_,he,⟨q,rfl,hq⟩,hb⟩
theorem amk (w:rQ):ar 119 #[(.func (.func 124) #[] #[])] w (iM 14 w):=
 (lI _ _ w).mono λ e w' ⟨q,he,hq,hb⟩=>⟨_,he,⟨q,rfl,hq⟩,hb⟩
theorem aml (w:rQ):ar 119 #[(.func (.func 125) #[] #[])] w (iM 15 w):=
 (lI _ _ w).mono λ e w' ⟨q,he,hq,hb⟩=>⟨_,he,⟨q,rfl,hq⟩,hb⟩
theorem amm (w:rQ):ar 126 #[.bool false] w (iM 16 w):=
 (EX _ w).mono λ e w' ⟨q,he,hq,hb⟩=>⟨_,he,⟨q,rfl,hq⟩,hb⟩
theorem amn (w:rQ):ar 126 #[.bool true] w (iM 17 w):=
 (EX _ w).mono λ e w' ⟨q,he,hq,hb⟩=>⟨_,he,⟨q,rfl,hq⟩,hb⟩
theorem amo (w:rQ):ar 127 #[.bool true] w (iM 18 w):=
 (EY _ w).mono λ e w' ⟨q,he,hq,hb⟩=>⟨_,he,⟨q,rfl,hq⟩,hb⟩
theorem amp (w:rQ):ar 127 #[.bool false] w (iM 19 w):=
 (EY _ w).mono λ e w' ⟨q,he,hq,hb⟩=>⟨_,he,⟨q,rfl,hq⟩,hb⟩
theorem Ox.at_{w:rQ}   {c:Nat}(h:Ox w g es c) {k:Nat} {v:Value} (hm:(⟨ag (k:Int),v,i⟩:MapEntry)∈es.toList):gU w k v:=by obtain⟨k',Sn,ho⟩:=h.2 _ hm;injection Sn with _ h3;have:k=k':=Int.ofNat.inj h3;subst this;exact ho
def abH (w:rQ)(e:Ending)(w':rQ):Prop:=∃g es,e=.returned (.map (some g))/\Ox w' g es 18/\(∀k:Nat,3<=k->k<=20->∃i v,Instr.findNow (.int .u8) (ag k) es.toList 0=some (some (i,v))/\gU w' k v)/\(∀k:Int,k < 3\/20 < k->Instr.findNow (.int .u8) (ag k) es.toList 0=some none)/\aj w w'
theorem qI{w:rQ} {n k:Nat}  {v:Value}(hT:Ox w g es n)(hB:aj w0 w)(hg:w0.heap.size<=g)(hv:gU w' k v)(b:aj w w')(hf:Instr.findNow (.int .u8) (ag k) es.toList 0=some none):
  (Instr.mapUpdate 154 (.map (some g)) (ag (k:Int)) v).run Tryz.prog w'=.ok () (iL w' g (es.push ⟨ag (k:Int),v,n⟩) (n+1))/\Ox (iL w' g (es.push ⟨ag (k:Int),v,n⟩) (n+1)) g (es.push ⟨ag (k:Int),v,n⟩) (n+1)/\aj w0 (iL w' g (es.push ⟨ag (k:Int),v,n⟩) (n+1)):=
 have hT:=hT.later b
 ⟨ahv w' g es n hT.1 k v hf,hT.push k v hv,Hu (ai.then hB b) g hg _ _⟩
theorem Bj (w:rQ):ar 75 #[] w (abH w):=by
 have hmm:= @run_makeMap Tryz.prog;have bJ:w.heap.size<=w.heap.size:=Nat.le_refl _;have hT:Ox (w.alloc (.map #[] 0)) w.heap.size #[] 0:=⟨heap_alloc_new w _,λ e he=>by simp at he⟩;obtain⟨i3,hT,hB⟩:=qI (k:=3) (v:=.agg #[af 1,ag 2,ag 2,.bool false,.bool false,(.func (.func 108) #[] #[])]) hT (ah w _) bJ rfl (Below.refl _ _) rfl;obtain⟨i4,hT,hB⟩:=qI (k:=4) (v:=.agg #[af 1,ag 1,ag 1,.bool false,.bool false,(.func (.func 110) #[] #[])]) hT hB bJ rfl (Below.refl _ _) rfl;simp only[push_toArray,nil_append,cons_append,Nat.reduceAdd,Nat.zero_add,Int.cast_ofNat_Int] at i3 i4 hT hB;have HT:=aa hT;have HB:=aa hB;clear hT hB;go_enter Tryz.func75,Tryz.ntmps75;go_wp2_with fail;clear i3 i4 hmm;generalize iL (iL _ _ _ _) _ _ _=W at*;generalize ej:w.heap.size=g at HT bJ ⊢;have hgb:w.heap.size<=g:=by omega
 clear bJ
 iterate 14
  first | refine(atH _).mono ?_ | refine(atI _).mono ?_ | refine(atJ _).mono ?_ | refine(atK _).mono ?_ | refine(atL _).mono ?_ | refine(amg _).mono ?_ | refine(amh _).mono ?_ | refine(ami _).mono ?_ | refine(amj _).mono ?_ | refine(amk _).mono ?_ | refine(aml _).mono ?_ | refine(amm _).mono ?_ | refine(amn _).mono ?_ | refine(amo _).mono ?_
  rintro e w' ⟨v,rfl,hv,b⟩;obtain⟨i,hT,hB⟩:=qI HT.ae HB.ae hgb hv b rfl;simp only[push_toArray,nil_append,cons_append,Nat.reduceAdd,Int.cast_ofNat_Int] at i hT hB;clear HT HB;have HT:=aa hT;have HB:=aa hB;clear hT hB b hv;go_wp2_with fail;clear i;generalize iL w' g _ _=W at*;clear w'
 refine(amp _).mono ?_;rintro e w' ⟨v,rfl,hv,b⟩;obtain⟨i,hT,hB⟩:=qI HT.ae HB.ae hgb hv b rfl;obtain⟨j,hT,hB⟩:=qI (k:=20) (v:=.agg #[af 1,ag 2,ag 2,.bool false,.bool false,(.func (.func 128) #[] #[])]) hT hB hgb rfl (Below.refl _ _) rfl;simp only[push_toArray,nil_append,cons_append,Nat.reduceAdd,Int.cast_ofNat_Int] at i j hT hB;clear HT HB;have HT:=aa hT;have HB:=aa hB;clear hT hB b hv;go_wp2_with fail;clear i j;generalize iL _ g _ _=W at*;go_ret;refine⟨g,_,rfl,HT.ae,?_,?_,HB.ae⟩
 ·intro k h1 h2;have hk:k=3\/k=4\/k=5\/k=6\/k=7\/k=8\/k=9\/k=10\/k=11\/k=12\/k=13\/k=14\/k=15\/k=16\/k=17\/k=18\/k=19\/k=20:=by omega
  rcases hk with rfl | rfl | rfl | rfl | rfl | rfl | rfl | rfl | rfl | rfl | rfl | rfl | rfl | rfl | rfl | rfl | rfl | rfl;all_goals exact⟨_,_,rfl,Ox.at_ HT.ae (by simp;rfl)⟩
 ·intro k hk;have q:∀j:Int,3<=j->j<=20->(k==j)=false:=λ j h1 h2=>by rw[beq_eq_false_iff_ne];omega
  simp only[Instr.findNow,Instr.sameNow];simp[q 3,q 4,q 5,q 6,q 7,q 8,q 9,q 10,q 11,q 12,q 13,q 14,q 15,q 16,q 17,q 18,q 19,q 20]
def Sp (P:Program)(l:List Oper)(R:rQ->rQ->Prop)(V:Nat->rQ->Value->Prop)(U:Nat->rQ->(Operand->Value)->Prop)(a0:Act)(w0:rQ)(i:Nat)(o:Oper):Prop:=
 ∀ρ w,oG ρ->R w0 w->lO l V a0.eval ρ w o (tmpsOf o)->
  match o.guard with
  | none=>xq P o ρ w λ v w'=>R w w'/\V i w' v/\U i w' ρ
  | some _=>False
def Hw (P:Program)(l:List Oper)(R:rQ->rQ->Prop)(V:Nat->rQ->Value->Prop)(U:Nat->rQ->(Operand->Value)->Prop)(a0:Act)(w0:rQ):List Oper->Nat->Prop
 | [],_=>True
 | o::rest,i=>Sp P l R V U a0 w0 i o/\Hw P l R V U a0 w0 rest (i+1)
variable{U:Nat->rQ->(Operand->Value)->Prop}
theorem EZ:∀ {l:List Oper} {k:Nat},Hw P L R V U a0 w0 l k->∀i o,l[i]?=some o->Sp P L R V U a0 w0 (k+i) o
 | [],_,_,i,o,h=>by simp at h
 | o'::rest,k,hs,0,o,h=>by simp at h;subst h;exact hs.1
 | o'::rest,k,hs,i+1,o,h=>by have:=EZ hs.2 i o Tai;rwa [show k+(i+1)=k+1+i by omega]
def YD (l:List Oper)(R:rQ->rQ->Prop)(U:Nat->rQ->(Operand->Value)->Prop):Prop:=
 ∀i o w w' ρ ρ',l[i]?=some o->U i w ρ->R w w'->(∀j∈ft o,∀oj d,l[j]?=some oj->oj.dst=some d->ρ' (.tmp d)=ρ (.tmp d))->U i w' ρ'
structure Inv2 (l:List Oper) (V:Nat->rQ->Value->Prop) (U:Nat->rQ->(Operand->Value)->Prop) (R:rQ->rQ->Prop) (a0:Act) (w0:rQ) (m:Nat) (listed:Array Bool) (a:Act) (w:rQ):Prop where
 base:Inv l V R a0 w0 m listed a w
 post:∀i o,l[i]?=some o->listed.getD i false=true->U i w a.eval
section
variable {P:Program} {l zs:List Oper} {Q:yD} {R:rQ->rQ->Prop} {V:Nat->rQ->Value->Prop} {U:Nat->rQ->(Operand->Value)->Prop} {a0:Act} {w0:rQ}
theorem Inv2.step (aZ:dP l a0.tmps.size l 0=true)(hV:∀i w w' v,V i w v->R w w'->V i w' v)(hU:YD l R U)(hrefl:∀w,R w w)(hT:∀a b c,R a b->R b c->R a c) {m:Nat} {listed:Array Bool} {a:Act} {w w':rQ} {v:Value}(I:Inv2 l V U R a0 w0 m listed a w) {i:Nat} {o:Oper}(ho:l[i]?=some o)(Sh:i < m)
  (hun:listed.getD i false=false) (hall:∀j∈ft o,listed.getD j false=true) (hr:R w w') (hv:V i w' v) (hu:U i w' a.eval):Inv2 l V U R a0 w0 m (listed.setIfInBounds i true) (a.put o.dst v) w':=by
 refine⟨I.base.step aZ hV hT ho Sh hun hall hr hv,?_⟩;have rW:i < listed.size:=by rw[I.base.len];exact Sh
 have jI:=cI aZ i o ho;rw[Nat.zero_add] at jI
 have keep:∀j d oj,l[j]?=some oj->oj.dst=some d->j≠i->(a.put o.dst v).eval (.tmp d)=a.eval (.tmp d):=by
  intro j d oj hj hd XN;refine Act.eval_put λ d' e e'=>?_
  injection e' with e';subst e';have qD:=cI aZ j oj hj;simp only[lN,hd,Bool.and_eq_true,Nat.zero_add,beq_iff_eq] at qD;simp only[lN,e,Bool.and_eq_true,beq_iff_eq] at jI;rw[qD.1.1.2.2] at jI;have:=jI.1.1.2.2;injection this with this;exact XN this
 intro j oj hj hl;by_cases XN:j=i
 ·subst XN;rw[hj] at ho;injection ho with ho;subst ho;refine hU j oj w' w' a.eval _ hj hu (hrefl _) λ k hk ok d sX hd=>keep k d ok sX hd ?_
  intro e';subst e';have:=hall k hk;rw[hun] at this;cases this
 ·have hl':listed.getD j false=true:=by rw[eO _ _ _ rW,if_neg XN] at hl;exact hl
  refine hU j oj w w' a.eval _ hj (I.post j oj hj hl') hr λ k hk ok d sX hd=>keep k d ok sX hd ?_
  intro e';subst e';have:=I.base.closed j oj hj hl' k hk;rw[hun] at this;cases this
theorem zfF.Kbq(h:p:=by
 rw[<- ha] at hK;replace hK:=hK λ i o hi=>I2.post i o hi (hall i (by
  rcases Nat.lt_or_ge i l.length with h' | h'
  ·exact h'
  ·rw[getElem?_eq_none h'] at hi;cases hi))
 exact Zbh):p:=h
theorem zbP.Kan(h:p:=by open zfF in exact ZdH):p:=h
theorem Fa {N:Nat}(aZ:dP l N l 0=true)(hz:eU (l++zs) zs l.length=true)(hf:∀w,R w0 w->bA V (λ a w=>(∀i o,l[i]?=some o->U i w a.eval)->wpList P (l++zs).toArray Q zs a w) l 0 a0 w) {listed:Array Bool} {a:Act} {w:rQ}(I2:Inv2 l V U R a0 w0 (l++zs).length listed a w)
  (h0:bu l.length listed=0):wpAny P .any (l++zs).toArray Q zs.length listed a w:=by have I:=I2.base;open zbP in exact ZaC
theorem zam.KW(h:p:=by
 have hst:=EZ hs i oj vg;rw[Nat.zero_add] at hst;have XP:=Inv.reads aZ I vg Bg fu (tmpsOf oj) (λ _ h=>h);have hstep:=hst a.eval w (mJ a) I.r XP;have Kw:∀v w',R w w'->V i w' v->U i w' a.eval->wpAny P .any (l++zs).toArray Q fuel (listed.setIfInBounds i true) (a.put oj.dst v) w':=by intro v w' hr hv hu;refine ih _ _ _ (I2.step aZ hV hU hrefl Be vg xt Bg fu hr hv hu) ?_;have:=lq l.length listed i Tbh rW Bg;omega
 unfold wpOp;rw[oI];show if Region.wanted oj (yielded (l++zs).toArray a.tmps)=true then _ else _
 cases hg:oj.guard with
 | none=>rw[if_pos (by simp[Region.wanted,hg])];simp only[hg] at hstep;exact .inl (jH hstep λ v w' h=>Kw v w' h.1 h.2.1 h.2.2)
 | some g=>simp only[hg] at hstep):p:=h
theorem Hx {id:Nat} {ops:List Oper}(zs:List Oper)(l:List Oper)(kP:ops=l++zs)(R:rQ->rQ->Prop)(hrefl:∀w,R w w)(Be:∀a b c,R a b->R b c->R a c)(nT:∀w,R w w.drew)
  (V:Nat->rQ->Value->Prop) (U:Nat->rQ->(Operand->Value)->Prop) (hU:YD l R U) (hV:∀Kx w w' v,V Kx w v->R w w'->V Kx w' v) (hm:P.follows .mixedOrders=true) (aZ:dP l a0.tmps.size l 0=true) (hz:eU (l++zs) zs l.length=true)
  (hs:Hw P l R V U a0 w0 l 0) (hf:∀w,R w0 w->bA V (λ a w=>(∀Kx o,l[Kx]?=some o->U Kx w a.eval)->wpList P ops.toArray Q zs a w) l 0 a0 w):(Code.region id ops.toArray true).wp P Q a0 w0:=by
 subst kP
 have main:∀(fuel:Nat) (listed:Array Bool) (a:Act) (w:rQ),Inv2 l V U R a0 w0 (l++zs).length listed a w->fuel=bu l.length listed+zs.length->wpAny P .any (l++zs).toArray Q fuel listed a w:=by
  intro fuel
  induction fuel with
  | zero=>
    intro listed a w I2 hfu;have I:=I2.base;have h0:bu l.length listed=0:=by omega
    have hz0:zs.length=0:=by omega
    have:=Fa aZ hz hf I2 h0;rwa [hz0] at this
  | succ fuel ih=>
    intro listed a w I2 hfu;have I:=I2.base;by_cases h0:bu l.length listed=0
    ·have:=Fa aZ hz hf I2 h0;exact Zfa
    ·open zam in exact Zad
 refine wp_region_any hm ?_;have h0:R w0 w0.drew:=nT w0;have:=main (l++zs).toArray.size (Array.replicate (l++zs).toArray.size false) a0 w0.drew ⟨⟨h0,rfl,rfl,λ _ _=>rfl,(λ Kx o d _ h=>by rw[bh] at h;cases h),(λ Kx o _ h=>by rw[bh] at h;cases h),by simp,λ Kx _=>bh _ _⟩,λ Kx o _ h=>by rw[bh] at h;cases h⟩ (by
  have:bu l.length (Array.replicate (l++zs).toArray.size false)=l.length:=by
   unfold bu
   rw[List.filter_eq_self.2 (λ Kx _=>by rw[bh];rfl),length_range]
  rw[this];simp)
 exact this
end
def jK (op:Int):Bool:=decide (3<=op/\op<=20)
def cK (a wa gi:Int)(al nu:Bool)(d:Value):x_:= #[af a,ag wa,ag gi,.bool al,.bool nu,d]
def oJ:x_:= #[af 0,ag 0,ag 0,.bool false,.bool false,.nilFunc]
def yK (w:rQ)(op:Int)(o:x_):Prop:=(jK op=true/\gU w op.toNat (.agg o))\/(jK op=false/\o=oJ)
theorem gU.shape{w:rQ} {k:Nat} {v:Value}(h:gU w k v):∃a wa gi al nu F C,(a=1\/a=2)/\v=.agg (cK a wa gi al nu (.func F #[] C)):=by
 unfold gU at h;split at h
 all_goals first
  | exact⟨_,_,_,_,_,_,_,.inl rfl,h⟩
  |(obtain⟨q,h1,_⟩:=h;exact⟨_,_,_,_,_,_,_,.inl rfl,h1⟩)
  |(obtain⟨q,h1,_⟩:=h;exact⟨_,_,_,_,_,_,_,.inr rfl,h1⟩)
  |(obtain⟨q,q2,h1,_⟩:=h;exact⟨_,_,_,_,_,_,_,.inr rfl,h1⟩)
  | exact h.elim
theorem yK.shape{w:rQ} {op:Int} {o:x_}(h:yK w op o):∃a wa gi al nu d,o=cK a wa gi al nu d/\(jK op=true->a≠0)/\(d=.nilFunc\/∃F C,d=.func F #[] C):=by
 rcases h with ⟨h1,h2⟩|⟨h1,rfl⟩
 ·obtain⟨a,wa,gi,al,nu,F,C,ha,e⟩:=h2.shape;injection e with e;exact⟨a,wa,gi,al,nu,_,e,λ _=>by omega,.inr ⟨F,C,rfl⟩⟩
 ·exact⟨0,0,0,false,false,.nilFunc,rfl,(λ h=>by rw[h1] at h;cases h),.inl rfl⟩
theorem gU.KE{w:rQ}(hk:∀(q:Nat) (t:TypeId) (cs:x_),t≠100->aB w q t cs->aB w' q t cs):∀(k:Nat) (v:Value),gU w k v->gU w' k v:=by
 intro k v h;unfold gU at*;split at h
 all_goals first
  | exact h
  |(obtain⟨q,q2,h1,h2,h3⟩:=h;exact⟨q,q2,h1,hk _ _ _ V0 h2,hk _ _ _ V0 h3⟩)
  |(obtain⟨q,h1,h2⟩:=h;exact⟨q,h1,hk _ _ _ V0 h2⟩)
theorem yK.KE{w:rQ} {op:Int} {o:x_}(hk:∀(q:Nat) (t:TypeId) (cs:x_),t≠100->aB w q t cs->aB w' q t cs)(h:yK w op o):yK w' op o:=by
 rcases h with ⟨h1,h2⟩| h1
 ·exact .inl ⟨h1,h2.KE hk⟩
 ·exact .inr h1
structure FR (op:Int) (B:Nat) (a b:rQ):Prop where
 below:Below B a b
 blk:∀(g:Nat) (t:TypeId) (cs:x_),aB a g t cs->aB b g t cs\/(t=100/\B<=g/\∃o:x_,yK b op o/\aB b g t o)
 map:∀(g:Nat) (es:Array MapEntry) (c:Nat),a.heap[g]?=some (Obj.map es c)->b.heap[g]?=some (Obj.map es c)
theorem FR.refl (op:Int)(B:Nat)(w:rQ):FR op B w w:=⟨Below.refl _ _,λ _ _ _ h=> .inl h,λ _ _ _ h=>h⟩
variable{cs:x_}
theorem FR.other{op:Int}  (h:FR op B a b)  {t:TypeId} (hb:aB a g t cs)(ht:t≠100):aB b g t cs:=by
 rcases h.blk g t cs hb with h1 |⟨h1,_⟩
 ·exact h1
 ·exact absurd h1 ht
theorem gU.fr{op:Int}  (h:FR op B a b)(k:Nat)(v:Value)(hk:gU a k v):gU b k v:=hk.KE (λ q t cs ht hq=>h.other hq ht) _ _
variable{op':Int}
theorem yK.fr{op:Int}    {o:x_}(h:FR op B a b)(ho:yK a op' o):yK b op' o:=ho.KE λ q t cs ht hq=>h.other hq ht
theorem FR.trans{op:Int}  {c:rQ}(h:FR op B a b)(k:FR op B b c):FR op B a c:=by
 refine⟨h.below.trans k.below,λ g t cs hb=>?_,λ g es c hb=>k.map _ _ _ (h.map _ _ _ hb)⟩;rcases h.blk g t cs hb with h1 |⟨h1,h2,o,h3,h4⟩
 ·exact k.blk g t cs h1
 ·rcases k.blk g t o h4 with h6 | h6
  ·exact .inr ⟨h1,h2,o,h3.fr k,h6⟩
  ·exact .inr h6
theorem FR.later{op:Int}  (h:aj a b)(hB:B<=a.heap.size):FR op B a b:=
 ⟨h.mono hB,λ g t cs hb=> .inl (hb.later h),λ g es c hb=>by
   rw[h.block g ?_]
   ·exact hb
   ·rcases Nat.lt_or_ge g a.heap.size with h' | h'
    ·exact h'
    ·rw[Array.getElem?_eq_none h'] at hb;cases hb⟩
theorem yK.later{op:Int} {o:x_}(ho:yK a op o)(h:aj a b):yK b op o:=ho.fr (op:=0) (FR.later h (Nat.le_refl _))
def qJ (op:Int):Int:=if op=3\/op=4\/18<=op then 1 else 2
variable{wa gi:Int}{al nu:Bool}{d:Value}
theorem gU.args{w:rQ} {k:Nat} {a:Int}  (h:gU w k (.agg (cK a wa gi al nu d))):a=qJ k:=by
 unfold gU at h;split at h
 all_goals first
  | exact h.elim
  |(simp[fk,cK] at h;simp[qJ];omega)
  |(obtain⟨q,q2,h1,_⟩:=h;simp[fk,cK] at h1;simp[qJ];omega)
  |(obtain⟨q,h1,_⟩:=h;simp[fk,cK] at h1;simp[qJ];omega)
theorem yK.args{w:rQ} {op a:Int}  (h:yK w op (cK a wa gi al nu d))(ho:jK op=true):a=qJ op:=by
 rcases h with ⟨_,h2⟩|⟨h1,_⟩
 ·have h3:3<=op/\op<=20:=by simpa [jK] using ho
  have:=h2.args;rwa [show((op.toNat:Nat):Int)=op by omega] at this
 ·rw[ho] at h1;cases h1
def vy (w:rQ)(g:Nat)(a wa gi:Int)(al nu:Bool)(d:Value):rQ:=(((((w.setCell ⟨g,0,none⟩ (af a)).setCell ⟨g,1,none⟩ (ag wa)).setCell ⟨g,2,none⟩ (ag gi)).setCell ⟨g,3,none⟩ (.bool al)).setCell ⟨g,4,none⟩ (.bool nu)).setCell ⟨g,5,none⟩ d
theorem Fb{w:rQ} {q:Nat} {t:TypeId} (h:aB w q t cs)(hg:q≠g)(a wa gi:Int)(al nu:Bool)(d:Value):aB (vy w g a wa gi al nu d) q t cs:=
 (((((h.far (p:=⟨g,0,none⟩) hg _).far (p:=⟨g,1,none⟩) hg _).far (p:=⟨g,2,none⟩) hg _).far (p:=⟨g,3,none⟩) hg _).far (p:=⟨g,4,none⟩) hg _).far (p:=⟨g,5,none⟩) hg _
theorem Bk{w:rQ}  {t:TypeId} (h:aB w g t cs)(hs:cs.size=6)(a wa gi:Int)(al nu:Bool)(d:Value):aB (vy w g a wa gi al nu d) g t (cK a wa gi al nu d):=by
 have h1:=(((((h.aT 0 (af a)).aT 1 (ag wa)).aT 2 (ag gi)).aT 3 (.bool al)).aT 4 (.bool nu)).aT 5 d
 have e:(((((cs.setIfInBounds 0 (af a)).setIfInBounds 1 (ag wa)).setIfInBounds 2 (ag gi)).setIfInBounds 3 (.bool al)).setIfInBounds 4 (.bool nu)).setIfInBounds 5 d=cK a wa gi al nu d:=by
  clear h1 h;obtain⟨l⟩:=cs
  match l,hs with
  | [c0,c1,c2,c3,c4,c5],_=>simp[cK]
 rw[e] at h1;exact h1
theorem KF{w:rQ}(h:Below B w0 w) (hg:B<=g)(a wa gi:Int)(al nu:Bool)(d:Value):Below B w0 (vy w g a wa gi al nu d):=
 (((((h.setCell (p:=⟨g,0,none⟩) hg _).setCell (p:=⟨g,1,none⟩) hg _).setCell (p:=⟨g,2,none⟩) hg _).setCell (p:=⟨g,3,none⟩) hg _).setCell (p:=⟨g,4,none⟩) hg _).setCell (p:=⟨g,5,none⟩) hg _
theorem dQ{op:Int}  {w:rQ}  (h:aB w g 100 cs)(hs:cs.size=6)(hg:B<=g) {a:Int}  (ho:yK w op (cK a wa gi al nu d)):
  FR op B w (vy w g a wa gi al nu d)/\yK (vy w g a wa gi al nu d) op (cK a wa gi al nu d):=by
 have hne:∀(q:Nat) (t:TypeId) (cs':x_),t≠100->aB w q t cs'->q≠g:=by intro q t cs' ht hq e;subst e;unfold aB at h hq;rw[h] at hq;injection hq with hq;injection hq with _ hq _;exact ht hq.symm
 have ho2:yK (vy w g a wa gi al nu d) op (cK a wa gi al nu d):=ho.KE λ q t cs' ht hq=>Fb hq (hne q t cs' ht hq) _ _ _ _ _ _
 refine⟨⟨KF (Below.refl _ _) hg _ _ _ _ _ _,λ q t cs' hq=>?_,λ q es c hq=>?_⟩,ho2⟩
 ·by_cases e:q=g
  ·subst e;have ht:t=100:=by unfold aB at h hq;rw[h] at hq;injection hq with hq;injection hq with _ hq _;exact hq.symm
   subst ht;exact .inr ⟨rfl,hg,_,ho2,Bk h hs _ _ _ _ _ _⟩
  ·exact .inl (Fb hq e _ _ _ _ _ _)
 ·have e:q≠g:=λ e=>by subst e;unfold aB at h;rw[h] at hq;cases hq
  have k:=λ(u:rQ) (i:Nat) (v:Value)=>Below.heap_setCell u ⟨g,i,none⟩ v q e
  unfold vy;rw[k,k,k,k,k,k];exact hq
theorem YE (w:rQ)(g:Nat)(es:Array MapEntry)(c:Nat)(hg:w.heap[g]?=some (.map es c))(k:Int)(i:Nat)(v:Value)(hf:Instr.findNow (.int .u8) (ag k) es.toList 0=some (some (i,v))):
  (Instr.lookup 154 (.map (some g)) (ag k) true).run Tryz.prog w=.ok (.tuple #[v,.bool true]) w:=by unfold Instr.lookup;simp only[Sem.run_bind,run_underlying Tryz.underlying154,Result.andThen_ok,MapKept.run_getObj_map hg,xu,Instr.findKey,run_underlying Tryz.underlying5,hf,Sem.run_pure];rfl
theorem abI (w:rQ):(zeroValue 100).run Tryz.prog w=.ok (.agg oJ) w:=by exact ZgH
theorem abJ (w:rQ)(g:Nat)(es:Array MapEntry)(c:Nat)(hg:w.heap[g]?=some (.map es c))(k:Int)(hf:Instr.findNow (.int .u8) (ag k) es.toList 0=some none):
  (Instr.lookup 154 (.map (some g)) (ag k) true).run Tryz.prog w=.ok (.tuple #[.agg oJ,.bool false]) w:=by unfold Instr.lookup;simp only[Sem.run_bind,run_underlying Tryz.underlying154,Result.andThen_ok,MapKept.run_getObj_map hg,xu,Instr.findKey,run_underlying Tryz.underlying5,hf,Sem.run_pure,abI];rfl
def Found (w:rQ)(op:Int)(v:Value):Prop:=∃(g:Nat) (es:Array MapEntry),v=.map (some g)/\w.heap[g]?=some (.map es 18)/\
 ((jK op=true/\∃i o,Instr.findNow (.int .u8) (ag op) es.toList 0=some (some (i,.agg o))/\gU w op.toNat (.agg o))\/(jK op=false/\Instr.findNow (.int .u8) (ag op) es.toList 0=some none))
theorem Found.fr{op:Int} {v:Value}(h:FR op' B a b)(ho:Found a op v):Found b op v:=by
 obtain⟨g,es,h1,h2,h3⟩:=ho;refine⟨g,es,h1,h.map _ _ _ h2,?_⟩;rcases h3 with ⟨h4,i,o,h5,h6⟩| h3
 ·exact .inl ⟨h4,i,o,h5,gU.fr h _ _ h6⟩
 ·exact .inr h3
theorem Ux (op:Int)(w:rQ):ar 75 #[] w λ e w'=>∃v,e=.returned v/\Found w' op v/\aj w w':=by
 refine(Bj w).mono ?_;rintro e w' ⟨g,es,he,ht,Ks,hout,hb⟩;refine⟨_,he,⟨g,es,rfl,ht.1,?_⟩,hb⟩;cases ho:jK op
 ·refine .inr ⟨rfl,hout op ?_⟩;simp[jK] at ho;omega
 ·have h2:3<=op/\op<=20:=by simpa [jK] using ho
  obtain⟨i,v,h3,h4⟩:=Ks op.toNat TD TD;have e1:((op.toNat:Nat):Int)=op:=by omega
  rw[e1] at h3;obtain⟨a,wa,gi,al,nu,F,C,_,rfl⟩:=h4.shape;exact .inl ⟨rfl,i,_,h3,h4⟩
end Go.Proofs.YtndgjggokjickaaGreatDoor
