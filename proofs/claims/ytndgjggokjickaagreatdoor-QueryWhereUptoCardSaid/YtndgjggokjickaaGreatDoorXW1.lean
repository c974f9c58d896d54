/- Parts of the proof. -/
import Derived.BigQuiet
import Derived.Test.YtndgjggokjickaaGreatDoorRows
import Derived.Handy
import Derived.WalkLawsBesides
import Derived.Lib.Hide
import Derived.Deep.AppendLies
import Derived.Deep.RegionWith
import Derived.Laws.EntriesVeiled
import Derived.Test.YtndgjggokjickaaGreatDoorXW0
namespace Go.Proofs.YtndgjggokjickaaGreatDoor
open List
variable{p:Prop}
set_option maxHeartbeats 90000000
set_option maxRecDepth 100000
open Go.RowKit
def tmpsOf (o:Oper):List Tmp:=o.op.operands.toList.filterMap λ | .tmp t=>some t | _=>none
def gw (t:Tmp):List Oper->Nat->Option Nat
 | [],_=>none
 | o::l,i=>if o.dst=some t then some i else gw t l (i+1)
def ir (o:Oper)(j:Nat):Bool:=o.after.toList.any λ e=>Region.binds .any e && Nat.beq e.on j
def cW (l:List Oper)(o:Oper)(t:Tmp):Option Nat:=
 match gw t l 0 with
 | some j=>if ir o j then some j else none
 | none=>none
def eX (o:Oper):List Nat:=(o.after.toList.filter (Region.binds .any ·)).map (·.on)
def lI (l:List Oper)(N:Nat)(i:Nat)(o:Oper):Bool:=
 (eX o).all (λ j=>decide (j < i))&&
 (match o.dst with | some d=>decide (d < N)&&(gw d l 0==some i)| none=>true)&&
 (tmpsOf o).all (λ t=>match gw t l 0 with | some j=>ir o j ||(match l[j]? with | some oj=>ir oj i | none=>false)| none=>true)&&
 (match o.guard with | none=>true | some (j,_)=>ir o j &&(match l[j]? with | some oj=>oj.dst.isSome | none=>false))
def dN (l:List Oper)(N:Nat):List Oper->Nat->Bool
 | [],_=>true
 | o::rest,i=>lI l N i o && dN l N rest (i+1)
def AH (l:List Oper):Nat->List Nat->Bool
 | 0,_=>true
 | k+1,S=>S.contains k && AH l k (S++(match l[k]? with | some o=>eX o | none=> []))
def eL (l:List Oper):List Oper->Nat->Bool
 | [],_=>true
 | o::rest,i=>(eX o).all (λ j=>decide (j < i))&& AH l i (eX o)&& eL l rest (i+1)
def xa (P:Program)(o:Oper)(ρ:Operand->Value)(w:World)(T:Value->World->Prop):Prop:=
 match (execOp ρ o).run P w with
 | .ok (.value v) w'=>T v w'
 | .ok .skip w'=>T undef w'
 | .ok (.enter f args) w'=>Calls P f args w' λ e w''=>∃v,e=.returned v/\T v w''
 | _=>False
structure oz (ρ:Operand->Value):Prop where
 const:∀v,ρ (.const v)=v
 func:∀f,ρ (.func f)=.func (.func f) #[] #[]
 global:∀g,ρ (.global g)=aw g
theorem mB (a:Act):oz a.eval:=⟨λ _=>rfl,λ _=>rfl,λ _=>rfl⟩
def lJ (l:List Oper)(V:Nat->World->Value->Prop)(ρ0 ρ:Operand->Value)(w:World)(o:Oper):List Tmp->Prop
 | []=>True
 | t::ts=>(match cW l o t with | some j=>V j w (ρ (.tmp t))| none=>ρ (.tmp t)=ρ0 (.tmp t))/\lJ l V ρ0 ρ w o ts
def XQ (P:Program)(l:List Oper)(R:World->World->Prop)(V:Nat->World->Value->Prop)(a0:Act)(w0:World)(i:Nat)(o:Oper):Prop:=
 ∀ρ w,oz ρ->R w0 w->lJ l V a0.eval ρ w o (tmpsOf o)->
  match o.guard with
  | none=>xa P o ρ w λ v w'=>R w w'/\V i w' v
  | some (j,want)=>match (l[j]?).bind (·.dst)with
    | some d=>V j w (ρ (.tmp d))->(ρ (.tmp d)=.bool want->xa P o ρ w λ v w'=>R w w'/\V i w' v)/\(ρ (.tmp d)≠ .bool want->V i w undef)
    | none=>False
def Steps (P:Program)(l:List Oper)(R:World->World->Prop)(V:Nat->World->Value->Prop)(a0:Act)(w0:World):List Oper->Nat->Prop
 | [],_=>True
 | o::rest,i=>XQ P l R V a0 w0 i o/\Steps P l R V a0 w0 rest (i+1)
def bD (V:Nat->World->Value->Prop)(K:Act->World->Prop):List Oper->Nat->Act->World->Prop
 | [],_,a,w=>K a w
 | o::rest,i,a,w=>match o.dst with
   | some d=>∀v,V i w v->bD V K rest (i+1) (a.put (some d) v) w
   | none=>bD V K rest (i+1) a w
variable{P:Program}{L:List Oper}{R:World->World->Prop}{V:Nat->World->Value->Prop}{a0:Act}{w0:World}
theorem JX:∀ {l:List Oper} {k:Nat},Steps P L R V a0 w0 l k->∀i o,l[i]?=some o->XQ P L R V a0 w0 (k+i) o
 | [],_,_,i,o,h=>by simp at h
 | x::l,k,hs,0,o,h=>by simp at h;subst h;exact hs.1
 | x::l,k,hs,i+1,o,h=>by have:=JX hs.2 i o Tak;rwa [show k+1+i=k+(i+1) by omega] at this
variable{N:Nat}
theorem cE:∀ {l:List Oper} {k:Nat},dN L N l k=true->∀i o,l[i]?=some o->lI L N (k+i) o=true
 | [],_,_,i,o,h=>by simp at h
 | x::l,k,hs,0,o,h=>by simp at h;subst h;simp only[dN,Bool.and_eq_true] at hs;exact hs.1
 | x::l,k,hs,i+1,o,h=>by simp only[dN,Bool.and_eq_true] at hs;have:=cE hs.2 i o Tak;rwa [show k+1+i=k+(i+1) by omega] at this
theorem iK:∀ {l:List Oper} {k:Nat},eL L l k=true->∀i o,l[i]?=some o->(eX o).all (λ j=>decide (j < k+i))=true/\AH L (k+i) (eX o)=true
 | [],_,_,i,o,h=>by simp at h
 | x::l,k,hs,0,o,h=>by simp at h;subst h;simp only[eL,Bool.and_eq_true] at hs;exact hs.1
 | x::l,k,hs,i+1,o,h=>by simp only[eL,Bool.and_eq_true] at hs;have:=iK hs.2 i o Tak;rwa [show k+1+i=k+(i+1) by omega] at this
variable{o:Oper}{j:Nat}
theorem jw:j∈eX o↔∃e∈o.after,Region.binds .any e=true/\e.on=j:=by
 unfold eX;simp only[mem_map,mem_filter,Array.mem_toList_iff];constructor
 ·rintro⟨e,⟨h1,h2⟩,h3⟩;exact⟨e,h1,h2,h3⟩
 ·rintro⟨e,h1,h2,h3⟩;exact⟨e,⟨h1,h2⟩,h3⟩
theorem cK:ir o j=true↔j∈eX o:=by rw[jw];unfold ir;simp only[any_eq_true,Bool.and_eq_true,Nat.beq_eq,Array.mem_toList_iff]
theorem iL(done:Nat->Prop)(hdc:∀i o,L[i]?=some o->done i->∀j∈eX o,done j):
  ∀(k:Nat) (S:List Nat),AH L k S=true->(∀j∈S,done j)->∀j,j < k->done j
 | 0,_,_,_,j,hj=>absurd hj WC
 | k+1,S,hc,hS,j,hj=>by
   simp only[AH,Bool.and_eq_true] at hc;have hk:done k:=hS k (by simpa using hc.1);by_cases e:j=k
   ·subst e;exact hk
   ·refine iL done hdc k _ hc.2 ?_ j WC;intro i hi;rcases List.mem_append.1 hi with h | h
    ·exact hS i h
    ·split at h
     ·rename_i o ho;exact hdc k o ho hk i h
     ·cases h
variable{t:Tmp}
theorem oB:∀ {l:List Oper} {k i:Nat} {o:Oper},l[i]?=some o->o.dst=some t->(∃j,gw t l k=some j)
 | [],_,i,o,h,_=>by simp at h
 | x::l,k,0,o,h,hd=>by simp at h;subst h;exact⟨k,by simp[gw,hd]⟩
 | x::l,k,i+1,o,h,hd=>by
   by_cases hx:x.dst=some t
   ·exact⟨k,by simp[gw,hx]⟩
   ·obtain⟨j,hj⟩:=oB (l:=l) (k:=k+1) (i:=i) (o:=o) Tak hd;exact⟨j,by simp[gw,hx,hj]⟩
theorem qE:∀ {l:List Oper} {k j:Nat},gw t l k=some j->∃i o,j=k+i/\l[i]?=some o/\o.dst=some t
 | [],_,_,h=>by simp[gw] at h
 | x::l,k,j,h=>by
   unfold gw at h;split at h
   ·rename_i hx;injection h with h;subst h;exact⟨0,x,rfl,rfl,hx⟩
   ·obtain⟨i,o,e,h1,h2⟩:=qE h;exact⟨i+1,o,by omega,by simpa using h1,h2⟩
structure Inv (l:List Oper) (V:Nat->World->Value->Prop) (R:World->World->Prop) (a0:Act) (w0:World) (m:Nat) (listed:Array Bool) (a:Act) (w:World):Prop where
 r:R w0 w
 defers:a.defers=a0.defers
 size:a.tmps.size=a0.tmps.size
 old:∀t,(∀i o,l[i]?=some o->o.dst=some t->listed.getD i false=true->False)->a.tmps[t]?=a0.tmps[t]?
 new:∀i o d,l[i]?=some o->listed.getD i false=true->o.dst=some d->V i w (a.eval (.tmp d))
 closed:∀i o,l[i]?=some o->listed.getD i false=true->∀j∈eX o,listed.getD j false=true
 len:listed.size=m
 tail:∀i,l.length<=i->listed.getD i false=false
def bw (l:Nat)(listed:Array Bool):Nat:=((List.range l).filter λ i=> !listed.getD i false).length
theorem eH (listed:Array Bool)(i j:Nat)(hi:i < listed.size):(listed.setIfInBounds i true).getD j false=if j=i then true else listed.getD j false:=by
 by_cases h:j=i
 ·subst h;simp[hi]
 ·simp only[Array.getD_eq_getD_getElem?,if_neg h];rw[Array.getElem?_setIfInBounds_ne (λ e=>h e.symm)]
variable{q:Nat->Bool}{i:Nat}
theorem yr{p:Nat->Bool} :∀ {L:List Nat},L.Nodup->i∈L->p i=true->q i=false->(∀j∈L,j≠i->q j=p j)->(L.filter q).length+1=(L.filter p).length
 | [],_,h,_,_,_=>by cases h
 | x::L,hn,hm,hp,hq,Y7=>by
   have hn':=(List.nodup_cons.1 hn);by_cases hx:x=i
   ·subst hx;have he:L.filter q=L.filter p:=filter_congr λ j hj=>Y7 j (mem_cons_of_mem _ hj) (λ e=>hn'.1 (e▸hj))
    rw[filter_cons,filter_cons,hp,hq,he];simp
   ·have hi:i∈L:=by
     rcases List.mem_cons.1 hm with h | h
     ·exact absurd h.symm hx
     ·exact h
    have ih:=yr hn'.2 hi hp hq (λ j hj=>Y7 j (mem_cons_of_mem _ hj));have hxq:=Y7 x (mem_cons_self) hx;rw[filter_cons,filter_cons,hxq];split
    ·simp only[length_cons];omega
    ·exact ih
theorem kY (l:Nat)(listed:Array Bool)(i:Nat)(hi:i < listed.size)(hl:i < l)(h:listed.getD i false=false):bw l (listed.setIfInBounds i true)+1=bw l listed:=by unfold bw;refine yr (i:=i) nodup_range (List.mem_range.2 hl) (by simp[h]) (by rw[eH _ _ _ hi];simp) ?_;intro j _ hj;rw[eH _ _ _ hi,if_neg hj]
variable{listed:Array Bool}
theorem ed{l:Nat} (h:bw l listed=0):∀i,i < l->listed.getD i false=true:=by
 intro i hi;unfold bw at h;have:=List.length_eq_zero_iff.1 h
 cases hc:listed.getD i false with
 | true=>rfl
 | false=>
   have hm:i∈(List.range l).filter λ i=> !listed.getD i false:=List.mem_filter.2 ⟨List.mem_range.2 hi,by simp[hc]⟩
   rw[this] at hm;cases hm
theorem least{p:Nat->Prop}:∀n,p n->∃i,p i/\∀j,j < i->¬p j:=by
 intro n hn
 induction n using Nat.strongRecOn with
 | ind n ih=>
   by_cases h:∃j,j < n/\p j
   ·obtain⟨j,hj,hp⟩:=h;exact ih j hj hp
   ·exact⟨n,hn,λ j hj hp=>h ⟨j,hj,hp⟩⟩
theorem kZ{l:Nat} (h:bw l listed≠0):∃i,i < l/\listed.getD i false=false:=by
 unfold bw at h
 match hf:(List.range l).filter λ i=> !listed.getD i false with
 | []=>rw[hf] at h;exact absurd rfl h
 | i::_=>
   have hm:i∈(List.range l).filter λ i=> !listed.getD i false:=by rw[hf];exact mem_cons_self
   have:=List.mem_filter.1 hm;exact⟨i,List.mem_range.1 this.1,by simpa using this.2⟩
variable{T:Value->World->Prop}{K:Act->World->Prop}{Q:Exit->Act->World->Prop}
theorem jx{a:Act} {w:World}   
  (h:xa P o a.eval w T) (hK:∀v w',T v w'->K (a.put o.dst v) w'):o.wp P a w K Q:=by
 unfold xa at h;unfold Oper.wp;generalize (execOp a.eval o).run P w=r at*
 cases r with
 | ok n w'=>
   cases n <;> simp only[Oper.upon] <;> first | exact hK _ _ h | exact h.elim | skip
   exact h.mono λ e w'' ⟨v,he,ht⟩=>by subst he;exact hK _ _ ht
 | halt x w'=>exact h.elim
theorem mC{a:Act} (h:a.tmps[t]?=a0.tmps[t]?):a.eval (.tmp t)=a0.eval (.tmp t):=by simp[Act.eval,Array.getD_eq_getD_getElem?,h]
section
variable {P:Program} {l zs:List Oper} {Q:Exit->Act->World->Prop} {R:World->World->Prop} {V:Nat->World->Value->Prop} {a0:Act} {w0:World}
theorem nI {i:Nat} {o:Oper}(h:l[i]?=some o):(l++zs).toArray[i]?=some o:=by
 have:i < l.length:=by
  rcases Nat.lt_or_ge i l.length with h' | h'
  ·exact h'
  ·rw[getElem?_eq_none h'] at h;cases h
 simp[getElem?_append_left this,h]
theorem Inv.reads (aZ:dN l a0.tmps.size l 0=true) {listed:Array Bool} {a:Act} {w:World} {m:Nat}(I:Inv l V R a0 w0 m listed a w) {i:Nat} {o:Oper}(ho:l[i]?=some o)
  (hun:listed.getD i false=false) (hall:∀j∈eX o,listed.getD j false=true):∀ts,(∀t∈ts,t∈tmpsOf o)->lJ l V a0.eval a.eval w o ts
 | [],_=>trivial
 | t::ts,akz=>by
   refine⟨?_,Inv.reads aZ I ho hun hall ts (λ t ht=>akz t (mem_cons_of_mem _ ht))⟩;have NF:=cE aZ i o ho;rw[Nat.zero_add] at NF;simp only[lI,Bool.and_eq_true] at NF;have ht:=List.all_eq_true.1 NF.1.2 t (akz t mem_cons_self);unfold cW;cases hs:gw t l 0 with
   | none=>refine mC (I.old t ?_);intro j oj hj hd _;obtain⟨k,hk⟩:=oB (k:=0) hj hd;rw[hs] at hk;cases hk
   | some j=>
     simp only[hs] at ht;obtain⟨j',oj,e,hj,hd⟩:=qE hs;rw[Nat.zero_add] at e;subst e;by_cases he:ir o j=true
     ·simp only[he,if_true];exact I.new j oj t hj (hall j (cK.1 he)) hd
     ·simp only[he];rw[Bool.not_eq_true] at he;simp only[he,Bool.false_or,hj] at ht;refine mC (I.old t ?_);intro k ok hk hdk hlk;have XR:=cE aZ k ok hk;simp only[lI,hdk,Bool.and_eq_true,Nat.zero_add,beq_iff_eq] at XR;have hkj:k=j:=by have:=XR.1.1.2.2;rw[hs] at this;injection this with this;exact this.symm
      subst hkj;rw[hj] at hk;injection hk with hk;subst hk
      have:=I.closed k oj hj hlk i (cK.1 ht);rw[hun] at this;cases this
theorem Inv.step (aZ:dN l a0.tmps.size l 0=true)(hV:∀i w w' v,V i w v->R w w'->V i w' v)(hT:∀a b c,R a b->R b c->R a c) {m:Nat} {listed:Array Bool} {a:Act} {w w':World} {v:Value}(I:Inv l V R a0 w0 m listed a w) {i:Nat} {o:Oper}(ho:l[i]?=some o)(Rp:i < m)
  (hun:listed.getD i false=false) (hall:∀j∈eX o,listed.getD j false=true) (hr:R w w') (hv:V i w' v):Inv l V R a0 w0 m (listed.setIfInBounds i true) (a.put o.dst v) w':=by
 have rW:i < listed.size:=by rw[I.len];exact Rp
 have JY:i < l.length:=by
  rcases Nat.lt_or_ge i l.length with h' | h'
  ·exact h'
  ·rw[getElem?_eq_none h'] at ho;cases ho
 have jy:=cE aZ i o ho;rw[Nat.zero_add] at jy;refine⟨hT _ _ _ I.r hr,?_,?_,?_,?_,?_,by simp[I.len],?_⟩
 ·cases hd:o.dst <;> simp[Act.put,I.defers]
 ·cases hd:o.dst <;> simp[Act.put,I.size]
 ·intro t ht;have hto:o.dst≠some t:=λ e=>ht i o ho e (by rw[eH _ _ _ rW,if_pos rfl])
  have h1:(a.put o.dst v).tmps[t]?=a.tmps[t]?:=by
   cases hd:o.dst with
   | none=>rfl
   | some d=>
     have:d≠t:=λ e=>hto (by rw[hd,e])
     simp[Act.put,Array.getElem?_setIfInBounds_ne this]
  rw[h1];refine I.old t ?_;intro j oj hj hd hl;exact ht j oj hj hd (by rw[eH _ _ _ rW];split <;> simp_all)
 ·intro j oj d hj hl hd;by_cases Xk:j=i
  ·subst Xk;rw[hj] at ho;injection ho with ho;subst ho;simp only[lI,hd,Bool.and_eq_true,decide_eq_true_eq] at jy
   have:(a.put oj.dst v).eval (.tmp d)=v:=by
    have hb:d < a.tmps.size:=by rw[I.size];exact jy.1.1.2.1
    simp[hd,Act.put,Act.eval,hb]
   rw[this];exact hv
  ·have hl':listed.getD j false=true:=by rw[eH _ _ _ rW,if_neg Xk] at hl;exact hl
   have hne:o.dst≠some d:=by intro e;have qF:=cE aZ j oj hj;simp only[lI,hd,Bool.and_eq_true,Nat.zero_add,beq_iff_eq] at qF;simp only[lI,e,Bool.and_eq_true,beq_iff_eq] at jy;rw[qF.1.1.2.2] at jy;have:=jy.1.1.2.2;injection this with this;exact Xk this
   have h1:(a.put o.dst v).eval (.tmp d)=a.eval (.tmp d):=Act.eval_put λ d' uV e=>by injection e with e;subst e;exact hne uV
   rw[h1];exact hV _ _ _ _ (I.new j oj d hj hl' hd) hr
 ·intro j oj hj hl k hk;rw[eH _ _ _ rW];by_cases hki:k=i
  ·rw[if_pos hki]
  ·rw[if_neg hki];by_cases Xk:j=i
   ·subst Xk;rw[hj] at ho;injection ho with ho;subst ho;exact hall k hk
   ·rw[eH _ _ _ rW,if_neg Xk] at hl;exact I.closed j oj hj hl k hk
 ·intro j hj;rw[eH _ _ _ rW,if_neg WC];exact I.tail j hj
def fill (f:Tmp->Value):List Oper->Act->Act
 | [],a=>a
 | o::rest,a=>fill f rest (match o.dst with | some d=>a.put (some d) (f d)| none=>a)
theorem jT (f:Tmp->Value):∀(l:List Oper) (a:Act),(fill f l a).defers=a.defers
 | [],_=>rfl
 | o::rest,a=>by rw[fill,jT f rest];cases o.dst <;> rfl
theorem nJ (f:Tmp->Value):∀(l:List Oper) (a:Act),(fill f l a).tmps.size=a.tmps.size
 | [],_=>rfl
 | o::rest,a=>by rw[fill,nJ f rest];cases o.dst <;> simp[Act.put]
theorem qG (f:Tmp->Value):∀(l:List Oper) (a:Act) (t:Nat),t < a.tmps.size->(fill f l a).tmps[t]?=if (∃o∈l,o.dst=some t)then some (f t)else a.tmps[t]?
 | [],_,_,_=>by simp[fill]
 | o::rest,a,t,ht=>by
   rw[fill,qG f rest _ t (by cases o.dst <;> simpa [Act.put] using ht)];by_cases h1:∃o'∈rest,o'.dst=some t
   ·rw[if_pos h1,if_pos (by obtain⟨o',h,e⟩:=h1;exact⟨o',mem_cons_of_mem _ h,e⟩)]
   ·rw[if_neg h1];by_cases h2:o.dst=some t
    ·rw[if_pos ⟨o,mem_cons_self,h2⟩,h2];simp[Act.put,ht]
    ·rw[if_neg (by rintro⟨o',h,e⟩;rcases List.mem_cons.1 h with rfl | h;exact h2 e;exact h1 ⟨o',h,e⟩)];cases hd:o.dst with
     | none=>rfl
     | some d=>simp[Act.put,Array.getElem?_setIfInBounds_ne (show d≠t from λ e=>h2 (by rw[hd,e]))]
theorem xd {K:Act->World->Prop} {w:World}(f:Tmp->Value):∀(L:List Oper) (k:Nat) (a:Act),(∀i o d,L[i]?=some o->o.dst=some d->V (k+i) w (f d))->bD V K L k a w->K (fill f L a) w
 | [],_,_,_,h=>h
 | o::rest,k,a,hv,h=>by
   rw[fill];have JZ:∀i o' d,rest[i]?=some o'->o'.dst=some d->V (k+1+i) w (f d):=λ i o' d h1 h2=>by have:=hv (i+1) o' d Ta5 h2;rwa [show k+(i+1)=k+1+i by omega] at this
   unfold bD at h;cases hd:o.dst with
   | none=>simp only[hd] at h;exact xd f rest (k+1) a JZ h
   | some d=>simp only[hd] at h;exact xd f rest (k+1) _ JZ (h _ (by have:=hv 0 o d rfl hd;simpa using this))
theorem qH {ops:Array Oper} {listed:Array Bool} {i:Nat} {o:Oper}(ho:ops[i]?=some o)(hu:listed.getD i true=false)(hall:∀j∈eX o,listed.getD j false=true):i∈Region.ready .any ops listed:=
 mem_ready.2 ⟨hu,o,ho,λ e he hb=>hall _ (jw.2 ⟨e,he,hb,rfl⟩)⟩
theorem et {listed:Array Bool} {i:Nat}(h:i < listed.size):listed.getD i true=listed.getD i false:=by simp[h]
theorem qI {N:Nat}(aZ:dN l N l 0=true)(hz:eL (l++zs) zs l.length=true):∀(k:Nat) (rest:List Oper),zs.drop k=rest->∀(listed:Array Bool) (a:Act) (w:World),listed.size=(l++zs).length->
  (∀i,i <(l++zs).length->(listed.getD i false=true↔i < l.length+k))->wpList P (l++zs).toArray Q rest a w->wpAny P .any (l++zs).toArray Q rest.length listed a w
 | k,[],hk,listed,a,w,hs,hl,h=>by
   refine⟨?_,h⟩;have hlen:zs.length<=k:=List.drop_eq_nil_iff.1 hk;rw[eq_nil_iff_forall_not_mem];intro i hi;obtain⟨hu,o,ho,_⟩:=mem_ready.1 hi;have JY:i <(l++zs).length:=by
    rcases Nat.lt_or_ge i (l++zs).length with h' | h'
    ·exact h'
    ·rw[Array.getElem?_eq_none (by simpa using h')] at ho;cases ho
   rw[et WC] at hu;have:=(hl i JY).2 (by simp at JY;omega);rw[hu] at this;cases this
 | k,o::rest,hk,listed,a,w,hs,hl,h=>by
   have TA:zs[k]?=some o:=by have:=congrArg (λ x=>x[0]?) hk;simpa using this
   have akB:k < zs.length:=by
    rcases Nat.lt_or_ge k zs.length with h' | h'
    ·exact h'
    ·rw[getElem?_eq_none h'] at TA;cases TA
   have Kb:(l++zs)[l.length+k]?=some o:=by rw[getElem?_append_right WC];simpa using TA
   have EP:zs.drop (k+1)=rest:=by rw[<- tail_drop,hk];rfl
   have ht:=iK hz k o TA;have akC:∀j∈eX o,listed.getD j false=true:=λ j Lw=>by have:=of_decide_eq_true (List.all_eq_true.1 ht.1 j Lw);exact(hl j Tab).2 this
   have hun:listed.getD (l.length+k) true=false:=by
    rw[et (by rw[hs];simp;omega)];cases hc:listed.getD (l.length+k) false with
    | false=>rfl
    | true=>exact absurd ((hl _ Tab).1 hc) WC
   have iY:l.length+k∈Region.ready .any (l++zs).toArray listed:=qH (by simpa using Kb) hun akC;refine⟨(λ h0=>by rw[h0] at iY;cases iY),λ i hi=>?_⟩;obtain⟨hu,oj,hoi,hall⟩:=mem_ready.1 hi;have JY:i <(l++zs).length:=by
    rcases Nat.lt_or_ge i (l++zs).length with h' | h'
    ·exact h'
    ·rw[Array.getElem?_eq_none (by simpa using h')] at hoi;cases hoi
   rw[et WC] at hu;have azJ:l.length+k<=i:=by
    rcases Nat.lt_or_ge i (l.length+k)with h' | h'
    ·have:=(hl i JY).2 h';rw[hu] at this;cases this
    ·exact h'
   have hik:i=l.length+k:=by
    rcases Nat.lt_or_ge (l.length+k) i with h' | h'
    ·exfalso;have hzj:zs[i - l.length]?=some oj:=by
      have:(l++zs)[i]?=some oj:=by simpa using hoi
      rw[getElem?_append_right WC] at this;exact this
     have Rq:=iK hz (i - l.length) oj hzj;rw[show l.length+(i - l.length)=i by omega] at Rq;have hc:=iL (L:=l++zs) (λ j=>j <(l++zs).length->listed.getD j false=true) (by
      intro j Kx Lw hdone e he hlt
      have akD:j <(l++zs).length:=by
       rcases Nat.lt_or_ge j (l++zs).length with h' | h'
       ·exact h'
       ·rw[getElem?_eq_none h'] at Lw;cases Lw
      have uW:=(hl j akD).1 (hdone akD)
      by_cases hjz:l.length<=j
      ·have KK:zs[j - l.length]?=some Kx:=by rw[getElem?_append_right WC] at Lw;exact Lw
       have:=of_decide_eq_true (List.all_eq_true.1 (iK hz (j - l.length) Kx KK).1 e he)
       exact(hl e hlt).2 WC
      ·have hj:l[j]?=some Kx:=by rw[getElem?_append_left WC] at Lw;exact Lw
       have qF:=cE aZ j Kx hj
       simp only[lI,Bool.and_eq_true,Nat.zero_add] at qF
       have:=of_decide_eq_true (List.all_eq_true.1 qF.1.1.1 e he)
       exact(hl e hlt).2 WC) i (eX oj) Rq.2 (by
      intro j Lw hlt
      obtain⟨e,he,hb,rfl⟩:=jw.1 Lw
      exact hall e he hb) (l.length+k) h' Tab
     exact absurd ((hl _ Tab).1 hc) WC
    ·omega
   subst hik;have ho:(l++zs).toArray[l.length+k]?=some o:=by simpa using Kb
   have hw:wpOp P (l++zs).toArray Q (l.length+k) (wpList P (l++zs).toArray Q rest) a w:=by unfold wpOp;rw[ho];unfold wpList at h;exact h
   refine wpOp_mono (λ a' w' h'=>qI aZ hz (k+1) rest EP _ a' w' (by simp[hs]) ?_ h') hw;intro i hi;rw[eH _ _ _ (by rw[hs];simp;omega)];by_cases XS:i=l.length+k
   ·rw[if_pos XS];exact⟨λ _=>by omega,λ _=>rfl⟩
   ·rw[if_neg XS,hl i hi];omega
theorem bh (n i:Nat):(Array.replicate n false).getD i false=false:=by simp only[Array.getD_eq_getD_getElem?,Array.getElem?_replicate];split <;> rfl
theorem Af {a b:Act}(h1:a.tmps=b.tmps)(h2:a.defers=b.defers):a=b:=by cases a;cases b;simp_all
theorem zfO.Kbp(h:p:=by rw[<- ha] at hK;exact Zbk):p:=h
theorem zbZ.Kam(h:p:=by open zfO in exact ZdI):p:=h
theorem Kd {N:Nat}(aZ:dN l N l 0=true)(hz:eL (l++zs) zs l.length=true)(hf:∀w,R w0 w->bD V (λ a w=>wpList P (l++zs).toArray Q zs a w) l 0 a0 w) {listed:Array Bool} {a:Act} {w:World}(I:Inv l V R a0 w0 (l++zs).length listed a w)
  (h0:bw l.length listed=0):wpAny P .any (l++zs).toArray Q zs.length listed a w:=by
 open zbZ in exact ZaE
theorem zal.Kc(h:p:=by
 have hst:=JX hs i oj uX;rw[Nat.zero_add] at hst;have mq:=Inv.reads aZ I uX AL eY (tmpsOf oj) (λ _ h=>h);have hstep:=hst a.eval w (mB a) I.r mq;have Ke:∀v w',R w w'->V i w' v->wpAny P .any (l++zs).toArray Q fuel (listed.setIfInBounds i true) (a.put oj.dst v) w':=by intro v w' hr hv;refine ih _ _ _ (I.step aZ hV AJ uX zt AL eY hr hv) ?_;have:=kY l.length listed i Tbg rW AL;omega
 unfold wpOp;rw[oC];show if Region.wanted oj (yielded (l++zs).toArray a.tmps)=true then _ else _
 cases hg:oj.guard with
 | none=>rw[if_pos (by simp[Region.wanted,hg])];simp only[hg] at hstep;exact .inl (jx hstep λ v w' h=>Ke v w' h.1 h.2)
 | some g=>
   obtain⟨k,want⟩:=g;simp only[hg] at hstep;have qF:=cE aZ i oj uX;simp only[lI,hg,Bool.and_eq_true,Nat.zero_add] at qF;have zu:listed.getD k false=true:=eY k (cK.1 qF.2.1)
   cases hd:(l[k]?).bind (·.dst)with
   | none=>simp only[hd] at hstep
   | some d=>
     simp only[hd] at hstep
     obtain⟨ok,sV,hdk⟩:∃ok,l[k]?=some ok/\ok.dst=some d:=by
      cases hlk:l[k]? with
      | none=>rw[hlk] at hd;cases hd
      | some ok=>rw[hlk] at hd;exact⟨ok,rfl,hd⟩
     have hyv:=I.new k ok d sV zu hdk;obtain⟨h1,h2⟩:=hstep hyv;have XR:=cE aZ k ok sV;simp only[lI,hdk,Bool.and_eq_true,decide_eq_true_eq,Nat.zero_add] at XR;have arZ:d < a.tmps.size:=by rw[I.size];exact XR.1.1.2.1
     have AO:yielded (l++zs).toArray a.tmps k=match a.eval (.tmp d)with | .bool b=>some b | _=>none:=by unfold yielded;rw[nI sV];simp only[Option.bind_some,hdk,Act.eval,Array.getD_eq_getD_getElem?,Array.getElem?_eq_getElem arZ,Option.getD_some];cases a.tmps[d] <;> rfl
     by_cases yt:a.eval (.tmp d)=.bool want
     ·rw[if_pos (by simp[Region.wanted,hg,AO,yt])];exact .inl (jx (h1 yt) λ v w' h=>Ke v w' h.1 h.2)
     ·rw[if_neg (by
       simp only[Region.wanted,hg,AO]
       intro hc
       apply yt
       cases hv:a.eval (.tmp d)<;> rw[hv] at hc <;> simp at hc
       rw[hc])]
      exact Ke undef w (hrefl w) (h2 yt)):p:=h
theorem fu {id:Nat} {ops:List Oper}(zs:List Oper)(l:List Oper)(kE:ops=l++zs)(R:World->World->Prop)(hrefl:∀w,R w w)(AJ:∀a b c,R a b->R b c->R a c)(nK:∀w,R w w.drew)
  (V:Nat->World->Value->Prop) (hV:∀Kx w w' v,V Kx w v->R w w'->V Kx w' v) (hm:P.follows .mixedOrders=true) (aZ:dN l a0.tmps.size l 0=true) (hz:eL (l++zs) zs l.length=true)
  (hs:Steps P l R V a0 w0 l 0) (hf:∀w,R w0 w->bD V (λ a w=>wpList P ops.toArray Q zs a w) l 0 a0 w):(Code.region id ops.toArray true).wp P Q a0 w0:=by
 subst kE
 have main:∀(fuel:Nat) (listed:Array Bool) (a:Act) (w:World),Inv l V R a0 w0 (l++zs).length listed a w->fuel=bw l.length listed+zs.length->wpAny P .any (l++zs).toArray Q fuel listed a w:=by
  intro fuel
  induction fuel with
  | zero=>
    intro listed a w I hfu;have h0:bw l.length listed=0:=by omega
    have hz0:zs.length=0:=by omega
    have:=Kd aZ hz hf I h0;rwa [hz0] at this
  | succ fuel ih=>
    intro listed a w I hfu;by_cases h0:bw l.length listed=0
    ·have:=Kd aZ hz hf I h0;exact Zfc
    ·open zal in exact Zab
 refine wp_region_any hm ?_;have h0:R w0 w0.drew:=nK w0;have:=main (l++zs).toArray.size (Array.replicate (l++zs).toArray.size false) a0 w0.drew ⟨h0,rfl,rfl,λ _ _=>rfl,(λ Kx o d _ h=>by rw[bh] at h;cases h),(λ Kx o _ h=>by rw[bh] at h;cases h),by simp,λ Kx _=>bh _ _⟩ (by
  have:bw l.length (Array.replicate (l++zs).toArray.size false)=l.length:=by
   unfold bw
   rw[List.filter_eq_self.2 (λ Kx _=>by rw[bh];rfl),length_range]
  rw[this];simp)
 exact this
end
structure Ext (B:Nat) (w0:World) where
 w:World
 h:Below B w0 w
instance (B:Nat) (w0:World):Nonempty (Ext B w0):=⟨⟨w0,Below.refl _ _⟩⟩
variable{B:Nat}
theorem Ext.cell(x:Ext B w0) {p:Addr}(hp:p.block < B):x.w.cell? p=w0.cell? p:=x.h.cell hp
variable{C:World->Prop}
theorem tO{ops:Array Oper}  {Q:Act->Prop}:∀(l:List Oper) (a:Act),wpQuiet P ops C Q l a->
  ∃vs:List Value,vs.length=l.length/\
   (∀i o,l[i]?=some o->∃v,vs[i]?=some v/\
     ((Region.wanted o (yielded ops ((l.take i).zip vs |>.foldl (λ b ov=>b.put ov.1.dst ov.2) a).tmps)=true/\∀w,C w->o.quietAt P ((l.take i).zip vs |>.foldl (λ b ov=>b.put ov.1.dst ov.2) a) C w v)\/
      (Region.wanted o (yielded ops ((l.take i).zip vs |>.foldl (λ b ov=>b.put ov.1.dst ov.2) a).tmps)=false/\v=undef)))/\
   Q ((l.zip vs).foldl (λ b ov=>b.put ov.1.dst ov.2) a)
 | [],a,h=>⟨[],rfl,λ i o ho=>by simp at ho,h⟩
 | o::l,a,h=>by
   unfold wpQuiet at h;by_cases hw:Region.wanted o (yielded ops a.tmps)=true
   ·rw[if_pos hw] at h;obtain⟨v,hv,hn⟩:=h;obtain⟨vs,hl,hall,hq⟩:=tO l _ hn;refine⟨v::vs,by simp[hl],λ i o' AP=>?_,by simpa using hq⟩
    match i with
    | 0=>simp at AP;subst AP;exact⟨v,rfl,.inl ⟨by simpa using hw,by simpa using hv⟩⟩
    | i+1=>obtain⟨v',h1,h2⟩:=hall i o' (by simpa using AP);exact⟨v',by simpa using h1,by simpa using h2⟩
   ·rw[if_neg hw] at h;obtain⟨vs,hl,hall,hq⟩:=tO l _ h;refine⟨undef::vs,by simp[hl],λ i o' AP=>?_,by simpa using hq⟩
    match i with
    | 0=>simp at AP;subst AP;exact⟨undef,rfl,.inr ⟨by simpa using hw,rfl⟩⟩
    | i+1=>obtain⟨v',h1,h2⟩:=hall i o' (by simpa using AP);exact⟨v',by simpa using h1,by simpa using h2⟩
variable{l:List Oper}{vs:List Value}
theorem tD{k:Nat}  {v:Value}(hl:vs.length=l.length)(ho:l[k]?=some o)(hv:vs[k]?=some v):((l.take (k+1)).zip vs)=((l.take k).zip vs)++ [(o,v)]:=by
 have hk:k < l.length:=by exact ZfO
 rw[take_add_one,ho]
 have e1:vs=vs.take k++v::vs.drop (k+1):=by
  conv=>lhs;rw[<- take_append_drop k vs]
  congr 1;rw[drop_eq_getElem_cons WC];congr 1;rw[getElem?_eq_getElem WC] at hv;injection hv
 have hlen:(l.take k).length=(vs.take k).length:=by simp;omega
 conv=>lhs;rw[e1]
 rw[zip_append hlen]
 have e2:(l.take k).zip vs=(l.take k).zip (vs.take k):=by
  conv=>lhs;rw[<- take_append_drop k vs]
  have h0:(l.take k++ []).zip (vs.take k++vs.drop k)=(l.take k).zip (vs.take k)++([]:List Oper).zip (vs.drop k):=zip_append hlen;simpa using h0
 rw[e2];simp
theorem ER{a:Act}(aZ:dN l a.tmps.size l 0=true)(hl:vs.length=l.length):∀(k:Nat),k<=l.length->
  (((l.take k).zip vs).foldl (λ b ov=>b.put ov.1.dst ov.2) a).tmps.size=a.tmps.size/\
  (∀j oj d v,j < k->l[j]?=some oj->oj.dst=some d->vs[j]?=some v->(((l.take k).zip vs).foldl (λ b ov=>b.put ov.1.dst ov.2) a).tmps[d]?=some v)/\
  (∀t,(∀j oj,j < k->l[j]?=some oj->oj.dst≠some t)->(((l.take k).zip vs).foldl (λ b ov=>b.put ov.1.dst ov.2) a).tmps[t]?=a.tmps[t]?)
 | 0,_=>by simp
 | k+1,hk=>by
   obtain⟨h1,h2,h3⟩:=ER aZ hl k WC;obtain⟨o,ho⟩:∃o,l[k]?=some o:=⟨l[k]' WC,getElem?_eq_getElem WC⟩;obtain⟨v,hv⟩:∃v,vs[k]?=some v:=⟨vs[k]' WC,getElem?_eq_getElem WC⟩;have e:=tD hl ho hv;rw[e,foldl_append];generalize ((l.take k).zip vs).foldl (λ b ov=>b.put ov.1.dst ov.2) a=b at*;have jy:=cE aZ k o ho;rw[Nat.zero_add] at jy;simp only[foldl_cons,foldl_nil];refine⟨?_,?_,?_⟩
   ·cases hd:o.dst <;> simp[Act.put,h1]
   ·intro j oj d v' Kx hj hd hv';by_cases Xk:j=k
    ·subst Xk;rw[ho] at hj;injection hj with hj;subst hj
     rw[hv] at hv';injection hv' with hv';subst hv'
     simp only[lI,hd,Bool.and_eq_true,decide_eq_true_eq] at jy;have hb:d < b.tmps.size:=by rw[h1];exact jy.1.1.2.1
     simp[hd,Act.put,hb]
    ·have hold:=h2 j oj d v' WC hj hd hv';cases hdo:o.dst with
     | none=>exact hold
     | some d'=>
       have hne:d'≠d:=by intro e';subst e';have qF:=cE aZ j oj hj;simp only[lI,hd,Bool.and_eq_true,Nat.zero_add,beq_iff_eq] at qF;simp only[lI,hdo,Bool.and_eq_true,beq_iff_eq] at jy;rw[qF.1.1.2.2] at jy;have:=jy.1.1.2.2;injection this with this;exact Xk this
       simp only[Act.put,Array.getElem?_setIfInBounds_ne hne];exact hold
   ·intro t ht;have hold:=h3 t (λ j oj Kx hj=>ht j oj WC hj);cases hdo:o.dst with
    | none=>exact hold
    | some d'=>
      have hne:d'≠t:=λ e'=>ht k o WC ho (by rw[hdo,e'])
      simp only[Act.put,Array.getElem?_setIfInBounds_ne hne];exact hold
variable{ρ:Operand->Value}
theorem qJ{a:Act}  {w:World} {v:Value} (XT:∀cs b,o.op≠ .select cs b)(he:∀x∈o.op.operands,ρ x=a.eval x)(hC:C w)
  (h:o.quietAt P a C w v):xa P o ρ w λ v' w'=>(C w->C w')/\v'=v:=by
 unfold Oper.quietAt at h;unfold xa;rw[execOp_congr o XT he];generalize (execOp a.eval o).run P w=r at*
 cases r with
 | ok n w'=>
   cases n <;> simp only[Oper.quietUpon] at h;case value u=>obtain⟨rfl,rfl⟩:=h;exact⟨id,rfl⟩
   case skip=>obtain⟨rfl,rfl⟩:=h;exact⟨id,rfl⟩
   case enter f args=>obtain⟨rfl,hc⟩:=h;exact hc.mono λ e w'' ⟨he,hc'⟩=>⟨v,he,λ _=>hc',rfl⟩
 | halt x w'=>simp only[Oper.quietUpon] at h
theorem NJ:t∈tmpsOf o↔Operand.tmp t∈o.op.operands:=by
 unfold tmpsOf;simp only[mem_filterMap,Array.mem_toList_iff];constructor
 ·rintro⟨x,hx,h⟩;cases x <;> simp at h;subst h;exact hx
 ·intro h;exact⟨_,h,rfl⟩
variable{ρ0:Operand->Value}
theorem ES{w:World} :∀ {ts:List Tmp},lJ l V ρ0 ρ w o ts->∀t∈ts,match cW l o t with | some j=>V j w (ρ (.tmp t))| none=>ρ (.tmp t)=ρ0 (.tmp t)
 | [],_,t,h=>by cases h
 | x::ts,hr,t,h=>by
   rcases List.mem_cons.1 h with rfl | h
   ·exact hr.1
   ·exact ES hr.2 t h
def aeC (l:List Oper):Bool:=l.all λ o=>match o.op with | .select _ _=>false | _=>true
variable{id:Nat}{ops:List Oper}
theorem zhy.Kb3(h:p:=by
 refine⟨?_,ih (k+1) (by rw[<- tail_drop,hk];rfl)⟩;intro ρ w hc hR hr;have hCw:C w:=hR hC0;obtain⟨v,hv,XU⟩:=hall k o Hh;obtain⟨f1,f2,f3⟩:=ER aZ hl k WC;have jy:=cE aZ k o Hh;rw[Nat.zero_add] at jy;have akE:∀cs b,o.op≠ .select cs b:=by intro cs b e;have:=List.all_eq_true.1 XT o (mem_of_getElem? Hh);rw[e] at this;cases this
 have gu:∀x∈o.op.operands,ρ x=(((l.take k).zip vs).foldl (λ b ov=>b.put ov.1.dst ov.2) a0).eval x:=by
  intro x hx
  cases x with
  | const v=>rw[hc.const];rfl
  | global g=>rw[hc.global];rfl
  | func f=>rw[hc.func];rfl
  | tmp t=>
    have hmt:=NJ.2 hx;have hrt:=ES hr t hmt;simp only[lI,Bool.and_eq_true] at jy;have hot:=List.all_eq_true.1 jy.1.2 t hmt;unfold cW at hrt
    cases hs:gw t l 0 with
    | none=>simp only[hs] at hrt;rw[hrt];refine(mC (f3 t ?_)).symm;intro KK Kx _ oC hd;obtain⟨j',hj'⟩:=oB (k:=0) oC hd;rw[hs] at hj';cases hj'
    | some KK=>
      obtain⟨j',Kx,e,hj,hd⟩:=qE hs;rw[Nat.zero_add] at e;subst e;simp only[hs] at hrt hot;by_cases he:ir o KK=true
      ·simp only[he,if_true] at hrt;have hjk:KK < k:=of_decide_eq_true (List.all_eq_true.1 jy.1.1.1 KK (cK.1 he));have:=f2 KK Kx t _ hjk hj hd hrt;simp[Act.eval,this]
      ·rw[Bool.not_eq_true] at he;simp only[he,Bool.false_or,hj] at hot hrt;have asc:ρ (.tmp t)=a0.eval (.tmp t):=by simpa using hrt
       rw[asc];refine(mC (f3 t ?_)).symm;intro j oi hik hoi hdi;have uY:=cE aZ j oi hoi;simp only[lI,hdi,Bool.and_eq_true,Nat.zero_add,beq_iff_eq] at uY;have nL:j=KK:=by have:=uY.1.1.2.2;rw[hs] at this;injection this with this;exact this.symm
       subst nL;rw[hj] at hoi;injection hoi with hoi;subst hoi;have qF:=cE aZ j Kx hj;simp only[lI,Bool.and_eq_true,Nat.zero_add] at qF;have:=of_decide_eq_true (List.all_eq_true.1 qF.1.1.1 k (cK.1 hot));omega
 have hT:xa P o ρ w (λ v' w'=>(C w->C w')/\v'=v)->xa P o ρ w (λ v' w'=>(C w->C w')/\vs[k]?=some v'):=by
  unfold xa;intro h';generalize (execOp ρ o).run P w=r at*
  cases r with
  | ok n w'=>
    cases n <;> first | exact⟨h'.1,by rw[h'.2];exact hv⟩| exact h'.elim | skip
    exact h'.mono λ e w'' ⟨u,h1,h2,h3⟩=>⟨u,h1,h2,by rw[h3];exact hv⟩
  | halt x w'=>exact h'.elim
 cases hg:o.guard with
 | none=>
   rcases XU with ⟨_,hqa⟩|⟨hw,_⟩
   ·exact hT (qJ akE gu hCw (hqa w hCw))
   ·simp[Region.wanted,hg] at hw
 | some g=>
   obtain⟨KK,want⟩:=g;simp only[lI,hg,Bool.and_eq_true] at jy;have hjk:KK < k:=of_decide_eq_true (List.all_eq_true.1 jy.1.1.1 KK (cK.1 jy.2.1));obtain⟨Kx,oC⟩:∃Kx,l[KK]?=some Kx:=⟨l[KK]' WC,getElem?_eq_getElem WC⟩;have XV:=jy.2.2;rw[oC] at XV;obtain⟨d,hd⟩:=Option.isSome_iff_exists.1 XV;simp only[oC,Option.bind_some,hd];intro hyv;have akF:=f2 KK Kx d _ hjk oC hd hyv;have AO:yielded (l++zs).toArray (((l.take k).zip vs).foldl (λ b ov=>b.put ov.1.dst ov.2) a0).tmps KK=match ρ (.tmp d)with | .bool b=>some b | _=>none:=by unfold yielded;rw[nI oC];simp only[Option.bind_some,hd,akF];cases ρ (.tmp d)<;> rfl
   constructor
   ·intro yt;rcases XU with ⟨_,hqa⟩|⟨hw,_⟩
    ·exact hT (qJ akE gu hCw (hqa w hCw))
    ·simp[Region.wanted,hg,AO,yt] at hw
   ·intro yt;rcases XU with ⟨hw,_⟩|⟨_,hu⟩
    ·exfalso;simp only[Region.wanted,hg,AO] at hw;apply yt;cases NK:ρ (.tmp d)<;> rw[NK] at hw <;> simp at hw;rw[hw]
    ·rw[<- hu];exact hv):p:=h
theorem zhz.Kb3(h:p:=by
 have hstep:∀v,vs[k]?=some v->((l.take (k+1)).zip vs).foldl (λ b ov=>b.put ov.1.dst ov.2) a0=(((l.take k).zip vs).foldl (λ b ov=>b.put ov.1.dst ov.2) a0).put o.dst v:=by intro v hv;rw[tD hl Hh hv,foldl_append];rfl
 have EP:=ih (k+1) (by rw[<- tail_drop,hk];rfl) WC;unfold bD
 cases hd:o.dst with
 | none=>simp only;obtain⟨v,hv⟩:∃v,vs[k]?=some v:=⟨vs[k]' WC,getElem?_eq_getElem WC⟩;rw[hstep v hv,hd] at EP;exact EP
 | some d=>simp only;intro v hv;rw[hstep v hv,hd] at EP;exact EP):p:=h
theorem Kf(zs:List Oper)(l:List Oper)(kE:ops=l++zs)(C:World->Prop)(hC0:C w0)(nK:∀w,C w->C w.drew)
  (hm:P.follows .mixedOrders=true) (XT:aeC l=true) (aZ:dN l a0.tmps.size l 0=true) (hz:eL (l++zs) zs l.length=true)
  (h:wpQuiet P ops.toArray C (λ a=>∀w,C w->wpList P ops.toArray Q zs a w) l a0):(Code.region id ops.toArray true).wp P Q a0 w0:=by
 subst kE;obtain⟨vs,hl,hall,hq⟩:=tO l a0 h;refine fu zs l rfl (λ w w'=>C w->C w') (λ _ h=>h) (λ _ _ _ h1 h2 h=>h2 (h1 h)) (λ w h=>nK w h) (λ j _ v=>vs[j]?=some v) (λ _ _ _ _ h _=>h) hm aZ hz ?_ ?_
 ·have key:∀(k:Nat) (rest:List Oper),l.drop k=rest->Steps P l (λ w w'=>C w->C w') (λ j _ v=>vs[j]?=some v) a0 w0 rest k:=by
   intro k rest
   induction rest generalizing k with
   | nil=>intro _;trivial
   | cons o rest ih=>intro hk;open zhy in exact Zfq
  exact key 0 l rfl
 ·intro w hR;have hCw:C w:=hR hC0
  have key:∀(k:Nat) (rest:List Oper),l.drop k=rest->k<=l.length->bD (λ j _ v=>vs[j]?=some v) (λ a w=>wpList P (l++zs).toArray Q zs a w) rest k (((l.take k).zip vs).foldl (λ b ov=>b.put ov.1.dst ov.2) a0) w:=by
   intro k rest
   induction rest generalizing k with
   | nil=>intro hk zu;have:l.length<=k:=List.drop_eq_nil_iff.1 hk;have e:l.take k=l:=take_of_length_le this;rw[e];exact hq w hCw
   | cons o rest ih=>intro hk zu;open zhz in exact Zfq
  have:=key 0 l rfl WC;exact ZeU
theorem aM{w:World}  (k B:Nat)(w0:World)(hb:Below B w0 w)(hm:P.follows .mixedOrders=true)(XT:aeC (ops.take k)=true)
  (aZ:dN (ops.take k) a0.tmps.size (ops.take k) 0=true) (hz:eL ops (ops.drop k) (ops.take k).length=true)
  (h:wpQuiet P ops.toArray (λ w'=>∃x:Ext B w0,w'=x.w) (λ a=>∀w,(∃x:Ext B w0,w=x.w)->wpList P ops.toArray Q (ops.drop k) a w) (ops.take k) a0):(Code.region id ops.toArray true).wp P Q a0 w:=
 Kf (ops.drop k) (ops.take k) (take_append_drop k ops).symm (λ w'=>∃x:Ext B w0,w'=x.w) ⟨⟨w,hb⟩,rfl⟩ (λ w' ⟨x,e⟩=>⟨⟨w'.drew,by rw[e];exact x.h.drew⟩,rfl⟩) hm XT aZ TaL h
variable{f:FuncId}
theorem aH{args:Array Value}   {x:Ext B w0} {v:Value}(hB:B<=w0.heap.size)
  (h:Calls P f args x.w λ e w'=>e=.returned v/\Below x.w.heap.size x.w w'):Calls P f args x.w λ e w''=>e=.returned v/\∃x:Ext B w0,w''=x.w:=
 h.mono λ _ _ ⟨he,hb⟩=>⟨he,⟨_,x.h.trans (hb.mono (Nat.le_trans hB x.h.size))⟩,rfl⟩
theorem df{args:Array Value}   {x:Ext B w0} {v:Value}
  (h:Calls P f args x.w λ e w'=>e=.returned v/\x.w=w'):Calls P f args x.w λ e w''=>e=.returned v/\∃x:Ext B w0,w''=x.w:=
 h.mono λ _ _ ⟨he,hb⟩=>⟨he,x,hb.symm⟩
def ai (w w':World):Prop:=aj w w'
theorem ai.refl (w:World):ai w w:=Below.refl _ _
variable{a b:World}
theorem ai.trans{c:World}(h:ai a b)(k:ai b c):ai a c:=Below.trans h (Below.mono k h.size)
theorem ai.drew (w:World):ai w w.drew:=(Below.refl _ _).drew
theorem bA(k:Nat)(V:Nat->World->Value->Prop)(hV:∀i w w' v,V i w v->ai w w'->V i w' v)(hm:P.follows .mixedOrders=true)
  (aZ:dN (ops.take k) a0.tmps.size (ops.take k) 0=true) (hz:eL ops (ops.drop k) (ops.take k).length=true)
  (hs:Steps P (ops.take k) ai V a0 w0 (ops.take k) 0) (hf:∀w,ai w0 w->bD V (λ a w=>wpList P ops.toArray Q (ops.drop k) a w) (ops.take k) 0 a0 w):(Code.region id ops.toArray true).wp P Q a0 w0:=
 fu (ops.drop k) (ops.take k) (take_append_drop k ops).symm ai ai.refl (λ _ _ _=>ai.trans) ai.drew V hV hm aZ TaL hs hf
section
variable {P:Program} {o:Oper} {ρ:Operand->Value} {w:World} {T:Value->World->Prop}
theorem aq {v:Value} {w':World}(h:(execOp ρ o).run P w=.ok (.value v) w')(hT:T v w'):xa P o ρ w T:=by unfold xa;rw[h];exact hT
theorem Kg {w':World}(h:(execOp ρ o).run P w=.ok .skip w')(hT:T undef w'):xa P o ρ w T:=by unfold xa;rw[h];exact hT
theorem bu {f:FuncId} {args:Array Value} {w':World}(h:(execOp ρ o).run P w=.ok (.enter f args) w')(hc:Calls P f args w' λ e w''=>∃v,e=.returned v/\T v w''):xa P o ρ w T:=by unfold xa;rw[h];exact hc
theorem iZ {x:Operand} {v:Value}(ho:o.op=.move x\/o.op=.assign x)(hx:ρ x=v)(hT:T v w):xa P o ρ w T:=by
 refine aq (v:=v) (w':=w) ?_ hT;rcases ho with ho | ho <;> simp[execOp,ho,hx]
end
open Go.ChangeShapes Go.WideShapes Go.ChangeAt
set_option linter.unusedVariables false
def lK (a b:Int):Int:=if a < b then -1 else if b < a then 1 else 0
theorem agq (a b:Int)(w:World):ar 48 #[ag a,ag b] w λ e w'=>e=.returned (af (lK a b))/\w=w':=by
 unfold lK;by_cases h1:a < b
 ·exact Zgw
 ·by_cases h2:b < a
  ·exact Zgw
  ·exact Zgw
theorem aaN (a b:Int)(w:World):ar 49 #[af a,af b] w λ e w'=>e=.returned (af (lK a b))/\w=w':=by
 unfold lK;by_cases h1:a < b
 ·exact Zgx
 ·by_cases h2:b < a
  ·exact Zgx
  ·exact Zgx
def ld (a b:ByteArray):Int:=if Op.bytesLess a.toList b.toList=true then -1 else if (a.toList==b.toList)=true then 0 else 1
theorem aaO (a b:ByteArray)(w:World):ar 50 #[.string a,.string b] w λ e w'=>e=.returned (af (ld a b))/\w=w':=by
 unfold ld;cases h1:Op.bytesLess a.toList b.toList
 ·cases h2:(a.toList==b.toList)
  ·exact Zgy
  ·exact Zgy
 ·exact Zgy
def or3 (x y z:Int):Int:=if x=0 then(if y=0 then z else y)else x
def ou (x y:Int):Int:=if x=0 then y else x
theorem XW (x y z:Int)(w:World):ar 47 #[aI w.heap.size 3 3] (w.alloc (.cells #[af x,af y,af z] 3)) λ e w'=>
  e=.returned (af (or3 x y z))/\w'=w.alloc (.cells #[af x,af y,af z] 3):=by
 unfold or3;have q1:∀u:Int,u≠0->((u != 0)=true):=λ u h=>by simp[h]
 by_cases h1:x=0
 ·subst h1;by_cases h2:y=0
  ·subst h2;by_cases h3:z=0
   ·subst h3;go_enter Tryz.func47,Tryz.ntmps47;go_wp2;refine wp_loop_rounds 4 ?_;iterate 4 (rw[rounds_succ];go_wp2)
    exact Zbt
   ·have:=q1 z h3;go_enter Tryz.func47,Tryz.ntmps47;go_wp2;refine wp_loop_rounds 4 ?_;iterate 3 (rw[rounds_succ];go_wp2)
    exact Zbt
  ·have:=q1 y h2;go_enter Tryz.func47,Tryz.ntmps47;go_wp2;refine wp_loop_rounds 4 ?_;iterate 2 (rw[rounds_succ];go_wp2)
   exact Zbt
 ·have:=q1 x h1;go_enter Tryz.func47,Tryz.ntmps47;go_wp2;refine wp_loop_rounds 4 ?_;rw[rounds_succ];exact Zfs
structure Val where
 k:Int
 n:Int
 s:ByteArray
abbrev aD (v:Val):Array Value:= #[.int .u8 v.k,.int .i64 v.n,.string v.s]
def bM (a b:Val):Int:=or3 (lK a.k b.k) (lK a.n b.n) (ld a.s b.s)
theorem ee (a b:Val)(w:World):ar 18 #[.agg (aD a),.agg (aD b)] w λ e w'=>
  e=.returned (af (bM a b))/\aj w w':=by
 obtain⟨ak,an,ax⟩:=a;obtain⟨bk,bn,bx⟩:=b;go_enter Tryz.func18,Tryz.ntmps18;go_wp2_with fail
 have hc:∀(y2:Ext (w.heap.size+2) ((w.alloc (.cells #[ag ak,af an,.string ax] 44)).alloc (.cells #[ag bk,af bn,.string bx] 44))) (i:Nat),y2.w.cell? ⟨w.heap.size,i,none⟩= #[Value.int .u8 ak,af an,.string ax][i]?/\y2.w.cell? ⟨w.heap.size+1,i,none⟩= #[Value.int .u8 bk,af bn,.string bx][i]?:=by
  intro y2 i;refine⟨?_,?_⟩
  ·rw[y2.cell Tac];simp
  ·rw[y2.cell Tac];simp
 have c0:=λ y2=>(hc y2 0).1
 have c1:=λ y2=>(hc y2 1).1
 have c2:=λ y2=>(hc y2 2).1
 have d0:=λ y2=>(hc y2 0).2
 have d1:=λ y2=>(hc y2 1).2
 have d2:=λ y2=>(hc y2 2).2
 clear hc;simp at c0 c1 c2 d0 d1 d2;refine aM 15 (w.heap.size+2) _ (Below.refl _ _) Va Va Va Va ?_;simp only[Uab];repeat (go_big_quiet_step (first
  |(go_at_call 48;exact df (agq _ _ _))
  |(go_at_call 49;exact df (aaN _ _ _))
  |(go_at_call 50;exact df (aaO _ _ _))))
 refine wpQuiet_nil ?_;rintro w3 ⟨y2,fP⟩;have hL:=y2.h;rw[<- fP] at hL;clear c0 c1 c2 d0 d1 d2 fP y2;go_wp2_with fail;refine(XW _ _ _ _).mono ?_;rintro e w' ⟨rfl,rfl⟩;go_wp2_with fail;go_ret;have hB:aj w w3:=(((Below.refl _ _).alloc (Nat.le_refl _) _).alloc Tac _).trans (hL.mono Tac);exact⟨rfl,hB.alloc hB.size _⟩
theorem uZ (a:Addr)(n:Nat):(a.add n).block=a.block:=by unfold Addr.add;split <;> rfl
def Reads (w:World)(B size:Nat)(A:Option Addr)(n:Nat)(xs:List Value):Prop:=
 xs.length=n*size/\(0 < n->∃ad,A=some ad/\ad.block < B/\∀j u,xs[j]?=some u->w.cell? (ad.add j)=some u)
section
variable {w w':World} {B B' size n:Nat} {A:Option Addr} {xs:List Value}
theorem Reads.none_:Reads w B size A 0 []:=⟨by simp,λ h=>absurd h WC⟩
theorem Reads.agr {base:Nat} {e:TypeId} {c:Nat}(h:w.ownsRow base e size (.slice A n c) n xs):Reads w w.heap.size size A n xs:=by
 refine⟨h.1,λ hn=>?_⟩;obtain⟨g,cap,hv,_,hlt⟩:=h.form hn;have hA:A=some ⟨g,0,none⟩:=by injection hv
 subst hA;exact⟨_,rfl,hlt,h.cells (g:=g) rfl⟩
end
section
variable {P:Program} (w:World)
theorem vd (base:Nat)(t ty e:TypeId)(i:TypeInfo)(size:Nat)(ht:P.underlying t=some (.slice e))(hi:P.info? e=some i)
  (v:Value) (n:Nat) (xs:List Value) (hown:w.ownsRow base e size v n xs) (c:Nat):(Builtin.append_ #[t,t] ty #[v,.slice none 0 c]).run P w=.ok v w:=by
 rcases hown.2 with ⟨rfl,rfl⟩|⟨g,cap,cur,rfl,_,_,hnc,_⟩
 ·simp[Builtin.append_,run_underlying ht,sizeOf,typeInfo,hi,Builtin.lenOf,Builtin.firstCells]
 ·simp[Builtin.append_,run_underlying ht,sizeOf,typeInfo,hi,Builtin.lenOf,Builtin.firstCells,hnc,storeCells]
theorem ja (base:Nat)(t ty e:TypeId)(i:TypeInfo)(z:Value)(size bytes:Nat)(ht:P.underlying t=some (.slice e))(hi:P.info? e=some i)(hz:i.zero=some z)
  (hsize:i.size=size) (hby:i.bytes=bytes) (hzs:z.cells.size=size) (hsz:0 < size)
  (v:Value) (n:Nat) (xs:List Value) (hown:w.ownsRow base e size v n xs)
  (B:Nat) (A:Option Addr) (m c:Nat) (news:List Value) (hr:Reads w B size A m news) (h1:∀u∈news,u.oneCell'=true)
  (h63:n+m<=maxLen) (hbytes:(n+m)*bytes<=140737488355328) (hbase:base<=w.heap.size):
  ∃v' w',(Builtin.append_ #[t,t] ty #[v,.slice A m c]).run P w=.ok v' w'/\w'.ownsRow base e size v' (n+m) (xs++news)/\w.grownBy w' v.ownBlock/\
   (v'.ownBlock=v.ownBlock\/v'.ownBlock=some w.heap.size):=by
 rcases A with _ | ad
 ·have hm:m=0:=by
   rcases Nat.eq_zero_or_pos m with h0 | h0
   ·exact h0
   ·obtain⟨ad,h,_⟩:=hr.2 h0;cases h
  subst hm;have hn:news=[]:=eq_nil_of_length_eq_zero (by simpa using hr.1);subst hn;exact⟨v,w,vd w base t ty e i size ht hi v n xs hown c,by simpa using hown,World.grownBy.refl w _,.inl rfl⟩
 ·have nd:∀j u,news[j]?=some u->w.cell? (ad.add j)=some u:=by
   intro j u hu;rcases Nat.eq_zero_or_pos m with h0 | h0
   ·subst h0;have hn:news=[]:=eq_nil_of_length_eq_zero (by simpa using hr.1);subst hn;simp at hu
   ·obtain⟨ad',h,_,hc⟩:=hr.2 h0;injection h with h;subst h;exact hc j u hu
  obtain⟨v',w',hrun,h2,h3,_,h5⟩:=run_append_own_at (P:=P) w base t ty e i z size bytes ht hi hz hsize hby hzs hsz v n xs hown ad m c news hr.1 nd h1 h63 hbytes hbase;exact⟨v',w',hrun,h2,h3,h5⟩
theorem DZ {o:Oper} {a:Act} {K:Act->World->Prop} {Q:Exit->Act->World->Prop}(s x:Operand)(t:TypeId)
  (ho:o.op=.call { callee:=.builtin .append,args:= #[s,x],argTypes:= #[t,t] })
  (base:Nat) (e:TypeId) (i:TypeInfo) (z:Value) (size bytes:Nat) (ht:P.underlying t=some (.slice e)) (hi:P.info? e=some i) (hz:i.zero=some z)
  (hsize:i.size=size) (hby:i.bytes=bytes) (hzs:z.cells.size=size) (hsz:0 < size)
  (v:Value) (n:Nat) (xs:List Value) (hs:a.eval s=v) (hown:w.ownsRow base e size v n xs)
  (B:Nat) (A:Option Addr) (m c:Nat) (news:List Value) (hx:a.eval x=.slice A m c) (hr:Reads w B size A m news) (h1:∀u∈news,u.oneCell'=true)
  (h63:n+m<=maxLen) (hbytes:(n+m)*bytes<=140737488355328) (hbase:base<=w.heap.size)
  (h:∀v' w',w'.ownsRow base e size v' (n+m) (xs++news)->w.grownBy w' v.ownBlock->(v'.ownBlock=v.ownBlock\/v'.ownBlock=some w.heap.size)->K (a.put o.dst v') w'):o.wp P a w K Q:=by obtain⟨v',w',hrun,h2,h3,h4⟩:=ja (P:=P) w base t o.type e i z size bytes ht hi hz hsize hby hzs hsz v n xs hown B A m c news hr h1 h63 hbytes hbase;unfold Oper.wp execOp;simp only[ho,resolve,invoke,builtin,Sem.run_bind,Sem.run_pure,Result.andThen_ok,map_toArray,map_cons,map_nil,hs,hx,hrun];exact h v' w' h2 h3 h4
theorem cN {ops:Array Oper} {rest:List Oper} {o:Oper} {a:Act} {Q:Exit->Act->World->Prop}(hgd:o.guard=none)(s x:Operand)(t:TypeId)
  (ho:o.op=.call { callee:=.builtin .append,args:= #[s,x],argTypes:= #[t,t] })
  (base:Nat) (e:TypeId) (i:TypeInfo) (z:Value) (size bytes:Nat) (ht:P.underlying t=some (.slice e)) (hi:P.info? e=some i) (hz:i.zero=some z)
  (hsize:i.size=size) (hby:i.bytes=bytes) (hzs:z.cells.size=size) (hsz:0 < size)
  (v:Value) (n:Nat) (xs:List Value) (hs:a.eval s=v) (hown:w.ownsRow base e size v n xs)
  (B:Nat) (A:Option Addr) (m c:Nat) (news:List Value) (hx:a.eval x=.slice A m c) (hr:Reads w B size A m news) (h1:∀u∈news,u.oneCell'=true)
  (h63:n+m<=maxLen) (hbytes:(n+m)*bytes<=140737488355328) (hbase:base<=w.heap.size)
  (h:∀v' w',w'.ownsRow base e size v' (n+m) (xs++news)->w.grownBy w' v.ownBlock->(v'.ownBlock=v.ownBlock\/v'.ownBlock=some w.heap.size)->wpList P ops Q rest (a.put o.dst v') w'):wpList P ops Q (o::rest) a w:=
 wpList_plain hgd λ _ hK=>DZ w s x t ho base e i z size bytes ht hi hz hsize hby hzs hsz v n xs hs hown B A m c news hx hr h1 h63 hbytes hbase λ v' w' h2 h3 h4=>hK _ _ (h v' w' h2 h3 h4)
end
def aB (w:World)(g:Nat)(t:TypeId)(cs:Array Value):Prop:=w.heap[g]?=some (.cells cs t (0,0))
section
variable {w w':World} {g:Nat} {t:TypeId} {cs:Array Value}
theorem aB.lt (h:aB w g t cs):g < w.heap.size:=by
 rcases Nat.lt_or_ge g w.heap.size with hlt | ve
 ·exact hlt
 ·unfold aB at h;rw[Array.getElem?_eq_none ve] at h;cases h
theorem aB.cell (h:aB w g t cs)(i:Nat):w.cell? ⟨g,i,none⟩=cs[i]?:=cell_of_row w g i cs t (0,0) h
theorem aB.frozen (h:aB w g t cs)(i:Nat):w.frozen? ⟨g,i,none⟩=false:=by unfold aB at h;simp[World.frozen?,h]
theorem aB.new (w:World)(t:TypeId)(cs:Array Value):aB (w.alloc (.cells cs t)) w.heap.size t cs:=heap_alloc_new w _
theorem aB.drew (h:aB w g t cs):aB w.drew g t cs:=h
theorem aB.alloc (h:aB w g t cs)(o:Obj):aB (w.alloc o) g t cs:=(Below.heap_alloc w o g h.lt).trans h
theorem aB.aU (h:aB w g t cs)(i:Nat)(u:Value):aB (w.setCell ⟨g,i,none⟩ u) g t (cs.setIfInBounds i u):=by unfold aB at h ⊢;simp[World.setCell,Array.getElem?_modify,h]
theorem aB.far (h:aB w g t cs) {p:Addr}(hp:g≠p.block)(u:Value):aB (w.setCell p u) g t cs:=(Below.heap_setCell w p u g hp).trans h
theorem aB.below {B:Nat}(h:aB w g t cs)(hb:Below B w w')(hg:g < B):aB w' g t cs:=(hb.block g hg).trans h
theorem aB.later (h:aB w g t cs)(hb:aj w w'):aB w' g t cs:=h.below hb h.lt
theorem aB.grown {row:Option Nat}(h:aB w g t cs)(hb:w.grownBy w' row)(hg:some g≠row):aB w' g t cs:=(hb.block g h.lt hg).trans h
end
variable{w':World}
theorem aR{p:Nat} {w:World}(h:aj w w'):w.grownBy w' (some p):=⟨h.os,h.tape,h.output,h.size,λ k hk _=>h.block k hk⟩
theorem aY{p:Nat} {c:World}(h:a.grownBy b (some p))(k:b.grownBy c (some p)):a.grownBy c (some p):=
 ⟨k.os.trans h.os,k.tape.trans h.tape,k.output.trans h.output,Nat.le_trans h.size k.size,λ i hi hne=>(k.block i (Nat.lt_of_lt_of_le hi h.size) hne).trans (h.block i hi hne)⟩
theorem aC{p:Nat} (h:a.grownBy b (some p))(i:Nat)(u:Value):a.grownBy (b.setCell ⟨p,i,none⟩ u) (some p):=by
 refine⟨h.os,h.tape,h.output,?_,λ k hk hne=>?_⟩
 ·have:(b.setCell ⟨p,i,none⟩ u).heap.size=b.heap.size:=by simp[World.setCell]
  rw[this];exact h.size
 ·rw[Below.heap_setCell b ⟨p,i,none⟩ u k (λ e=>hne Tbd)];exact h.block k hk hne
theorem lL{p:Nat} (h:a.grownBy b (some p)):a.grownBy b.drew (some p):=⟨h.os,h.tape,h.output,h.size,h.block⟩
variable{α:Type}
def aF(f:α->List Value)(e:TypeId)(size:Nat)(w:World)(base:Nat)(v:Value)(l:List α):Prop:=w.ownsRow base e size v l.length (l.flatMap f)
section
variable {α:Type} {f:α->List Value} {e:TypeId} {size:Nat} {w w':World} {base:Nat} {v:Value} {l:List α}
theorem aF.nil:aF f e size w base (az) []:=⟨by simp,.inl ⟨rfl,rfl⟩⟩
theorem aF.reads (h:aF f e size w base v l):∃A c,v=.slice A l.length c/\Reads w w.heap.size size A l.length (l.flatMap f)/\l.length<=c/\(l=[]\/∃g,A=some ⟨g,0,none⟩/\base<=g):=by
 rcases h.2 with ⟨rfl,h0⟩|⟨g,cap,cur,rfl,hb,hg,hn,hm,hs,ht⟩
 ·have:l=[]:=eq_nil_of_length_eq_zero h0;subst this;exact⟨none,0,rfl,Reads.none_,Nat.le_refl _,.inl rfl⟩
 ·exact⟨some ⟨g,0,none⟩,cap,rfl,Reads.agr h,hn,.inr ⟨g,rfl,hb⟩⟩
theorem aF.keep (h:aF f e size w base v l)(hk:∀g,v.ownBlock=some g->w'.heap[g]?=w.heap[g]?):aF f e size w' base v l:=by
 refine⟨h.1,?_⟩;rcases h.2 with h0 |⟨g,cap,cur,rfl,hbg,hg,hn,hm,hs,ht⟩
 ·exact .inl h0
 ·exact .inr ⟨g,cap,cur,rfl,hbg,(hk g rfl).trans hg,hn,hm,hs,ht⟩
theorem aF.lt (h:aF f e size w base v l) {g:Nat}(hb:v.ownBlock=some g):g < w.heap.size/\base<=g/\∃cur,w.heap[g]?=some (.cells cur e (0,0)):=by
 rcases h.2 with ⟨rfl,_⟩|⟨g',cap,cur,rfl,hbg,Rs,hn,hm,hs,ht⟩
 ·simp[Value.ownBlock] at hb
 ·simp only[Value.ownBlock,Option.some.injEq] at hb;subst hb;refine⟨?_,hbg,cur,Rs⟩;rcases Nat.lt_or_ge g' w.heap.size with hlt | ve
  ·exact hlt
  ·rw[Array.getElem?_eq_none ve] at Rs;cases Rs
theorem aF.later (h:aF f e size w base v l)(hb:aj w w'):aF f e size w' base v l:=h.keep λ g hg=>hb.block g (h.lt hg).1
theorem aF.other (h:aF f e size w base v l) {q:Nat} {t:TypeId} {cs:Array Value}(h1:aB w q t cs)(ht:t≠e):v.ownBlock≠some q:=by intro hg;obtain⟨_,_,cur,h2⟩:=h.lt hg;unfold aB at h1;exact ZgU
theorem aF.grown {p:Nat}(h:aF f e size w base v l)(hg:w.grownBy w' (some p))(hp:v.ownBlock≠some p):aF f e size w' base v l:=h.keep λ g eh=>hg.block g (h.lt eh).1 λ e=>hp (by rw[eh];exact e)
theorem bj (h:aF f e size w base v l)(hg:w.grownBy w' v.ownBlock)(hbase:base<=w.heap.size):Below base w w':=by refine⟨hg.os,hg.tape,hg.output,hg.size,λ k hk=>hg.block k WC λ e=>?_⟩;have:=(h.lt e.symm).2.1;omega
theorem aT {P:Program} {ops:Array Oper} {rest:List Oper} {o:Oper} {a:Act} {Q:Exit->Act->World->Prop}(hgd:o.guard=none)(s x:Operand)(t:TypeId)
  (ho:o.op=.call { callee:=.builtin .append,args:= #[s,x],argTypes:= #[t,t] })
  (z:Value) (bytes:Nat) (ht:P.underlying t=some (.slice e)) (jr:(P.info? e).map (λ i=>(i.zero,i.size,i.bytes))=some (some z,size,bytes)) (hzs:z.cells.size=size) (hsz:0 < size)
  (y:α) (hf:(f y).length=size) (h1:∀u∈f y,u.oneCell'=true)
  (hs:a.eval s=v) (hown:aF f e size w base v l)
  (g:Nat) (hx:a.eval x=aI g 1 1) (hg:aB w g e (f y).toArray)
  (hlen:(l.length+1)*bytes<=140737488355328) (mD:l.length+1<=140737488355328) (hbase:base<=w.heap.size)
  (h:∀v' w',aF f e size w' base v' (l++ [y])->w.grownBy w' v.ownBlock->wpList P ops Q rest (a.put o.dst v') w'):wpList P ops Q (o::rest) a w:=by
 obtain⟨i0,kR,hz0,hz1,hz2⟩:=info_parts jr;refine cN w hgd s x t ho base e i0 z size bytes ht kR hz0 hz1 hz2 hzs hsz v l.length (l.flatMap f) hs hown (g+1) (some ⟨g,0,none⟩) 1 1 (f y) hx ⟨by omega,λ _=>⟨_,rfl,Nat.lt_succ_self _,?_⟩⟩ h1 Tam hlen hbase ?_
 ·exact ZeP
 ·intro v' w' h2 h3 h4;refine h v' w' ?_ h3;exact Zg3
end
set_option linter.unusedSimpArgs false
def aN:Val:=⟨0,0,ByteArray.empty⟩
def num (n:Int):Val:=⟨2,n,ByteArray.empty⟩
def bE (b:Bool):Val:=⟨1,if b then 1 else 0,ByteArray.empty⟩
def bQ (v:Val)(err:Int):Value:=.tuple #[.agg (aD v),af err]
def Val.Ok (a:Val):Prop:= -9223372036854775808<=a.n/\a.n<=9223372036854775807
theorem ai.then{c:World}(h:aj a b)(k:aj b c):aj a c:=h.trans (k.mono h.size)
theorem ah (w:World)(o:Obj):aj w (w.alloc o):=(Below.refl _ _).alloc (Nat.le_refl _) o
variable{g:Nat}
theorem aG{w:World}  {t:TypeId} {k n:Int} {s:ByteArray}(h:aB w g t #[ag k,af n,.string s]):w.cell? ⟨g,0,none⟩=some (ag k)/\w.cell? ⟨g,1,none⟩=some (af n)/\w.cell? ⟨g,2,none⟩=some (.string s):=⟨h.cell 0,h.cell 1,h.cell 2⟩
def Hi (s:ByteArray):Bool:=s.toList== []
def good (v:Val):Bool:=
 if v.k=0 then(v.n==0 && Hi v.s)else if v.k=1 then(Hi v.s &&(v.n==0 || v.n==1))else if v.k=2 then Hi v.s else if v.k=3 then v.n==0 else false
theorem vg (v:Val)(w:World):ar 44 #[.agg (aD v)] w λ e w'=>e=.returned (.bool (good v))/\aj w w':=by
 obtain⟨k,n,s⟩:=v;unfold good Hi;dsimp only;by_cases h0:k=0
 ·subst h0;exact Zbv
 ·have e0:(k==0)=false:=by simpa using h0
  by_cases h1:k=1
  ·subst h1;cases hs:(s.toList== [])
   ·exact Zbv
   ·cases hn:(n==0)
    ·exact Zbv
    ·exact Zbv
  ·have e1:(k==1)=false:=by simpa using h1
   by_cases h2:k=2
   ·subst h2;exact Zbv
   ·have e2:(k==2)=false:=by simpa using h2
    by_cases h3:k=3
    ·subst h3;exact Zbv
    ·have e3:(k==3)=false:=by simpa using h3
     exact Zbv
theorem rX (b:Bool)(w:World):ar 111 #[.bool b] w λ e w'=>e=.returned (bQ (bE b) 0)/\aj w w':=by
 unfold bQ bE;cases b
 ·go_enter Tryz.func111,Tryz.ntmps111;go_wp2;exact bodyPost_ret (v:=.tuple #[.agg #[ag 1,af 0,.string ByteArray.empty],af 0]) Ta7 rfl ⟨rfl,by go_grown⟩
 ·go_enter Tryz.func111,Tryz.ntmps111;go_wp2;exact bodyPost_ret (v:=.tuple #[.agg #[ag 1,af 1,.string ByteArray.empty],af 0]) Ta7 rfl ⟨rfl,by go_grown⟩
def fB (n:Int)(ok:Bool):Val×Int:=if ok then(num n,0)else(aN,43)
theorem iu (n:Int)(ok:Bool)(w:World):ar 109 #[af n,.bool ok] w λ e w'=>e=.returned (bQ (fB n ok).1 (fB n ok).2)/\aj w w':=by
 unfold bQ fB;cases ok
 ·go_enter Tryz.func109,Tryz.ntmps109;go_wp2;exact bodyPost_ret (v:=.tuple #[.agg #[ag 0,af 0,.string ByteArray.empty],af 43]) Ta8 rfl ⟨rfl,by go_grown⟩
 ·go_enter Tryz.func109,Tryz.ntmps109;go_wp2;exact bodyPost_ret (v:=.tuple #[.agg #[ag 2,af n,.string ByteArray.empty],af 0]) Ta8 rfl ⟨rfl,by go_grown⟩
theorem TB (n:Int)(w:World):ar 76 #[af n] w λ e w'=>e=.returned (.bool (decide (1<=n)&& decide (n<=1099511627776)))/\w=w':=by
 by_cases h1:1<=n
 ·have d1:decide (1<=n)=true:=by simpa using h1
  exact Zfb
 ·have d1:decide (1<=n)=false:=by simpa using h1
  exact Zfb
def nj (op:Int):Int:=if op=21 then 0 else if 22<=op/\op<=26 then 1 else if op=27\/op=28 then 2 else -1
theorem fF (op:Int)(w:World):ar 77 #[ag op] w λ e w'=>e=.returned (af (nj op))/\w=w':=by
 unfold nj;by_cases h1:op=21
 ·subst h1;go_enter Tryz.func77,Tryz.ntmps77;exact Zfs
 ·have e1:(op==21)=false:=by simpa using h1
  rw[if_neg h1];by_cases h2:22<=op/\op<=26
  ·rw[if_pos h2];obtain⟨h2,h3⟩:=h2;have d2:decide (22<=op)=true:=by simpa using h2
   have d3:decide (op<=26)=true:=by simpa using h3
   go_enter Tryz.func77,Tryz.ntmps77;exact Zfs
  ·rw[if_neg h2]
   have hor:decide (22<=op)=false\/(decide (22<=op)=true/\decide (op<=26)=false):=by
    by_cases h:22<=op
    ·right;simp;omega
    ·left;simpa using h
   by_cases h3:op=27\/op=28
   ·rw[if_pos h3]
    rcases h3 with rfl | rfl;all_goals
     go_enter Tryz.func77,Tryz.ntmps77;go_wp2;go_ret;exact⟨rfl,rfl⟩
   ·rw[if_neg h3];have e3:(op==27)=false:=by rw[beq_eq_false_iff_ne];omega
    have e4:(op==28)=false:=by rw[beq_eq_false_iff_ne];omega
    clear h1 h2 h3
    rcases hor with d2 |⟨d2,d3⟩;all_goals
     go_enter Tryz.func77,Tryz.ntmps77;go_wp2;go_ret;exact⟨rfl,rfl⟩
def zv (a b:Int):Val×Int:=fB (wrap64 (a+b)) (decide (a < wrap64 (a+b))==decide (0 < b))
def zw (a b:Int):Val×Int:=fB (wrap64 (a - b)) (decide (wrap64 (a - b)< a)==decide (0 < b))
def zx (a b:Int):Val×Int:=fB (wrap64 (a*b)) (a==0 ||(wrap64 (Int.tdiv (wrap64 (a*b)) a)==b &&(a != -1 || b != -9223372036854775808)))
def TC (a b:Int):Val×Int:=fB (wrap64 (Int.tdiv a b)) (a != -9223372036854775808 || b != -1)
def TD (a b:Int):Val×Int:=fB (Int.tmod a b) true
def XX (a:Int):Val×Int:=fB (wrap64 (-a)) (a != -9223372036854775808)
theorem aaQ (a b:Int)(w:World):ar 113 #[af a,af b] w λ e w'=>e=.returned (bQ (zv a b).1 (zv a b).2)/\aj w w':=by
 go_enter Tryz.func113,Tryz.ntmps113;go_wp2_with fail
 all_goals
  refine(iu _ _ _).mono ?_;rintro e w' ⟨rfl,hr⟩;generalize Kx:fB _ _=r;have he:zv a b=r:=by rw[<- Kx];unfold zv;first |(simp_all;done)|(congr 1;rw[Bool.eq_iff_iff];simp_all;done)|(congr 1;simp_all;done)
  have HE:=aa he;clear he Kx;unfold bQ;have hR:=(aB.new w 44 #[ag 0,af 0,au]).later hr;have hB:=ai.then (ah w (.cells #[ag 0,af 0,au] 44)) hr
  clear hr;have dv:=aG hR;have gV:=aB.frozen hR;clear hR;go_wp2_with fail;exact bodyPost_ret (v:=.tuple #[.agg (aD r.1),af r.2]) (by simp[results,Tryz.results113,go_sem,dv]) rfl ⟨by rw[HE.ae];rfl,((hB.setCell (Nat.le_refl _) _).setCell (Nat.le_refl _) _).setCell (Nat.le_refl _) _⟩
theorem aaR (a b:Int)(w:World):ar 114 #[af a,af b] w λ e w'=>e=.returned (bQ (zw a b).1 (zw a b).2)/\aj w w':=by
 go_enter Tryz.func114,Tryz.ntmps114;go_wp2_with fail
 all_goals
  refine(iu _ _ _).mono ?_;rintro e w' ⟨rfl,hr⟩;generalize Kx:fB _ _=r;have he:zw a b=r:=by rw[<- Kx];unfold zw;first |(simp_all;done)|(congr 1;rw[Bool.eq_iff_iff];simp_all;done)|(congr 1;simp_all;done)
  have HE:=aa he;clear he Kx;unfold bQ;have hR:=(aB.new w 44 #[ag 0,af 0,au]).later hr;have hB:=ai.then (ah w (.cells #[ag 0,af 0,au] 44)) hr
  clear hr;have dv:=aG hR;have gV:=aB.frozen hR;clear hR;go_wp2_with fail;exact bodyPost_ret (v:=.tuple #[.agg (aD r.1),af r.2]) (by simp[results,Tryz.results114,go_sem,dv]) rfl ⟨by rw[HE.ae];rfl,((hB.setCell (Nat.le_refl _) _).setCell (Nat.le_refl _) _).setCell (Nat.le_refl _) _⟩
theorem TE (a b:Int)(w:World):ar 115 #[af a,af b] w λ e w'=>e=.returned (bQ (zx a b).1 (zx a b).2)/\aj w w':=by
 go_enter Tryz.func115,Tryz.ntmps115;go_wp2_with fail
 all_goals
  refine(iu _ _ _).mono ?_;rintro e w' ⟨rfl,hr⟩;generalize Kx:fB _ _=r;have he:zx a b=r:=by rw[<- Kx];unfold zx;first |(simp_all;done)|(congr 1;rw[Bool.eq_iff_iff];simp_all;done)|(congr 1;simp_all;done)
  have HE:=aa he;clear he Kx;unfold bQ;have hR:=(aB.new w 44 #[ag 0,af 0,au]).later hr;have hB:=ai.then (ah w (.cells #[ag 0,af 0,au] 44)) hr
  clear hr;have dv:=aG hR;have gV:=aB.frozen hR;clear hR;go_wp2_with fail;exact bodyPost_ret (v:=.tuple #[.agg (aD r.1),af r.2]) (by simp[results,Tryz.results115,go_sem,dv]) rfl ⟨by rw[HE.ae];rfl,((hB.setCell (Nat.le_refl _) _).setCell (Nat.le_refl _) _).setCell (Nat.le_refl _) _⟩
theorem aaS (a b:Int)(hb:b≠0)(w:World):ar 117 #[af a,af b] w λ e w'=>e=.returned (bQ (TC a b).1 (TC a b).2)/\aj w w':=by
 go_enter Tryz.func117,Tryz.ntmps117;go_wp2_with fail
 all_goals
  refine(iu _ _ _).mono ?_;rintro e w' ⟨rfl,hr⟩;generalize Kx:fB _ _=r;have he:TC a b=r:=by rw[<- Kx];unfold TC;first |(simp_all;done)|(congr 1;rw[Bool.eq_iff_iff];simp_all;done)|(congr 1;simp_all;done)
  have HE:=aa he;clear he Kx;unfold bQ;have hR:=(aB.new w 44 #[ag 0,af 0,au]).later hr;have hB:=ai.then (ah w (.cells #[ag 0,af 0,au] 44)) hr
  clear hr;have dv:=aG hR;have gV:=aB.frozen hR;clear hR;go_wp2_with fail;exact bodyPost_ret (v:=.tuple #[.agg (aD r.1),af r.2]) (by simp[results,Tryz.results117,go_sem,dv]) rfl ⟨by rw[HE.ae];rfl,((hB.setCell (Nat.le_refl _) _).setCell (Nat.le_refl _) _).setCell (Nat.le_refl _) _⟩
theorem aaT (a b:Int)(hb:b≠0)(w:World):ar 118 #[af a,af b] w λ e w'=>e=.returned (bQ (TD a b).1 (TD a b).2)/\aj w w':=by
 go_enter Tryz.func118,Tryz.ntmps118;go_wp2_with fail
 all_goals
  refine(iu _ _ _).mono ?_;rintro e w' ⟨rfl,hr⟩;generalize Kx:fB _ _=r;have he:TD a b=r:=by rw[<- Kx];unfold TD;first |(simp_all;done)|(congr 1;rw[Bool.eq_iff_iff];simp_all;done)|(congr 1;simp_all;done)
  have HE:=aa he;clear he Kx;unfold bQ;have hR:=(aB.new w 44 #[ag 0,af 0,au]).later hr;have hB:=ai.then (ah w (.cells #[ag 0,af 0,au] 44)) hr
  clear hr;have dv:=aG hR;have gV:=aB.frozen hR;clear hR;go_wp2_with fail;exact bodyPost_ret (v:=.tuple #[.agg (aD r.1),af r.2]) (by simp[results,Tryz.results118,go_sem,dv]) rfl ⟨by rw[HE.ae];rfl,((hB.setCell (Nat.le_refl _) _).setCell (Nat.le_refl _) _).setCell (Nat.le_refl _) _⟩
theorem akG (c:Int)(w:World):ar 120 #[af c] w λ e w'=>e=.returned (.bool (decide (c=0)))/\w=w':=by go_enter Tryz.func120,Tryz.ntmps120;exact Zb5
theorem akH (c:Int)(w:World):ar 121 #[af c] w λ e w'=>e=.returned (.bool (!decide (c=0)))/\w=w':=by go_enter Tryz.func121,Tryz.ntmps121;exact Zb5
theorem is_lt (c:Int)(w:World):ar 122 #[af c] w λ e w'=>e=.returned (.bool (decide (c < 0)))/\w=w':=by go_enter Tryz.func122,Tryz.ntmps122;exact Zb5
theorem is_le (c:Int)(w:World):ar 123 #[af c] w λ e w'=>e=.returned (.bool (decide (c<=0)))/\w=w':=by go_enter Tryz.func123,Tryz.ntmps123;exact Zb5
theorem akI (c:Int)(w:World):ar 124 #[af c] w λ e w'=>e=.returned (.bool (decide (0 < c)))/\w=w':=by go_enter Tryz.func124,Tryz.ntmps124;exact Zb5
theorem akJ (c:Int)(w:World):ar 125 #[af c] w λ e w'=>e=.returned (.bool (decide (0<=c)))/\w=w':=by go_enter Tryz.func125,Tryz.ntmps125;exact Zb5
structure Ex where
 op:Int
 v:Val
 name:ByteArray
 width:Int
 A:Option Addr
 n:Nat
 c:Nat
abbrev ay (y:Ex):Array Value:= #[.int .u8 y.op,.int .u8 y.v.k,.int .i64 y.v.n,.string y.v.s,.string y.name,.int .i64 y.width,.slice y.A y.n y.c]
abbrev dh:Array Value:= #[.int .u8 0,.int .u8 0,.int .i64 0,.string ⟨#[]⟩,.string ⟨#[]⟩,.int .i64 0,.slice none 0 0]
def ei (w:World)(b off:Nat)(x:Val):Prop:=
 w.cell? ⟨b,off,none⟩=some (ag x.k)/\w.cell? ⟨b,off+1,none⟩=some (af x.n)/\w.cell? ⟨b,off+2,none⟩=some (.string x.s)
def RV (w:World)(B:Nat)(A:Option Addr)(l:List Val):Prop:=
 l=[]\/∃b off,A=some ⟨b,off,none⟩/\b < B/\∀i x,l[i]?=some x->ei w b (off+i*3) x
variable{off:Nat}{x:Val}
theorem ei.keep{w:World} {b:Nat} (h:ei w b off x)(hk:∀o,w'.cell? ⟨b,o,none⟩=w.cell? ⟨b,o,none⟩):ei w' b off x:=by unfold ei at*;simp only[hk];exact h
theorem RV.below{w:World}  {A:Option Addr} {l:List Val}(h:RV w B A l)(hb:Below B w w'):RV w' B A l:=by exact Zcu
variable{B':Nat}
theorem RV.more{w:World}  {A:Option Addr} {l:List Val}(h:RV w B A l)(hB:B<=B'):RV w B' A l:=by exact ZdJ
theorem RV.at_{w:World}  {A:Option Addr} {l:List Val}(h:RV w B A l) {k:Nat}(hk:k < l.length):∃b off,A=some ⟨b,off,none⟩/\b < B/\ei w b (off+k*3) l[k]:=by exact Zb3
theorem RV.one{w:World}  {A:Option Addr} (h:RV w B A [x]):∃b off,A=some ⟨b,off,none⟩/\b < B/\ei w b off x:=by obtain⟨b,off,h1,h2,h3⟩:=h.at_ (k:=0) Tac;exact⟨b,off,h1,h2,by simpa using h3⟩
variable{y:Val}
theorem RV.two{w:World}  {A:Option Addr} (h:RV w B A [x,y]):∃b off,A=some ⟨b,off,none⟩/\b < B/\ei w b off x/\ei w b (off+3) y:=by
 rcases h with h |⟨b,off,h1,h2,h3⟩
 ·simp at h
 ·exact⟨b,off,h1,h2,by simpa using h3 0 x rfl,by simpa using h3 1 y rfl⟩
theorem NL (n:Int)(ok:Bool)(w:World):ar 109 #[af n,.bool ok] w λ e w'=>e=.returned (.tuple #[.agg #[ag (fB n ok).1.k,af (fB n ok).1.n,.string (fB n ok).1.s],af (fB n ok).2])/\aj w w':=iu n ok w
theorem jz (b:Bool)(w:World):ar 111 #[.bool b] w λ e w'=>e=.returned (.tuple #[.agg #[ag (bE b).k,af (bE b).n,.string (bE b).s],af 0])/\aj w w':=rX b w
theorem zgQ.KbM(h:p:=by
 unfold ei at cV;have bI:w.heap.size<=w.heap.size+1:=by omega
 generalize w.heap.size+1=g at*;refine aM 13 W.heap.size W (Below.refl _ _) Va Va Va Va ?_;simp only[Uab];repeat (go_big_quiet_step (first
  |(go_at_call 109;exact aH (Nat.le_refl _) (NL _ _ _))))
 refine wpQuiet_nil ?_;rintro w3 ⟨y2,fP⟩;have hL:=y2.h;rw[<- fP] at hL;clear fP y2 cV;replace hR:=hR.later hL;replace hB:=ai.then hB hL;generalize cG:fB _ _=r;have hr:XX a.n=r:=by rw[<- cG];unfold XX;rfl
 have HE:=aa hr;clear hr cG;have dv:=aG hR;have gV:=aB.frozen hR;clear hR;go_wp2_with fail;exact bodyPost_ret (v:=.tuple #[.agg (aD r.1),af r.2]) (by simp[results,Tryz.results108,go_sem,dv]) rfl ⟨by rw[HE.ae];rfl,((hB.setCell (bI) _).setCell (bI) _).setCell (bI) _⟩):p:=h
theorem zcm.Kaq(h:p:=by
 replace hv:=hv.keep (w':=W) λ o=>hB.cell (p:=⟨b,o,none⟩) hb
 open zgQ in exact Zev):p:=h
theorem aaU (x:Ex)(A:Option Addr)(c:Nat)(a:Val)(w:World)(h:RV w w.heap.size A [a]):ar 108 #[.agg (ay x),.slice A 1 c] w λ e w'=>e=.returned (bQ (XX a.n).1 (XX a.n).2)/\aj w w':=by obtain⟨b,off,rfl,hb,hv⟩:=h.one;go_enter Tryz.func108,Tryz.ntmps108;open zcm in exact ZaK
theorem zcn.Kaq(h:p:=by
 have bI:w.heap.size<=w.heap.size+1:=by omega
 generalize w.heap.size+1=g at*;refine(rX _ _).mono ?_;rintro e w' ⟨rfl,b3⟩;replace hR:=hR.later b3;replace hB:=ai.then hB b3;clear b3 hv' hv;generalize hr:bE _=r;have he:(r,(0:Int))=(bE (a.n==0),0):=by rw[<- hr]
 have HE:=aa he;clear he hr;unfold bQ;have dv:=aG hR;have gV:=aB.frozen hR;clear hR;go_wp2_with fail;exact bodyPost_ret (v:=.tuple #[.agg #[ag (r,(0:Int)).1.k,af (r,(0:Int)).1.n,.string (r,(0:Int)).1.s],af (r,(0:Int)).2]) (by simp[results,Tryz.results110,go_sem,dv]) rfl ⟨by have:=HE.ae;injection this with h1 h2;rw[<- h1];rfl,((hB.setCell (bI) _).setCell (bI) _).setCell (bI) _⟩):p:=h
theorem zhi.KbX(h:p:=by go_enter Tryz.func110,Tryz.ntmps110;open zcn in exact ZaK):p:=h
theorem aaV (x:Ex)(A:Option Addr)(c:Nat)(a:Val)(w:World)(h:RV w w.heap.size A [a]):ar 110 #[.agg (ay x),.slice A 1 c] w λ e w'=>e=.returned (bQ (bE (a.n==0)) 0)/\aj w w':=by obtain⟨b,off,rfl,hb,hv⟩:=h.one;open zhi in exact Zfe
theorem Rt (a:Int)(g:Nat)(w:World):ar 168 #[af a,af 0,aw g] w λ e w'=>e=.returned (bQ aN 44)/\aj w w':=by go_enter Tryz.func168,Tryz.ntmps168;go_wp2_with fail;exact bodyPost_ret (v:=.tuple #[.agg #[ag 0,af 0,.string ByteArray.empty],af 44]) (by simp[results,Tryz.results168,go_sem];try rfl) rfl ⟨rfl,by go_grown⟩
theorem XY (a b:Int)(hb:b≠0)(g k:Nat)(r:Val×Int)(w:World)(hg:aB w g 206 #[.func (.func k) #[] #[]])(he:∀args w,(callFunc k args).run Tryz.prog w=.ok (.enter k args) w)
  (hk:∀w,ar k #[af a,af b] w λ e w'=>e=.returned (bQ r.1 r.2)/\aj w w'):ar 168 #[af a,af b,aw g] w λ e w'=>e=.returned (bQ r.1 r.2)/\aj w w':=by
 have HK:=aa hk;clear hk;have e1:(b==0)=false:=by simpa using hb
 have cG:=(hg.alloc (.cells #[ag 0,af 0,au] 44)).cell 0;simp only[getElem?_toArray,getElem?_cons_zero] at cG;go_enter Tryz.func168,Tryz.ntmps168;go_wp2_with fail;refine(HK.ae _).mono ?_;rintro e w' ⟨rfl,hr⟩;unfold bQ;have hR:=(aB.new w 44 #[ag 0,af 0,au]).later hr;have hB:=ai.then (ah w (.cells #[ag 0,af 0,au] 44)) hr;clear hr cG;have dv:=aG hR;have gV:=aB.frozen hR;clear hR;go_wp2_with fail;exact bodyPost_ret (v:=.tuple #[.agg (aD r.1),af r.2]) (by simp[results,Tryz.results168,go_sem,dv]) rfl ⟨rfl,((hB.setCell (Nat.le_refl _) _).setCell (Nat.le_refl _) _).setCell (Nat.le_refl _) _⟩
theorem aaW (a b:Int)(w:World):ar 113 #[af a,af b] w λ e w'=>e=.returned (.tuple #[.agg #[ag (zv a b).1.k,af (zv a b).1.n,.string (zv a b).1.s],af (zv a b).2])/\aj w w':=aaQ a b w
theorem zdc.KaB(h:p:=by generalize hr:(zv a.n b'.n)=r at*;exact Za8):p:=h
theorem zcb.Kap(h:p:=by
 generalize w.heap.size+1=g at*;refine aM 12 W.heap.size W (Below.refl _ _) Va Va Va Va ?_;simp only[Uab];repeat (go_big_quiet_step (first
  |(go_at_call 113;exact aH (Nat.le_refl _) (aaW a.n b'.n _))))
 open zdc in exact Zbh):p:=h
theorem zaa.Ka(h:p:=by have lf:aB W q 206 #[.func (.func 113) #[] #[]]:=hq.later hB;open zcb in exact ZaJ):p:=h
theorem ags (x:Ex)(A:Option Addr)(c q:Nat)(a b':Val)(w:World)(h:RV w w.heap.size A [a,b'])(hq:aB w q 206 #[.func (.func 113) #[] #[]]):ar 167 #[.agg (ay x),.slice A 2 c,.pointer (some ⟨q,0,none⟩)] w λ e w'=>e=.returned (bQ (zv a.n b'.n).1 (zv a.n b'.n).2)/\aj w w':=by obtain⟨b,off,rfl,hb,hv,hu⟩:=h.two;go_enter Tryz.func167,Tryz.ntmps167;open zaa in exact Zaa
theorem aaX (a b:Int)(w:World):ar 114 #[af a,af b] w λ e w'=>e=.returned (.tuple #[.agg #[ag (zw a b).1.k,af (zw a b).1.n,.string (zw a b).1.s],af (zw a b).2])/\aj w w':=aaR a b w
theorem zdd.KaB(h:p:=by generalize hr:(zw a.n b'.n)=r at*;exact Za8):p:=h
theorem zcc.Kap(h:p:=by
 generalize w.heap.size+1=g at*;refine aM 12 W.heap.size W (Below.refl _ _) Va Va Va Va ?_;simp only[Uab];repeat (go_big_quiet_step (first
  |(go_at_call 114;exact aH (Nat.le_refl _) (aaX a.n b'.n _))))
 open zdd in exact Zbh):p:=h
theorem zab.Ka(h:p:=by have lf:aB W q 206 #[.func (.func 114) #[] #[]]:=hq.later hB;open zcc in exact ZaJ):p:=h
theorem agt (x:Ex)(A:Option Addr)(c q:Nat)(a b':Val)(w:World)(h:RV w w.heap.size A [a,b'])(hq:aB w q 206 #[.func (.func 114) #[] #[]]):ar 167 #[.agg (ay x),.slice A 2 c,.pointer (some ⟨q,0,none⟩)] w λ e w'=>e=.returned (bQ (zw a.n b'.n).1 (zw a.n b'.n).2)/\aj w w':=by obtain⟨b,off,rfl,hb,hv,hu⟩:=h.two;go_enter Tryz.func167,Tryz.ntmps167;open zab in exact Zaa
theorem TF (a b:Int)(w:World):ar 115 #[af a,af b] w λ e w'=>e=.returned (.tuple #[.agg #[ag (zx a b).1.k,af (zx a b).1.n,.string (zx a b).1.s],af (zx a b).2])/\aj w w':=TE a b w
theorem zde.KaB(h:p:=by generalize hr:(zx a.n b'.n)=r at*;exact Za8):p:=h
theorem zcd.Kap(h:p:=by
 generalize w.heap.size+1=g at*;refine aM 12 W.heap.size W (Below.refl _ _) Va Va Va Va ?_;simp only[Uab];repeat (go_big_quiet_step (first
  |(go_at_call 115;exact aH (Nat.le_refl _) (TF a.n b'.n _))))
 open zde in exact Zbh):p:=h
theorem zac.Ka(h:p:=by have lf:aB W q 206 #[.func (.func 115) #[] #[]]:=hq.later hB;open zcd in exact ZaJ):p:=h
theorem XZ (x:Ex)(A:Option Addr)(c q:Nat)(a b':Val)(w:World)(h:RV w w.heap.size A [a,b'])(hq:aB w q 206 #[.func (.func 115) #[] #[]]):ar 167 #[.agg (ay x),.slice A 2 c,.pointer (some ⟨q,0,none⟩)] w λ e w'=>e=.returned (bQ (zx a.n b'.n).1 (zx a.n b'.n).2)/\aj w w':=by obtain⟨b,off,rfl,hb,hv,hu⟩:=h.two;go_enter Tryz.func167,Tryz.ntmps167;open zac in exact Zaa
theorem TG (args:Array Value)(w:World):(callFunc 117 args).run Tryz.prog w=.ok (.enter 117 args) w:=by exact Zgn
def zy (a b:Int):Val×Int:=if b=0 then(aN,44)else TC a b
theorem aaY (a b:Int)(g:Nat)(w:World)(hg:aB w g 206 #[.func (.func 117) #[] #[]]):ar 168 #[.int .i64 a,.int .i64 b,.pointer (some ⟨g,0,none⟩)] w λ e w'=>e=.returned (.tuple #[.agg #[.int .u8 (zy a b).1.k,.int .i64 (zy a b).1.n,.string (zy a b).1.s],.int .i64 (zy a b).2])/\aj w w':=by
 by_cases hb:b=0
 ·have e:zy a b=(aN,44):=if_pos hb;rw[e];subst hb;exact Rt a g w
 ·have e:zy a b=TC a b:=if_neg hb;rw[e];exact XY a b hb g _ _ w hg TG (aaS a b hb)
theorem zdf.KaB(h:p:=by generalize hr:(zy a.n b'.n)=r at*;exact Za8):p:=h
theorem zce.Kap(h:p:=by
 generalize w.heap.size+1=g at*;refine aM 12 W.heap.size W (Below.refl _ _) Va Va Va Va ?_;simp only[Uab];repeat (go_big_quiet_step (first
  |(go_at_call 168;exact aH (Nat.le_refl _) (aaY a.n b'.n q2 _ (Y8.later (Ext.h _))))))
 open zdf in exact Zbh):p:=h
theorem zad.Ka(h:p:=by have Y8:=lf.later hB;have lf:aB W q 206 #[.func (.func 168) #[] #[aw q2]]:=hq.later hB;open zce in exact ZaJ):p:=h
theorem agu (x:Ex)(A:Option Addr)(c q:Nat)(a b':Val)(q2:Nat)(w:World)(h:RV w w.heap.size A [a,b'])(hq:aB w q 206 #[.func (.func 168) #[] #[.pointer (some ⟨q2,0,none⟩)]])(lf:aB w q2 206 #[.func (.func 117) #[] #[]]):ar 167 #[.agg (ay x),.slice A 2 c,.pointer (some ⟨q,0,none⟩)] w λ e w'=>e=.returned (bQ (zy a.n b'.n).1 (zy a.n b'.n).2)/\aj w w':=by obtain⟨b,off,rfl,hb,hv,hu⟩:=h.two;go_enter Tryz.func167,Tryz.ntmps167;open zad in exact Zaa
theorem TH (args:Array Value)(w:World):(callFunc 118 args).run Tryz.prog w=.ok (.enter 118 args) w:=by exact Zgn
def zz (a b:Int):Val×Int:=if b=0 then(aN,44)else TD a b
theorem aaZ (a b:Int)(g:Nat)(w:World)(hg:aB w g 206 #[.func (.func 118) #[] #[]]):ar 168 #[.int .i64 a,.int .i64 b,.pointer (some ⟨g,0,none⟩)] w λ e w'=>e=.returned (.tuple #[.agg #[.int .u8 (zz a b).1.k,.int .i64 (zz a b).1.n,.string (zz a b).1.s],.int .i64 (zz a b).2])/\aj w w':=by
 by_cases hb:b=0
 ·have e:zz a b=(aN,44):=if_pos hb;rw[e];subst hb;exact Rt a g w
 ·have e:zz a b=TD a b:=if_neg hb;rw[e];exact XY a b hb g _ _ w hg TH (aaT a b hb)
theorem zdg.KaB(h:p:=by generalize hr:(zz a.n b'.n)=r at*;exact Za8):p:=h
theorem zcf.Kap(h:p:=by
 generalize w.heap.size+1=g at*;refine aM 12 W.heap.size W (Below.refl _ _) Va Va Va Va ?_;simp only[Uab];repeat (go_big_quiet_step (first
  |(go_at_call 168;exact aH (Nat.le_refl _) (aaZ a.n b'.n q2 _ (Y8.later (Ext.h _))))))
 open zdg in exact Zbh):p:=h
theorem zae.Ka(h:p:=by have Y8:=lf.later hB;have lf:aB W q 206 #[.func (.func 168) #[] #[aw q2]]:=hq.later hB;open zcf in exact ZaJ):p:=h
theorem agv (x:Ex)(A:Option Addr)(c q:Nat)(a b':Val)(q2:Nat)(w:World)(h:RV w w.heap.size A [a,b'])(hq:aB w q 206 #[.func (.func 168) #[] #[.pointer (some ⟨q2,0,none⟩)]])(lf:aB w q2 206 #[.func (.func 118) #[] #[]]):ar 167 #[.agg (ay x),.slice A 2 c,.pointer (some ⟨q,0,none⟩)] w λ e w'=>e=.returned (bQ (zz a.n b'.n).1 (zz a.n b'.n).2)/\aj w w':=by obtain⟨b,off,rfl,hb,hv,hu⟩:=h.two;go_enter Tryz.func167,Tryz.ntmps167;open zae in exact Zaa
theorem zdh.KaB(h:p:=by
 generalize hr:bE (decide (cc=0))=r at*;have HE:eZ ((r,(0:Int))=(bE (decide (bM a b'=0)),0)):=by rw[HC.ae,hr];exact rfl
 exact Zax):p:=h
theorem zcg.Kap(h:p:=by
 generalize w.heap.size+1=g at*;have kC:=aa (ee a b');generalize hcc:bM a b'=cc at kC;have HC:=aa hcc;clear hcc;refine aM 12 W.heap.size W (Below.refl _ _) Va Va Va Va ?_;simp only[Uab];repeat (go_big_quiet_step (first
  |(go_at_call 18;exact aH (Nat.le_refl _) (kC.ae _))
  |(go_at_call 120;exact df (akG cc _))
  |(go_at_call 111;exact aH (Nat.le_refl _) (jz _ _))))
 open zdh in exact Zbh):p:=h
theorem zaf.Ka(h:p:=by have lf:aB W q 208 #[.func (.func 120) #[] #[]]:=hq.later hB;open zcg in exact ZaJ):p:=h
theorem akK (x:Ex)(A:Option Addr)(c q:Nat)(a b':Val)(w:World)(h:RV w w.heap.size A [a,b'])(hq:aB w q 208 #[.func (.func 120) #[] #[]]):ar 169 #[.agg (ay x),.slice A 2 c,.pointer (some ⟨q,0,none⟩)] w λ e w'=>e=.returned (bQ (bE (decide (bM a b'=0))) 0)/\aj w w':=by obtain⟨b,off,rfl,hb,hv,hu⟩:=h.two;go_enter Tryz.func169,Tryz.ntmps169;open zaf in exact Zaa
theorem zdi.KaB(h:p:=by
 generalize hr:bE (!decide (cc=0))=r at*;have HE:eZ ((r,(0:Int))=(bE (!decide (bM a b'=0)),0)):=by rw[HC.ae,hr];exact rfl
 exact Zax):p:=h
theorem zch.Kap(h:p:=by
 generalize w.heap.size+1=g at*;have kC:=aa (ee a b');generalize hcc:bM a b'=cc at kC;have HC:=aa hcc;clear hcc;refine aM 12 W.heap.size W (Below.refl _ _) Va Va Va Va ?_;simp only[Uab];repeat (go_big_quiet_step (first
  |(go_at_call 18;exact aH (Nat.le_refl _) (kC.ae _))
  |(go_at_call 121;exact df (akH cc _))
  |(go_at_call 111;exact aH (Nat.le_refl _) (jz _ _))))
 open zdi in exact Zbh):p:=h
theorem zag.Ka(h:p:=by have lf:aB W q 208 #[.func (.func 121) #[] #[]]:=hq.later hB;open zch in exact ZaJ):p:=h
theorem akL (x:Ex)(A:Option Addr)(c q:Nat)(a b':Val)(w:World)(h:RV w w.heap.size A [a,b'])(hq:aB w q 208 #[.func (.func 121) #[] #[]]):ar 169 #[.agg (ay x),.slice A 2 c,.pointer (some ⟨q,0,none⟩)] w λ e w'=>e=.returned (bQ (bE (!decide (bM a b'=0))) 0)/\aj w w':=by obtain⟨b,off,rfl,hb,hv,hu⟩:=h.two;go_enter Tryz.func169,Tryz.ntmps169;open zag in exact Zaa
theorem zdj.KaB(h:p:=by
 generalize hr:bE (decide (cc < 0))=r at*;have HE:eZ ((r,(0:Int))=(bE (decide (bM a b' < 0)),0)):=by rw[HC.ae,hr];exact rfl
 exact Zax):p:=h
theorem zci.Kap(h:p:=by
 generalize w.heap.size+1=g at*;have kC:=aa (ee a b');generalize hcc:bM a b'=cc at kC;have HC:=aa hcc;clear hcc;refine aM 12 W.heap.size W (Below.refl _ _) Va Va Va Va ?_;simp only[Uab];repeat (go_big_quiet_step (first
  |(go_at_call 18;exact aH (Nat.le_refl _) (kC.ae _))
  |(go_at_call 122;exact df (is_lt cc _))
  |(go_at_call 111;exact aH (Nat.le_refl _) (jz _ _))))
 open zdj in exact Zbh):p:=h
theorem zah.Ka(h:p:=by have lf:aB W q 208 #[.func (.func 122) #[] #[]]:=hq.later hB;open zci in exact ZaJ):p:=h
theorem akM (x:Ex)(A:Option Addr)(c q:Nat)(a b':Val)(w:World)(h:RV w w.heap.size A [a,b'])(hq:aB w q 208 #[.func (.func 122) #[] #[]]):ar 169 #[.agg (ay x),.slice A 2 c,.pointer (some ⟨q,0,none⟩)] w λ e w'=>e=.returned (bQ (bE (decide (bM a b' < 0))) 0)/\aj w w':=by obtain⟨b,off,rfl,hb,hv,hu⟩:=h.two;go_enter Tryz.func169,Tryz.ntmps169;open zah in exact Zaa
theorem zdk.KaB(h:p:=by
 generalize hr:bE (decide (cc<=0))=r at*;have HE:eZ ((r,(0:Int))=(bE (decide (bM a b'<=0)),0)):=by rw[HC.ae,hr];exact rfl
 exact Zax):p:=h
theorem zcj.Kap(h:p:=by
 generalize w.heap.size+1=g at*;have kC:=aa (ee a b');generalize hcc:bM a b'=cc at kC;have HC:=aa hcc;clear hcc;refine aM 12 W.heap.size W (Below.refl _ _) Va Va Va Va ?_;simp only[Uab];repeat (go_big_quiet_step (first
  |(go_at_call 18;exact aH (Nat.le_refl _) (kC.ae _))
  |(go_at_call 123;exact df (is_le cc _))
  |(go_at_call 111;exact aH (Nat.le_refl _) (jz _ _))))
 open zdk in exact Zbh):p:=h
theorem zai.Ka(h:p:=by have lf:aB W q 208 #[.func (.func 123) #[] #[]]:=hq.later hB;open zcj in exact ZaJ):p:=h
theorem akN (x:Ex)(A:Option Addr)(c q:Nat)(a b':Val)(w:World)(h:RV w w.heap.size A [a,b'])(hq:aB w q 208 #[.func (.func 123) #[] #[]]):ar 169 #[.agg (ay x),.slice A 2 c,.pointer (some ⟨q,0,none⟩)] w λ e w'=>e=.returned (bQ (bE (decide (bM a b'<=0))) 0)/\aj w w':=by obtain⟨b,off,rfl,hb,hv,hu⟩:=h.two;go_enter Tryz.func169,Tryz.ntmps169;open zai in exact Zaa
theorem zdl.KaB(h:p:=by
 generalize hr:bE (decide (0 < cc))=r at*;have HE:eZ ((r,(0:Int))=(bE (decide (0 < bM a b')),0)):=by rw[HC.ae,hr];exact rfl
 exact Zax):p:=h
theorem zck.Kap(h:p:=by
 generalize w.heap.size+1=g at*;have kC:=aa (ee a b');generalize hcc:bM a b'=cc at kC;have HC:=aa hcc;clear hcc;refine aM 12 W.heap.size W (Below.refl _ _) Va Va Va Va ?_;simp only[Uab];repeat (go_big_quiet_step (first
  |(go_at_call 18;exact aH (Nat.le_refl _) (kC.ae _))
  |(go_at_call 124;exact df (akI cc _))
  |(go_at_call 111;exact aH (Nat.le_refl _) (jz _ _))))
 open zdl in exact Zbh):p:=h
theorem zaj.Ka(h:p:=by have lf:aB W q 208 #[.func (.func 124) #[] #[]]:=hq.later hB;open zck in exact ZaJ):p:=h
theorem akO (x:Ex)(A:Option Addr)(c q:Nat)(a b':Val)(w:World)(h:RV w w.heap.size A [a,b'])(hq:aB w q 208 #[.func (.func 124) #[] #[]]):ar 169 #[.agg (ay x),.slice A 2 c,.pointer (some ⟨q,0,none⟩)] w λ e w'=>e=.returned (bQ (bE (decide (0 < bM a b'))) 0)/\aj w w':=by obtain⟨b,off,rfl,hb,hv,hu⟩:=h.two;go_enter Tryz.func169,Tryz.ntmps169;open zaj in exact Zaa
theorem zdm.KaB(h:p:=by
 generalize hr:bE (decide (0<=cc))=r at*;have HE:eZ ((r,(0:Int))=(bE (decide (0<=bM a b')),0)):=by rw[HC.ae,hr];exact rfl
 exact Zax):p:=h
theorem zcl.Kap(h:p:=by
 generalize w.heap.size+1=g at*;have kC:=aa (ee a b');generalize hcc:bM a b'=cc at kC;have HC:=aa hcc;clear hcc;refine aM 12 W.heap.size W (Below.refl _ _) Va Va Va Va ?_;simp only[Uab];repeat (go_big_quiet_step (first
  |(go_at_call 18;exact aH (Nat.le_refl _) (kC.ae _))
  |(go_at_call 125;exact df (akJ cc _))
  |(go_at_call 111;exact aH (Nat.le_refl _) (jz _ _))))
 open zdm in exact Zbh):p:=h
theorem zak.Ka(h:p:=by have lf:aB W q 208 #[.func (.func 125) #[] #[]]:=hq.later hB;open zcl in exact ZaJ):p:=h
theorem akP (x:Ex)(A:Option Addr)(c q:Nat)(a b':Val)(w:World)(h:RV w w.heap.size A [a,b'])(hq:aB w q 208 #[.func (.func 125) #[] #[]]):ar 169 #[.agg (ay x),.slice A 2 c,.pointer (some ⟨q,0,none⟩)] w λ e w'=>e=.returned (bQ (bE (decide (0<=bM a b'))) 0)/\aj w w':=by obtain⟨b,off,rfl,hb,hv,hu⟩:=h.two;go_enter Tryz.func169,Tryz.ntmps169;open zak in exact Zaa
theorem zca.Kap(h:p:=by
 generalize w.heap.size+1=g at*;refine aM 10 W.heap.size W (Below.refl _ _) Va Va Va Va ?_;simp only[Uab];repeat (go_big_quiet_step (first
  |(go_at_call 111;exact aH (Nat.le_refl _) (jz _ _))))
 refine wpQuiet_nil ?_;rintro w3 ⟨y2,fP⟩;have hL:=y2.h;rw[<- fP] at hL;clear fP y2 cV cQ;replace hR:=hR.later hL;replace hB:=ai.then hB hL;generalize hr:bE _=r at*;have HE:eZ ((r,(0:Int))=(bE ((a.k==0)==is),0)):=by rw[<- hr];exact rfl
 clear hr;have dv:=aG hR;have gV:=aB.frozen hR;clear hR;go_wp2_with fail;exact bodyPost_ret (v:=.tuple #[.agg #[ag (r,(0:Int)).1.k,af (r,(0:Int)).1.n,.string (r,(0:Int)).1.s],af (r,(0:Int)).2]) (by simp[results,Tryz.results172,go_sem,dv]) rfl ⟨by have:=HE.ae;injection this with h1 h2;rw[<- h1];rfl,((hB.setCell (bI) _).setCell (bI) _).setCell (bI) _⟩):p:=h
theorem zgS.KbM(h:p:=by unfold ei at cV;have lf:aB W q 4 #[.bool is]:=hq.later hB;open zca in exact ZaJ):p:=h
theorem ze1.Ka6(h:p:=by
 replace hv:=hv.keep (w':=W) λ o=>hB.cell (p:=⟨b,o,none⟩) hb
 open zgS in exact Zev):p:=h
theorem Kh (x:Ex)(A:Option Addr)(c q:Nat)(is:Bool)(a:Val)(w:World)(h:RV w w.heap.size A [a])(hq:aB w q 4 #[.bool is]):ar 172 #[.agg (ay x),.slice A 1 c,aw q] w λ e w'=>e=.returned (bQ (bE ((a.k==0)==is)) 0)/\aj w w':=by obtain⟨b,off,rfl,hb,hv⟩:=h.one;go_enter Tryz.func172,Tryz.ntmps172;open ze1 in exact ZcO
def vk (n wd:Int):Int:=n % wd
def vn (n wd:Int):Val×Int:=fB (wrap64 (n - vk n wd)) (decide (-9223372036854775808+vk n wd<=n))
theorem aba (n wd:Int)(h1:1<=wd):Int.tmod (Int.tmod n wd+wd) wd=vk n wd/\ -wd < Int.tmod n wd/\Int.tmod n wd < wd/\0<=vk n wd/\vk n wd < wd:=by have b1:=Int.tmod_lt_of_pos n (show 0 < wd by omega);have b2:=Int.lt_tmod_of_pos n (show 0 < wd by omega);have b3:=Int.emod_nonneg n (show wd≠0 by omega);have b4:=Int.emod_lt_of_pos n (show 0 < wd by omega);refine⟨?_,b2,b1,b3,b4⟩;rw[Int.tmod_eq_emod_of_nonneg (show 0<=Int.tmod n wd+wd by omega)];unfold vk;rw[Int.add_emod_right];have e:=Int.tmod_add_mul_tdiv n wd;have h2:(Int.tmod n wd+wd*Int.tdiv n wd)% wd=Int.tmod n wd % wd:=Int.add_mul_emod_self_left _ _ _;rw[e] at h2;exact h2.symm
theorem zdW.KaL(h:p:=by
 clear fP y2 cV;replace hR:=hR.later hL;replace hB:=ai.then hB hL;go_wp2_with fail;refine(iu _ _ _).mono ?_;rintro e w' ⟨rfl,b3⟩;replace hR:=hR.later b3;replace hB:=ai.then hB b3;clear b3 hv';generalize hr:fB _ _=r;have he:vn a.n x.width=r:=by rw[<- hr,HBT.ae]
 have HE:=aa he;clear he hr HBT;unfold bQ;have dv:=aG hR;have gV:=aB.frozen hR;clear hR;go_wp2_with fail;exact bodyPost_ret (v:=.tuple #[.agg (aD r.1),af r.2]) (by simp[results,Tryz.results128,go_sem,dv]) rfl ⟨by rw[HE.ae];rfl,((hB.setCell (bI) _).setCell (bI) _).setCell (bI) _⟩):p:=h
theorem zco.Kaq(h:p:=by
 have bI:w.heap.size<=w.heap.size+1:=by omega
 generalize w.heap.size+1=g at*;have cV:=λ y:Ext W.heap.size W=>(hX.later y.h).cell 5
 simp only[Uaa] at cV;refine aM 11 W.heap.size W (Below.refl _ _) Va Va Va Va ?_;open zdW in exact ZbY):p:=h
theorem zhj.KbX(h:p:=by go_enter Tryz.func128,Tryz.ntmps128;open zco in exact ZaK):p:=h
theorem TI (x:Ex)(A:Option Addr)(c:Nat)(a:Val)(w:World)(h:RV w w.heap.size A [a])(hw1:1<=x.width)(hw2:x.width<=1099511627776)(hn:a.Ok):ar 128 #[.agg (ay x),.slice A 1 c] w λ e w'=>e=.returned (bQ (vn a.n x.width).1 (vn a.n x.width).2)/\aj w w':=by
 obtain⟨b,off,rfl,hb,hv⟩:=h.one;obtain⟨n1,n2⟩:=hn;obtain⟨r1,r2,r3,r4,r5⟩:=aba a.n x.width hw1;have HBT:eZ (vn a.n x.width=fB (wrap64 (a.n - vk a.n x.width)) (decide (-9223372036854775808+vk a.n x.width<=a.n))):=rfl;have hz:(x.width==0)=false:=by rw[beq_eq_false_iff_ne];omega
 generalize vk a.n x.width=rs at*;open zhj in exact Zfe
def pN (v x:Val):Bool:=v.k==x.k && v.n==x.n && v.s.toList==x.s.toList
def Hj (v:Val)(l:List Val):Bool:=l.any (pN v)
def abc (l:List Val)(v:Val)(w:World)(e:Ending)(w':World):Prop:=∃i:Int,e=.returned (af i)/\decide (0<=i)=Hj v l/\aj w w'
theorem zdT.KaL(h:p:=by
 clear fP y2 cV cU cQ;have bW:=ai.then hB (ai.then hb hL)
 have akQ:pN v x=false->∀r∈l.take (k+1),pN v r=false:=by
  intro heq r hr;rw[HT.ae] at hr;rcases List.mem_append.1 hr with hr | hr
  ·exact HK.ae r hr
  ·simp at hr;subst hr;exact heq
 have HN2:=aa akQ;clear akQ HT;obtain⟨xk,xn,xs⟩:=x;dsimp only;by_cases h1:v.k=xk
 ·subst h1;by_cases h2:v.n=xn
  ·subst h2;by_cases h3:v.s.toList=xs.toList
   ·have NM:pN v ⟨v.k,v.n,xs⟩=true:=by simp[pN,h3]
    have HV1:=aa NM;clear NM;go_wp2_with fail;go_ret;exact⟨_,rfl,by rw[show Hj v l=true from List.any_eq_true.2 ⟨_,HM.ae,HV1.ae⟩];simp,bW⟩
   ·have NM:pN v ⟨v.k,v.n,xs⟩=false:=by simp[pN,h3]
    exact ZcC
  ·have NM:pN v ⟨v.k,xn,xs⟩=false:=by simp[pN,h2]
   exact ZcC
 ·have NM:pN v ⟨xk,xn,xs⟩=false:=by simp[pN,h1]
  exact ZcC):p:=h
theorem TJ (A:Option Addr)(c:Nat)(l:List Val)(v:Val)(w:World)(h:RV w w.heap.size A l)(hl:l.length<=1000000):ar 196 #[.slice A l.length c,.agg (aD v)] w (abc l v w):=by
 have HH:=aa h;clear h;go_enter Tryz.func196,Tryz.ntmps196;go_wp2_with fail;have hV:=aB.new w 44 (aD v);have hB:=ah w (.cells (aD v) 44);generalize w.alloc (.cells (aD v) 44)=W at*;go_loopw [8] (λ i wr=>∃k:Nat,k<=l.length/\i=af k/\(∀x∈l.take k,pN v x=false)/\aj W wr) (λ i _=>l.length - (intOf i).toNat);case atStart=>exact⟨0,Nat.zero_le _,rfl,by simp,Below.refl _ _⟩
 case round=>
  obtain⟨k,hk,rfl,hp,hb⟩:=hrel;have HK:=aa hp;clear hp;by_cases hlt:k < l.length
  ·obtain⟨b,off,rfl,Kx,cQ⟩:=((HH.ae.below hB).more hB.size |>.below hb).at_ hlt;have HT:=aa (show l.take (k+1)=l.take k++ [l[k]] by rw[take_add_one,getElem?_eq_getElem hlt];rfl);have HM:=aa (getElem_mem hlt);generalize l[k]=x at*;go_wp2_with fail;have cV:=λ r:Ext wr.heap.size wr=>cQ.keep (w':=r.w) λ o=>r.cell (p:=⟨b,o,none⟩) (Nat.lt_of_lt_of_le Kx hb.size)
   have cU:=λ r:Ext wr.heap.size wr=>aG (hV.later (ai.then hb r.h))
   unfold ei at cV;refine aM 5 wr.heap.size wr (Below.refl _ _) Va Va Va Va ?_;open zdT in exact ZbY
  ·have hall:Hj v l=false:=by have:=HK.ae;rw[take_of_length_le WC] at this;unfold Hj;rw[any_eq_false];intro x hx;rw[this x hx];simp
   have Ag:=aa hall;clear hall;go_wp2_with fail;go_ret;exact⟨_,rfl,by rw[Ag.ae];rfl,ai.then hB hb⟩
theorem vo (A:Option Addr)(c:Nat)(l:List Val)(v:Val)(w:World)(h:RV w w.heap.size A l)(hl:l.length<=1000000):ar 171 #[.slice A l.length c,.agg (aD v)] w λ e w'=>e=.returned (.bool (Hj v l))/\aj w w':=by have HH:=aa h;clear h;go_enter Tryz.func171,Tryz.ntmps171;have hB:=ah w (.cells (aD v) 44);go_wp2_with fail;refine(TJ A c l v _ ((HH.ae.below hB).more hB.size) hl).mono ?_;rintro e w' ⟨i,rfl,hi,b1⟩;go_wp2_with fail;go_ret;exact⟨rfl,ai.then hB b1⟩
def lM (short:Bool)(l:List Val):Val:=if Hj (bE short) l then bE short else if Hj aN l then aN else bE (!short)
theorem Kj (x:Ex)(A:Option Addr)(c q:Nat)(short:Bool)(l:List Val)(w:World)(h:RV w w.heap.size A l)(hl:l.length<=1000000)(cJ:aB w q 4 #[.bool short]):ar 170 #[.agg (ay x),.slice A l.length c,aw q] w λ e w'=>e=.returned (bQ (lM short l) 0)/\aj w w':=by
 have HH:=aa h;clear h;have hB:=ai.then (ah w (.cells (ay x) 46)) (ah _ (.cells #[ag 0,af 0,au] 44));have hR:=aB.new (w.alloc (.cells (ay x) 46)) 44 #[ag 0,af 0,au];rw[World.size_alloc] at hR;replace cJ:=cJ.later hB;have cb:=cJ.cell 0;simp only[getElem?_toArray,getElem?_cons_zero] at cb;go_enter Tryz.func170,Tryz.ntmps170;go_wp2_with fail;clear cb;generalize (w.alloc (.cells (ay x) 46)).alloc (.cells #[ag 0,af 0,au] 44)=W at*;have bI:w.heap.size<=w.heap.size+1:=by omega
 generalize w.heap.size+1=g at*;refine(rX short _).mono ?_;rintro e w1 ⟨rfl,b1⟩;unfold bQ;replace hR:=hR.later (ai.then b1 (ah w1 (.cells #[ag (bE short).k,af (bE short).n,.string (bE short).s] 44)));replace cJ:=cJ.later (ai.then b1 (ah w1 (.cells #[ag (bE short).k,af (bE short).n,.string (bE short).s] 44)));replace hB:=ai.then hB (ai.then b1 (ah w1 (.cells #[ag (bE short).k,af (bE short).n,.string (bE short).s] 44)));have hV:=aB.new w1 44 #[ag (bE short).k,af (bE short).n,.string (bE short).s];clear b1;have cV:=aG hV;go_wp2_with fail;clear cV;generalize w1.alloc (.cells #[ag (bE short).k,af (bE short).n,.string (bE short).s] 44)=W1 at*;generalize w1.heap.size=g1 at*;refine(vo A c l (bE short) _ ((HH.ae.below hB).more hB.size) hl).mono ?_;rintro e w2 ⟨rfl,b3⟩;replace hR:=hR.later b3;replace cJ:=cJ.later b3;replace hB:=ai.then hB b3;replace hV:=hV.later b3;clear b3;cases h1:Hj (bE short) l
 ·go_wp2_with fail;refine(vo A c l aN _ ((HH.ae.below hB).more hB.size) hl).mono ?_;rintro e w3 ⟨rfl,b2⟩;replace hR:=hR.later b2;replace cJ:=cJ.later b2;replace hB:=ai.then hB b2;clear b2 hV;have dv:=aG hR;have gV:=aB.frozen hR;cases h2:Hj aN l
  ·have cb:=cJ.cell 0;simp only[getElem?_toArray,getElem?_cons_zero] at cb;have HL:=aa (show lM short l=bE (!short) by simp[lM,h1,h2]);go_wp2_with fail;refine(rX _ _).mono ?_;rintro e w4 ⟨rfl,b4⟩;unfold bQ;replace hR:=hR.later b4;replace hB:=ai.then hB b4;clear b4 dv gV cb;have dv:=aG hR;have gV:=aB.frozen hR;clear hR;generalize hr:bE (!short)=r at*;exact Zdx
  ·have HL:=aa (show lM short l=aN by simp[lM,h1,h2]);clear hR;go_wp2_with fail;exact bodyPost_ret (v:=.tuple #[.agg #[ag 0,af 0,.string ByteArray.empty],af 0]) (by simp[results,Tryz.results170,go_sem,dv];try rfl) rfl ⟨by rw[HL.ae];rfl,((hB.setCell bI _).setCell bI _).setCell bI _⟩
 ·have HL:=aa (show lM short l=bE short by simp[lM,h1]);have dv:=aG hR;have gV:=aB.frozen hR;have cV:=aG hV;clear hR hV;generalize hr:bE short=r at*;exact Zdx
def eT (args wants gives:Int)(alike akR:Bool)(d:Value):Value:=.agg #[af args,ag wants,ag gives,.bool alike,.bool akR,d]
def gC (w:World):Nat->Value->Prop
 | 3,v=>v=eT 1 2 2 false false (.func (.func 108) #[] #[])
 | 4,v=>v=eT 1 1 1 false false (.func (.func 110) #[] #[])
 | 5,v=>∃q,v=eT 2 2 2 false false (.func (.func 167) #[] #[aw q])/\aB w q 206 #[(.func (.func 113) #[] #[])]
 | 6,v=>∃q,v=eT 2 2 2 false false (.func (.func 167) #[] #[aw q])/\aB w q 206 #[(.func (.func 114) #[] #[])]
 | 7,v=>∃q,v=eT 2 2 2 false false (.func (.func 167) #[] #[aw q])/\aB w q 206 #[(.func (.func 115) #[] #[])]
 | 8,v=>∃q q2,v=eT 2 2 2 false false (.func (.func 167) #[] #[aw q])/\aB w q 206 #[(.func (.func 168) #[] #[aw q2])]/\aB w q2 206 #[(.func (.func 117) #[] #[])]
 | 9,v=>∃q q2,v=eT 2 2 2 false false (.func (.func 167) #[] #[aw q])/\aB w q 206 #[(.func (.func 168) #[] #[aw q2])]/\aB w q2 206 #[(.func (.func 118) #[] #[])]
 | 10,v=>∃q,v=eT 2 0 1 true false (.func (.func 169) #[] #[aw q])/\aB w q 208 #[(.func (.func 120) #[] #[])]
 | 11,v=>∃q,v=eT 2 0 1 true false (.func (.func 169) #[] #[aw q])/\aB w q 208 #[(.func (.func 121) #[] #[])]
 | 12,v=>∃q,v=eT 2 0 1 true false (.func (.func 169) #[] #[aw q])/\aB w q 208 #[(.func (.func 122) #[] #[])]
 | 13,v=>∃q,v=eT 2 0 1 true false (.func (.func 169) #[] #[aw q])/\aB w q 208 #[(.func (.func 123) #[] #[])]
 | 14,v=>∃q,v=eT 2 0 1 true false (.func (.func 169) #[] #[aw q])/\aB w q 208 #[(.func (.func 124) #[] #[])]
 | 15,v=>∃q,v=eT 2 0 1 true false (.func (.func 169) #[] #[aw q])/\aB w q 208 #[(.func (.func 125) #[] #[])]
 | 16,v=>∃q,v=eT 2 1 1 false true (.func (.func 170) #[] #[aw q])/\aB w q 4 #[.bool false]
 | 17,v=>∃q,v=eT 2 1 1 false true (.func (.func 170) #[] #[aw q])/\aB w q 4 #[.bool true]
 | 18,v=>∃q,v=eT 1 0 1 false true (.func (.func 172) #[] #[aw q])/\aB w q 4 #[.bool true]
 | 19,v=>∃q,v=eT 1 0 1 false true (.func (.func 172) #[] #[aw q])/\aB w q 4 #[.bool false]
 | 20,v=>v=eT 1 2 2 false false (.func (.func 128) #[] #[])
 | _,_=>False
theorem gC.keep{w:World}(hk:∀(q:Nat) (t:TypeId) (cs:Array Value),aB w q t cs->aB w' q t cs):∀(k:Nat) (v:Value),gC w k v->gC w' k v:=by
 intro k v h;unfold gC at*;split at h
 ·exact h
 ·exact h
 ·exact ZbA
 ·exact ZbA
 ·exact ZbA
 ·exact ZgS
 ·exact ZgS
 ·exact ZbA
 ·exact ZbA
 ·exact ZbA
 ·exact ZbA
 ·exact ZbA
 ·exact ZbA
 ·exact ZbA
 ·exact ZbA
 ·exact ZbA
 ·exact ZbA
 ·exact h
 ·exact h
def NN (w:World)(g:Nat)(es:Array MapEntry)(c:Nat):Prop:=w.heap[g]?=some (.map es c)/\∀e∈es.toList,∃k:Nat,e.key=ag k/\gC w k e.val
variable{es:Array MapEntry}
theorem NN.lt{w:World}   {c:Nat}(h:NN w g es c):g < w.heap.size:=by
 rcases Nat.lt_or_ge g w.heap.size with hlt | ve
 ·exact hlt
 ·have:=h.1;rw[Array.getElem?_eq_none ve] at this;cases this
theorem NN.later{w:World}   {c:Nat}(h:NN w g es c)(hb:aj w w'):NN w' g es c:=
 ⟨(hb.block g h.lt).trans h.1,λ e he=>by obtain⟨k,h1,h2⟩:=h.2 e he;exact⟨k,h1,h2.keep (λ q t cs hq=>hq.later hb) _ _⟩⟩
def ix (w:World)(g:Nat)(es:Array MapEntry)(c:Nat):World:= { w with heap:=w.heap.setIfInBounds g (.map es c)}
theorem Hk{w:World}(h:Below B w0 w)(g:Nat)(hg:B<=g)(es:Array MapEntry)(c:Nat):Below B w0 (ix w g es c):=by
 refine⟨h.os,h.tape,h.output,?_,λ k hk=>?_⟩
 ·have:=h.size;simp[ix];exact this
 ·rw[<- h.block k hk];simp only[ix,Array.getElem?_setIfInBounds];rw[if_neg WC]
theorem NN.push{w:World}   {c:Nat}(h:NN w g es c)(k:Nat)(v:Value)(hv:gC w k v):NN (ix w g (es.push ⟨ag k,v,c⟩) (c+1)) g (es.push ⟨ag k,v,c⟩) (c+1):=by
 have hlt:=h.lt
 have keep:∀(q:Nat) (t:TypeId) (cs:Array Value),aB w q t cs->aB (ix w g (es.push ⟨ag k,v,c⟩) (c+1)) q t cs:=by
  intro q t cs hq;have hne:g≠q:=by intro e;subst e;have h1:=h.1;unfold aB at hq;rw[hq] at h1;cases h1
  unfold aB at*;simp only[ix,Array.getElem?_setIfInBounds];rw[if_neg hne];exact hq
 refine⟨by simp[ix,hlt],λ e he=>?_⟩;rw[Array.toList_push] at he;rcases List.mem_append.1 he with he | he
 ·obtain⟨k',h1,h2⟩:=h.2 e he;exact⟨k',h1,h2.keep keep _ _⟩
 ·simp at he;subst he;exact⟨k,rfl,hv.keep keep _ _⟩
theorem xe (e:Bool)(k:Int)(w:World):(Instr.checkKey e 10000 5 (ag k)).run Tryz.prog w=.ok () w:=
 MapKept.run_checkKey Tryz.underlying5 (by simp[MapKept.IsKey]) e 9999
theorem agz (w:World)(g:Nat)(es:Array MapEntry)(c:Nat)(hg:w.heap[g]?=some (.map es c))(k:Int)(v:Value)(hf:Instr.findNow (.int .u8) (ag k) es.toList 0=some none):
  (Instr.mapUpdate 154 (.map (some g)) (ag k) v).run Tryz.prog w=.ok () (ix w g (es.push ⟨ag k,v,c⟩) (c+1)):=by unfold Instr.mapUpdate;simp only[Sem.run_bind,run_underlying Tryz.underlying154,Result.andThen_ok,MapKept.run_getObj_map hg,xe,Instr.findKey,run_underlying Tryz.underlying5,hf,Sem.run_pure,MapKept.run_setObj_map _ hg];rfl
def Hl (fv:Value)(w:World)(e:Ending)(w':World):Prop:=∃q,e=.returned (.agg #[af 2,ag 2,ag 2,.bool false,.bool false,(.func (.func 167) #[] #[aw q])])/\aB w' q 206 #[fv]/\aj w w'
theorem zdZ.KaN(h:p:=by
 go_enter Tryz.func112,Tryz.ntmps112;go_wp2;refine bodyPost_ret (v:=.agg #[af 2,ag 2,ag 2,.bool false,.bool false,(.func (.func 167) #[] #[aw w.heap.size])]) ?_ rfl ?_
 ·simp[results,Tryz.results112,go_sem];try rfl
 ·exact⟨w.heap.size,rfl,(aB.new w 206 #[.func F0 #[] C0]).alloc _,by go_grown⟩):p:=h
theorem mE (F0:Fn)(C0:Array Value)(w:World):ar 112 #[.func F0 #[] C0] w (Hl (.func F0 #[] C0) w):=by
 open zdZ in exact Zcb
def NP (fv:Value)(w:World)(e:Ending)(w':World):Prop:=∃q,e=.returned (.agg #[af 2,ag 0,ag 1,.bool true,.bool false,(.func (.func 169) #[] #[aw q])])/\aB w' q 208 #[fv]/\aj w w'
theorem zd0.KaN(h:p:=by
 go_enter Tryz.func119,Tryz.ntmps119;go_wp2;refine bodyPost_ret (v:=.agg #[af 2,ag 0,ag 1,.bool true,.bool false,(.func (.func 169) #[] #[aw w.heap.size])]) ?_ rfl ?_
 ·simp[results,Tryz.results119,go_sem];try rfl
 ·exact⟨w.heap.size,rfl,(aB.new w 208 #[.func F0 #[] C0]).alloc _,by go_grown⟩):p:=h
theorem lC (F0:Fn)(C0:Array Value)(w:World):ar 119 #[.func F0 #[] C0] w (NP (.func F0 #[] C0) w):=by
 open zd0 in exact Zcb
def NQ (fv:Bool)(w:World)(e:Ending)(w':World):Prop:=∃q,e=.returned (.agg #[af 2,ag 1,ag 1,.bool false,.bool true,(.func (.func 170) #[] #[aw q])])/\aB w' q 4 #[.bool fv]/\aj w w'
theorem zd1.KaN(h:p:=by
 go_enter Tryz.func126,Tryz.ntmps126;go_wp2;refine bodyPost_ret (v:=.agg #[af 2,ag 1,ag 1,.bool false,.bool true,(.func (.func 170) #[] #[aw w.heap.size])]) ?_ rfl ?_
 ·simp[results,Tryz.results126,go_sem];try rfl
 ·exact ZgR):p:=h
theorem ET (fv:Bool)(w:World):ar 126 #[.bool fv] w (NQ fv w):=by
 open zd1 in exact Zcb
def NR (fv:Bool)(w:World)(e:Ending)(w':World):Prop:=∃q,e=.returned (.agg #[af 1,ag 0,ag 1,.bool false,.bool true,(.func (.func 172) #[] #[aw q])])/\aB w' q 4 #[.bool fv]/\aj w w'
theorem zd2.KaN(h:p:=by
 go_enter Tryz.func127,Tryz.ntmps127;go_wp2;refine bodyPost_ret (v:=.agg #[af 1,ag 0,ag 1,.bool false,.bool true,(.func (.func 172) #[] #[aw w.heap.size])]) ?_ rfl ?_
 ·simp[results,Tryz.results127,go_sem];try rfl
 ·exact ZgR):p:=h
theorem EU (fv:Bool)(w:World):ar 127 #[.bool fv] w (NR fv w):=by
 open zd2 in exact Zcb
def abd (F0:Fn)(C0:Array Value)(w:World)(e:Ending)(w':World):Prop:=∃q q2,e=.returned (.agg #[af 2,ag 2,ag 2,.bool false,.bool false,(.func (.func 167) #[] #[aw q])])/\aB w' q 206 #[.func (.func 168) #[] #[aw q2]]/\aB w' q2 206 #[.func F0 #[] C0]/\aj w w'
theorem zd3.KaN(h:p:=by
 go_enter Tryz.func116,Tryz.ntmps116;go_wp2_with fail;have h2:=(aB.new w 206 #[.func F0 #[] C0]).alloc (.cells #[af 0,ag 0,ag 0,.bool false,.bool false,.nilFunc] 100);have hR:=aB.new (w.alloc (.cells #[.func F0 #[] C0] 206)) 100 #[af 0,ag 0,ag 0,.bool false,.bool false,.nilFunc];rw[World.size_alloc] at hR;have hB:=ai.then (ah w (.cells #[.func F0 #[] C0] 206)) (ah _ (.cells #[af 0,ag 0,ag 0,.bool false,.bool false,.nilFunc] 100));generalize (w.alloc (.cells #[.func F0 #[] C0] 206)).alloc (.cells #[af 0,ag 0,ag 0,.bool false,.bool false,.nilFunc] 100)=W at*;have bI:w.heap.size<=w.heap.size+1:=by omega
 have hne:w.heap.size≠w.heap.size+1:=by omega
 generalize w.heap.size+1=g at*;refine(mE _ _ _).mono ?_;rintro e w1 ⟨q,rfl,hq,b1⟩;replace h2:=h2.later b1;replace hR:=hR.later b1;replace hB:=ai.then hB b1;clear b1;have TK:q≠g:=λ e=>by subst e;unfold aB at hq hR;rw[hq] at hR;injection hR with hR;injection hR with _ hR _;revert hR;decide
 have cR:∀i,i < 6->∃u,w1.cell? ⟨g,i,none⟩=some u:=λ i hi=>⟨_,(hR.cell i).trans (Array.getElem?_eq_getElem TaD)⟩
 have x0:=hR.cell 0;have x1:=hR.cell 1;have z2:=hR.cell 2;have z3:=hR.cell 3;have z4:=hR.cell 4;have z5:=hR.cell 5;simp only[Uaa] at x0 x1 z2 z3 z4 z5;have fR:=hR.frozen;clear cR hR;go_wp2_with fail;refine bodyPost_ret (v:=.agg #[af 2,ag 2,ag 2,.bool false,.bool false,(.func (.func 167) #[] #[aw q])]) ?_ rfl ?_
 ·simp[results,Tryz.results116,go_sem,x0,x1,z2,z3,z4,z5]
 ·exact⟨q,w.heap.size,rfl,(((((hq.far (p:=⟨g,0,none⟩) TK _).far (p:=⟨g,1,none⟩) TK _).far (p:=⟨g,2,none⟩) TK _).far (p:=⟨g,3,none⟩) TK _).far (p:=⟨g,4,none⟩) TK _).far (p:=⟨g,5,none⟩) TK _,(((((h2.far (p:=⟨g,0,none⟩) hne _).far (p:=⟨g,1,none⟩) hne _).far (p:=⟨g,2,none⟩) hne _).far (p:=⟨g,3,none⟩) hne _).far (p:=⟨g,4,none⟩) hne _).far (p:=⟨g,5,none⟩) hne _,(((((hB.setCell bI _).setCell bI _).setCell bI _).setCell bI _).setCell bI _).setCell bI _⟩):p:=h
theorem Ru (F0:Fn)(C0:Array Value)(w:World):ar 116 #[.func F0 #[] C0] w (abd F0 C0 w):=by
 open zd3 in exact Zcb
def iy (k:Nat)(w:World)(e:Ending)(w':World):Prop:=∃v,e=.returned v/\gC w' k v/\aj w w'
theorem ase (w:World):ar 112 #[(.func (.func 113) #[] #[])] w (iy 5 w):=
 (mE _ _ w).mono λ e w' ⟨q,he,hq,hb⟩=>⟨_,he,⟨q,rfl,hq⟩,hb⟩
theorem asf (w:World):ar 112 #[(.func (.func 114) #[] #[])] w (iy 6 w):=
 (mE _ _ w).mono λ e w' ⟨q,he,hq,hb⟩=>⟨_,he,⟨q,rfl,hq⟩,hb⟩
theorem asg (w:World):ar 112 #[(.func (.func 115) #[] #[])] w (iy 7 w):=
 (mE _ _ w).mono λ e w' ⟨q,he,hq,hb⟩=>⟨_,he,⟨q,rfl,hq⟩,hb⟩
theorem ash (w:World):ar 116 #[(.func (.func 117) #[] #[])] w (iy 8 w):=
 (Ru _ _ w).mono λ e w' ⟨q,q2,he,hq,lf,hb⟩=>⟨_,he,⟨q,q2,rfl,hq,lf⟩,hb⟩
theorem asi (w:World):ar 116 #[(.func (.func 118) #[] #[])] w (iy 9 w):=
 (Ru _ _ w).mono λ e w' ⟨q,q2,he,hq,lf,hb⟩=>⟨_,he,⟨q,q2,rfl,hq,lf⟩,hb⟩
theorem akS (w:World):ar 119 #[(.func (.func 120) #[] #[])] w (iy 10 w):=
 (lC _ _ w).mono λ e w' ⟨q,he,hq,hb⟩=>⟨_,he,⟨q,rfl,hq⟩,hb⟩
theorem akT (w:World):ar 119 #[(.func (.func 121) #[] #[])] w (iy 11 w):=
 (lC _ _ w).mono λ e w' ⟨q,he,hq,hb⟩=>⟨_,he,⟨q,rfl,hq⟩,hb⟩
theorem akU (w:World):ar 119 #[(.func (.func 122) #[] #[])] w (iy 12 w):=
 (lC _ _ w).mono λ e w' ⟨q,he,hq,hb⟩=>⟨_,he,⟨q,rfl,hq⟩,hb⟩
theorem akV (w:World):ar 119 #[(.func (.func 123) #[] #[])] w (iy 13 w):=
 (lC _ _ w).mono λ e w' ⟨q,he,hq,hb⟩=>⟨_,he,⟨q,rfl,hq⟩,hb⟩
theorem akW (w:World):ar 119 #[(.func (.func 124) #[] #[])] w (iy 14 w):=
 (lC _ _ w).mono λ e w' ⟨q,he,hq,hb⟩=>⟨_,he,⟨q,rfl,hq⟩,hb⟩
theorem akX (w:World):ar 119 #[(.func (.func 125) #[] #[])] w (iy 15 w):=
 (lC _ _ w).mono λ e w' ⟨q,he,hq,hb⟩=>⟨_,he,⟨q,rfl,hq⟩,hb⟩
theorem akY (w:World):ar 126 #[.bool false] w (iy 16 w):=
 (ET _ w).mono λ e w' ⟨q,he,hq,hb⟩=>⟨_,he,⟨q,rfl,hq⟩,hb⟩
theorem akZ (w:World):ar 126 #[.bool true] w (iy 17 w):=
 (ET _ w).mono λ e w' ⟨q,he,hq,hb⟩=>⟨_,he,⟨q,rfl,hq⟩,hb⟩
theorem ala (w:World):ar 127 #[.bool true] w (iy 18 w):=
 (EU _ w).mono λ e w' ⟨q,he,hq,hb⟩=>⟨_,he,⟨q,rfl,hq⟩,hb⟩
theorem alb (w:World):ar 127 #[.bool false] w (iy 19 w):=
 (EU _ w).mono λ e w' ⟨q,he,hq,hb⟩=>⟨_,he,⟨q,rfl,hq⟩,hb⟩
theorem NN.at_{w:World}   {c:Nat}(h:NN w g es c) {k:Nat} {v:Value} (hm:(⟨ag (k:Int),v,i⟩:MapEntry)∈es.toList):gC w k v:=by obtain⟨k',Rv,ho⟩:=h.2 _ hm;injection Rv with _ h3;have:k=k':=Int.ofNat.inj h3;subst this;exact ho
def abe (w:World)(e:Ending)(w':World):Prop:=∃g es,e=.returned (.map (some g))/\NN w' g es 18/\(∀k:Nat,3<=k->k<=20->∃i v,Instr.findNow (.int .u8) (ag k) es.toList 0=some (some (i,v))/\gC w' k v)/\(∀k:Int,k < 3\/20 < k->Instr.findNow (.int .u8) (ag k) es.toList 0=some none)/\aj w w'
theorem qK{w:World} {n k:Nat}  {v:Value}(hT:NN w g es n)(hB:aj w0 w)(hg:w0.heap.size<=g)(hv:gC w' k v)(b:aj w w')(hf:Instr.findNow (.int .u8) (ag k) es.toList 0=some none):
  (Instr.mapUpdate 154 (.map (some g)) (ag (k:Int)) v).run Tryz.prog w'=.ok () (ix w' g (es.push ⟨ag (k:Int),v,n⟩) (n+1))/\NN (ix w' g (es.push ⟨ag (k:Int),v,n⟩) (n+1)) g (es.push ⟨ag (k:Int),v,n⟩) (n+1)/\aj w0 (ix w' g (es.push ⟨ag (k:Int),v,n⟩) (n+1)):=
 have hT:=hT.later b
 ⟨agz w' g es n hT.1 k v hf,hT.push k v hv,Hk (ai.then hB b) g hg _ _⟩
theorem AQ (w:World):ar 75 #[] w (abe w):=by
 have Nk:= @run_makeMap Tryz.prog;have bI:w.heap.size<=w.heap.size:=Nat.le_refl _;have hT:NN (w.alloc (.map #[] 0)) w.heap.size #[] 0:=⟨heap_alloc_new w _,λ e he=>by simp at he⟩;obtain⟨i3,hT,hB⟩:=qK (k:=3) (v:=.agg #[af 1,ag 2,ag 2,.bool false,.bool false,(.func (.func 108) #[] #[])]) hT (ah w _) bI rfl (Below.refl _ _) rfl;obtain⟨i4,hT,hB⟩:=qK (k:=4) (v:=.agg #[af 1,ag 1,ag 1,.bool false,.bool false,(.func (.func 110) #[] #[])]) hT hB bI rfl (Below.refl _ _) rfl;simp only[push_toArray,nil_append,cons_append,Nat.reduceAdd,Nat.zero_add,Int.cast_ofNat_Int] at i3 i4 hT hB;have HT:=aa hT;have HB:=aa hB;clear hT hB;go_enter Tryz.func75,Tryz.ntmps75;go_wp2_with fail;clear i3 i4 Nk;generalize ix (ix _ _ _ _) _ _ _=W at*;generalize eh:w.heap.size=g at HT bI ⊢;have hgb:w.heap.size<=g:=by omega
 clear bI
 iterate 14
  first | refine(ase _).mono ?_ | refine(asf _).mono ?_ | refine(asg _).mono ?_ | refine(ash _).mono ?_ | refine(asi _).mono ?_ | refine(akS _).mono ?_ | refine(akT _).mono ?_ | refine(akU _).mono ?_ | refine(akV _).mono ?_ | refine(akW _).mono ?_ | refine(akX _).mono ?_ | refine(akY _).mono ?_ | refine(akZ _).mono ?_ | refine(ala _).mono ?_
  rintro e w' ⟨v,rfl,hv,b⟩;obtain⟨i,hT,hB⟩:=qK HT.ae HB.ae hgb hv b rfl;simp only[push_toArray,nil_append,cons_append,Nat.reduceAdd,Int.cast_ofNat_Int] at i hT hB;clear HT HB;have HT:=aa hT;have HB:=aa hB;clear hT hB b hv;go_wp2_with fail;clear i;generalize ix w' g _ _=W at*;clear w'
 refine(alb _).mono ?_;rintro e w' ⟨v,rfl,hv,b⟩;obtain⟨i,hT,hB⟩:=qK HT.ae HB.ae hgb hv b rfl;obtain⟨j,hT,hB⟩:=qK (k:=20) (v:=.agg #[af 1,ag 2,ag 2,.bool false,.bool false,(.func (.func 128) #[] #[])]) hT hB hgb rfl (Below.refl _ _) rfl;simp only[push_toArray,nil_append,cons_append,Nat.reduceAdd,Int.cast_ofNat_Int] at i j hT hB;clear HT HB;have HT:=aa hT;have HB:=aa hB;clear hT hB b hv;go_wp2_with fail;clear i j;generalize ix _ g _ _=W at*;go_ret;refine⟨g,_,rfl,HT.ae,?_,?_,HB.ae⟩
 ·intro k h1 h2;have hk:k=3\/k=4\/k=5\/k=6\/k=7\/k=8\/k=9\/k=10\/k=11\/k=12\/k=13\/k=14\/k=15\/k=16\/k=17\/k=18\/k=19\/k=20:=by omega
  rcases hk with rfl | rfl | rfl | rfl | rfl | rfl | rfl | rfl | rfl | rfl | rfl | rfl | rfl | rfl | rfl | rfl | rfl | rfl;all_goals exact⟨_,_,rfl,NN.at_ HT.ae (by simp;rfl)⟩
 ·intro k hk;have q:∀j:Int,3<=j->j<=20->(k==j)=false:=λ j h1 h2=>by rw[beq_eq_false_iff_ne];omega
  simp only[Instr.findNow,Instr.sameNow];simp[q 3,q 4,q 5,q 6,q 7,q 8,q 9,q 10,q 11,q 12,q 13,q 14,q 15,q 16,q 17,q 18,q 19,q 20]
def Rw (P:Program)(l:List Oper)(R:World->World->Prop)(V:Nat->World->Value->Prop)(U:Nat->World->(Operand->Value)->Prop)(a0:Act)(w0:World)(i:Nat)(o:Oper):Prop:=
 ∀ρ w,oz ρ->R w0 w->lJ l V a0.eval ρ w o (tmpsOf o)->
  match o.guard with
  | none=>xa P o ρ w λ v w'=>R w w'/\V i w' v/\U i w' ρ
  | some _=>False
def Hm (P:Program)(l:List Oper)(R:World->World->Prop)(V:Nat->World->Value->Prop)(U:Nat->World->(Operand->Value)->Prop)(a0:Act)(w0:World):List Oper->Nat->Prop
 | [],_=>True
 | o::rest,i=>Rw P l R V U a0 w0 i o/\Hm P l R V U a0 w0 rest (i+1)
variable{U:Nat->World->(Operand->Value)->Prop}
theorem EW:∀ {l:List Oper} {k:Nat},Hm P L R V U a0 w0 l k->∀i o,l[i]?=some o->Rw P L R V U a0 w0 (k+i) o
 | [],_,_,i,o,h=>by simp at h
 | o'::rest,k,hs,0,o,h=>by simp at h;subst h;exact hs.1
 | o'::rest,k,hs,i+1,o,h=>by have:=EW hs.2 i o Tak;rwa [show k+(i+1)=k+1+i by omega]
def Ya (l:List Oper)(R:World->World->Prop)(U:Nat->World->(Operand->Value)->Prop):Prop:=
 ∀i o w w' ρ ρ',l[i]?=some o->U i w ρ->R w w'->(∀j∈eX o,∀oj d,l[j]?=some oj->oj.dst=some d->ρ' (.tmp d)=ρ (.tmp d))->U i w' ρ'
structure Inv2 (l:List Oper) (V:Nat->World->Value->Prop) (U:Nat->World->(Operand->Value)->Prop) (R:World->World->Prop) (a0:Act) (w0:World) (m:Nat) (listed:Array Bool) (a:Act) (w:World):Prop where
 base:Inv l V R a0 w0 m listed a w
 post:∀i o,l[i]?=some o->listed.getD i false=true->U i w a.eval
section
variable {P:Program} {l zs:List Oper} {Q:Exit->Act->World->Prop} {R:World->World->Prop} {V:Nat->World->Value->Prop} {U:Nat->World->(Operand->Value)->Prop} {a0:Act} {w0:World}
theorem Inv2.step (aZ:dN l a0.tmps.size l 0=true)(hV:∀i w w' v,V i w v->R w w'->V i w' v)(hU:Ya l R U)(hrefl:∀w,R w w)(hT:∀a b c,R a b->R b c->R a c) {m:Nat} {listed:Array Bool} {a:Act} {w w':World} {v:Value}(I:Inv2 l V U R a0 w0 m listed a w) {i:Nat} {o:Oper}(ho:l[i]?=some o)(Rp:i < m)
  (hun:listed.getD i false=false) (hall:∀j∈eX o,listed.getD j false=true) (hr:R w w') (hv:V i w' v) (hu:U i w' a.eval):Inv2 l V U R a0 w0 m (listed.setIfInBounds i true) (a.put o.dst v) w':=by
 refine⟨I.base.step aZ hV hT ho Rp hun hall hr hv,?_⟩;have rW:i < listed.size:=by rw[I.base.len];exact Rp
 have jy:=cE aZ i o ho;rw[Nat.zero_add] at jy
 have keep:∀j d oj,l[j]?=some oj->oj.dst=some d->j≠i->(a.put o.dst v).eval (.tmp d)=a.eval (.tmp d):=by
  intro j d oj hj hd Xk;refine Act.eval_put λ d' e e'=>?_
  injection e' with e';subst e';have qF:=cE aZ j oj hj;simp only[lI,hd,Bool.and_eq_true,Nat.zero_add,beq_iff_eq] at qF;simp only[lI,e,Bool.and_eq_true,beq_iff_eq] at jy;rw[qF.1.1.2.2] at jy;have:=jy.1.1.2.2;injection this with this;exact Xk this
 intro j oj hj hl;by_cases Xk:j=i
 ·subst Xk;rw[hj] at ho;injection ho with ho;subst ho;refine hU j oj w' w' a.eval _ hj hu (hrefl _) λ k hk ok d sV hd=>keep k d ok sV hd ?_
  intro e';subst e';have:=hall k hk;rw[hun] at this;cases this
 ·have hl':listed.getD j false=true:=by rw[eH _ _ _ rW,if_neg Xk] at hl;exact hl
  refine hU j oj w w' a.eval _ hj (I.post j oj hj hl') hr λ k hk ok d sV hd=>keep k d ok sV hd ?_
  intro e';subst e';have:=I.base.closed j oj hj hl' k hk;rw[hun] at this;cases this
theorem zfP.Kbp(h:p:=by
 rw[<- ha] at hK;replace hK:=hK λ i o hi=>I2.post i o hi (hall i (by
  rcases Nat.lt_or_ge i l.length with h' | h'
  ·exact h'
  ·rw[getElem?_eq_none h'] at hi;cases hi))
 exact Zbk):p:=h
theorem zb0.Kam(h:p:=by open zfP in exact ZdI):p:=h
theorem EX {N:Nat}(aZ:dN l N l 0=true)(hz:eL (l++zs) zs l.length=true)(hf:∀w,R w0 w->bD V (λ a w=>(∀i o,l[i]?=some o->U i w a.eval)->wpList P (l++zs).toArray Q zs a w) l 0 a0 w) {listed:Array Bool} {a:Act} {w:World}(I2:Inv2 l V U R a0 w0 (l++zs).length listed a w)
  (h0:bw l.length listed=0):wpAny P .any (l++zs).toArray Q zs.length listed a w:=by have I:=I2.base;open zb0 in exact ZaE
theorem zam.Kc(h:p:=by
 have hst:=EW hs i oj uX;rw[Nat.zero_add] at hst;have mq:=Inv.reads aZ I uX AL eY (tmpsOf oj) (λ _ h=>h);have hstep:=hst a.eval w (mB a) I.r mq;have Ke:∀v w',R w w'->V i w' v->U i w' a.eval->wpAny P .any (l++zs).toArray Q fuel (listed.setIfInBounds i true) (a.put oj.dst v) w':=by intro v w' hr hv hu;refine ih _ _ _ (I2.step aZ hV hU hrefl AJ uX zt AL eY hr hv hu) ?_;have:=kY l.length listed i Tbg rW AL;omega
 unfold wpOp;rw[oC];show if Region.wanted oj (yielded (l++zs).toArray a.tmps)=true then _ else _
 cases hg:oj.guard with
 | none=>rw[if_pos (by simp[Region.wanted,hg])];simp only[hg] at hstep;exact .inl (jx hstep λ v w' h=>Ke v w' h.1 h.2.1 h.2.2)
 | some g=>simp only[hg] at hstep):p:=h
theorem Hn {id:Nat} {ops:List Oper}(zs:List Oper)(l:List Oper)(kE:ops=l++zs)(R:World->World->Prop)(hrefl:∀w,R w w)(AJ:∀a b c,R a b->R b c->R a c)(nK:∀w,R w w.drew)
  (V:Nat->World->Value->Prop) (U:Nat->World->(Operand->Value)->Prop) (hU:Ya l R U) (hV:∀Kx w w' v,V Kx w v->R w w'->V Kx w' v) (hm:P.follows .mixedOrders=true) (aZ:dN l a0.tmps.size l 0=true) (hz:eL (l++zs) zs l.length=true)
  (hs:Hm P l R V U a0 w0 l 0) (hf:∀w,R w0 w->bD V (λ a w=>(∀Kx o,l[Kx]?=some o->U Kx w a.eval)->wpList P ops.toArray Q zs a w) l 0 a0 w):(Code.region id ops.toArray true).wp P Q a0 w0:=by
 subst kE
 have main:∀(fuel:Nat) (listed:Array Bool) (a:Act) (w:World),Inv2 l V U R a0 w0 (l++zs).length listed a w->fuel=bw l.length listed+zs.length->wpAny P .any (l++zs).toArray Q fuel listed a w:=by
  intro fuel
  induction fuel with
  | zero=>
    intro listed a w I2 hfu;have I:=I2.base;have h0:bw l.length listed=0:=by omega
    have hz0:zs.length=0:=by omega
    have:=EX aZ hz hf I2 h0;rwa [hz0] at this
  | succ fuel ih=>
    intro listed a w I2 hfu;have I:=I2.base;by_cases h0:bw l.length listed=0
    ·have:=EX aZ hz hf I2 h0;exact Zfc
    ·open zam in exact Zab
 refine wp_region_any hm ?_;have h0:R w0 w0.drew:=nK w0;have:=main (l++zs).toArray.size (Array.replicate (l++zs).toArray.size false) a0 w0.drew ⟨⟨h0,rfl,rfl,λ _ _=>rfl,(λ Kx o d _ h=>by rw[bh] at h;cases h),(λ Kx o _ h=>by rw[bh] at h;cases h),by simp,λ Kx _=>bh _ _⟩,λ Kx o _ h=>by rw[bh] at h;cases h⟩ (by
  have:bw l.length (Array.replicate (l++zs).toArray.size false)=l.length:=by
   unfold bw
   rw[List.filter_eq_self.2 (λ Kx _=>by rw[bh];rfl),length_range]
  rw[this];simp)
 exact this
end
def kF (op:Int):Bool:=decide (3<=op/\op<=20)
def cI (a wa gi:Int)(al nu:Bool)(d:Value):Array Value:= #[af a,ag wa,ag gi,.bool al,.bool nu,d]
def oD:Array Value:= #[af 0,ag 0,ag 0,.bool false,.bool false,.nilFunc]
def yu (w:World)(op:Int)(o:Array Value):Prop:=(kF op=true/\gC w op.toNat (.agg o))\/(kF op=false/\o=oD)
theorem gC.shape{w:World} {k:Nat} {v:Value}(h:gC w k v):∃a wa gi al nu F C,(a=1\/a=2)/\v=.agg (cI a wa gi al nu (.func F #[] C)):=by
 unfold gC at h;split at h
 all_goals first
  | exact⟨_,_,_,_,_,_,_,.inl rfl,h⟩
  |(obtain⟨q,h1,_⟩:=h;exact⟨_,_,_,_,_,_,_,.inl rfl,h1⟩)
  |(obtain⟨q,h1,_⟩:=h;exact⟨_,_,_,_,_,_,_,.inr rfl,h1⟩)
  |(obtain⟨q,q2,h1,_⟩:=h;exact⟨_,_,_,_,_,_,_,.inr rfl,h1⟩)
  | exact h.elim
theorem yu.shape{w:World} {op:Int} {o:Array Value}(h:yu w op o):∃a wa gi al nu d,o=cI a wa gi al nu d/\(kF op=true->a≠0)/\(d=.nilFunc\/∃F C,d=.func F #[] C):=by
 rcases h with ⟨h1,h2⟩|⟨h1,rfl⟩
 ·obtain⟨a,wa,gi,al,nu,F,C,ha,e⟩:=h2.shape;injection e with e;exact⟨a,wa,gi,al,nu,_,e,λ _=>by omega,.inr ⟨F,C,rfl⟩⟩
 ·exact⟨0,0,0,false,false,.nilFunc,rfl,(λ h=>by rw[h1] at h;cases h),.inl rfl⟩
theorem gC.Kk{w:World}(hk:∀(q:Nat) (t:TypeId) (cs:Array Value),t≠100->aB w q t cs->aB w' q t cs):∀(k:Nat) (v:Value),gC w k v->gC w' k v:=by
 intro k v h;unfold gC at*;split at h
 all_goals first
  | exact h
  |(obtain⟨q,q2,h1,h2,h3⟩:=h;exact⟨q,q2,h1,hk _ _ _ Taa h2,hk _ _ _ Taa h3⟩)
  |(obtain⟨q,h1,h2⟩:=h;exact⟨q,h1,hk _ _ _ Taa h2⟩)
theorem yu.Kk{w:World} {op:Int} {o:Array Value}(hk:∀(q:Nat) (t:TypeId) (cs:Array Value),t≠100->aB w q t cs->aB w' q t cs)(h:yu w op o):yu w' op o:=by
 rcases h with ⟨h1,h2⟩| h1
 ·exact .inl ⟨h1,h2.Kk hk⟩
 ·exact .inr h1
structure FR (op:Int) (B:Nat) (a b:World):Prop where
 below:Below B a b
 blk:∀(g:Nat) (t:TypeId) (cs:Array Value),aB a g t cs->aB b g t cs\/(t=100/\B<=g/\∃o:Array Value,yu b op o/\aB b g t o)
 map:∀(g:Nat) (es:Array MapEntry) (c:Nat),a.heap[g]?=some (Obj.map es c)->b.heap[g]?=some (Obj.map es c)
theorem FR.refl (op:Int)(B:Nat)(w:World):FR op B w w:=⟨Below.refl _ _,λ _ _ _ h=> .inl h,λ _ _ _ h=>h⟩
variable{cs:Array Value}
theorem FR.other{op:Int}  (h:FR op B a b)  {t:TypeId} (hb:aB a g t cs)(ht:t≠100):aB b g t cs:=by
 rcases h.blk g t cs hb with h1 |⟨h1,_⟩
 ·exact h1
 ·exact absurd h1 ht
theorem gC.fr{op:Int}  (h:FR op B a b)(k:Nat)(v:Value)(hk:gC a k v):gC b k v:=hk.Kk (λ q t cs ht hq=>h.other hq ht) _ _
variable{op':Int}
theorem yu.fr{op:Int}    {o:Array Value}(h:FR op B a b)(ho:yu a op' o):yu b op' o:=ho.Kk λ q t cs ht hq=>h.other hq ht
theorem FR.trans{op:Int}  {c:World}(h:FR op B a b)(k:FR op B b c):FR op B a c:=by
 refine⟨h.below.trans k.below,λ g t cs hb=>?_,λ g es c hb=>k.map _ _ _ (h.map _ _ _ hb)⟩;rcases h.blk g t cs hb with h1 |⟨h1,h2,o,h3,h4⟩
 ·exact k.blk g t cs h1
 ·rcases k.blk g t o h4 with h6 | h6
  ·exact .inr ⟨h1,h2,o,h3.fr k,h6⟩
  ·exact .inr h6
theorem FR.later{op:Int}  (h:aj a b)(hB:B<=a.heap.size):FR op B a b:=
 ⟨h.mono hB,λ g t cs hb=> .inl (hb.later h),λ g es c hb=>by
   rw[h.block g ?_]
   ·exact hb
   ·rcases Nat.lt_or_ge g a.heap.size with h' | h'
    ·exact h'
    ·rw[Array.getElem?_eq_none h'] at hb;cases hb⟩
theorem yu.later{op:Int} {o:Array Value}(ho:yu a op o)(h:aj a b):yu b op o:=ho.fr (op:=0) (FR.later h (Nat.le_refl _))
def qL (op:Int):Int:=if op=3\/op=4\/18<=op then 1 else 2
variable{wa gi:Int}{al nu:Bool}{d:Value}
theorem gC.args{w:World} {k:Nat} {a:Int}  (h:gC w k (.agg (cI a wa gi al nu d))):a=qL k:=by
 unfold gC at h;split at h
 all_goals first
  | exact h.elim
  |(simp[eT,cI] at h;simp[qL];omega)
  |(obtain⟨q,q2,h1,_⟩:=h;simp[eT,cI] at h1;simp[qL];omega)
  |(obtain⟨q,h1,_⟩:=h;simp[eT,cI] at h1;simp[qL];omega)
theorem yu.args{w:World} {op a:Int}  (h:yu w op (cI a wa gi al nu d))(ho:kF op=true):a=qL op:=by
 rcases h with ⟨_,h2⟩|⟨h1,_⟩
 ·have h3:3<=op/\op<=20:=by simpa [kF] using ho
  have:=h2.args;rwa [show((op.toNat:Nat):Int)=op by omega] at this
 ·rw[ho] at h1;cases h1
def vp (w:World)(g:Nat)(a wa gi:Int)(al nu:Bool)(d:Value):World:=(((((w.setCell ⟨g,0,none⟩ (af a)).setCell ⟨g,1,none⟩ (ag wa)).setCell ⟨g,2,none⟩ (ag gi)).setCell ⟨g,3,none⟩ (.bool al)).setCell ⟨g,4,none⟩ (.bool nu)).setCell ⟨g,5,none⟩ d
theorem EY{w:World} {q:Nat} {t:TypeId} (h:aB w q t cs)(hg:q≠g)(a wa gi:Int)(al nu:Bool)(d:Value):aB (vp w g a wa gi al nu d) q t cs:=
 (((((h.far (p:=⟨g,0,none⟩) hg _).far (p:=⟨g,1,none⟩) hg _).far (p:=⟨g,2,none⟩) hg _).far (p:=⟨g,3,none⟩) hg _).far (p:=⟨g,4,none⟩) hg _).far (p:=⟨g,5,none⟩) hg _
theorem AU{w:World}  {t:TypeId} (h:aB w g t cs)(hs:cs.size=6)(a wa gi:Int)(al nu:Bool)(d:Value):aB (vp w g a wa gi al nu d) g t (cI a wa gi al nu d):=by
 have h1:=(((((h.aU 0 (af a)).aU 1 (ag wa)).aU 2 (ag gi)).aU 3 (.bool al)).aU 4 (.bool nu)).aU 5 d
 have e:(((((cs.setIfInBounds 0 (af a)).setIfInBounds 1 (ag wa)).setIfInBounds 2 (ag gi)).setIfInBounds 3 (.bool al)).setIfInBounds 4 (.bool nu)).setIfInBounds 5 d=cI a wa gi al nu d:=by
  clear h1 h;obtain⟨l⟩:=cs
  match l,hs with
  | [c0,c1,c2,c3,c4,c5],_=>simp[cI]
 rw[e] at h1;exact h1
theorem Kl{w:World}(h:Below B w0 w) (hg:B<=g)(a wa gi:Int)(al nu:Bool)(d:Value):Below B w0 (vp w g a wa gi al nu d):=
 (((((h.setCell (p:=⟨g,0,none⟩) hg _).setCell (p:=⟨g,1,none⟩) hg _).setCell (p:=⟨g,2,none⟩) hg _).setCell (p:=⟨g,3,none⟩) hg _).setCell (p:=⟨g,4,none⟩) hg _).setCell (p:=⟨g,5,none⟩) hg _
theorem dO{op:Int}  {w:World}  (h:aB w g 100 cs)(hs:cs.size=6)(hg:B<=g) {a:Int}  (ho:yu w op (cI a wa gi al nu d)):
  FR op B w (vp w g a wa gi al nu d)/\yu (vp w g a wa gi al nu d) op (cI a wa gi al nu d):=by
 have hne:∀(q:Nat) (t:TypeId) (cs':Array Value),t≠100->aB w q t cs'->q≠g:=by intro q t cs' ht hq e;subst e;unfold aB at h hq;rw[h] at hq;injection hq with hq;injection hq with _ hq _;exact ht hq.symm
 have Rx:yu (vp w g a wa gi al nu d) op (cI a wa gi al nu d):=ho.Kk λ q t cs' ht hq=>EY hq (hne q t cs' ht hq) _ _ _ _ _ _
 refine⟨⟨Kl (Below.refl _ _) hg _ _ _ _ _ _,λ q t cs' hq=>?_,λ q es c hq=>?_⟩,Rx⟩
 ·by_cases e:q=g
  ·subst e;have ht:t=100:=by unfold aB at h hq;rw[h] at hq;injection hq with hq;injection hq with _ hq _;exact hq.symm
   subst ht;exact .inr ⟨rfl,hg,_,Rx,AU h hs _ _ _ _ _ _⟩
  ·exact .inl (EY hq e _ _ _ _ _ _)
 ·have e:q≠g:=λ e=>by subst e;unfold aB at h;rw[h] at hq;cases hq
  have k:=λ(u:World) (i:Nat) (v:Value)=>Below.heap_setCell u ⟨g,i,none⟩ v q e
  unfold vp;rw[k,k,k,k,k,k];exact hq
theorem Yb (w:World)(g:Nat)(es:Array MapEntry)(c:Nat)(hg:w.heap[g]?=some (.map es c))(k:Int)(i:Nat)(v:Value)(hf:Instr.findNow (.int .u8) (ag k) es.toList 0=some (some (i,v))):
  (Instr.lookup 154 (.map (some g)) (ag k) true).run Tryz.prog w=.ok (.tuple #[v,.bool true]) w:=by unfold Instr.lookup;simp only[Sem.run_bind,run_underlying Tryz.underlying154,Result.andThen_ok,MapKept.run_getObj_map hg,xe,Instr.findKey,run_underlying Tryz.underlying5,hf,Sem.run_pure];rfl
theorem abf (w:World):(zeroValue 100).run Tryz.prog w=.ok (.agg oD) w:=by exact Zgn
theorem abg (w:World)(g:Nat)(es:Array MapEntry)(c:Nat)(hg:w.heap[g]?=some (.map es c))(k:Int)(hf:Instr.findNow (.int .u8) (ag k) es.toList 0=some none):
  (Instr.lookup 154 (.map (some g)) (ag k) true).run Tryz.prog w=.ok (.tuple #[.agg oD,.bool false]) w:=by unfold Instr.lookup;simp only[Sem.run_bind,run_underlying Tryz.underlying154,Result.andThen_ok,MapKept.run_getObj_map hg,xe,Instr.findKey,run_underlying Tryz.underlying5,hf,Sem.run_pure,abf];rfl
def Found (w:World)(op:Int)(v:Value):Prop:=∃(g:Nat) (es:Array MapEntry),v=.map (some g)/\w.heap[g]?=some (.map es 18)/\
 ((kF op=true/\∃i o,Instr.findNow (.int .u8) (ag op) es.toList 0=some (some (i,.agg o))/\gC w op.toNat (.agg o))\/(kF op=false/\Instr.findNow (.int .u8) (ag op) es.toList 0=some none))
theorem Found.fr{op:Int} {v:Value}(h:FR op' B a b)(ho:Found a op v):Found b op v:=by
 obtain⟨g,es,h1,h2,h3⟩:=ho;refine⟨g,es,h1,h.map _ _ _ h2,?_⟩;rcases h3 with ⟨h4,i,o,h5,h6⟩| h3
 ·exact .inl ⟨h4,i,o,h5,gC.fr h _ _ h6⟩
 ·exact .inr h3
theorem TL (op:Int)(w:World):ar 75 #[] w λ e w'=>∃v,e=.returned v/\Found w' op v/\aj w w':=by
 refine(AQ w).mono ?_;rintro e w' ⟨g,es,he,ht,JY,hout,hb⟩;refine⟨_,he,⟨g,es,rfl,ht.1,?_⟩,hb⟩;cases ho:kF op
 ·refine .inr ⟨rfl,hout op ?_⟩;simp[kF] at ho;omega
 ·have h2:3<=op/\op<=20:=by simpa [kF] using ho
  obtain⟨i,v,h3,h4⟩:=JY op.toNat WC WC;have e1:((op.toNat:Nat):Int)=op:=by omega
  rw[e1] at h3;obtain⟨a,wa,gi,al,nu,F,C,_,rfl⟩:=h4.shape;exact .inl ⟨rfl,i,_,h3,h4⟩
end Go.Proofs.YtndgjggokjickaaGreatDoor
