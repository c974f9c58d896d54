/- Parts of the proof. -/
import Derived.BigQuiet
import Derived.Test.YtndgjggokjickaaGreatDoorRows
import Derived.Handy
import Derived.WalkLawsBesides
import Derived.Lib.Hide
import Derived.Deep.AppendLies
import Derived.Deep.RegionWith
import Derived.Laws.EntriesVeiled
import Derived.Test.YtndgjggokjickaaGreatDoorXS0
namespace Go.Proofs.YtndgjggokjickaaGreatDoor
open List
variable{p:Prop}
set_option maxHeartbeats 90000000
set_option maxRecDepth 100000
open Go.RowKit
def tmpsOf (o:Oper):List Tmp:=o.op.operands.toList.filterMap λ | .tmp t=>some t | _=>none
def gF (t:Tmp):List Oper->Nat->Option Nat
 | [],_=>none
 | o::l,i=>if o.dst=some t then some i else gF t l (i+1)
def ir (o:Oper)(j:Nat):Bool:=o.after.toList.any λ e=>Region.binds .any e && Nat.beq e.on j
def cY (l:List Oper)(o:Oper)(t:Tmp):Option Nat:=
 match gF t l 0 with
 | some j=>if ir o j then some j else none
 | none=>none
def eY (o:Oper):List Nat:=(o.after.toList.filter (Region.binds .any ·)).map (·.on)
def lN (l:List Oper)(N:Nat)(i:Nat)(o:Oper):Bool:=
 (eY o).all (λ j=>decide (j < i))&&
 (match o.dst with | some d=>decide (d < N)&&(gF d l 0==some i)| none=>true)&&
 (tmpsOf o).all (λ t=>match gF t l 0 with | some j=>ir o j ||(match l[j]? with | some oj=>ir oj i | none=>false)| none=>true)&&
 (match o.guard with | none=>true | some (j,_)=>ir o j &&(match l[j]? with | some oj=>oj.dst.isSome | none=>false))
def dO (l:List Oper)(N:Nat):List Oper->Nat->Bool
 | [],_=>true
 | o::rest,i=>lN l N i o && dO l N rest (i+1)
def Bb (l:List Oper):Nat->List Nat->Bool
 | 0,_=>true
 | k+1,S=>S.contains k && Bb l k (S++(match l[k]? with | some o=>eY o | none=> []))
def eK (l:List Oper):List Oper->Nat->Bool
 | [],_=>true
 | o::rest,i=>(eY o).all (λ j=>decide (j < i))&& Bb l i (eY o)&& eK l rest (i+1)
def zJ (P:Program)(o:Oper)(ρ:Operand->Value)(w:World)(T:Value->World->Prop):Prop:=
 match (execOp ρ o).run P w with
 | .ok (.value v) w'=>T v w'
 | .ok .skip w'=>T undef w'
 | .ok (.enter f args) w'=>Calls P f args w' λ e w''=>∃v,e=.returned v/\T v w''
 | _=>False
structure oT (ρ:Operand->Value):Prop where
 const:∀v,ρ (.const v)=v
 func:∀f,ρ (.func f)=.func (.func f) #[] #[]
 global:∀g,ρ (.global g)=aw g
theorem mQ (a:Act):oT a.eval:=⟨λ _=>rfl,λ _=>rfl,λ _=>rfl⟩
def lO (l:List Oper)(V:Nat->World->Value->Prop)(ρ0 ρ:Operand->Value)(w:World)(o:Oper):List Tmp->Prop
 | []=>True
 | t::ts=>(match cY l o t with | some j=>V j w (ρ (.tmp t))| none=>ρ (.tmp t)=ρ0 (.tmp t))/\lO l V ρ0 ρ w o ts
def Xo (P:Program)(l:List Oper)(R:World->World->Prop)(V:Nat->World->Value->Prop)(a0:Act)(w0:World)(i:Nat)(o:Oper):Prop:=
 ∀ρ w,oT ρ->R w0 w->lO l V a0.eval ρ w o (tmpsOf o)->
  match o.guard with
  | none=>zJ P o ρ w λ v w'=>R w w'/\V i w' v
  | some (j,want)=>match (l[j]?).bind (·.dst)with
    | some d=>V j w (ρ (.tmp d))->(ρ (.tmp d)=.bool want->zJ P o ρ w λ v w'=>R w w'/\V i w' v)/\(ρ (.tmp d)≠ .bool want->V i w undef)
    | none=>False
def Steps (P:Program)(l:List Oper)(R:World->World->Prop)(V:Nat->World->Value->Prop)(a0:Act)(w0:World):List Oper->Nat->Prop
 | [],_=>True
 | o::rest,i=>Xo P l R V a0 w0 i o/\Steps P l R V a0 w0 rest (i+1)
def bF (V:Nat->World->Value->Prop)(K:Act->World->Prop):List Oper->Nat->Act->World->Prop
 | [],_,a,w=>K a w
 | o::rest,i,a,w=>match o.dst with
   | some d=>∀v,V i w v->bF V K rest (i+1) (a.put (some d) v) w
   | none=>bF V K rest (i+1) a w
variable{P:Program}{L:List Oper}{R:World->World->Prop}{V:Nat->World->Value->Prop}{a0:Act}{w0:World}
theorem Kk:∀ {l:List Oper} {k:Nat},Steps P L R V a0 w0 l k->∀i o,l[i]?=some o->Xo P L R V a0 w0 (k+i) o
 | [],_,_,i,o,h=>by simp at h
 | x::l,k,hs,0,o,h=>by simp at h;subst h;exact hs.1
 | x::l,k,hs,i+1,o,h=>by have:=Kk hs.2 i o Tal;rwa [show k+1+i=k+(i+1) by omega] at this
variable{N:Nat}
theorem cH:∀ {l:List Oper} {k:Nat},dO L N l k=true->∀i o,l[i]?=some o->lN L N (k+i) o=true
 | [],_,_,i,o,h=>by simp at h
 | x::l,k,hs,0,o,h=>by simp at h;subst h;simp only[dO,Bool.and_eq_true] at hs;exact hs.1
 | x::l,k,hs,i+1,o,h=>by simp only[dO,Bool.and_eq_true] at hs;have:=cH hs.2 i o Tal;rwa [show k+1+i=k+(i+1) by omega] at this
theorem iG:∀ {l:List Oper} {k:Nat},eK L l k=true->∀i o,l[i]?=some o->(eY o).all (λ j=>decide (j < k+i))=true/\Bb L (k+i) (eY o)=true
 | [],_,_,i,o,h=>by simp at h
 | x::l,k,hs,0,o,h=>by simp at h;subst h;simp only[eK,Bool.and_eq_true] at hs;exact hs.1
 | x::l,k,hs,i+1,o,h=>by simp only[eK,Bool.and_eq_true] at hs;have:=iG hs.2 i o Tal;rwa [show k+1+i=k+(i+1) by omega] at this
variable{o:Oper}{j:Nat}
theorem js:j∈eY o↔∃e∈o.after,Region.binds .any e=true/\e.on=j:=by
 unfold eY;simp only[mem_map,mem_filter,Array.mem_toList_iff];constructor
 ·rintro⟨e,⟨h1,h2⟩,h3⟩;exact⟨e,h1,h2,h3⟩
 ·rintro⟨e,h1,h2,h3⟩;exact⟨e,⟨h1,h2⟩,h3⟩
theorem cM:ir o j=true↔j∈eY o:=by rw[js];unfold ir;simp only[any_eq_true,Bool.and_eq_true,Nat.beq_eq,Array.mem_toList_iff]
theorem iH(done:Nat->Prop)(hdc:∀i o,L[i]?=some o->done i->∀j∈eY o,done j):
  ∀(k:Nat) (S:List Nat),Bb L k S=true->(∀j∈S,done j)->∀j,j < k->done j
 | 0,_,_,_,j,hj=>absurd hj WC
 | k+1,S,hc,hS,j,hj=>by
   simp only[Bb,Bool.and_eq_true] at hc;have hk:done k:=hS k (by simpa using hc.1);by_cases e:j=k
   ·subst e;exact hk
   ·refine iH done hdc k _ hc.2 ?_ j WC;intro i hi;rcases List.mem_append.1 hi with h | h
    ·exact hS i h
    ·split at h
     ·rename_i o ho;exact hdc k o ho hk i h
     ·cases h
variable{t:Tmp}
theorem oU:∀ {l:List Oper} {k i:Nat} {o:Oper},l[i]?=some o->o.dst=some t->(∃j,gF t l k=some j)
 | [],_,i,o,h,_=>by simp at h
 | x::l,k,0,o,h,hd=>by simp at h;subst h;exact⟨k,by simp[gF,hd]⟩
 | x::l,k,i+1,o,h,hd=>by
   by_cases hx:x.dst=some t
   ·exact⟨k,by simp[gF,hx]⟩
   ·obtain⟨j,hj⟩:=oU (l:=l) (k:=k+1) (i:=i) (o:=o) Tal hd;exact⟨j,by simp[gF,hx,hj]⟩
theorem qO:∀ {l:List Oper} {k j:Nat},gF t l k=some j->∃i o,j=k+i/\l[i]?=some o/\o.dst=some t
 | [],_,_,h=>by simp[gF] at h
 | x::l,k,j,h=>by
   unfold gF at h;split at h
   ·rename_i hx;injection h with h;subst h;exact⟨0,x,rfl,rfl,hx⟩
   ·obtain⟨i,o,e,h1,h2⟩:=qO h;exact⟨i+1,o,by omega,by simpa using h1,h2⟩
structure Inv (l:List Oper) (V:Nat->World->Value->Prop) (R:World->World->Prop) (a0:Act) (w0:World) (m:Nat) (listed:Array Bool) (a:Act) (w:World):Prop where
 r:R w0 w
 defers:a.defers=a0.defers
 size:a.tmps.size=a0.tmps.size
 old:∀t,(∀i o,l[i]?=some o->o.dst=some t->listed.getD i false=true->False)->a.tmps[t]?=a0.tmps[t]?
 new:∀i o d,l[i]?=some o->listed.getD i false=true->o.dst=some d->V i w (a.eval (.tmp d))
 closed:∀i o,l[i]?=some o->listed.getD i false=true->∀j∈eY o,listed.getD j false=true
 len:listed.size=m
 tail:∀i,l.length<=i->listed.getD i false=false
def bA (l:Nat)(listed:Array Bool):Nat:=((List.range l).filter λ i=> !listed.getD i false).length
theorem eG (listed:Array Bool)(i j:Nat)(hi:i < listed.size):(listed.setIfInBounds i true).getD j false=if j=i then true else listed.getD j false:=by
 by_cases h:j=i
 ·subst h;simp[hi]
 ·simp only[Array.getD_eq_getD_getElem?,if_neg h];rw[Array.getElem?_setIfInBounds_ne (λ e=>h e.symm)]
variable{q:Nat->Bool}{i:Nat}
theorem yP{p:Nat->Bool} :∀ {L:List Nat},L.Nodup->i∈L->p i=true->q i=false->(∀j∈L,j≠i->q j=p j)->(L.filter q).length+1=(L.filter p).length
 | [],_,h,_,_,_=>by cases h
 | x::L,hn,hm,hp,hq,Ro=>by
   have hn':=(List.nodup_cons.1 hn);by_cases hx:x=i
   ·subst hx;have he:L.filter q=L.filter p:=filter_congr λ j hj=>Ro j (mem_cons_of_mem _ hj) (λ e=>hn'.1 (e▸hj))
    rw[filter_cons,filter_cons,hp,hq,he];simp
   ·have hi:i∈L:=by
     rcases List.mem_cons.1 hm with h | h
     ·exact absurd h.symm hx
     ·exact h
    have ih:=yP hn'.2 hi hp hq (λ j hj=>Ro j (mem_cons_of_mem _ hj));have hxq:=Ro x (mem_cons_self) hx;rw[filter_cons,filter_cons,hxq];split
    ·simp only[length_cons];omega
    ·exact ih
theorem ll (l:Nat)(listed:Array Bool)(i:Nat)(hi:i < listed.size)(hl:i < l)(h:listed.getD i false=false):bA l (listed.setIfInBounds i true)+1=bA l listed:=by unfold bA;refine yP (i:=i) nodup_range (List.mem_range.2 hl) (by simp[h]) (by rw[eG _ _ _ hi];simp) ?_;intro j _ hj;rw[eG _ _ _ hi,if_neg hj]
variable{listed:Array Bool}
theorem eb{l:Nat} (h:bA l listed=0):∀i,i < l->listed.getD i false=true:=by
 intro i hi;unfold bA at h;have:=List.length_eq_zero_iff.1 h
 cases hc:listed.getD i false with
 | true=>rfl
 | false=>
   have hm:i∈(List.range l).filter λ i=> !listed.getD i false:=List.mem_filter.2 ⟨List.mem_range.2 hi,by simp[hc]⟩
   rw[this] at hm;cases hm
theorem least{p:Nat->Prop}:∀n,p n->∃i,p i/\∀j,j < i->¬p j:=by
 intro n hn
 induction n using Nat.strongRecOn with
 | ind n ih=>
   by_cases h:∃j,j < n/\p j
   ·obtain⟨j,hj,hp⟩:=h;exact ih j hj hp
   ·exact⟨n,hn,λ j hj hp=>h ⟨j,hj,hp⟩⟩
theorem lp{l:Nat} (h:bA l listed≠0):∃i,i < l/\listed.getD i false=false:=by
 unfold bA at h
 match hf:(List.range l).filter λ i=> !listed.getD i false with
 | []=>rw[hf] at h;exact absurd rfl h
 | i::_=>
   have hm:i∈(List.range l).filter λ i=> !listed.getD i false:=by rw[hf];exact mem_cons_self
   have:=List.mem_filter.1 hm;exact⟨i,List.mem_range.1 this.1,by simpa using this.2⟩
variable{T:Value->World->Prop}{K:Act->World->Prop}{Q:Exit->Act->World->Prop}
theorem jt{a:Act} {w:World}   
  (h:zJ P o a.eval w T) (hK:∀v w',T v w'->K (a.put o.dst v) w'):o.wp P a w K Q:=by
 unfold zJ at h;unfold Oper.wp;generalize (execOp a.eval o).run P w=r at*
 cases r with
 | ok n w'=>
   cases n <;> simp only[Oper.upon] <;> first | exact hK _ _ h | exact h.elim | skip
   exact h.mono λ e w'' ⟨v,he,ht⟩=>by subst he;exact hK _ _ ht
 | halt x w'=>exact h.elim
theorem mR{a:Act} (h:a.tmps[t]?=a0.tmps[t]?):a.eval (.tmp t)=a0.eval (.tmp t):=by simp[Act.eval,Array.getD_eq_getD_getElem?,h]
section
variable {P:Program} {l zs:List Oper} {Q:Exit->Act->World->Prop} {R:World->World->Prop} {V:Nat->World->Value->Prop} {a0:Act} {w0:World}
theorem nZ {i:Nat} {o:Oper}(h:l[i]?=some o):(l++zs).toArray[i]?=some o:=by
 have:i < l.length:=by
  rcases Nat.lt_or_ge i l.length with h' | h'
  ·exact h'
  ·rw[getElem?_eq_none h'] at h;cases h
 simp[getElem?_append_left this,h]
theorem Inv.reads (bh:dO l a0.tmps.size l 0=true) {listed:Array Bool} {a:Act} {w:World} {m:Nat}(I:Inv l V R a0 w0 m listed a w) {i:Nat} {o:Oper}(ho:l[i]?=some o)
  (V9:listed.getD i false=false) (hall:∀j∈eY o,listed.getD j false=true):∀ts,(∀t∈ts,t∈tmpsOf o)->lO l V a0.eval a.eval w o ts
 | [],_=>trivial
 | t::ts,ajt=>by
   refine⟨?_,Inv.reads bh I ho V9 hall ts (λ t ht=>ajt t (mem_cons_of_mem _ ht))⟩;have NS:=cH bh i o ho;rw[Nat.zero_add] at NS;simp only[lN,Bool.and_eq_true] at NS;have ht:=List.all_eq_true.1 NS.1.2 t (ajt t mem_cons_self);unfold cY;cases hs:gF t l 0 with
   | none=>refine mR (I.old t ?_);intro j oj hj hd _;obtain⟨k,hk⟩:=oU (k:=0) hj hd;rw[hs] at hk;cases hk
   | some j=>
     simp only[hs] at ht;obtain⟨j',oj,e,hj,hd⟩:=qO hs;rw[Nat.zero_add] at e;subst e;by_cases he:ir o j=true
     ·simp only[he,if_true];exact I.new j oj t hj (hall j (cM.1 he)) hd
     ·simp only[he];rw[Bool.not_eq_true] at he;simp only[he,Bool.false_or,hj] at ht;refine mR (I.old t ?_);intro k ok hk hdk hlk;have Xp:=cH bh k ok hk;simp only[lN,hdk,Bool.and_eq_true,Nat.zero_add,beq_iff_eq] at Xp;have hkj:k=j:=by have:=Xp.1.1.2.2;rw[hs] at this;injection this with this;exact this.symm
      subst hkj;rw[hj] at hk;injection hk with hk;subst hk
      have:=I.closed k oj hj hlk i (cM.1 ht);rw[V9] at this;cases this
theorem Inv.step (bh:dO l a0.tmps.size l 0=true)(hV:∀i w w' v,V i w v->R w w'->V i w' v)(hT:∀a b c,R a b->R b c->R a c) {m:Nat} {listed:Array Bool} {a:Act} {w w':World} {v:Value}(I:Inv l V R a0 w0 m listed a w) {i:Nat} {o:Oper}(ho:l[i]?=some o)(EU:i < m)
  (V9:listed.getD i false=false) (hall:∀j∈eY o,listed.getD j false=true) (hr:R w w') (hv:V i w' v):Inv l V R a0 w0 m (listed.setIfInBounds i true) (a.put o.dst v) w':=by
 have ui:i < listed.size:=by rw[I.len];exact EU
 have Kl:i < l.length:=by
  rcases Nat.lt_or_ge i l.length with h' | h'
  ·exact h'
  ·rw[getElem?_eq_none h'] at ho;cases ho
 have ju:=cH bh i o ho;rw[Nat.zero_add] at ju;refine⟨hT _ _ _ I.r hr,?_,?_,?_,?_,?_,by simp[I.len],?_⟩
 ·cases hd:o.dst <;> simp[Act.put,I.defers]
 ·cases hd:o.dst <;> simp[Act.put,I.size]
 ·intro t ht;have hto:o.dst≠some t:=λ e=>ht i o ho e (by rw[eG _ _ _ ui,if_pos rfl])
  have h1:(a.put o.dst v).tmps[t]?=a.tmps[t]?:=by
   cases hd:o.dst with
   | none=>rfl
   | some d=>
     have:d≠t:=λ e=>hto (by rw[hd,e])
     simp[Act.put,Array.getElem?_setIfInBounds_ne this]
  rw[h1];refine I.old t ?_;intro j oj hj hd hl;exact ht j oj hj hd (by rw[eG _ _ _ ui];split <;> simp_all)
 ·intro j oj d hj hl hd;by_cases Ts:j=i
  ·subst Ts;rw[hj] at ho;injection ho with ho;subst ho;simp only[lN,hd,Bool.and_eq_true,decide_eq_true_eq] at ju
   have:(a.put oj.dst v).eval (.tmp d)=v:=by
    have hb:d < a.tmps.size:=by rw[I.size];exact ju.1.1.2.1
    simp[hd,Act.put,Act.eval,hb]
   rw[this];exact hv
  ·have hl':listed.getD j false=true:=by rw[eG _ _ _ ui,if_neg Ts] at hl;exact hl
   have hne:o.dst≠some d:=by intro e;have qP:=cH bh j oj hj;simp only[lN,hd,Bool.and_eq_true,Nat.zero_add,beq_iff_eq] at qP;simp only[lN,e,Bool.and_eq_true,beq_iff_eq] at ju;rw[qP.1.1.2.2] at ju;have:=ju.1.1.2.2;injection this with this;exact Ts this
   have h1:(a.put o.dst v).eval (.tmp d)=a.eval (.tmp d):=Act.eval_put λ d' xl e=>by injection e with e;subst e;exact hne xl
   rw[h1];exact hV _ _ _ _ (I.new j oj d hj hl' hd) hr
 ·intro j oj hj hl k hk;rw[eG _ _ _ ui];by_cases hki:k=i
  ·rw[if_pos hki]
  ·rw[if_neg hki];by_cases Ts:j=i
   ·subst Ts;rw[hj] at ho;injection ho with ho;subst ho;exact hall k hk
   ·rw[eG _ _ _ ui,if_neg Ts] at hl;exact I.closed j oj hj hl k hk
 ·intro j hj;rw[eG _ _ _ ui,if_neg WC];exact I.tail j hj
def fill (f:Tmp->Value):List Oper->Act->Act
 | [],a=>a
 | o::rest,a=>fill f rest (match o.dst with | some d=>a.put (some d) (f d)| none=>a)
theorem jQ (f:Tmp->Value):∀(l:List Oper) (a:Act),(fill f l a).defers=a.defers
 | [],_=>rfl
 | o::rest,a=>by rw[fill,jQ f rest];cases o.dst <;> rfl
theorem oa (f:Tmp->Value):∀(l:List Oper) (a:Act),(fill f l a).tmps.size=a.tmps.size
 | [],_=>rfl
 | o::rest,a=>by rw[fill,oa f rest];cases o.dst <;> simp[Act.put]
theorem qQ (f:Tmp->Value):∀(l:List Oper) (a:Act) (t:Nat),t < a.tmps.size->(fill f l a).tmps[t]?=if (∃o∈l,o.dst=some t)then some (f t)else a.tmps[t]?
 | [],_,_,_=>by simp[fill]
 | o::rest,a,t,ht=>by
   rw[fill,qQ f rest _ t (by cases o.dst <;> simpa [Act.put] using ht)];by_cases h1:∃o'∈rest,o'.dst=some t
   ·rw[if_pos h1,if_pos (by obtain⟨o',h,e⟩:=h1;exact⟨o',mem_cons_of_mem _ h,e⟩)]
   ·rw[if_neg h1];by_cases h2:o.dst=some t
    ·rw[if_pos ⟨o,mem_cons_self,h2⟩,h2];simp[Act.put,ht]
    ·rw[if_neg (by rintro⟨o',h,e⟩;rcases List.mem_cons.1 h with rfl | h;exact h2 e;exact h1 ⟨o',h,e⟩)];cases hd:o.dst with
     | none=>rfl
     | some d=>simp[Act.put,Array.getElem?_setIfInBounds_ne (show d≠t from λ e=>h2 (by rw[hd,e]))]
theorem xx {K:Act->World->Prop} {w:World}(f:Tmp->Value):∀(L:List Oper) (k:Nat) (a:Act),(∀i o d,L[i]?=some o->o.dst=some d->V (k+i) w (f d))->bF V K L k a w->K (fill f L a) w
 | [],_,_,_,h=>h
 | o::rest,k,a,hv,h=>by
   rw[fill];have Km:∀i o' d,rest[i]?=some o'->o'.dst=some d->V (k+1+i) w (f d):=λ i o' d h1 h2=>by have:=hv (i+1) o' d (by simpa using h1) h2;rwa [show k+(i+1)=k+1+i by omega] at this
   unfold bF at h;cases hd:o.dst with
   | none=>simp only[hd] at h;exact xx f rest (k+1) a Km h
   | some d=>simp only[hd] at h;exact xx f rest (k+1) _ Km (h _ (by have:=hv 0 o d rfl hd;simpa using this))
theorem qR {ops:Array Oper} {listed:Array Bool} {i:Nat} {o:Oper}(ho:ops[i]?=some o)(hu:listed.getD i true=false)(hall:∀j∈eY o,listed.getD j false=true):i∈Region.ready .any ops listed:=
 mem_ready.2 ⟨hu,o,ho,λ e he hb=>hall _ (js.2 ⟨e,he,hb,rfl⟩)⟩
theorem et {listed:Array Bool} {i:Nat}(h:i < listed.size):listed.getD i true=listed.getD i false:=by simp[h]
theorem qT {N:Nat}(bh:dO l N l 0=true)(hz:eK (l++zs) zs l.length=true):∀(k:Nat) (rest:List Oper),zs.drop k=rest->∀(listed:Array Bool) (a:Act) (w:World),listed.size=(l++zs).length->
  (∀i,i <(l++zs).length->(listed.getD i false=true↔i < l.length+k))->wpList P (l++zs).toArray Q rest a w->wpAny P .any (l++zs).toArray Q rest.length listed a w
 | k,[],hk,listed,a,w,hs,hl,h=>by
   refine⟨?_,h⟩;have hlen:zs.length<=k:=List.drop_eq_nil_iff.1 hk;rw[eq_nil_iff_forall_not_mem];intro i hi;obtain⟨hu,o,ho,_⟩:=mem_ready.1 hi;have Kl:i <(l++zs).length:=by
    rcases Nat.lt_or_ge i (l++zs).length with h' | h'
    ·exact h'
    ·rw[Array.getElem?_eq_none (by simpa using h')] at ho;cases ho
   rw[et WC] at hu;have:=(hl i Kl).2 (by simp at Kl;omega);rw[hu] at this;cases this
 | k,o::rest,hk,listed,a,w,hs,hl,h=>by
   have P9:zs[k]?=some o:=by have:=congrArg (λ x=>x[0]?) hk;simpa using this
   have ajv:k < zs.length:=by
    rcases Nat.lt_or_ge k zs.length with h' | h'
    ·exact h'
    ·rw[getElem?_eq_none h'] at P9;cases P9
   have Bc:(l++zs)[l.length+k]?=some o:=by rw[getElem?_append_right WC];simpa using P9
   have EW:zs.drop (k+1)=rest:=by rw[<- tail_drop,hk];rfl
   have ht:=iG hz k o P9;have ajw:∀j∈eY o,listed.getD j false=true:=λ j Lw=>by have:=of_decide_eq_true (List.all_eq_true.1 ht.1 j Lw);exact(hl j Tab).2 this
   have V9:listed.getD (l.length+k) true=false:=by
    rw[et (by rw[hs];simp;omega)];cases hc:listed.getD (l.length+k) false with
    | false=>rfl
    | true=>exact absurd ((hl _ Tab).1 hc) WC
   have iP:l.length+k∈Region.ready .any (l++zs).toArray listed:=qR (by simpa using Bc) V9 ajw;refine⟨(λ h0=>by rw[h0] at iP;cases iP),λ i hi=>?_⟩;obtain⟨hu,oj,hoi,hall⟩:=mem_ready.1 hi;have Kl:i <(l++zs).length:=by
    rcases Nat.lt_or_ge i (l++zs).length with h' | h'
    ·exact h'
    ·rw[Array.getElem?_eq_none (by simpa using h')] at hoi;cases hoi
   rw[et WC] at hu;have ayp:l.length+k<=i:=by
    rcases Nat.lt_or_ge i (l.length+k)with h' | h'
    ·have:=(hl i Kl).2 h';rw[hu] at this;cases this
    ·exact h'
   have hik:i=l.length+k:=by
    rcases Nat.lt_or_ge (l.length+k) i with h' | h'
    ·exfalso;have X0:zs[i - l.length]?=some oj:=by
      have:(l++zs)[i]?=some oj:=by simpa using hoi
      rw[getElem?_append_right WC] at this;exact this
     have Rp:=iG hz (i - l.length) oj X0;rw[show l.length+(i - l.length)=i by omega] at Rp;have hc:=iH (L:=l++zs) (λ j=>j <(l++zs).length->listed.getD j false=true) (by
      intro j Kx Lw hdone e he hlt
      have ajx:j <(l++zs).length:=by
       rcases Nat.lt_or_ge j (l++zs).length with h' | h'
       ·exact h'
       ·rw[getElem?_eq_none h'] at Lw;cases Lw
      have vw:=(hl j ajx).1 (hdone ajx)
      by_cases hjz:l.length<=j
      ·have KK:zs[j - l.length]?=some Kx:=by rw[getElem?_append_right WC] at Lw;exact Lw
       have:=of_decide_eq_true (List.all_eq_true.1 (iG hz (j - l.length) Kx KK).1 e he)
       exact(hl e hlt).2 WC
      ·have hj:l[j]?=some Kx:=by rw[getElem?_append_left WC] at Lw;exact Lw
       have qP:=cH bh j Kx hj
       simp only[lN,Bool.and_eq_true,Nat.zero_add] at qP
       have:=of_decide_eq_true (List.all_eq_true.1 qP.1.1.1 e he)
       exact(hl e hlt).2 WC) i (eY oj) Rp.2 (by
      intro j Lw hlt
      obtain⟨e,he,hb,rfl⟩:=js.1 Lw
      exact hall e he hb) (l.length+k) h' Tab
     exact absurd ((hl _ Tab).1 hc) WC
    ·omega
   subst hik;have ho:(l++zs).toArray[l.length+k]?=some o:=by simpa using Bc
   have hw:wpOp P (l++zs).toArray Q (l.length+k) (wpList P (l++zs).toArray Q rest) a w:=by unfold wpOp;rw[ho];unfold wpList at h;exact h
   refine wpOp_mono (λ a' w' h'=>qT bh hz (k+1) rest EW _ a' w' (by simp[hs]) ?_ h') hw;intro i hi;rw[eG _ _ _ (by rw[hs];simp;omega)];by_cases Xq:i=l.length+k
   ·rw[if_pos Xq];exact⟨λ _=>by omega,λ _=>rfl⟩
   ·rw[if_neg Xq,hl i hi];omega
theorem br (n i:Nat):(Array.replicate n false).getD i false=false:=by simp only[Array.getD_eq_getD_getElem?,Array.getElem?_replicate];split <;> rfl
theorem Aw {a b:Act}(h1:a.tmps=b.tmps)(h2:a.defers=b.defers):a=b:=by cases a;cases b;simp_all
theorem zgS.KbD(h:p:=by rw[<- ha] at hK;exact Zby):p:=h
theorem zcE.Kav(h:p:=by open zgS in exact Zek):p:=h
theorem Kn {N:Nat}(bh:dO l N l 0=true)(hz:eK (l++zs) zs l.length=true)(hf:∀w,R w0 w->bF V (λ a w=>wpList P (l++zs).toArray Q zs a w) l 0 a0 w) {listed:Array Bool} {a:Act} {w:World}(I:Inv l V R a0 w0 (l++zs).length listed a w)
  (h0:bA l.length listed=0):wpAny P .any (l++zs).toArray Q zs.length listed a w:=by
 open zcE in exact ZaO
theorem zal.KW(h:p:=by
 have hst:=Kk hs i oj vy;rw[Nat.zero_add] at hst;have fy:=Inv.reads bh I vy Bf eZ (tmpsOf oj) (λ _ h=>h);have hstep:=hst a.eval w (mQ a) I.r fy;have Ko:∀v w',R w w'->V i w' v->wpAny P .any (l++zs).toArray Q fuel (listed.setIfInBounds i true) (a.put oj.dst v) w':=by intro v w' hr hv;refine ih _ _ _ (I.step bh hV Bd vy zK Bf eZ hr hv) ?_;have:=ll l.length listed i Tbf ui Bf;omega
 unfold wpOp;rw[oV];show if Region.wanted oj (yielded (l++zs).toArray a.tmps)=true then _ else _
 cases hg:oj.guard with
 | none=>rw[if_pos (by simp[Region.wanted,hg])];simp only[hg] at hstep;exact .inl (jt hstep λ v w' h=>Ko v w' h.1 h.2)
 | some g=>
   obtain⟨k,want⟩:=g;simp only[hg] at hstep;have qP:=cH bh i oj vy;simp only[lN,hg,Bool.and_eq_true,Nat.zero_add] at qP;have Ax:listed.getD k false=true:=eZ k (cM.1 qP.2.1)
   cases hd:(l[k]?).bind (·.dst)with
   | none=>simp only[hd] at hstep
   | some d=>
     simp only[hd] at hstep
     obtain⟨ok,tH,hdk⟩:∃ok,l[k]?=some ok/\ok.dst=some d:=by
      cases hlk:l[k]? with
      | none=>rw[hlk] at hd;cases hd
      | some ok=>rw[hlk] at hd;exact⟨ok,rfl,hd⟩
     have hyv:=I.new k ok d tH Ax hdk;obtain⟨h1,h2⟩:=hstep hyv;have Xp:=cH bh k ok tH;simp only[lN,hdk,Bool.and_eq_true,decide_eq_true_eq,Nat.zero_add] at Xp;have aqI:d < a.tmps.size:=by rw[I.size];exact Xp.1.1.2.1
     have Bg:yielded (l++zs).toArray a.tmps k=match a.eval (.tmp d)with | .bool b=>some b | _=>none:=by unfold yielded;rw[nZ tH];simp only[Option.bind_some,hdk,Act.eval,Array.getD_eq_getD_getElem?,Array.getElem?_eq_getElem aqI,Option.getD_some];cases a.tmps[d] <;> rfl
     by_cases yQ:a.eval (.tmp d)=.bool want
     ·rw[if_pos (by simp[Region.wanted,hg,Bg,yQ])];exact .inl (jt (h1 yQ) λ v w' h=>Ko v w' h.1 h.2)
     ·rw[if_neg (by
       simp only[Region.wanted,hg,Bg]
       intro hc
       apply yQ
       cases hv:a.eval (.tmp d)<;> rw[hv] at hc <;> simp at hc
       rw[hc])]
      exact Ko undef w (hrefl w) (h2 yQ)):p:=h
theorem fu {id:Nat} {ops:List Oper}(zs:List Oper)(l:List Oper)(kG:ops=l++zs)(R:World->World->Prop)(hrefl:∀w,R w w)(Bd:∀a b c,R a b->R b c->R a c)(od:∀w,R w w.drew)
  (V:Nat->World->Value->Prop) (hV:∀Kx w w' v,V Kx w v->R w w'->V Kx w' v) (hm:P.follows .mixedOrders=true) (bh:dO l a0.tmps.size l 0=true) (hz:eK (l++zs) zs l.length=true)
  (hs:Steps P l R V a0 w0 l 0) (hf:∀w,R w0 w->bF V (λ a w=>wpList P ops.toArray Q zs a w) l 0 a0 w):(Code.region id ops.toArray true).wp P Q a0 w0:=by
 subst kG
 have main:∀(fuel:Nat) (listed:Array Bool) (a:Act) (w:World),Inv l V R a0 w0 (l++zs).length listed a w->fuel=bA l.length listed+zs.length->wpAny P .any (l++zs).toArray Q fuel listed a w:=by
  intro fuel
  induction fuel with
  | zero=>
    intro listed a w I hfu;have h0:bA l.length listed=0:=by omega
    have hz0:zs.length=0:=by omega
    have:=Kn bh hz hf I h0;rwa [hz0] at this
  | succ fuel ih=>
    intro listed a w I hfu;by_cases h0:bA l.length listed=0
    ·have:=Kn bh hz hf I h0;exact Zf4
    ·open zal in exact Zae
 refine wp_region_any hm ?_;have h0:R w0 w0.drew:=od w0;have:=main (l++zs).toArray.size (Array.replicate (l++zs).toArray.size false) a0 w0.drew ⟨h0,rfl,rfl,λ _ _=>rfl,(λ Kx o d _ h=>by rw[br] at h;cases h),(λ Kx o _ h=>by rw[br] at h;cases h),by simp,λ Kx _=>br _ _⟩ (by
  have:bA l.length (Array.replicate (l++zs).toArray.size false)=l.length:=by
   unfold bA
   rw[List.filter_eq_self.2 (λ Kx _=>by rw[br];rfl),length_range]
  rw[this];simp)
 exact this
end
structure Ext (B:Nat) (w0:World) where
 w:World
 h:Below B w0 w
instance (B:Nat) (w0:World):Nonempty (Ext B w0):=⟨⟨w0,Below.refl _ _⟩⟩
variable{B:Nat}
theorem Ext.cell(x:Ext B w0) {p:Addr}(hp:p.block < B):x.w.cell? p=w0.cell? p:=x.h.cell hp
variable{C:World->Prop}
theorem uj{ops:Array Oper}  {Q:Act->Prop}:∀(l:List Oper) (a:Act),wpQuiet P ops C Q l a->
  ∃vs:List Value,vs.length=l.length/\
   (∀i o,l[i]?=some o->∃v,vs[i]?=some v/\
     ((Region.wanted o (yielded ops ((l.take i).zip vs |>.foldl (λ b ov=>b.put ov.1.dst ov.2) a).tmps)=true/\∀w,C w->o.quietAt P ((l.take i).zip vs |>.foldl (λ b ov=>b.put ov.1.dst ov.2) a) C w v)\/
      (Region.wanted o (yielded ops ((l.take i).zip vs |>.foldl (λ b ov=>b.put ov.1.dst ov.2) a).tmps)=false/\v=undef)))/\
   Q ((l.zip vs).foldl (λ b ov=>b.put ov.1.dst ov.2) a)
 | [],a,h=>⟨[],rfl,λ i o ho=>by simp at ho,h⟩
 | o::l,a,h=>by
   unfold wpQuiet at h;by_cases hw:Region.wanted o (yielded ops a.tmps)=true
   ·rw[if_pos hw] at h;obtain⟨v,hv,hn⟩:=h;obtain⟨vs,hl,hall,hq⟩:=uj l _ hn;refine⟨v::vs,by simp[hl],λ i o' Bh=>?_,by simpa using hq⟩
    match i with
    | 0=>simp at Bh;subst Bh;exact⟨v,rfl,.inl ⟨by simpa using hw,by simpa using hv⟩⟩
    | i+1=>obtain⟨v',h1,h2⟩:=hall i o' (by simpa using Bh);exact⟨v',by simpa using h1,by simpa using h2⟩
   ·rw[if_neg hw] at h;obtain⟨vs,hl,hall,hq⟩:=uj l _ h;refine⟨undef::vs,by simp[hl],λ i o' Bh=>?_,by simpa using hq⟩
    match i with
    | 0=>simp at Bh;subst Bh;exact⟨undef,rfl,.inr ⟨by simpa using hw,rfl⟩⟩
    | i+1=>obtain⟨v',h1,h2⟩:=hall i o' (by simpa using Bh);exact⟨v',by simpa using h1,by simpa using h2⟩
variable{l:List Oper}{vs:List Value}
theorem tX{k:Nat}  {v:Value}(hl:vs.length=l.length)(ho:l[k]?=some o)(hv:vs[k]?=some v):((l.take (k+1)).zip vs)=((l.take k).zip vs)++ [(o,v)]:=by
 have hk:k < l.length:=by exact ZgG
 rw[take_add_one,ho]
 have e1:vs=vs.take k++v::vs.drop (k+1):=by
  conv=>lhs;rw[<- take_append_drop k vs]
  congr 1;rw[drop_eq_getElem_cons WC];congr 1;rw[getElem?_eq_getElem WC] at hv;injection hv
 have hlen:(l.take k).length=(vs.take k).length:=by simp;omega
 conv=>lhs;rw[e1]
 rw[zip_append hlen]
 have e2:(l.take k).zip vs=(l.take k).zip (vs.take k):=by
  conv=>lhs;rw[<- take_append_drop k vs]
  have h0:(l.take k++ []).zip (vs.take k++vs.drop k)=(l.take k).zip (vs.take k)++([]:List Oper).zip (vs.drop k):=zip_append hlen;simpa using h0
 rw[e2];simp
theorem EX{a:Act}(bh:dO l a.tmps.size l 0=true)(hl:vs.length=l.length):∀(k:Nat),k<=l.length->
  (((l.take k).zip vs).foldl (λ b ov=>b.put ov.1.dst ov.2) a).tmps.size=a.tmps.size/\
  (∀j oj d v,j < k->l[j]?=some oj->oj.dst=some d->vs[j]?=some v->(((l.take k).zip vs).foldl (λ b ov=>b.put ov.1.dst ov.2) a).tmps[d]?=some v)/\
  (∀t,(∀j oj,j < k->l[j]?=some oj->oj.dst≠some t)->(((l.take k).zip vs).foldl (λ b ov=>b.put ov.1.dst ov.2) a).tmps[t]?=a.tmps[t]?)
 | 0,_=>by simp
 | k+1,hk=>by
   obtain⟨h1,h2,h3⟩:=EX bh hl k WC;obtain⟨o,ho⟩:∃o,l[k]?=some o:=⟨l[k]' WC,getElem?_eq_getElem WC⟩;obtain⟨v,hv⟩:∃v,vs[k]?=some v:=⟨vs[k]' WC,getElem?_eq_getElem WC⟩;have e:=tX hl ho hv;rw[e,foldl_append];generalize ((l.take k).zip vs).foldl (λ b ov=>b.put ov.1.dst ov.2) a=b at*;have ju:=cH bh k o ho;rw[Nat.zero_add] at ju;simp only[foldl_cons,foldl_nil];refine⟨?_,?_,?_⟩
   ·cases hd:o.dst <;> simp[Act.put,h1]
   ·intro j oj d v' Kx hj hd hv';by_cases Ts:j=k
    ·subst Ts;rw[ho] at hj;injection hj with hj;subst hj
     rw[hv] at hv';injection hv' with hv';subst hv'
     simp only[lN,hd,Bool.and_eq_true,decide_eq_true_eq] at ju;have hb:d < b.tmps.size:=by rw[h1];exact ju.1.1.2.1
     simp[hd,Act.put,hb]
    ·have hold:=h2 j oj d v' WC hj hd hv';cases hdo:o.dst with
     | none=>exact hold
     | some d'=>
       have hne:d'≠d:=by intro e';subst e';have qP:=cH bh j oj hj;simp only[lN,hd,Bool.and_eq_true,Nat.zero_add,beq_iff_eq] at qP;simp only[lN,hdo,Bool.and_eq_true,beq_iff_eq] at ju;rw[qP.1.1.2.2] at ju;have:=ju.1.1.2.2;injection this with this;exact Ts this
       simp only[Act.put,Array.getElem?_setIfInBounds_ne hne];exact hold
   ·intro t ht;have hold:=h3 t (λ j oj Kx hj=>ht j oj WC hj);cases hdo:o.dst with
    | none=>exact hold
    | some d'=>
      have hne:d'≠t:=λ e'=>ht k o WC ho (by rw[hdo,e'])
      simp only[Act.put,Array.getElem?_setIfInBounds_ne hne];exact hold
variable{ρ:Operand->Value}
theorem qU{a:Act}  {w:World} {v:Value} (Xr:∀cs b,o.op≠ .select cs b)(he:∀x∈o.op.operands,ρ x=a.eval x)(hC:C w)
  (h:o.quietAt P a C w v):zJ P o ρ w λ v' w'=>(C w->C w')/\v'=v:=by
 unfold Oper.quietAt at h;unfold zJ;rw[execOp_congr o Xr he];generalize (execOp a.eval o).run P w=r at*
 cases r with
 | ok n w'=>
   cases n <;> simp only[Oper.quietUpon] at h;case value u=>obtain⟨rfl,rfl⟩:=h;exact⟨id,rfl⟩
   case skip=>obtain⟨rfl,rfl⟩:=h;exact⟨id,rfl⟩
   case enter f args=>obtain⟨rfl,hc⟩:=h;exact hc.mono λ e w'' ⟨he,hc'⟩=>⟨v,he,λ _=>hc',rfl⟩
 | halt x w'=>simp only[Oper.quietUpon] at h
theorem NU:t∈tmpsOf o↔Operand.tmp t∈o.op.operands:=by
 unfold tmpsOf;simp only[mem_filterMap,Array.mem_toList_iff];constructor
 ·rintro⟨x,hx,h⟩;cases x <;> simp at h;subst h;exact hx
 ·intro h;exact⟨_,h,rfl⟩
variable{ρ0:Operand->Value}
theorem EY{w:World} :∀ {ts:List Tmp},lO l V ρ0 ρ w o ts->∀t∈ts,match cY l o t with | some j=>V j w (ρ (.tmp t))| none=>ρ (.tmp t)=ρ0 (.tmp t)
 | [],_,t,h=>by cases h
 | x::ts,hr,t,h=>by
   rcases List.mem_cons.1 h with rfl | h
   ·exact hr.1
   ·exact EY hr.2 t h
def adm (l:List Oper):Bool:=l.all λ o=>match o.op with | .select _ _=>false | _=>true
variable{id:Nat}{ops:List Oper}
theorem ziI.Kcm(h:p:=by
 refine⟨?_,ih (k+1) (by rw[<- tail_drop,hk];rfl)⟩;intro ρ w hc hR hr;have hCw:C w:=hR hC0;obtain⟨v,hv,Xs⟩:=hall k o Hi;obtain⟨f1,f2,f3⟩:=EX bh hl k WC;have ju:=cH bh k o Hi;rw[Nat.zero_add] at ju;have ajy:∀cs b,o.op≠ .select cs b:=by intro cs b e;have:=List.all_eq_true.1 Xr o (mem_of_getElem? Hi);rw[e] at this;cases this
 have gD:∀x∈o.op.operands,ρ x=(((l.take k).zip vs).foldl (λ b ov=>b.put ov.1.dst ov.2) a0).eval x:=by
  intro x hx
  cases x with
  | const v=>rw[hc.const];rfl
  | global g=>rw[hc.global];rfl
  | func f=>rw[hc.func];rfl
  | tmp t=>
    have hmt:=NU.2 hx;have hrt:=EY hr t hmt;simp only[lN,Bool.and_eq_true] at ju;have hot:=List.all_eq_true.1 ju.1.2 t hmt;unfold cY at hrt
    cases hs:gF t l 0 with
    | none=>simp only[hs] at hrt;rw[hrt];refine(mR (f3 t ?_)).symm;intro KK Kx _ oV hd;obtain⟨j',hj'⟩:=oU (k:=0) oV hd;rw[hs] at hj';cases hj'
    | some KK=>
      obtain⟨j',Kx,e,hj,hd⟩:=qO hs;rw[Nat.zero_add] at e;subst e;simp only[hs] at hrt hot;by_cases he:ir o KK=true
      ·simp only[he,if_true] at hrt;have hjk:KK < k:=of_decide_eq_true (List.all_eq_true.1 ju.1.1.1 KK (cM.1 he));have:=f2 KK Kx t _ hjk hj hd hrt;simp[Act.eval,this]
      ·rw[Bool.not_eq_true] at he;simp only[he,Bool.false_or,hj] at hot hrt;have aqL:ρ (.tmp t)=a0.eval (.tmp t):=by simpa using hrt
       rw[aqL];refine(mR (f3 t ?_)).symm;intro j oi hik hoi hdi;have vz:=cH bh j oi hoi;simp only[lN,hdi,Bool.and_eq_true,Nat.zero_add,beq_iff_eq] at vz;have kY:j=KK:=by have:=vz.1.1.2.2;rw[hs] at this;injection this with this;exact this.symm
       subst kY;rw[hj] at hoi;injection hoi with hoi;subst hoi;have qP:=cH bh j Kx hj;simp only[lN,Bool.and_eq_true,Nat.zero_add] at qP;have:=of_decide_eq_true (List.all_eq_true.1 qP.1.1.1 k (cM.1 hot));omega
 have hT:zJ P o ρ w (λ v' w'=>(C w->C w')/\v'=v)->zJ P o ρ w (λ v' w'=>(C w->C w')/\vs[k]?=some v'):=by
  unfold zJ;intro h';generalize (execOp ρ o).run P w=r at*
  cases r with
  | ok n w'=>
    cases n <;> first | exact⟨h'.1,by rw[h'.2];exact hv⟩| exact h'.elim | skip
    exact h'.mono λ e w'' ⟨u,h1,h2,h3⟩=>⟨u,h1,h2,by rw[h3];exact hv⟩
  | halt x w'=>exact h'.elim
 cases hg:o.guard with
 | none=>
   rcases Xs with ⟨_,hqa⟩|⟨hw,_⟩
   ·exact hT (qU ajy gD hCw (hqa w hCw))
   ·simp[Region.wanted,hg] at hw
 | some g=>
   obtain⟨KK,want⟩:=g;simp only[lN,hg,Bool.and_eq_true] at ju;have hjk:KK < k:=of_decide_eq_true (List.all_eq_true.1 ju.1.1.1 KK (cM.1 ju.2.1));obtain⟨Kx,oV⟩:∃Kx,l[KK]?=some Kx:=⟨l[KK]' WC,getElem?_eq_getElem WC⟩;have Xt:=ju.2.2;rw[oV] at Xt;obtain⟨d,hd⟩:=Option.isSome_iff_exists.1 Xt;simp only[oV,Option.bind_some,hd];intro hyv;have ajz:=f2 KK Kx d _ hjk oV hd hyv;have Bg:yielded (l++zs).toArray (((l.take k).zip vs).foldl (λ b ov=>b.put ov.1.dst ov.2) a0).tmps KK=match ρ (.tmp d)with | .bool b=>some b | _=>none:=by unfold yielded;rw[nZ oV];simp only[Option.bind_some,hd,ajz];cases ρ (.tmp d)<;> rfl
   constructor
   ·intro yQ;rcases Xs with ⟨_,hqa⟩|⟨hw,_⟩
    ·exact hT (qU ajy gD hCw (hqa w hCw))
    ·simp[Region.wanted,hg,Bg,yQ] at hw
   ·intro yQ;rcases Xs with ⟨hw,_⟩|⟨_,hu⟩
    ·exfalso;simp only[Region.wanted,hg,Bg] at hw;apply yQ;cases NV:ρ (.tmp d)<;> rw[NV] at hw <;> simp at hw;rw[hw]
    ·rw[<- hu];exact hv):p:=h
theorem ziJ.Kcm(h:p:=by
 have hstep:∀v,vs[k]?=some v->((l.take (k+1)).zip vs).foldl (λ b ov=>b.put ov.1.dst ov.2) a0=(((l.take k).zip vs).foldl (λ b ov=>b.put ov.1.dst ov.2) a0).put o.dst v:=by intro v hv;rw[tX hl Hi hv,foldl_append];rfl
 have EW:=ih (k+1) (by rw[<- tail_drop,hk];rfl) WC;unfold bF
 cases hd:o.dst with
 | none=>simp only;obtain⟨v,hv⟩:∃v,vs[k]?=some v:=⟨vs[k]' WC,getElem?_eq_getElem WC⟩;rw[hstep v hv,hd] at EW;exact EW
 | some d=>simp only;intro v hv;rw[hstep v hv,hd] at EW;exact EW):p:=h
theorem Kq(zs:List Oper)(l:List Oper)(kG:ops=l++zs)(C:World->Prop)(hC0:C w0)(od:∀w,C w->C w.drew)
  (hm:P.follows .mixedOrders=true) (Xr:adm l=true) (bh:dO l a0.tmps.size l 0=true) (hz:eK (l++zs) zs l.length=true)
  (h:wpQuiet P ops.toArray C (λ a=>∀w,C w->wpList P ops.toArray Q zs a w) l a0):(Code.region id ops.toArray true).wp P Q a0 w0:=by
 subst kG;obtain⟨vs,hl,hall,hq⟩:=uj l a0 h;refine fu zs l rfl (λ w w'=>C w->C w') (λ _ h=>h) (λ _ _ _ h1 h2 h=>h2 (h1 h)) (λ w h=>od w h) (λ j _ v=>vs[j]?=some v) (λ _ _ _ _ h _=>h) hm bh hz ?_ ?_
 ·have key:∀(k:Nat) (rest:List Oper),l.drop k=rest->Steps P l (λ w w'=>C w->C w') (λ j _ v=>vs[j]?=some v) a0 w0 rest k:=by
   intro k rest
   induction rest generalizing k with
   | nil=>intro _;trivial
   | cons o rest ih=>intro hk;open ziI in exact Zgh
  exact key 0 l rfl
 ·intro w hR;have hCw:C w:=hR hC0
  have key:∀(k:Nat) (rest:List Oper),l.drop k=rest->k<=l.length->bF (λ j _ v=>vs[j]?=some v) (λ a w=>wpList P (l++zs).toArray Q zs a w) rest k (((l.take k).zip vs).foldl (λ b ov=>b.put ov.1.dst ov.2) a0) w:=by
   intro k rest
   induction rest generalizing k with
   | nil=>intro hk Ax;have:l.length<=k:=List.drop_eq_nil_iff.1 hk;have e:l.take k=l:=take_of_length_le this;rw[e];exact hq w hCw
   | cons o rest ih=>intro hk Ax;open ziJ in exact Zgh
  have:=key 0 l rfl WC;exact Zfa
theorem aD{w:World}  (k B:Nat)(w0:World)(hb:Below B w0 w)(hm:P.follows .mixedOrders=true)(Xr:adm (ops.take k)=true)
  (bh:dO (ops.take k) a0.tmps.size (ops.take k) 0=true) (hz:eK ops (ops.drop k) (ops.take k).length=true)
  (h:wpQuiet P ops.toArray (λ w'=>∃x:Ext B w0,w'=x.w) (λ a=>∀w,(∃x:Ext B w0,w=x.w)->wpList P ops.toArray Q (ops.drop k) a w) (ops.take k) a0):(Code.region id ops.toArray true).wp P Q a0 w:=
 Kq (ops.drop k) (ops.take k) (take_append_drop k ops).symm (λ w'=>∃x:Ext B w0,w'=x.w) ⟨⟨w,hb⟩,rfl⟩ (λ w' ⟨x,e⟩=>⟨⟨w'.drew,by rw[e];exact x.h.drew⟩,rfl⟩) hm Xr bh TaM h
variable{f:FuncId}
theorem aB{args:Array Value}   {x:Ext B w0} {v:Value}(hB:B<=w0.heap.size)
  (h:Calls P f args x.w λ e w'=>e=.returned v/\Below x.w.heap.size x.w w'):Calls P f args x.w λ e w''=>e=.returned v/\∃x:Ext B w0,w''=x.w:=
 h.mono λ _ _ ⟨he,hb⟩=>⟨he,⟨_,x.h.trans (hb.mono (Nat.le_trans hB x.h.size))⟩,rfl⟩
theorem dh{args:Array Value}   {x:Ext B w0} {v:Value}
  (h:Calls P f args x.w λ e w'=>e=.returned v/\x.w=w'):Calls P f args x.w λ e w''=>e=.returned v/\∃x:Ext B w0,w''=x.w:=
 h.mono λ _ _ ⟨he,hb⟩=>⟨he,x,hb.symm⟩
def ai (w w':World):Prop:=aj w w'
theorem ai.refl (w:World):ai w w:=Below.refl _ _
variable{a b:World}
theorem ai.trans{c:World}(h:ai a b)(k:ai b c):ai a c:=Below.trans h (Below.mono k h.size)
theorem ai.drew (w:World):ai w w.drew:=(Below.refl _ _).drew
theorem bC(k:Nat)(V:Nat->World->Value->Prop)(hV:∀i w w' v,V i w v->ai w w'->V i w' v)(hm:P.follows .mixedOrders=true)
  (bh:dO (ops.take k) a0.tmps.size (ops.take k) 0=true) (hz:eK ops (ops.drop k) (ops.take k).length=true)
  (hs:Steps P (ops.take k) ai V a0 w0 (ops.take k) 0) (hf:∀w,ai w0 w->bF V (λ a w=>wpList P ops.toArray Q (ops.drop k) a w) (ops.take k) 0 a0 w):(Code.region id ops.toArray true).wp P Q a0 w0:=
 fu (ops.drop k) (ops.take k) (take_append_drop k ops).symm ai ai.refl (λ _ _ _=>ai.trans) ai.drew V hV hm bh TaM hs hf
section
variable {P:Program} {o:Oper} {ρ:Operand->Value} {w:World} {T:Value->World->Prop}
theorem aq {v:Value} {w':World}(h:(execOp ρ o).run P w=.ok (.value v) w')(hT:T v w'):zJ P o ρ w T:=by unfold zJ;rw[h];exact hT
theorem Kr {w':World}(h:(execOp ρ o).run P w=.ok .skip w')(hT:T undef w'):zJ P o ρ w T:=by unfold zJ;rw[h];exact hT
theorem bD {f:FuncId} {args:Array Value} {w':World}(h:(execOp ρ o).run P w=.ok (.enter f args) w')(hc:Calls P f args w' λ e w''=>∃v,e=.returned v/\T v w''):zJ P o ρ w T:=by unfold zJ;rw[h];exact hc
theorem iQ {x:Operand} {v:Value}(ho:o.op=.move x\/o.op=.assign x)(hx:ρ x=v)(hT:T v w):zJ P o ρ w T:=by
 refine aq (v:=v) (w':=w) ?_ hT;rcases ho with ho | ho <;> simp[execOp,ho,hx]
end
open Go.ChangeShapes Go.WideShapes Go.ChangeAt
set_option linter.unusedVariables false
def lQ (a b:Int):Int:=if a < b then -1 else if b < a then 1 else 0
theorem aeW (a b:Int)(w:World):ar 48 #[ag a,ag b] w λ e w'=>e=.returned (af (lQ a b))/\w=w':=by
 unfold lQ;by_cases h1:a < b
 ·exact Zhu
 ·by_cases h2:b < a
  ·exact Zhu
  ·exact Zhu
theorem X5 (a b:Int)(w:World):ar 49 #[af a,af b] w λ e w'=>e=.returned (af (lQ a b))/\w=w':=by
 unfold lQ;by_cases h1:a < b
 ·exact Zhv
 ·by_cases h2:b < a
  ·exact Zhv
  ·exact Zhv
def lq (a b:ByteArray):Int:=if Op.bytesLess a.toList b.toList=true then -1 else if (a.toList==b.toList)=true then 0 else 1
theorem X6 (a b:ByteArray)(w:World):ar 50 #[.string a,.string b] w λ e w'=>e=.returned (af (lq a b))/\w=w':=by
 unfold lq;cases h1:Op.bytesLess a.toList b.toList
 ·cases h2:(a.toList==b.toList)
  ·exact Zhw
  ·exact Zhw
 ·exact Zhw
def X7 (x y z:Int):Int:=if x=0 then(if y=0 then z else y)else x
def oN (x y:Int):Int:=if x=0 then y else x
theorem Xu (x y z:Int)(w:World):ar 47 #[aF w.heap.size 3 3] (w.alloc (.cells #[af x,af y,af z] 3)) λ e w'=>
  e=.returned (af (X7 x y z))/\w'=w.alloc (.cells #[af x,af y,af z] 3):=by
 unfold X7;have q1:∀u:Int,u≠0->((u != 0)=true):=λ u h=>by simp[h]
 by_cases h1:x=0
 ·subst h1;by_cases h2:y=0
  ·subst h2;by_cases h3:z=0
   ·subst h3;go_enter Tryz.func47,Tryz.ntmps47;go_wp2;refine wp_loop_rounds 4 ?_;iterate 4 (rw[rounds_succ];go_wp2)
    exact ZbN
   ·have:=q1 z h3;go_enter Tryz.func47,Tryz.ntmps47;go_wp2;refine wp_loop_rounds 4 ?_;iterate 3 (rw[rounds_succ];go_wp2)
    exact ZbN
  ·have:=q1 y h2;go_enter Tryz.func47,Tryz.ntmps47;go_wp2;refine wp_loop_rounds 4 ?_;iterate 2 (rw[rounds_succ];go_wp2)
   exact ZbN
 ·have:=q1 x h1;go_enter Tryz.func47,Tryz.ntmps47;go_wp2;refine wp_loop_rounds 4 ?_;rw[rounds_succ];exact Zgl
structure Val where
 k:Int
 n:Int
 s:ByteArray
abbrev aH (v:Val):Array Value:= #[.int .u8 v.k,.int .i64 v.n,.string v.s]
def bQ (a b:Val):Int:=X7 (lQ a.k b.k) (lQ a.n b.n) (lq a.s b.s)
theorem ed (a b:Val)(w:World):ar 18 #[.agg (aH a),.agg (aH b)] w λ e w'=>
  e=.returned (af (bQ a b))/\aj w w':=by
 obtain⟨ak,an,ax⟩:=a;obtain⟨bk,bn,bx⟩:=b;go_enter Tryz.func18,Tryz.ntmps18;go_wp2_with fail
 have hc:∀(x9:Ext (w.heap.size+2) ((w.alloc (.cells #[ag ak,af an,.string ax] 44)).alloc (.cells #[ag bk,af bn,.string bx] 44))) (i:Nat),x9.w.cell? ⟨w.heap.size,i,none⟩= #[Value.int .u8 ak,af an,.string ax][i]?/\x9.w.cell? ⟨w.heap.size+1,i,none⟩= #[Value.int .u8 bk,af bn,.string bx][i]?:=by
  intro x9 i;refine⟨?_,?_⟩
  ·rw[x9.cell Tac];simp
  ·rw[x9.cell Tac];simp
 have c0:=λ x9=>(hc x9 0).1
 have c1:=λ x9=>(hc x9 1).1
 have c2:=λ x9=>(hc x9 2).1
 have d0:=λ x9=>(hc x9 0).2
 have d1:=λ x9=>(hc x9 1).2
 have d2:=λ x9=>(hc x9 2).2
 clear hc;simp at c0 c1 c2 d0 d1 d2;refine aD 15 (w.heap.size+2) _ (Below.refl _ _) Vx Vx Vx Vx ?_;simp only[Uab];repeat (go_big_quiet_step (first
  |(go_at_call 48;exact dh (aeW _ _ _))
  |(go_at_call 49;exact dh (X5 _ _ _))
  |(go_at_call 50;exact dh (X6 _ _ _))))
 refine wpQuiet_nil ?_;rintro W4 ⟨x9,bM⟩;have hL:=x9.h;rw[<- bM] at hL;clear c0 c1 c2 d0 d1 d2 bM x9;go_wp2_with fail;refine(Xu _ _ _ _).mono ?_;rintro e w' ⟨rfl,rfl⟩;go_wp2_with fail;go_ret;have hB:aj w W4:=(((Below.refl _ _).alloc (Nat.le_refl _) _).alloc Tac _).trans (hL.mono Tac);exact⟨rfl,hB.alloc hB.size _⟩
theorem vA (a:Addr)(n:Nat):(a.add n).block=a.block:=by unfold Addr.add;split <;> rfl
def Reads (w:World)(B size:Nat)(A:Option Addr)(n:Nat)(xs:List Value):Prop:=
 xs.length=n*size/\(0 < n->∃ad,A=some ad/\ad.block < B/\∀j u,xs[j]?=some u->w.cell? (ad.add j)=some u)
section
variable {w w':World} {B B' size n:Nat} {A:Option Addr} {xs:List Value}
theorem Reads.none_:Reads w B size A 0 []:=⟨by simp,λ h=>absurd h WC⟩
theorem Reads.aeX {base:Nat} {e:TypeId} {c:Nat}(h:w.ownsRow base e size (.slice A n c) n xs):Reads w w.heap.size size A n xs:=by
 refine⟨h.1,λ hn=>?_⟩;obtain⟨g,cap,hv,_,hlt⟩:=h.form hn;have hA:A=some ⟨g,0,none⟩:=by injection hv
 subst hA;exact⟨_,rfl,hlt,h.cells (g:=g) rfl⟩
end
section
variable {P:Program} (w:World)
theorem vB (base:Nat)(t ty e:TypeId)(i:TypeInfo)(size:Nat)(ht:P.underlying t=some (.slice e))(hi:P.info? e=some i)
  (v:Value) (n:Nat) (xs:List Value) (hown:w.ownsRow base e size v n xs) (c:Nat):(Builtin.append_ #[t,t] ty #[v,.slice none 0 c]).run P w=.ok v w:=by
 rcases hown.2 with ⟨rfl,rfl⟩|⟨g,cap,cur,rfl,_,_,hnc,_⟩
 ·simp[Builtin.append_,run_underlying ht,sizeOf,typeInfo,hi,Builtin.lenOf,Builtin.firstCells]
 ·simp[Builtin.append_,run_underlying ht,sizeOf,typeInfo,hi,Builtin.lenOf,Builtin.firstCells,hnc,storeCells]
theorem iR (base:Nat)(t ty e:TypeId)(i:TypeInfo)(z:Value)(size bytes:Nat)(ht:P.underlying t=some (.slice e))(hi:P.info? e=some i)(hz:i.zero=some z)
  (hsize:i.size=size) (hby:i.bytes=bytes) (hzs:z.cells.size=size) (hsz:0 < size)
  (v:Value) (n:Nat) (xs:List Value) (hown:w.ownsRow base e size v n xs)
  (B:Nat) (A:Option Addr) (m c:Nat) (news:List Value) (hr:Reads w B size A m news) (h1:∀u∈news,u.oneCell'=true)
  (h63:n+m<=maxLen) (hbytes:(n+m)*bytes<=140737488355328) (hbase:base<=w.heap.size):
  ∃v' w',(Builtin.append_ #[t,t] ty #[v,.slice A m c]).run P w=.ok v' w'/\w'.ownsRow base e size v' (n+m) (xs++news)/\w.grownBy w' v.ownBlock/\
   (v'.ownBlock=v.ownBlock\/v'.ownBlock=some w.heap.size):=by
 rcases A with _ | ad
 ·have hm:m=0:=by
   rcases Nat.eq_zero_or_pos m with h0 | h0
   ·exact h0
   ·obtain⟨ad,h,_⟩:=hr.2 h0;cases h
  subst hm;have hn:news=[]:=eq_nil_of_length_eq_zero (by simpa using hr.1);subst hn;exact⟨v,w,vB w base t ty e i size ht hi v n xs hown c,by simpa using hown,World.grownBy.refl w _,.inl rfl⟩
 ·have uk:∀j u,news[j]?=some u->w.cell? (ad.add j)=some u:=by
   intro j u hu;rcases Nat.eq_zero_or_pos m with h0 | h0
   ·subst h0;have hn:news=[]:=eq_nil_of_length_eq_zero (by simpa using hr.1);subst hn;simp at hu
   ·obtain⟨ad',h,_,hc⟩:=hr.2 h0;injection h with h;subst h;exact hc j u hu
  obtain⟨v',w',hrun,h2,h3,_,h5⟩:=run_append_own_at (P:=P) w base t ty e i z size bytes ht hi hz hsize hby hzs hsz v n xs hown ad m c news hr.1 uk h1 h63 hbytes hbase;exact⟨v',w',hrun,h2,h3,h5⟩
theorem Ef {o:Oper} {a:Act} {K:Act->World->Prop} {Q:Exit->Act->World->Prop}(s x:Operand)(t:TypeId)
  (ho:o.op=.call { callee:=.builtin .append,args:= #[s,x],argTypes:= #[t,t] })
  (base:Nat) (e:TypeId) (i:TypeInfo) (z:Value) (size bytes:Nat) (ht:P.underlying t=some (.slice e)) (hi:P.info? e=some i) (hz:i.zero=some z)
  (hsize:i.size=size) (hby:i.bytes=bytes) (hzs:z.cells.size=size) (hsz:0 < size)
  (v:Value) (n:Nat) (xs:List Value) (hs:a.eval s=v) (hown:w.ownsRow base e size v n xs)
  (B:Nat) (A:Option Addr) (m c:Nat) (news:List Value) (hx:a.eval x=.slice A m c) (hr:Reads w B size A m news) (h1:∀u∈news,u.oneCell'=true)
  (h63:n+m<=maxLen) (hbytes:(n+m)*bytes<=140737488355328) (hbase:base<=w.heap.size)
  (h:∀v' w',w'.ownsRow base e size v' (n+m) (xs++news)->w.grownBy w' v.ownBlock->(v'.ownBlock=v.ownBlock\/v'.ownBlock=some w.heap.size)->K (a.put o.dst v') w'):o.wp P a w K Q:=by obtain⟨v',w',hrun,h2,h3,h4⟩:=iR (P:=P) w base t o.type e i z size bytes ht hi hz hsize hby hzs hsz v n xs hown B A m c news hr h1 h63 hbytes hbase;unfold Oper.wp execOp;simp only[ho,resolve,invoke,builtin,Sem.run_bind,Sem.run_pure,Result.andThen_ok,map_toArray,map_cons,map_nil,hs,hx,hrun];exact h v' w' h2 h3 h4
theorem cO {ops:Array Oper} {rest:List Oper} {o:Oper} {a:Act} {Q:Exit->Act->World->Prop}(hgd:o.guard=none)(s x:Operand)(t:TypeId)
  (ho:o.op=.call { callee:=.builtin .append,args:= #[s,x],argTypes:= #[t,t] })
  (base:Nat) (e:TypeId) (i:TypeInfo) (z:Value) (size bytes:Nat) (ht:P.underlying t=some (.slice e)) (hi:P.info? e=some i) (hz:i.zero=some z)
  (hsize:i.size=size) (hby:i.bytes=bytes) (hzs:z.cells.size=size) (hsz:0 < size)
  (v:Value) (n:Nat) (xs:List Value) (hs:a.eval s=v) (hown:w.ownsRow base e size v n xs)
  (B:Nat) (A:Option Addr) (m c:Nat) (news:List Value) (hx:a.eval x=.slice A m c) (hr:Reads w B size A m news) (h1:∀u∈news,u.oneCell'=true)
  (h63:n+m<=maxLen) (hbytes:(n+m)*bytes<=140737488355328) (hbase:base<=w.heap.size)
  (h:∀v' w',w'.ownsRow base e size v' (n+m) (xs++news)->w.grownBy w' v.ownBlock->(v'.ownBlock=v.ownBlock\/v'.ownBlock=some w.heap.size)->wpList P ops Q rest (a.put o.dst v') w'):wpList P ops Q (o::rest) a w:=
 wpList_plain hgd λ _ hK=>Ef w s x t ho base e i z size bytes ht hi hz hsize hby hzs hsz v n xs hs hown B A m c news hx hr h1 h63 hbytes hbase λ v' w' h2 h3 h4=>hK _ _ (h v' w' h2 h3 h4)
end
def aC (w:World)(g:Nat)(t:TypeId)(cs:Array Value):Prop:=w.heap[g]?=some (.cells cs t (0,0))
section
variable {w w':World} {g:Nat} {t:TypeId} {cs:Array Value}
theorem aC.lt (h:aC w g t cs):g < w.heap.size:=by
 rcases Nat.lt_or_ge g w.heap.size with hlt | vC
 ·exact hlt
 ·unfold aC at h;rw[Array.getElem?_eq_none vC] at h;cases h
theorem aC.cell (h:aC w g t cs)(i:Nat):w.cell? ⟨g,i,none⟩=cs[i]?:=cell_of_row w g i cs t (0,0) h
theorem aC.frozen (h:aC w g t cs)(i:Nat):w.frozen? ⟨g,i,none⟩=false:=by unfold aC at h;simp[World.frozen?,h]
theorem aC.new (w:World)(t:TypeId)(cs:Array Value):aC (w.alloc (.cells cs t)) w.heap.size t cs:=heap_alloc_new w _
theorem aC.drew (h:aC w g t cs):aC w.drew g t cs:=h
theorem aC.alloc (h:aC w g t cs)(o:Obj):aC (w.alloc o) g t cs:=(Below.heap_alloc w o g h.lt).trans h
theorem aC.aW (h:aC w g t cs)(i:Nat)(u:Value):aC (w.setCell ⟨g,i,none⟩ u) g t (cs.setIfInBounds i u):=by unfold aC at h ⊢;simp[World.setCell,Array.getElem?_modify,h]
theorem aC.far (h:aC w g t cs) {p:Addr}(hp:g≠p.block)(u:Value):aC (w.setCell p u) g t cs:=(Below.heap_setCell w p u g hp).trans h
theorem aC.below {B:Nat}(h:aC w g t cs)(hb:Below B w w')(hg:g < B):aC w' g t cs:=(hb.block g hg).trans h
theorem aC.later (h:aC w g t cs)(hb:aj w w'):aC w' g t cs:=h.below hb h.lt
theorem aC.grown {row:Option Nat}(h:aC w g t cs)(hb:w.grownBy w' row)(hg:some g≠row):aC w' g t cs:=(hb.block g h.lt hg).trans h
end
variable{w':World}
theorem aT{p:Nat} {w:World}(h:aj w w'):w.grownBy w' (some p):=⟨h.os,h.tape,h.output,h.size,λ k hk _=>h.block k hk⟩
theorem ba{p:Nat} {c:World}(h:a.grownBy b (some p))(k:b.grownBy c (some p)):a.grownBy c (some p):=
 ⟨k.os.trans h.os,k.tape.trans h.tape,k.output.trans h.output,Nat.le_trans h.size k.size,λ i hi hne=>(k.block i (Nat.lt_of_lt_of_le hi h.size) hne).trans (h.block i hi hne)⟩
theorem aG{p:Nat} (h:a.grownBy b (some p))(i:Nat)(u:Value):a.grownBy (b.setCell ⟨p,i,none⟩ u) (some p):=by
 refine⟨h.os,h.tape,h.output,?_,λ k hk hne=>?_⟩
 ·have:(b.setCell ⟨p,i,none⟩ u).heap.size=b.heap.size:=by simp[World.setCell]
  rw[this];exact h.size
 ·rw[Below.heap_setCell b ⟨p,i,none⟩ u k (λ e=>hne Tbb)];exact h.block k hk hne
theorem jw{p:Nat} (h:a.grownBy b (some p)):a.grownBy b.drew (some p):=⟨h.os,h.tape,h.output,h.size,h.block⟩
variable{α:Type}
def aI(f:α->List Value)(e:TypeId)(size:Nat)(w:World)(base:Nat)(v:Value)(l:List α):Prop:=w.ownsRow base e size v l.length (l.flatMap f)
section
variable {α:Type} {f:α->List Value} {e:TypeId} {size:Nat} {w w':World} {base:Nat} {v:Value} {l:List α}
theorem aI.nil:aI f e size w base (az) []:=⟨by simp,.inl ⟨rfl,rfl⟩⟩
theorem aI.reads (h:aI f e size w base v l):∃A c,v=.slice A l.length c/\Reads w w.heap.size size A l.length (l.flatMap f)/\l.length<=c/\(l=[]\/∃g,A=some ⟨g,0,none⟩/\base<=g):=by
 rcases h.2 with ⟨rfl,h0⟩|⟨g,cap,cur,rfl,hb,hg,hn,hm,hs,ht⟩
 ·have:l=[]:=eq_nil_of_length_eq_zero h0;subst this;exact⟨none,0,rfl,Reads.none_,Nat.le_refl _,.inl rfl⟩
 ·exact⟨some ⟨g,0,none⟩,cap,rfl,Reads.aeX h,hn,.inr ⟨g,rfl,hb⟩⟩
theorem aI.keep (h:aI f e size w base v l)(hk:∀g,v.ownBlock=some g->w'.heap[g]?=w.heap[g]?):aI f e size w' base v l:=by
 refine⟨h.1,?_⟩;rcases h.2 with h0 |⟨g,cap,cur,rfl,hbg,hg,hn,hm,hs,ht⟩
 ·exact .inl h0
 ·exact .inr ⟨g,cap,cur,rfl,hbg,(hk g rfl).trans hg,hn,hm,hs,ht⟩
theorem aI.lt (h:aI f e size w base v l) {g:Nat}(hb:v.ownBlock=some g):g < w.heap.size/\base<=g/\∃cur,w.heap[g]?=some (.cells cur e (0,0)):=by
 rcases h.2 with ⟨rfl,_⟩|⟨g',cap,cur,rfl,hbg,Rq,hn,hm,hs,ht⟩
 ·simp[Value.ownBlock] at hb
 ·simp only[Value.ownBlock,Option.some.injEq] at hb;subst hb;refine⟨?_,hbg,cur,Rq⟩;rcases Nat.lt_or_ge g' w.heap.size with hlt | vC
  ·exact hlt
  ·rw[Array.getElem?_eq_none vC] at Rq;cases Rq
theorem aI.later (h:aI f e size w base v l)(hb:aj w w'):aI f e size w' base v l:=h.keep λ g hg=>hb.block g (h.lt hg).1
theorem aI.other (h:aI f e size w base v l) {q:Nat} {t:TypeId} {cs:Array Value}(h1:aC w q t cs)(ht:t≠e):v.ownBlock≠some q:=by intro hg;obtain⟨_,_,cur,h2⟩:=h.lt hg;unfold aC at h1;exact ZhT
theorem aI.grown {p:Nat}(h:aI f e size w base v l)(hg:w.grownBy w' (some p))(hp:v.ownBlock≠some p):aI f e size w' base v l:=h.keep λ g ee=>hg.block g (h.lt ee).1 λ e=>hp (by rw[ee];exact e)
theorem bw (h:aI f e size w base v l)(hg:w.grownBy w' v.ownBlock)(hbase:base<=w.heap.size):Below base w w':=by refine⟨hg.os,hg.tape,hg.output,hg.size,λ k hk=>hg.block k WC λ e=>?_⟩;have:=(h.lt e.symm).2.1;omega
theorem aV {P:Program} {ops:Array Oper} {rest:List Oper} {o:Oper} {a:Act} {Q:Exit->Act->World->Prop}(hgd:o.guard=none)(s x:Operand)(t:TypeId)
  (ho:o.op=.call { callee:=.builtin .append,args:= #[s,x],argTypes:= #[t,t] })
  (z:Value) (bytes:Nat) (ht:P.underlying t=some (.slice e)) (jm:(P.info? e).map (λ i=>(i.zero,i.size,i.bytes))=some (some z,size,bytes)) (hzs:z.cells.size=size) (hsz:0 < size)
  (y:α) (hf:(f y).length=size) (h1:∀u∈f y,u.oneCell'=true)
  (hs:a.eval s=v) (hown:aI f e size w base v l)
  (g:Nat) (hx:a.eval x=aF g 1 1) (hg:aC w g e (f y).toArray)
  (hlen:(l.length+1)*bytes<=140737488355328) (mS:l.length+1<=140737488355328) (hbase:base<=w.heap.size)
  (h:∀v' w',aI f e size w' base v' (l++ [y])->w.grownBy w' v.ownBlock->wpList P ops Q rest (a.put o.dst v') w'):wpList P ops Q (o::rest) a w:=by
 obtain⟨i0,kB,hz0,hz1,hz2⟩:=info_parts jm;refine cO w hgd s x t ho base e i0 z size bytes ht kB hz0 hz1 hz2 hzs hsz v l.length (l.flatMap f) hs hown (g+1) (some ⟨g,0,none⟩) 1 1 (f y) hx ⟨by omega,λ _=>⟨_,rfl,Nat.lt_succ_self _,?_⟩⟩ h1 Tam hlen hbase ?_
 ·exact ZfC
 ·intro v' w' h2 h3 h4;refine h v' w' ?_ h3;exact Zh5
end
set_option linter.unusedSimpArgs false
def aP:Val:=⟨0,0,ByteArray.empty⟩
def num (n:Int):Val:=⟨2,n,ByteArray.empty⟩
def bH (b:Bool):Val:=⟨1,if b then 1 else 0,ByteArray.empty⟩
def bT (v:Val)(err:Int):Value:=.tuple #[.agg (aH v),af err]
def Val.Ok (a:Val):Prop:= -9223372036854775808<=a.n/\a.n<=9223372036854775807
theorem ai.then{c:World}(h:aj a b)(k:aj b c):aj a c:=h.trans (k.mono h.size)
theorem ah (w:World)(o:Obj):aj w (w.alloc o):=(Below.refl _ _).alloc (Nat.le_refl _) o
variable{g:Nat}
theorem aJ{w:World}  {t:TypeId} {k n:Int} {s:ByteArray}(h:aC w g t #[ag k,af n,.string s]):w.cell? ⟨g,0,none⟩=some (ag k)/\w.cell? ⟨g,1,none⟩=some (af n)/\w.cell? ⟨g,2,none⟩=some (.string s):=⟨h.cell 0,h.cell 1,h.cell 2⟩
def Hj (s:ByteArray):Bool:=s.toList== []
def good (v:Val):Bool:=
 if v.k=0 then(v.n==0 && Hj v.s)else if v.k=1 then(Hj v.s &&(v.n==0 || v.n==1))else if v.k=2 then Hj v.s else if v.k=3 then v.n==0 else false
theorem vD (v:Val)(w:World):ar 44 #[.agg (aH v)] w λ e w'=>e=.returned (.bool (good v))/\aj w w':=by
 obtain⟨k,n,s⟩:=v;unfold good Hj;dsimp only;by_cases h0:k=0
 ·subst h0;exact ZbP
 ·have e0:(k==0)=false:=by simpa using h0
  by_cases h1:k=1
  ·subst h1;cases hs:(s.toList== [])
   ·exact ZbP
   ·cases hn:(n==0)
    ·exact ZbP
    ·exact ZbP
  ·have e1:(k==1)=false:=by simpa using h1
   by_cases h2:k=2
   ·subst h2;exact ZbP
   ·have e2:(k==2)=false:=by simpa using h2
    by_cases h3:k=3
    ·subst h3;exact ZbP
    ·have e3:(k==3)=false:=by simpa using h3
     exact ZbP
theorem sF (b:Bool)(w:World):ar 111 #[.bool b] w λ e w'=>e=.returned (bT (bH b) 0)/\aj w w':=by
 unfold bT bH;cases b
 ·go_enter Tryz.func111,Tryz.ntmps111;go_wp2;exact bodyPost_ret (v:=.tuple #[.agg #[ag 1,af 0,.string ByteArray.empty],af 0]) Ta7 rfl ⟨rfl,by go_grown⟩
 ·go_enter Tryz.func111,Tryz.ntmps111;go_wp2;exact bodyPost_ret (v:=.tuple #[.agg #[ag 1,af 1,.string ByteArray.empty],af 0]) Ta7 rfl ⟨rfl,by go_grown⟩
def fB (n:Int)(ok:Bool):Val×Int:=if ok then(num n,0)else(aP,43)
theorem iu (n:Int)(ok:Bool)(w:World):ar 109 #[af n,.bool ok] w λ e w'=>e=.returned (bT (fB n ok).1 (fB n ok).2)/\aj w w':=by
 unfold bT fB;cases ok
 ·go_enter Tryz.func109,Tryz.ntmps109;go_wp2;exact bodyPost_ret (v:=.tuple #[.agg #[ag 0,af 0,.string ByteArray.empty],af 43]) Ta8 rfl ⟨rfl,by go_grown⟩
 ·go_enter Tryz.func109,Tryz.ntmps109;go_wp2;exact bodyPost_ret (v:=.tuple #[.agg #[ag 2,af n,.string ByteArray.empty],af 0]) Ta8 rfl ⟨rfl,by go_grown⟩
theorem Tt (n:Int)(w:World):ar 76 #[af n] w λ e w'=>e=.returned (.bool (decide (1<=n)&& decide (n<=1099511627776)))/\w=w':=by
 by_cases h1:1<=n
 ·have d1:decide (1<=n)=true:=by simpa using h1
  exact Zf2
 ·have d1:decide (1<=n)=false:=by simpa using h1
  exact Zf2
def nH (op:Int):Int:=if op=21 then 0 else if 22<=op/\op<=26 then 1 else if op=27\/op=28 then 2 else -1
theorem fE (op:Int)(w:World):ar 77 #[ag op] w λ e w'=>e=.returned (af (nH op))/\w=w':=by
 unfold nH;by_cases h1:op=21
 ·subst h1;go_enter Tryz.func77,Tryz.ntmps77;exact Zgl
 ·have e1:(op==21)=false:=by simpa using h1
  rw[if_neg h1];by_cases h2:22<=op/\op<=26
  ·rw[if_pos h2];obtain⟨h2,h3⟩:=h2;have d2:decide (22<=op)=true:=by simpa using h2
   have d3:decide (op<=26)=true:=by simpa using h3
   go_enter Tryz.func77,Tryz.ntmps77;exact Zgl
  ·rw[if_neg h2]
   have hor:decide (22<=op)=false\/(decide (22<=op)=true/\decide (op<=26)=false):=by
    by_cases h:22<=op
    ·right;simp;omega
    ·left;simpa using h
   by_cases h3:op=27\/op=28
   ·rw[if_pos h3]
    rcases h3 with rfl | rfl;all_goals
     go_enter Tryz.func77,Tryz.ntmps77;go_wp2;go_ret;exact⟨rfl,rfl⟩
   ·rw[if_neg h3];have e3:(op==27)=false:=by rw[beq_eq_false_iff_ne];omega
    have e4:(op==28)=false:=by rw[beq_eq_false_iff_ne];omega
    clear h1 h2 h3
    rcases hor with d2 |⟨d2,d3⟩;all_goals
     go_enter Tryz.func77,Tryz.ntmps77;go_wp2;go_ret;exact⟨rfl,rfl⟩
def zL (a b:Int):Val×Int:=fB (wrap64 (a+b)) (decide (a < wrap64 (a+b))==decide (0 < b))
def zM (a b:Int):Val×Int:=fB (wrap64 (a - b)) (decide (wrap64 (a - b)< a)==decide (0 < b))
def zN (a b:Int):Val×Int:=fB (wrap64 (a*b)) (a==0 ||(wrap64 (Int.tdiv (wrap64 (a*b)) a)==b &&(a != -1 || b != -9223372036854775808)))
def Tu (a b:Int):Val×Int:=fB (wrap64 (Int.tdiv a b)) (a != -9223372036854775808 || b != -1)
def Tv (a b:Int):Val×Int:=fB (Int.tmod a b) true
def Xv (a:Int):Val×Int:=fB (wrap64 (-a)) (a != -9223372036854775808)
theorem X8 (a b:Int)(w:World):ar 113 #[af a,af b] w λ e w'=>e=.returned (bT (zL a b).1 (zL a b).2)/\aj w w':=by
 go_enter Tryz.func113,Tryz.ntmps113;go_wp2_with fail
 all_goals
  refine(iu _ _ _).mono ?_;rintro e w' ⟨rfl,hr⟩;generalize Kx:fB _ _=r;have he:zL a b=r:=by rw[<- Kx];unfold zL;first |(simp_all;done)|(congr 1;rw[Bool.eq_iff_iff];simp_all;done)|(congr 1;simp_all;done)
  have HE:=aa he;clear he Kx;unfold bT;have hR:=(aC.new w 44 #[ag 0,af 0,au]).later hr;have hB:=ai.then (ah w (.cells #[ag 0,af 0,au] 44)) hr
  clear hr;have dw:=aJ hR;have gV:=aC.frozen hR;clear hR;go_wp2_with fail;exact bodyPost_ret (v:=.tuple #[.agg (aH r.1),af r.2]) (by simp[results,Tryz.results113,go_sem,dw]) rfl ⟨by rw[HE.ae];rfl,((hB.setCell (Nat.le_refl _) _).setCell (Nat.le_refl _) _).setCell (Nat.le_refl _) _⟩
theorem X9 (a b:Int)(w:World):ar 114 #[af a,af b] w λ e w'=>e=.returned (bT (zM a b).1 (zM a b).2)/\aj w w':=by
 go_enter Tryz.func114,Tryz.ntmps114;go_wp2_with fail
 all_goals
  refine(iu _ _ _).mono ?_;rintro e w' ⟨rfl,hr⟩;generalize Kx:fB _ _=r;have he:zM a b=r:=by rw[<- Kx];unfold zM;first |(simp_all;done)|(congr 1;rw[Bool.eq_iff_iff];simp_all;done)|(congr 1;simp_all;done)
  have HE:=aa he;clear he Kx;unfold bT;have hR:=(aC.new w 44 #[ag 0,af 0,au]).later hr;have hB:=ai.then (ah w (.cells #[ag 0,af 0,au] 44)) hr
  clear hr;have dw:=aJ hR;have gV:=aC.frozen hR;clear hR;go_wp2_with fail;exact bodyPost_ret (v:=.tuple #[.agg (aH r.1),af r.2]) (by simp[results,Tryz.results114,go_sem,dw]) rfl ⟨by rw[HE.ae];rfl,((hB.setCell (Nat.le_refl _) _).setCell (Nat.le_refl _) _).setCell (Nat.le_refl _) _⟩
theorem Tw (a b:Int)(w:World):ar 115 #[af a,af b] w λ e w'=>e=.returned (bT (zN a b).1 (zN a b).2)/\aj w w':=by
 go_enter Tryz.func115,Tryz.ntmps115;go_wp2_with fail
 all_goals
  refine(iu _ _ _).mono ?_;rintro e w' ⟨rfl,hr⟩;generalize Kx:fB _ _=r;have he:zN a b=r:=by rw[<- Kx];unfold zN;first |(simp_all;done)|(congr 1;rw[Bool.eq_iff_iff];simp_all;done)|(congr 1;simp_all;done)
  have HE:=aa he;clear he Kx;unfold bT;have hR:=(aC.new w 44 #[ag 0,af 0,au]).later hr;have hB:=ai.then (ah w (.cells #[ag 0,af 0,au] 44)) hr
  clear hr;have dw:=aJ hR;have gV:=aC.frozen hR;clear hR;go_wp2_with fail;exact bodyPost_ret (v:=.tuple #[.agg (aH r.1),af r.2]) (by simp[results,Tryz.results115,go_sem,dw]) rfl ⟨by rw[HE.ae];rfl,((hB.setCell (Nat.le_refl _) _).setCell (Nat.le_refl _) _).setCell (Nat.le_refl _) _⟩
theorem Y0 (a b:Int)(hb:b≠0)(w:World):ar 117 #[af a,af b] w λ e w'=>e=.returned (bT (Tu a b).1 (Tu a b).2)/\aj w w':=by
 go_enter Tryz.func117,Tryz.ntmps117;go_wp2_with fail
 all_goals
  refine(iu _ _ _).mono ?_;rintro e w' ⟨rfl,hr⟩;generalize Kx:fB _ _=r;have he:Tu a b=r:=by rw[<- Kx];unfold Tu;first |(simp_all;done)|(congr 1;rw[Bool.eq_iff_iff];simp_all;done)|(congr 1;simp_all;done)
  have HE:=aa he;clear he Kx;unfold bT;have hR:=(aC.new w 44 #[ag 0,af 0,au]).later hr;have hB:=ai.then (ah w (.cells #[ag 0,af 0,au] 44)) hr
  clear hr;have dw:=aJ hR;have gV:=aC.frozen hR;clear hR;go_wp2_with fail;exact bodyPost_ret (v:=.tuple #[.agg (aH r.1),af r.2]) (by simp[results,Tryz.results117,go_sem,dw]) rfl ⟨by rw[HE.ae];rfl,((hB.setCell (Nat.le_refl _) _).setCell (Nat.le_refl _) _).setCell (Nat.le_refl _) _⟩
theorem Y2 (a b:Int)(hb:b≠0)(w:World):ar 118 #[af a,af b] w λ e w'=>e=.returned (bT (Tv a b).1 (Tv a b).2)/\aj w w':=by
 go_enter Tryz.func118,Tryz.ntmps118;go_wp2_with fail
 all_goals
  refine(iu _ _ _).mono ?_;rintro e w' ⟨rfl,hr⟩;generalize Kx:fB _ _=r;have he:Tv a b=r:=by rw[<- Kx];unfold Tv;first |(simp_all;done)|(congr 1;rw[Bool.eq_iff_iff];simp_all;done)|(congr 1;simp_all;done)
  have HE:=aa he;clear he Kx;unfold bT;have hR:=(aC.new w 44 #[ag 0,af 0,au]).later hr;have hB:=ai.then (ah w (.cells #[ag 0,af 0,au] 44)) hr
  clear hr;have dw:=aJ hR;have gV:=aC.frozen hR;clear hR;go_wp2_with fail;exact bodyPost_ret (v:=.tuple #[.agg (aH r.1),af r.2]) (by simp[results,Tryz.results118,go_sem,dw]) rfl ⟨by rw[HE.ae];rfl,((hB.setCell (Nat.le_refl _) _).setCell (Nat.le_refl _) _).setCell (Nat.le_refl _) _⟩
theorem ajA (c:Int)(w:World):ar 120 #[af c] w λ e w'=>e=.returned (.bool (decide (c=0)))/\w=w':=by go_enter Tryz.func120,Tryz.ntmps120;exact Zcv
theorem ajB (c:Int)(w:World):ar 121 #[af c] w λ e w'=>e=.returned (.bool (!decide (c=0)))/\w=w':=by go_enter Tryz.func121,Tryz.ntmps121;exact Zcv
theorem is_lt (c:Int)(w:World):ar 122 #[af c] w λ e w'=>e=.returned (.bool (decide (c < 0)))/\w=w':=by go_enter Tryz.func122,Tryz.ntmps122;exact Zcv
theorem is_le (c:Int)(w:World):ar 123 #[af c] w λ e w'=>e=.returned (.bool (decide (c<=0)))/\w=w':=by go_enter Tryz.func123,Tryz.ntmps123;exact Zcv
theorem ajC (c:Int)(w:World):ar 124 #[af c] w λ e w'=>e=.returned (.bool (decide (0 < c)))/\w=w':=by go_enter Tryz.func124,Tryz.ntmps124;exact Zcv
theorem ajD (c:Int)(w:World):ar 125 #[af c] w λ e w'=>e=.returned (.bool (decide (0<=c)))/\w=w':=by go_enter Tryz.func125,Tryz.ntmps125;exact Zcv
structure Ex where
 op:Int
 v:Val
 name:ByteArray
 width:Int
 A:Option Addr
 n:Nat
 c:Nat
abbrev ay (y:Ex):Array Value:= #[.int .u8 y.op,.int .u8 y.v.k,.int .i64 y.v.n,.string y.v.s,.string y.name,.int .i64 y.width,.slice y.A y.n y.c]
abbrev di:Array Value:= #[.int .u8 0,.int .u8 0,.int .i64 0,.string ⟨#[]⟩,.string ⟨#[]⟩,.int .i64 0,.slice none 0 0]
def eh (w:World)(b off:Nat)(x:Val):Prop:=
 w.cell? ⟨b,off,none⟩=some (ag x.k)/\w.cell? ⟨b,off+1,none⟩=some (af x.n)/\w.cell? ⟨b,off+2,none⟩=some (.string x.s)
def RV (w:World)(B:Nat)(A:Option Addr)(l:List Val):Prop:=
 l=[]\/∃b off,A=some ⟨b,off,none⟩/\b < B/\∀i x,l[i]?=some x->eh w b (off+i*3) x
variable{off:Nat}{x:Val}
theorem eh.keep{w:World} {b:Nat} (h:eh w b off x)(hk:∀o,w'.cell? ⟨b,o,none⟩=w.cell? ⟨b,o,none⟩):eh w' b off x:=by unfold eh at*;simp only[hk];exact h
theorem RV.below{w:World}  {A:Option Addr} {l:List Val}(h:RV w B A l)(hb:Below B w w'):RV w' B A l:=by exact ZcW
variable{B':Nat}
theorem RV.more{w:World}  {A:Option Addr} {l:List Val}(h:RV w B A l)(hB:B<=B'):RV w B' A l:=by exact Zel
theorem RV.at_{w:World}  {A:Option Addr} {l:List Val}(h:RV w B A l) {k:Nat}(hk:k < l.length):∃b off,A=some ⟨b,off,none⟩/\b < B/\eh w b (off+k*3) l[k]:=by exact Zct
theorem RV.one{w:World}  {A:Option Addr} (h:RV w B A [x]):∃b off,A=some ⟨b,off,none⟩/\b < B/\eh w b off x:=by obtain⟨b,off,h1,h2,h3⟩:=h.at_ (k:=0) Tac;exact⟨b,off,h1,h2,by simpa using h3⟩
variable{y:Val}
theorem RV.two{w:World}  {A:Option Addr} (h:RV w B A [x,y]):∃b off,A=some ⟨b,off,none⟩/\b < B/\eh w b off x/\eh w b (off+3) y:=by
 rcases h with h |⟨b,off,h1,h2,h3⟩
 ·simp at h
 ·exact⟨b,off,h1,h2,by simpa using h3 0 x rfl,by simpa using h3 1 y rfl⟩
theorem NW (n:Int)(ok:Bool)(w:World):ar 109 #[af n,.bool ok] w λ e w'=>e=.returned (.tuple #[.agg #[ag (fB n ok).1.k,af (fB n ok).1.n,.string (fB n ok).1.s],af (fB n ok).2])/\aj w w':=iu n ok w
theorem jx (b:Bool)(w:World):ar 111 #[.bool b] w λ e w'=>e=.returned (.tuple #[.agg #[ag (bH b).k,af (bH b).n,.string (bH b).s],af 0])/\aj w w':=sF b w
theorem zhW.Kb3(h:p:=by
 unfold eh at c1;have bK:w.heap.size<=w.heap.size+1:=by omega
 generalize w.heap.size+1=g at*;refine aD 13 W.heap.size W (Below.refl _ _) Vx Vx Vx Vx ?_;simp only[Uab];repeat (go_big_quiet_step (first
  |(go_at_call 109;exact aB (Nat.le_refl _) (NW _ _ _))))
 refine wpQuiet_nil ?_;rintro W4 ⟨x9,bM⟩;have hL:=x9.h;rw[<- bM] at hL;clear bM x9 c1;replace hR:=hR.later hL;replace hB:=ai.then hB hL;generalize cG:fB _ _=r;have hr:Xv a.n=r:=by rw[<- cG];unfold Xv;rfl
 have HE:=aa hr;clear hr cG;have dw:=aJ hR;have gV:=aC.frozen hR;clear hR;go_wp2_with fail;exact bodyPost_ret (v:=.tuple #[.agg (aH r.1),af r.2]) (by simp[results,Tryz.results108,go_sem,dw]) rfl ⟨by rw[HE.ae];rfl,((hB.setCell (bK) _).setCell (bK) _).setCell (bK) _⟩):p:=h
theorem zc3.KaA(h:p:=by
 replace hv:=hv.keep (w':=W) λ o=>hB.cell (p:=⟨b,o,none⟩) hb
 open zhW in exact Zfe):p:=h
theorem Y3 (x:Ex)(A:Option Addr)(c:Nat)(a:Val)(w:World)(h:RV w w.heap.size A [a]):ar 108 #[.agg (ay x),.slice A 1 c] w λ e w'=>e=.returned (bT (Xv a.n).1 (Xv a.n).2)/\aj w w':=by obtain⟨b,off,rfl,hb,hv⟩:=h.one;go_enter Tryz.func108,Tryz.ntmps108;open zc3 in exact ZaV
theorem zc4.KaA(h:p:=by
 have bK:w.heap.size<=w.heap.size+1:=by omega
 generalize w.heap.size+1=g at*;refine(sF _ _).mono ?_;rintro e w' ⟨rfl,b3⟩;replace hR:=hR.later b3;replace hB:=ai.then hB b3;clear b3 hv' hv;generalize hr:bH _=r;have he:(r,(0:Int))=(bH (a.n==0),0):=by rw[<- hr]
 have HE:=aa he;clear he hr;unfold bT;have dw:=aJ hR;have gV:=aC.frozen hR;clear hR;go_wp2_with fail;exact bodyPost_ret (v:=.tuple #[.agg #[ag (r,(0:Int)).1.k,af (r,(0:Int)).1.n,.string (r,(0:Int)).1.s],af (r,(0:Int)).2]) (by simp[results,Tryz.results110,go_sem,dw]) rfl ⟨by have:=HE.ae;injection this with h1 h2;rw[<- h1];rfl,((hB.setCell (bK) _).setCell (bK) _).setCell (bK) _⟩):p:=h
theorem ziw.Kch(h:p:=by go_enter Tryz.func110,Tryz.ntmps110;open zc4 in exact ZaV):p:=h
theorem Y4 (x:Ex)(A:Option Addr)(c:Nat)(a:Val)(w:World)(h:RV w w.heap.size A [a]):ar 110 #[.agg (ay x),.slice A 1 c] w λ e w'=>e=.returned (bT (bH (a.n==0)) 0)/\aj w w':=by obtain⟨b,off,rfl,hb,hv⟩:=h.one;open ziw in exact Zf6
theorem Rs (a:Int)(g:Nat)(w:World):ar 168 #[af a,af 0,aw g] w λ e w'=>e=.returned (bT aP 44)/\aj w w':=by go_enter Tryz.func168,Tryz.ntmps168;go_wp2_with fail;exact bodyPost_ret (v:=.tuple #[.agg #[ag 0,af 0,.string ByteArray.empty],af 44]) (by simp[results,Tryz.results168,go_sem];try rfl) rfl ⟨rfl,by go_grown⟩
theorem Xw (a b:Int)(hb:b≠0)(g k:Nat)(r:Val×Int)(w:World)(hg:aC w g 206 #[.func (.func k) #[] #[]])(he:∀args w,(callFunc k args).run Tryz.prog w=.ok (.enter k args) w)
  (hk:∀w,ar k #[af a,af b] w λ e w'=>e=.returned (bT r.1 r.2)/\aj w w'):ar 168 #[af a,af b,aw g] w λ e w'=>e=.returned (bT r.1 r.2)/\aj w w':=by
 have HK:=aa hk;clear hk;have e1:(b==0)=false:=by simpa using hb
 have cG:=(hg.alloc (.cells #[ag 0,af 0,au] 44)).cell 0;simp only[getElem?_toArray,getElem?_cons_zero] at cG;go_enter Tryz.func168,Tryz.ntmps168;go_wp2_with fail;refine(HK.ae _).mono ?_;rintro e w' ⟨rfl,hr⟩;unfold bT;have hR:=(aC.new w 44 #[ag 0,af 0,au]).later hr;have hB:=ai.then (ah w (.cells #[ag 0,af 0,au] 44)) hr;clear hr cG;have dw:=aJ hR;have gV:=aC.frozen hR;clear hR;go_wp2_with fail;exact bodyPost_ret (v:=.tuple #[.agg (aH r.1),af r.2]) (by simp[results,Tryz.results168,go_sem,dw]) rfl ⟨rfl,((hB.setCell (Nat.le_refl _) _).setCell (Nat.le_refl _) _).setCell (Nat.le_refl _) _⟩
theorem Y5 (a b:Int)(w:World):ar 113 #[af a,af b] w λ e w'=>e=.returned (.tuple #[.agg #[ag (zL a b).1.k,af (zL a b).1.n,.string (zL a b).1.s],af (zL a b).2])/\aj w w':=X8 a b w
theorem zd6.KaM(h:p:=by generalize hr:(zL a.n b'.n)=r at*;exact Zbi):p:=h
theorem zcQ.Kay(h:p:=by
 generalize w.heap.size+1=g at*;refine aD 12 W.heap.size W (Below.refl _ _) Vx Vx Vx Vx ?_;simp only[Uab];repeat (go_big_quiet_step (first
  |(go_at_call 113;exact aB (Nat.le_refl _) (Y5 a.n b'.n _))))
 open zd6 in exact Zbt):p:=h
theorem zaa.KG(h:p:=by have lr:aC W q 206 #[.func (.func 113) #[] #[]]:=hq.later hB;open zcQ in exact ZaT):p:=h
theorem aeY (x:Ex)(A:Option Addr)(c q:Nat)(a b':Val)(w:World)(h:RV w w.heap.size A [a,b'])(hq:aC w q 206 #[.func (.func 113) #[] #[]]):ar 167 #[.agg (ay x),.slice A 2 c,.pointer (some ⟨q,0,none⟩)] w λ e w'=>e=.returned (bT (zL a.n b'.n).1 (zL a.n b'.n).2)/\aj w w':=by obtain⟨b,off,rfl,hb,hv,hu⟩:=h.two;go_enter Tryz.func167,Tryz.ntmps167;open zaa in exact Zad
theorem Y6 (a b:Int)(w:World):ar 114 #[af a,af b] w λ e w'=>e=.returned (.tuple #[.agg #[ag (zM a b).1.k,af (zM a b).1.n,.string (zM a b).1.s],af (zM a b).2])/\aj w w':=X9 a b w
theorem zd7.KaM(h:p:=by generalize hr:(zM a.n b'.n)=r at*;exact Zbi):p:=h
theorem zcR.Kay(h:p:=by
 generalize w.heap.size+1=g at*;refine aD 12 W.heap.size W (Below.refl _ _) Vx Vx Vx Vx ?_;simp only[Uab];repeat (go_big_quiet_step (first
  |(go_at_call 114;exact aB (Nat.le_refl _) (Y6 a.n b'.n _))))
 open zd7 in exact Zbt):p:=h
theorem zab.KG(h:p:=by have lr:aC W q 206 #[.func (.func 114) #[] #[]]:=hq.later hB;open zcR in exact ZaT):p:=h
theorem aeZ (x:Ex)(A:Option Addr)(c q:Nat)(a b':Val)(w:World)(h:RV w w.heap.size A [a,b'])(hq:aC w q 206 #[.func (.func 114) #[] #[]]):ar 167 #[.agg (ay x),.slice A 2 c,.pointer (some ⟨q,0,none⟩)] w λ e w'=>e=.returned (bT (zM a.n b'.n).1 (zM a.n b'.n).2)/\aj w w':=by obtain⟨b,off,rfl,hb,hv,hu⟩:=h.two;go_enter Tryz.func167,Tryz.ntmps167;open zab in exact Zad
theorem Tx (a b:Int)(w:World):ar 115 #[af a,af b] w λ e w'=>e=.returned (.tuple #[.agg #[ag (zN a b).1.k,af (zN a b).1.n,.string (zN a b).1.s],af (zN a b).2])/\aj w w':=Tw a b w
theorem zd8.KaM(h:p:=by generalize hr:(zN a.n b'.n)=r at*;exact Zbi):p:=h
theorem zcS.Kay(h:p:=by
 generalize w.heap.size+1=g at*;refine aD 12 W.heap.size W (Below.refl _ _) Vx Vx Vx Vx ?_;simp only[Uab];repeat (go_big_quiet_step (first
  |(go_at_call 115;exact aB (Nat.le_refl _) (Tx a.n b'.n _))))
 open zd8 in exact Zbt):p:=h
theorem zac.KG(h:p:=by have lr:aC W q 206 #[.func (.func 115) #[] #[]]:=hq.later hB;open zcS in exact ZaT):p:=h
theorem Xx (x:Ex)(A:Option Addr)(c q:Nat)(a b':Val)(w:World)(h:RV w w.heap.size A [a,b'])(hq:aC w q 206 #[.func (.func 115) #[] #[]]):ar 167 #[.agg (ay x),.slice A 2 c,.pointer (some ⟨q,0,none⟩)] w λ e w'=>e=.returned (bT (zN a.n b'.n).1 (zN a.n b'.n).2)/\aj w w':=by obtain⟨b,off,rfl,hb,hv,hu⟩:=h.two;go_enter Tryz.func167,Tryz.ntmps167;open zac in exact Zad
theorem Ty (args:Array Value)(w:World):(callFunc 117 args).run Tryz.prog w=.ok (.enter 117 args) w:=by exact ZhU
def zO (a b:Int):Val×Int:=if b=0 then(aP,44)else Tu a b
theorem Y7 (a b:Int)(g:Nat)(w:World)(hg:aC w g 206 #[.func (.func 117) #[] #[]]):ar 168 #[.int .i64 a,.int .i64 b,.pointer (some ⟨g,0,none⟩)] w λ e w'=>e=.returned (.tuple #[.agg #[.int .u8 (zO a b).1.k,.int .i64 (zO a b).1.n,.string (zO a b).1.s],.int .i64 (zO a b).2])/\aj w w':=by
 by_cases hb:b=0
 ·have e:zO a b=(aP,44):=if_pos hb;rw[e];subst hb;exact Rs a g w
 ·have e:zO a b=Tu a b:=if_neg hb;rw[e];exact Xw a b hb g _ _ w hg Ty (Y0 a b hb)
theorem zd9.KaM(h:p:=by generalize hr:(zO a.n b'.n)=r at*;exact Zbi):p:=h
theorem zcT.Kay(h:p:=by
 generalize w.heap.size+1=g at*;refine aD 12 W.heap.size W (Below.refl _ _) Vx Vx Vx Vx ?_;simp only[Uab];repeat (go_big_quiet_step (first
  |(go_at_call 168;exact aB (Nat.le_refl _) (Y7 a.n b'.n q2 _ (Q6.later (Ext.h _))))))
 open zd9 in exact Zbt):p:=h
theorem zad.KG(h:p:=by have Q6:=lr.later hB;have lr:aC W q 206 #[.func (.func 168) #[] #[aw q2]]:=hq.later hB;open zcT in exact ZaT):p:=h
theorem afa (x:Ex)(A:Option Addr)(c q:Nat)(a b':Val)(q2:Nat)(w:World)(h:RV w w.heap.size A [a,b'])(hq:aC w q 206 #[.func (.func 168) #[] #[.pointer (some ⟨q2,0,none⟩)]])(lr:aC w q2 206 #[.func (.func 117) #[] #[]]):ar 167 #[.agg (ay x),.slice A 2 c,.pointer (some ⟨q,0,none⟩)] w λ e w'=>e=.returned (bT (zO a.n b'.n).1 (zO a.n b'.n).2)/\aj w w':=by obtain⟨b,off,rfl,hb,hv,hu⟩:=h.two;go_enter Tryz.func167,Tryz.ntmps167;open zad in exact Zad
theorem Tz (args:Array Value)(w:World):(callFunc 118 args).run Tryz.prog w=.ok (.enter 118 args) w:=by exact ZhU
def zP (a b:Int):Val×Int:=if b=0 then(aP,44)else Tv a b
theorem Y8 (a b:Int)(g:Nat)(w:World)(hg:aC w g 206 #[.func (.func 118) #[] #[]]):ar 168 #[.int .i64 a,.int .i64 b,.pointer (some ⟨g,0,none⟩)] w λ e w'=>e=.returned (.tuple #[.agg #[.int .u8 (zP a b).1.k,.int .i64 (zP a b).1.n,.string (zP a b).1.s],.int .i64 (zP a b).2])/\aj w w':=by
 by_cases hb:b=0
 ·have e:zP a b=(aP,44):=if_pos hb;rw[e];subst hb;exact Rs a g w
 ·have e:zP a b=Tv a b:=if_neg hb;rw[e];exact Xw a b hb g _ _ w hg Tz (Y2 a b hb)
theorem zea.KaM(h:p:=by generalize hr:(zP a.n b'.n)=r at*;exact Zbi):p:=h
theorem zcU.Kay(h:p:=by
 generalize w.heap.size+1=g at*;refine aD 12 W.heap.size W (Below.refl _ _) Vx Vx Vx Vx ?_;simp only[Uab];repeat (go_big_quiet_step (first
  |(go_at_call 168;exact aB (Nat.le_refl _) (Y8 a.n b'.n q2 _ (Q6.later (Ext.h _))))))
 open zea in exact Zbt):p:=h
theorem zae.KG(h:p:=by have Q6:=lr.later hB;have lr:aC W q 206 #[.func (.func 168) #[] #[aw q2]]:=hq.later hB;open zcU in exact ZaT):p:=h
theorem afb (x:Ex)(A:Option Addr)(c q:Nat)(a b':Val)(q2:Nat)(w:World)(h:RV w w.heap.size A [a,b'])(hq:aC w q 206 #[.func (.func 168) #[] #[.pointer (some ⟨q2,0,none⟩)]])(lr:aC w q2 206 #[.func (.func 118) #[] #[]]):ar 167 #[.agg (ay x),.slice A 2 c,.pointer (some ⟨q,0,none⟩)] w λ e w'=>e=.returned (bT (zP a.n b'.n).1 (zP a.n b'.n).2)/\aj w w':=by obtain⟨b,off,rfl,hb,hv,hu⟩:=h.two;go_enter Tryz.func167,Tryz.ntmps167;open zae in exact Zad
theorem zeb.KaM(h:p:=by
 generalize hr:bH (decide (cc=0))=r at*;have HE:fc ((r,(0:Int))=(bH (decide (bQ a b'=0)),0)):=by rw[HC.ae,hr];exact rfl
 exact ZaG):p:=h
theorem zcV.Kay(h:p:=by
 generalize w.heap.size+1=g at*;have kC:=aa (ed a b');generalize hcc:bQ a b'=cc at kC;have HC:=aa hcc;clear hcc;refine aD 12 W.heap.size W (Below.refl _ _) Vx Vx Vx Vx ?_;simp only[Uab];repeat (go_big_quiet_step (first
  |(go_at_call 18;exact aB (Nat.le_refl _) (kC.ae _))
  |(go_at_call 120;exact dh (ajA cc _))
  |(go_at_call 111;exact aB (Nat.le_refl _) (jx _ _))))
 open zeb in exact Zbt):p:=h
theorem zaf.KG(h:p:=by have lr:aC W q 208 #[.func (.func 120) #[] #[]]:=hq.later hB;open zcV in exact ZaT):p:=h
theorem ajE (x:Ex)(A:Option Addr)(c q:Nat)(a b':Val)(w:World)(h:RV w w.heap.size A [a,b'])(hq:aC w q 208 #[.func (.func 120) #[] #[]]):ar 169 #[.agg (ay x),.slice A 2 c,.pointer (some ⟨q,0,none⟩)] w λ e w'=>e=.returned (bT (bH (decide (bQ a b'=0))) 0)/\aj w w':=by obtain⟨b,off,rfl,hb,hv,hu⟩:=h.two;go_enter Tryz.func169,Tryz.ntmps169;open zaf in exact Zad
theorem zec.KaM(h:p:=by
 generalize hr:bH (!decide (cc=0))=r at*;have HE:fc ((r,(0:Int))=(bH (!decide (bQ a b'=0)),0)):=by rw[HC.ae,hr];exact rfl
 exact ZaG):p:=h
theorem zcW.Kay(h:p:=by
 generalize w.heap.size+1=g at*;have kC:=aa (ed a b');generalize hcc:bQ a b'=cc at kC;have HC:=aa hcc;clear hcc;refine aD 12 W.heap.size W (Below.refl _ _) Vx Vx Vx Vx ?_;simp only[Uab];repeat (go_big_quiet_step (first
  |(go_at_call 18;exact aB (Nat.le_refl _) (kC.ae _))
  |(go_at_call 121;exact dh (ajB cc _))
  |(go_at_call 111;exact aB (Nat.le_refl _) (jx _ _))))
 open zec in exact Zbt):p:=h
theorem zag.KG(h:p:=by have lr:aC W q 208 #[.func (.func 121) #[] #[]]:=hq.later hB;open zcW in exact ZaT):p:=h
theorem ajF (x:Ex)(A:Option Addr)(c q:Nat)(a b':Val)(w:World)(h:RV w w.heap.size A [a,b'])(hq:aC w q 208 #[.func (.func 121) #[] #[]]):ar 169 #[.agg (ay x),.slice A 2 c,.pointer (some ⟨q,0,none⟩)] w λ e w'=>e=.returned (bT (bH (!decide (bQ a b'=0))) 0)/\aj w w':=by obtain⟨b,off,rfl,hb,hv,hu⟩:=h.two;go_enter Tryz.func169,Tryz.ntmps169;open zag in exact Zad
theorem zed.KaM(h:p:=by
 generalize hr:bH (decide (cc < 0))=r at*;have HE:fc ((r,(0:Int))=(bH (decide (bQ a b' < 0)),0)):=by rw[HC.ae,hr];exact rfl
 exact ZaG):p:=h
theorem zcX.Kay(h:p:=by
 generalize w.heap.size+1=g at*;have kC:=aa (ed a b');generalize hcc:bQ a b'=cc at kC;have HC:=aa hcc;clear hcc;refine aD 12 W.heap.size W (Below.refl _ _) Vx Vx Vx Vx ?_;simp only[Uab];repeat (go_big_quiet_step (first
  |(go_at_call 18;exact aB (Nat.le_refl _) (kC.ae _))
  |(go_at_call 122;exact dh (is_lt cc _))
  |(go_at_call 111;exact aB (Nat.le_refl _) (jx _ _))))
 open zed in exact Zbt):p:=h
theorem zah.KG(h:p:=by have lr:aC W q 208 #[.func (.func 122) #[] #[]]:=hq.later hB;open zcX in exact ZaT):p:=h
theorem ajG (x:Ex)(A:Option Addr)(c q:Nat)(a b':Val)(w:World)(h:RV w w.heap.size A [a,b'])(hq:aC w q 208 #[.func (.func 122) #[] #[]]):ar 169 #[.agg (ay x),.slice A 2 c,.pointer (some ⟨q,0,none⟩)] w λ e w'=>e=.returned (bT (bH (decide (bQ a b' < 0))) 0)/\aj w w':=by obtain⟨b,off,rfl,hb,hv,hu⟩:=h.two;go_enter Tryz.func169,Tryz.ntmps169;open zah in exact Zad
theorem zee.KaM(h:p:=by
 generalize hr:bH (decide (cc<=0))=r at*;have HE:fc ((r,(0:Int))=(bH (decide (bQ a b'<=0)),0)):=by rw[HC.ae,hr];exact rfl
 exact ZaG):p:=h
theorem zcY.Kay(h:p:=by
 generalize w.heap.size+1=g at*;have kC:=aa (ed a b');generalize hcc:bQ a b'=cc at kC;have HC:=aa hcc;clear hcc;refine aD 12 W.heap.size W (Below.refl _ _) Vx Vx Vx Vx ?_;simp only[Uab];repeat (go_big_quiet_step (first
  |(go_at_call 18;exact aB (Nat.le_refl _) (kC.ae _))
  |(go_at_call 123;exact dh (is_le cc _))
  |(go_at_call 111;exact aB (Nat.le_refl _) (jx _ _))))
 open zee in exact Zbt):p:=h
theorem zai.KG(h:p:=by have lr:aC W q 208 #[.func (.func 123) #[] #[]]:=hq.later hB;open zcY in exact ZaT):p:=h
theorem ajH (x:Ex)(A:Option Addr)(c q:Nat)(a b':Val)(w:World)(h:RV w w.heap.size A [a,b'])(hq:aC w q 208 #[.func (.func 123) #[] #[]]):ar 169 #[.agg (ay x),.slice A 2 c,.pointer (some ⟨q,0,none⟩)] w λ e w'=>e=.returned (bT (bH (decide (bQ a b'<=0))) 0)/\aj w w':=by obtain⟨b,off,rfl,hb,hv,hu⟩:=h.two;go_enter Tryz.func169,Tryz.ntmps169;open zai in exact Zad
theorem zef.KaM(h:p:=by
 generalize hr:bH (decide (0 < cc))=r at*;have HE:fc ((r,(0:Int))=(bH (decide (0 < bQ a b')),0)):=by rw[HC.ae,hr];exact rfl
 exact ZaG):p:=h
theorem zcZ.Kay(h:p:=by
 generalize w.heap.size+1=g at*;have kC:=aa (ed a b');generalize hcc:bQ a b'=cc at kC;have HC:=aa hcc;clear hcc;refine aD 12 W.heap.size W (Below.refl _ _) Vx Vx Vx Vx ?_;simp only[Uab];repeat (go_big_quiet_step (first
  |(go_at_call 18;exact aB (Nat.le_refl _) (kC.ae _))
  |(go_at_call 124;exact dh (ajC cc _))
  |(go_at_call 111;exact aB (Nat.le_refl _) (jx _ _))))
 open zef in exact Zbt):p:=h
theorem zaj.KG(h:p:=by have lr:aC W q 208 #[.func (.func 124) #[] #[]]:=hq.later hB;open zcZ in exact ZaT):p:=h
theorem ajI (x:Ex)(A:Option Addr)(c q:Nat)(a b':Val)(w:World)(h:RV w w.heap.size A [a,b'])(hq:aC w q 208 #[.func (.func 124) #[] #[]]):ar 169 #[.agg (ay x),.slice A 2 c,.pointer (some ⟨q,0,none⟩)] w λ e w'=>e=.returned (bT (bH (decide (0 < bQ a b'))) 0)/\aj w w':=by obtain⟨b,off,rfl,hb,hv,hu⟩:=h.two;go_enter Tryz.func169,Tryz.ntmps169;open zaj in exact Zad
theorem zeg.KaM(h:p:=by
 generalize hr:bH (decide (0<=cc))=r at*;have HE:fc ((r,(0:Int))=(bH (decide (0<=bQ a b')),0)):=by rw[HC.ae,hr];exact rfl
 exact ZaG):p:=h
theorem zc0.Kay(h:p:=by
 generalize w.heap.size+1=g at*;have kC:=aa (ed a b');generalize hcc:bQ a b'=cc at kC;have HC:=aa hcc;clear hcc;refine aD 12 W.heap.size W (Below.refl _ _) Vx Vx Vx Vx ?_;simp only[Uab];repeat (go_big_quiet_step (first
  |(go_at_call 18;exact aB (Nat.le_refl _) (kC.ae _))
  |(go_at_call 125;exact dh (ajD cc _))
  |(go_at_call 111;exact aB (Nat.le_refl _) (jx _ _))))
 open zeg in exact Zbt):p:=h
theorem zak.KG(h:p:=by have lr:aC W q 208 #[.func (.func 125) #[] #[]]:=hq.later hB;open zc0 in exact ZaT):p:=h
theorem ajJ (x:Ex)(A:Option Addr)(c q:Nat)(a b':Val)(w:World)(h:RV w w.heap.size A [a,b'])(hq:aC w q 208 #[.func (.func 125) #[] #[]]):ar 169 #[.agg (ay x),.slice A 2 c,.pointer (some ⟨q,0,none⟩)] w λ e w'=>e=.returned (bT (bH (decide (0<=bQ a b'))) 0)/\aj w w':=by obtain⟨b,off,rfl,hb,hv,hu⟩:=h.two;go_enter Tryz.func169,Tryz.ntmps169;open zak in exact Zad
theorem zcP.Kay(h:p:=by
 generalize w.heap.size+1=g at*;refine aD 10 W.heap.size W (Below.refl _ _) Vx Vx Vx Vx ?_;simp only[Uab];repeat (go_big_quiet_step (first
  |(go_at_call 111;exact aB (Nat.le_refl _) (jx _ _))))
 refine wpQuiet_nil ?_;rintro W4 ⟨x9,bM⟩;have hL:=x9.h;rw[<- bM] at hL;clear bM x9 c1 hc;replace hR:=hR.later hL;replace hB:=ai.then hB hL;generalize hr:bH _=r at*;have HE:fc ((r,(0:Int))=(bH ((a.k==0)==is),0)):=by rw[<- hr];exact rfl
 clear hr;have dw:=aJ hR;have gV:=aC.frozen hR;clear hR;go_wp2_with fail;exact bodyPost_ret (v:=.tuple #[.agg #[ag (r,(0:Int)).1.k,af (r,(0:Int)).1.n,.string (r,(0:Int)).1.s],af (r,(0:Int)).2]) (by simp[results,Tryz.results172,go_sem,dw]) rfl ⟨by have:=HE.ae;injection this with h1 h2;rw[<- h1];rfl,((hB.setCell (bK) _).setCell (bK) _).setCell (bK) _⟩):p:=h
theorem zhY.Kb3(h:p:=by unfold eh at c1;have lr:aC W q 4 #[.bool is]:=hq.later hB;open zcP in exact ZaT):p:=h
theorem zfY.Kbh(h:p:=by
 replace hv:=hv.keep (w':=W) λ o=>hB.cell (p:=⟨b,o,none⟩) hb
 open zhY in exact Zfe):p:=h
theorem Ks (x:Ex)(A:Option Addr)(c q:Nat)(is:Bool)(a:Val)(w:World)(h:RV w w.heap.size A [a])(hq:aC w q 4 #[.bool is]):ar 172 #[.agg (ay x),.slice A 1 c,aw q] w λ e w'=>e=.returned (bT (bH ((a.k==0)==is)) 0)/\aj w w':=by obtain⟨b,off,rfl,hb,hv⟩:=h.one;go_enter Tryz.func172,Tryz.ntmps172;open zfY in exact Zdk
def vF (n wd:Int):Int:=n % wd
def vG (n wd:Int):Val×Int:=fB (wrap64 (n - vF n wd)) (decide (-9223372036854775808+vF n wd<=n))
theorem Z0 (n wd:Int)(h1:1<=wd):Int.tmod (Int.tmod n wd+wd) wd=vF n wd/\ -wd < Int.tmod n wd/\Int.tmod n wd < wd/\0<=vF n wd/\vF n wd < wd:=by have b1:=Int.tmod_lt_of_pos n (show 0 < wd by omega);have b2:=Int.lt_tmod_of_pos n (show 0 < wd by omega);have b3:=Int.emod_nonneg n (show wd≠0 by omega);have b4:=Int.emod_lt_of_pos n (show 0 < wd by omega);refine⟨?_,b2,b1,b3,b4⟩;rw[Int.tmod_eq_emod_of_nonneg (show 0<=Int.tmod n wd+wd by omega)];unfold vF;rw[Int.add_emod_right];have e:=Int.tmod_add_mul_tdiv n wd;have h2:(Int.tmod n wd+wd*Int.tdiv n wd)% wd=Int.tmod n wd % wd:=Int.add_mul_emod_self_left _ _ _;rw[e] at h2;exact h2.symm
theorem zes.KaO(h:p:=by
 clear bM x9 c1;replace hR:=hR.later hL;replace hB:=ai.then hB hL;go_wp2_with fail;refine(iu _ _ _).mono ?_;rintro e w' ⟨rfl,b3⟩;replace hR:=hR.later b3;replace hB:=ai.then hB b3;clear b3 hv';generalize hr:fB _ _=r;have he:vG a.n x.width=r:=by rw[<- hr,HBT.ae]
 have HE:=aa he;clear he hr HBT;unfold bT;have dw:=aJ hR;have gV:=aC.frozen hR;clear hR;go_wp2_with fail;exact bodyPost_ret (v:=.tuple #[.agg (aH r.1),af r.2]) (by simp[results,Tryz.results128,go_sem,dw]) rfl ⟨by rw[HE.ae];rfl,((hB.setCell (bK) _).setCell (bK) _).setCell (bK) _⟩):p:=h
theorem zc5.KaA(h:p:=by
 have bK:w.heap.size<=w.heap.size+1:=by omega
 generalize w.heap.size+1=g at*;have c1:=λ y:Ext W.heap.size W=>(hX.later y.h).cell 5
 simp only[Uaa] at c1;refine aD 11 W.heap.size W (Below.refl _ _) Vx Vx Vx Vx ?_;simp only[Uab];open zes in exact ZbB):p:=h
theorem zix.Kch(h:p:=by go_enter Tryz.func128,Tryz.ntmps128;open zc5 in exact ZaV):p:=h
theorem TA (x:Ex)(A:Option Addr)(c:Nat)(a:Val)(w:World)(h:RV w w.heap.size A [a])(Z1:1<=x.width)(hw2:x.width<=1099511627776)(hn:a.Ok):ar 128 #[.agg (ay x),.slice A 1 c] w λ e w'=>e=.returned (bT (vG a.n x.width).1 (vG a.n x.width).2)/\aj w w':=by
 obtain⟨b,off,rfl,hb,hv⟩:=h.one;obtain⟨n1,n2⟩:=hn;obtain⟨r1,r2,r3,r4,r5⟩:=Z0 a.n x.width Z1;have HBT:fc (vG a.n x.width=fB (wrap64 (a.n - vF a.n x.width)) (decide (-9223372036854775808+vF a.n x.width<=a.n))):=rfl;have hz:(x.width==0)=false:=by rw[beq_eq_false_iff_ne];omega
 generalize vF a.n x.width=rs at*;open zix in exact Zf6
def pZ (v x:Val):Bool:=v.k==x.k && v.n==x.n && v.s.toList==x.s.toList
def Hk (v:Val)(l:List Val):Bool:=l.any (pZ v)
def Z2 (l:List Val)(v:Val)(w:World)(e:Ending)(w':World):Prop:=∃i:Int,e=.returned (af i)/\decide (0<=i)=Hk v l/\aj w w'
theorem zej.KaO(h:p:=by
 clear bM x9 c1 c2 hc;have bW:=ai.then hB (ai.then hb hL)
 have ajK:pZ v x=false->∀y∈l.take (i+1),pZ v y=false:=by
  intro heq y hy;rw[HT.ae] at hy;rcases List.mem_append.1 hy with hy | hy
  ·exact HP.ae y hy
  ·simp at hy;subst hy;exact heq
 have HN2:=aa ajK;clear ajK HT;obtain⟨xk,xn,xs⟩:=x;dsimp only;by_cases h1:v.k=xk
 ·subst h1;by_cases h2:v.n=xn
  ·subst h2;by_cases h3:v.s.toList=xs.toList
   ·have NY:pZ v ⟨v.k,v.n,xs⟩=true:=by simp[pZ,h3]
    have HV1:=aa NY;clear NY;go_wp2_with fail;go_ret;exact⟨_,rfl,by rw[show Hk v l=true from List.any_eq_true.2 ⟨_,HM.ae,HV1.ae⟩];simp,bW⟩
   ·have NY:pZ v ⟨v.k,v.n,xs⟩=false:=by simp[pZ,h3]
    exact Zc4
  ·have NY:pZ v ⟨v.k,xn,xs⟩=false:=by simp[pZ,h2]
   exact Zc4
 ·have NY:pZ v ⟨xk,xn,xs⟩=false:=by simp[pZ,h1]
  exact Zc4):p:=h
theorem TB (A:Option Addr)(c:Nat)(l:List Val)(v:Val)(w:World)(h:RV w w.heap.size A l)(hl:l.length<=1000000):ar 196 #[.slice A l.length c,.agg (aH v)] w (Z2 l v w):=by
 have HH:=aa h;clear h;go_enter Tryz.func196,Tryz.ntmps196;go_wp2_with fail;have hV:=aC.new w 44 (aH v);have hB:=ah w (.cells (aH v) 44);generalize w.alloc (.cells (aH v) 44)=W at*;go_loopw [8] (λ KK wr=>∃i:Nat,i<=l.length/\KK=af i/\(∀x∈l.take i,pZ v x=false)/\aj W wr) (λ KK _=>l.length - (intOf KK).toNat);case atStart=>exact⟨0,Nat.zero_le _,rfl,by simp,Below.refl _ _⟩
 case round=>
  obtain⟨i,hk,rfl,hp,hb⟩:=hrel;have HP:=aa hp;clear hp;by_cases hlt:i < l.length
  ·obtain⟨b,off,rfl,Kx,hc⟩:=((HH.ae.below hB).more hB.size |>.below hb).at_ hlt;have HT:=aa (show l.take (i+1)=l.take i++ [l[i]] by rw[take_add_one,getElem?_eq_getElem hlt];rfl);have HM:=aa (getElem_mem hlt);generalize l[i]=x at*;go_wp2_with fail;have c1:=λ y:Ext wr.heap.size wr=>hc.keep (w':=y.w) λ o=>y.cell (p:=⟨b,o,none⟩) (Nat.lt_of_lt_of_le Kx hb.size)
   have c2:=λ y:Ext wr.heap.size wr=>aJ (hV.later (ai.then hb y.h))
   unfold eh at c1;refine aD 5 wr.heap.size wr (Below.refl _ _) Vx Vx Vx Vx ?_;simp only[Uab];open zej in exact ZbB
  ·have hall:Hk v l=false:=by have:=HP.ae;rw[take_of_length_le WC] at this;unfold Hk;rw[any_eq_false];intro x hx;rw[this x hx];simp
   have Ay:=aa hall;clear hall;go_wp2_with fail;go_ret;exact⟨_,rfl,by rw[Ay.ae];rfl,ai.then hB hb⟩
theorem vH (A:Option Addr)(c:Nat)(l:List Val)(v:Val)(w:World)(h:RV w w.heap.size A l)(hl:l.length<=1000000):ar 171 #[.slice A l.length c,.agg (aH v)] w λ e w'=>e=.returned (.bool (Hk v l))/\aj w w':=by have HH:=aa h;clear h;go_enter Tryz.func171,Tryz.ntmps171;have hB:=ah w (.cells (aH v) 44);go_wp2_with fail;refine(TB A c l v _ ((HH.ae.below hB).more hB.size) hl).mono ?_;rintro e w' ⟨i,rfl,hi,b1⟩;go_wp2_with fail;go_ret;exact⟨rfl,ai.then hB b1⟩
def lR (short:Bool)(l:List Val):Val:=if Hk (bH short) l then bH short else if Hk aP l then aP else bH (!short)
theorem Ku (x:Ex)(A:Option Addr)(c q:Nat)(short:Bool)(l:List Val)(w:World)(h:RV w w.heap.size A l)(hl:l.length<=1000000)(cL:aC w q 4 #[.bool short]):ar 170 #[.agg (ay x),.slice A l.length c,aw q] w λ e w'=>e=.returned (bT (lR short l) 0)/\aj w w':=by
 have HH:=aa h;clear h;have hB:=ai.then (ah w (.cells (ay x) 46)) (ah _ (.cells #[ag 0,af 0,au] 44));have hR:=aC.new (w.alloc (.cells (ay x) 46)) 44 #[ag 0,af 0,au];rw[World.size_alloc] at hR;replace cL:=cL.later hB;have cQ:=cL.cell 0;simp only[getElem?_toArray,getElem?_cons_zero] at cQ;go_enter Tryz.func170,Tryz.ntmps170;go_wp2_with fail;clear cQ;generalize (w.alloc (.cells (ay x) 46)).alloc (.cells #[ag 0,af 0,au] 44)=W at*;have bK:w.heap.size<=w.heap.size+1:=by omega
 generalize w.heap.size+1=g at*;refine(sF short _).mono ?_;rintro e w1 ⟨rfl,b1⟩;unfold bT;replace hR:=hR.later (ai.then b1 (ah w1 (.cells #[ag (bH short).k,af (bH short).n,.string (bH short).s] 44)));replace cL:=cL.later (ai.then b1 (ah w1 (.cells #[ag (bH short).k,af (bH short).n,.string (bH short).s] 44)));replace hB:=ai.then hB (ai.then b1 (ah w1 (.cells #[ag (bH short).k,af (bH short).n,.string (bH short).s] 44)));have hV:=aC.new w1 44 #[ag (bH short).k,af (bH short).n,.string (bH short).s];clear b1;have cV:=aJ hV;go_wp2_with fail;clear cV;generalize w1.alloc (.cells #[ag (bH short).k,af (bH short).n,.string (bH short).s] 44)=W1 at*;generalize w1.heap.size=g1 at*;refine(vH A c l (bH short) _ ((HH.ae.below hB).more hB.size) hl).mono ?_;rintro e w2 ⟨rfl,b3⟩;replace hR:=hR.later b3;replace cL:=cL.later b3;replace hB:=ai.then hB b3;replace hV:=hV.later b3;clear b3;cases h1:Hk (bH short) l
 ·go_wp2_with fail;refine(vH A c l aP _ ((HH.ae.below hB).more hB.size) hl).mono ?_;rintro e w3 ⟨rfl,Lw⟩;replace hR:=hR.later Lw;replace cL:=cL.later Lw;replace hB:=ai.then hB Lw;clear Lw hV;have dw:=aJ hR;have gV:=aC.frozen hR;cases h2:Hk aP l
  ·have cQ:=cL.cell 0;simp only[getElem?_toArray,getElem?_cons_zero] at cQ;have HL:=aa (show lR short l=bH (!short) by simp[lR,h1,h2]);go_wp2_with fail;refine(sF _ _).mono ?_;rintro e w4 ⟨rfl,b4⟩;unfold bT;replace hR:=hR.later b4;replace hB:=ai.then hB b4;clear b4 dw gV cQ;have dw:=aJ hR;have gV:=aC.frozen hR;clear hR;generalize hr:bH (!short)=r at*;exact Zd6
  ·have HL:=aa (show lR short l=aP by simp[lR,h1,h2]);clear hR;go_wp2_with fail;exact bodyPost_ret (v:=.tuple #[.agg #[ag 0,af 0,.string ByteArray.empty],af 0]) (by simp[results,Tryz.results170,go_sem,dw];try rfl) rfl ⟨by rw[HL.ae];rfl,((hB.setCell bK _).setCell bK _).setCell bK _⟩
 ·have HL:=aa (show lR short l=bH short by simp[lR,h1]);have dw:=aJ hR;have gV:=aC.frozen hR;have cV:=aJ hV;clear hR hV;generalize hr:bH short=r at*;exact Zd6
def eU (args wants gives:Int)(alike ajL:Bool)(d:Value):Value:=.agg #[af args,ag wants,ag gives,.bool alike,.bool ajL,d]
def gG (w:World):Nat->Value->Prop
 | 3,v=>v=eU 1 2 2 false false (.func (.func 108) #[] #[])
 | 4,v=>v=eU 1 1 1 false false (.func (.func 110) #[] #[])
 | 5,v=>∃q,v=eU 2 2 2 false false (.func (.func 167) #[] #[aw q])/\aC w q 206 #[(.func (.func 113) #[] #[])]
 | 6,v=>∃q,v=eU 2 2 2 false false (.func (.func 167) #[] #[aw q])/\aC w q 206 #[(.func (.func 114) #[] #[])]
 | 7,v=>∃q,v=eU 2 2 2 false false (.func (.func 167) #[] #[aw q])/\aC w q 206 #[(.func (.func 115) #[] #[])]
 | 8,v=>∃q q2,v=eU 2 2 2 false false (.func (.func 167) #[] #[aw q])/\aC w q 206 #[(.func (.func 168) #[] #[aw q2])]/\aC w q2 206 #[(.func (.func 117) #[] #[])]
 | 9,v=>∃q q2,v=eU 2 2 2 false false (.func (.func 167) #[] #[aw q])/\aC w q 206 #[(.func (.func 168) #[] #[aw q2])]/\aC w q2 206 #[(.func (.func 118) #[] #[])]
 | 10,v=>∃q,v=eU 2 0 1 true false (.func (.func 169) #[] #[aw q])/\aC w q 208 #[(.func (.func 120) #[] #[])]
 | 11,v=>∃q,v=eU 2 0 1 true false (.func (.func 169) #[] #[aw q])/\aC w q 208 #[(.func (.func 121) #[] #[])]
 | 12,v=>∃q,v=eU 2 0 1 true false (.func (.func 169) #[] #[aw q])/\aC w q 208 #[(.func (.func 122) #[] #[])]
 | 13,v=>∃q,v=eU 2 0 1 true false (.func (.func 169) #[] #[aw q])/\aC w q 208 #[(.func (.func 123) #[] #[])]
 | 14,v=>∃q,v=eU 2 0 1 true false (.func (.func 169) #[] #[aw q])/\aC w q 208 #[(.func (.func 124) #[] #[])]
 | 15,v=>∃q,v=eU 2 0 1 true false (.func (.func 169) #[] #[aw q])/\aC w q 208 #[(.func (.func 125) #[] #[])]
 | 16,v=>∃q,v=eU 2 1 1 false true (.func (.func 170) #[] #[aw q])/\aC w q 4 #[.bool false]
 | 17,v=>∃q,v=eU 2 1 1 false true (.func (.func 170) #[] #[aw q])/\aC w q 4 #[.bool true]
 | 18,v=>∃q,v=eU 1 0 1 false true (.func (.func 172) #[] #[aw q])/\aC w q 4 #[.bool true]
 | 19,v=>∃q,v=eU 1 0 1 false true (.func (.func 172) #[] #[aw q])/\aC w q 4 #[.bool false]
 | 20,v=>v=eU 1 2 2 false false (.func (.func 128) #[] #[])
 | _,_=>False
theorem gG.keep{w:World}(hk:∀(q:Nat) (t:TypeId) (cs:Array Value),aC w q t cs->aC w' q t cs):∀(k:Nat) (v:Value),gG w k v->gG w' k v:=by
 intro k v h;unfold gG at*;split at h
 ·exact h
 ·exact h
 ·exact ZbW
 ·exact ZbW
 ·exact ZbW
 ·exact ZhR
 ·exact ZhR
 ·exact ZbW
 ·exact ZbW
 ·exact ZbW
 ·exact ZbW
 ·exact ZbW
 ·exact ZbW
 ·exact ZbW
 ·exact ZbW
 ·exact ZbW
 ·exact ZbW
 ·exact h
 ·exact h
def NZ (w:World)(g:Nat)(es:Array MapEntry)(c:Nat):Prop:=w.heap[g]?=some (.map es c)/\∀e∈es.toList,∃k:Nat,e.key=ag k/\gG w k e.val
variable{es:Array MapEntry}
theorem NZ.lt{w:World}   {c:Nat}(h:NZ w g es c):g < w.heap.size:=by
 rcases Nat.lt_or_ge g w.heap.size with hlt | vC
 ·exact hlt
 ·have:=h.1;rw[Array.getElem?_eq_none vC] at this;cases this
theorem NZ.later{w:World}   {c:Nat}(h:NZ w g es c)(hb:aj w w'):NZ w' g es c:=
 ⟨(hb.block g h.lt).trans h.1,λ e he=>by obtain⟨k,h1,h2⟩:=h.2 e he;exact⟨k,h1,h2.keep (λ q t cs hq=>hq.later hb) _ _⟩⟩
def ix (w:World)(g:Nat)(es:Array MapEntry)(c:Nat):World:= { w with heap:=w.heap.setIfInBounds g (.map es c)}
theorem Hl{w:World}(h:Below B w0 w)(g:Nat)(hg:B<=g)(es:Array MapEntry)(c:Nat):Below B w0 (ix w g es c):=by
 refine⟨h.os,h.tape,h.output,?_,λ k hk=>?_⟩
 ·have:=h.size;simp[ix];exact this
 ·rw[<- h.block k hk];simp only[ix,Array.getElem?_setIfInBounds];rw[if_neg WC]
theorem NZ.push{w:World}   {c:Nat}(h:NZ w g es c)(k:Nat)(v:Value)(hv:gG w k v):NZ (ix w g (es.push ⟨ag k,v,c⟩) (c+1)) g (es.push ⟨ag k,v,c⟩) (c+1):=by
 have hlt:=h.lt
 have keep:∀(q:Nat) (t:TypeId) (cs:Array Value),aC w q t cs->aC (ix w g (es.push ⟨ag k,v,c⟩) (c+1)) q t cs:=by
  intro q t cs hq;have hne:g≠q:=by intro e;subst e;have h1:=h.1;unfold aC at hq;rw[hq] at h1;cases h1
  unfold aC at*;simp only[ix,Array.getElem?_setIfInBounds];rw[if_neg hne];exact hq
 refine⟨by simp[ix,hlt],λ e he=>?_⟩;rw[Array.toList_push] at he;rcases List.mem_append.1 he with he | he
 ·obtain⟨k',h1,h2⟩:=h.2 e he;exact⟨k',h1,h2.keep keep _ _⟩
 ·simp at he;subst he;exact⟨k,rfl,hv.keep keep _ _⟩
theorem xy (e:Bool)(k:Int)(w:World):(Instr.checkKey e 10000 5 (ag k)).run Tryz.prog w=.ok () w:=
 MapKept.run_checkKey Tryz.underlying5 (by simp[MapKept.IsKey]) e 9999
theorem aff (w:World)(g:Nat)(es:Array MapEntry)(c:Nat)(hg:w.heap[g]?=some (.map es c))(k:Int)(v:Value)(hf:Instr.findNow (.int .u8) (ag k) es.toList 0=some none):
  (Instr.mapUpdate 154 (.map (some g)) (ag k) v).run Tryz.prog w=.ok () (ix w g (es.push ⟨ag k,v,c⟩) (c+1)):=by unfold Instr.mapUpdate;simp only[Sem.run_bind,run_underlying Tryz.underlying154,Result.andThen_ok,MapKept.run_getObj_map hg,xy,Instr.findKey,run_underlying Tryz.underlying5,hf,Sem.run_pure,MapKept.run_setObj_map _ hg];rfl
def Hm (fv:Value)(w:World)(e:Ending)(w':World):Prop:=∃q,e=.returned (.agg #[af 2,ag 2,ag 2,.bool false,.bool false,(.func (.func 167) #[] #[aw q])])/\aC w' q 206 #[fv]/\aj w w'
theorem ze5.Ka0(h:p:=by
 go_enter Tryz.func112,Tryz.ntmps112;go_wp2;refine bodyPost_ret (v:=.agg #[af 2,ag 2,ag 2,.bool false,.bool false,(.func (.func 167) #[] #[aw w.heap.size])]) ?_ rfl ?_
 ·simp[results,Tryz.results112,go_sem];try rfl
 ·exact⟨w.heap.size,rfl,(aC.new w 206 #[.func F0 #[] C0]).alloc _,by go_grown⟩):p:=h
theorem mU (F0:Fn)(C0:Array Value)(w:World):ar 112 #[.func F0 #[] C0] w (Hm (.func F0 #[] C0) w):=by
 open ze5 in exact ZcC
def Oa (fv:Value)(w:World)(e:Ending)(w':World):Prop:=∃q,e=.returned (.agg #[af 2,ag 0,ag 1,.bool true,.bool false,(.func (.func 169) #[] #[aw q])])/\aC w' q 208 #[fv]/\aj w w'
theorem ze6.Ka0(h:p:=by
 go_enter Tryz.func119,Tryz.ntmps119;go_wp2;refine bodyPost_ret (v:=.agg #[af 2,ag 0,ag 1,.bool true,.bool false,(.func (.func 169) #[] #[aw w.heap.size])]) ?_ rfl ?_
 ·simp[results,Tryz.results119,go_sem];try rfl
 ·exact⟨w.heap.size,rfl,(aC.new w 208 #[.func F0 #[] C0]).alloc _,by go_grown⟩):p:=h
theorem lI (F0:Fn)(C0:Array Value)(w:World):ar 119 #[.func F0 #[] C0] w (Oa (.func F0 #[] C0) w):=by
 open ze6 in exact ZcC
def Ob (fv:Bool)(w:World)(e:Ending)(w':World):Prop:=∃q,e=.returned (.agg #[af 2,ag 1,ag 1,.bool false,.bool true,(.func (.func 170) #[] #[aw q])])/\aC w' q 4 #[.bool fv]/\aj w w'
theorem ze7.Ka0(h:p:=by
 go_enter Tryz.func126,Tryz.ntmps126;go_wp2;refine bodyPost_ret (v:=.agg #[af 2,ag 1,ag 1,.bool false,.bool true,(.func (.func 170) #[] #[aw w.heap.size])]) ?_ rfl ?_
 ·simp[results,Tryz.results126,go_sem];try rfl
 ·exact ZhQ):p:=h
theorem EZ (fv:Bool)(w:World):ar 126 #[.bool fv] w (Ob fv w):=by
 open ze7 in exact ZcC
def Oc (fv:Bool)(w:World)(e:Ending)(w':World):Prop:=∃q,e=.returned (.agg #[af 1,ag 0,ag 1,.bool false,.bool true,(.func (.func 172) #[] #[aw q])])/\aC w' q 4 #[.bool fv]/\aj w w'
theorem ze8.Ka0(h:p:=by
 go_enter Tryz.func127,Tryz.ntmps127;go_wp2;refine bodyPost_ret (v:=.agg #[af 1,ag 0,ag 1,.bool false,.bool true,(.func (.func 172) #[] #[aw w.heap.size])]) ?_ rfl ?_
 ·simp[results,Tryz.results127,go_sem];try rfl
 ·exact ZhQ):p:=h
theorem Fa (fv:Bool)(w:World):ar 127 #[.bool fv] w (Oc fv w):=by
 open ze8 in exact ZcC
def Z3 (F0:Fn)(C0:Array Value)(w:World)(e:Ending)(w':World):Prop:=∃q q2,e=.returned (.agg #[af 2,ag 2,ag 2,.bool false,.bool false,(.func (.func 167) #[] #[aw q])])/\aC w' q 206 #[.func (.func 168) #[] #[aw q2]]/\aC w' q2 206 #[.func F0 #[] C0]/\aj w w'
theorem ze9.Ka0(h:p:=by
 go_enter Tryz.func116,Tryz.ntmps116;go_wp2_with fail;have h2:=(aC.new w 206 #[.func F0 #[] C0]).alloc (.cells #[af 0,ag 0,ag 0,.bool false,.bool false,.nilFunc] 100);have hR:=aC.new (w.alloc (.cells #[.func F0 #[] C0] 206)) 100 #[af 0,ag 0,ag 0,.bool false,.bool false,.nilFunc];rw[World.size_alloc] at hR;have hB:=ai.then (ah w (.cells #[.func F0 #[] C0] 206)) (ah _ (.cells #[af 0,ag 0,ag 0,.bool false,.bool false,.nilFunc] 100));generalize (w.alloc (.cells #[.func F0 #[] C0] 206)).alloc (.cells #[af 0,ag 0,ag 0,.bool false,.bool false,.nilFunc] 100)=W at*;have bK:w.heap.size<=w.heap.size+1:=by omega
 have hne:w.heap.size≠w.heap.size+1:=by omega
 generalize w.heap.size+1=g at*;refine(mU _ _ _).mono ?_;rintro e w1 ⟨q,rfl,hq,b1⟩;replace h2:=h2.later b1;replace hR:=hR.later b1;replace hB:=ai.then hB b1;clear b1;have TC:q≠g:=λ e=>by subst e;unfold aC at hq hR;rw[hq] at hR;injection hR with hR;injection hR with _ hR _;revert hR;decide
 have cR:∀i,i < 6->∃u,w1.cell? ⟨g,i,none⟩=some u:=λ i hi=>⟨_,(hR.cell i).trans (Array.getElem?_eq_getElem TaD)⟩
 have x0:=hR.cell 0;have x1:=hR.cell 1;have z2:=hR.cell 2;have z3:=hR.cell 3;have z4:=hR.cell 4;have z5:=hR.cell 5;simp only[Uaa] at x0 x1 z2 z3 z4 z5;have fR:=hR.frozen;clear cR hR;go_wp2_with fail;refine bodyPost_ret (v:=.agg #[af 2,ag 2,ag 2,.bool false,.bool false,(.func (.func 167) #[] #[aw q])]) ?_ rfl ?_
 ·simp[results,Tryz.results116,go_sem,x0,x1,z2,z3,z4,z5]
 ·exact⟨q,w.heap.size,rfl,(((((hq.far (p:=⟨g,0,none⟩) TC _).far (p:=⟨g,1,none⟩) TC _).far (p:=⟨g,2,none⟩) TC _).far (p:=⟨g,3,none⟩) TC _).far (p:=⟨g,4,none⟩) TC _).far (p:=⟨g,5,none⟩) TC _,(((((h2.far (p:=⟨g,0,none⟩) hne _).far (p:=⟨g,1,none⟩) hne _).far (p:=⟨g,2,none⟩) hne _).far (p:=⟨g,3,none⟩) hne _).far (p:=⟨g,4,none⟩) hne _).far (p:=⟨g,5,none⟩) hne _,(((((hB.setCell bK _).setCell bK _).setCell bK _).setCell bK _).setCell bK _).setCell bK _⟩):p:=h
theorem Rt (F0:Fn)(C0:Array Value)(w:World):ar 116 #[.func F0 #[] C0] w (Z3 F0 C0 w):=by
 open ze9 in exact ZcC
def iy (k:Nat)(w:World)(e:Ending)(w':World):Prop:=∃v,e=.returned v/\gG w' k v/\aj w w'
theorem aqM (w:World):ar 112 #[(.func (.func 113) #[] #[])] w (iy 5 w):=
 (mU _ _ w).mono λ e w' ⟨q,he,hq,hb⟩=>⟨_,he,⟨q,rfl,hq⟩,hb⟩
theorem aqN (w:World):ar 112 #[(.func (.func 114) #[] #[])] w (iy 6 w):=
 (mU _ _ w).mono λ e w' ⟨q,he,hq,hb⟩=>⟨_,he,⟨q,rfl,hq⟩,hb⟩
theorem aqO (w:World):ar 112 #[(.func (.func 115) #[] #[])] w (iy 7 w):=
 (mU _ _ w).mono λ e w' ⟨q,he,hq,hb⟩=>⟨_,he,⟨q,rfl,hq⟩,hb⟩
theorem aqP (w:World):ar 116 #[(.func (.func 117) #[] #[])] w (iy 8 w):=
 (Rt _ _ w).mono λ e w' ⟨q,q2,he,hq,lr,hb⟩=>⟨_,he,⟨q,q2,rfl,hq,lr⟩,hb⟩
theorem aqQ (w:World):ar 116 #[(.func (.func 118) #[] #[])] w (iy 9 w):=
 (Rt _ _ w).mono λ e w' ⟨q,q2,he,hq,lr,hb⟩=>⟨_,he,⟨q,q2,rfl,hq,lr⟩,hb⟩
theorem ajM (w:World):ar 119 #[(.func (.func 120) #[] #[])] w (iy 10 w):=
 (lI _ _ w).mono λ e w' ⟨q,he,hq,hb⟩=>⟨_,he,⟨q,rfl,hq⟩,hb⟩
theorem ajN (w:World):ar 119 #[(.func (.func 121) #[] #[])] w (iy 11 w):=
 (lI _ _ w).mono λ e w' ⟨q,he,hq,hb⟩=>⟨_,he,⟨q,rfl,hq⟩,hb⟩
theorem ajO (w:World):ar 119 #[(.func (.func 122) #[] #[])] w (iy 12 w):=
 (lI _ _ w).mono λ e w' ⟨q,he,hq,hb⟩=>⟨_,he,⟨q,rfl,hq⟩,hb⟩
theorem ajP (w:World):ar 119 #[(.func (.func 123) #[] #[])] w (iy 13 w):=
 (lI _ _ w).mono λ e w' ⟨q,he,hq,hb⟩=>⟨_,he,⟨q,rfl,hq⟩,hb⟩
theorem ajQ (w:World):ar 119 #[(.func (.func 124) #[] #[])] w (iy 14 w):=
 (lI _ _ w).mono λ e w' ⟨q,he,hq,hb⟩=>⟨_,he,⟨q,rfl,hq⟩,hb⟩
theorem ajR (w:World):ar 119 #[(.func (.func 125) #[] #[])] w (iy 15 w):=
 (lI _ _ w).mono λ e w' ⟨q,he,hq,hb⟩=>⟨_,he,⟨q,rfl,hq⟩,hb⟩
theorem ajS (w:World):ar 126 #[.bool false] w (iy 16 w):=
 (EZ _ w).mono λ e w' ⟨q,he,hq,hb⟩=>⟨_,he,⟨q,rfl,hq⟩,hb⟩
theorem ajT (w:World):ar 126 #[.bool true] w (iy 17 w):=
 (EZ _ w).mono λ e w' ⟨q,he,hq,hb⟩=>⟨_,he,⟨q,rfl,hq⟩,hb⟩
theorem ajU (w:World):ar 127 #[.bool true] w (iy 18 w):=
 (Fa _ w).mono λ e w' ⟨q,he,hq,hb⟩=>⟨_,he,⟨q,rfl,hq⟩,hb⟩
theorem ajV (w:World):ar 127 #[.bool false] w (iy 19 w):=
 (Fa _ w).mono λ e w' ⟨q,he,hq,hb⟩=>⟨_,he,⟨q,rfl,hq⟩,hb⟩
theorem NZ.at_{w:World}   {c:Nat}(h:NZ w g es c) {k:Nat} {v:Value} (hm:(⟨ag (k:Int),v,i⟩:MapEntry)∈es.toList):gG w k v:=by obtain⟨k',Ru,ho⟩:=h.2 _ hm;injection Ru with _ h3;have:k=k':=Int.ofNat.inj h3;subst this;exact ho
def Z4 (w:World)(e:Ending)(w':World):Prop:=∃g es,e=.returned (.map (some g))/\NZ w' g es 18/\(∀k:Nat,3<=k->k<=20->∃i v,Instr.findNow (.int .u8) (ag k) es.toList 0=some (some (i,v))/\gG w' k v)/\(∀k:Int,k < 3\/20 < k->Instr.findNow (.int .u8) (ag k) es.toList 0=some none)/\aj w w'
theorem qV{w:World} {n k:Nat}  {v:Value}(hT:NZ w g es n)(hB:aj w0 w)(hg:w0.heap.size<=g)(hv:gG w' k v)(b:aj w w')(hf:Instr.findNow (.int .u8) (ag k) es.toList 0=some none):
  (Instr.mapUpdate 154 (.map (some g)) (ag (k:Int)) v).run Tryz.prog w'=.ok () (ix w' g (es.push ⟨ag (k:Int),v,n⟩) (n+1))/\NZ (ix w' g (es.push ⟨ag (k:Int),v,n⟩) (n+1)) g (es.push ⟨ag (k:Int),v,n⟩) (n+1)/\aj w0 (ix w' g (es.push ⟨ag (k:Int),v,n⟩) (n+1)):=
 have hT:=hT.later b
 ⟨aff w' g es n hT.1 k v hf,hT.push k v hv,Hl (ai.then hB b) g hg _ _⟩
theorem Bi (w:World):ar 75 #[] w (Z4 w):=by
 have xz:= @run_makeMap Tryz.prog;have bK:w.heap.size<=w.heap.size:=Nat.le_refl _;have hT:NZ (w.alloc (.map #[] 0)) w.heap.size #[] 0:=⟨heap_alloc_new w _,λ e he=>by simp at he⟩;obtain⟨i3,hT,hB⟩:=qV (k:=3) (v:=.agg #[af 1,ag 2,ag 2,.bool false,.bool false,(.func (.func 108) #[] #[])]) hT (ah w _) bK rfl (Below.refl _ _) rfl;obtain⟨i4,hT,hB⟩:=qV (k:=4) (v:=.agg #[af 1,ag 1,ag 1,.bool false,.bool false,(.func (.func 110) #[] #[])]) hT hB bK rfl (Below.refl _ _) rfl;simp only[push_toArray,nil_append,cons_append,Nat.reduceAdd,Nat.zero_add,Int.cast_ofNat_Int] at i3 i4 hT hB;have HT:=aa hT;have HB:=aa hB;clear hT hB;go_enter Tryz.func75,Tryz.ntmps75;go_wp2_with fail;clear i3 i4 xz;generalize ix (ix _ _ _ _) _ _ _=W at*;generalize ee:w.heap.size=g at HT bK ⊢;have hgb:w.heap.size<=g:=by omega
 clear bK
 iterate 14
  first | refine(aqM _).mono ?_ | refine(aqN _).mono ?_ | refine(aqO _).mono ?_ | refine(aqP _).mono ?_ | refine(aqQ _).mono ?_ | refine(ajM _).mono ?_ | refine(ajN _).mono ?_ | refine(ajO _).mono ?_ | refine(ajP _).mono ?_ | refine(ajQ _).mono ?_ | refine(ajR _).mono ?_ | refine(ajS _).mono ?_ | refine(ajT _).mono ?_ | refine(ajU _).mono ?_
  rintro e w' ⟨v,rfl,hv,b⟩;obtain⟨i,hT,hB⟩:=qV HT.ae HB.ae hgb hv b rfl;simp only[push_toArray,nil_append,cons_append,Nat.reduceAdd,Int.cast_ofNat_Int] at i hT hB;clear HT HB;have HT:=aa hT;have HB:=aa hB;clear hT hB b hv;go_wp2_with fail;clear i;generalize ix w' g _ _=W at*;clear w'
 refine(ajV _).mono ?_;rintro e w' ⟨v,rfl,hv,b⟩;obtain⟨i,hT,hB⟩:=qV HT.ae HB.ae hgb hv b rfl;obtain⟨j,hT,hB⟩:=qV (k:=20) (v:=.agg #[af 1,ag 2,ag 2,.bool false,.bool false,(.func (.func 128) #[] #[])]) hT hB hgb rfl (Below.refl _ _) rfl;simp only[push_toArray,nil_append,cons_append,Nat.reduceAdd,Int.cast_ofNat_Int] at i j hT hB;clear HT HB;have HT:=aa hT;have HB:=aa hB;clear hT hB b hv;go_wp2_with fail;clear i j;generalize ix _ g _ _=W at*;go_ret;refine⟨g,_,rfl,HT.ae,?_,?_,HB.ae⟩
 ·intro k h1 h2;have hk:k=3\/k=4\/k=5\/k=6\/k=7\/k=8\/k=9\/k=10\/k=11\/k=12\/k=13\/k=14\/k=15\/k=16\/k=17\/k=18\/k=19\/k=20:=by omega
  rcases hk with rfl | rfl | rfl | rfl | rfl | rfl | rfl | rfl | rfl | rfl | rfl | rfl | rfl | rfl | rfl | rfl | rfl | rfl;all_goals exact⟨_,_,rfl,NZ.at_ HT.ae (by simp;rfl)⟩
 ·intro k hk;have q:∀j:Int,3<=j->j<=20->(k==j)=false:=λ j h1 h2=>by rw[beq_eq_false_iff_ne];omega
  simp only[Instr.findNow,Instr.sameNow];simp[q 3,q 4,q 5,q 6,q 7,q 8,q 9,q 10,q 11,q 12,q 13,q 14,q 15,q 16,q 17,q 18,q 19,q 20]
def Rv (P:Program)(l:List Oper)(R:World->World->Prop)(V:Nat->World->Value->Prop)(U:Nat->World->(Operand->Value)->Prop)(a0:Act)(w0:World)(i:Nat)(o:Oper):Prop:=
 ∀ρ w,oT ρ->R w0 w->lO l V a0.eval ρ w o (tmpsOf o)->
  match o.guard with
  | none=>zJ P o ρ w λ v w'=>R w w'/\V i w' v/\U i w' ρ
  | some _=>False
def Hn (P:Program)(l:List Oper)(R:World->World->Prop)(V:Nat->World->Value->Prop)(U:Nat->World->(Operand->Value)->Prop)(a0:Act)(w0:World):List Oper->Nat->Prop
 | [],_=>True
 | o::rest,i=>Rv P l R V U a0 w0 i o/\Hn P l R V U a0 w0 rest (i+1)
variable{U:Nat->World->(Operand->Value)->Prop}
theorem Fb:∀ {l:List Oper} {k:Nat},Hn P L R V U a0 w0 l k->∀i o,l[i]?=some o->Rv P L R V U a0 w0 (k+i) o
 | [],_,_,i,o,h=>by simp at h
 | o'::rest,k,hs,0,o,h=>by simp at h;subst h;exact hs.1
 | o'::rest,k,hs,i+1,o,h=>by have:=Fb hs.2 i o Tal;rwa [show k+(i+1)=k+1+i by omega]
def Xy (l:List Oper)(R:World->World->Prop)(U:Nat->World->(Operand->Value)->Prop):Prop:=
 ∀i o w w' ρ ρ',l[i]?=some o->U i w ρ->R w w'->(∀j∈eY o,∀oj d,l[j]?=some oj->oj.dst=some d->ρ' (.tmp d)=ρ (.tmp d))->U i w' ρ'
structure Inv2 (l:List Oper) (V:Nat->World->Value->Prop) (U:Nat->World->(Operand->Value)->Prop) (R:World->World->Prop) (a0:Act) (w0:World) (m:Nat) (listed:Array Bool) (a:Act) (w:World):Prop where
 base:Inv l V R a0 w0 m listed a w
 post:∀i o,l[i]?=some o->listed.getD i false=true->U i w a.eval
section
variable {P:Program} {l zs:List Oper} {Q:Exit->Act->World->Prop} {R:World->World->Prop} {V:Nat->World->Value->Prop} {U:Nat->World->(Operand->Value)->Prop} {a0:Act} {w0:World}
theorem Inv2.step (bh:dO l a0.tmps.size l 0=true)(hV:∀i w w' v,V i w v->R w w'->V i w' v)(hU:Xy l R U)(hrefl:∀w,R w w)(hT:∀a b c,R a b->R b c->R a c) {m:Nat} {listed:Array Bool} {a:Act} {w w':World} {v:Value}(I:Inv2 l V U R a0 w0 m listed a w) {i:Nat} {o:Oper}(ho:l[i]?=some o)(EU:i < m)
  (V9:listed.getD i false=false) (hall:∀j∈eY o,listed.getD j false=true) (hr:R w w') (hv:V i w' v) (hu:U i w' a.eval):Inv2 l V U R a0 w0 m (listed.setIfInBounds i true) (a.put o.dst v) w':=by
 refine⟨I.base.step bh hV hT ho EU V9 hall hr hv,?_⟩;have ui:i < listed.size:=by rw[I.base.len];exact EU
 have ju:=cH bh i o ho;rw[Nat.zero_add] at ju
 have keep:∀j d oj,l[j]?=some oj->oj.dst=some d->j≠i->(a.put o.dst v).eval (.tmp d)=a.eval (.tmp d):=by
  intro j d oj hj hd Ts;refine Act.eval_put λ d' e e'=>?_
  injection e' with e';subst e';have qP:=cH bh j oj hj;simp only[lN,hd,Bool.and_eq_true,Nat.zero_add,beq_iff_eq] at qP;simp only[lN,e,Bool.and_eq_true,beq_iff_eq] at ju;rw[qP.1.1.2.2] at ju;have:=ju.1.1.2.2;injection this with this;exact Ts this
 intro j oj hj hl;by_cases Ts:j=i
 ·subst Ts;rw[hj] at ho;injection ho with ho;subst ho;refine hU j oj w' w' a.eval _ hj hu (hrefl _) λ k hk ok d tH hd=>keep k d ok tH hd ?_
  intro e';subst e';have:=hall k hk;rw[V9] at this;cases this
 ·have hl':listed.getD j false=true:=by rw[eG _ _ _ ui,if_neg Ts] at hl;exact hl
  refine hU j oj w w' a.eval _ hj (I.post j oj hj hl') hr λ k hk ok d tH hd=>keep k d ok tH hd ?_
  intro e';subst e';have:=I.base.closed j oj hj hl' k hk;rw[V9] at this;cases this
theorem zgT.KbD(h:p:=by
 rw[<- ha] at hK;replace hK:=hK λ i o hi=>I2.post i o hi (hall i (by
  rcases Nat.lt_or_ge i l.length with h' | h'
  ·exact h'
  ·rw[getElem?_eq_none h'] at hi;cases hi))
 exact Zby):p:=h
theorem zcF.Kav(h:p:=by open zgT in exact Zek):p:=h
theorem Fc {N:Nat}(bh:dO l N l 0=true)(hz:eK (l++zs) zs l.length=true)(hf:∀w,R w0 w->bF V (λ a w=>(∀i o,l[i]?=some o->U i w a.eval)->wpList P (l++zs).toArray Q zs a w) l 0 a0 w) {listed:Array Bool} {a:Act} {w:World}(I2:Inv2 l V U R a0 w0 (l++zs).length listed a w)
  (h0:bA l.length listed=0):wpAny P .any (l++zs).toArray Q zs.length listed a w:=by have I:=I2.base;open zcF in exact ZaO
theorem zam.KW(h:p:=by
 have hst:=Fb hs i oj vy;rw[Nat.zero_add] at hst;have fy:=Inv.reads bh I vy Bf eZ (tmpsOf oj) (λ _ h=>h);have hstep:=hst a.eval w (mQ a) I.r fy;have Ko:∀v w',R w w'->V i w' v->U i w' a.eval->wpAny P .any (l++zs).toArray Q fuel (listed.setIfInBounds i true) (a.put oj.dst v) w':=by intro v w' hr hv hu;refine ih _ _ _ (I2.step bh hV hU hrefl Bd vy zK Bf eZ hr hv hu) ?_;have:=ll l.length listed i Tbf ui Bf;omega
 unfold wpOp;rw[oV];show if Region.wanted oj (yielded (l++zs).toArray a.tmps)=true then _ else _
 cases hg:oj.guard with
 | none=>rw[if_pos (by simp[Region.wanted,hg])];simp only[hg] at hstep;exact .inl (jt hstep λ v w' h=>Ko v w' h.1 h.2.1 h.2.2)
 | some g=>simp only[hg] at hstep):p:=h
theorem Ho {id:Nat} {ops:List Oper}(zs:List Oper)(l:List Oper)(kG:ops=l++zs)(R:World->World->Prop)(hrefl:∀w,R w w)(Bd:∀a b c,R a b->R b c->R a c)(od:∀w,R w w.drew)
  (V:Nat->World->Value->Prop) (U:Nat->World->(Operand->Value)->Prop) (hU:Xy l R U) (hV:∀Kx w w' v,V Kx w v->R w w'->V Kx w' v) (hm:P.follows .mixedOrders=true) (bh:dO l a0.tmps.size l 0=true) (hz:eK (l++zs) zs l.length=true)
  (hs:Hn P l R V U a0 w0 l 0) (hf:∀w,R w0 w->bF V (λ a w=>(∀Kx o,l[Kx]?=some o->U Kx w a.eval)->wpList P ops.toArray Q zs a w) l 0 a0 w):(Code.region id ops.toArray true).wp P Q a0 w0:=by
 subst kG
 have main:∀(fuel:Nat) (listed:Array Bool) (a:Act) (w:World),Inv2 l V U R a0 w0 (l++zs).length listed a w->fuel=bA l.length listed+zs.length->wpAny P .any (l++zs).toArray Q fuel listed a w:=by
  intro fuel
  induction fuel with
  | zero=>
    intro listed a w I2 hfu;have I:=I2.base;have h0:bA l.length listed=0:=by omega
    have hz0:zs.length=0:=by omega
    have:=Fc bh hz hf I2 h0;rwa [hz0] at this
  | succ fuel ih=>
    intro listed a w I2 hfu;have I:=I2.base;by_cases h0:bA l.length listed=0
    ·have:=Fc bh hz hf I2 h0;exact Zf4
    ·open zam in exact Zae
 refine wp_region_any hm ?_;have h0:R w0 w0.drew:=od w0;have:=main (l++zs).toArray.size (Array.replicate (l++zs).toArray.size false) a0 w0.drew ⟨⟨h0,rfl,rfl,λ _ _=>rfl,(λ Kx o d _ h=>by rw[br] at h;cases h),(λ Kx o _ h=>by rw[br] at h;cases h),by simp,λ Kx _=>br _ _⟩,λ Kx o _ h=>by rw[br] at h;cases h⟩ (by
  have:bA l.length (Array.replicate (l++zs).toArray.size false)=l.length:=by
   unfold bA
   rw[List.filter_eq_self.2 (λ Kx _=>by rw[br];rfl),length_range]
  rw[this];simp)
 exact this
end
def kH (op:Int):Bool:=decide (3<=op/\op<=20)
def cJ (a wa gi:Int)(al nu:Bool)(d:Value):Array Value:= #[af a,ag wa,ag gi,.bool al,.bool nu,d]
def oX:Array Value:= #[af 0,ag 0,ag 0,.bool false,.bool false,.nilFunc]
def yR (w:World)(op:Int)(o:Array Value):Prop:=(kH op=true/\gG w op.toNat (.agg o))\/(kH op=false/\o=oX)
theorem gG.shape{w:World} {k:Nat} {v:Value}(h:gG w k v):∃a wa gi al nu F C,(a=1\/a=2)/\v=.agg (cJ a wa gi al nu (.func F #[] C)):=by
 unfold gG at h;split at h
 all_goals first
  | exact⟨_,_,_,_,_,_,_,.inl rfl,h⟩
  |(obtain⟨q,h1,_⟩:=h;exact⟨_,_,_,_,_,_,_,.inl rfl,h1⟩)
  |(obtain⟨q,h1,_⟩:=h;exact⟨_,_,_,_,_,_,_,.inr rfl,h1⟩)
  |(obtain⟨q,q2,h1,_⟩:=h;exact⟨_,_,_,_,_,_,_,.inr rfl,h1⟩)
  | exact h.elim
theorem yR.shape{w:World} {op:Int} {o:Array Value}(h:yR w op o):∃a wa gi al nu d,o=cJ a wa gi al nu d/\(kH op=true->a≠0)/\(d=.nilFunc\/∃F C,d=.func F #[] C):=by
 rcases h with ⟨h1,h2⟩|⟨h1,rfl⟩
 ·obtain⟨a,wa,gi,al,nu,F,C,ha,e⟩:=h2.shape;injection e with e;exact⟨a,wa,gi,al,nu,_,e,λ _=>by omega,.inr ⟨F,C,rfl⟩⟩
 ·exact⟨0,0,0,false,false,.nilFunc,rfl,(λ h=>by rw[h1] at h;cases h),.inl rfl⟩
theorem gG.Kv{w:World}(hk:∀(q:Nat) (t:TypeId) (cs:Array Value),t≠100->aC w q t cs->aC w' q t cs):∀(k:Nat) (v:Value),gG w k v->gG w' k v:=by
 intro k v h;unfold gG at*;split at h
 all_goals first
  | exact h
  |(obtain⟨q,q2,h1,h2,h3⟩:=h;exact⟨q,q2,h1,hk _ _ _ Taa h2,hk _ _ _ Taa h3⟩)
  |(obtain⟨q,h1,h2⟩:=h;exact⟨q,h1,hk _ _ _ Taa h2⟩)
theorem yR.Kv{w:World} {op:Int} {o:Array Value}(hk:∀(q:Nat) (t:TypeId) (cs:Array Value),t≠100->aC w q t cs->aC w' q t cs)(h:yR w op o):yR w' op o:=by
 rcases h with ⟨h1,h2⟩| h1
 ·exact .inl ⟨h1,h2.Kv hk⟩
 ·exact .inr h1
structure FR (op:Int) (B:Nat) (a b:World):Prop where
 below:Below B a b
 blk:∀(g:Nat) (t:TypeId) (cs:Array Value),aC a g t cs->aC b g t cs\/(t=100/\B<=g/\∃o:Array Value,yR b op o/\aC b g t o)
 map:∀(g:Nat) (es:Array MapEntry) (c:Nat),a.heap[g]?=some (Obj.map es c)->b.heap[g]?=some (Obj.map es c)
theorem FR.refl (op:Int)(B:Nat)(w:World):FR op B w w:=⟨Below.refl _ _,λ _ _ _ h=> .inl h,λ _ _ _ h=>h⟩
variable{cs:Array Value}
theorem FR.other{op:Int}  (h:FR op B a b)  {t:TypeId} (hb:aC a g t cs)(ht:t≠100):aC b g t cs:=by
 rcases h.blk g t cs hb with h1 |⟨h1,_⟩
 ·exact h1
 ·exact absurd h1 ht
theorem gG.fr{op:Int}  (h:FR op B a b)(k:Nat)(v:Value)(hk:gG a k v):gG b k v:=hk.Kv (λ q t cs ht hq=>h.other hq ht) _ _
variable{op':Int}
theorem yR.fr{op:Int}    {o:Array Value}(h:FR op B a b)(ho:yR a op' o):yR b op' o:=ho.Kv λ q t cs ht hq=>h.other hq ht
theorem FR.trans{op:Int}  {c:World}(h:FR op B a b)(k:FR op B b c):FR op B a c:=by
 refine⟨h.below.trans k.below,λ g t cs hb=>?_,λ g es c hb=>k.map _ _ _ (h.map _ _ _ hb)⟩;rcases h.blk g t cs hb with h1 |⟨h1,h2,o,h3,h4⟩
 ·exact k.blk g t cs h1
 ·rcases k.blk g t o h4 with h6 | h6
  ·exact .inr ⟨h1,h2,o,h3.fr k,h6⟩
  ·exact .inr h6
theorem FR.later{op:Int}  (h:aj a b)(hB:B<=a.heap.size):FR op B a b:=
 ⟨h.mono hB,λ g t cs hb=> .inl (hb.later h),λ g es c hb=>by
   rw[h.block g ?_]
   ·exact hb
   ·rcases Nat.lt_or_ge g a.heap.size with h' | h'
    ·exact h'
    ·rw[Array.getElem?_eq_none h'] at hb;cases hb⟩
theorem yR.later{op:Int} {o:Array Value}(ho:yR a op o)(h:aj a b):yR b op o:=ho.fr (op:=0) (FR.later h (Nat.le_refl _))
def qW (op:Int):Int:=if op=3\/op=4\/18<=op then 1 else 2
variable{wa gi:Int}{al nu:Bool}{d:Value}
theorem gG.args{w:World} {k:Nat} {a:Int}  (h:gG w k (.agg (cJ a wa gi al nu d))):a=qW k:=by
 unfold gG at h;split at h
 all_goals first
  | exact h.elim
  |(simp[eU,cJ] at h;simp[qW];omega)
  |(obtain⟨q,q2,h1,_⟩:=h;simp[eU,cJ] at h1;simp[qW];omega)
  |(obtain⟨q,h1,_⟩:=h;simp[eU,cJ] at h1;simp[qW];omega)
theorem yR.args{w:World} {op a:Int}  (h:yR w op (cJ a wa gi al nu d))(ho:kH op=true):a=qW op:=by
 rcases h with ⟨_,h2⟩|⟨h1,_⟩
 ·have h3:3<=op/\op<=20:=by simpa [kH] using ho
  have:=h2.args;rwa [show((op.toNat:Nat):Int)=op by omega] at this
 ·rw[ho] at h1;cases h1
def vI (w:World)(g:Nat)(a wa gi:Int)(al nu:Bool)(d:Value):World:=(((((w.setCell ⟨g,0,none⟩ (af a)).setCell ⟨g,1,none⟩ (ag wa)).setCell ⟨g,2,none⟩ (ag gi)).setCell ⟨g,3,none⟩ (.bool al)).setCell ⟨g,4,none⟩ (.bool nu)).setCell ⟨g,5,none⟩ d
theorem Fe{w:World} {q:Nat} {t:TypeId} (h:aC w q t cs)(hg:q≠g)(a wa gi:Int)(al nu:Bool)(d:Value):aC (vI w g a wa gi al nu d) q t cs:=
 (((((h.far (p:=⟨g,0,none⟩) hg _).far (p:=⟨g,1,none⟩) hg _).far (p:=⟨g,2,none⟩) hg _).far (p:=⟨g,3,none⟩) hg _).far (p:=⟨g,4,none⟩) hg _).far (p:=⟨g,5,none⟩) hg _
theorem Bj{w:World}  {t:TypeId} (h:aC w g t cs)(hs:cs.size=6)(a wa gi:Int)(al nu:Bool)(d:Value):aC (vI w g a wa gi al nu d) g t (cJ a wa gi al nu d):=by
 have h1:=(((((h.aW 0 (af a)).aW 1 (ag wa)).aW 2 (ag gi)).aW 3 (.bool al)).aW 4 (.bool nu)).aW 5 d
 have e:(((((cs.setIfInBounds 0 (af a)).setIfInBounds 1 (ag wa)).setIfInBounds 2 (ag gi)).setIfInBounds 3 (.bool al)).setIfInBounds 4 (.bool nu)).setIfInBounds 5 d=cJ a wa gi al nu d:=by
  clear h1 h;obtain⟨l⟩:=cs
  match l,hs with
  | [c0,c1,c2,c3,c4,c5],_=>simp[cJ]
 rw[e] at h1;exact h1
theorem Kw{w:World}(h:Below B w0 w) (hg:B<=g)(a wa gi:Int)(al nu:Bool)(d:Value):Below B w0 (vI w g a wa gi al nu d):=
 (((((h.setCell (p:=⟨g,0,none⟩) hg _).setCell (p:=⟨g,1,none⟩) hg _).setCell (p:=⟨g,2,none⟩) hg _).setCell (p:=⟨g,3,none⟩) hg _).setCell (p:=⟨g,4,none⟩) hg _).setCell (p:=⟨g,5,none⟩) hg _
theorem dP{op:Int}  {w:World}  (h:aC w g 100 cs)(hs:cs.size=6)(hg:B<=g) {a:Int}  (ho:yR w op (cJ a wa gi al nu d)):
  FR op B w (vI w g a wa gi al nu d)/\yR (vI w g a wa gi al nu d) op (cJ a wa gi al nu d):=by
 have hne:∀(q:Nat) (t:TypeId) (cs':Array Value),t≠100->aC w q t cs'->q≠g:=by intro q t cs' ht hq e;subst e;unfold aC at h hq;rw[h] at hq;injection hq with hq;injection hq with _ hq _;exact ht hq.symm
 have Q7:yR (vI w g a wa gi al nu d) op (cJ a wa gi al nu d):=ho.Kv λ q t cs' ht hq=>Fe hq (hne q t cs' ht hq) _ _ _ _ _ _
 refine⟨⟨Kw (Below.refl _ _) hg _ _ _ _ _ _,λ q t cs' hq=>?_,λ q es c hq=>?_⟩,Q7⟩
 ·by_cases e:q=g
  ·subst e;have ht:t=100:=by unfold aC at h hq;rw[h] at hq;injection hq with hq;injection hq with _ hq _;exact hq.symm
   subst ht;exact .inr ⟨rfl,hg,_,Q7,Bj h hs _ _ _ _ _ _⟩
  ·exact .inl (Fe hq e _ _ _ _ _ _)
 ·have e:q≠g:=λ e=>by subst e;unfold aC at h;rw[h] at hq;cases hq
  have k:=λ(u:World) (i:Nat) (v:Value)=>Below.heap_setCell u ⟨g,i,none⟩ v q e
  unfold vI;rw[k,k,k,k,k,k];exact hq
theorem Xz (w:World)(g:Nat)(es:Array MapEntry)(c:Nat)(hg:w.heap[g]?=some (.map es c))(k:Int)(i:Nat)(v:Value)(hf:Instr.findNow (.int .u8) (ag k) es.toList 0=some (some (i,v))):
  (Instr.lookup 154 (.map (some g)) (ag k) true).run Tryz.prog w=.ok (.tuple #[v,.bool true]) w:=by unfold Instr.lookup;simp only[Sem.run_bind,run_underlying Tryz.underlying154,Result.andThen_ok,MapKept.run_getObj_map hg,xy,Instr.findKey,run_underlying Tryz.underlying5,hf,Sem.run_pure];rfl
theorem Z5 (w:World):(zeroValue 100).run Tryz.prog w=.ok (.agg oX) w:=by exact ZhU
theorem Z6 (w:World)(g:Nat)(es:Array MapEntry)(c:Nat)(hg:w.heap[g]?=some (.map es c))(k:Int)(hf:Instr.findNow (.int .u8) (ag k) es.toList 0=some none):
  (Instr.lookup 154 (.map (some g)) (ag k) true).run Tryz.prog w=.ok (.tuple #[.agg oX,.bool false]) w:=by unfold Instr.lookup;simp only[Sem.run_bind,run_underlying Tryz.underlying154,Result.andThen_ok,MapKept.run_getObj_map hg,xy,Instr.findKey,run_underlying Tryz.underlying5,hf,Sem.run_pure,Z5];rfl
def Found (w:World)(op:Int)(v:Value):Prop:=∃(g:Nat) (es:Array MapEntry),v=.map (some g)/\w.heap[g]?=some (.map es 18)/\
 ((kH op=true/\∃i o,Instr.findNow (.int .u8) (ag op) es.toList 0=some (some (i,.agg o))/\gG w op.toNat (.agg o))\/(kH op=false/\Instr.findNow (.int .u8) (ag op) es.toList 0=some none))
theorem Found.fr{op:Int} {v:Value}(h:FR op' B a b)(ho:Found a op v):Found b op v:=by
 obtain⟨g,es,h1,h2,h3⟩:=ho;refine⟨g,es,h1,h.map _ _ _ h2,?_⟩;rcases h3 with ⟨h4,i,o,h5,h6⟩| h3
 ·exact .inl ⟨h4,i,o,h5,gG.fr h _ _ h6⟩
 ·exact .inr h3
theorem TD (op:Int)(w:World):ar 75 #[] w λ e w'=>∃v,e=.returned v/\Found w' op v/\aj w w':=by
 refine(Bi w).mono ?_;rintro e w' ⟨g,es,he,ht,Kl,hout,hb⟩;refine⟨_,he,⟨g,es,rfl,ht.1,?_⟩,hb⟩;cases ho:kH op
 ·refine .inr ⟨rfl,hout op ?_⟩;simp[kH] at ho;omega
 ·have h2:3<=op/\op<=20:=by simpa [kH] using ho
  obtain⟨i,v,h3,h4⟩:=Kl op.toNat WC WC;have e1:((op.toNat:Nat):Int)=op:=by omega
  rw[e1] at h3;obtain⟨a,wa,gi,al,nu,F,C,_,rfl⟩:=h4.shape;exact .inl ⟨rfl,i,_,h3,h4⟩
end Go.Proofs.YtndgjggokjickaaGreatDoor
