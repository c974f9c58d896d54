/- Parts of the proof. -/
import Derived.Below
import Derived.BigQuiet
import Derived.Test.YtehhdlgjfdnafaaGreatDoorXE0
namespace Go.Proofs.YtehhdlgjfdnafaaGreatDoor
open List
variable{p:Prop}
set_option maxHeartbeats 90000000
set_option maxRecDepth 100000
open Go.RowKit
def tmpsOf (o:Oper):List Tmp:=o.op.operands.toList.filterMap λ | .tmp t=>some t | _=>none
def jb (t:Tmp):List Oper->Nat->Option Nat
 | [],_=>none
 | o::l,i=>if o.dst=some t then some i else jb t l (i+1)
def fB (o:Oper)(j:Nat):Bool:=o.after.toList.any λ e=>Region.binds .any e && Nat.beq e.on j
def bw (l:List Oper)(o:Oper)(t:Tmp):Option Nat:=
 match jb t l 0 with
 | some j=>if fB o j then some j else none
 | none=>none
def fA (o:Oper):List Nat:=(o.after.toList.filter (Region.binds .any ·)).map (·.on)
def lQ (l:List Oper)(N:Nat)(i:Nat)(o:Oper):Bool:=
 (fA o).all (λ j=>decide (j < i))&&
 (match o.dst with | some d=>decide (d < N)&&(jb d l 0==some i)| none=>true)&&
 (tmpsOf o).all (λ t=>match jb t l 0 with | some j=>fB o j ||(match l[j]? with | some oj=>fB oj i | none=>false)| none=>true)&&
 (match o.guard with | none=>true | some (j,_)=>fB o j &&(match l[j]? with | some oj=>oj.dst.isSome | none=>false))
def cM (l:List Oper)(N:Nat):List Oper->Nat->Bool
 | [],_=>true
 | o::rest,i=>lQ l N i o && cM l N rest (i+1)
def zz (l:List Oper):Nat->List Nat->Bool
 | 0,_=>true
 | k+1,S=>S.contains k && zz l k (S++(match l[k]? with | some o=>fA o | none=> []))
def dw (l:List Oper):List Oper->Nat->Bool
 | [],_=>true
 | o::rest,i=>(fA o).all (λ j=>decide (j < i))&& zz l i (fA o)&& dw l rest (i+1)
def wk (P:Program)(o:Oper)(ρ:Operand->Value)(w:World)(T:Value->World->Prop):Prop:=
 match (execOp ρ o).run P w with
 | .ok (.value v) w'=>T v w'
 | .ok .skip w'=>T undef w'
 | .ok (.enter f args) w'=>Calls P f args w' λ e w''=>∃v,e=.returned v/\T v w''
 | _=>False
structure bP (ρ:Operand->Value):Prop where
 const:∀v,ρ (.const v)=v
 func:∀f,ρ (.func f)=.func (.func f) #[] #[]
 global:∀g,ρ (.global g)=.pointer (some ⟨g,0,none⟩)
theorem lR (a:Act):bP a.eval:=⟨λ _=>rfl,λ _=>rfl,λ _=>rfl⟩
def lS (l:List Oper)(V:Nat->World->Value->Prop)(ρ0 ρ:Operand->Value)(w:World)(o:Oper):List Tmp->Prop
 | []=>True
 | t::ts=>(match bw l o t with | some j=>V j w (ρ (.tmp t))| none=>ρ (.tmp t)=ρ0 (.tmp t))/\lS l V ρ0 ρ w o ts
def Ri (P:Program)(l:List Oper)(R:World->World->Prop)(V:Nat->World->Value->Prop)(a0:Act)(w0:World)(i:Nat)(o:Oper):Prop:=
 ∀ρ w,bP ρ->R w0 w->lS l V a0.eval ρ w o (tmpsOf o)->
  match o.guard with
  | none=>wk P o ρ w λ v w'=>R w w'/\V i w' v
  | some (j,want)=>match (l[j]?).bind (·.dst)with
    | some d=>V j w (ρ (.tmp d))->(ρ (.tmp d)=.bool want->wk P o ρ w λ v w'=>R w w'/\V i w' v)/\(ρ (.tmp d)≠ .bool want->V i w undef)
    | none=>False
def Steps (P:Program)(l:List Oper)(R:World->World->Prop)(V:Nat->World->Value->Prop)(a0:Act)(w0:World):List Oper->Nat->Prop
 | [],_=>True
 | o::rest,i=>Ri P l R V a0 w0 i o/\Steps P l R V a0 w0 rest (i+1)
def cN (V:Nat->World->Value->Prop)(K:Act->World->Prop):List Oper->Nat->Act->World->Prop
 | [],_,a,w=>K a w
 | o::rest,i,a,w=>match o.dst with
   | some d=>∀v,V i w v->cN V K rest (i+1) (a.put (some d) v) w
   | none=>cN V K rest (i+1) a w
variable{P:Program}{L:List Oper}{R:World->World->Prop}{V:Nat->World->Value->Prop}{a0:Act}{w0:World}
theorem Gg:∀ {l:List Oper} {k:Nat},Steps P L R V a0 w0 l k->∀i o,l[i]?=some o->Ri P L R V a0 w0 (k+i) o
 | [],_,_,i,o,h=>by simp at h
 | x::l,k,hs,0,o,h=>by simp at h;subst h;exact hs.1
 | x::l,k,hs,i+1,o,h=>by have:=Gg hs.2 i o Tam;rwa [show k+1+i=k+(i+1) by omega] at this
variable{N:Nat}
theorem cw:∀ {l:List Oper} {k:Nat},cM L N l k=true->∀i o,l[i]?=some o->lQ L N (k+i) o=true
 | [],_,_,i,o,h=>by simp at h
 | x::l,k,hs,0,o,h=>by simp at h;subst h;simp only[cM,Bool.and_eq_true] at hs;exact hs.1
 | x::l,k,hs,i+1,o,h=>by simp only[cM,Bool.and_eq_true] at hs;have:=cw hs.2 i o Tam;rwa [show k+1+i=k+(i+1) by omega] at this
theorem jd:∀ {l:List Oper} {k:Nat},dw L l k=true->∀i o,l[i]?=some o->(fA o).all (λ j=>decide (j < k+i))=true/\zz L (k+i) (fA o)=true
 | [],_,_,i,o,h=>by simp at h
 | x::l,k,hs,0,o,h=>by simp at h;subst h;simp only[dw,Bool.and_eq_true] at hs;exact hs.1
 | x::l,k,hs,i+1,o,h=>by simp only[dw,Bool.and_eq_true] at hs;have:=jd hs.2 i o Tam;rwa [show k+1+i=k+(i+1) by omega] at this
variable{o:Oper}{j:Nat}
theorem jI:j∈fA o↔∃e∈o.after,Region.binds .any e=true/\e.on=j:=by
 unfold fA;simp only[mem_map,mem_filter,Array.mem_toList_iff];constructor
 ·rintro⟨e,⟨h1,h2⟩,h3⟩;exact⟨e,h1,h2,h3⟩
 ·rintro⟨e,h1,h2,h3⟩;exact⟨e,⟨h1,h2⟩,h3⟩
theorem cO:fB o j=true↔j∈fA o:=by rw[jI];unfold fB;simp only[any_eq_true,Bool.and_eq_true,Nat.beq_eq,Array.mem_toList_iff]
theorem iJ(done:Nat->Prop)(hdc:∀i o,L[i]?=some o->done i->∀j∈fA o,done j):
  ∀(k:Nat) (S:List Nat),zz L k S=true->(∀j∈S,done j)->∀j,j < k->done j
 | 0,_,_,_,j,hj=>absurd hj Taa
 | k+1,S,hc,hS,j,hj=>by
   simp only[zz,Bool.and_eq_true] at hc;have hk:done k:=hS k (by simpa using hc.1);by_cases e:j=k
   ·subst e;exact hk
   ·refine iJ done hdc k _ hc.2 ?_ j Taa;intro i hi;rcases List.mem_append.1 hi with h | h
    ·exact hS i h
    ·split at h
     ·rename_i o ho;exact hdc k o ho hk i h
     ·cases h
variable{t:Tmp}
theorem pU:∀ {l:List Oper} {k i:Nat} {o:Oper},l[i]?=some o->o.dst=some t->(∃j,jb t l k=some j)
 | [],_,i,o,h,_=>by simp at h
 | x::l,k,0,o,h,hd=>by simp at h;subst h;exact⟨k,by simp[jb,hd]⟩
 | x::l,k,i+1,o,h,hd=>by
   by_cases hx:x.dst=some t
   ·exact⟨k,by simp[jb,hx]⟩
   ·obtain⟨j,hj⟩:=pU (l:=l) (k:=k+1) (i:=i) (o:=o) Tam hd;exact⟨j,by simp[jb,hx,hj]⟩
theorem rz:∀ {l:List Oper} {k j:Nat},jb t l k=some j->∃i o,j=k+i/\l[i]?=some o/\o.dst=some t
 | [],_,_,h=>by simp[jb] at h
 | x::l,k,j,h=>by
   unfold jb at h;split at h
   ·rename_i hx;injection h with h;subst h;exact⟨0,x,rfl,rfl,hx⟩
   ·obtain⟨i,o,e,h1,h2⟩:=rz h;exact⟨i+1,o,by omega,by simpa using h1,h2⟩
structure Inv (l:List Oper) (V:Nat->World->Value->Prop) (R:World->World->Prop) (a0:Act) (w0:World) (m:Nat) (listed:Array Bool) (a:Act) (w:World):Prop where
 r:R w0 w
 defers:a.defers=a0.defers
 size:a.tmps.size=a0.tmps.size
 old:∀t,(∀i o,l[i]?=some o->o.dst=some t->listed.getD i false=true->False)->a.tmps[t]?=a0.tmps[t]?
 new:∀i o d,l[i]?=some o->listed.getD i false=true->o.dst=some d->V i w (a.eval (.tmp d))
 closed:∀i o,l[i]?=some o->listed.getD i false=true->∀j∈fA o,listed.getD j false=true
 len:listed.size=m
 tail:∀i,l.length<=i->listed.getD i false=false
def bz (l:Nat)(listed:Array Bool):Nat:=((List.range l).filter λ i=> !listed.getD i false).length
theorem fh (listed:Array Bool)(i j:Nat)(hi:i < listed.size):(listed.setIfInBounds i true).getD j false=if j=i then true else listed.getD j false:=by
 by_cases h:j=i
 ·subst h;simp[hi]
 ·simp only[Array.getD_eq_getD_getElem?,if_neg h];rw[Array.getElem?_setIfInBounds_ne (λ e=>h e.symm)]
variable{q:Nat->Bool}{i:Nat}
theorem xE{p:Nat->Bool} :∀ {L:List Nat},L.Nodup->i∈L->p i=true->q i=false->(∀j∈L,j≠i->q j=p j)->(L.filter q).length+1=(L.filter p).length
 | [],_,h,_,_,_=>by cases h
 | x::L,hn,hm,hp,hq,QM=>by
   have hn':=(List.nodup_cons.1 hn);by_cases hx:x=i
   ·subst hx;have he:L.filter q=L.filter p:=filter_congr λ j hj=>QM j (mem_cons_of_mem _ hj) (λ e=>hn'.1 (e▸hj))
    rw[filter_cons,filter_cons,hp,hq,he];simp
   ·have hi:i∈L:=by
     rcases List.mem_cons.1 hm with h | h
     ·exact absurd h.symm hx
     ·exact h
    have ih:=xE hn'.2 hi hp hq (λ j hj=>QM j (mem_cons_of_mem _ hj));have hxq:=QM x (mem_cons_self) hx;rw[filter_cons,filter_cons,hxq];split
    ·simp only[length_cons];omega
    ·exact ih
theorem jX (l:Nat)(listed:Array Bool)(i:Nat)(hi:i < listed.size)(hl:i < l)(h:listed.getD i false=false):bz l (listed.setIfInBounds i true)+1=bz l listed:=by unfold bz;refine xE (i:=i) nodup_range (List.mem_range.2 hl) (by simp[h]) (by rw[fh _ _ _ hi];simp) ?_;intro j _ hj;rw[fh _ _ _ hi,if_neg hj]
variable{listed:Array Bool}
theorem dG{l:Nat} (h:bz l listed=0):∀i,i < l->listed.getD i false=true:=by
 intro i hi;unfold bz at h;have:=List.length_eq_zero_iff.1 h
 cases hc:listed.getD i false with
 | true=>rfl
 | false=>
   have hm:i∈(List.range l).filter λ i=> !listed.getD i false:=List.mem_filter.2 ⟨List.mem_range.2 hi,by simp[hc]⟩
   rw[this] at hm;cases hm
theorem least{p:Nat->Prop}:∀n,p n->∃i,p i/\∀j,j < i->¬p j:=by
 intro n hn
 induction n using Nat.strongRecOn with
 | ind n ih=>
   by_cases h:∃j,j < n/\p j
   ·obtain⟨j,hj,hp⟩:=h;exact ih j hj hp
   ·exact⟨n,hn,λ j hj hp=>h ⟨j,hj,hp⟩⟩
theorem jY{l:Nat} (h:bz l listed≠0):∃i,i < l/\listed.getD i false=false:=by
 unfold bz at h
 match hf:(List.range l).filter λ i=> !listed.getD i false with
 | []=>rw[hf] at h;exact absurd rfl h
 | i::_=>
   have hm:i∈(List.range l).filter λ i=> !listed.getD i false:=by rw[hf];exact mem_cons_self
   have:=List.mem_filter.1 hm;exact⟨i,List.mem_range.1 this.1,by simpa using this.2⟩
variable{a:Act}{T:Value->World->Prop}{K:Act->World->Prop}{Q:Exit->Act->World->Prop}
theorem jJ{w:World}   
  (h:wk P o a.eval w T) (hK:∀v w',T v w'->K (a.put o.dst v) w'):o.wp P a w K Q:=by
 unfold wk at h;unfold Oper.wp;generalize (execOp a.eval o).run P w=r at*
 cases r with
 | ok n w'=>
   cases n <;> simp only[Oper.upon] <;> first | exact hK _ _ h | exact h.elim | skip
   exact h.mono λ e w'' ⟨v,he,ht⟩=>by subst he;exact hK _ _ ht
 | halt x w'=>exact h.elim
theorem oh(h:a.tmps[t]?=a0.tmps[t]?):a.eval (.tmp t)=a0.eval (.tmp t):=by simp[Act.eval,Array.getD_eq_getD_getElem?,h]
section
variable {P:Program} {l zs:List Oper} {Q:Exit->Act->World->Prop} {R:World->World->Prop} {V:Nat->World->Value->Prop} {a0:Act} {w0:World}
theorem nr {i:Nat} {o:Oper}(h:l[i]?=some o):(l++zs).toArray[i]?=some o:=by
 have:i < l.length:=by
  rcases Nat.lt_or_ge i l.length with h' | h'
  ·exact h'
  ·exact Zgx
 simp[getElem?_append_left this,h]
theorem Inv.reads (ay:cM l a0.tmps.size l 0=true) {listed:Array Bool} {a:Act} {w:World} {m:Nat}(I:Inv l V R a0 w0 m listed a w) {i:Nat} {o:Oper}(ho:l[i]?=some o)
  (WE:listed.getD i false=false) (hall:∀j∈fA o,listed.getD j false=true):∀ts,(∀t∈ts,t∈tmpsOf o)->lS l V a0.eval a.eval w o ts
 | [],_=>trivial
 | t::ts,abM=>by
   refine⟨?_,Inv.reads ay I ho WE hall ts (λ t ht=>abM t (mem_cons_of_mem _ ht))⟩;have K9:=cw ay i o ho;rw[Nat.zero_add] at K9;simp only[lQ,Bool.and_eq_true] at K9;have ht:=List.all_eq_true.1 K9.1.2 t (abM t mem_cons_self);unfold bw;cases hs:jb t l 0 with
   | none=>refine oh (I.old t ?_);intro j oj hj hd _;obtain⟨k,hk⟩:=pU (k:=0) hj hd;rw[hs] at hk;cases hk
   | some j=>
     simp only[hs] at ht;obtain⟨j',oj,e,hj,hd⟩:=rz hs;rw[Nat.zero_add] at e;subst e;by_cases he:fB o j=true
     ·simp only[he,if_true];exact I.new j oj t hj (hall j (cO.1 he)) hd
     ·simp only[he];rw[Bool.not_eq_true] at he;simp only[he,Bool.false_or,hj] at ht;refine oh (I.old t ?_);intro k ok hk hdk hlk;have Rj:=cw ay k ok hk;simp only[lQ,hdk,Bool.and_eq_true,Nat.zero_add,beq_iff_eq] at Rj;have hkj:k=j:=by have:=Rj.1.1.2.2;rw[hs] at this;injection this with this;exact this.symm
      subst hkj;rw[hj] at hk;injection hk with hk;subst hk
      have:=I.closed k oj hj hlk i (cO.1 ht);rw[WE] at this;cases this
theorem Inv.step (ay:cM l a0.tmps.size l 0=true)(hV:∀i w w' v,V i w v->R w w'->V i w' v)(hT:∀a b c,R a b->R b c->R a c) {m:Nat} {listed:Array Bool} {a:Act} {w w':World} {v:Value}(I:Inv l V R a0 w0 m listed a w) {i:Nat} {o:Oper}(ho:l[i]?=some o)(Zf:i < m)
  (WE:listed.getD i false=false) (hall:∀j∈fA o,listed.getD j false=true) (hr:R w w') (hv:V i w' v):Inv l V R a0 w0 m (listed.setIfInBounds i true) (a.put o.dst v) w':=by
 have Ea:i < listed.size:=by rw[I.len];exact Zf
 have Mj:i < l.length:=by
  rcases Nat.lt_or_ge i l.length with h' | h'
  ·exact h'
  ·rw[getElem?_eq_none h'] at ho;cases ho
 have kO:=cw ay i o ho;rw[Nat.zero_add] at kO;refine⟨hT _ _ _ I.r hr,?_,?_,?_,?_,?_,by simp[I.len],?_⟩
 ·cases hd:o.dst <;> simp[Act.put,I.defers]
 ·cases hd:o.dst <;> simp[Act.put,I.size]
 ·intro t ht;have hto:o.dst≠some t:=λ e=>ht i o ho e (by rw[fh _ _ _ Ea,if_pos rfl])
  have h1:(a.put o.dst v).tmps[t]?=a.tmps[t]?:=by
   cases hd:o.dst with
   | none=>rfl
   | some d=>
     have:d≠t:=λ e=>hto (by rw[hd,e])
     simp[Act.put,Array.getElem?_setIfInBounds_ne this]
  rw[h1];refine I.old t ?_;intro j oj hj hd hl;exact ht j oj hj hd (by rw[fh _ _ _ Ea];split <;> simp_all)
 ·intro j oj d hj hl hd;by_cases Rk:j=i
  ·subst Rk;rw[hj] at ho;injection ho with ho;subst ho;simp only[lQ,hd,Bool.and_eq_true,decide_eq_true_eq] at kO
   have:(a.put oj.dst v).eval (.tmp d)=v:=by
    have hb:d < a.tmps.size:=by rw[I.size];exact kO.1.1.2.1
    simp[hd,Act.put,Act.eval,hb]
   rw[this];exact hv
  ·have hl':listed.getD j false=true:=by rw[fh _ _ _ Ea,if_neg Rk] at hl;exact hl
   have hne:o.dst≠some d:=by intro e;have oX:=cw ay j oj hj;simp only[lQ,hd,Bool.and_eq_true,Nat.zero_add,beq_iff_eq] at oX;simp only[lQ,e,Bool.and_eq_true,beq_iff_eq] at kO;rw[oX.1.1.2.2] at kO;have:=kO.1.1.2.2;injection this with this;exact Rk this
   have h1:(a.put o.dst v).eval (.tmp d)=a.eval (.tmp d):=Act.eval_put λ d' WG e=>by injection e with e;subst e;exact hne WG
   rw[h1];exact hV _ _ _ _ (I.new j oj d hj hl' hd) hr
 ·intro j oj hj hl k hk;rw[fh _ _ _ Ea];by_cases hki:k=i
  ·rw[if_pos hki]
  ·rw[if_neg hki];by_cases Rk:j=i
   ·subst Rk;rw[hj] at ho;injection ho with ho;subst ho;exact hall k hk
   ·rw[fh _ _ _ Ea,if_neg Rk] at hl;exact I.closed j oj hj hl k hk
 ·intro j hj;rw[fh _ _ _ Ea,if_neg Taa];exact I.tail j hj
def fill (f:Tmp->Value):List Oper->Act->Act
 | [],a=>a
 | o::rest,a=>fill f rest (match o.dst with | some d=>a.put (some d) (f d)| none=>a)
theorem lT (f:Tmp->Value):∀(l:List Oper) (a:Act),(fill f l a).defers=a.defers
 | [],_=>rfl
 | o::rest,a=>by rw[fill,lT f rest];cases o.dst <;> rfl
theorem oY (f:Tmp->Value):∀(l:List Oper) (a:Act),(fill f l a).tmps.size=a.tmps.size
 | [],_=>rfl
 | o::rest,a=>by rw[fill,oY f rest];cases o.dst <;> simp[Act.put]
theorem rA (f:Tmp->Value):∀(l:List Oper) (a:Act) (t:Nat),t < a.tmps.size->(fill f l a).tmps[t]?=if (∃o∈l,o.dst=some t)then some (f t)else a.tmps[t]?
 | [],_,_,_=>by simp[fill]
 | o::rest,a,t,ht=>by
   rw[fill,rA f rest _ t (by cases o.dst <;> simpa [Act.put] using ht)];by_cases h1:∃o'∈rest,o'.dst=some t
   ·rw[if_pos h1,if_pos (by obtain⟨o',h,e⟩:=h1;exact⟨o',mem_cons_of_mem _ h,e⟩)]
   ·rw[if_neg h1];by_cases h2:o.dst=some t
    ·rw[if_pos ⟨o,mem_cons_self,h2⟩,h2];simp[Act.put,ht]
    ·rw[if_neg (by rintro⟨o',h,e⟩;rcases List.mem_cons.1 h with rfl | h;exact h2 e;exact h1 ⟨o',h,e⟩)];cases hd:o.dst with
     | none=>rfl
     | some d=>simp[Act.put,Array.getElem?_setIfInBounds_ne (show d≠t from λ e=>h2 (by rw[hd,e]))]
theorem wD {K:Act->World->Prop} {w:World}(f:Tmp->Value):∀(L:List Oper) (k:Nat) (a:Act),(∀i o d,L[i]?=some o->o.dst=some d->V (k+i) w (f d))->cN V K L k a w->K (fill f L a) w
 | [],_,_,_,h=>h
 | o::rest,k,a,hv,h=>by
   rw[fill];have rB:∀i o' d,rest[i]?=some o'->o'.dst=some d->V (k+1+i) w (f d):=λ i o' d h1 h2=>by have:=hv (i+1) o' d (by simpa using h1) h2;rwa [show k+(i+1)=k+1+i by omega] at this
   unfold cN at h;cases hd:o.dst with
   | none=>simp only[hd] at h;exact wD f rest (k+1) a rB h
   | some d=>simp only[hd] at h;exact wD f rest (k+1) _ rB (h _ (by have:=hv 0 o d rfl hd;simpa using this))
theorem oZ {ops:Array Oper} {listed:Array Bool} {i:Nat} {o:Oper}(ho:ops[i]?=some o)(hu:listed.getD i true=false)(hall:∀j∈fA o,listed.getD j false=true):i∈Region.ready .any ops listed:=
 mem_ready.2 ⟨hu,o,ho,λ e he hb=>hall _ (jI.2 ⟨e,he,hb,rfl⟩)⟩
theorem dX {listed:Array Bool} {i:Nat}(h:i < listed.size):listed.getD i true=listed.getD i false:=by simp[h]
theorem rC {N:Nat}(ay:cM l N l 0=true)(hz:dw (l++zs) zs l.length=true):∀(k:Nat) (rest:List Oper),zs.drop k=rest->∀(listed:Array Bool) (a:Act) (w:World),listed.size=(l++zs).length->
  (∀i,i <(l++zs).length->(listed.getD i false=true↔i < l.length+k))->wpList P (l++zs).toArray Q rest a w->wpAny P .any (l++zs).toArray Q rest.length listed a w
 | k,[],hk,listed,a,w,hs,hl,h=>by
   refine⟨?_,h⟩;have hlen:zs.length<=k:=List.drop_eq_nil_iff.1 hk;rw[eq_nil_iff_forall_not_mem];intro i hi;obtain⟨hu,o,ho,_⟩:=mem_ready.1 hi;have Mj:i <(l++zs).length:=by
    rcases Nat.lt_or_ge i (l++zs).length with h' | h'
    ·exact h'
    ·rw[Array.getElem?_eq_none (by simpa using h')] at ho;cases ho
   rw[dX Taa] at hu;have:=(hl i Mj).2 (by simp at Mj;omega);rw[hu] at this;cases this
 | k,o::rest,hk,listed,a,w,hs,hl,h=>by
   have hkz:zs[k]?=some o:=by have:=congrArg (λ x=>x[0]?) hk;simpa using this
   have abO:k < zs.length:=by
    rcases Nat.lt_or_ge k zs.length with h' | h'
    ·exact h'
    ·rw[getElem?_eq_none h'] at hkz;cases hkz
   have abP:(l++zs)[l.length+k]?=some o:=by rw[getElem?_append_right Taa];simpa using hkz
   have CF:zs.drop (k+1)=rest:=by rw[<- tail_drop,hk];rfl
   have ht:=jd hz k o hkz;have abQ:∀j∈fA o,listed.getD j false=true:=λ j hj=>by have:=of_decide_eq_true (List.all_eq_true.1 ht.1 j hj);exact(hl j Tad).2 this
   have WE:listed.getD (l.length+k) true=false:=by
    rw[dX (by rw[hs];simp;omega)];cases hc:listed.getD (l.length+k) false with
    | false=>rfl
    | true=>exact absurd ((hl _ Tad).1 hc) Taa
   have iK:l.length+k∈Region.ready .any (l++zs).toArray listed:=oZ (by simpa using abP) WE abQ;refine⟨(λ h0=>by rw[h0] at iK;cases iK),λ i hi=>?_⟩;obtain⟨hu,oi,hoi,hall⟩:=mem_ready.1 hi;have Mj:i <(l++zs).length:=by
    rcases Nat.lt_or_ge i (l++zs).length with h' | h'
    ·exact h'
    ·rw[Array.getElem?_eq_none (by simpa using h')] at hoi;cases hoi
   rw[dX Taa] at hu;have amw:l.length+k<=i:=by
    rcases Nat.lt_or_ge i (l.length+k)with h' | h'
    ·have:=(hl i Mj).2 h';rw[hu] at this;cases this
    ·exact h'
   have hik:i=l.length+k:=by
    rcases Nat.lt_or_ge (l.length+k) i with h' | h'
    ·exfalso;have hzi:zs[i - l.length]?=some oi:=by
      have:(l++zs)[i]?=some oi:=by simpa using hoi
      rw[getElem?_append_right Taa] at this;exact this
     have Gh:=jd hz (i - l.length) oi hzi;rw[show l.length+(i - l.length)=i by omega] at Gh;have hc:=iJ (L:=l++zs) (λ j=>j <(l++zs).length->listed.getD j false=true) (by
      intro j oj hj hdone e he hlt
      have abR:j <(l++zs).length:=by
       rcases Nat.lt_or_ge j (l++zs).length with h' | h'
       ·exact h'
       ·rw[getElem?_eq_none h'] at hj;cases hj
      have JC:=(hl j abR).1 (hdone abR)
      by_cases hjz:l.length<=j
      ·have Rl:zs[j - l.length]?=some oj:=by rw[getElem?_append_right Taa] at hj;exact hj
       have:=of_decide_eq_true (List.all_eq_true.1 (jd hz (j - l.length) oj Rl).1 e he)
       exact(hl e hlt).2 Taa
      ·have wE:l[j]?=some oj:=by rw[getElem?_append_left Taa] at hj;exact hj
       have oX:=cw ay j oj wE
       simp only[lQ,Bool.and_eq_true,Nat.zero_add] at oX
       have:=of_decide_eq_true (List.all_eq_true.1 oX.1.1.1 e he)
       exact(hl e hlt).2 Taa) i (fA oi) Gh.2 (by
      intro j hj hlt
      obtain⟨e,he,hb,rfl⟩:=jI.1 hj
      exact hall e he hb) (l.length+k) h' Tad
     exact absurd ((hl _ Tad).1 hc) Taa
    ·omega
   subst hik;have ho:(l++zs).toArray[l.length+k]?=some o:=by simpa using abP
   have hw:wpOp P (l++zs).toArray Q (l.length+k) (wpList P (l++zs).toArray Q rest) a w:=by unfold wpOp;rw[ho];unfold wpList at h;exact h
   refine wpOp_mono (λ a' w' h'=>rC ay hz (k+1) rest CF _ a' w' (by simp[hs]) ?_ h') hw;intro i hi;rw[fh _ _ _ (by rw[hs];simp;omega)];by_cases hii:i=l.length+k
   ·rw[if_pos hii];exact⟨λ _=>by omega,λ _=>rfl⟩
   ·rw[if_neg hii,hl i hi];omega
theorem aS (n i:Nat):(Array.replicate n false).getD i false=false:=by simp only[Array.getD_eq_getD_getElem?,Array.getElem?_replicate];split <;> rfl
theorem yM {a b:Act}(h1:a.tmps=b.tmps)(h2:a.defers=b.defers):a=b:=by cases a;cases b;simp_all
theorem zfC.KbD(h:p:=by rw[<- ha] at hK;exact Zbj):p:=h
theorem zbV.Kar(h:p:=by open zfC in exact Zdj):p:=h
theorem Gi {N:Nat}(ay:cM l N l 0=true)(hz:dw (l++zs) zs l.length=true)(hf:∀w,R w0 w->cN V (λ a w=>wpList P (l++zs).toArray Q zs a w) l 0 a0 w) {listed:Array Bool} {a:Act} {w:World}(I:Inv l V R a0 w0 (l++zs).length listed a w)
  (h0:bz l.length listed=0):wpAny P .any (l++zs).toArray Q zs.length listed a w:=by
 open zbV in exact ZaD
theorem zan.Kab(h:p:=by
 have hst:=Gg hs j oj wE;rw[Nat.zero_add] at hst;have FY:=Inv.reads ay I wE wq eI (tmpsOf oj) (λ _ h=>h);have hstep:=hst a.eval w (lR a) I.r FY;have Gj:∀v w',R w w'->V j w' v->wpAny P .any (l++zs).toArray Q fuel (listed.setIfInBounds j true) (a.put oj.dst v) w':=by intro v w' hr hv;refine ih _ _ _ (I.step ay hV tW wE BL wq eI hr hv) ?_;have:=jX l.length listed j TaL JC wq;omega
 unfold wpOp;rw[nX];show if Region.wanted oj (yielded (l++zs).toArray a.tmps)=true then _ else _
 cases hg:oj.guard with
 | none=>rw[if_pos Ta5];simp only[hg] at hstep;exact .inl (jJ hstep λ v w' h=>Gj v w' h.1 h.2)
 | some g=>
   obtain⟨k,want⟩:=g;simp only[hg] at hstep;have oX:=cw ay j oj wE;simp only[lQ,hg,Bool.and_eq_true,Nat.zero_add] at oX;have WI:listed.getD k false=true:=eI k (cO.1 oX.2.1)
   cases hd:(l[k]?).bind (·.dst)with
   | none=>simp only[hd] at hstep
   | some d=>
     simp only[hd] at hstep
     obtain⟨ok,JD,hdk⟩:∃ok,l[k]?=some ok/\ok.dst=some d:=by
      cases hlk:l[k]? with
      | none=>rw[hlk] at hd;cases hd
      | some ok=>rw[hlk] at hd;exact⟨ok,rfl,hd⟩
     have hyv:=I.new k ok d JD WI hdk;obtain⟨h1,h2⟩:=hstep hyv;have Rj:=cw ay k ok JD;simp only[lQ,hdk,Bool.and_eq_true,decide_eq_true_eq,Nat.zero_add] at Rj;have aha:d < a.tmps.size:=by rw[I.size];exact Rj.1.1.2.1
     have zB:yielded (l++zs).toArray a.tmps k=match a.eval (.tmp d)with | .bool b=>some b | _=>none:=by unfold yielded;rw[nr JD];simp only[Option.bind_some,hdk,Act.eval,Array.getD_eq_getD_getElem?,Array.getElem?_eq_getElem aha,Option.getD_some];cases a.tmps[d] <;> rfl
     by_cases xG:a.eval (.tmp d)=.bool want
     ·rw[if_pos (by simp[Region.wanted,hg,zB,xG])];exact .inl (jJ (h1 xG) λ v w' h=>Gj v w' h.1 h.2)
     ·rw[if_neg (by
       simp only[Region.wanted,hg,zB]
       intro hc
       apply xG
       cases hv:a.eval (.tmp d)<;> rw[hv] at hc <;> simp at hc
       rw[hc])]
      exact Gj undef w (hrefl w) (h2 xG)):p:=h
theorem xF {id:Nat} {ops:List Oper}(zs:List Oper)(l:List Oper)(tV:ops=l++zs)(R:World->World->Prop)(hrefl:∀w,R w w)(tW:∀a b c,R a b->R b c->R a c)(nw:∀w,R w w.drew)
  (V:Nat->World->Value->Prop) (hV:∀i w w' v,V i w v->R w w'->V i w' v) (hm:P.follows .mixedOrders=true) (ay:cM l a0.tmps.size l 0=true) (hz:dw (l++zs) zs l.length=true)
  (hs:Steps P l R V a0 w0 l 0) (hf:∀w,R w0 w->cN V (λ a w=>wpList P ops.toArray Q zs a w) l 0 a0 w):(Code.region id ops.toArray true).wp P Q a0 w0:=by
 subst tV
 have main:∀(fuel:Nat) (listed:Array Bool) (a:Act) (w:World),Inv l V R a0 w0 (l++zs).length listed a w->fuel=bz l.length listed+zs.length->wpAny P .any (l++zs).toArray Q fuel listed a w:=by
  intro fuel
  induction fuel with
  | zero=>
    intro listed a w I WH;have h0:bz l.length listed=0:=by omega
    have hz0:zs.length=0:=by omega
    have:=Gi ay hz hf I h0;rwa [hz0] at this
  | succ fuel ih=>
    intro listed a w I WH;by_cases h0:bz l.length listed=0
    ·have:=Gi ay hz hf I h0;exact ZeJ
    ·open zan in exact Zab
 refine wp_region_any hm ?_;have h0:R w0 w0.drew:=nw w0;have:=main (l++zs).toArray.size (Array.replicate (l++zs).toArray.size false) a0 w0.drew ⟨h0,rfl,rfl,λ _ _=>rfl,(λ i o d _ h=>by rw[aS] at h;cases h),(λ i o _ h=>by rw[aS] at h;cases h),by simp,λ i _=>aS _ _⟩ (by
  have:bz l.length (Array.replicate (l++zs).toArray.size false)=l.length:=by
   unfold bz
   rw[List.filter_eq_self.2 (λ i _=>by rw[aS];rfl),length_range]
  rw[this];simp)
 exact this
end
structure Ext (B:Nat) (w0:World) where
 w:World
 h:Below B w0 w
instance (B:Nat) (w0:World):Nonempty (Ext B w0):=⟨⟨w0,Below.refl _ _⟩⟩
variable{C:World->Prop}
theorem tX{ops:Array Oper}  {Q:Act->Prop}:∀(l:List Oper) (a:Act),wpQuiet P ops C Q l a->
  ∃vs:List Value,vs.length=l.length/\
   (∀i o,l[i]?=some o->∃v,vs[i]?=some v/\
     ((Region.wanted o (yielded ops ((l.take i).zip vs |>.foldl (λ b ov=>b.put ov.1.dst ov.2) a).tmps)=true/\∀w,C w->o.quietAt P ((l.take i).zip vs |>.foldl (λ b ov=>b.put ov.1.dst ov.2) a) C w v)\/
      (Region.wanted o (yielded ops ((l.take i).zip vs |>.foldl (λ b ov=>b.put ov.1.dst ov.2) a).tmps)=false/\v=undef)))/\
   Q ((l.zip vs).foldl (λ b ov=>b.put ov.1.dst ov.2) a)
 | [],a,h=>⟨[],rfl,λ i o ho=>by simp at ho,h⟩
 | o::l,a,h=>by
   unfold wpQuiet at h;by_cases hw:Region.wanted o (yielded ops a.tmps)=true
   ·rw[if_pos hw] at h;obtain⟨v,hv,hn⟩:=h;obtain⟨vs,hl,hall,hq⟩:=tX l _ hn;refine⟨v::vs,by simp[hl],λ i o' QN=>?_,by simpa using hq⟩
    match i with
    | 0=>simp at QN;subst QN;exact⟨v,rfl,.inl ⟨by simpa using hw,by simpa using hv⟩⟩
    | i+1=>obtain⟨v',h1,h2⟩:=hall i o' (by simpa using QN);exact⟨v',by simpa using h1,by simpa using h2⟩
   ·rw[if_neg hw] at h;obtain⟨vs,hl,hall,hq⟩:=tX l _ h;refine⟨undef::vs,by simp[hl],λ i o' QN=>?_,by simpa using hq⟩
    match i with
    | 0=>simp at QN;subst QN;exact⟨undef,rfl,.inr ⟨by simpa using hw,rfl⟩⟩
    | i+1=>obtain⟨v',h1,h2⟩:=hall i o' (by simpa using QN);exact⟨v',by simpa using h1,by simpa using h2⟩
variable{l:List Oper}{vs:List Value}{k:Nat}{v:Value}
theorem tN(hl:vs.length=l.length)(ho:l[k]?=some o)(hv:vs[k]?=some v):((l.take (k+1)).zip vs)=((l.take k).zip vs)++ [(o,v)]:=by
 have hk:k < l.length:=by
  rcases Nat.lt_or_ge k l.length with h' | h'
  ·exact h'
  ·rw[getElem?_eq_none h'] at ho;cases ho
 rw[take_add_one,ho]
 have e1:vs=vs.take k++v::vs.drop (k+1):=by
  conv=>lhs;rw[<- take_append_drop k vs]
  congr 1;rw[drop_eq_getElem_cons Taa];congr 1;rw[getElem?_eq_getElem Taa] at hv;injection hv
 have hlen:(l.take k).length=(vs.take k).length:=by simp;omega
 conv=>lhs;rw[e1]
 rw[zip_append hlen]
 have e2:(l.take k).zip vs=(l.take k).zip (vs.take k):=by
  conv=>lhs;rw[<- take_append_drop k vs]
  have h0:(l.take k++ []).zip (vs.take k++vs.drop k)=(l.take k).zip (vs.take k)++([]:List Oper).zip (vs.drop k):=zip_append hlen;simpa using h0
 rw[e2];simp
theorem CG(ay:cM l a.tmps.size l 0=true)(hl:vs.length=l.length):∀(k:Nat),k<=l.length->
  (((l.take k).zip vs).foldl (λ b ov=>b.put ov.1.dst ov.2) a).tmps.size=a.tmps.size/\
  (∀j oj d v,j < k->l[j]?=some oj->oj.dst=some d->vs[j]?=some v->(((l.take k).zip vs).foldl (λ b ov=>b.put ov.1.dst ov.2) a).tmps[d]?=some v)/\
  (∀t,(∀j oj,j < k->l[j]?=some oj->oj.dst≠some t)->(((l.take k).zip vs).foldl (λ b ov=>b.put ov.1.dst ov.2) a).tmps[t]?=a.tmps[t]?)
 | 0,_=>by simp
 | k+1,hk=>by
   obtain⟨h1,h2,h3⟩:=CG ay hl k Taa;obtain⟨o,ho⟩:∃o,l[k]?=some o:=⟨l[k]' Taa,getElem?_eq_getElem Taa⟩;obtain⟨v,hv⟩:∃v,vs[k]?=some v:=⟨vs[k]' Taa,getElem?_eq_getElem Taa⟩;have e:=tN hl ho hv;rw[e,foldl_append];generalize ((l.take k).zip vs).foldl (λ b ov=>b.put ov.1.dst ov.2) a=b at*;have kO:=cw ay k o ho;rw[Nat.zero_add] at kO;simp only[foldl_cons,foldl_nil];refine⟨?_,?_,?_⟩
   ·cases hd:o.dst <;> simp[Act.put,h1]
   ·intro j oj d v' hj nX hd hv';by_cases hjk:j=k
    ·subst hjk;rw[ho] at nX;injection nX with nX;subst nX
     rw[hv] at hv';injection hv' with hv';subst hv'
     simp only[lQ,hd,Bool.and_eq_true,decide_eq_true_eq] at kO;have hb:d < b.tmps.size:=by rw[h1];exact kO.1.1.2.1
     simp[hd,Act.put,hb]
    ·have hold:=h2 j oj d v' Taa nX hd hv';cases hdo:o.dst with
     | none=>exact hold
     | some d'=>
       have hne:d'≠d:=by intro e';subst e';have oX:=cw ay j oj nX;simp only[lQ,hd,Bool.and_eq_true,Nat.zero_add,beq_iff_eq] at oX;simp only[lQ,hdo,Bool.and_eq_true,beq_iff_eq] at kO;rw[oX.1.1.2.2] at kO;have:=kO.1.1.2.2;injection this with this;exact hjk this
       simp only[Act.put,Array.getElem?_setIfInBounds_ne hne];exact hold
   ·intro t ht;have hold:=h3 t (λ j oj hj nX=>ht j oj Taa nX);cases hdo:o.dst with
    | none=>exact hold
    | some d'=>
      have hne:d'≠t:=λ e'=>ht k o Taa ho (by rw[hdo,e'])
      simp only[Act.put,Array.getElem?_setIfInBounds_ne hne];exact hold
variable{ρ:Operand->Value}
theorem rD{w:World}  (Gk:∀cs b,o.op≠ .select cs b)(he:∀x∈o.op.operands,ρ x=a.eval x)(hC:C w)
  (h:o.quietAt P a C w v):wk P o ρ w λ v' w'=>(C w->C w')/\v'=v:=by
 unfold Oper.quietAt at h;unfold wk;rw[execOp_congr o Gk he];generalize (execOp a.eval o).run P w=r at*
 cases r with
 | ok n w'=>
   cases n <;> simp only[Oper.quietUpon] at h;case value u=>obtain⟨rfl,rfl⟩:=h;exact⟨id,rfl⟩
   case skip=>obtain⟨rfl,rfl⟩:=h;exact⟨id,rfl⟩
   case enter f args=>obtain⟨rfl,hc⟩:=h;exact hc.mono λ e w'' ⟨he,hc'⟩=>⟨v,he,λ _=>hc',rfl⟩
 | halt x w'=>simp only[Oper.quietUpon] at h
theorem JE:t∈tmpsOf o↔Operand.tmp t∈o.op.operands:=by
 unfold tmpsOf;simp only[mem_filterMap,Array.mem_toList_iff];constructor
 ·rintro⟨x,hx,h⟩;cases x <;> simp at h;subst h;exact hx
 ·intro h;exact⟨_,h,rfl⟩
variable{ρ0:Operand->Value}
theorem CH{w:World} :∀ {ts:List Tmp},lS l V ρ0 ρ w o ts->∀t∈ts,match bw l o t with | some j=>V j w (ρ (.tmp t))| none=>ρ (.tmp t)=ρ0 (.tmp t)
 | [],_,t,h=>by cases h
 | x::ts,hr,t,h=>by
   rcases List.mem_cons.1 h with rfl | h
   ·exact hr.1
   ·exact CH hr.2 t h
def Zg (l:List Oper):Bool:=l.all λ o=>match o.op with | .select _ _=>false | _=>true
variable{id:Nat}{ops:List Oper}
theorem zgU.Kcb(h:p:=by
 refine⟨?_,ih (k+1) (by rw[<- tail_drop,hk];rfl)⟩;intro ρ w hc hR hr;have hCw:C w:=hR hC0;obtain⟨v,hv,iL⟩:=hall k o Ed;obtain⟨f1,f2,f3⟩:=CG ay hl k Taa;have kO:=cw ay k o Ed;rw[Nat.zero_add] at kO;have abS:∀cs b,o.op≠ .select cs b:=by intro cs b e;have:=List.all_eq_true.1 Gk o (mem_of_getElem? Ed);rw[e] at this;cases this
 have VY:∀x∈o.op.operands,ρ x=(((l.take k).zip vs).foldl (λ b ov=>b.put ov.1.dst ov.2) a0).eval x:=by
  intro x hx
  cases x with
  | const v=>rw[hc.const];rfl
  | global g=>rw[hc.global];rfl
  | func f=>rw[hc.func];rfl
  | tmp t=>
    have jx:=JE.2 hx;have hrt:=CH hr t jx;simp only[lQ,Bool.and_eq_true] at kO;have L0:=List.all_eq_true.1 kO.1.2 t jx;unfold bw at hrt
    cases hs:jb t l 0 with
    | none=>simp only[hs] at hrt;rw[hrt];refine(oh (f3 t ?_)).symm;intro j oj _ nX hd;obtain⟨j',hj'⟩:=pU (k:=0) nX hd;rw[hs] at hj';cases hj'
    | some j=>
      obtain⟨j',oj,e,hj,hd⟩:=rz hs;rw[Nat.zero_add] at e;subst e;simp only[hs] at hrt L0;by_cases he:fB o j=true
      ·simp only[he,if_true] at hrt;have hjk:j < k:=of_decide_eq_true (List.all_eq_true.1 kO.1.1.1 j (cO.1 he));have:=f2 j oj t _ hjk hj hd hrt;simp[Act.eval,this]
      ·rw[Bool.not_eq_true] at he;simp only[he,Bool.false_or,hj] at L0 hrt;have ahc:ρ (.tmp t)=a0.eval (.tmp t):=by simpa using hrt
       rw[ahc];refine(oh (f3 t ?_)).symm;intro i oi hik hoi hdi;have pc:=cw ay i oi hoi;simp only[lQ,hdi,Bool.and_eq_true,Nat.zero_add,beq_iff_eq] at pc;have hij:i=j:=by have:=pc.1.1.2.2;rw[hs] at this;injection this with this;exact this.symm
       subst hij;rw[hj] at hoi;injection hoi with hoi;subst hoi;have oX:=cw ay i oj hj;simp only[lQ,Bool.and_eq_true,Nat.zero_add] at oX;have:=of_decide_eq_true (List.all_eq_true.1 oX.1.1.1 k (cO.1 L0));omega
 have hT:wk P o ρ w (λ v' w'=>(C w->C w')/\v'=v)->wk P o ρ w (λ v' w'=>(C w->C w')/\vs[k]?=some v'):=by
  unfold wk;intro h';generalize (execOp ρ o).run P w=r at*
  cases r with
  | ok n w'=>
    cases n <;> first | exact⟨h'.1,by rw[h'.2];exact hv⟩| exact h'.elim | skip
    exact h'.mono λ e w'' ⟨u,h1,h2,h3⟩=>⟨u,h1,h2,by rw[h3];exact hv⟩
  | halt x w'=>exact h'.elim
 cases hg:o.guard with
 | none=>
   rcases iL with ⟨_,hqa⟩|⟨hw,_⟩
   ·exact hT (rD abS VY hCw (hqa w hCw))
   ·simp[Region.wanted,hg] at hw
 | some g=>
   obtain⟨j,want⟩:=g;simp only[lQ,hg,Bool.and_eq_true] at kO;have hjk:j < k:=of_decide_eq_true (List.all_eq_true.1 kO.1.1.1 j (cO.1 kO.2.1));obtain⟨oj,nX⟩:∃oj,l[j]?=some oj:=⟨l[j]' Taa,getElem?_eq_getElem Taa⟩;have WJ:=kO.2.2;rw[nX] at WJ;obtain⟨d,hd⟩:=Option.isSome_iff_exists.1 WJ;simp only[nX,Option.bind_some,hd];intro hyv;have abU:=f2 j oj d _ hjk nX hd hyv;have zB:yielded (l++zs).toArray (((l.take k).zip vs).foldl (λ b ov=>b.put ov.1.dst ov.2) a0).tmps j=match ρ (.tmp d)with | .bool b=>some b | _=>none:=by unfold yielded;rw[nr nX];simp only[Option.bind_some,hd,abU];cases ρ (.tmp d)<;> rfl
   constructor
   ·intro xG;rcases iL with ⟨_,hqa⟩|⟨hw,_⟩
    ·exact hT (rD abS VY hCw (hqa w hCw))
    ·simp[Region.wanted,hg,zB,xG] at hw
   ·intro xG;rcases iL with ⟨hw,_⟩|⟨_,hu⟩
    ·exfalso;simp only[Region.wanted,hg,zB] at hw;apply xG;cases Rn:ρ (.tmp d)<;> rw[Rn] at hw <;> simp at hw;rw[hw]
    ·rw[<- hu];exact hv):p:=h
theorem zgV.Kcb(h:p:=by
 have hstep:∀v,vs[k]?=some v->((l.take (k+1)).zip vs).foldl (λ b ov=>b.put ov.1.dst ov.2) a0=(((l.take k).zip vs).foldl (λ b ov=>b.put ov.1.dst ov.2) a0).put o.dst v:=by intro v hv;rw[tN hl Ed hv,foldl_append];rfl
 have CF:=ih (k+1) (by rw[<- tail_drop,hk];rfl) Taa;unfold cN
 cases hd:o.dst with
 | none=>simp only;obtain⟨v,hv⟩:∃v,vs[k]?=some v:=⟨vs[k]' Taa,getElem?_eq_getElem Taa⟩;rw[hstep v hv,hd] at CF;exact CF
 | some d=>simp only;intro v hv;rw[hstep v hv,hd] at CF;exact CF):p:=h
theorem Gl(zs:List Oper)(l:List Oper)(tV:ops=l++zs)(C:World->Prop)(hC0:C w0)(nw:∀w,C w->C w.drew)
  (hm:P.follows .mixedOrders=true) (Gk:Zg l=true) (ay:cM l a0.tmps.size l 0=true) (hz:dw (l++zs) zs l.length=true)
  (h:wpQuiet P ops.toArray C (λ a=>∀w,C w->wpList P ops.toArray Q zs a w) l a0):(Code.region id ops.toArray true).wp P Q a0 w0:=by
 subst tV;obtain⟨vs,hl,hall,hq⟩:=tX l a0 h;refine xF zs l rfl (λ w w'=>C w->C w') (λ _ h=>h) (λ _ _ _ h1 h2 h=>h2 (h1 h)) (λ w h=>nw w h) (λ i _ v=>vs[i]?=some v) (λ _ _ _ _ h _=>h) hm ay hz ?_ ?_
 ·have key:∀(k:Nat) (rest:List Oper),l.drop k=rest->Steps P l (λ w w'=>C w->C w') (λ i _ v=>vs[i]?=some v) a0 w0 rest k:=by
   intro k rest
   induction rest generalizing k with
   | nil=>intro _;trivial
   | cons o rest ih=>intro hk;open zgU in exact ZeQ
  exact key 0 l rfl
 ·intro w hR;have hCw:C w:=hR hC0
  have key:∀(k:Nat) (rest:List Oper),l.drop k=rest->k<=l.length->cN (λ i _ v=>vs[i]?=some v) (λ a w=>wpList P (l++zs).toArray Q zs a w) rest k (((l.take k).zip vs).foldl (λ b ov=>b.put ov.1.dst ov.2) a0) w:=by
   intro k rest
   induction rest generalizing k with
   | nil=>intro hk WI;have:l.length<=k:=List.drop_eq_nil_iff.1 hk;have e:l.take k=l:=take_of_length_le this;rw[e];exact hq w hCw
   | cons o rest ih=>intro hk WI;open zgV in exact ZeQ
  have:=key 0 l rfl Taa;exact Zep
theorem gU{w:World}  (k B:Nat)(w0:World)(hb:Below B w0 w)(hm:P.follows .mixedOrders=true)(Gk:Zg (ops.take k)=true)
  (ay:cM (ops.take k) a0.tmps.size (ops.take k) 0=true) (hz:dw ops (ops.drop k) (ops.take k).length=true)
  (h:wpQuiet P ops.toArray (λ w'=>∃x:Ext B w0,w'=x.w) (λ a=>∀w,(∃x:Ext B w0,w=x.w)->wpList P ops.toArray Q (ops.drop k) a w) (ops.take k) a0):(Code.region id ops.toArray true).wp P Q a0 w:=
 Gl (ops.drop k) (ops.take k) (take_append_drop k ops).symm (λ w'=>∃x:Ext B w0,w'=x.w) ⟨⟨w,hb⟩,rfl⟩ (λ w' ⟨x,e⟩=>⟨⟨w'.drew,by rw[e];exact x.h.drew⟩,rfl⟩) hm Gk ay TaS h
variable{f:FuncId}{args:Array Value}{B:Nat}{x:Ext B w0}
theorem iM(hB:B<=w0.heap.size)
  (h:Calls P f args x.w λ e w'=>e=.returned v/\Below x.w.heap.size x.w w'):Calls P f args x.w λ e w''=>e=.returned v/\∃x:Ext B w0,w''=x.w:=
 h.mono λ _ _ ⟨he,hb⟩=>⟨he,⟨_,x.h.trans (hb.mono (Nat.le_trans hB x.h.size))⟩,rfl⟩
def af (w w':World):Prop:=Below w.heap.size w w'
theorem af.refl (w:World):af w w:=Below.refl _ _
variable{b c:World}
theorem af.trans{a:World}(h:af a b)(k:af b c):af a c:=Below.trans h (Below.mono k h.size)
theorem af.drew (w:World):af w w.drew:=(Below.refl _ _).drew
theorem cE(k:Nat)(V:Nat->World->Value->Prop)(hV:∀i w w' v,V i w v->af w w'->V i w' v)(hm:P.follows .mixedOrders=true)
  (ay:cM (ops.take k) a0.tmps.size (ops.take k) 0=true) (hz:dw ops (ops.drop k) (ops.take k).length=true)
  (hs:Steps P (ops.take k) af V a0 w0 (ops.take k) 0) (hf:∀w,af w0 w->cN V (λ a w=>wpList P ops.toArray Q (ops.drop k) a w) (ops.take k) 0 a0 w):(Code.region id ops.toArray true).wp P Q a0 w0:=
 xF (ops.drop k) (ops.take k) (take_append_drop k ops).symm af af.refl (λ _ _ _=>af.trans) af.drew V hV hm ay TaS hs hf
section
variable {P:Program} {o:Oper} {ρ:Operand->Value} {w:World} {T:Value->World->Prop}
theorem ae {v:Value} {w':World}(h:(execOp ρ o).run P w=.ok (.value v) w')(hT:T v w'):wk P o ρ w T:=by unfold wk;rw[h];exact hT
theorem rE {w':World}(h:(execOp ρ o).run P w=.ok .skip w')(hT:T undef w'):wk P o ρ w T:=by unfold wk;rw[h];exact hT
theorem dB {f:FuncId} {args:Array Value} {w':World}(h:(execOp ρ o).run P w=.ok (.enter f args) w')(hc:Calls P f args w' λ e w''=>∃v,e=.returned v/\T v w''):wk P o ρ w T:=by unfold wk;rw[h];exact hc
theorem Ro {x:Operand} {v:Value}(ho:o.op=.move x\/o.op=.assign x)(hx:ρ x=v)(hT:T v w):wk P o ρ w T:=by
 refine ae (v:=v) (w':=w) ?_ hT;rcases ho with ho | ho <;> simp[execOp,ho,hx]
end
def Mk (P:Program)(l:List Oper)(R:World->World->Prop)(V:Nat->World->Value->Prop)(U:Nat->World->(Operand->Value)->Prop)(a0:Act)(w0:World)(i:Nat)(o:Oper):Prop:=
 ∀ρ w,bP ρ->R w0 w->lS l V a0.eval ρ w o (tmpsOf o)->
  match o.guard with
  | none=>wk P o ρ w λ v w'=>R w w'/\V i w' v/\U i w' ρ
  | some _=>False
def Ee (P:Program)(l:List Oper)(R:World->World->Prop)(V:Nat->World->Value->Prop)(U:Nat->World->(Operand->Value)->Prop)(a0:Act)(w0:World):List Oper->Nat->Prop
 | [],_=>True
 | o::rest,i=>Mk P l R V U a0 w0 i o/\Ee P l R V U a0 w0 rest (i+1)
variable{U:Nat->World->(Operand->Value)->Prop}
theorem CI:∀ {l:List Oper} {k:Nat},Ee P L R V U a0 w0 l k->∀i o,l[i]?=some o->Mk P L R V U a0 w0 (k+i) o
 | [],_,_,i,o,h=>by simp at h
 | o'::rest,k,hs,0,o,h=>by simp at h;subst h;exact hs.1
 | o'::rest,k,hs,i+1,o,h=>by have:=CI hs.2 i o Tam;rwa [show k+(i+1)=k+1+i by omega]
def Rp (l:List Oper)(R:World->World->Prop)(U:Nat->World->(Operand->Value)->Prop):Prop:=
 ∀i o w w' ρ ρ',l[i]?=some o->U i w ρ->R w w'->(∀j∈fA o,∀oj d,l[j]?=some oj->oj.dst=some d->ρ' (.tmp d)=ρ (.tmp d))->U i w' ρ'
structure Inv2 (l:List Oper) (V:Nat->World->Value->Prop) (U:Nat->World->(Operand->Value)->Prop) (R:World->World->Prop) (a0:Act) (w0:World) (m:Nat) (listed:Array Bool) (a:Act) (w:World):Prop where
 base:Inv l V R a0 w0 m listed a w
 post:∀i o,l[i]?=some o->listed.getD i false=true->U i w a.eval
section
variable {P:Program} {l zs:List Oper} {Q:Exit->Act->World->Prop} {R:World->World->Prop} {V:Nat->World->Value->Prop} {U:Nat->World->(Operand->Value)->Prop} {a0:Act} {w0:World}
theorem Inv2.step (ay:cM l a0.tmps.size l 0=true)(hV:∀i w w' v,V i w v->R w w'->V i w' v)(hU:Rp l R U)(hrefl:∀w,R w w)(hT:∀a b c,R a b->R b c->R a c) {m:Nat} {listed:Array Bool} {a:Act} {w w':World} {v:Value}(I:Inv2 l V U R a0 w0 m listed a w) {i:Nat} {o:Oper}(ho:l[i]?=some o)(Zf:i < m)
  (WE:listed.getD i false=false) (hall:∀j∈fA o,listed.getD j false=true) (hr:R w w') (hv:V i w' v) (hu:U i w' a.eval):Inv2 l V U R a0 w0 m (listed.setIfInBounds i true) (a.put o.dst v) w':=by
 refine⟨I.base.step ay hV hT ho Zf WE hall hr hv,?_⟩;have Ea:i < listed.size:=by rw[I.base.len];exact Zf
 have kO:=cw ay i o ho;rw[Nat.zero_add] at kO
 have keep:∀j d oj,l[j]?=some oj->oj.dst=some d->j≠i->(a.put o.dst v).eval (.tmp d)=a.eval (.tmp d):=by
  intro j d oj hj hd Rk;refine Act.eval_put λ d' WG e=>?_
  injection e with e;subst e;have oX:=cw ay j oj hj;simp only[lQ,hd,Bool.and_eq_true,Nat.zero_add,beq_iff_eq] at oX;simp only[lQ,WG,Bool.and_eq_true,beq_iff_eq] at kO;rw[oX.1.1.2.2] at kO;have:=kO.1.1.2.2;injection this with this;exact Rk this
 intro j oj hj hl;by_cases Rk:j=i
 ·subst Rk;rw[hj] at ho;injection ho with ho;subst ho;refine hU j oj w' w' a.eval _ hj hu (hrefl _) λ k hk ok d JD hd=>keep k d ok JD hd ?_
  intro e;subst e;have:=hall k hk;rw[WE] at this;cases this
 ·have hl':listed.getD j false=true:=by rw[fh _ _ _ Ea,if_neg Rk] at hl;exact hl
  refine hU j oj w w' a.eval _ hj (I.post j oj hj hl') hr λ k hk ok d JD hd=>keep k d ok JD hd ?_
  intro e;subst e;have:=I.base.closed j oj hj hl' k hk;rw[WE] at this;cases this
theorem zfD.KbD(h:p:=by
 rw[<- ha] at hK;replace hK:=hK λ i o hi=>I2.post i o hi (hall i (by
  rcases Nat.lt_or_ge i l.length with h' | h'
  ·exact h'
  ·rw[getElem?_eq_none h'] at hi;cases hi))
 exact Zbj):p:=h
theorem zbW.Kar(h:p:=by open zfD in exact Zdj):p:=h
theorem CJ {N:Nat}(ay:cM l N l 0=true)(hz:dw (l++zs) zs l.length=true)(hf:∀w,R w0 w->cN V (λ a w=>(∀i o,l[i]?=some o->U i w a.eval)->wpList P (l++zs).toArray Q zs a w) l 0 a0 w) {listed:Array Bool} {a:Act} {w:World}(I2:Inv2 l V U R a0 w0 (l++zs).length listed a w)
  (h0:bz l.length listed=0):wpAny P .any (l++zs).toArray Q zs.length listed a w:=by have I:=I2.base;open zbW in exact ZaD
theorem zao.Kab(h:p:=by
 have hst:=CI hs j oj wE;rw[Nat.zero_add] at hst;have FY:=Inv.reads ay I wE wq eI (tmpsOf oj) (λ _ h=>h);have hstep:=hst a.eval w (lR a) I.r FY;have Gj:∀v w',R w w'->V j w' v->U j w' a.eval->wpAny P .any (l++zs).toArray Q fuel (listed.setIfInBounds j true) (a.put oj.dst v) w':=by intro v w' hr hv hu;refine ih _ _ _ (I2.step ay hV hU hrefl tW wE BL wq eI hr hv hu) ?_;have:=jX l.length listed j TaL JC wq;omega
 unfold wpOp;rw[nX];show if Region.wanted oj (yielded (l++zs).toArray a.tmps)=true then _ else _
 cases hg:oj.guard with
 | none=>rw[if_pos Ta5];simp only[hg] at hstep;exact .inl (jJ hstep λ v w' h=>Gj v w' h.1 h.2.1 h.2.2)
 | some g=>simp only[hg] at hstep):p:=h
theorem Ef {id:Nat} {ops:List Oper}(zs:List Oper)(l:List Oper)(tV:ops=l++zs)(R:World->World->Prop)(hrefl:∀w,R w w)(tW:∀a b c,R a b->R b c->R a c)(nw:∀w,R w w.drew)
  (V:Nat->World->Value->Prop) (U:Nat->World->(Operand->Value)->Prop) (hU:Rp l R U) (hV:∀i w w' v,V i w v->R w w'->V i w' v) (hm:P.follows .mixedOrders=true) (ay:cM l a0.tmps.size l 0=true) (hz:dw (l++zs) zs l.length=true)
  (hs:Ee P l R V U a0 w0 l 0) (hf:∀w,R w0 w->cN V (λ a w=>(∀i o,l[i]?=some o->U i w a.eval)->wpList P ops.toArray Q zs a w) l 0 a0 w):(Code.region id ops.toArray true).wp P Q a0 w0:=by
 subst tV
 have main:∀(fuel:Nat) (listed:Array Bool) (a:Act) (w:World),Inv2 l V U R a0 w0 (l++zs).length listed a w->fuel=bz l.length listed+zs.length->wpAny P .any (l++zs).toArray Q fuel listed a w:=by
  intro fuel
  induction fuel with
  | zero=>
    intro listed a w I2 WH;have I:=I2.base;have h0:bz l.length listed=0:=by omega
    have hz0:zs.length=0:=by omega
    have:=CJ ay hz hf I2 h0;rwa [hz0] at this
  | succ fuel ih=>
    intro listed a w I2 WH;have I:=I2.base;by_cases h0:bz l.length listed=0
    ·have:=CJ ay hz hf I2 h0;exact ZeJ
    ·open zao in exact Zab
 refine wp_region_any hm ?_;have h0:R w0 w0.drew:=nw w0;have:=main (l++zs).toArray.size (Array.replicate (l++zs).toArray.size false) a0 w0.drew ⟨⟨h0,rfl,rfl,λ _ _=>rfl,(λ i o d _ h=>by rw[aS] at h;cases h),(λ i o _ h=>by rw[aS] at h;cases h),by simp,λ i _=>aS _ _⟩,λ i o _ h=>by rw[aS] at h;cases h⟩ (by
  have:bz l.length (Array.replicate (l++zs).toArray.size false)=l.length:=by
   unfold bz
   rw[List.filter_eq_self.2 (λ i _=>by rw[aS];rfl),length_range]
  rw[this];simp)
 exact this
end
end Go.Proofs.YtehhdlgjfdnafaaGreatDoor
