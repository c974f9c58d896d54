/- Parts of the proof. -/
import Derived.BigQuiet
import Derived.Test.YtndgjggokjickaaGreatDoorRows
import Derived.Handy
import Derived.WalkLawsBesides
import Derived.Lib.Hide
import Derived.Deep.AppendLies
import Derived.Deep.RegionWith
import Derived.Laws.EntriesVeiled
import Derived.Test.YtndgjggokjickaaGreatDoorXP0
namespace Go.Proofs.YtndgjggokjickaaGreatDoor
open _root_.Go.Proofs.Tryz
open List
variable{p:Sort _}
set_option maxHeartbeats 90000000
set_option maxRecDepth 100000
open Go.RowKit
def tmpsOf(o:Oper):List Tmp:=o.op.operands.toList.filterMap λ|.tmp t=>some t|_=>none
def gP(t:Tmp):List Oper->Nat->Option Nat
 |[],_=>none
 |o::l,i=>if o.dst=some t then some i else gP t l (i+1)
def iM(o:Oper)(j:Nat):Bool:=o.after.toList.any λ e=>Region.binds .any e&&Nat.beq e.on j
def cY(l:List Oper)(o:Oper)(t:Tmp):Option Nat:=
 match gP t l 0 with
 |some j=>if iM o j then some j else none
 |none=>none
def eL(o:Oper):List Nat:=(o.after.toList.filter (Region.binds .any ·)).map (·.on)
def mz(l:List Oper)(N:Nat)(i:Nat)(o:Oper):Bool:=
 (eL o).all (λ j=>decide (j<i))&&
 (match o.dst with|some d=>decide (d<N)&&(gP d l 0==some i)|none=>true)&&
 (tmpsOf o).all (λ t=>match gP t l 0 with|some j=>iM o j||(match l[j]? with|some oj=>iM oj i|none=>false)|none=>true)&&
 (match o.guard with|none=>true|some (j,_)=>iM o j&&(match l[j]? with|some oj=>oj.dst.isSome|none=>false))
def dC(l:List Oper)(N:Nat):List Oper->Nat->Bool
 |[],_=>true
 |o::rest,i=>mz l N i o&&dC l N rest (i+1)
def Ch(l:List Oper):Nat->List Nat->Bool
 |0,_=>true
 |k+1,S=>S.contains k&&Ch l k (S++(match l[k]? with|some o=>eL o|none=>[]))
def eD(l:List Oper):List Oper->Nat->Bool
 |[],_=>true
 |o::rest,i=>(eL o).all (λ j=>decide (j<i))&&Ch l i (eL o)&&eD l rest (i+1)
def uj(P:Program)(o:Oper)(ρ:Operand->Value)(w:t_)(T:Value->t_->Prop):Prop:=
 match (execOp ρ o).run P w with
 |.ok (.value v) w'=>T v w'
 |.ok .skip w'=>T undef w'
 |.ok (.enter f args) w'=>Calls P f args w' λ e w''=>∃v,e=.returned v/\T v w''
 |_=>False
structure gD (ρ:Operand->Value):Prop where
 const:∀v,ρ (.const v)=v
 func:∀f,ρ (.func f)=.func (.func f) #[] #[]
 global:∀g,ρ (.global g)=aw g
theorem nG(a:Act):gD a.eval:=⟨λ _=>rfl,λ _=>rfl,λ _=>rfl⟩
def dW(l:List Oper)(V:Nat->t_->Value->Prop)(ρ0 ρ:Operand->Value)(w:t_)(o:Oper):List Tmp->Prop
 |[]=>True
 |t::ts=>(match cY l o t with|some j=>V j w (ρ (.tmp t))|none=>ρ (.tmp t)=ρ0 (.tmp t))/\dW l V ρ0 ρ w o ts
def Zk(P:Program)(l:List Oper)(R:t_->t_->Prop)(V:Nat->t_->Value->Prop)(a0:Act)(w0:t_)(i:Nat)(o:Oper):Prop:=
 ∀ρ w,gD ρ->R w0 w->dW l V a0.eval ρ w o (tmpsOf o)->
  match o.guard with
  |none=>uj P o ρ w λ v w'=>R w w'/\V i w' v
  |some (j,want)=>match (l[j]?).bind (·.dst)with
    |some d=>V j w (ρ (.tmp d))->(ρ (.tmp d)=.bool want->uj P o ρ w λ v w'=>R w w'/\V i w' v)/\(ρ (.tmp d)≠ .bool want->V i w undef)
    |none=>False
def Steps(P:Program)(l:List Oper)(R:t_->t_->Prop)(V:Nat->t_->Value->Prop)(a0:Act)(w0:t_):List Oper->Nat->Prop
 |[],_=>True
 |o::rest,i=>Zk P l R V a0 w0 i o/\Steps P l R V a0 w0 rest (i+1)
def bw(V:Nat->t_->Value->Prop)(K:Act->t_->Prop):List Oper->Nat->Act->t_->Prop
 |[],_,a,w=>K a w
 |o::rest,i,a,w=>match o.dst with
   |some d=>∀v,V i w v->bw V K rest (i+1) (a.put (some d) v) w
   |none=>bw V K rest (i+1) a w
variable{P:Program}{L:List Oper}{R:t_->t_->Prop}{V:Nat->t_->Value->Prop}{a0:Act}{w0:t_}
theorem LN:∀{l:List Oper}{k:Nat},Steps P L R V a0 w0 l k->∀i o,l[i]?=some o->Zk P L R V a0 w0 (k+i) o
 |[],_,_,i,o,h=>by simp at h
 |x::l,k,hs,0,o,h=>by simp at h;subst h;exact hs.1
 |x::l,k,hs,i+1,o,h=>by have:=LN hs.2 i o Taj;rwa [show k+1+i=k+(i+1) by omega]at this
variable{N:Nat}
theorem cF:∀{l:List Oper}{k:Nat},dC L N l k=true->∀i o,l[i]?=some o->mz L N (k+i) o=true
 |[],_,_,i,o,h=>by simp at h
 |x::l,k,hs,0,o,h=>by simp at h;subst h;simp only[dC,Bool.and_eq_true]at hs;exact hs.1
 |x::l,k,hs,i+1,o,h=>by simp only[dC,Bool.and_eq_true]at hs;have:=cF hs.2 i o Taj;rwa [show k+1+i=k+(i+1) by omega]at this
theorem jh:∀{l:List Oper}{k:Nat},eD L l k=true->∀i o,l[i]?=some o->(eL o).all (λ j=>decide (j<k+i))=true/\Ch L (k+i) (eL o)=true
 |[],_,_,i,o,h=>by simp at h
 |x::l,k,hs,0,o,h=>by simp at h;subst h;simp only[eD,Bool.and_eq_true]at hs;exact hs.1
 |x::l,k,hs,i+1,o,h=>by simp only[eD,Bool.and_eq_true]at hs;have:=jh hs.2 i o Taj;rwa [show k+1+i=k+(i+1) by omega]at this
variable{o:Oper}{j:Nat}
theorem jU:j∈eL o↔∃e∈o.after,Region.binds .any e=true/\e.on=j:=by unfold eL;simp only[mem_map,mem_filter,Array.mem_toList_iff];constructor;rintro⟨e,⟨h1,h2⟩,h3⟩;exact⟨e,h1,h2,h3⟩;rintro⟨e,h1,h2,h3⟩;exact⟨e,⟨h1,h2⟩,h3⟩
theorem cM:iM o j=true↔j∈eL o:=by rw[jU];unfold iM;simp only[any_eq_true,Bool.and_eq_true,Nat.beq_eq,Array.mem_toList_iff]
theorem ji(done:Nat->Prop)(hdc:∀i o,L[i]?=some o->done i->∀j∈eL o,done j):
  ∀(k:Nat) (S:List Nat),Ch L k S=true->(∀j∈S,done j)->∀j,j<k->done j
 |0,_,_,_,j,hj=>absurd hj WC
 |k+1,S,hc,hS,j,hj=>by simp only[Ch,Bool.and_eq_true]at hc;have hk:done k:=hS k (by simpa using hc.1);by_cases e:j=k;subst e;exact hk;refine ji done hdc k _ hc.2 ?_ j WC;intro i hi;rcases List.mem_append.1 hi with h|h;exact hS i h;split at h;rename_i o ho;exact hdc k o ho hk i h;cases h
theorem pF{t:Tmp}:∀{l:List Oper}{k i:Nat}{o:Oper},l[i]?=some o->o.dst=some t->(∃j,gP t l k=some j)
 |[],_,i,o,h,_=>by simp at h
 |x::l,k,0,o,h,hd=>by simp at h;subst h;exact⟨k,by simp[gP,hd]⟩
 |x::l,k,i+1,o,h,hd=>by by_cases hx:x.dst=some t;exact⟨k,by simp[gP,hx]⟩;obtain⟨j,hj⟩:=pF (l:=l) (k:=k+1) (i:=i) (o:=o) Taj hd;exact⟨j,by simp[gP,hx,hj]⟩
theorem rN{t:Tmp}:∀{l:List Oper}{k j:Nat},gP t l k=some j->∃i o,j=k+i/\l[i]?=some o/\o.dst=some t
 |[],_,_,h=>by simp[gP]at h
 |x::l,k,j,h=>by unfold gP at h;split at h;rename_i hx;injection h with h;subst h;exact⟨0,x,rfl,rfl,hx⟩;obtain⟨i,o,e,h1,h2⟩:=rN h;exact⟨i+1,o,by omega,by simpa using h1,h2⟩
structure Inv (l:List Oper) (V:Nat->t_->Value->Prop) (R:t_->t_->Prop) (a0:Act) (w0:t_) (m:Nat) (listed:Array Bool) (a:Act) (w:t_):Prop where
 r:R w0 w
 defers:a.defers=a0.defers
 size:a.tmps.size=a0.tmps.size
 old:∀t,(∀i o,l[i]?=some o->o.dst=some t->listed.getD i false=true->False)->a.tmps[t]?=a0.tmps[t]?
 new:∀i o d,l[i]?=some o->listed.getD i false=true->o.dst=some d->V i w (a.eval (.tmp d))
 closed:∀i o,l[i]?=some o->listed.getD i false=true->∀j∈eL o,listed.getD j false=true
 len:listed.size=m
 tail:∀i,l.length<=i->listed.getD i false=false
def bB(l:Nat)(listed:Array Bool):Nat:=((List.range l).filter λ i=> !listed.getD i false).length
theorem eR(listed:Array Bool)(i j:Nat)(hi:i<listed.size):(listed.setIfInBounds i true).getD j false=if j=i then true else listed.getD j false:=by by_cases h:j=i;subst h;simp[hi];simp only[Array.getD_eq_getD_getElem?,if_neg h];rw[Array.getElem?_setIfInBounds_ne (λ e=>h e.symm)]
variable{i:Nat}
theorem zP{p q:Nat->Bool}:∀{L:List Nat},L.Nodup->i∈L->p i=true->q i=false->(∀j∈L,j≠i->q j=p j)->(L.filter q).length+1=(L.filter p).length
 |[],_,h,_,_,_=>by cases h
 |x::L,hn,hm,hp,hq,Tv=>by
   have hn':=(List.nodup_cons.1 hn);by_cases hx:x=i
   ·subst hx;have he:L.filter q=L.filter p:=filter_congr λ j hj=>Tv j (mem_cons_of_mem _ hj) (λ e=>hn'.1 (e▸hj))
    rw[filter_cons,filter_cons,hp,hq,he];simp
   have hi:i∈L:=by rcases List.mem_cons.1 hm with h|h;exact absurd h.symm hx;exact h
   have ih:=zP hn'.2 hi hp hq (λ j hj=>Tv j (mem_cons_of_mem _ hj));have hxq:=Tv x (mem_cons_self) hx;rw[filter_cons,filter_cons,hxq];split;simp only[length_cons];omega;exact ih
theorem lW(l:Nat)(listed:Array Bool)(i:Nat)(hi:i<listed.size)(hl:i<l)(h:listed.getD i false=false):bB l (listed.setIfInBounds i true)+1=bB l listed:=by unfold bB;refine zP (i:=i) nodup_range (List.mem_range.2 hl) TaR (by rw[eR _ _ _ hi];simp) ?_;intro j _ hj;rw[eR _ _ _ hi,if_neg hj]
variable{listed:Array Bool}
theorem eh{l:Nat}(h:bB l listed=0):∀i,i<l->listed.getD i false=true:=by
 intro i hi;unfold bB at h;have:=List.length_eq_zero_iff.1 h;cases hc:listed.getD i false with
 |true=>rfl
 |false=>
   have hm:i∈(List.range l).filter λ i=> !listed.getD i false:=List.mem_filter.2 ⟨List.mem_range.2 hi,by simp[hc]⟩;rw[this]at hm;cases hm
theorem least{p:Nat->Prop}:∀n,p n->∃i,p i/\∀j,j<i->¬p j:=by
 intro n hn
 induction n using Nat.strongRecOn with
 |ind n ih=>
   by_cases h:∃j,j<n/\p j;obtain⟨j,hj,hp⟩:=h;exact ih j hj hp;exact⟨n,hn,λ j hj hp=>h ⟨j,hj,hp⟩⟩
theorem lX{l:Nat}(h:bB l listed≠0):∃i,i<l/\listed.getD i false=false:=by
 unfold bB at h
 match hf:(List.range l).filter λ i=> !listed.getD i false with
 |[]=>rw[hf]at h;exact absurd rfl h
 |i::_=>
   have hm:i∈(List.range l).filter λ i=> !listed.getD i false:=by rw[hf];exact mem_cons_self
   have:=List.mem_filter.1 hm;exact⟨i,List.mem_range.1 this.1,by simpa using this.2⟩
variable{T:Value->t_->Prop}{K:Act->t_->Prop}{Q:y_}
theorem jV{a:Act}{w:t_}
  (h:uj P o a.eval w T) (hK:∀v w',T v w'->K (a.put o.dst v) w'):o.wp P a w K Q:=by
 unfold uj at h;unfold Oper.wp;generalize (execOp a.eval o).run P w=r at*;cases r with
 |ok n w'=>
   cases n<;>simp only[Oper.upon]<;>first|exact hK _ _ h|exact h.elim|skip
   exact h.mono λ e w'' ⟨v,he,ht⟩=>by subst he;exact hK _ _ ht
 |halt x w'=>exact h.elim
theorem nH{a:Act}{t:Tmp}(h:a.tmps[t]?=a0.tmps[t]?):a.eval (.tmp t)=a0.eval (.tmp t):=by simp[Act.eval,Array.getD_eq_getD_getElem?,h]
section
variable{P:Program}{l zs:List Oper}{Q:y_}{R:t_->t_->Prop}{V:Nat->t_->Value->Prop}{a0:Act}{w0:t_}
theorem oH{i:Nat}{o:Oper}(h:l[i]?=some o):(l++zs).toArray[i]?=some o:=by
 have:i<l.length:=by rcases gR i l.length with h'|h';exact h';rw[getElem?_eq_none h']at h;cases h
 simp[getElem?_append_left this,h]
theorem Inv.reads(bc:dC l a0.tmps.size l 0=true){listed:Array Bool}{a:Act}{w:t_}{m:Nat}(I:Inv l V R a0 w0 m listed a w){i:Nat}{o:Oper}(ho:l[i]?=some o)
  (hun:listed.getD i false=false) (hall:∀j∈eL o,listed.getD j false=true):∀ts,(∀t∈ts,t∈tmpsOf o)->dW l V a0.eval a.eval w o ts
 |[],_=>trivial
 |t::ts,amj=>by
   refine⟨?_,Inv.reads bc I ho hun hall ts (λ t ht=>amj t (mem_cons_of_mem _ ht))⟩;have PE:=cF bc i o ho;rw[Nat.zero_add]at PE;simp only[mz,Bool.and_eq_true]at PE;have ht:=List.all_eq_true.1 PE.1.2 t (amj t mem_cons_self);unfold cY;cases hs:gP t l 0 with
   |none=>refine nH (I.old t ?_);intro j oj hj hd _;obtain⟨k,hk⟩:=pF (k:=0) hj hd;rw[hs]at hk;cases hk
   |some j=>
     simp only[hs]at ht;obtain⟨j',oj,e,hj,hd⟩:=rN hs;rw[Nat.zero_add]at e;subst e;by_cases he:iM o j=true;simp only[he,if_true];exact I.new j oj t hj (hall j (cM.1 he)) hd;simp only[he];rw[Bool.not_eq_true]at he;simp only[he,Bool.false_or,hj]at ht;refine nH (I.old t ?_);intro k ok hk hdk hlk;have Zl:=cF bc k ok hk;simp only[mz,hdk,Bool.and_eq_true,Nat.zero_add,beq_iff_eq]at Zl;have hkj:k=j:=by have:=Zl.1.1.2.2;rw[hs]at this;injection this with this;exact this.symm
     subst hkj;rw[hj]at hk;injection hk with hk;subst hk;have:=I.closed k oj hj hlk i (cM.1 ht);rw[hun]at this;cases this
theorem Inv.step(bc:dC l a0.tmps.size l 0=true)(hV:∀i w w' v,V i w v->R w w'->V i w' v)(hT:∀a b c,R a b->R b c->R a c){m:Nat}{listed:Array Bool}{a:Act}{w w':t_}{v:Value}(I:Inv l V R a0 w0 m listed a w){i:Nat}{o:Oper}(ho:l[i]?=some o)(zQ:i<m)
  (hun:listed.getD i false=false) (hall:∀j∈eL o,listed.getD j false=true) (hr:R w w') (hv:V i w' v):Inv l V R a0 w0 m (listed.setIfInBounds i true) (a.put o.dst v) w':=by
 have qQ:i<listed.size:=by rw[I.len];exact zQ
 have LO:i<l.length:=by rcases gR i l.length with h'|h';exact h';rw[getElem?_eq_none h']at ho;cases ho
 have jW:=cF bc i o ho;rw[Nat.zero_add]at jW;refine⟨hT _ _ _ I.r hr,?_,?_,?_,?_,?_,by simp[I.len],?_⟩;cases hd:o.dst<;>simp[Act.put,I.defers];cases hd:o.dst<;>simp[Act.put,I.size]
 ·intro t ht;have hto:o.dst≠some t:=λ e=>ht i o ho e (by rw[eR _ _ _ qQ,if_pos rfl])
  have h1:(a.put o.dst v).tmps[t]?=a.tmps[t]?:=by
   cases hd:o.dst with
   |none=>rfl
   |some d=>
     have:d≠t:=λ e=>hto (by rw[hd,e]);simp[Act.put,Array.getElem?_setIfInBounds_ne this]
  rw[h1];refine I.old t ?_;intro j oj hj hd hl;exact ht j oj hj hd (by rw[eR _ _ _ qQ];split<;>simp_all)
 ·intro j oj d hj hl hd;by_cases Pj:j=i
  ·subst Pj;rw[hj]at ho;injection ho with ho;subst ho;simp only[mz,hd,Bool.and_eq_true,decide_eq_true_eq]at jW
   have:(a.put oj.dst v).eval (.tmp d)=v:=by
    have hb:d<a.tmps.size:=by rw[I.size];exact jW.1.1.2.1
    simp[hd,Act.put,Act.eval,hb]
   rw[this];exact hv
  have hl':listed.getD j false=true:=by rw[eR _ _ _ qQ,if_neg Pj]at hl;exact hl
  have hne:o.dst≠some d:=by intro e;have rO:=cF bc j oj hj;simp only[mz,hd,Bool.and_eq_true,Nat.zero_add,beq_iff_eq]at rO;simp only[mz,e,Bool.and_eq_true,beq_iff_eq]at jW;rw[rO.1.1.2.2]at jW;have:=jW.1.1.2.2;injection this with this;exact Pj this
  have h1:(a.put o.dst v).eval (.tmp d)=a.eval (.tmp d):=Act.eval_put λ d' wC e=>by injection e with e;subst e;exact hne wC
  rw[h1];exact hV _ _ _ _ (I.new j oj d hj hl' hd) hr
 ·intro j oj hj hl k hk;rw[eR _ _ _ qQ];by_cases hki:k=i
  ·rw[if_pos hki]
  rw[if_neg hki];by_cases Pj:j=i;subst Pj;rw[hj]at ho;injection ho with ho;subst ho;exact hall k hk;rw[eR _ _ _ qQ,if_neg Pj]at hl;exact I.closed j oj hj hl k hk
 intro j hj;rw[eR _ _ _ qQ,if_neg WC];exact I.tail j hj
def fill(f:Tmp->Value):List Oper->Act->Act
 |[],a=>a
 |o::rest,a=>fill f rest (match o.dst with|some d=>a.put (some d) (f d)|none=>a)
theorem kM(f:Tmp->Value):∀(l:List Oper) (a:Act),(fill f l a).defers=a.defers
 |[],_=>rfl
 |o::rest,a=>by rw[fill,kM f rest];cases o.dst<;>rfl
theorem oI(f:Tmp->Value):∀(l:List Oper) (a:Act),(fill f l a).tmps.size=a.tmps.size
 |[],_=>rfl
 |o::rest,a=>by rw[fill,oI f rest];cases o.dst<;>simp[Act.put]
theorem rP(f:Tmp->Value):∀(l:List Oper) (a:Act) (t:Nat),t<a.tmps.size->(fill f l a).tmps[t]?=if (∃o∈l,o.dst=some t)then some (f t)else a.tmps[t]?
 |[],_,_,_=>by simp[fill]
 |o::rest,a,t,ht=>by
   rw[fill,rP f rest _ t (by cases o.dst<;>simpa [Act.put] using ht)];by_cases h1:∃o'∈rest,o'.dst=some t;rw[if_pos h1,if_pos (by obtain⟨o',h,e⟩:=h1;exact⟨o',mem_cons_of_mem _ h,e⟩)];rw[if_neg h1];by_cases h2:o.dst=some t;rw[if_pos ⟨o,mem_cons_self,h2⟩,h2];simp[Act.put,ht];rw[if_neg (by rintro⟨o',h,e⟩;rcases List.mem_cons.1 h with rfl|h;exact h2 e;exact h1 ⟨o',h,e⟩)];cases hd:o.dst with
   |none=>rfl
   |some d=>simp[Act.put,Array.getElem?_setIfInBounds_ne (show d≠t from λ e=>h2 (by rw[hd,e]))]
theorem yH{K:Act->t_->Prop}{w:t_}(f:Tmp->Value):∀(L:List Oper) (k:Nat) (a:Act),(∀i o d,L[i]?=some o->o.dst=some d->V (k+i) w (f d))->bw V K L k a w->K (fill f L a) w
 |[],_,_,_,h=>h
 |o::rest,k,a,hv,h=>by
   rw[fill];have LP:∀i o' d,rest[i]?=some o'->o'.dst=some d->V (k+1+i) w (f d):=λ i o' d h1 h2=>by have:=hv (i+1) o' d Ta9 h2;rwa [show k+(i+1)=k+1+i by omega]at this
   unfold bw at h;cases hd:o.dst with
   |none=>simp only[hd]at h;exact yH f rest (k+1) a LP h
   |some d=>simp only[hd]at h;exact yH f rest (k+1) _ LP (h _ (by have:=hv 0 o d rfl hd;simpa using this))
theorem rQ{ops:Array Oper}{listed:Array Bool}{i:Nat}{o:Oper}(ho:ops[i]?=some o)(hu:listed.getD i true=false)(hall:∀j∈eL o,listed.getD j false=true):i∈Region.ready .any ops listed:=
 mem_ready.2 ⟨hu,o,ho,λ e he hb=>hall _ (jU.2 ⟨e,he,hb,rfl⟩)⟩
theorem eE{listed:Array Bool}{i:Nat}(h:i<listed.size):listed.getD i true=listed.getD i false:=TaR
theorem rR{N:Nat}(bc:dC l N l 0=true)(hz:eD (l++zs) zs l.length=true):∀(k:Nat) (rest:List Oper),zs.drop k=rest->∀(listed:Array Bool) (a:Act) (w:t_),listed.size=(l++zs).length->
  (∀i,i <(l++zs).length->(listed.getD i false=true↔i<l.length+k))->wpList P (l++zs).toArray Q rest a w->wpAny P .any (l++zs).toArray Q rest.length listed a w
 |k,[],hk,listed,a,w,hs,hl,h=>by
   refine⟨?_,h⟩;have hlen:zs.length<=k:=List.drop_eq_nil_iff.1 hk;rw[eq_nil_iff_forall_not_mem];intro i hi;obtain⟨hu,o,ho,_⟩:=mem_ready.1 hi;have LO:i <(l++zs).length:=by rcases gR i (l++zs).length with h'|h';exact h';rw[Array.getElem?_eq_none (by simpa using h')]at ho;cases ho
   rw[eE WC]at hu;have:=(hl i LO).2 (by simp at LO;omega);rw[hu]at this;cases this
 |k,o::rest,hk,listed,a,w,hs,hl,h=>by
   have hkz:zs[k]?=some o:=by have:=congrArg (λ x=>x[0]?) hk;simpa using this
   have aml:k<zs.length:=by rcases gR k zs.length with h'|h';exact h';rw[getElem?_eq_none h']at hkz;cases hkz
   have Ci:(l++zs)[l.length+k]?=some o:=by rw[getElem?_append_right WC];simpa using hkz
   have Gi:zs.drop (k+1)=rest:=by rw[<-tail_drop,hk];rfl
   have ht:=jh hz k o hkz;have amm:∀j∈eL o,listed.getD j false=true:=λ j KK=>by have:=of_decide_eq_true (List.all_eq_true.1 ht.1 j KK);exact(hl j Tac).2 this
   have hun:listed.getD (l.length+k) true=false:=by
    rw[eE (by rw[hs];simp;omega)];cases hc:listed.getD (l.length+k) false with
    |false=>rfl
    |true=>exact absurd ((hl _ Tac).1 hc) WC
   have jy:l.length+k∈Region.ready .any (l++zs).toArray listed:=rQ (by simpa using Ci) hun amm;refine⟨(λ h0=>by rw[h0]at jy;cases jy),λ i hi=>?_⟩;obtain⟨hu,oj,hoi,hall⟩:=mem_ready.1 hi;have LO:i <(l++zs).length:=by rcases gR i (l++zs).length with h'|h';exact h';rw[Array.getElem?_eq_none (by simpa using h')]at hoi;cases hoi
   rw[eE WC]at hu;have aBU:l.length+k<=i:=by rcases gR i (l.length+k)with h'|h';have:=(hl i LO).2 h';rw[hu]at this;cases this;exact h'
   have hik:i=l.length+k:=by
    rcases gR (l.length+k) i with h'|h'
    ·exfalso;have hzj:zs[i-l.length]?=some oj:=by
      have:(l++zs)[i]?=some oj:=by simpa using hoi
      rw[getElem?_append_right WC]at this;exact this
     have Tw:=jh hz (i-l.length) oj hzj;rw[show l.length+(i-l.length)=i by omega]at Tw;have hc:=ji (L:=l++zs) (λ j=>j <(l++zs).length->listed.getD j false=true) (by
      intro j Kx KK hdone e he hlt;have amn:j <(l++zs).length:=by rcases gR j (l++zs).length with h'|h';exact h';rw[getElem?_eq_none h']at KK;cases KK
      have wD:=(hl j amn).1 (hdone amn);by_cases hjz:l.length<=j
      ·have Lw:zs[j-l.length]?=some Kx:=by rw[getElem?_append_right WC]at KK;exact KK
       have:=of_decide_eq_true (List.all_eq_true.1 (jh hz (j-l.length) Kx Lw).1 e he);exact(hl e hlt).2 WC
      ·have hj:l[j]?=some Kx:=by rw[getElem?_append_left WC]at KK;exact KK
       have rO:=cF bc j Kx hj;simp only[mz,Bool.and_eq_true,Nat.zero_add]at rO;have:=of_decide_eq_true (List.all_eq_true.1 rO.1.1.1 e he);exact(hl e hlt).2 WC) i (eL oj) Tw.2 (by
      intro j KK hlt;obtain⟨e,he,hb,rfl⟩:=jU.1 KK;exact hall e he hb) (l.length+k) h' Tac
     exact absurd ((hl _ Tac).1 hc) WC
    omega
   subst hik;have ho:(l++zs).toArray[l.length+k]?=some o:=by simpa using Ci
   have hw:wpOp P (l++zs).toArray Q (l.length+k) (wpList P (l++zs).toArray Q rest) a w:=by unfold wpOp;rw[ho];unfold wpList at h;exact h
   refine wpOp_mono (λ a' w' h'=>rR bc hz (k+1) rest Gi _ a' w' (by simp[hs]) ?_ h') hw;intro i hi;rw[eR _ _ _ (by rw[hs];simp;omega)];by_cases Tx:i=l.length+k;rw[if_pos Tx];exact⟨λ _=>by omega,λ _=>rfl⟩;rw[if_neg Tx,hl i hi];omega
theorem br(n i:Nat):(Array.replicate n false).getD i false=false:=by simp only[Array.getD_eq_getD_getElem?,Array.getElem?_replicate];split<;>rfl
theorem BI{a b:Act}(h1:a.tmps=b.tmps)(h2:a.defers=b.defers):a=b:=by cases a;cases b;simp_all
def zf0.Kbu(h:p:=by rw[<-ha]at hK;exact Zbq):=h
def zb1.Kal(h:p:=by open zf0 in exact Zef):=h
theorem LQ{N:Nat}(bc:dC l N l 0=true)(hz:eD (l++zs) zs l.length=true)(hf:∀w,R w0 w->bw V (λ a w=>wpList P (l++zs).toArray Q zs a w) l 0 a0 w){listed:Array Bool}{a:Act}{w:t_}(I:Inv l V R a0 w0 (l++zs).length listed a w)
  (h0:bB l.length listed=0):wpAny P .any (l++zs).toArray Q zs.length listed a w:=by
 open zb1 in exact ZaG
def zak.Kb(h:p:=by
 have hst:=LN hs i oj wE;rw[Nat.zero_add]at hst;have YH:=Inv.reads bc I wE Cl fw (tmpsOf oj) (λ _ h=>h);have hstep:=hst a.eval w (nG a) I.r YH;have LR:∀v w',R w w'->V i w' v->wpAny P .any (l++zs).toArray Q fuel (listed.setIfInBounds i true) (a.put oj.dst v) w':=by intro v w' hr hv;refine ih _ _ _ (I.step bc hV Cj wE AJ Cl fw hr hv) ?_;have:=lW l.length listed i Tbj qQ Cl;omega
 unfold wpOp;rw[pG];show if Region.wanted oj (yielded (l++zs).toArray a.tmps)=true then _ else _
 cases hg:oj.guard with
 |none=>rw[if_pos (by simp[Region.wanted,hg])];simp only[hg]at hstep;exact .inl (jV hstep λ v w' h=>LR v w' h.1 h.2)
 |some g=>
   obtain⟨k,want⟩:=g;simp only[hg]at hstep;have rO:=cF bc i oj wE;simp only[mz,hg,Bool.and_eq_true,Nat.zero_add]at rO;have BJ:listed.getD k false=true:=fw k (cM.1 rO.2.1);cases hd:(l[k]?).bind (·.dst)with
   |none=>simp only[hd]at hstep
   |some d=>
     simp only[hd]at hstep;obtain⟨ok,uk,hdk⟩:∃ok,l[k]?=some ok/\ok.dst=some d:=by
      cases hlk:l[k]? with
      |none=>rw[hlk]at hd;cases hd
      |some ok=>rw[hlk]at hd;exact⟨ok,rfl,hd⟩
     have hyv:=I.new k ok d uk BJ hdk;obtain⟨h1,h2⟩:=hstep hyv;have Zl:=cF bc k ok uk;simp only[mz,hdk,Bool.and_eq_true,decide_eq_true_eq,Nat.zero_add]at Zl;have atI:d<a.tmps.size:=by rw[I.size];exact Zl.1.1.2.1
     have Cm:yielded (l++zs).toArray a.tmps k=match a.eval (.tmp d)with|.bool b=>some b|_=>none:=by unfold yielded;rw[oH uk];simp only[Option.bind_some,hdk,Act.eval,Array.getD_eq_getD_getElem?,Array.getElem?_eq_getElem atI,Option.getD_some];cases a.tmps[d]<;>rfl
     by_cases zR:a.eval (.tmp d)=.bool want;rw[if_pos (by simp[Region.wanted,hg,Cm,zR])];exact .inl (jV (h1 zR) λ v w' h=>LR v w' h.1 h.2);rw[if_neg (by simp only[Region.wanted,hg,Cm];intro hc;apply zR;cases hv:a.eval (.tmp d)<;>rw[hv]at hc<;>simp at hc;rw[hc])]
     exact LR undef w (hrefl w) (h2 zR)):=h
theorem fJ{id:Nat}{ops:List Oper}(zs:List Oper)(l:List Oper)(jN:ops=l++zs)(R:t_->t_->Prop)(hrefl:∀w,R w w)(Cj:∀a b c,R a b->R b c->R a c)(oJ:∀w,R w w.drew)
  (V:Nat->t_->Value->Prop) (hV:∀Kx w w' v,V Kx w v->R w w'->V Kx w' v) (hm:P.follows .mixedOrders=true) (bc:dC l a0.tmps.size l 0=true) (hz:eD (l++zs) zs l.length=true)
  (hs:Steps P l R V a0 w0 l 0) (hf:∀w,R w0 w->bw V (λ a w=>wpList P ops.toArray Q zs a w) l 0 a0 w):(Code.region id ops.toArray true).wp P Q a0 w0:=by
 subst jN;have main:∀(fuel:Nat) (listed:Array Bool) (a:Act) (w:t_),Inv l V R a0 w0 (l++zs).length listed a w->fuel=bB l.length listed+zs.length->wpAny P .any (l++zs).toArray Q fuel listed a w:=by
  intro fuel
  induction fuel with
  |zero=>
    intro listed a w I hfu;have h0:bB l.length listed=0:=WC;have hz0:zs.length=0:=WC;have:=LQ bc hz hf I h0;rwa [hz0]at this
  |succ fuel ih=>
    intro listed a w I hfu;by_cases h0:bB l.length listed=0;have:=LQ bc hz hf I h0;exact Zf8
    open zak in exact Zad
 refine wp_region_any hm ?_;have h0:R w0 w0.drew:=oJ w0;have:=main (l++zs).toArray.size (Array.replicate (l++zs).toArray.size false) a0 w0.drew ⟨h0,rfl,rfl,λ _ _=>rfl,(λ Kx o d _ h=>by rw[br]at h;cases h),(λ Kx o _ h=>by rw[br]at h;cases h),by simp,λ Kx _=>br _ _⟩ (by
  have:bB l.length (Array.replicate (l++zs).toArray.size false)=l.length:=by unfold bB;rw[List.filter_eq_self.2 (λ Kx _=>by rw[br];rfl),length_range]
  rw[this];simp)
 exact this
end
structure Ext (B:Nat) (w0:t_) where
 w:t_
 h:Below B w0 w
instance (B:Nat) (w0:t_):Nonempty (Ext B w0):=⟨⟨w0,Below.refl _ _⟩⟩
variable{B:Nat}
theorem Ext.cell(x:Ext B w0){p:Addr}(hp:p.block<B):x.w.cell? p=w0.cell? p:=x.h.cell hp
variable{C:t_->Prop}
theorem uR{ops:Array Oper}{Q:Act->Prop}:∀(l:List Oper) (a:Act),wpQuiet P ops C Q l a->
  ∃vs:xr,vs.length=l.length/\
   (∀i o,l[i]?=some o->∃v,vs[i]?=some v/\
     ((Region.wanted o (yielded ops ((l.take i).zip vs |>.foldl (λ b ov=>b.put ov.1.dst ov.2) a).tmps)=true/\∀w,C w->o.quietAt P ((l.take i).zip vs |>.foldl (λ b ov=>b.put ov.1.dst ov.2) a) C w v)\/
      (Region.wanted o (yielded ops ((l.take i).zip vs |>.foldl (λ b ov=>b.put ov.1.dst ov.2) a).tmps)=false/\v=undef)))/\
   Q ((l.zip vs).foldl (λ b ov=>b.put ov.1.dst ov.2) a)
 |[],a,h=>⟨[],rfl,λ i o ho=>by simp at ho,h⟩
 |o::l,a,h=>by
   unfold wpQuiet at h;by_cases hw:Region.wanted o (yielded ops a.tmps)=true
   ·rw[if_pos hw]at h;obtain⟨v,hv,hn⟩:=h;obtain⟨vs,hl,hall,hq⟩:=uR l _ hn;refine⟨v::vs,by simp[hl],λ i o' Cn=>?_,by simpa using hq⟩
    match i with
    |0=>simp at Cn;subst Cn;exact⟨v,rfl,.inl ⟨by simpa using hw,by simpa using hv⟩⟩
    |i+1=>obtain⟨v',h1,h2⟩:=hall i o' (by simpa using Cn);exact⟨v',by simpa using h1,by simpa using h2⟩
   rw[if_neg hw]at h;obtain⟨vs,hl,hall,hq⟩:=uR l _ h;refine⟨undef::vs,by simp[hl],λ i o' Cn=>?_,by simpa using hq⟩
   match i with
   |0=>simp at Cn;subst Cn;exact⟨undef,rfl,.inr ⟨by simpa using hw,rfl⟩⟩
   |i+1=>obtain⟨v',h1,h2⟩:=hall i o' (by simpa using Cn);exact⟨v',by simpa using h1,by simpa using h2⟩
variable{vs:xr}
theorem uE{l:List Oper}{k:Nat}{v:Value}(hl:vs.length=l.length)(ho:l[k]?=some o)(hv:vs[k]?=some v):((l.take (k+1)).zip vs)=((l.take k).zip vs)++[(o,v)]:=by
 have hk:k<l.length:=by exact ZgL
 rw[take_add_one,ho];have e1:vs=vs.take k++v::vs.drop (k+1):=by
  conv=>lhs;rw[<-take_append_drop k vs]
  congr 1;rw[drop_eq_getElem_cons WC];congr 1;rw[getElem?_eq_getElem WC]at hv;injection hv
 have hlen:(l.take k).length=(vs.take k).length:=Tac
 conv=>lhs;rw[e1]
 rw[zip_append hlen];have e2:(l.take k).zip vs=(l.take k).zip (vs.take k):=by
  conv=>lhs;rw[<-take_append_drop k vs]
  have h0:(l.take k++[]).zip (vs.take k++vs.drop k)=(l.take k).zip (vs.take k)++([]:List Oper).zip (vs.drop k):=zip_append hlen;simpa using h0
 rw[e2];simp
theorem Gj{l:List Oper}{a:Act}(bc:dC l a.tmps.size l 0=true)(hl:vs.length=l.length):∀(k:Nat),k<=l.length->
  (((l.take k).zip vs).foldl (λ b ov=>b.put ov.1.dst ov.2) a).tmps.size=a.tmps.size/\
  (∀j oj d v,j<k->l[j]?=some oj->oj.dst=some d->vs[j]?=some v->(((l.take k).zip vs).foldl (λ b ov=>b.put ov.1.dst ov.2) a).tmps[d]?=some v)/\
  (∀t,(∀j oj,j<k->l[j]?=some oj->oj.dst≠some t)->(((l.take k).zip vs).foldl (λ b ov=>b.put ov.1.dst ov.2) a).tmps[t]?=a.tmps[t]?)
 |0,_=>by simp
 |k+1,hk=>by
   obtain⟨h1,h2,h3⟩:=Gj bc hl k WC;obtain⟨o,ho⟩:∃o,l[k]?=some o:=⟨l[k]' WC,getElem?_eq_getElem WC⟩;obtain⟨v,hv⟩:∃v,vs[k]?=some v:=⟨vs[k]' WC,getElem?_eq_getElem WC⟩;have e:=uE hl ho hv;rw[e,foldl_append];generalize ((l.take k).zip vs).foldl (λ b ov=>b.put ov.1.dst ov.2) a=b at*;have jW:=cF bc k o ho;rw[Nat.zero_add]at jW;simp only[foldl_cons,foldl_nil];refine⟨?_,?_,?_⟩;cases hd:o.dst<;>simp[Act.put,h1]
   ·intro j oj d v' Kx hj hd hv';by_cases Pj:j=k
    ·subst Pj;rw[ho]at hj;injection hj with hj;subst hj
     rw[hv]at hv';injection hv' with hv';subst hv';simp only[mz,hd,Bool.and_eq_true,decide_eq_true_eq]at jW;have hb:d<b.tmps.size:=by rw[h1];exact jW.1.1.2.1
     simp[hd,Act.put,hb]
    have hold:=h2 j oj d v' WC hj hd hv';cases hdo:o.dst with
    |none=>exact hold
    |some d'=>
      have hne:d'≠d:=by intro e';subst e';have rO:=cF bc j oj hj;simp only[mz,hd,Bool.and_eq_true,Nat.zero_add,beq_iff_eq]at rO;simp only[mz,hdo,Bool.and_eq_true,beq_iff_eq]at jW;rw[rO.1.1.2.2]at jW;have:=jW.1.1.2.2;injection this with this;exact Pj this
      simp only[Act.put,Array.getElem?_setIfInBounds_ne hne];exact hold
   intro t ht;have hold:=h3 t (λ j oj Kx hj=>ht j oj WC hj);cases hdo:o.dst with
   |none=>exact hold
   |some d'=>
     have hne:d'≠t:=λ e'=>ht k o WC ho (by rw[hdo,e']);simp only[Act.put,Array.getElem?_setIfInBounds_ne hne];exact hold
variable{ρ:Operand->Value}
theorem rS{a:Act}{w:t_}{v:Value}(Vn:∀cs b,o.op≠ .select cs b)(he:∀x∈o.op.operands,ρ x=a.eval x)(hC:C w)
  (h:o.quietAt P a C w v):uj P o ρ w λ v' w'=>(C w->C w')/\v'=v:=by
 unfold Oper.quietAt at h;unfold uj;rw[execOp_congr o Vn he];generalize (execOp a.eval o).run P w=r at*;cases r with
 |ok n w'=>
   cases n<;>simp only[Oper.quietUpon]at h;case value u=>obtain⟨rfl,rfl⟩:=h;exact⟨id,rfl⟩
   case skip=>obtain⟨rfl,rfl⟩:=h;exact⟨id,rfl⟩
   case enter f args=>obtain⟨rfl,hc⟩:=h;exact hc.mono λ e w'' ⟨he,hc'⟩=>⟨v,he,λ _=>hc',rfl⟩
 |halt x w'=>simp only[Oper.quietUpon]at h
theorem PG{t:Tmp}:t∈tmpsOf o↔Operand.tmp t∈o.op.operands:=by unfold tmpsOf;simp only[mem_filterMap,Array.mem_toList_iff];constructor;rintro⟨x,hx,h⟩;cases x<;>simp at h;subst h;exact hx;intro h;exact⟨_,h,rfl⟩
variable{ρ0:Operand->Value}
theorem Gk{l:List Oper}{w:t_}:∀{ts:List Tmp},dW l V ρ0 ρ w o ts->∀t∈ts,match cY l o t with|some j=>V j w (ρ (.tmp t))|none=>ρ (.tmp t)=ρ0 (.tmp t)
 |[],_,t,h=>by cases h
 |x::ts,hr,t,h=>by rcases List.mem_cons.1 h with rfl|h;exact hr.1;exact Gk hr.2 t h
def afY(l:List Oper):Bool:=l.all λ o=>match o.op with|.select _ _=>false|_=>true
variable{id:Nat}{ops:List Oper}
def zhW.Kce(h:p:=by
 refine⟨?_,ih (k+1) (by rw[<-tail_drop,hk];rfl)⟩;intro ρ w hc hR hr;have hCw:C w:=hR hC0;obtain⟨v,hv,Zm⟩:=hall k o Ja;obtain⟨f1,f2,f3⟩:=Gj bc hl k WC;have jW:=cF bc k o Ja;rw[Nat.zero_add]at jW;have amo:∀cs b,o.op≠ .select cs b:=by intro cs b e;have:=List.all_eq_true.1 Vn o (mem_of_getElem? Ja);rw[e]at this;cases this
 have gO:∀x∈o.op.operands,ρ x=(((l.take k).zip vs).foldl (λ b ov=>b.put ov.1.dst ov.2) a0).eval x:=by
  intro x hx;cases x with
  |const v=>rw[hc.const];rfl
  |global g=>rw[hc.global];rfl
  |func f=>rw[hc.func];rfl
  |tmp t=>
    have hmt:=PG.2 hx;have hrt:=Gk hr t hmt;simp only[mz,Bool.and_eq_true]at jW;have hot:=List.all_eq_true.1 jW.1.2 t hmt;unfold cY at hrt;cases hs:gP t l 0 with
    |none=>simp only[hs]at hrt;rw[hrt];refine(nH (f3 t ?_)).symm;intro KK Kx _ pG hd;obtain⟨j',hj'⟩:=pF (k:=0) pG hd;rw[hs]at hj';cases hj'
    |some KK=>
      obtain⟨j',Kx,e,hj,hd⟩:=rN hs;rw[Nat.zero_add]at e;subst e;simp only[hs]at hrt hot;by_cases he:iM o KK=true;simp only[he,if_true]at hrt;have hjk:KK<k:=of_decide_eq_true (List.all_eq_true.1 jW.1.1.1 KK (cM.1 he));have:=f2 KK Kx t _ hjk hj hd hrt;simp[Act.eval,this];rw[Bool.not_eq_true]at he;simp only[he,Bool.false_or,hj]at hot hrt;have atL:ρ (.tmp t)=a0.eval (.tmp t):=by simpa using hrt
      rw[atL];refine(nH (f3 t ?_)).symm;intro j oi hik hoi hdi;have wF:=cF bc j oi hoi;simp only[mz,hdi,Bool.and_eq_true,Nat.zero_add,beq_iff_eq]at wF;have kE:j=KK:=by have:=wF.1.1.2.2;rw[hs]at this;injection this with this;exact this.symm
      subst kE;rw[hj]at hoi;injection hoi with hoi;subst hoi;have rO:=cF bc j Kx hj;simp only[mz,Bool.and_eq_true,Nat.zero_add]at rO;have:=of_decide_eq_true (List.all_eq_true.1 rO.1.1.1 k (cM.1 hot));omega
 have hT:uj P o ρ w (λ v' w'=>(C w->C w')/\v'=v)->uj P o ρ w (λ v' w'=>(C w->C w')/\vs[k]?=some v'):=by
  unfold uj;intro h';generalize (execOp ρ o).run P w=r at*;cases r with
  |ok n w'=>
    cases n<;>first|exact⟨h'.1,by rw[h'.2];exact hv⟩|exact h'.elim|skip
    exact h'.mono λ e w'' ⟨u,h1,h2,h3⟩=>⟨u,h1,h2,by rw[h3];exact hv⟩
  |halt x w'=>exact h'.elim
 cases hg:o.guard with
 |none=>
   rcases Zm with⟨_,hqa⟩|⟨hw,_⟩
   exact hT (rS amo gO hCw (hqa w hCw));simp[Region.wanted,hg]at hw
 |some g=>
   obtain⟨KK,want⟩:=g;simp only[mz,hg,Bool.and_eq_true]at jW;have hjk:KK<k:=of_decide_eq_true (List.all_eq_true.1 jW.1.1.1 KK (cM.1 jW.2.1));obtain⟨Kx,pG⟩:∃Kx,l[KK]?=some Kx:=⟨l[KK]' WC,getElem?_eq_getElem WC⟩;have Ty:=jW.2.2;rw[pG]at Ty;obtain⟨d,hd⟩:=Option.isSome_iff_exists.1 Ty;simp only[pG,Option.bind_some,hd];intro hyv;have amp:=f2 KK Kx d _ hjk pG hd hyv;have Cm:yielded (l++zs).toArray (((l.take k).zip vs).foldl (λ b ov=>b.put ov.1.dst ov.2) a0).tmps KK=match ρ (.tmp d)with|.bool b=>some b|_=>none:=by unfold yielded;rw[oH pG];simp only[Option.bind_some,hd,amp];cases ρ (.tmp d)<;>rfl
   constructor
   ·intro zR;rcases Zm with⟨_,hqa⟩|⟨hw,_⟩
    ·exact hT (rS amo gO hCw (hqa w hCw))
    simp[Region.wanted,hg,Cm,zR]at hw
   intro zR;rcases Zm with⟨hw,_⟩|⟨_,hu⟩
   exfalso;simp only[Region.wanted,hg,Cm]at hw;apply zR;cases PH:ρ (.tmp d)<;>rw[PH]at hw<;>simp at hw;rw[hw];rw[<-hu];exact hv):=h
def zhX.Kce(h:p:=by
 have hstep:∀v,vs[k]?=some v->((l.take (k+1)).zip vs).foldl (λ b ov=>b.put ov.1.dst ov.2) a0=(((l.take k).zip vs).foldl (λ b ov=>b.put ov.1.dst ov.2) a0).put o.dst v:=by intro v hv;rw[uE hl Ja hv,foldl_append];rfl
 have Gi:=ih (k+1) (by rw[<-tail_drop,hk];rfl) WC;unfold bw;cases hd:o.dst with
 |none=>simp only;obtain⟨v,hv⟩:∃v,vs[k]?=some v:=⟨vs[k]' WC,getElem?_eq_getElem WC⟩;rw[hstep v hv,hd]at Gi;exact Gi
 |some d=>simp only;intro v hv;rw[hstep v hv,hd]at Gi;exact Gi):=h
theorem LS(zs:List Oper)(l:List Oper)(jN:ops=l++zs)(C:t_->Prop)(hC0:C w0)(oJ:∀w,C w->C w.drew)
  (hm:P.follows .mixedOrders=true) (Vn:afY l=true) (bc:dC l a0.tmps.size l 0=true) (hz:eD (l++zs) zs l.length=true)
  (h:wpQuiet P ops.toArray C (λ a=>∀w,C w->wpList P ops.toArray Q zs a w) l a0):(Code.region id ops.toArray true).wp P Q a0 w0:=by
 subst jN;obtain⟨vs,hl,hall,hq⟩:=uR l a0 h;refine fJ zs l rfl (λ w w'=>C w->C w') (λ _ h=>h) (λ _ _ _ h1 h2 h=>h2 (h1 h)) (λ w h=>oJ w h) (λ j _ v=>vs[j]?=some v) (λ _ _ _ _ h _=>h) hm bc hz ?_ ?_
 ·have key:∀(k:Nat) (rest:List Oper),l.drop k=rest->Steps P l (λ w w'=>C w->C w') (λ j _ v=>vs[j]?=some v) a0 w0 rest k:=by
   intro k rest
   induction rest generalizing k with
   |nil=>intro _;trivial
   |cons o rest ih=>intro hk;open zhW in exact Zgm
  exact key 0 l rfl
 intro w hR;have hCw:C w:=hR hC0;have key:∀(k:Nat) (rest:List Oper),l.drop k=rest->k<=l.length->bw (λ j _ v=>vs[j]?=some v) (λ a w=>wpList P (l++zs).toArray Q zs a w) rest k (((l.take k).zip vs).foldl (λ b ov=>b.put ov.1.dst ov.2) a0) w:=by
  intro k rest
  induction rest generalizing k with
  |nil=>intro hk BJ;have:l.length<=k:=List.drop_eq_nil_iff.1 hk;have e:l.take k=l:=take_of_length_le this;rw[e];exact hq w hCw
  |cons o rest ih=>intro hk BJ;open zhX in exact Zgm
 have:=key 0 l rfl WC;exact ZfH
theorem aR{w:t_}(k B:Nat)(w0:t_)(hb:Below B w0 w)(hm:P.follows .mixedOrders=true)(Vn:afY (ops.take k)=true)
  (bc:dC (ops.take k) a0.tmps.size (ops.take k) 0=true) (hz:eD ops (ops.drop k) (ops.take k).length=true)
  (h:wpQuiet P ops.toArray (λ w'=>∃x:Ext B w0,w'=x.w) (λ a=>∀w,(∃x:Ext B w0,w=x.w)->wpList P ops.toArray Q (ops.drop k) a w) (ops.take k) a0):(Code.region id ops.toArray true).wp P Q a0 w:=
 LS (ops.drop k) (ops.take k) (take_append_drop k ops).symm (λ w'=>∃x:Ext B w0,w'=x.w) ⟨⟨w,hb⟩,rfl⟩ (λ w' ⟨x,e⟩=>⟨⟨w'.drew,by rw[e];exact x.h.drew⟩,rfl⟩) hm Vn bc TaN h
theorem aN{f:FuncId}{args:x_}{x:Ext B w0}{v:Value}(hB:B<=w0.heap.size)
  (h:Calls P f args x.w λ e w'=>e=.returned v/\Below x.w.heap.size x.w w'):Calls P f args x.w λ e w''=>e=.returned v/\∃x:Ext B w0,w''=x.w:=
 h.mono λ _ _ ⟨he,hb⟩=>⟨he,⟨_,x.h.trans (hb.mono (fK hB x.h.size))⟩,rfl⟩
theorem dm{f:FuncId}{args:x_}{x:Ext B w0}{v:Value}
  (h:Calls P f args x.w λ e w'=>e=.returned v/\x.w=w'):Calls P f args x.w λ e w''=>e=.returned v/\∃x:Ext B w0,w''=x.w:=
 h.mono λ _ _ ⟨he,hb⟩=>⟨he,x,hb.symm⟩
def aj(w w':t_):Prop:=ai w w'
theorem aj.refl(w:t_):aj w w:=cX
variable{a b:t_}
theorem aj.trans{c:t_}(h:aj a b)(k:aj b c):aj a c:=Below.trans h (Below.mono k h.size)
theorem aj.drew(w:t_):aj w w.drew:=cX.drew
theorem bD(k:Nat)(V:Nat->t_->Value->Prop)(hV:∀i w w' v,V i w v->aj w w'->V i w' v)(hm:P.follows .mixedOrders=true)
  (bc:dC (ops.take k) a0.tmps.size (ops.take k) 0=true) (hz:eD ops (ops.drop k) (ops.take k).length=true)
  (hs:Steps P (ops.take k) aj V a0 w0 (ops.take k) 0) (hf:∀w,aj w0 w->bw V (λ a w=>wpList P ops.toArray Q (ops.drop k) a w) (ops.take k) 0 a0 w):(Code.region id ops.toArray true).wp P Q a0 w0:=
 fJ (ops.drop k) (ops.take k) (take_append_drop k ops).symm aj aj.refl (λ _ _ _=>aj.trans) aj.drew V hV hm bc TaN hs hf
section
variable{P:Program}{o:Oper}{ρ:Operand->Value}{w:t_}{T:Value->t_->Prop}
theorem aq{v:Value}{w':t_}(h:(execOp ρ o).run P w=.ok (.value v) w')(hT:T v w'):uj P o ρ w T:=by unfold uj;rw[h];exact hT
theorem Co{w':t_}(h:(execOp ρ o).run P w=.ok .skip w')(hT:T undef w'):uj P o ρ w T:=by unfold uj;rw[h];exact hT
theorem bu{f:FuncId}{args:x_}{w':t_}(h:(execOp ρ o).run P w=.ok (.enter f args) w')(hc:Calls P f args w' λ e w''=>∃v,e=.returned v/\T v w''):uj P o ρ w T:=by unfold uj;rw[h];exact hc
theorem jz{x:Operand}{v:Value}(ho:o.op=.move x\/o.op=.assign x)(hx:ρ x=v)(hT:T v w):uj P o ρ w T:=by refine aq (v:=v) (w':=w) ?_ hT;rcases ho with ho|ho<;>simp[execOp,ho,hx]
end
open Go.ChangeShapes Go.WideShapes Go.ChangeAt
set_option linter.unusedVariables false
def mA(a b:Int):Int:=if a<b then -1 else if b<a then 1 else 0
theorem ahF(a b:Int)(w:t_):ar 48 #[ag a,ag b] w λ e w'=>e=.returned (af (mA a b))/\w=w':=by unfold mA;by_cases h1:a<b;exact ZhD;by_cases h2:b<a;exact ZhD;exact ZhD
theorem acb(a b:Int)(w:t_):ar 49 #[af a,af b] w λ e w'=>e=.returned (af (mA a b))/\w=w':=by unfold mA;by_cases h1:a<b;exact ZhE;by_cases h2:b<a;exact ZhE;exact ZhE
def lY(a b:u_):Int:=if Op.bytesLess a.toList b.toList=true then -1 else if (a.toList==b.toList)=true then 0 else 1
theorem acd(a b:u_)(w:t_):ar 50 #[.string a,.string b] w λ e w'=>e=.returned (af (lY a b))/\w=w':=by
 unfold lY;cases h1:Op.bytesLess a.toList b.toList
 ·cases h2:(a.toList==b.toList)
  ·exact ZhF
  exact ZhF
 exact ZhF
def or3(x y z:Int):Int:=if x=0 then(if y=0 then z else y)else x
def pB(x y:Int):Int:=if x=0 then y else x
theorem Zn(x y z:Int)(w:t_):ar 47 #[aL w.heap.size 3 3] (w.alloc (.cells #[af x,af y,af z] 3)) λ e w'=>
  e=.returned (af (or3 x y z))/\w'=w.alloc (.cells #[af x,af y,af z] 3):=by
 unfold or3;have q1:∀u:Int,u≠0->((u != 0)=true):=λ u h=>by simp[h]
 by_cases h1:x=0
 ·subst h1;by_cases h2:y=0
  ·subst h2;by_cases h3:z=0
   ·subst h3;go_enter func47,ntmps47;go_wp2;refine wp_loop_rounds 4 ?_;iterate 4 (rw[rounds_succ];go_wp2)
    exact ZbH
   have:=q1 z h3;go_enter func47,ntmps47;go_wp2;refine wp_loop_rounds 4 ?_;iterate 3 (rw[rounds_succ];go_wp2)
   exact ZbH
  have:=q1 y h2;go_enter func47,ntmps47;go_wp2;refine wp_loop_rounds 4 ?_;iterate 2 (rw[rounds_succ];go_wp2)
  exact ZbH
 have:=q1 x h1;go_enter func47,ntmps47;go_wp2;refine wp_loop_rounds 4 ?_;rw[rounds_succ];exact Zgq
structure Val where
 k:Int
 n:Int
 s:u_
abbrev w_:=List Val
abbrev z_:=List (w_)
abbrev aC(v:Val):x_:= #[.int .u8 v.k,.int .i64 v.n,.string v.s]
def bC(a b:Val):Int:=or3 (mA a.k b.k) (mA a.n b.n) (lY a.s b.s)
theorem dQ(a b:Val)(w:t_):ar 18 #[.agg (aC a),.agg (aC b)] w λ e w'=>
  e=.returned (af (bC a b))/\ai w w':=by
 obtain⟨ak,an,ax⟩:=a;obtain⟨bk,bn,bx⟩:=b;go_enter func18,ntmps18;go_wp2_with fail;have hc:∀(y2:Ext (w.heap.size+2) ((w.alloc (.cells #[ag ak,af an,.string ax] 44)).alloc (.cells #[ag bk,af bn,.string bx] 44))) (i:Nat),y2.w.cell? ⟨w.heap.size,i,none⟩= #[Value.int .u8 ak,af an,.string ax][i]?/\y2.w.cell? ⟨w.heap.size+1,i,none⟩= #[Value.int .u8 bk,af bn,.string bx][i]?:=by intro y2 i;refine⟨?_,?_⟩;rw[y2.cell Tad];simp;rw[y2.cell Tad];simp
 have c0:=λ y2=>(hc y2 0).1;have c1:=λ y2=>(hc y2 1).1;have c2:=λ y2=>(hc y2 2).1;have d0:=λ y2=>(hc y2 0).2;have d1:=λ y2=>(hc y2 1).2;have d2:=λ y2=>(hc y2 2).2;clear hc;simp at c0 c1 c2 d0 d1 d2;refine aR 15 (w.heap.size+2) _ cX Taa Taa Taa Taa ?_;simp only[Uab];repeat (go_big_quiet_step (first
  |(go_at_call 48;exact dm (ahF _ _ _))
  |(go_at_call 49;exact dm (acb _ _ _))
  |(go_at_call 50;exact dm (acd _ _ _))))
 refine wpQuiet_nil ?_;rintro W4 ⟨y2,fq⟩;have hL:=y2.h;rw[<-fq]at hL;clear c0 c1 c2 d0 d1 d2 fq y2;go_wp2_with fail;refine(Zn _ _ _ _).mono ?_;rintro e w' ⟨rfl,rfl⟩;go_wp2_with fail;go_ret;have hB:ai w W4:=((cX.alloc aE _).alloc Tad _).trans (hL.mono Tad);exact⟨rfl,hB.alloc hB.size _⟩
theorem wG(a:Addr)(n:Nat):(a.add n).block=a.block:=by unfold Addr.add;split<;>rfl
def Reads(w:t_)(B size:Nat)(A:xP)(n:Nat)(xs:xr):Prop:=
 xs.length=n*size/\(0<n->∃ad,A=some ad/\ad.block<B/\∀j u,xs[j]?=some u->w.cell? (ad.add j)=some u)
section
variable{w w':t_}{B B' size n:Nat}{A:xP}{xs:xr}
theorem Reads.none_:Reads w B size A 0 []:=⟨by simp,λ h=>absurd h WC⟩
theorem Reads.ahG{base:Nat}{e:TypeId}{c:Nat}(h:w.ownsRow base e size (.slice A n c) n xs):Reads w w.heap.size size A n xs:=by
 refine⟨h.1,λ hn=>?_⟩;obtain⟨g,cap,hv,_,hlt⟩:=h.form hn;have hA:A=some ⟨g,0,none⟩:=by injection hv
 subst hA;exact⟨_,rfl,hlt,h.cells (g:=g) rfl⟩
end
section
variable{P:Program}(w:t_)
theorem wH(base:Nat)(t ty e:TypeId)(i:TypeInfo)(size:Nat)(ht:P.underlying t=some (.slice e))(hi:P.info? e=some i)
  (v:Value) (n:Nat) (xs:xr) (hown:w.ownsRow base e size v n xs) (c:Nat):(Builtin.append_ #[t,t] ty #[v,.slice none 0 c]).run P w=.ok v w:=by
 rcases hown.2 with⟨rfl,rfl⟩|⟨g,cap,cur,rfl,_,_,hnc,_⟩
 simp[Builtin.append_,run_underlying ht,sizeOf,typeInfo,hi,Builtin.lenOf,Builtin.firstCells];simp[Builtin.append_,run_underlying ht,sizeOf,typeInfo,hi,Builtin.lenOf,Builtin.firstCells,hnc,storeCells]
theorem gF(base:Nat)(t ty e:TypeId)(i:TypeInfo)(z:Value)(size bytes:Nat)(ht:P.underlying t=some (.slice e))(hi:P.info? e=some i)(hz:i.zero=some z)
  (hsize:i.size=size) (hby:i.bytes=bytes) (hzs:z.cells.size=size) (hsz:0<size)
  (v:Value) (n:Nat) (xs:xr) (hown:w.ownsRow base e size v n xs)
  (B:Nat) (A:xP) (m c:Nat) (news:xr) (hr:Reads w B size A m news) (h1:∀u∈news,u.oneCell'=true)
  (h63:n+m<=maxLen) (hbytes:(n+m)*bytes<=140737488355328) (hbase:base<=w.heap.size):
  ∃v' w',(Builtin.append_ #[t,t] ty #[v,.slice A m c]).run P w=.ok v' w'/\w'.ownsRow base e size v' (n+m) (xs++news)/\w.grownBy w' v.ownBlock/\
   (v'.ownBlock=v.ownBlock\/v'.ownBlock=some w.heap.size):=by
 rcases A with _|ad
 ·have hm:m=0:=by rcases Nat.eq_zero_or_pos m with h0|h0;exact h0;obtain⟨ad,h,_⟩:=hr.2 h0;cases h
  subst hm;have hn:news=[]:=eq_nil_of_length_eq_zero (by simpa using hr.1);subst hn;exact⟨v,w,wH w base t ty e i size ht hi v n xs hown c,by simpa using hown,World.grownBy.refl w _,.inl rfl⟩
 have oh:∀j u,news[j]?=some u->w.cell? (ad.add j)=some u:=by intro j u hu;rcases Nat.eq_zero_or_pos m with h0|h0;subst h0;have hn:news=[]:=eq_nil_of_length_eq_zero (by simpa using hr.1);subst hn;simp at hu;obtain⟨ad',h,_,hc⟩:=hr.2 h0;injection h with h;subst h;exact hc j u hu
 obtain⟨v',w',hrun,h2,h3,_,h5⟩:=run_append_own_at (P:=P) w base t ty e i z size bytes ht hi hz hsize hby hzs hsz v n xs hown ad m c news hr.1 oh h1 h63 hbytes hbase;exact⟨v',w',hrun,h2,h3,h5⟩
theorem Fv{o:Oper}{a:Act}{K:Act->t_->Prop}{Q:y_}(s x:Operand)(t:TypeId)
  (ho:o.op=.call {callee:=.builtin .append,args:= #[s,x],argTypes:= #[t,t]})
  (base:Nat) (e:TypeId) (i:TypeInfo) (z:Value) (size bytes:Nat) (ht:P.underlying t=some (.slice e)) (hi:P.info? e=some i) (hz:i.zero=some z)
  (hsize:i.size=size) (hby:i.bytes=bytes) (hzs:z.cells.size=size) (hsz:0<size)
  (v:Value) (n:Nat) (xs:xr) (hs:a.eval s=v) (hown:w.ownsRow base e size v n xs)
  (B:Nat) (A:xP) (m c:Nat) (news:xr) (hx:a.eval x=.slice A m c) (hr:Reads w B size A m news) (h1:∀u∈news,u.oneCell'=true)
  (h63:n+m<=maxLen) (hbytes:(n+m)*bytes<=140737488355328) (hbase:base<=w.heap.size)
  (h:∀v' w',w'.ownsRow base e size v' (n+m) (xs++news)->w.grownBy w' v.ownBlock->(v'.ownBlock=v.ownBlock\/v'.ownBlock=some w.heap.size)->K (a.put o.dst v') w'):o.wp P a w K Q:=by obtain⟨v',w',hrun,h2,h3,h4⟩:=gF (P:=P) w base t o.type e i z size bytes ht hi hz hsize hby hzs hsz v n xs hown B A m c news hr h1 h63 hbytes hbase;unfold Oper.wp execOp;simp only[ho,resolve,invoke,builtin,Sem.run_bind,Sem.run_pure,Result.andThen_ok,map_toArray,map_cons,map_nil,hs,hx,hrun];exact h v' w' h2 h3 h4
theorem cN{ops:Array Oper}{rest:List Oper}{o:Oper}{a:Act}{Q:y_}(hgd:o.guard=none)(s x:Operand)(t:TypeId)
  (ho:o.op=.call {callee:=.builtin .append,args:= #[s,x],argTypes:= #[t,t]})
  (base:Nat) (e:TypeId) (i:TypeInfo) (z:Value) (size bytes:Nat) (ht:P.underlying t=some (.slice e)) (hi:P.info? e=some i) (hz:i.zero=some z)
  (hsize:i.size=size) (hby:i.bytes=bytes) (hzs:z.cells.size=size) (hsz:0<size)
  (v:Value) (n:Nat) (xs:xr) (hs:a.eval s=v) (hown:w.ownsRow base e size v n xs)
  (B:Nat) (A:xP) (m c:Nat) (news:xr) (hx:a.eval x=.slice A m c) (hr:Reads w B size A m news) (h1:∀u∈news,u.oneCell'=true)
  (h63:n+m<=maxLen) (hbytes:(n+m)*bytes<=140737488355328) (hbase:base<=w.heap.size)
  (h:∀v' w',w'.ownsRow base e size v' (n+m) (xs++news)->w.grownBy w' v.ownBlock->(v'.ownBlock=v.ownBlock\/v'.ownBlock=some w.heap.size)->wpList P ops Q rest (a.put o.dst v') w'):wpList P ops Q (o::rest) a w:=
 wpList_plain hgd λ _ hK=>Fv w s x t ho base e i z size bytes ht hi hz hsize hby hzs hsz v n xs hs hown B A m c news hx hr h1 h63 hbytes hbase λ v' w' h2 h3 h4=>hK _ _ (h v' w' h2 h3 h4)
end
def aB(w:t_)(g:Nat)(t:TypeId)(cs:x_):Prop:=w.heap[g]?=some (.cells cs t (0,0))
section
variable{w w':t_}{g:Nat}{t:TypeId}{cs:x_}
theorem aB.lt(h:aB w g t cs):g<w.heap.size:=by rcases gR g w.heap.size with hlt|wI;exact hlt;unfold aB at h;rw[Array.getElem?_eq_none wI]at h;cases h
theorem aB.cell(h:aB w g t cs)(i:Nat):w.cell? ⟨g,i,none⟩=cs[i]?:=cell_of_row w g i cs t (0,0) h
theorem aB.frozen(h:aB w g t cs)(i:Nat):w.frozen? ⟨g,i,none⟩=false:=by unfold aB at h;simp[World.frozen?,h]
theorem aB.new(w:t_)(t:TypeId)(cs:x_):aB (w.alloc (.cells cs t)) w.heap.size t cs:=heap_alloc_new w _
theorem aB.drew(h:aB w g t cs):aB w.drew g t cs:=h
theorem aB.alloc(h:aB w g t cs)(o:Obj):aB (w.alloc o) g t cs:=(Below.heap_alloc w o g h.lt).trans h
theorem aB.aW(h:aB w g t cs)(i:Nat)(u:Value):aB (w.setCell ⟨g,i,none⟩ u) g t (cs.setIfInBounds i u):=by unfold aB at h⊢;simp[World.setCell,Array.getElem?_modify,h]
theorem aB.far(h:aB w g t cs){p:Addr}(hp:g≠p.block)(u:Value):aB (w.setCell p u) g t cs:=(Below.heap_setCell w p u g hp).trans h
theorem aB.below{B:Nat}(h:aB w g t cs)(hb:Below B w w')(hg:g<B):aB w' g t cs:=(hb.block g hg).trans h
theorem aB.later(h:aB w g t cs)(hb:ai w w'):aB w' g t cs:=h.below hb h.lt
theorem aB.grown{row:Option Nat}(h:aB w g t cs)(hb:w.grownBy w' row)(hg:some g≠row):aB w' g t cs:=(hb.block g h.lt hg).trans h
end
variable{w':t_}
theorem aQ{p:Nat}{w:t_}(h:ai w w'):w.grownBy w' (some p):=⟨h.os,h.tape,h.output,h.size,λ k hk _=>h.block k hk⟩
theorem ba{p:Nat}{c:t_}(h:a.grownBy b (some p))(k:b.grownBy c (some p)):a.grownBy c (some p):=
 ⟨k.os.trans h.os,k.tape.trans h.tape,k.output.trans h.output,fK h.size k.size,λ i hi hne=>(k.block i (eS hi h.size) hne).trans (h.block i hi hne)⟩
theorem aF{p:Nat}(h:a.grownBy b (some p))(i:Nat)(u:Value):a.grownBy (b.setCell ⟨p,i,none⟩ u) (some p):=by
 refine⟨h.os,h.tape,h.output,?_,λ k hk hne=>?_⟩
 ·have:(b.setCell ⟨p,i,none⟩ u).heap.size=b.heap.size:=by simp[World.setCell]
  rw[this];exact h.size
 rw[Below.heap_setCell b ⟨p,i,none⟩ u k (λ e=>hne Ta5)];exact h.block k hk hne
theorem jX{p:Nat}(h:a.grownBy b (some p)):a.grownBy b.drew (some p):=⟨h.os,h.tape,h.output,h.size,h.block⟩
variable{α:Type}
def aH(f:α->xr)(e:TypeId)(size:Nat)(w:t_)(base:Nat)(v:Value)(l:List α):Prop:=w.ownsRow base e size v l.length (l.flatMap f)
section
variable{α:Type}{f:α->xr}{e:TypeId}{size:Nat}{w w':t_}{base:Nat}{v:Value}{l:List α}
theorem aH.nil:aH f e size w base (az) []:=⟨by simp,.inl ⟨rfl,rfl⟩⟩
theorem aH.reads(h:aH f e size w base v l):∃A c,v=.slice A l.length c/\Reads w w.heap.size size A l.length (l.flatMap f)/\l.length<=c/\(l=[]\/∃g,A=some ⟨g,0,none⟩/\base<=g):=by
 rcases h.2 with⟨rfl,h0⟩|⟨g,cap,cur,rfl,hb,hg,hn,hm,hs,ht⟩
 have:l=[]:=eq_nil_of_length_eq_zero h0;subst this;exact⟨none,0,rfl,Reads.none_,aE,.inl rfl⟩;exact⟨some ⟨g,0,none⟩,cap,rfl,Reads.ahG h,hn,.inr ⟨g,rfl,hb⟩⟩
theorem aH.keep(h:aH f e size w base v l)(hk:∀g,v.ownBlock=some g->w'.heap[g]?=w.heap[g]?):aH f e size w' base v l:=by refine⟨h.1,?_⟩;rcases h.2 with h0|⟨g,cap,cur,rfl,hbg,hg,hn,hm,hs,ht⟩;exact .inl h0;exact .inr ⟨g,cap,cur,rfl,hbg,(hk g rfl).trans hg,hn,hm,hs,ht⟩
theorem aH.lt(h:aH f e size w base v l){g:Nat}(hb:v.ownBlock=some g):g<w.heap.size/\base<=g/\∃cur,w.heap[g]?=some (.cells cur e (0,0)):=by
 rcases h.2 with⟨rfl,_⟩|⟨g',cap,cur,rfl,hbg,Tz,hn,hm,hs,ht⟩
 simp[Value.ownBlock]at hb;simp only[Value.ownBlock,Option.some.injEq]at hb;subst hb;refine⟨?_,hbg,cur,Tz⟩;rcases gR g' w.heap.size with hlt|wI;exact hlt;rw[Array.getElem?_eq_none wI]at Tz;cases Tz
theorem aH.later(h:aH f e size w base v l)(hb:ai w w'):aH f e size w' base v l:=h.keep λ g hg=>hb.block g (h.lt hg).1
theorem aH.other(h:aH f e size w base v l){q:Nat}{t:TypeId}{cs:x_}(h1:aB w q t cs)(ht:t≠e):v.ownBlock≠some q:=by intro hg;obtain⟨_,_,cur,h2⟩:=h.lt hg;unfold aB at h1;exact Zh3
theorem aH.grown{p:Nat}(h:aH f e size w base v l)(hg:w.grownBy w' (some p))(hp:v.ownBlock≠some p):aH f e size w' base v l:=h.keep λ g ei=>hg.block g (h.lt ei).1 λ e=>hp (by rw[ei];exact e)
theorem bj(h:aH f e size w base v l)(hg:w.grownBy w' v.ownBlock)(hbase:base<=w.heap.size):Below base w w':=by refine⟨hg.os,hg.tape,hg.output,hg.size,λ k hk=>hg.block k WC λ e=>?_⟩;have:=(h.lt e.symm).2.1;omega
theorem aV{P:Program}{ops:Array Oper}{rest:List Oper}{o:Oper}{a:Act}{Q:y_}(hgd:o.guard=none)(s x:Operand)(t:TypeId)
  (ho:o.op=.call {callee:=.builtin .append,args:= #[s,x],argTypes:= #[t,t]})
  (z:Value) (bytes:Nat) (ht:P.underlying t=some (.slice e)) (jQ:(P.info? e).map (λ i=>(i.zero,i.size,i.bytes))=some (some z,size,bytes)) (hzs:z.cells.size=size) (hsz:0<size)
  (y:α) (hf:(f y).length=size) (h1:∀u∈f y,u.oneCell'=true)
  (hs:a.eval s=v) (hown:aH f e size w base v l)
  (g:Nat) (hx:a.eval x=aL g 1 1) (hg:aB w g e (f y).toArray)
  (hlen:(l.length+1)*bytes<=140737488355328) (nI:l.length+1<=140737488355328) (hbase:base<=w.heap.size)
  (h:∀v' w',aH f e size w' base v' (l++[y])->w.grownBy w' v.ownBlock->wpList P ops Q rest (a.put o.dst v') w'):wpList P ops Q (o::rest) a w:=by
 obtain⟨i0,kB,hz0,hz1,hz2⟩:=info_parts jQ;refine cN w hgd s x t ho base e i0 z size bytes ht kB hz0 hz1 hz2 hzs hsz v l.length (l.flatMap f) hs hown (g+1) (some ⟨g,0,none⟩) 1 1 (f y) hx ⟨by omega,λ _=>⟨_,rfl,Nat.lt_succ_self _,?_⟩⟩ h1 Tam hlen hbase ?_;exact ZfD;intro v' w' h2 h3 h4;refine h v' w' ?_ h3;exact Zid
end
set_option linter.unusedSimpArgs false
def aM:Val:=⟨0,0,ByteArray.empty⟩
def num(n:Int):Val:=⟨2,n,ByteArray.empty⟩
def bF(b:Bool):Val:=⟨1,if b then 1 else 0,ByteArray.empty⟩
def bP(v:Val)(err:Int):Value:=.tuple #[.agg (aC v),af err]
def Val.Ok(a:Val):Prop:= -9223372036854775808<=a.n/\a.n<=9223372036854775807
theorem aj.then{c:t_}(h:ai a b)(k:ai b c):ai a c:=h.trans (k.mono h.size)
theorem ah(w:t_)(o:Obj):ai w (w.alloc o):=cX.alloc aE o
variable{g:Nat}
theorem aI{w:t_}{t:TypeId}{k n:Int}{s:u_}(h:aB w g t #[ag k,af n,.string s]):w.cell? ⟨g,0,none⟩=some (ag k)/\w.cell? ⟨g,1,none⟩=some (af n)/\w.cell? ⟨g,2,none⟩=some (.string s):=⟨h.cell 0,h.cell 1,h.cell 2⟩
def Jb(s:u_):Bool:=s.toList== []
def good(v:Val):Bool:=
 if v.k=0 then(v.n==0&&Jb v.s)else if v.k=1 then(Jb v.s&&(v.n==0||v.n==1))else if v.k=2 then Jb v.s else if v.k=3 then v.n==0 else false
theorem wJ(v:Val)(w:t_):ar 44 #[.agg (aC v)] w λ e w'=>e=.returned (.bool (good v))/\ai w w':=by
 obtain⟨k,n,s⟩:=v;unfold good Jb;dsimp only;by_cases h0:k=0;subst h0;exact ZbJ;have e0:(k==0)=false:=by simpa using h0
 by_cases h1:k=1
 ·subst h1;cases hs:(s.toList== [])
  ·exact ZbJ
  cases hn:(n==0);exact ZbJ;exact ZbJ
 have e1:(k==1)=false:=by simpa using h1
 by_cases h2:k=2;subst h2;exact ZbJ;have e2:(k==2)=false:=by simpa using h2
 by_cases h3:k=3;subst h3;exact ZbJ;have e3:(k==3)=false:=by simpa using h3
 exact ZbJ
theorem tD(b:Bool)(w:t_):ar 111 #[.bool b] w λ e w'=>e=.returned (bP (bF b) 0)/\ai w w':=by
 unfold bP bF;cases b
 ·go_enter func111,ntmps111;go_wp2;exact bodyPost_ret (v:=.tuple #[.agg #[ag 1,af 0,.string ByteArray.empty],af 0]) Tbb rfl ⟨rfl,by go_grown⟩
 go_enter func111,ntmps111;go_wp2;exact bodyPost_ret (v:=.tuple #[.agg #[ag 1,af 1,.string ByteArray.empty],af 0]) Tbb rfl ⟨rfl,by go_grown⟩
def fM(n:Int)(ok:Bool):Val×Int:=if ok then(num n,0)else(aM,43)
theorem iN(n:Int)(ok:Bool)(w:t_):ar 109 #[af n,.bool ok] w λ e w'=>e=.returned (bP (fM n ok).1 (fM n ok).2)/\ai w w':=by
 unfold bP fM;cases ok
 ·go_enter func109,ntmps109;go_wp2;exact bodyPost_ret (v:=.tuple #[.agg #[ag 0,af 0,.string ByteArray.empty],af 43]) Tbc rfl ⟨rfl,by go_grown⟩
 go_enter func109,ntmps109;go_wp2;exact bodyPost_ret (v:=.tuple #[.agg #[ag 2,af n,.string ByteArray.empty],af 0]) Tbc rfl ⟨rfl,by go_grown⟩
theorem Vo(n:Int)(w:t_):ar 76 #[af n] w λ e w'=>e=.returned (.bool (decide (1<=n)&&decide (n<=1099511627776)))/\w=w':=by
 by_cases h1:1<=n
 ·have d1:decide (1<=n)=true:=by simpa using h1
  exact Zf6
 have d1:decide (1<=n)=false:=by simpa using h1
 exact Zf6
def om(op:Int):Int:=if op=21 then 0 else if 22<=op/\op<=26 then 1 else if op=27\/op=28 then 2 else -1
theorem fQ(op:Int)(w:t_):ar 77 #[ag op] w λ e w'=>e=.returned (af (om op))/\w=w':=by
 unfold om;by_cases h1:op=21
 ·subst h1;go_enter func77,ntmps77;exact Zgq
 have e1:(op==21)=false:=by simpa using h1
 rw[if_neg h1];by_cases h2:22<=op/\op<=26
 ·rw[if_pos h2];obtain⟨h2,h3⟩:=h2;have d2:decide (22<=op)=true:=by simpa using h2
  have d3:decide (op<=26)=true:=by simpa using h3
  go_enter func77,ntmps77;exact Zgq
 rw[if_neg h2];have hor:decide (22<=op)=false\/(decide (22<=op)=true/\decide (op<=26)=false):=by
  by_cases h:22<=op
  ·right;simp;omega
  left;simpa using h
 by_cases h3:op=27\/op=28
 ·rw[if_pos h3]
  rcases h3 with rfl|rfl;all_goals
   go_enter func77,ntmps77;go_wp2;go_ret;exact⟨rfl,rfl⟩
 rw[if_neg h3];have e3:(op==27)=false:=by rw[beq_eq_false_iff_ne];omega
 have e4:(op==28)=false:=by rw[beq_eq_false_iff_ne];omega
 clear h1 h2 h3;rcases hor with d2|⟨d2,d3⟩;all_goals
  go_enter func77,ntmps77;go_wp2;go_ret;exact⟨rfl,rfl⟩
def AK(a b:Int):Val×Int:=fM (wrap64 (a+b)) (decide (a<wrap64 (a+b))==decide (0<b))
def AL(a b:Int):Val×Int:=fM (wrap64 (a-b)) (decide (wrap64 (a-b)< a)==decide (0<b))
def AO(a b:Int):Val×Int:=fM (wrap64 (a*b)) (a==0||(wrap64 (Int.tdiv (wrap64 (a*b)) a)==b&&(a != -1||b != -9223372036854775808)))
def Vp(a b:Int):Val×Int:=fM (wrap64 (Int.tdiv a b)) (a != -9223372036854775808||b != -1)
def Vq(a b:Int):Val×Int:=fM (Int.tmod a b) true
def Zo(a:Int):Val×Int:=fM (wrap64 (-a)) (a != -9223372036854775808)
theorem acg(a b:Int)(w:t_):ar 113 #[af a,af b] w λ e w'=>e=.returned (bP (AK a b).1 (AK a b).2)/\ai w w':=by
 go_enter func113,ntmps113;go_wp2_with fail
 all_goals
  refine(iN _ _ _).mono ?_;rintro e w' ⟨rfl,hr⟩;generalize Kx:fM _ _=r;have he:AK a b=r:=by rw[<-Kx];unfold AK;first |(simp_all;done)|(congr 1;rw[Bool.eq_iff_iff];simp_all;done)|(congr 1;simp_all;done)
  have HE:=aa he;clear he Kx;unfold bP;have hR:=(aB.new w 44 #[ag 0,af 0,au]).later hr;have hB:=aj.then (ah w (.cells #[ag 0,af 0,au] 44)) hr;clear hr;have dy:=aI hR;have iA:=aB.frozen hR;clear hR;go_wp2_with fail;exact bodyPost_ret (v:=.tuple #[.agg (aC r.1),af r.2]) (by simp[results,results113,go_sem,dy]) rfl ⟨by rw[HE.ae];rfl,((hB.setCell aE _).setCell aE _).setCell aE _⟩
theorem ach(a b:Int)(w:t_):ar 114 #[af a,af b] w λ e w'=>e=.returned (bP (AL a b).1 (AL a b).2)/\ai w w':=by
 go_enter func114,ntmps114;go_wp2_with fail
 all_goals
  refine(iN _ _ _).mono ?_;rintro e w' ⟨rfl,hr⟩;generalize Kx:fM _ _=r;have he:AL a b=r:=by rw[<-Kx];unfold AL;first |(simp_all;done)|(congr 1;rw[Bool.eq_iff_iff];simp_all;done)|(congr 1;simp_all;done)
  have HE:=aa he;clear he Kx;unfold bP;have hR:=(aB.new w 44 #[ag 0,af 0,au]).later hr;have hB:=aj.then (ah w (.cells #[ag 0,af 0,au] 44)) hr;clear hr;have dy:=aI hR;have iA:=aB.frozen hR;clear hR;go_wp2_with fail;exact bodyPost_ret (v:=.tuple #[.agg (aC r.1),af r.2]) (by simp[results,results114,go_sem,dy]) rfl ⟨by rw[HE.ae];rfl,((hB.setCell aE _).setCell aE _).setCell aE _⟩
theorem Vr(a b:Int)(w:t_):ar 115 #[af a,af b] w λ e w'=>e=.returned (bP (AO a b).1 (AO a b).2)/\ai w w':=by
 go_enter func115,ntmps115;go_wp2_with fail
 all_goals
  refine(iN _ _ _).mono ?_;rintro e w' ⟨rfl,hr⟩;generalize Kx:fM _ _=r;have he:AO a b=r:=by rw[<-Kx];unfold AO;first |(simp_all;done)|(congr 1;rw[Bool.eq_iff_iff];simp_all;done)|(congr 1;simp_all;done)
  have HE:=aa he;clear he Kx;unfold bP;have hR:=(aB.new w 44 #[ag 0,af 0,au]).later hr;have hB:=aj.then (ah w (.cells #[ag 0,af 0,au] 44)) hr;clear hr;have dy:=aI hR;have iA:=aB.frozen hR;clear hR;go_wp2_with fail;exact bodyPost_ret (v:=.tuple #[.agg (aC r.1),af r.2]) (by simp[results,results115,go_sem,dy]) rfl ⟨by rw[HE.ae];rfl,((hB.setCell aE _).setCell aE _).setCell aE _⟩
theorem aci(a b:Int)(hb:b≠0)(w:t_):ar 117 #[af a,af b] w λ e w'=>e=.returned (bP (Vp a b).1 (Vp a b).2)/\ai w w':=by
 go_enter func117,ntmps117;go_wp2_with fail
 all_goals
  refine(iN _ _ _).mono ?_;rintro e w' ⟨rfl,hr⟩;generalize Kx:fM _ _=r;have he:Vp a b=r:=by rw[<-Kx];unfold Vp;first |(simp_all;done)|(congr 1;rw[Bool.eq_iff_iff];simp_all;done)|(congr 1;simp_all;done)
  have HE:=aa he;clear he Kx;unfold bP;have hR:=(aB.new w 44 #[ag 0,af 0,au]).later hr;have hB:=aj.then (ah w (.cells #[ag 0,af 0,au] 44)) hr;clear hr;have dy:=aI hR;have iA:=aB.frozen hR;clear hR;go_wp2_with fail;exact bodyPost_ret (v:=.tuple #[.agg (aC r.1),af r.2]) (by simp[results,results117,go_sem,dy]) rfl ⟨by rw[HE.ae];rfl,((hB.setCell aE _).setCell aE _).setCell aE _⟩
theorem acj(a b:Int)(hb:b≠0)(w:t_):ar 118 #[af a,af b] w λ e w'=>e=.returned (bP (Vq a b).1 (Vq a b).2)/\ai w w':=by
 go_enter func118,ntmps118;go_wp2_with fail
 all_goals
  refine(iN _ _ _).mono ?_;rintro e w' ⟨rfl,hr⟩;generalize Kx:fM _ _=r;have he:Vq a b=r:=by rw[<-Kx];unfold Vq;first |(simp_all;done)|(congr 1;rw[Bool.eq_iff_iff];simp_all;done)|(congr 1;simp_all;done)
  have HE:=aa he;clear he Kx;unfold bP;have hR:=(aB.new w 44 #[ag 0,af 0,au]).later hr;have hB:=aj.then (ah w (.cells #[ag 0,af 0,au] 44)) hr;clear hr;have dy:=aI hR;have iA:=aB.frozen hR;clear hR;go_wp2_with fail;exact bodyPost_ret (v:=.tuple #[.agg (aC r.1),af r.2]) (by simp[results,results118,go_sem,dy]) rfl ⟨by rw[HE.ae];rfl,((hB.setCell aE _).setCell aE _).setCell aE _⟩
theorem amq(c:Int)(w:t_):ar 120 #[af c] w λ e w'=>e=.returned (.bool (decide (c=0)))/\w=w':=by go_enter func120,ntmps120;exact Zcl
theorem amr(c:Int)(w:t_):ar 121 #[af c] w λ e w'=>e=.returned (.bool (!decide (c=0)))/\w=w':=by go_enter func121,ntmps121;exact Zcl
theorem is_lt(c:Int)(w:t_):ar 122 #[af c] w λ e w'=>e=.returned (.bool (decide (c<0)))/\w=w':=by go_enter func122,ntmps122;exact Zcl
theorem is_le(c:Int)(w:t_):ar 123 #[af c] w λ e w'=>e=.returned (.bool (decide (c<=0)))/\w=w':=by go_enter func123,ntmps123;exact Zcl
theorem ams(c:Int)(w:t_):ar 124 #[af c] w λ e w'=>e=.returned (.bool (decide (0<c)))/\w=w':=by go_enter func124,ntmps124;exact Zcl
theorem amu(c:Int)(w:t_):ar 125 #[af c] w λ e w'=>e=.returned (.bool (decide (0<=c)))/\w=w':=by go_enter func125,ntmps125;exact Zcl
structure Ex where
 op:Int
 v:Val
 name:u_
 width:Int
 A:xP
 n:Nat
 c:Nat
abbrev v_:=List Ex
abbrev ay(y:Ex):x_:= #[.int .u8 y.op,.int .u8 y.v.k,.int .i64 y.v.n,.string y.v.s,.string y.name,.int .i64 y.width,.slice y.A y.n y.c]
abbrev dn:x_:= #[.int .u8 0,.int .u8 0,.int .i64 0,.string ⟨#[]⟩,.string ⟨#[]⟩,.int .i64 0,.slice none 0 0]
def ej(w:t_)(b off:Nat)(x:Val):Prop:=
 w.cell? ⟨b,off,none⟩=some (ag x.k)/\w.cell? ⟨b,off+1,none⟩=some (af x.n)/\w.cell? ⟨b,off+2,none⟩=some (.string x.s)
def RV(w:t_)(B:Nat)(A:xP)(l:w_):Prop:=
 l=[]\/∃b off,A=some ⟨b,off,none⟩/\b<B/\∀i x,l[i]?=some x->ej w b (off+i*3) x
variable{off:Nat}{x:Val}
theorem ej.keep{w:t_}{b:Nat}(h:ej w b off x)(hk:∀o,w'.cell? ⟨b,o,none⟩=w.cell? ⟨b,o,none⟩):ej w' b off x:=by unfold ej at*;simp only[hk];exact h
theorem RV.below{w:t_}{A:xP}{l:w_}(h:RV w B A l)(hb:Below B w w'):RV w' B A l:=by exact ZcP
variable{B':Nat}
theorem RV.more{w:t_}{A:xP}{l:w_}(h:RV w B A l)(hB:B<=B'):RV w B' A l:=by exact Zeg
theorem RV.at_{w:t_}{A:xP}{l:w_}(h:RV w B A l){k:Nat}(hk:k<l.length):∃b off,A=some ⟨b,off,none⟩/\b<B/\ej w b (off+k*3) l[k]:=by exact Zdo
theorem RV.one{w:t_}{A:xP}(h:RV w B A [x]):∃b off,A=some ⟨b,off,none⟩/\b<B/\ej w b off x:=by obtain⟨b,off,h1,h2,h3⟩:=h.at_ (k:=0) Tad;exact⟨b,off,h1,h2,by simpa using h3⟩
theorem RV.two{w:t_}{A:xP}{y:Val}(h:RV w B A [x,y]):∃b off,A=some ⟨b,off,none⟩/\b<B/\ej w b off x/\ej w b (off+3) y:=by rcases h with h|⟨b,off,h1,h2,h3⟩;simp at h;exact⟨b,off,h1,h2,by simpa using h3 0 x rfl,by simpa using h3 1 y rfl⟩
theorem PI(n:Int)(ok:Bool)(w:t_):ar 109 #[af n,.bool ok] w λ e w'=>e=.returned (.tuple #[.agg #[ag (fM n ok).1.k,af (fM n ok).1.n,.string (fM n ok).1.s],af (fM n ok).2])/\ai w w':=iN n ok w
theorem jY(b:Bool)(w:t_):ar 111 #[.bool b] w λ e w'=>e=.returned (.tuple #[.agg #[ag (bF b).k,af (bF b).n,.string (bF b).s],af 0])/\ai w w':=tD b w
def zg8.KbU(h:p:=by
 unfold ej at cV;have bJ:w.heap.size<=w.heap.size+1:=WC;generalize w.heap.size+1=g at*;refine aR 13 W.heap.size W cX Taa Taa Taa Taa ?_;simp only[Uab];repeat (go_big_quiet_step (first
  |(go_at_call 109;exact aN aE (PI _ _ _))))
 refine wpQuiet_nil ?_;rintro W4 ⟨y2,fq⟩;have hL:=y2.h;rw[<-fq]at hL;clear fq y2 cV;replace hR:=hR.later hL;replace hB:=aj.then hB hL;generalize cG:fM _ _=r;have hr:Zo a.n=r:=by rw[<-cG];unfold Zo;rfl
 have HE:=aa hr;clear hr cG;have dy:=aI hR;have iA:=aB.frozen hR;clear hR;go_wp2_with fail;exact bodyPost_ret (v:=.tuple #[.agg (aC r.1),af r.2]) (by simp[results,results108,go_sem,dy]) rfl ⟨by rw[HE.ae];rfl,((hB.setCell (bJ) _).setCell (bJ) _).setCell (bJ) _⟩):=h
def zco.Kap(h:p:=by
 replace hv:=hv.keep (w':=W) λ o=>hB.cell (p:=⟨b,o,none⟩) hb
 open zg8 in exact Zfe):=h
theorem ack(x:Ex)(A:xP)(c:Nat)(a:Val)(w:t_)(h:RV w w.heap.size A [a]):ar 108 #[.agg (ay x),.slice A 1 c] w λ e w'=>e=.returned (bP (Zo a.n).1 (Zo a.n).2)/\ai w w':=by obtain⟨b,off,rfl,hb,hv⟩:=h.one;go_enter func108,ntmps108;open zco in exact ZaO
def zcp.Kap(h:p:=by
 have bJ:w.heap.size<=w.heap.size+1:=WC;generalize w.heap.size+1=g at*;refine(tD _ _).mono ?_;rintro e w' ⟨rfl,b3⟩;replace hR:=hR.later b3;replace hB:=aj.then hB b3;clear b3 hv' hv;generalize hr:bF _=r;have he:(r,(0:Int))=(bF (a.n==0),0):=by rw[<-hr]
 have HE:=aa he;clear he hr;unfold bP;have dy:=aI hR;have iA:=aB.frozen hR;clear hR;go_wp2_with fail;exact bodyPost_ret (v:=.tuple #[.agg #[ag (r,(0:Int)).1.k,af (r,(0:Int)).1.n,.string (r,(0:Int)).1.s],af (r,(0:Int)).2]) (by simp[results,results110,go_sem,dy]) rfl ⟨by have:=HE.ae;injection this with h1 h2;rw[<-h1];rfl,((hB.setCell (bJ) _).setCell (bJ) _).setCell (bJ) _⟩):=h
def zhO.Kca(h:p:=by go_enter func110,ntmps110;open zcp in exact ZaO):=h
theorem acm(x:Ex)(A:xP)(c:Nat)(a:Val)(w:t_)(h:RV w w.heap.size A [a]):ar 110 #[.agg (ay x),.slice A 1 c] w λ e w'=>e=.returned (bP (bF (a.n==0)) 0)/\ai w w':=by obtain⟨b,off,rfl,hb,hv⟩:=h.one;open zhO in exact Zgb
theorem TA(a:Int)(g:Nat)(w:t_):ar 168 #[af a,af 0,aw g] w λ e w'=>e=.returned (bP aM 44)/\ai w w':=by go_enter func168,ntmps168;go_wp2_with fail;exact bodyPost_ret (v:=.tuple #[.agg #[ag 0,af 0,.string ByteArray.empty],af 44]) (by simp[results,results168,go_sem];try rfl) rfl ⟨rfl,by go_grown⟩
theorem Zp(a b:Int)(hb:b≠0)(g k:Nat)(r:Val×Int)(w:t_)(hg:aB w g 206 #[.func (.func k) #[] #[]])(he:∀args w,(callFunc k args).run prog w=.ok (.enter k args) w)
  (hk:∀w,ar k #[af a,af b] w λ e w'=>e=.returned (bP r.1 r.2)/\ai w w'):ar 168 #[af a,af b,aw g] w λ e w'=>e=.returned (bP r.1 r.2)/\ai w w':=by
 have HK:=aa hk;clear hk;have e1:(b==0)=false:=by simpa using hb
 have cG:=(hg.alloc (.cells #[ag 0,af 0,au] 44)).cell 0;simp only[getElem?_toArray,getElem?_cons_zero]at cG;go_enter func168,ntmps168;go_wp2_with fail;refine(HK.ae _).mono ?_;rintro e w' ⟨rfl,hr⟩;unfold bP;have hR:=(aB.new w 44 #[ag 0,af 0,au]).later hr;have hB:=aj.then (ah w (.cells #[ag 0,af 0,au] 44)) hr;clear hr cG;have dy:=aI hR;have iA:=aB.frozen hR;clear hR;go_wp2_with fail;exact bodyPost_ret (v:=.tuple #[.agg (aC r.1),af r.2]) (by simp[results,results168,go_sem,dy]) rfl ⟨rfl,((hB.setCell aE _).setCell aE _).setCell aE _⟩
theorem acn(a b:Int)(w:t_):ar 113 #[af a,af b] w λ e w'=>e=.returned (.tuple #[.agg #[ag (AK a b).1.k,af (AK a b).1.n,.string (AK a b).1.s],af (AK a b).2])/\ai w w':=acg a b w
def zc7.KaA(h:p:=by generalize hr:(AK a.n b'.n)=r at*;exact Zbd):=h
def zcd.Kao(h:p:=by
 generalize w.heap.size+1=g at*;refine aR 12 W.heap.size W cX Taa Taa Taa Taa ?_;simp only[Uab];repeat (go_big_quiet_step (first
  |(go_at_call 113;exact aN aE (acn a.n b'.n _))))
 open zc7 in exact Zbm):=h
def zJ.Ka(h:p:=by have lx:aB W q 206 #[.func (.func 113) #[] #[]]:=hq.later hB;open zcd in exact ZaL):=h
theorem ahH(x:Ex)(A:xP)(c q:Nat)(a b':Val)(w:t_)(h:RV w w.heap.size A [a,b'])(hq:aB w q 206 #[.func (.func 113) #[] #[]]):ar 167 #[.agg (ay x),.slice A 2 c,.pointer (some ⟨q,0,none⟩)] w λ e w'=>e=.returned (bP (AK a.n b'.n).1 (AK a.n b'.n).2)/\ai w w':=by obtain⟨b,off,rfl,hb,hv,hu⟩:=h.two;go_enter func167,ntmps167;open zJ in exact Zac
theorem aco(a b:Int)(w:t_):ar 114 #[af a,af b] w λ e w'=>e=.returned (.tuple #[.agg #[ag (AL a b).1.k,af (AL a b).1.n,.string (AL a b).1.s],af (AL a b).2])/\ai w w':=ach a b w
def zc8.KaA(h:p:=by generalize hr:(AL a.n b'.n)=r at*;exact Zbd):=h
def zce.Kao(h:p:=by
 generalize w.heap.size+1=g at*;refine aR 12 W.heap.size W cX Taa Taa Taa Taa ?_;simp only[Uab];repeat (go_big_quiet_step (first
  |(go_at_call 114;exact aN aE (aco a.n b'.n _))))
 open zc8 in exact Zbm):=h
def zaa.Ka(h:p:=by have lx:aB W q 206 #[.func (.func 114) #[] #[]]:=hq.later hB;open zce in exact ZaL):=h
theorem ahI(x:Ex)(A:xP)(c q:Nat)(a b':Val)(w:t_)(h:RV w w.heap.size A [a,b'])(hq:aB w q 206 #[.func (.func 114) #[] #[]]):ar 167 #[.agg (ay x),.slice A 2 c,.pointer (some ⟨q,0,none⟩)] w λ e w'=>e=.returned (bP (AL a.n b'.n).1 (AL a.n b'.n).2)/\ai w w':=by obtain⟨b,off,rfl,hb,hv,hu⟩:=h.two;go_enter func167,ntmps167;open zaa in exact Zac
theorem Vs(a b:Int)(w:t_):ar 115 #[af a,af b] w λ e w'=>e=.returned (.tuple #[.agg #[ag (AO a b).1.k,af (AO a b).1.n,.string (AO a b).1.s],af (AO a b).2])/\ai w w':=Vr a b w
def zc9.KaA(h:p:=by generalize hr:(AO a.n b'.n)=r at*;exact Zbd):=h
def zcf.Kao(h:p:=by
 generalize w.heap.size+1=g at*;refine aR 12 W.heap.size W cX Taa Taa Taa Taa ?_;simp only[Uab];repeat (go_big_quiet_step (first
  |(go_at_call 115;exact aN aE (Vs a.n b'.n _))))
 open zc9 in exact Zbm):=h
def zab.Ka(h:p:=by have lx:aB W q 206 #[.func (.func 115) #[] #[]]:=hq.later hB;open zcf in exact ZaL):=h
theorem Zq(x:Ex)(A:xP)(c q:Nat)(a b':Val)(w:t_)(h:RV w w.heap.size A [a,b'])(hq:aB w q 206 #[.func (.func 115) #[] #[]]):ar 167 #[.agg (ay x),.slice A 2 c,.pointer (some ⟨q,0,none⟩)] w λ e w'=>e=.returned (bP (AO a.n b'.n).1 (AO a.n b'.n).2)/\ai w w':=by obtain⟨b,off,rfl,hb,hv,hu⟩:=h.two;go_enter func167,ntmps167;open zab in exact Zac
theorem Vt(args:x_)(w:t_):(callFunc 117 args).run prog w=.ok (.enter 117 args) w:=by exact Zhr
def AP(a b:Int):Val×Int:=if b=0 then(aM,44)else Vp a b
theorem acp(a b:Int)(g:Nat)(w:t_)(hg:aB w g 206 #[.func (.func 117) #[] #[]]):ar 168 #[.int .i64 a,.int .i64 b,.pointer (some ⟨g,0,none⟩)] w λ e w'=>e=.returned (.tuple #[.agg #[.int .u8 (AP a b).1.k,.int .i64 (AP a b).1.n,.string (AP a b).1.s],.int .i64 (AP a b).2])/\ai w w':=by by_cases hb:b=0;have e:AP a b=(aM,44):=if_pos hb;rw[e];subst hb;exact TA a g w;have e:AP a b=Vp a b:=if_neg hb;rw[e];exact Zp a b hb g _ _ w hg Vt (aci a b hb)
def zda.KaA(h:p:=by generalize hr:(AP a.n b'.n)=r at*;exact Zbd):=h
def zcg.Kao(h:p:=by
 generalize w.heap.size+1=g at*;refine aR 12 W.heap.size W cX Taa Taa Taa Taa ?_;simp only[Uab];repeat (go_big_quiet_step (first
  |(go_at_call 168;exact aN aE (acp a.n b'.n q2 _ (hq3.later (Ext.h _))))))
 open zda in exact Zbm):=h
def zac.Ka(h:p:=by have hq3:=lx.later hB;have lx:aB W q 206 #[.func (.func 168) #[] #[aw q2]]:=hq.later hB;open zcg in exact ZaL):=h
theorem ahJ(x:Ex)(A:xP)(c q:Nat)(a b':Val)(q2:Nat)(w:t_)(h:RV w w.heap.size A [a,b'])(hq:aB w q 206 #[.func (.func 168) #[] #[.pointer (some ⟨q2,0,none⟩)]])(lx:aB w q2 206 #[.func (.func 117) #[] #[]]):ar 167 #[.agg (ay x),.slice A 2 c,.pointer (some ⟨q,0,none⟩)] w λ e w'=>e=.returned (bP (AP a.n b'.n).1 (AP a.n b'.n).2)/\ai w w':=by obtain⟨b,off,rfl,hb,hv,hu⟩:=h.two;go_enter func167,ntmps167;open zac in exact Zac
theorem Vu(args:x_)(w:t_):(callFunc 118 args).run prog w=.ok (.enter 118 args) w:=by exact Zhr
def AQ(a b:Int):Val×Int:=if b=0 then(aM,44)else Vq a b
theorem acr(a b:Int)(g:Nat)(w:t_)(hg:aB w g 206 #[.func (.func 118) #[] #[]]):ar 168 #[.int .i64 a,.int .i64 b,.pointer (some ⟨g,0,none⟩)] w λ e w'=>e=.returned (.tuple #[.agg #[.int .u8 (AQ a b).1.k,.int .i64 (AQ a b).1.n,.string (AQ a b).1.s],.int .i64 (AQ a b).2])/\ai w w':=by by_cases hb:b=0;have e:AQ a b=(aM,44):=if_pos hb;rw[e];subst hb;exact TA a g w;have e:AQ a b=Vq a b:=if_neg hb;rw[e];exact Zp a b hb g _ _ w hg Vu (acj a b hb)
def zdb.KaA(h:p:=by generalize hr:(AQ a.n b'.n)=r at*;exact Zbd):=h
def zch.Kao(h:p:=by
 generalize w.heap.size+1=g at*;refine aR 12 W.heap.size W cX Taa Taa Taa Taa ?_;simp only[Uab];repeat (go_big_quiet_step (first
  |(go_at_call 168;exact aN aE (acr a.n b'.n q2 _ (hq3.later (Ext.h _))))))
 open zdb in exact Zbm):=h
def zad.Ka(h:p:=by have hq3:=lx.later hB;have lx:aB W q 206 #[.func (.func 168) #[] #[aw q2]]:=hq.later hB;open zch in exact ZaL):=h
theorem ahK(x:Ex)(A:xP)(c q:Nat)(a b':Val)(q2:Nat)(w:t_)(h:RV w w.heap.size A [a,b'])(hq:aB w q 206 #[.func (.func 168) #[] #[.pointer (some ⟨q2,0,none⟩)]])(lx:aB w q2 206 #[.func (.func 118) #[] #[]]):ar 167 #[.agg (ay x),.slice A 2 c,.pointer (some ⟨q,0,none⟩)] w λ e w'=>e=.returned (bP (AQ a.n b'.n).1 (AQ a.n b'.n).2)/\ai w w':=by obtain⟨b,off,rfl,hb,hv,hu⟩:=h.two;go_enter func167,ntmps167;open zad in exact Zac
def zdc.KaA(h:p:=by
 generalize hr:bF (decide (cc=0))=r at*;have HE:fy ((r,(0:Int))=(bF (decide (bC a b'=0)),0)):=by rw[HC.ae,hr];exact rfl
 exact ZaA):=h
def zci.Kao(h:p:=by
 generalize w.heap.size+1=g at*;have kC:=aa (dQ a b');generalize hcc:bC a b'=cc at kC;have HC:=aa hcc;clear hcc;refine aR 12 W.heap.size W cX Taa Taa Taa Taa ?_;simp only[Uab];repeat (go_big_quiet_step (first
  |(go_at_call 18;exact aN aE (kC.ae _))
  |(go_at_call 120;exact dm (amq cc _))
  |(go_at_call 111;exact aN aE (jY _ _))))
 open zdc in exact Zbm):=h
def zae.Ka(h:p:=by have lx:aB W q 208 #[.func (.func 120) #[] #[]]:=hq.later hB;open zci in exact ZaL):=h
theorem amv(x:Ex)(A:xP)(c q:Nat)(a b':Val)(w:t_)(h:RV w w.heap.size A [a,b'])(hq:aB w q 208 #[.func (.func 120) #[] #[]]):ar 169 #[.agg (ay x),.slice A 2 c,.pointer (some ⟨q,0,none⟩)] w λ e w'=>e=.returned (bP (bF (decide (bC a b'=0))) 0)/\ai w w':=by obtain⟨b,off,rfl,hb,hv,hu⟩:=h.two;go_enter func169,ntmps169;open zae in exact Zac
def zdd.KaA(h:p:=by
 generalize hr:bF (!decide (cc=0))=r at*;have HE:fy ((r,(0:Int))=(bF (!decide (bC a b'=0)),0)):=by rw[HC.ae,hr];exact rfl
 exact ZaA):=h
def zcj.Kao(h:p:=by
 generalize w.heap.size+1=g at*;have kC:=aa (dQ a b');generalize hcc:bC a b'=cc at kC;have HC:=aa hcc;clear hcc;refine aR 12 W.heap.size W cX Taa Taa Taa Taa ?_;simp only[Uab];repeat (go_big_quiet_step (first
  |(go_at_call 18;exact aN aE (kC.ae _))
  |(go_at_call 121;exact dm (amr cc _))
  |(go_at_call 111;exact aN aE (jY _ _))))
 open zdd in exact Zbm):=h
def zaf.Ka(h:p:=by have lx:aB W q 208 #[.func (.func 121) #[] #[]]:=hq.later hB;open zcj in exact ZaL):=h
theorem amw(x:Ex)(A:xP)(c q:Nat)(a b':Val)(w:t_)(h:RV w w.heap.size A [a,b'])(hq:aB w q 208 #[.func (.func 121) #[] #[]]):ar 169 #[.agg (ay x),.slice A 2 c,.pointer (some ⟨q,0,none⟩)] w λ e w'=>e=.returned (bP (bF (!decide (bC a b'=0))) 0)/\ai w w':=by obtain⟨b,off,rfl,hb,hv,hu⟩:=h.two;go_enter func169,ntmps169;open zaf in exact Zac
def zde.KaA(h:p:=by
 generalize hr:bF (decide (cc<0))=r at*;have HE:fy ((r,(0:Int))=(bF (decide (bC a b' < 0)),0)):=by rw[HC.ae,hr];exact rfl
 exact ZaA):=h
def zck.Kao(h:p:=by
 generalize w.heap.size+1=g at*;have kC:=aa (dQ a b');generalize hcc:bC a b'=cc at kC;have HC:=aa hcc;clear hcc;refine aR 12 W.heap.size W cX Taa Taa Taa Taa ?_;simp only[Uab];repeat (go_big_quiet_step (first
  |(go_at_call 18;exact aN aE (kC.ae _))
  |(go_at_call 122;exact dm (is_lt cc _))
  |(go_at_call 111;exact aN aE (jY _ _))))
 open zde in exact Zbm):=h
def zag.Ka(h:p:=by have lx:aB W q 208 #[.func (.func 122) #[] #[]]:=hq.later hB;open zck in exact ZaL):=h
theorem amx(x:Ex)(A:xP)(c q:Nat)(a b':Val)(w:t_)(h:RV w w.heap.size A [a,b'])(hq:aB w q 208 #[.func (.func 122) #[] #[]]):ar 169 #[.agg (ay x),.slice A 2 c,.pointer (some ⟨q,0,none⟩)] w λ e w'=>e=.returned (bP (bF (decide (bC a b' < 0))) 0)/\ai w w':=by obtain⟨b,off,rfl,hb,hv,hu⟩:=h.two;go_enter func169,ntmps169;open zag in exact Zac
def zdf.KaA(h:p:=by
 generalize hr:bF (decide (cc<=0))=r at*;have HE:fy ((r,(0:Int))=(bF (decide (bC a b'<=0)),0)):=by rw[HC.ae,hr];exact rfl
 exact ZaA):=h
def zcl.Kao(h:p:=by
 generalize w.heap.size+1=g at*;have kC:=aa (dQ a b');generalize hcc:bC a b'=cc at kC;have HC:=aa hcc;clear hcc;refine aR 12 W.heap.size W cX Taa Taa Taa Taa ?_;simp only[Uab];repeat (go_big_quiet_step (first
  |(go_at_call 18;exact aN aE (kC.ae _))
  |(go_at_call 123;exact dm (is_le cc _))
  |(go_at_call 111;exact aN aE (jY _ _))))
 open zdf in exact Zbm):=h
def zah.Ka(h:p:=by have lx:aB W q 208 #[.func (.func 123) #[] #[]]:=hq.later hB;open zcl in exact ZaL):=h
theorem amy(x:Ex)(A:xP)(c q:Nat)(a b':Val)(w:t_)(h:RV w w.heap.size A [a,b'])(hq:aB w q 208 #[.func (.func 123) #[] #[]]):ar 169 #[.agg (ay x),.slice A 2 c,.pointer (some ⟨q,0,none⟩)] w λ e w'=>e=.returned (bP (bF (decide (bC a b'<=0))) 0)/\ai w w':=by obtain⟨b,off,rfl,hb,hv,hu⟩:=h.two;go_enter func169,ntmps169;open zah in exact Zac
def zdg.KaA(h:p:=by
 generalize hr:bF (decide (0<cc))=r at*;have HE:fy ((r,(0:Int))=(bF (decide (0<bC a b')),0)):=by rw[HC.ae,hr];exact rfl
 exact ZaA):=h
def zcm.Kao(h:p:=by
 generalize w.heap.size+1=g at*;have kC:=aa (dQ a b');generalize hcc:bC a b'=cc at kC;have HC:=aa hcc;clear hcc;refine aR 12 W.heap.size W cX Taa Taa Taa Taa ?_;simp only[Uab];repeat (go_big_quiet_step (first
  |(go_at_call 18;exact aN aE (kC.ae _))
  |(go_at_call 124;exact dm (ams cc _))
  |(go_at_call 111;exact aN aE (jY _ _))))
 open zdg in exact Zbm):=h
def zai.Ka(h:p:=by have lx:aB W q 208 #[.func (.func 124) #[] #[]]:=hq.later hB;open zcm in exact ZaL):=h
theorem amz(x:Ex)(A:xP)(c q:Nat)(a b':Val)(w:t_)(h:RV w w.heap.size A [a,b'])(hq:aB w q 208 #[.func (.func 124) #[] #[]]):ar 169 #[.agg (ay x),.slice A 2 c,.pointer (some ⟨q,0,none⟩)] w λ e w'=>e=.returned (bP (bF (decide (0<bC a b'))) 0)/\ai w w':=by obtain⟨b,off,rfl,hb,hv,hu⟩:=h.two;go_enter func169,ntmps169;open zai in exact Zac
def zdh.KaA(h:p:=by
 generalize hr:bF (decide (0<=cc))=r at*;have HE:fy ((r,(0:Int))=(bF (decide (0<=bC a b')),0)):=by rw[HC.ae,hr];exact rfl
 exact ZaA):=h
def zcn.Kao(h:p:=by
 generalize w.heap.size+1=g at*;have kC:=aa (dQ a b');generalize hcc:bC a b'=cc at kC;have HC:=aa hcc;clear hcc;refine aR 12 W.heap.size W cX Taa Taa Taa Taa ?_;simp only[Uab];repeat (go_big_quiet_step (first
  |(go_at_call 18;exact aN aE (kC.ae _))
  |(go_at_call 125;exact dm (amu cc _))
  |(go_at_call 111;exact aN aE (jY _ _))))
 open zdh in exact Zbm):=h
def zaj.Ka(h:p:=by have lx:aB W q 208 #[.func (.func 125) #[] #[]]:=hq.later hB;open zcn in exact ZaL):=h
theorem amA(x:Ex)(A:xP)(c q:Nat)(a b':Val)(w:t_)(h:RV w w.heap.size A [a,b'])(hq:aB w q 208 #[.func (.func 125) #[] #[]]):ar 169 #[.agg (ay x),.slice A 2 c,.pointer (some ⟨q,0,none⟩)] w λ e w'=>e=.returned (bP (bF (decide (0<=bC a b'))) 0)/\ai w w':=by obtain⟨b,off,rfl,hb,hv,hu⟩:=h.two;go_enter func169,ntmps169;open zaj in exact Zac
def zcc.Kao(h:p:=by
 generalize w.heap.size+1=g at*;refine aR 10 W.heap.size W cX Taa Taa Taa Taa ?_;simp only[Uab];repeat (go_big_quiet_step (first
  |(go_at_call 111;exact aN aE (jY _ _))))
 refine wpQuiet_nil ?_;rintro W4 ⟨y2,fq⟩;have hL:=y2.h;rw[<-fq]at hL;clear fq y2 cV cQ;replace hR:=hR.later hL;replace hB:=aj.then hB hL;generalize hr:bF _=r at*;have HE:fy ((r,(0:Int))=(bF ((a.k==0)==is),0)):=by rw[<-hr];exact rfl
 clear hr;have dy:=aI hR;have iA:=aB.frozen hR;clear hR;go_wp2_with fail;exact bodyPost_ret (v:=.tuple #[.agg #[ag (r,(0:Int)).1.k,af (r,(0:Int)).1.n,.string (r,(0:Int)).1.s],af (r,(0:Int)).2]) (by simp[results,results172,go_sem,dy]) rfl ⟨by have:=HE.ae;injection this with h1 h2;rw[<-h1];rfl,((hB.setCell (bJ) _).setCell (bJ) _).setCell (bJ) _⟩):=h
def zha.KbU(h:p:=by unfold ej at cV;have lx:aB W q 4 #[.bool is]:=hq.later hB;open zcc in exact ZaL):=h
def zfe.Kba(h:p:=by
 replace hv:=hv.keep (w':=W) λ o=>hB.cell (p:=⟨b,o,none⟩) hb
 open zha in exact Zfe):=h
theorem LU(x:Ex)(A:xP)(c q:Nat)(is:Bool)(a:Val)(w:t_)(h:RV w w.heap.size A [a])(hq:aB w q 4 #[.bool is]):ar 172 #[.agg (ay x),.slice A 1 c,aw q] w λ e w'=>e=.returned (bP (bF ((a.k==0)==is)) 0)/\ai w w':=by obtain⟨b,off,rfl,hb,hv⟩:=h.one;go_enter func172,ntmps172;open zfe in exact Zdf
def wL(n wd:Int):Int:=n % wd
def wM(n wd:Int):Val×Int:=fM (wrap64 (n-wL n wd)) (decide (-9223372036854775808+wL n wd<=n))
theorem acs(n wd:Int)(h1:1<=wd):Int.tmod (Int.tmod n wd+wd) wd=wL n wd/\ -wd<Int.tmod n wd/\Int.tmod n wd<wd/\0<=wL n wd/\wL n wd<wd:=by have b1:=Int.tmod_lt_of_pos n (show 0<wd by omega);have b2:=Int.lt_tmod_of_pos n (show 0<wd by omega);have b3:=Int.emod_nonneg n (show wd≠0 by omega);have b4:=Int.emod_lt_of_pos n (show 0<wd by omega);refine⟨?_,b2,b1,b3,b4⟩;rw[Int.tmod_eq_emod_of_nonneg (show 0<=Int.tmod n wd+wd by omega)];unfold wL;rw[Int.add_emod_right];have e:=Int.tmod_add_mul_tdiv n wd;have h2:(Int.tmod n wd+wd*Int.tdiv n wd)% wd=Int.tmod n wd % wd:=Int.add_mul_emod_self_left _ _ _;rw[e]at h2;exact h2.symm
def zdv.KaD(h:p:=by
 clear fq y2 cV;replace hR:=hR.later hL;replace hB:=aj.then hB hL;go_wp2_with fail;refine(iN _ _ _).mono ?_;rintro e w' ⟨rfl,b3⟩;replace hR:=hR.later b3;replace hB:=aj.then hB b3;clear b3 hv';generalize hr:fM _ _=r;have he:wM a.n x.width=r:=by rw[<-hr,HBT.ae]
 have HE:=aa he;clear he hr HBT;unfold bP;have dy:=aI hR;have iA:=aB.frozen hR;clear hR;go_wp2_with fail;exact bodyPost_ret (v:=.tuple #[.agg (aC r.1),af r.2]) (by simp[results,results128,go_sem,dy]) rfl ⟨by rw[HE.ae];rfl,((hB.setCell (bJ) _).setCell (bJ) _).setCell (bJ) _⟩):=h
def zcq.Kap(h:p:=by have bJ:w.heap.size<=w.heap.size+1:=WC;generalize w.heap.size+1=g at*;have cV:=λ y:Ext W.heap.size W=>(hX.later y.h).cell 5;simp only[Uaa]at cV;refine aR 11 W.heap.size W cX Taa Taa Taa Taa ?_;simp only[Uab];open zdv in exact Zbu):=h
def zhP.Kca(h:p:=by go_enter func128,ntmps128;open zcq in exact ZaO):=h
theorem Vv(x:Ex)(A:xP)(c:Nat)(a:Val)(w:t_)(h:RV w w.heap.size A [a])(hw1:1<=x.width)(hw2:x.width<=1099511627776)(hn:a.Ok):ar 128 #[.agg (ay x),.slice A 1 c] w λ e w'=>e=.returned (bP (wM a.n x.width).1 (wM a.n x.width).2)/\ai w w':=by
 obtain⟨b,off,rfl,hb,hv⟩:=h.one;obtain⟨n1,n2⟩:=hn;obtain⟨r1,r2,r3,r4,r5⟩:=acs a.n x.width hw1;have HBT:fy (wM a.n x.width=fM (wrap64 (a.n-wL a.n x.width)) (decide (-9223372036854775808+wL a.n x.width<=a.n))):=rfl;have hz:(x.width==0)=false:=by rw[beq_eq_false_iff_ne];omega
 generalize wL a.n x.width=rs at*;open zhP in exact Zgb
def qR(v x:Val):Bool:=v.k==x.k&&v.n==x.n&&v.s.toList==x.s.toList
def Jc(v:Val)(l:w_):Bool:=l.any (qR v)
def acv(l:w_)(v:Val)(w:t_)(e:Ending)(w':t_):Prop:=∃i:Int,e=.returned (af i)/\decide (0<=i)=Jc v l/\ai w w'
def zdm.KaD(h:p:=by
 clear fq y2 cV cU cQ;have bW:=aj.then hB (aj.then hb hL);have amB:qR v x=false->∀y∈l.take (i+1),qR v y=false:=by intro heq y hy;rw[HT.ae]at hy;rcases List.mem_append.1 hy with hy|hy;exact HP.ae y hy;simp at hy;subst hy;exact heq
 have HN2:=aa amB;clear amB HT;obtain⟨xk,xn,xs⟩:=x;dsimp only;by_cases h1:v.k=xk
 ·subst h1;by_cases h2:v.n=xn
  ·subst h2;by_cases h3:v.s.toList=xs.toList
   ·have PJ:qR v ⟨v.k,v.n,xs⟩=true:=by simp[qR,h3]
    have HV1:=aa PJ;clear PJ;go_wp2_with fail;go_ret;exact⟨_,rfl,by rw[show Jc v l=true from List.any_eq_true.2 ⟨_,HM.ae,HV1.ae⟩];simp,bW⟩
   have PJ:qR v ⟨v.k,v.n,xs⟩=false:=by simp[qR,h3]
   exact ZcY
  have PJ:qR v ⟨v.k,xn,xs⟩=false:=by simp[qR,h2]
  exact ZcY
 have PJ:qR v ⟨xk,xn,xs⟩=false:=by simp[qR,h1]
 exact ZcY):=h
theorem Vw(A:xP)(c:Nat)(l:w_)(v:Val)(w:t_)(h:RV w w.heap.size A l)(hl:l.length<=1000000):ar 196 #[.slice A l.length c,.agg (aC v)] w (acv l v w):=by
 have HH:=aa h;clear h;go_enter func196,ntmps196;go_wp2_with fail;have hV:=aB.new w 44 (aC v);have hB:=ah w (.cells (aC v) 44);generalize w.alloc (.cells (aC v) 44)=W at*;go_loopw [8] (λ Kx wr=>∃i:Nat,i<=l.length/\Kx=af i/\(∀x∈l.take i,qR v x=false)/\ai W wr) (λ Kx _=>l.length-(intOf Kx).toNat);case atStart=>exact⟨0,gE,rfl,by simp,cX⟩
 case round=>
  obtain⟨i,hk,rfl,hp,hb⟩:=hrel;have HP:=aa hp;clear hp;by_cases hlt:i<l.length
  ·obtain⟨b,off,rfl,KK,cQ⟩:=((HH.ae.below hB).more hB.size |>.below hb).at_ hlt;have HT:=aa (show l.take (i+1)=l.take i++[l[i]] by rw[take_add_one,getElem?_eq_getElem hlt];rfl);have HM:=aa (getElem_mem hlt);generalize l[i]=x at*;go_wp2_with fail;have cV:=λ y:Ext wr.heap.size wr=>cQ.keep (w':=y.w) λ o=>y.cell (p:=⟨b,o,none⟩) (eS KK hb.size)
   have cU:=λ y:Ext wr.heap.size wr=>aI (hV.later (aj.then hb y.h));unfold ej at cV;refine aR 5 wr.heap.size wr cX Taa Taa Taa Taa ?_;simp only[Uab];open zdm in exact Zbu
  have hall:Jc v l=false:=by have:=HP.ae;rw[take_of_length_le WC]at this;unfold Jc;rw[any_eq_false];intro x hx;rw[this x hx];simp
  have BK:=aa hall;clear hall;go_wp2_with fail;go_ret;exact⟨_,rfl,by rw[BK.ae];rfl,aj.then hB hb⟩
theorem wN(A:xP)(c:Nat)(l:w_)(v:Val)(w:t_)(h:RV w w.heap.size A l)(hl:l.length<=1000000):ar 171 #[.slice A l.length c,.agg (aC v)] w λ e w'=>e=.returned (.bool (Jc v l))/\ai w w':=by have HH:=aa h;clear h;go_enter func171,ntmps171;have hB:=ah w (.cells (aC v) 44);go_wp2_with fail;refine(Vw A c l v _ ((HH.ae.below hB).more hB.size) hl).mono ?_;rintro e w' ⟨i,rfl,hi,b1⟩;go_wp2_with fail;go_ret;exact⟨rfl,aj.then hB b1⟩
def mB(short:Bool)(l:w_):Val:=if Jc (bF short) l then bF short else if Jc aM l then aM else bF (!short)
theorem LW(x:Ex)(A:xP)(c q:Nat)(short:Bool)(l:w_)(w:t_)(h:RV w w.heap.size A l)(hl:l.length<=1000000)(cL:aB w q 4 #[.bool short]):ar 170 #[.agg (ay x),.slice A l.length c,aw q] w λ e w'=>e=.returned (bP (mB short l) 0)/\ai w w':=by
 have HH:=aa h;clear h;have hB:=aj.then (ah w (.cells (ay x) 46)) (ah _ (.cells #[ag 0,af 0,au] 44));have hR:=aB.new (w.alloc (.cells (ay x) 46)) 44 #[ag 0,af 0,au];rw[World.size_alloc]at hR;replace cL:=cL.later hB;have y1:=cL.cell 0;simp only[getElem?_toArray,getElem?_cons_zero]at y1;go_enter func170,ntmps170;go_wp2_with fail;clear y1;generalize (w.alloc (.cells (ay x) 46)).alloc (.cells #[ag 0,af 0,au] 44)=W at*;have bJ:w.heap.size<=w.heap.size+1:=WC;generalize w.heap.size+1=g at*;refine(tD short _).mono ?_;rintro e w1 ⟨rfl,b1⟩;unfold bP;replace hR:=hR.later (aj.then b1 (ah w1 (.cells #[ag (bF short).k,af (bF short).n,.string (bF short).s] 44)));replace cL:=cL.later (aj.then b1 (ah w1 (.cells #[ag (bF short).k,af (bF short).n,.string (bF short).s] 44)));replace hB:=aj.then hB (aj.then b1 (ah w1 (.cells #[ag (bF short).k,af (bF short).n,.string (bF short).s] 44)));have hV:=aB.new w1 44 #[ag (bF short).k,af (bF short).n,.string (bF short).s];clear b1;have cV:=aI hV;go_wp2_with fail;clear cV;generalize w1.alloc (.cells #[ag (bF short).k,af (bF short).n,.string (bF short).s] 44)=W1 at*;generalize w1.heap.size=g1 at*;refine(wN A c l (bF short) _ ((HH.ae.below hB).more hB.size) hl).mono ?_;rintro e w2 ⟨rfl,b3⟩;replace hR:=hR.later b3;replace cL:=cL.later b3;replace hB:=aj.then hB b3;replace hV:=hV.later b3;clear b3;cases h1:Jc (bF short) l
 ·go_wp2_with fail;refine(wN A c l aM _ ((HH.ae.below hB).more hB.size) hl).mono ?_;rintro e w3 ⟨rfl,Lw⟩;replace hR:=hR.later Lw;replace cL:=cL.later Lw;replace hB:=aj.then hB Lw;clear Lw hV;have dy:=aI hR;have iA:=aB.frozen hR;cases h2:Jc aM l
  ·have y1:=cL.cell 0;simp only[getElem?_toArray,getElem?_cons_zero]at y1;have HL:=aa (show mB short l=bF (!short) by simp[mB,h1,h2]);go_wp2_with fail;refine(tD _ _).mono ?_;rintro e w4 ⟨rfl,b4⟩;unfold bP;replace hR:=hR.later b4;replace hB:=aj.then hB b4;clear b4 dy iA y1;have dy:=aI hR;have iA:=aB.frozen hR;clear hR;generalize hr:bF (!short)=r at*;exact Zd2
  have HL:=aa (show mB short l=aM by simp[mB,h1,h2]);clear hR;go_wp2_with fail;exact bodyPost_ret (v:=.tuple #[.agg #[ag 0,af 0,.string ByteArray.empty],af 0]) (by simp[results,results170,go_sem,dy];try rfl) rfl ⟨by rw[HL.ae];rfl,((hB.setCell bJ _).setCell bJ _).setCell bJ _⟩
 have HL:=aa (show mB short l=bF short by simp[mB,h1]);have dy:=aI hR;have iA:=aB.frozen hR;have cV:=aI hV;clear hR hV;generalize hr:bF short=r at*;exact Zd2
def fo(args wants gives:Int)(alike amC:Bool)(d:Value):Value:=.agg #[af args,ag wants,ag gives,.bool alike,.bool amC,d]
def gQ(w:t_):Nat->Value->Prop
 |3,v=>v=fo 1 2 2 false false (.func (.func 108) #[] #[])
 |4,v=>v=fo 1 1 1 false false (.func (.func 110) #[] #[])
 |5,v=>∃q,v=fo 2 2 2 false false (.func (.func 167) #[] #[aw q])/\aB w q 206 #[(.func (.func 113) #[] #[])]
 |6,v=>∃q,v=fo 2 2 2 false false (.func (.func 167) #[] #[aw q])/\aB w q 206 #[(.func (.func 114) #[] #[])]
 |7,v=>∃q,v=fo 2 2 2 false false (.func (.func 167) #[] #[aw q])/\aB w q 206 #[(.func (.func 115) #[] #[])]
 |8,v=>∃q q2,v=fo 2 2 2 false false (.func (.func 167) #[] #[aw q])/\aB w q 206 #[(.func (.func 168) #[] #[aw q2])]/\aB w q2 206 #[(.func (.func 117) #[] #[])]
 |9,v=>∃q q2,v=fo 2 2 2 false false (.func (.func 167) #[] #[aw q])/\aB w q 206 #[(.func (.func 168) #[] #[aw q2])]/\aB w q2 206 #[(.func (.func 118) #[] #[])]
 |10,v=>∃q,v=fo 2 0 1 true false (.func (.func 169) #[] #[aw q])/\aB w q 208 #[(.func (.func 120) #[] #[])]
 |11,v=>∃q,v=fo 2 0 1 true false (.func (.func 169) #[] #[aw q])/\aB w q 208 #[(.func (.func 121) #[] #[])]
 |12,v=>∃q,v=fo 2 0 1 true false (.func (.func 169) #[] #[aw q])/\aB w q 208 #[(.func (.func 122) #[] #[])]
 |13,v=>∃q,v=fo 2 0 1 true false (.func (.func 169) #[] #[aw q])/\aB w q 208 #[(.func (.func 123) #[] #[])]
 |14,v=>∃q,v=fo 2 0 1 true false (.func (.func 169) #[] #[aw q])/\aB w q 208 #[(.func (.func 124) #[] #[])]
 |15,v=>∃q,v=fo 2 0 1 true false (.func (.func 169) #[] #[aw q])/\aB w q 208 #[(.func (.func 125) #[] #[])]
 |16,v=>∃q,v=fo 2 1 1 false true (.func (.func 170) #[] #[aw q])/\aB w q 4 #[.bool false]
 |17,v=>∃q,v=fo 2 1 1 false true (.func (.func 170) #[] #[aw q])/\aB w q 4 #[.bool true]
 |18,v=>∃q,v=fo 1 0 1 false true (.func (.func 172) #[] #[aw q])/\aB w q 4 #[.bool true]
 |19,v=>∃q,v=fo 1 0 1 false true (.func (.func 172) #[] #[aw q])/\aB w q 4 #[.bool false]
 |20,v=>v=fo 1 2 2 false false (.func (.func 128) #[] #[])
 |_,_=>False
theorem gQ.keep{w:t_}(hk:∀(q:Nat) (t:TypeId) (cs:x_),aB w q t cs->aB w' q t cs):∀(k:Nat) (v:Value),gQ w k v->gQ w' k v:=by intro k v h;unfold gQ at*;split at h;exact h;exact h;exact ZbO;exact ZbO;exact ZbO;exact Zh2;exact Zh2;exact ZbO;exact ZbO;exact ZbO;exact ZbO;exact ZbO;exact ZbO;exact ZbO;exact ZbO;exact ZbO;exact ZbO;exact h;exact h
def PK(w:t_)(g:Nat)(es:Array MapEntry)(c:Nat):Prop:=w.heap[g]?=some (.map es c)/\∀e∈es.toList,∃k:Nat,e.key=ag k/\gQ w k e.val
variable{es:Array MapEntry}
theorem PK.lt{w:t_}{c:Nat}(h:PK w g es c):g<w.heap.size:=by rcases gR g w.heap.size with hlt|wI;exact hlt;have:=h.1;rw[Array.getElem?_eq_none wI]at this;cases this
theorem PK.later{w:t_}{c:Nat}(h:PK w g es c)(hb:ai w w'):PK w' g es c:=
 ⟨(hb.block g h.lt).trans h.1,λ e he=>by obtain⟨k,h1,h2⟩:=h.2 e he;exact⟨k,h1,h2.keep (λ q t cs hq=>hq.later hb) _ _⟩⟩
def iO(w:t_)(g:Nat)(es:Array MapEntry)(c:Nat):t_:= {w with heap:=w.heap.setIfInBounds g (.map es c)}
theorem Jd{w:t_}(h:Below B w0 w)(g:Nat)(hg:B<=g)(es:Array MapEntry)(c:Nat):Below B w0 (iO w g es c):=by refine⟨h.os,h.tape,h.output,?_,λ k hk=>?_⟩;have:=h.size;simp[iO];exact this;rw[<-h.block k hk];simp only[iO,Array.getElem?_setIfInBounds];rw[if_neg WC]
theorem PK.push{w:t_}{c:Nat}(h:PK w g es c)(k:Nat)(v:Value)(hv:gQ w k v):PK (iO w g (es.push ⟨ag k,v,c⟩) (c+1)) g (es.push ⟨ag k,v,c⟩) (c+1):=by
 have hlt:=h.lt;have keep:∀(q:Nat) (t:TypeId) (cs:x_),aB w q t cs->aB (iO w g (es.push ⟨ag k,v,c⟩) (c+1)) q t cs:=by
  intro q t cs hq;have hne:g≠q:=by intro e;subst e;have h1:=h.1;unfold aB at hq;rw[hq]at h1;cases h1
  unfold aB at*;simp only[iO,Array.getElem?_setIfInBounds];rw[if_neg hne];exact hq
 refine⟨by simp[iO,hlt],λ e he=>?_⟩;rw[Array.toList_push]at he;rcases List.mem_append.1 he with he|he;obtain⟨k',h1,h2⟩:=h.2 e he;exact⟨k',h1,h2.keep keep _ _⟩;simp at he;subst he;exact⟨k,rfl,hv.keep keep _ _⟩
theorem yI(e:Bool)(k:Int)(w:t_):(Instr.checkKey e 10000 5 (ag k)).run prog w=.ok () w:=
 MapKept.run_checkKey underlying5 (by simp[MapKept.IsKey]) e 9999
theorem ahN(w:t_)(g:Nat)(es:Array MapEntry)(c:Nat)(hg:w.heap[g]?=some (.map es c))(k:Int)(v:Value)(hf:Instr.findNow (.int .u8) (ag k) es.toList 0=some none):
  (Instr.mapUpdate 154 (.map (some g)) (ag k) v).run prog w=.ok () (iO w g (es.push ⟨ag k,v,c⟩) (c+1)):=by unfold Instr.mapUpdate;simp only[Sem.run_bind,run_underlying underlying154,Result.andThen_ok,MapKept.run_getObj_map hg,yI,Instr.findKey,run_underlying underlying5,hf,Sem.run_pure,MapKept.run_setObj_map _ hg];rfl
def Je(fv:Value)(w:t_)(e:Ending)(w':t_):Prop:=∃q,e=.returned (.agg #[af 2,ag 2,ag 2,.bool false,.bool false,(.func (.func 167) #[] #[aw q])])/\aB w' q 206 #[fv]/\ai w w'
def zd6.KaP(h:p:=by
 go_enter func112,ntmps112;go_wp2;refine bodyPost_ret (v:=.agg #[af 2,ag 2,ag 2,.bool false,.bool false,(.func (.func 167) #[] #[aw w.heap.size])]) ?_ rfl ?_
 ·simp[results,results112,go_sem];try rfl
 exact⟨w.heap.size,rfl,(aB.new w 206 #[.func F0 #[] C0]).alloc _,by go_grown⟩):=h
theorem nJ(F0:Fn)(C0:x_)(w:t_):ar 112 #[.func F0 #[] C0] w (Je (.func F0 #[] C0) w):=by open zd6 in exact Zcs
def PL(fv:Value)(w:t_)(e:Ending)(w':t_):Prop:=∃q,e=.returned (.agg #[af 2,ag 0,ag 1,.bool true,.bool false,(.func (.func 169) #[] #[aw q])])/\aB w' q 208 #[fv]/\ai w w'
def zd7.KaP(h:p:=by
 go_enter func119,ntmps119;go_wp2;refine bodyPost_ret (v:=.agg #[af 2,ag 0,ag 1,.bool true,.bool false,(.func (.func 169) #[] #[aw w.heap.size])]) ?_ rfl ?_
 ·simp[results,results119,go_sem];try rfl
 exact⟨w.heap.size,rfl,(aB.new w 208 #[.func F0 #[] C0]).alloc _,by go_grown⟩):=h
theorem mn(F0:Fn)(C0:x_)(w:t_):ar 119 #[.func F0 #[] C0] w (PL (.func F0 #[] C0) w):=by open zd7 in exact Zcs
def PM(fv:Bool)(w:t_)(e:Ending)(w':t_):Prop:=∃q,e=.returned (.agg #[af 2,ag 1,ag 1,.bool false,.bool true,(.func (.func 170) #[] #[aw q])])/\aB w' q 4 #[.bool fv]/\ai w w'
def zd8.KaP(h:p:=by
 go_enter func126,ntmps126;go_wp2;refine bodyPost_ret (v:=.agg #[af 2,ag 1,ag 1,.bool false,.bool true,(.func (.func 170) #[] #[aw w.heap.size])]) ?_ rfl ?_
 ·simp[results,results126,go_sem];try rfl
 exact Zh1):=h
theorem Gl(fv:Bool)(w:t_):ar 126 #[.bool fv] w (PM fv w):=by open zd8 in exact Zcs
def PN(fv:Bool)(w:t_)(e:Ending)(w':t_):Prop:=∃q,e=.returned (.agg #[af 1,ag 0,ag 1,.bool false,.bool true,(.func (.func 172) #[] #[aw q])])/\aB w' q 4 #[.bool fv]/\ai w w'
def zd9.KaP(h:p:=by
 go_enter func127,ntmps127;go_wp2;refine bodyPost_ret (v:=.agg #[af 1,ag 0,ag 1,.bool false,.bool true,(.func (.func 172) #[] #[aw w.heap.size])]) ?_ rfl ?_
 ·simp[results,results127,go_sem];try rfl
 exact Zh1):=h
theorem Gm(fv:Bool)(w:t_):ar 127 #[.bool fv] w (PN fv w):=by open zd9 in exact Zcs
def acx(F0:Fn)(C0:x_)(w:t_)(e:Ending)(w':t_):Prop:=∃q q2,e=.returned (.agg #[af 2,ag 2,ag 2,.bool false,.bool false,(.func (.func 167) #[] #[aw q])])/\aB w' q 206 #[.func (.func 168) #[] #[aw q2]]/\aB w' q2 206 #[.func F0 #[] C0]/\ai w w'
def zea.KaP(h:p:=by
 go_enter func116,ntmps116;go_wp2_with fail;have h2:=(aB.new w 206 #[.func F0 #[] C0]).alloc (.cells #[af 0,ag 0,ag 0,.bool false,.bool false,.nilFunc] 100);have hR:=aB.new (w.alloc (.cells #[.func F0 #[] C0] 206)) 100 #[af 0,ag 0,ag 0,.bool false,.bool false,.nilFunc];rw[World.size_alloc]at hR;have hB:=aj.then (ah w (.cells #[.func F0 #[] C0] 206)) (ah _ (.cells #[af 0,ag 0,ag 0,.bool false,.bool false,.nilFunc] 100));generalize (w.alloc (.cells #[.func F0 #[] C0] 206)).alloc (.cells #[af 0,ag 0,ag 0,.bool false,.bool false,.nilFunc] 100)=W at*;have bJ:w.heap.size<=w.heap.size+1:=WC;have hne:w.heap.size≠w.heap.size+1:=WC;generalize w.heap.size+1=g at*;refine(nJ _ _ _).mono ?_;rintro e w1 ⟨q,rfl,hq,b1⟩;replace h2:=h2.later b1;replace hR:=hR.later b1;replace hB:=aj.then hB b1;clear b1;have Vx:q≠g:=λ e=>by subst e;unfold aB at hq hR;rw[hq]at hR;injection hR with hR;injection hR with _ hR _;revert hR;decide
 have cR:∀i,i<6->∃u,w1.cell? ⟨g,i,none⟩=some u:=λ i hi=>⟨_,(hR.cell i).trans (Array.getElem?_eq_getElem Tay)⟩;have x0:=hR.cell 0;have x1:=hR.cell 1;have z2:=hR.cell 2;have z3:=hR.cell 3;have z4:=hR.cell 4;have z5:=hR.cell 5;simp only[Uaa]at x0 x1 z2 z3 z4 z5;have fR:=hR.frozen;clear cR hR;go_wp2_with fail;refine bodyPost_ret (v:=.agg #[af 2,ag 2,ag 2,.bool false,.bool false,(.func (.func 167) #[] #[aw q])]) ?_ rfl ?_
 ·simp[results,results116,go_sem,x0,x1,z2,z3,z4,z5]
 exact⟨q,w.heap.size,rfl,(((((hq.far (p:=⟨g,0,none⟩) Vx _).far (p:=⟨g,1,none⟩) Vx _).far (p:=⟨g,2,none⟩) Vx _).far (p:=⟨g,3,none⟩) Vx _).far (p:=⟨g,4,none⟩) Vx _).far (p:=⟨g,5,none⟩) Vx _,(((((h2.far (p:=⟨g,0,none⟩) hne _).far (p:=⟨g,1,none⟩) hne _).far (p:=⟨g,2,none⟩) hne _).far (p:=⟨g,3,none⟩) hne _).far (p:=⟨g,4,none⟩) hne _).far (p:=⟨g,5,none⟩) hne _,(((((hB.setCell bJ _).setCell bJ _).setCell bJ _).setCell bJ _).setCell bJ _).setCell bJ _⟩):=h
theorem TB(F0:Fn)(C0:x_)(w:t_):ar 116 #[.func F0 #[] C0] w (acx F0 C0 w):=by open zea in exact Zcs
def iP(k:Nat)(w:t_)(e:Ending)(w':t_):Prop:=∃v,e=.returned v/\gQ w' k v/\ai w w'
theorem atM(w:t_):ar 112 #[(.func (.func 113) #[] #[])] w (iP 5 w):=
 (nJ _ _ w).mono λ e w' ⟨q,he,hq,hb⟩=>⟨_,he,⟨q,rfl,hq⟩,hb⟩
theorem atN(w:t_):ar 112 #[(.func (.func 114) #[] #[])] w (iP 6 w):=
 (nJ _ _ w).mono λ e w' ⟨q,he,hq,hb⟩=>⟨_,he,⟨q,rfl,hq⟩,hb⟩
theorem atO(w:t_):ar 112 #[(.func (.func 115) #[] #[])] w (iP 7 w):=
 (nJ _ _ w).mono λ e w' ⟨q,he,hq,hb⟩=>⟨_,he,⟨q,rfl,hq⟩,hb⟩
theorem atP(w:t_):ar 116 #[(.func (.func 117) #[] #[])] w (iP 8 w):=
 (TB _ _ w).mono λ e w' ⟨q,q2,he,hq,lx,hb⟩=>⟨_,he,⟨q,q2,rfl,hq,lx⟩,hb⟩
theorem atQ(w:t_):ar 116 #[(.func (.func 118) #[] #[])] w (iP 9 w):=
 (TB _ _ w).mono λ e w' ⟨q,q2,he,hq,lx,hb⟩=>⟨_,he,⟨q,q2,rfl,hq,lx⟩,hb⟩
theorem amD(w:t_):ar 119 #[(.func (.func 120) #[] #[])] w (iP 10 w):=
 (mn _ _ w).mono λ e w' ⟨q,he,hq,hb⟩=>⟨_,he,⟨q,rfl,hq⟩,hb⟩
theorem amE(w:t_):ar 119 #[(.func (.func 121) #[] #[])] w (iP 11 w):=
 (mn _ _ w).mono λ e w' ⟨q,he,hq,hb⟩=>⟨_,he,⟨q,rfl,hq⟩,hb⟩
theorem amF(w:t_):ar 119 #[(.func (.func 122) #[] #[])] w (iP 12 w):=
 (mn _ _ w).mono λ e w' ⟨q,he,hq,hb⟩=>⟨_,he,⟨q,rfl,hq⟩,hb⟩
theorem amG(w:t_):ar 119 #[(.func (.func 123) #[] #[])] w (iP 13 w):=
 (mn _ _ w).mono λ e w' ⟨q,he,hq,hb⟩=>⟨_,he,⟨q,rfl,hq⟩,hb⟩
theorem amH(w:t_):ar 119 #[(.func (.func 124) #[] #[])] w (iP 14 w):=
 (mn _ _ w).mono λ e w' ⟨q,he,hq,hb⟩=>⟨_,he,⟨q,rfl,hq⟩,hb⟩
theorem amI(w:t_):ar 119 #[(.func (.func 125) #[] #[])] w (iP 15 w):=
 (mn _ _ w).mono λ e w' ⟨q,he,hq,hb⟩=>⟨_,he,⟨q,rfl,hq⟩,hb⟩
theorem amJ(w:t_):ar 126 #[.bool false] w (iP 16 w):=
 (Gl _ w).mono λ e w' ⟨q,he,hq,hb⟩=>⟨_,he,⟨q,rfl,hq⟩,hb⟩
theorem amK(w:t_):ar 126 #[.bool true] w (iP 17 w):=
 (Gl _ w).mono λ e w' ⟨q,he,hq,hb⟩=>⟨_,he,⟨q,rfl,hq⟩,hb⟩
theorem amL(w:t_):ar 127 #[.bool true] w (iP 18 w):=
 (Gm _ w).mono λ e w' ⟨q,he,hq,hb⟩=>⟨_,he,⟨q,rfl,hq⟩,hb⟩
theorem amM(w:t_):ar 127 #[.bool false] w (iP 19 w):=
 (Gm _ w).mono λ e w' ⟨q,he,hq,hb⟩=>⟨_,he,⟨q,rfl,hq⟩,hb⟩
theorem PK.at_{w:t_}{c:Nat}(h:PK w g es c){k:Nat}{v:Value}(hm:(⟨ag (k:Int),v,i⟩:MapEntry)∈es.toList):gQ w k v:=by obtain⟨k',TC,ho⟩:=h.2 _ hm;injection TC with _ h3;have:k=k':=Int.ofNat.inj h3;subst this;exact ho
def acy(w:t_)(e:Ending)(w':t_):Prop:=∃g es,e=.returned (.map (some g))/\PK w' g es 18/\(∀k:Nat,3<=k->k<=20->∃i v,Instr.findNow (.int .u8) (ag k) es.toList 0=some (some (i,v))/\gQ w' k v)/\(∀k:Int,k<3\/20<k->Instr.findNow (.int .u8) (ag k) es.toList 0=some none)/\ai w w'
theorem rT{w:t_}{n k:Nat}{v:Value}(hT:PK w g es n)(hB:ai w0 w)(hg:w0.heap.size<=g)(hv:gQ w' k v)(b:ai w w')(hf:Instr.findNow (.int .u8) (ag k) es.toList 0=some none):
  (Instr.mapUpdate 154 (.map (some g)) (ag (k:Int)) v).run prog w'=.ok () (iO w' g (es.push ⟨ag (k:Int),v,n⟩) (n+1))/\PK (iO w' g (es.push ⟨ag (k:Int),v,n⟩) (n+1)) g (es.push ⟨ag (k:Int),v,n⟩) (n+1)/\ai w0 (iO w' g (es.push ⟨ag (k:Int),v,n⟩) (n+1)):=
 have hT:=hT.later b
 ⟨ahN w' g es n hT.1 k v hf,hT.push k v hv,Jd (aj.then hB b) g hg _ _⟩
theorem Cp(w:t_):ar 75 #[] w (acy w):=by
 have hmm:= @run_makeMap prog;have bJ:w.heap.size<=w.heap.size:=aE;have hT:PK (w.alloc (.map #[] 0)) w.heap.size #[] 0:=⟨heap_alloc_new w _,λ e he=>by simp at he⟩;obtain⟨i3,hT,hB⟩:=rT (k:=3) (v:=.agg #[af 1,ag 2,ag 2,.bool false,.bool false,(.func (.func 108) #[] #[])]) hT (ah w _) bJ rfl cX rfl;obtain⟨i4,hT,hB⟩:=rT (k:=4) (v:=.agg #[af 1,ag 1,ag 1,.bool false,.bool false,(.func (.func 110) #[] #[])]) hT hB bJ rfl cX rfl;simp only[push_toArray,nil_append,cons_append,Nat.reduceAdd,Nat.zero_add,Int.cast_ofNat_Int]at i3 i4 hT hB;have HT:=aa hT;have HB:=aa hB;clear hT hB;go_enter func75,ntmps75;go_wp2_with fail;clear i3 i4 hmm;generalize iO (iO _ _ _ _) _ _ _=W at*;generalize ei:w.heap.size=g at HT bJ⊢;have hgb:w.heap.size<=g:=WC;clear bJ
 iterate 14
  first|refine(atM _).mono ?_|refine(atN _).mono ?_|refine(atO _).mono ?_|refine(atP _).mono ?_|refine(atQ _).mono ?_|refine(amD _).mono ?_|refine(amE _).mono ?_|refine(amF _).mono ?_|refine(amG _).mono ?_|refine(amH _).mono ?_|refine(amI _).mono ?_|refine(amJ _).mono ?_|refine(amK _).mono ?_|refine(amL _).mono ?_
  rintro e w' ⟨v,rfl,hv,b⟩;obtain⟨i,hT,hB⟩:=rT HT.ae HB.ae hgb hv b rfl;simp only[push_toArray,nil_append,cons_append,Nat.reduceAdd,Int.cast_ofNat_Int]at i hT hB;clear HT HB;have HT:=aa hT;have HB:=aa hB;clear hT hB b hv;go_wp2_with fail;clear i;generalize iO w' g _ _=W at*;clear w'
 refine(amM _).mono ?_;rintro e w' ⟨v,rfl,hv,b⟩;obtain⟨i,hT,hB⟩:=rT HT.ae HB.ae hgb hv b rfl;obtain⟨j,hT,hB⟩:=rT (k:=20) (v:=.agg #[af 1,ag 2,ag 2,.bool false,.bool false,(.func (.func 128) #[] #[])]) hT hB hgb rfl cX rfl;simp only[push_toArray,nil_append,cons_append,Nat.reduceAdd,Int.cast_ofNat_Int]at i j hT hB;clear HT HB;have HT:=aa hT;have HB:=aa hB;clear hT hB b hv;go_wp2_with fail;clear i j;generalize iO _ g _ _=W at*;go_ret;refine⟨g,_,rfl,HT.ae,?_,?_,HB.ae⟩
 ·intro k h1 h2;have hk:k=3\/k=4\/k=5\/k=6\/k=7\/k=8\/k=9\/k=10\/k=11\/k=12\/k=13\/k=14\/k=15\/k=16\/k=17\/k=18\/k=19\/k=20:=by omega
  rcases hk with rfl|rfl|rfl|rfl|rfl|rfl|rfl|rfl|rfl|rfl|rfl|rfl|rfl|rfl|rfl|rfl|rfl|rfl;all_goals exact⟨_,_,rfl,PK.at_ HT.ae (by simp;rfl)⟩
 intro k hk;have q:∀j:Int,3<=j->j<=20->(k==j)=false:=λ j h1 h2=>by rw[beq_eq_false_iff_ne];omega
 simp only[Instr.findNow,Instr.sameNow];simp[q 3,q 4,q 5,q 6,q 7,q 8,q 9,q 10,q 11,q 12,q 13,q 14,q 15,q 16,q 17,q 18,q 19,q 20]
def TD(P:Program)(l:List Oper)(R:t_->t_->Prop)(V:Nat->t_->Value->Prop)(U:Nat->t_->(Operand->Value)->Prop)(a0:Act)(w0:t_)(i:Nat)(o:Oper):Prop:=
 ∀ρ w,gD ρ->R w0 w->dW l V a0.eval ρ w o (tmpsOf o)->
  match o.guard with
  |none=>uj P o ρ w λ v w'=>R w w'/\V i w' v/\U i w' ρ
  |some _=>False
def Jf(P:Program)(l:List Oper)(R:t_->t_->Prop)(V:Nat->t_->Value->Prop)(U:Nat->t_->(Operand->Value)->Prop)(a0:Act)(w0:t_):List Oper->Nat->Prop
 |[],_=>True
 |o::rest,i=>TD P l R V U a0 w0 i o/\Jf P l R V U a0 w0 rest (i+1)
variable{U:Nat->t_->(Operand->Value)->Prop}
theorem Gn:∀{l:List Oper}{k:Nat},Jf P L R V U a0 w0 l k->∀i o,l[i]?=some o->TD P L R V U a0 w0 (k+i) o
 |[],_,_,i,o,h=>by simp at h
 |o'::rest,k,hs,0,o,h=>by simp at h;subst h;exact hs.1
 |o'::rest,k,hs,i+1,o,h=>by have:=Gn hs.2 i o Taj;rwa [show k+(i+1)=k+1+i by omega]
def Zr(l:List Oper)(R:t_->t_->Prop)(U:Nat->t_->(Operand->Value)->Prop):Prop:=
 ∀i o w w' ρ ρ',l[i]?=some o->U i w ρ->R w w'->(∀j∈eL o,∀oj d,l[j]?=some oj->oj.dst=some d->ρ' (.tmp d)=ρ (.tmp d))->U i w' ρ'
structure Inv2 (l:List Oper) (V:Nat->t_->Value->Prop) (U:Nat->t_->(Operand->Value)->Prop) (R:t_->t_->Prop) (a0:Act) (w0:t_) (m:Nat) (listed:Array Bool) (a:Act) (w:t_):Prop where
 base:Inv l V R a0 w0 m listed a w
 post:∀i o,l[i]?=some o->listed.getD i false=true->U i w a.eval
section
variable{P:Program}{l zs:List Oper}{Q:y_}{R:t_->t_->Prop}{V:Nat->t_->Value->Prop}{U:Nat->t_->(Operand->Value)->Prop}{a0:Act}{w0:t_}
theorem Inv2.step(bc:dC l a0.tmps.size l 0=true)(hV:∀i w w' v,V i w v->R w w'->V i w' v)(hU:Zr l R U)(hrefl:∀w,R w w)(hT:∀a b c,R a b->R b c->R a c){m:Nat}{listed:Array Bool}{a:Act}{w w':t_}{v:Value}(I:Inv2 l V U R a0 w0 m listed a w){i:Nat}{o:Oper}(ho:l[i]?=some o)(zQ:i<m)
  (hun:listed.getD i false=false) (hall:∀j∈eL o,listed.getD j false=true) (hr:R w w') (hv:V i w' v) (hu:U i w' a.eval):Inv2 l V U R a0 w0 m (listed.setIfInBounds i true) (a.put o.dst v) w':=by
 refine⟨I.base.step bc hV hT ho zQ hun hall hr hv,?_⟩;have qQ:i<listed.size:=by rw[I.base.len];exact zQ
 have jW:=cF bc i o ho;rw[Nat.zero_add]at jW;have keep:∀j d oj,l[j]?=some oj->oj.dst=some d->j≠i->(a.put o.dst v).eval (.tmp d)=a.eval (.tmp d):=by intro j d oj hj hd Pj;refine Act.eval_put λ d' e e'=>?_;injection e' with e';subst e';have rO:=cF bc j oj hj;simp only[mz,hd,Bool.and_eq_true,Nat.zero_add,beq_iff_eq]at rO;simp only[mz,e,Bool.and_eq_true,beq_iff_eq]at jW;rw[rO.1.1.2.2]at jW;have:=jW.1.1.2.2;injection this with this;exact Pj this
 intro j oj hj hl;by_cases Pj:j=i
 ·subst Pj;rw[hj]at ho;injection ho with ho;subst ho;refine hU j oj w' w' a.eval _ hj hu (hrefl _) λ k hk ok d uk hd=>keep k d ok uk hd ?_
  intro e';subst e';have:=hall k hk;rw[hun]at this;cases this
 have hl':listed.getD j false=true:=by rw[eR _ _ _ qQ,if_neg Pj]at hl;exact hl
 refine hU j oj w w' a.eval _ hj (I.post j oj hj hl') hr λ k hk ok d uk hd=>keep k d ok uk hd ?_;intro e';subst e';have:=I.base.closed j oj hj hl' k hk;rw[hun]at this;cases this
def zf1.Kbu(h:p:=by
 rw[<-ha]at hK;replace hK:=hK λ i o hi=>I2.post i o hi (hall i (by rcases gR i l.length with h'|h';exact h';rw[getElem?_eq_none h']at hi;cases hi))
 exact Zbq):=h
def zb2.Kal(h:p:=by open zf1 in exact Zef):=h
theorem Gp{N:Nat}(bc:dC l N l 0=true)(hz:eD (l++zs) zs l.length=true)(hf:∀w,R w0 w->bw V (λ a w=>(∀i o,l[i]?=some o->U i w a.eval)->wpList P (l++zs).toArray Q zs a w) l 0 a0 w){listed:Array Bool}{a:Act}{w:t_}(I2:Inv2 l V U R a0 w0 (l++zs).length listed a w)
  (h0:bB l.length listed=0):wpAny P .any (l++zs).toArray Q zs.length listed a w:=by have I:=I2.base;open zb2 in exact ZaG
def zal.Kb(h:p:=by
 have hst:=Gn hs i oj wE;rw[Nat.zero_add]at hst;have YH:=Inv.reads bc I wE Cl fw (tmpsOf oj) (λ _ h=>h);have hstep:=hst a.eval w (nG a) I.r YH;have LR:∀v w',R w w'->V i w' v->U i w' a.eval->wpAny P .any (l++zs).toArray Q fuel (listed.setIfInBounds i true) (a.put oj.dst v) w':=by intro v w' hr hv hu;refine ih _ _ _ (I2.step bc hV hU hrefl Cj wE AJ Cl fw hr hv hu) ?_;have:=lW l.length listed i Tbj qQ Cl;omega
 unfold wpOp;rw[pG];show if Region.wanted oj (yielded (l++zs).toArray a.tmps)=true then _ else _
 cases hg:oj.guard with
 |none=>rw[if_pos (by simp[Region.wanted,hg])];simp only[hg]at hstep;exact .inl (jV hstep λ v w' h=>LR v w' h.1 h.2.1 h.2.2)
 |some g=>simp only[hg]at hstep):=h
theorem Jg{id:Nat}{ops:List Oper}(zs:List Oper)(l:List Oper)(jN:ops=l++zs)(R:t_->t_->Prop)(hrefl:∀w,R w w)(Cj:∀a b c,R a b->R b c->R a c)(oJ:∀w,R w w.drew)
  (V:Nat->t_->Value->Prop) (U:Nat->t_->(Operand->Value)->Prop) (hU:Zr l R U) (hV:∀Kx w w' v,V Kx w v->R w w'->V Kx w' v) (hm:P.follows .mixedOrders=true) (bc:dC l a0.tmps.size l 0=true) (hz:eD (l++zs) zs l.length=true)
  (hs:Jf P l R V U a0 w0 l 0) (hf:∀w,R w0 w->bw V (λ a w=>(∀Kx o,l[Kx]?=some o->U Kx w a.eval)->wpList P ops.toArray Q zs a w) l 0 a0 w):(Code.region id ops.toArray true).wp P Q a0 w0:=by
 subst jN;have main:∀(fuel:Nat) (listed:Array Bool) (a:Act) (w:t_),Inv2 l V U R a0 w0 (l++zs).length listed a w->fuel=bB l.length listed+zs.length->wpAny P .any (l++zs).toArray Q fuel listed a w:=by
  intro fuel
  induction fuel with
  |zero=>
    intro listed a w I2 hfu;have I:=I2.base;have h0:bB l.length listed=0:=WC;have hz0:zs.length=0:=WC;have:=Gp bc hz hf I2 h0;rwa [hz0]at this
  |succ fuel ih=>
    intro listed a w I2 hfu;have I:=I2.base;by_cases h0:bB l.length listed=0;have:=Gp bc hz hf I2 h0;exact Zf8
    open zal in exact Zad
 refine wp_region_any hm ?_;have h0:R w0 w0.drew:=oJ w0;have:=main (l++zs).toArray.size (Array.replicate (l++zs).toArray.size false) a0 w0.drew ⟨⟨h0,rfl,rfl,λ _ _=>rfl,(λ Kx o d _ h=>by rw[br]at h;cases h),(λ Kx o _ h=>by rw[br]at h;cases h),by simp,λ Kx _=>br _ _⟩,λ Kx o _ h=>by rw[br]at h;cases h⟩ (by
  have:bB l.length (Array.replicate (l++zs).toArray.size false)=l.length:=by unfold bB;rw[List.filter_eq_self.2 (λ Kx _=>by rw[br];rfl),length_range]
  rw[this];simp)
 exact this
end
def lB(op:Int):Bool:=decide (3<=op/\op<=20)
def cJ(a wa gi:Int)(al nu:Bool)(d:Value):x_:= #[af a,ag wa,ag gi,.bool al,.bool nu,d]
def pH:x_:= #[af 0,ag 0,ag 0,.bool false,.bool false,.nilFunc]
def zS(w:t_)(op:Int)(o:x_):Prop:=(lB op=true/\gQ w op.toNat (.agg o))\/(lB op=false/\o=pH)
theorem gQ.shape{w:t_}{k:Nat}{v:Value}(h:gQ w k v):∃a wa gi al nu F C,(a=1\/a=2)/\v=.agg (cJ a wa gi al nu (.func F #[] C)):=by
 unfold gQ at h;split at h
 all_goals first
  |exact⟨_,_,_,_,_,_,_,.inl rfl,h⟩
  |(obtain⟨q,h1,_⟩:=h;exact⟨_,_,_,_,_,_,_,.inl rfl,h1⟩)
  |(obtain⟨q,h1,_⟩:=h;exact⟨_,_,_,_,_,_,_,.inr rfl,h1⟩)
  |(obtain⟨q,q2,h1,_⟩:=h;exact⟨_,_,_,_,_,_,_,.inr rfl,h1⟩)
  |exact h.elim
theorem zS.shape{w:t_}{op:Int}{o:x_}(h:zS w op o):∃a wa gi al nu d,o=cJ a wa gi al nu d/\(lB op=true->a≠0)/\(d=.nilFunc\/∃F C,d=.func F #[] C):=by
 rcases h with⟨h1,h2⟩|⟨h1,rfl⟩
 obtain⟨a,wa,gi,al,nu,F,C,ha,e⟩:=h2.shape;injection e with e;exact⟨a,wa,gi,al,nu,_,e,λ _=>by omega,.inr ⟨F,C,rfl⟩⟩;exact⟨0,0,0,false,false,.nilFunc,rfl,(λ h=>by rw[h1]at h;cases h),.inl rfl⟩
theorem gQ.LY{w:t_}(hk:∀(q:Nat) (t:TypeId) (cs:x_),t≠100->aB w q t cs->aB w' q t cs):∀(k:Nat) (v:Value),gQ w k v->gQ w' k v:=by
 intro k v h;unfold gQ at*;split at h
 all_goals first
  |exact h
  |(obtain⟨q,q2,h1,h2,h3⟩:=h;exact⟨q,q2,h1,hk _ _ _ Tab h2,hk _ _ _ Tab h3⟩)
  |(obtain⟨q,h1,h2⟩:=h;exact⟨q,h1,hk _ _ _ Tab h2⟩)
theorem zS.LY{w:t_}{op:Int}{o:x_}(hk:∀(q:Nat) (t:TypeId) (cs:x_),t≠100->aB w q t cs->aB w' q t cs)(h:zS w op o):zS w' op o:=by
 rcases h with⟨h1,h2⟩|h1
 exact .inl ⟨h1,h2.LY hk⟩;exact .inr h1
structure FR (op:Int) (B:Nat) (a b:t_):Prop where
 below:Below B a b
 blk:∀(g:Nat) (t:TypeId) (cs:x_),aB a g t cs->aB b g t cs\/(t=100/\B<=g/\∃o:x_,zS b op o/\aB b g t o)
 map:∀(g:Nat) (es:Array MapEntry) (c:Nat),a.heap[g]?=some (Obj.map es c)->b.heap[g]?=some (Obj.map es c)
theorem FR.refl(op:Int)(B:Nat)(w:t_):FR op B w w:=⟨cX,λ _ _ _ h=>.inl h,λ _ _ _ h=>h⟩
variable{cs:x_}
theorem FR.other{op:Int}(h:FR op B a b){t:TypeId}(hb:aB a g t cs)(ht:t≠100):aB b g t cs:=by rcases h.blk g t cs hb with h1|⟨h1,_⟩;exact h1;exact absurd h1 ht
theorem gQ.fr{op:Int}(h:FR op B a b)(k:Nat)(v:Value)(hk:gQ a k v):gQ b k v:=hk.LY (λ q t cs ht hq=>h.other hq ht) _ _
variable{op':Int}
theorem zS.fr{op:Int}{o:x_}(h:FR op B a b)(ho:zS a op' o):zS b op' o:=ho.LY λ q t cs ht hq=>h.other hq ht
theorem FR.trans{op:Int}{c:t_}(h:FR op B a b)(k:FR op B b c):FR op B a c:=by refine⟨h.below.trans k.below,λ g t cs hb=>?_,λ g es c hb=>k.map _ _ _ (h.map _ _ _ hb)⟩;rcases h.blk g t cs hb with h1|⟨h1,h2,o,h3,h4⟩;exact k.blk g t cs h1;rcases k.blk g t o h4 with h6|h6;exact .inr ⟨h1,h2,o,h3.fr k,h6⟩;exact .inr h6
theorem FR.later{op:Int}(h:ai a b)(hB:B<=a.heap.size):FR op B a b:=
 ⟨h.mono hB,λ g t cs hb=>.inl (hb.later h),λ g es c hb=>by rw[h.block g ?_];exact hb;rcases gR g a.heap.size with h'|h';exact h';rw[Array.getElem?_eq_none h']at hb;cases hb⟩
theorem zS.later{op:Int}{o:x_}(ho:zS a op o)(h:ai a b):zS b op o:=ho.fr (op:=0) (FR.later h aE)
def rU(op:Int):Int:=if op=3\/op=4\/18<=op then 1 else 2
variable{wa gi:Int}{al nu:Bool}{d:Value}
theorem gQ.args{w:t_}{k:Nat}{a:Int}(h:gQ w k (.agg (cJ a wa gi al nu d))):a=rU k:=by
 unfold gQ at h;split at h
 all_goals first
  |exact h.elim
  |(simp[fo,cJ]at h;simp[rU];omega)
  |(obtain⟨q,q2,h1,_⟩:=h;simp[fo,cJ]at h1;simp[rU];omega)
  |(obtain⟨q,h1,_⟩:=h;simp[fo,cJ]at h1;simp[rU];omega)
theorem zS.args{w:t_}{op a:Int}(h:zS w op (cJ a wa gi al nu d))(ho:lB op=true):a=rU op:=by
 rcases h with⟨_,h2⟩|⟨h1,_⟩
 ·have h3:3<=op/\op<=20:=by simpa [lB] using ho
  have:=h2.args;rwa [show((op.toNat:Nat):Int)=op by omega]at this
 rw[ho]at h1;cases h1
def wO(w:t_)(g:Nat)(a wa gi:Int)(al nu:Bool)(d:Value):t_:=(((((w.setCell ⟨g,0,none⟩ (af a)).setCell ⟨g,1,none⟩ (ag wa)).setCell ⟨g,2,none⟩ (ag gi)).setCell ⟨g,3,none⟩ (.bool al)).setCell ⟨g,4,none⟩ (.bool nu)).setCell ⟨g,5,none⟩ d
variable{q:Nat}
theorem Gq{w:t_}{t:TypeId}(h:aB w q t cs)(hg:q≠g)(a wa gi:Int)(al nu:Bool)(d:Value):aB (wO w g a wa gi al nu d) q t cs:=
 (((((h.far (p:=⟨g,0,none⟩) hg _).far (p:=⟨g,1,none⟩) hg _).far (p:=⟨g,2,none⟩) hg _).far (p:=⟨g,3,none⟩) hg _).far (p:=⟨g,4,none⟩) hg _).far (p:=⟨g,5,none⟩) hg _
theorem Cq{w:t_}{t:TypeId}(h:aB w g t cs)(hs:cs.size=6)(a wa gi:Int)(al nu:Bool)(d:Value):aB (wO w g a wa gi al nu d) g t (cJ a wa gi al nu d):=by
 have h1:=(((((h.aW 0 (af a)).aW 1 (ag wa)).aW 2 (ag gi)).aW 3 (.bool al)).aW 4 (.bool nu)).aW 5 d;have e:(((((cs.setIfInBounds 0 (af a)).setIfInBounds 1 (ag wa)).setIfInBounds 2 (ag gi)).setIfInBounds 3 (.bool al)).setIfInBounds 4 (.bool nu)).setIfInBounds 5 d=cJ a wa gi al nu d:=by
  clear h1 h;obtain⟨l⟩:=cs
  match l,hs with
  |[c0,c1,c2,c3,c4,c5],_=>simp[cJ]
 rw[e]at h1;exact h1
theorem LZ{w:t_}(h:Below B w0 w)(hg:B<=g)(a wa gi:Int)(al nu:Bool)(d:Value):Below B w0 (wO w g a wa gi al nu d):=
 (((((h.setCell (p:=⟨g,0,none⟩) hg _).setCell (p:=⟨g,1,none⟩) hg _).setCell (p:=⟨g,2,none⟩) hg _).setCell (p:=⟨g,3,none⟩) hg _).setCell (p:=⟨g,4,none⟩) hg _).setCell (p:=⟨g,5,none⟩) hg _
theorem dR{op:Int}{w:t_}(h:aB w g 100 cs)(hs:cs.size=6)(hg:B<=g){a:Int}(ho:zS w op (cJ a wa gi al nu d)):
  FR op B w (wO w g a wa gi al nu d)/\zS (wO w g a wa gi al nu d) op (cJ a wa gi al nu d):=by
 have hne:∀(q:Nat) (t:TypeId) (cs':x_),t≠100->aB w q t cs'->q≠g:=by intro q t cs' ht hq e;subst e;unfold aB at h hq;rw[h]at hq;injection hq with hq;injection hq with _ hq _;exact ht hq.symm
 have ho2:zS (wO w g a wa gi al nu d) op (cJ a wa gi al nu d):=ho.LY λ q t cs' ht hq=>Gq hq (hne q t cs' ht hq) _ _ _ _ _ _;refine⟨⟨LZ cX hg _ _ _ _ _ _,λ q t cs' hq=>?_,λ q es c hq=>?_⟩,ho2⟩
 ·by_cases e:q=g
  ·subst e;have ht:t=100:=by unfold aB at h hq;rw[h]at hq;injection hq with hq;injection hq with _ hq _;exact hq.symm
   subst ht;exact .inr ⟨rfl,hg,_,ho2,Cq h hs _ _ _ _ _ _⟩
  exact .inl (Gq hq e _ _ _ _ _ _)
 have e:q≠g:=λ e=>by subst e;unfold aB at h;rw[h]at hq;cases hq
 have k:=λ(u:t_) (i:Nat) (v:Value)=>Below.heap_setCell u ⟨g,i,none⟩ v q e;unfold wO;rw[k,k,k,k,k,k];exact hq
theorem Zs(w:t_)(g:Nat)(es:Array MapEntry)(c:Nat)(hg:w.heap[g]?=some (.map es c))(k:Int)(i:Nat)(v:Value)(hf:Instr.findNow (.int .u8) (ag k) es.toList 0=some (some (i,v))):
  (Instr.lookup 154 (.map (some g)) (ag k) true).run prog w=.ok (.tuple #[v,.bool true]) w:=by unfold Instr.lookup;simp only[Sem.run_bind,run_underlying underlying154,Result.andThen_ok,MapKept.run_getObj_map hg,yI,Instr.findKey,run_underlying underlying5,hf,Sem.run_pure];rfl
theorem acz(w:t_):(zeroValue 100).run prog w=.ok (.agg pH) w:=by exact Zhr
theorem acA(w:t_)(g:Nat)(es:Array MapEntry)(c:Nat)(hg:w.heap[g]?=some (.map es c))(k:Int)(hf:Instr.findNow (.int .u8) (ag k) es.toList 0=some none):
  (Instr.lookup 154 (.map (some g)) (ag k) true).run prog w=.ok (.tuple #[.agg pH,.bool false]) w:=by unfold Instr.lookup;simp only[Sem.run_bind,run_underlying underlying154,Result.andThen_ok,MapKept.run_getObj_map hg,yI,Instr.findKey,run_underlying underlying5,hf,Sem.run_pure,acz];rfl
def Found(w:t_)(op:Int)(v:Value):Prop:=∃(g:Nat) (es:Array MapEntry),v=.map (some g)/\w.heap[g]?=some (.map es 18)/\
 ((lB op=true/\∃i o,Instr.findNow (.int .u8) (ag op) es.toList 0=some (some (i,.agg o))/\gQ w op.toNat (.agg o))\/(lB op=false/\Instr.findNow (.int .u8) (ag op) es.toList 0=some none))
theorem Found.fr{op:Int}{v:Value}(h:FR op' B a b)(ho:Found a op v):Found b op v:=by
 obtain⟨g,es,h1,h2,h3⟩:=ho;refine⟨g,es,h1,h.map _ _ _ h2,?_⟩;rcases h3 with⟨h4,i,o,h5,h6⟩|h3
 exact .inl ⟨h4,i,o,h5,gQ.fr h _ _ h6⟩;exact .inr h3
theorem Vy(op:Int)(w:t_):ar 75 #[] w λ e w'=>∃v,e=.returned v/\Found w' op v/\ai w w':=by
 refine(Cp w).mono ?_;rintro e w' ⟨g,es,he,ht,LO,hout,hb⟩;refine⟨_,he,⟨g,es,rfl,ht.1,?_⟩,hb⟩;cases ho:lB op;refine .inr ⟨rfl,hout op ?_⟩;simp[lB]at ho;omega;have h2:3<=op/\op<=20:=by simpa [lB] using ho
 obtain⟨i,v,h3,h4⟩:=LO op.toNat WC WC;have e1:((op.toNat:Nat):Int)=op:=WC;rw[e1]at h3;obtain⟨a,wa,gi,al,nu,F,C,_,rfl⟩:=h4.shape;exact .inl ⟨rfl,i,_,h3,h4⟩
theorem PO(k:Nat)(R:t_->t_->Prop)(hrefl:∀w,R w w)(Cj:∀a b c,R a b->R b c->R a c)(oJ:∀w,R w w.drew)
  (V:Nat->t_->Value->Prop) (U:Nat->t_->(Operand->Value)->Prop) (hU:Zr (ops.take k) R U) (hV:∀i w w' v,V i w v->R w w'->V i w' v) (hm:P.follows .mixedOrders=true)
  (bc:dC (ops.take k) a0.tmps.size (ops.take k) 0=true) (hz:eD ops (ops.drop k) (ops.take k).length=true)
  (hs:Jf P (ops.take k) R V U a0 w0 (ops.take k) 0) (hf:∀w,R w0 w->bw V (λ a w=>(∀i o,(ops.take k)[i]?=some o->U i w a.eval)->wpList P ops.toArray Q (ops.drop k) a w) (ops.take k) 0 a0 w):(Code.region id ops.toArray true).wp P Q a0 w0:=
 Jg (ops.drop k) (ops.take k) (take_append_drop k ops).symm R hrefl Cj oJ V U hU hV hm bc TaN hs hf
def TE(B gx:Nat)(op:Int):Nat->t_->Value->Prop
 |0=>λ w v=>Found w op v
 |1=>λ _ v=>v=aw gx
 |2=>λ _ v=>v=ag op
 |3=>λ w v=>∃o,v=.tuple #[.agg o,.bool (lB op)]/\zS w op o
 |4=>λ w v=>∃o,v=.tuple #[.agg o,.bool (lB op)]/\zS w op o
 |5=>λ w v=>∃o,v=.agg o/\zS w op o
 |6=>λ _ v=>v=.bool (lB op)
 |7=>λ w v=>∃g,v=aw g/\B<=g/\∃cs,aB w g 100 cs/\cs.size=6
 |_=>λ _ _=>True
theorem Ma(B gx:Nat)(op:Int)(i:Nat)(w w':t_)(v:Value)(h:TE B gx op i w v)(hr:FR op B w w'):TE B gx op i w' v:=by
 unfold TE at*;split at h;exact h.fr hr;exact h;exact h;exact Zhl;exact Zhl;exact Zhl;exact h
 ·obtain⟨g,h1,h2,cs,h3,h4⟩:=h;refine⟨g,h1,h2,?_⟩;rcases hr.blk _ _ _ h3 with h5|⟨_,_,o,h5,h6⟩
  ·exact⟨cs,h5,h4⟩
  obtain⟨a,wa,gi,al,nu,d,rfl,_⟩:=h5.shape;exact⟨_,h6,rfl⟩
 trivial
def Zt(B:Nat)(op:Int)(i:Nat)(w:t_)(ρ:Operand->Value):Prop:=
 i=8->∃g o,ρ (.tmp 4)=aw g/\B<=g/\zS w op o/\aB w g 100 o
variable{ρ':Operand->Value}
theorem Mb(B:Nat)(op:Int){w:t_}(i:Nat)(h:Zt B op i w ρ)(hr:FR op B w w')(he:i=8->ρ' (.tmp 4)=ρ (.tmp 4)):Zt B op i w' ρ':=by intro hi;obtain⟨g,o,h1,h2,h3,h4⟩:=h hi;rcases hr.blk _ _ _ h4 with h5|⟨_,_,o',h6,h7⟩;exact⟨g,o,(he hi).trans h1,h2,h3.fr hr,h5⟩;exact⟨g,o',(he hi).trans h1,h2,h6,h7⟩
def bO(x:Ex):Int:=
 if x.op=1/\x.n=0/\good x.v=true\/x.op=2/\x.n=0 then 0
 else if lB x.op=true/\(x.n:Int)=rU x.op/\(x.op≠20\/(1<=x.width/\x.width<=1099511627776))then 0
 else if (x.n:Int)=om x.op then 42 else 21
def Zu(x:Ex)(w:t_)(e:Ending)(w':t_):Prop:=∃o,e=.returned (.tuple #[.agg o,af (bO x)])/\zS w' x.op o/\ai w w'
def zcU.Kax(h:p:=by
 go_wp2_with fail;refine(fQ x.op _).mono ?_;rintro e w9 ⟨rfl,rfl⟩;by_cases hn:(x.n:Int)=om x.op
 ·have t1:((x.n:Int)==om x.op)=true:=by simpa using hn
  have rz:=aa (show bO x=42 by have Nm:=P1.ae;have Kx:=N2.ae;simp only[bO];rw[if_neg Tan,if_neg Tan,if_pos hn]);exact ZbL
 have t1:((x.n:Int)==om x.op)=false:=by simpa using hn
 have rz:=aa (show bO x=21 by have Nm:=P1.ae;have Kx:=N2.ae;simp only[bO];rw[if_neg Tan,if_neg Tan,if_neg hn]);exact ZbM):=h
def zcV.Kax(h:p:=by have rz:=aa (show bO x=0 by have Nm:=P1.ae;have Kx:=N2.ae;simp only[bO];rw[if_pos Tan]);exact Zcd):=h
theorem wP(x:Ex)(w:t_):ar 42 #[.agg (ay x)] w (Zu x w):=by
 go_enter func42,ntmps42;go_wp2_with fail;have k1:=(aB.new w 46 (ay x)).alloc (.cells #[af 0,ag 0,ag 0,.bool false,.bool false,.nilFunc] 100);have KK:=aB.new (w.alloc (.cells (ay x) 46)) 100 #[af 0,ag 0,ag 0,.bool false,.bool false,.nilFunc];rw[World.size_alloc]at KK;have hB:=aj.then (ah w (.cells (ay x) 46)) (ah _ (.cells #[af 0,ag 0,ag 0,.bool false,.bool false,.nilFunc] 100));have hgx:w.heap.size <((w.alloc (.cells (ay x) 46)).alloc (.cells #[af 0,ag 0,ag 0,.bool false,.bool false,.nilFunc] 100)).heap.size:=Tac;generalize (w.alloc (.cells (ay x) 46)).alloc (.cells #[af 0,ag 0,ag 0,.bool false,.bool false,.nilFunc] 100)=W at*;have bJ:w.heap.size<=w.heap.size+1:=WC;generalize w.heap.size+1=g at*;refine PO 9 (FR x.op W.heap.size) (FR.refl _ _) (λ _ _ _=>FR.trans) (λ u=>?_) (TE W.heap.size w.heap.size x.op) (Zt W.heap.size x.op) ?_ (λ i u u' v h hr=>Ma _ _ _ _ _ _ _ h hr) Taa Taa Taa ?_ ?_;exact⟨cX.drew,λ Lw t cs h=>.inl h,λ Lw es c h=>h⟩
 ·intro i o u u' ρ ρ' hi hu hr hk;refine Mb _ _ i hu hr λ e=>?_
  subst e;simp only[take_succ_cons,take_zero]at hi hk;refine hk 7 ?_ _ 4 rfl rfl;injection hi with hi;subst hi;decide
 ·simp only[take_succ_cons,take_zero];refine⟨?_,?_,?_,?_,?_,?_,?_,?_,?_,trivial⟩
  ·intro ρ W4 hc hL hr;have e1:=hc.func 75;refine bu (f:=75) (args:= #[]) (w':=W4) (by simp[go_sem,e1]) ?_;refine(Vy x.op W4).mono ?_;rintro e w2 ⟨v,he,hf,hb⟩;exact⟨v,he,FR.later hb hL.below.size,hf,λ h=>by cases h⟩
  intro ρ W4 hc hL hr;have h1:_=_:=hr.1;exact Zhw;intro ρ W4 hc hL hr;have h1:_=_:=hr.1;have c0:=(k1.below hL.below hgx).cell 0;simp only[getElem?_toArray,getElem?_cons_zero]at c0;exact aq (w':=W4) Tbi ⟨FR.refl _ _ _,rfl,λ h=>by cases h⟩
  ·intro ρ W4 hc hL hr;obtain⟨Lw,es,h1,hg,Vz⟩:Found W4 x.op (ρ (.tmp 8)):=hr.1;have h2:_=_:=hr.2.1;rcases Vz with⟨ho,i,o,hfi,hoi⟩|⟨ho,hfi⟩
   ·have hl:=Zs _ _ _ _ hg x.op i _ hfi;exact aq (v:=.tuple #[.agg o,.bool true]) (w':=W4) Tbd ⟨FR.refl _ _ _,⟨o,by rw[ho],.inl ⟨ho,hoi⟩⟩,λ h=>by cases h⟩
   have hl:=acA _ _ _ _ hg x.op hfi;exact aq (v:=.tuple #[.agg pH,.bool false]) (w':=W4) Tbd ⟨FR.refl _ _ _,⟨pH,by rw[ho],.inr ⟨ho,rfl⟩⟩,λ h=>by cases h⟩
  intro ρ W4 hc hL hr;exact jz (.inl rfl) rfl ⟨FR.refl _ _ _,hr.1,λ h=>by cases h⟩;intro ρ W4 hc hL hr;obtain⟨o,h1,h2⟩:∃o,ρ (.tmp 7)=.tuple #[.agg o,.bool (lB x.op)]/\zS W4 x.op o:=hr.1;exact aq (w':=W4) TaI ⟨FR.refl _ _ _,⟨o,rfl,h2⟩,λ h=>by cases h⟩;intro ρ W4 hc hL hr;obtain⟨o,h1,h2⟩:∃o,ρ (.tmp 7)=.tuple #[.agg o,.bool (lB x.op)]/\zS W4 x.op o:=hr.1;exact Zhw
  ·intro ρ W4 hc hL hr;refine aq (w':=W4.alloc (.cells #[af 0,ag 0,ag 0,.bool false,.bool false,.nilFunc] 100)) (by simp[go_sem]) ⟨FR.later (ah W4 _) hL.below.size,⟨W4.heap.size,rfl,hL.below.size,_,aB.new W4 _ _,rfl⟩,λ h=>by cases h⟩
  intro ρ W4 hc hL hr;obtain⟨Lw,h1,hgB,cs,hcs,hsz⟩:∃Lw,ρ (.tmp 4)=aw Lw/\W.heap.size<=Lw/\∃cs,aB W4 Lw 100 cs/\cs.size=6:=hr.1;obtain⟨o,h2,ho⟩:∃o,ρ (.tmp 12)=.agg o/\zS W4 x.op o:=hr.2.1;obtain⟨a,wa,gi,al,nu,d,rfl,_,hd⟩:=ho.shape;obtain⟨f1,f2⟩:=dR hcs hsz hgB ho;have amO:=Cq hcs hsz a wa gi al nu d;have c:∀i,(hi:i<6)->W4.cell? ⟨Lw,i,none⟩=some (cs[i]' WC):=λ i hi=>(hcs.cell i).trans (Array.getElem?_eq_getElem WC);have fz:=hcs.frozen;have c0:=c 0 WC;have c1:=c 1 WC;have Ly:=c 2 WC;have c3:=c 3 WC;have c4:=c 4 WC;have c5:=c 5 WC;refine Co (w':=wO W4 Lw a wa gi al nu d) ?_ ⟨f1,trivial,λ _=>⟨Lw,_,h1,hgB,f2,amO⟩⟩;unfold wO;rcases hd with rfl|⟨F,C,rfl⟩
  ·simp[go_sem,h1,h2,cJ,c0,c1,Ly,c3,c4,c5,fz]
  simp[go_sem,h1,h2,cJ,c0,c1,Ly,c3,c4,c5,fz]
 intro W4 hL;simp only[Uab];rintro _ ⟨gm,es,rfl,hgm,Vz⟩ _ rfl _ rfl _ ⟨o3,rfl,h3⟩ _ ⟨MY,rfl,h4⟩ _ ⟨LT,rfl,h5⟩ _ rfl _ ⟨g4,rfl,hg4,cs,hcs,hsz⟩ hu;obtain⟨Lw,o,hg,hgB,ho,hR⟩:=hu 8 _ rfl rfl;have ei:g4=Lw:=by simpa [Act.put,Act.eval] using hg
 subst ei;clear hu hg hcs hsz cs Vz hgm es h3 h4 h5 hg4;replace k1:=k1.below hL.below hgx;have cL:=KK.below hL.below (aB.lt KK);replace hB:=hB.trans (hL.below.mono hB.size);clear KK hL hgx;obtain⟨a,wa,gi,al,nu,d,rfl,_,hd⟩:=ho.shape;have Mc:=λ h=>zS.args ho h;have kF:d.oneCell'=true:=by rcases hd with rfl|⟨F,C,rfl⟩<;>rfl
 have hst:=λ(u:Addr) (m:Mode) (w:t_)=>run_store prog w u d m kF;clear hd kF;have HO:=aa ho;clear ho;simp only[bw,Act.put,Uac];have z0:=k1.cell 0;have z1:=k1.cell 1;have x2:=k1.cell 2;have x3:=k1.cell 3;have x5:=k1.cell 5;have x6:=k1.cell 6;have x0:=hR.cell 0;have x1:=hR.cell 1;have z2:=hR.cell 2;have z3:=hR.cell 3;have z4:=hR.cell 4;have z5:=hR.cell 5;have y0:=cL.cell 0;have y1:=cL.cell 1;have c2:=cL.cell 2;have y3:=cL.cell 3;have o4:=cL.cell 4;have o5:=cL.cell 5;have rf:=cL.frozen;unfold cJ at x0 x1 z2 z3 z4 z5;simp only[Uaa]at z0 z1 x2 x3 x5 x6 x0 x1 z2 z3 z4 z5 y0 y1 c2 y3 o4 o5;cases b1:(x.op==1)
 ·cases LE:(x.op==2)
  ·have n1:¬x.op=1:=by simpa using b1
   have n2:¬x.op=2:=by simpa using LE
   cases q1:lB x.op;clear Mc;exact Zbk;have ha:=Mc q1;clear Mc;cases b4:((x.n:Int)==a)
   ·have n4:¬(x.n:Int)=rU x.op:=by rw[<-ha];simpa using b4
    clear ha;exact Zbk
   have n4:(x.n:Int)=rU x.op:=by rw[<-ha];simpa using b4
   have N4:=aa n4;clear ha n4;cases b5:(x.op != 20)
   ·have n5:x.op=20:=by simpa using b5
    have N5:=aa n5;clear n5;have kw:=Vo x.width;cases b6:(decide (1<=x.width)&&decide (x.width<=1099511627776))
    ·rw[b6]at kw;have K1:=aa kw;clear kw;go_wp2_with fail;refine(K1.ae _).mono ?_;rintro e w1 ⟨rfl,rfl⟩;have n6:¬(1<=x.width/\x.width<=1099511627776):=by simpa using b6
     clear b6;go_wp2_with fail;refine(fQ x.op _).mono ?_;rintro e w9 ⟨rfl,rfl⟩;by_cases hn:(x.n:Int)=om x.op
     ·have t1:((x.n:Int)==om x.op)=true:=by simpa using hn
      have rz:=aa (show bO x=42 by have Nm:=N4.ae;have Kx:=N5.ae;simp only[bO];rw[if_neg Tan,if_neg Tan,if_pos hn]);exact ZbL
     have t1:((x.n:Int)==om x.op)=false:=by simpa using hn
     have rz:=aa (show bO x=21 by have Nm:=N4.ae;have Kx:=N5.ae;simp only[bO];rw[if_neg Tan,if_neg Tan,if_neg hn]);exact ZbM
    rw[b6]at kw;have K1:=aa kw;clear kw;have n6:1<=x.width/\x.width<=1099511627776:=by simpa using b6
    clear b6;go_wp2_with fail;refine(K1.ae _).mono ?_;rintro e w1 ⟨rfl,rfl⟩;have rz:=aa (show bO x=0 by have Nm:=N4.ae;have Kx:=N5.ae;simp only[bO];rw[if_neg Tan,if_pos Tan]);exact Zcd
   have n5:¬x.op=20:=by simpa using b5
   have rz:=aa (show bO x=0 by have Nm:=N4.ae;simp only[bO];rw[if_neg Tan,if_pos Tan]);exact Zcd
  have p2:x.op=2:=by simpa using LE
  have q1:lB x.op=false:=by rw[p2];rfl
  rw[q1];have P2:=aa p2;clear Mc p2;cases b2:((x.n:Int)==0)
  ·have n2:¬x.n=0:=by simpa using b2
   go_wp2_with fail;refine(fQ x.op _).mono ?_;rintro e w9 ⟨rfl,rfl⟩;by_cases hn:(x.n:Int)=om x.op
   ·have t1:((x.n:Int)==om x.op)=true:=by simpa using hn
    have rz:=aa (show bO x=42 by have Nm:=P2.ae;simp only[bO];rw[if_neg Tan,if_neg Tan,if_pos hn]);exact ZbL
   have t1:((x.n:Int)==om x.op)=false:=by simpa using hn
   have rz:=aa (show bO x=21 by have Nm:=P2.ae;simp only[bO];rw[if_neg Tan,if_neg Tan,if_neg hn]);exact ZbM
  have n2:x.n=0:=by simpa using b2
  have N2:=aa n2;clear n2;have rz:=aa (show bO x=0 by have Nm:=P2.ae;have Kx:=N2.ae;simp only[bO];rw[if_pos Tan]);exact Zcd
 have p1:x.op=1:=by simpa using b1
 have q1:lB x.op=false:=by rw[p1];rfl
 have LE:(x.op==2)=false:=by rw[p1];rfl
 rw[q1];have P1:=aa p1;clear Mc p1;cases b2:((x.n:Int)==0)
 ·have n2:¬x.n=0:=by simpa using b2
  go_wp2_with fail;refine(fQ x.op _).mono ?_;rintro e w9 ⟨rfl,rfl⟩;by_cases hn:(x.n:Int)=om x.op
  ·have t1:((x.n:Int)==om x.op)=true:=by simpa using hn
   have rz:=aa (show bO x=42 by have Nm:=P1.ae;simp only[bO];rw[if_neg Tan,if_neg Tan,if_pos hn]);exact ZbL
  have t1:((x.n:Int)==om x.op)=false:=by simpa using hn
  have rz:=aa (show bO x=21 by have Nm:=P1.ae;simp only[bO];rw[if_neg Tan,if_neg Tan,if_neg hn]);exact ZbM
 have n2:x.n=0:=by simpa using b2
 have N2:=aa n2;clear n2;have JM:=wJ x.v;cases bg:good x.v
 ·open zcU in exact Zbh
 open zcV in exact Zbh
theorem tE(t:Int)(w:t_):ar 73 #[ag t] w λ e w'=>e=.returned (.bool (t==0))/\w=w':=by go_enter func73,ntmps73;exact Zgq
def jk(a b:Int):Int:=if a=0 then 0 else if b=0 then 1 else -1
def zew.KaW(h:p:=by refine(K2.ae _).mono ?_;rintro e w1 ⟨rfl,rfl⟩;exact Zgn):=h
def zex.KaW(h:p:=by refine(K2.ae _).mono ?_;exact ZiH):=h
theorem uF(g c:Nat)(a b:Int)(w:t_)(h0:w.cell? ⟨g,0,none⟩=some (ag a))(h1:w.cell? ⟨g,1,none⟩=some (ag b)):
  ar 107 #[aL g 2 c,.func (.func 73) #[] #[]] w λ e w'=>e=.returned (af (jk a b))/\w=w':=by
 unfold jk;cases ha:(a==0)
 ·have ha':¬a=0:=by simpa using ha
  rw[if_neg ha'];cases hb:(b==0)
  ·have hb':¬b=0:=by simpa using hb
   rw[if_neg hb'];have k1:=tE a;have k2:=tE b;rw[ha]at k1;rw[hb]at k2;have K1:=aa k1;have K2:=aa k2;clear k1 k2 ha' hb';go_enter func107,ntmps107;open zew in exact ZcH
  have hb':b=0:=by simpa using hb
  rw[if_pos hb'];have k1:=tE a;have k2:=tE b;rw[ha]at k1;rw[hb]at k2;have K1:=aa k1;have K2:=aa k2;clear k1 k2 ha' hb';go_enter func107,ntmps107;open zex in exact ZcH
 have ha':a=0:=by simpa using ha
 rw[if_pos ha'];have k1:=tE a;rw[ha]at k1;have K1:=aa k1;clear k1 ha';go_enter func107,ntmps107;go_wp2_with fail;refine wp_loop_rounds 3 ?_;rw[rounds_succ];go_wp2_with fail;refine(K1.ae _).mono ?_;exact ZiH
theorem acB(w:t_):(zeroValue 5).run prog w=.ok (ag 0) w:=by exact Zhr
theorem tF(w:t_)(g o n c:Nat)(cs:x_)(h:aB w g 5 cs)(hn:0<n)(hs:o+n<=cs.size):
  (Builtin.clear_ #[97] 0 #[.slice (some ⟨g,o,none⟩) n c]).run prog w=.ok (.tuple #[]) (w.setCells g o (List.replicate n (ag 0))):=
 Go.Lib.run_clear_slice w 97 5 0 (ag 0) underlying97 acB rfl rfl g o n c hn (λ j hj=>by rw[h.cell,Array.getElem?_eq_getElem WC];rfl) (λ j hj=>h.frozen _)
theorem gG(g:Nat)(hg:B<=g):∀(vs:xr) (o:Nat) (w:t_),Below B w0 w->Below B w0 (w.setCells g o vs)
 |[],o,w,h=>h
 |v::vs,o,w,h=>by rw[World.setCells];exact gG g hg vs (o+1) _ (h.setCell (p:=⟨g,o,none⟩) hg v)
def acC(g c:Nat)(w:t_)(e:Ending)(w':t_):Prop:=∃n,n<=1/\e=.returned (aL g n c)/\Below g w w'
def zey.KaW(h:p:=by go_ret;exact⟨1,aE,rfl,hB⟩):=h
def zez.KaW(h:p:=by go_ret;exact⟨0,by omega,rfl,hB⟩):=h
theorem PQ(g c:Nat)(a b:Int)(cs:x_)(w:t_)(h:aB w g 5 cs)(hsz:2<=cs.size)(h0:cs[0]?=some (ag a))(h1:cs[1]?=some (ag b))(hc:2<=c)(hab:a=0\/b=0):
  ar 71 #[aL g 2 c,.func (.func 73) #[] #[]] w (acC g c w):=by
 have c0:=(h.cell 0).trans h0;have c1:=(h.cell 1).trans h1;have fz:=h.frozen;have ki:=uF g c a b w c0 c1;have k2:=tE b;cases ha:(a==0)
 ·have ha':¬a=0:=by simpa using ha
  have hb':b=0:=WC;have e0:jk a b=1:=by simp[jk,ha',hb']
  rw[e0]at ki;have KI:=aa ki;have cj:=tF w g 1 1 (c-1) cs h WC WC;have hB:=gG g (Nat.le_refl g) (List.replicate 1 (ag 0)) 1 w (Below.refl g w);clear ki k2 e0 ha' hb' hab;generalize w.setCells g 1 (List.replicate 1 (ag 0))=W at*;go_enter func71,ntmps71;go_wp2_with fail;refine KI.ae.mono ?_;rintro e w1 ⟨rfl,rfl⟩;go_wp2_with fail;refine wp_loop_rounds 3 ?_;rw[rounds_succ];go_wp2_with fail;go_ret;exact⟨1,aE,rfl,hB⟩
 have ha':a=0:=by simpa using ha
 have e0:jk a b=0:=by simp[jk,ha']
 rw[e0]at ki;have KI:=aa ki;clear ki e0 ha' hab;cases hb:(b==0)
 ·rw[hb]at k2;have K1:=aa k2;clear k2;have hs:=h.aW 0 (ag b);have cj:=tF (w.setCell ⟨g,0,none⟩ (ag b)) g 1 1 (c-1) _ hs WC Tac;have hB:=gG g (Nat.le_refl g) (List.replicate 1 (ag 0)) 1 _ ((Below.refl g w).setCell (p:=⟨g,0,none⟩) (Nat.le_refl g) (ag b));generalize (w.setCell ⟨g,0,none⟩ (ag b)).setCells g 1 (List.replicate 1 (ag 0))=W at*;go_enter func71,ntmps71;go_wp2_with fail;refine KI.ae.mono ?_;rintro e w1 ⟨rfl,rfl⟩;open zey in exact ZcH
 rw[hb]at k2;have K1:=aa k2;clear k2;have cj:=tF w g 0 2 c cs h WC WC;have hB:=gG g (Nat.le_refl g) (List.replicate 2 (ag 0)) 0 w (Below.refl g w);generalize w.setCells g 0 (List.replicate 2 (ag 0))=W at*;go_enter func71,ntmps71;go_wp2_with fail;refine KI.ae.mono ?_;rintro e w1 ⟨rfl,rfl⟩;open zez in exact ZcH
theorem Md(g c:Nat)(a b:Int)(w:t_)(c0:w.cell? ⟨g,0,none⟩=some (ag a))(c1:w.cell? ⟨g,1,none⟩=some (ag b))(ha:a≠0)(hb:b≠0):
  ar 71 #[aL g 2 c,.func (.func 73) #[] #[]] w λ e w'=>e=.returned (aL g 2 c)/\w=w':=by
 have ki:=uF g c a b w c0 c1;have e0:jk a b= -1:=by simp[jk,ha,hb]
 rw[e0]at ki;have KI:=aa ki;clear ki e0;go_enter func71,ntmps71;go_wp2_with fail;refine KI.ae.mono ?_;exact ZiH
theorem Fw(g c n:Nat)(hn:n<=1)(w:t_):ar 74 #[aL g n c] w λ e w'=>e=.returned (aL g n c)/\w=w':=by have d1:decide ((n:Int)< 2)=true:=Tac;go_enter func74,ntmps74;exact Zdw
def zdn.KaD(h:p:=by clear fq y2 cV cQ;go_wp2_with fail;rw[rounds_succ];go_wp2_with fail;go_ret;exact⟨rfl,hL.mono (Nat.le_of_lt h.lt)⟩):=h
def zdo.KaD(h:p:=by clear fq y2 cV cQ;have h2:=h.later hL;have cj:=tF W4 g 1 1 (c-1) cs h2 WC WC;have hB:=gG g (Nat.le_refl g) (List.replicate 1 (ag 0)) 1 W4 (hL.mono (Nat.le_of_lt h.lt));generalize W4.setCells g 1 (List.replicate 1 (ag 0))=W3 at*;go_wp2_with fail;refine wp_loop_rounds 3 ?_;rw[rounds_succ];go_wp2_with fail;go_ret;exact⟨rfl,hB⟩):=h
def zhn.Kb0(h:p:=by simp only[Uab];open zdn in exact Zbu):=h
def zho.Kb0(h:p:=by simp only[Uab];open zdo in exact Zbu):=h
theorem Me(g c:Nat)(a b:Int)(cs:x_)(w:t_)(h:aB w g 5 cs)(hsz:2<=cs.size)(h0:cs[0]?=some (ag a))(h1:cs[1]?=some (ag b))(hc:2<=c):
  ar 74 #[aL g 2 c] w λ e w'=>e=.returned (aL g (if a=b then 1 else 2) c)/\Below g w w':=by
 have cV:=λ y:Ext w.heap.size w=>((h.later y.h).cell 0).trans h0;have cQ:=λ y:Ext w.heap.size w=>((h.later y.h).cell 1).trans h1;cases hab:(b==a)
 ·have PS:¬a=b:=λ e=>by simp[e]at hab
  rw[if_neg PS];open zhn in exact Zfu
 have PS:a=b:=by have:=hab;simp at this;exact this.symm
 rw[if_pos PS];open zho in exact Zfu
theorem pI:(prog.info? 5).map (λ i=>(i.zero,i.size,i.bytes))=some (some (ag 0),1,1):=by exact Zhr
def VC(a b:Int)(w:t_)(e:Ending)(w':t_):Prop:=∃g c cs,e=.returned (aL g 2 c)/\w.heap.size<=g/\aB w' g 5 cs/\cs[0]?=some (ag a)/\cs[1]?=some (ag b)/\2<=cs.size/\2<=c/\ai w w'
theorem VD(p off c:Nat)(a b:Int)(w:t_)(hp:p<w.heap.size)(h0:w.cell? ⟨p,off,none⟩=some (ag a))(h1:w.cell? ⟨p,off+1,none⟩=some (ag b)):
  ar 72 #[.slice (some ⟨p,off,none⟩) 2 c] w (VC a b w):=by
 obtain⟨i0,kB,hz0,hz1,hz2⟩:=info_parts pI;have hB:=ah w (.cells #[] 5);have hown:(w.alloc (.cells #[] 5)).ownsRow w.heap.size 5 1 (aL w.heap.size 0 0) 0 []:=⟨by simp,.inr ⟨w.heap.size,0,#[],rfl,aE,heap_alloc_new w _,aE,by unfold maxLen;omega,rfl,rfl⟩⟩;have YH:Reads (w.alloc (.cells #[] 5)) w.heap.size 1 (some ⟨p,off,none⟩) 2 [ag a,ag b]:=by
  refine⟨rfl,λ _=>⟨_,rfl,hp,λ j u hu=>?_⟩⟩
  match j,hu with
  |0,hu=>simp at hu;subst hu;exact(hB.cell (p:=⟨p,off,none⟩) hp).trans h0
  |1,hu=>simp at hu;subst hu;exact(hB.cell (p:=⟨p,off+1,none⟩) hp).trans h1
  |(n+2),hu=>simp at hu
 have HW:=aa hown;have HR:=aa YH;clear hown YH;have hnil:(binOp .eql 97 (.slice (some ⟨p,off,none⟩) 2 c) (az)).run prog w=.ok (.bool false) w:=Go.Lib.run_eql_slice_nil w 97 5 (some ⟨p,off,none⟩) 2 c 0 0 underlying97;go_enter func72,ntmps72;go_wp2_with (first
  |(at_builtin
    refine cN _ rfl (.tmp 5) (.tmp 6) 97 rfl w.heap.size 5 i0 (ag 0) 1 1 underlying97 kB hz0 hz1 hz2 rfl WC (aL w.heap.size 0 0) 0 [] rfl HW.ae w.heap.size (some ⟨p,off,none⟩) 2 c [ag a,ag b] rfl HR.ae (by simp[Value.oneCell']) Tam WC Tad ?_;intro v2 w2 o2 g2 _;have O2:=aa o2;have G2:=aa g2;clear o2 g2 HW HR))
 go_ret;rcases O2.ae.2 with⟨_,hz⟩|⟨g,cap,cur,rfl,hb,hg,hn,hm,hs,ht⟩
 omega;refine⟨g,cap,cur,rfl,hb,hg,?_,?_,by omega,hn,?_⟩;have:=congrArg (λ l=>l[0]?) ht;simp at this;exact ZfH;have:=congrArg (λ l=>l[1]?) ht;simp at this;exact ZfH;refine hB.trans ⟨G2.ae.os,G2.ae.tape,G2.ae.output,G2.ae.size,λ k hk=>G2.ae.block k Tac λ e=>?_⟩;simp[Value.ownBlock]at e;omega
def ck(a b:Int):Bool:=a==0||b==0||a==b
theorem rW(p off c:Nat)(a b:Int)(w:t_)(hp:p<w.heap.size)(h0:w.cell? ⟨p,off,none⟩=some (ag a))(h1:w.cell? ⟨p,off+1,none⟩=some (ag b)):
  ar 41 #[.slice (some ⟨p,off,none⟩) 2 c] w λ e w'=>e=.returned (.bool (ck a b))/\ai w w':=by
 go_enter func41,ntmps41;go_wp2_with fail;refine(VD p off c a b _ hp h0 h1).mono ?_;rintro e w1 ⟨g,c1,cs,rfl,hg,hb,e0,e1,hs,hc1,b1⟩;clear h0 h1;by_cases hz:a=0\/b=0
 ·go_wp2_with fail;refine(PQ g c1 a b cs _ hb hs e0 e1 hc1 hz).mono ?_;rintro e w2 ⟨n,hn,rfl,b2⟩;go_wp2_with fail;refine(Fw g c1 n hn _).mono ?_;rintro e w3 ⟨rfl,rfl⟩;have d1:decide ((n:Int)<=1)=true:=by simp;omega
  have HG:=aa (show ck a b=true by rcases hz with rfl|rfl<;>simp[ck]);clear hz;go_wp2_with fail;go_ret;exact⟨by rw[HG.ae];rfl,b1.trans (b2.mono hg)⟩
 have ha:a≠0:=λ e=>hz (.inl e);have hb0:b≠0:=λ e=>hz (.inr e);have c0':=(hb.cell 0).trans e0;have c1':=(hb.cell 1).trans e1;go_wp2_with fail;refine(Md g c1 a b _ c0' c1' ha hb0).mono ?_;rintro e w2 ⟨rfl,rfl⟩;clear c0' c1';go_wp2_with fail;refine(Me g c1 a b cs _ hb hs e0 e1 hc1).mono ?_;rintro e w3 ⟨rfl,b3⟩;have HG:=aa (show ck a b=decide (a=b) by rw[Bool.eq_iff_iff];simp[ck,ha,hb0]);by_cases hab:a=b
 ·have HA:=aa hab;rw[if_pos hab];clear hab;go_wp2_with fail;go_ret;exact⟨by rw[HG.ae,decide_eq_true HA.ae];rfl,b1.trans (b3.mono hg)⟩
 have HA:=aa hab;rw[if_neg hab];clear hab;go_wp2_with fail;go_ret;exact⟨by rw[HG.ae,decide_eq_false HA.ae];rfl,b1.trans (b3.mono hg)⟩
def zgD.KbK(h:p:=by go_wp2_with fail;rw[rounds_succ];go_wp2_with fail;go_ret;exact⟨by rw[hg1];rfl,hB⟩):=h
def zfK.Kbp(h:p:=by clear x1 x3 c0 gN bN b2 hW2;open zgD in exact ZeY):=h
theorem Gr(a wa gi:Int)(nu:Bool)(d:Value)(hd:d.oneCell'=true)(p off c:Nat)(k:Int)(w:t_)(hp:p<w.heap.size)(h0:w.cell? ⟨p,off,none⟩=some (ag k)):
  ar 45 #[.agg #[af a,ag wa,ag gi,.bool false,.bool nu,d],.slice (some ⟨p,off,none⟩) 1 c] w λ e w'=>e=.returned (.bool (ck k wa))/\ai w w':=by have hB:=ah w (.cells #[af a,ag wa,ag gi,.bool false,.bool nu,d] 100);have hO:=aB.new w 100 #[af a,ag wa,ag gi,.bool false,.bool nu,d];have x1:=hO.cell 1;have x3:=hO.cell 3;simp only[Uaa]at x1 x3;have c0:=(hB.cell (p:=⟨p,off,none⟩) hp).trans h0;go_enter func45,ntmps45;go_wp2_with fail;generalize w.alloc (.cells #[af a,ag wa,ag gi,.bool false,.bool nu,d] 100)=W at*;refine wp_loop_rounds 2 ?_;open zfK in exact Zd1
def zgE.KbK(h:p:=by
 have c1:=(hB.cell (p:=⟨p,off+1,none⟩) hp).trans h1;go_wp2_with fail;rw[rounds_succ];go_wp2_with fail;have gN:=aB.new W2 5 #[ag j,ag wa];have bN:=ah W2 (.cells #[ag j,ag wa] 5);refine(rW W2.heap.size 0 2 j wa _ Tad (gN.cell 0) (gN.cell 1)).mono ?_;rintro e W3 ⟨rfl,b2⟩;have hW3:=aj.then bN b2;replace hB:=aj.then hB hW3;replace hO:=hO.later hW3;clear x1 x3 c0 c1 gN bN b2 hW3;cases hg2:ck j wa
 ·go_wp2_with fail;go_ret;exact⟨by rw[hg1,hg2];rfl,hB⟩
 have x1:=hO.cell 1;have x3:=hO.cell 3;simp only[Uaa]at x1 x3;have c0:=(hB.cell (p:=⟨p,off,none⟩) hp).trans h0;have c1:=(hB.cell (p:=⟨p,off+1,none⟩) hp).trans h1;go_wp2_with fail;rw[rounds_succ];cases al
 ·go_wp2_with fail;go_ret;exact⟨by rw[hg1,hg2];rfl,hB⟩
 go_wp2_with fail;refine(rW p off c k j _ (eS hp hB.size) c0 c1).mono ?_;rintro e w9 ⟨rfl,b9⟩;go_wp2_with fail;go_ret;exact⟨by rw[hg1,hg2];rfl,aj.then hB b9⟩):=h
def zfL.Kbp(h:p:=by clear x1 x3 c0 c1 gN bN b2 hW2;open zgE in exact ZeY):=h
theorem Gs(a wa gi:Int)(al nu:Bool)(d:Value)(hd:d.oneCell'=true)(p off c:Nat)(k j:Int)(w:t_)(hp:p<w.heap.size)(h0:w.cell? ⟨p,off,none⟩=some (ag k))(h1:w.cell? ⟨p,off+1,none⟩=some (ag j)):
  ar 45 #[.agg #[af a,ag wa,ag gi,.bool al,.bool nu,d],.slice (some ⟨p,off,none⟩) 2 c] w λ e w'=>e=.returned (.bool (ck k wa&&(ck j wa&&(!al||ck k j))))/\ai w w':=by have hB:=ah w (.cells #[af a,ag wa,ag gi,.bool al,.bool nu,d] 100);have hO:=aB.new w 100 #[af a,ag wa,ag gi,.bool al,.bool nu,d];have x1:=hO.cell 1;have x3:=hO.cell 3;simp only[Uaa]at x1 x3;have c0:=(hB.cell (p:=⟨p,off,none⟩) hp).trans h0;have c1:=(hB.cell (p:=⟨p,off+1,none⟩) hp).trans h1;go_enter func45,ntmps45;go_wp2_with fail;generalize w.alloc (.cells #[af a,ag wa,ag gi,.bool al,.bool nu,d] 100)=W at*;refine wp_loop_rounds 3 ?_;open zfL in exact Zd1
theorem Fx(p off c:Nat)(k:Int)(w:t_)(h0:w.cell? ⟨p,off,none⟩=some (ag k)):
  ar 80 #[.slice (some ⟨p,off,none⟩) 1 c,ag 0] w λ e w'=>e=.returned (af (if k=0 then 0 else -1))/\w=w':=by
 by_cases hk:k=0
 ·subst hk;go_enter func80,ntmps80;go_wp2_with fail;refine wp_loop_rounds 2 ?_;rw[rounds_succ];exact Zdw
 have hk2:((0:Int)==k)=false:=by rw[beq_eq_false_iff_ne];omega
 rw[if_neg hk];clear hk;go_enter func80,ntmps80;go_wp2_with fail;refine wp_loop_rounds 2 ?_;rw[rounds_succ];exact Zgn
theorem Fy(p off c:Nat)(k j:Int)(w:t_)(h0:w.cell? ⟨p,off,none⟩=some (ag k))(h1:w.cell? ⟨p,off+1,none⟩=some (ag j)):
  ar 80 #[.slice (some ⟨p,off,none⟩) 2 c,ag 0] w λ e w'=>e=.returned (af (if k=0 then 0 else if j=0 then 1 else -1))/\w=w':=by
 by_cases hk:k=0
 ·subst hk;go_enter func80,ntmps80;go_wp2_with fail;refine wp_loop_rounds 3 ?_;rw[rounds_succ];exact Zdw
 have hk2:((0:Int)==k)=false:=by rw[beq_eq_false_iff_ne];omega
 rw[if_neg hk];clear hk;by_cases hj:j=0
 ·subst hj;go_enter func80,ntmps80;go_wp2_with fail;refine wp_loop_rounds 3 ?_;rw[rounds_succ];exact Zgn
 have hj2:((0:Int)==j)=false:=by rw[beq_eq_false_iff_ne];omega
 rw[if_neg hj];clear hj;go_enter func80,ntmps80;go_wp2_with fail;refine wp_loop_rounds 3 ?_;rw[rounds_succ];go_wp2_with fail;rw[rounds_succ];exact Zgn
theorem Mf(p off c:Nat)(k:Int)(w:t_)(h0:w.cell? ⟨p,off,none⟩=some (ag k)):
  ar 46 #[.slice (some ⟨p,off,none⟩) 1 c,ag 0] w λ e w'=>e=.returned (.bool (k==0))/\w=w':=by
 have K:=aa (Fx p off c k w h0);go_enter func46,ntmps46;go_wp2_with fail;refine K.ae.mono ?_;rintro e w1 ⟨rfl,rfl⟩;by_cases hk:k=0;subst hk;exact Zdw;have hk2:(k==0)=false:=by simpa using hk
 rw[if_neg hk];go_wp2_with fail;go_ret;exact⟨by rw[hk2];rfl,rfl⟩
theorem Mg(p off c:Nat)(k j:Int)(w:t_)(h0:w.cell? ⟨p,off,none⟩=some (ag k))(h1:w.cell? ⟨p,off+1,none⟩=some (ag j)):
  ar 46 #[.slice (some ⟨p,off,none⟩) 2 c,ag 0] w λ e w'=>e=.returned (.bool (k==0||j==0))/\w=w':=by
 have K:=aa (Fy p off c k j w h0 h1);go_enter func46,ntmps46;go_wp2_with fail;refine K.ae.mono ?_;rintro e w1 ⟨rfl,rfl⟩;by_cases hk:k=0;subst hk;exact Zdw;have hk2:(k==0)=false:=by simpa using hk
 rw[if_neg hk];by_cases hj:j=0
 ·subst hj;go_wp2_with fail;go_ret;exact⟨by rw[hk2];rfl,rfl⟩
 have hj2:(j==0)=false:=by simpa using hj
 rw[if_neg hj];go_wp2_with fail;go_ret;exact⟨by rw[hk2,hj2];rfl,rfl⟩
def Jh(k:Nat)(wd:Int)(l:w_):Val×Int:=
 match k,l with
 |3,[a]=>Zo a.n
 |4,[a]=>(bF (a.n==0),0)
 |5,[a,b]=>AK a.n b.n
 |6,[a,b]=>AL a.n b.n
 |7,[a,b]=>AO a.n b.n
 |8,[a,b]=>AP a.n b.n
 |9,[a,b]=>AQ a.n b.n
 |10,[a,b]=>(bF (decide (bC a b=0)),0)
 |11,[a,b]=>(bF (!decide (bC a b=0)),0)
 |12,[a,b]=>(bF (decide (bC a b<0)),0)
 |13,[a,b]=>(bF (decide (bC a b<=0)),0)
 |14,[a,b]=>(bF (decide (0<bC a b)),0)
 |15,[a,b]=>(bF (decide (0<=bC a b)),0)
 |16,l=>(mB false l,0)
 |17,l=>(mB true l,0)
 |18,[a]=>(bF ((a.k==0)==true),0)
 |19,[a]=>(bF ((a.k==0)==false),0)
 |20,[a]=>wM a.n wd
 |_,_=>(aM,0)
def atT(w:t_)(d:Value)(x:Ex)(l:w_)(r:Val×Int):Prop:=∃f Mh,d=.func (.func f) #[] Mh/\(Mh= #[]\/∃p,Mh= #[p])/\(∀(args:x_) (w:t_),(callFunc f args).run prog w=.ok (.enter f args) w)/\
 ∀(W:t_) (A:xP) (c:Nat),ai w W->RV W W.heap.size A l->ar f (#[.agg (ay x),.slice A l.length c]++Mh) W λ e w'=>e=.returned (bP r.1 r.2)/\ai W w'
theorem Zv(args:x_)(w:t_):(callFunc 108 args).run prog w=.ok (.enter 108 args) w:=by exact Zhr
theorem Zw(args:x_)(w:t_):(callFunc 110 args).run prog w=.ok (.enter 110 args) w:=by exact Zhr
theorem Zx(args:x_)(w:t_):(callFunc 128 args).run prog w=.ok (.enter 128 args) w:=by exact Zhr
theorem rX(args:x_)(w:t_):(callFunc 167 args).run prog w=.ok (.enter 167 args) w:=by exact Zhr
theorem oK(args:x_)(w:t_):(callFunc 169 args).run prog w=.ok (.enter 169 args) w:=by exact Zhr
theorem Mi(args:x_)(w:t_):(callFunc 170 args).run prog w=.ok (.enter 170 args) w:=by exact Zhr
theorem Mj(args:x_)(w:t_):(callFunc 172 args).run prog w=.ok (.enter 172 args) w:=by exact Zhr
def zaV.Kab(h:p:=by obtain⟨u,rfl⟩:=one WC;exact⟨_,#[],rfl,.inl rfl,Zv,λ W A c hb hr=>ack x A c u W hr⟩):=h
def zaW.Kab(h:p:=by obtain⟨u,rfl⟩:=one WC;exact⟨_,#[],rfl,.inl rfl,Zw,λ W A c hb hr=>acm x A c u W hr⟩):=h
def zaX.Kab(h:p:=by obtain⟨u,v,rfl⟩:=two WC;exact⟨_,#[_],rfl,.inr ⟨_,rfl⟩,rX,λ W A c hb hr=>ahH x A c q u v W hr (hq.later hb)⟩):=h
def zaY.Kab(h:p:=by obtain⟨u,v,rfl⟩:=two WC;exact⟨_,#[_],rfl,.inr ⟨_,rfl⟩,rX,λ W A c hb hr=>ahI x A c q u v W hr (hq.later hb)⟩):=h
def zaZ.Kab(h:p:=by obtain⟨u,v,rfl⟩:=two WC;exact⟨_,#[_],rfl,.inr ⟨_,rfl⟩,rX,λ W A c hb hr=>Zq x A c q u v W hr (hq.later hb)⟩):=h
def za0.Kab(h:p:=by obtain⟨u,v,rfl⟩:=two WC;exact⟨_,#[_],rfl,.inr ⟨_,rfl⟩,rX,λ W A c hb hr=>ahJ x A c q u v q2 W hr (hq.later hb) (lx.later hb)⟩):=h
def za1.Kab(h:p:=by obtain⟨u,v,rfl⟩:=two WC;exact⟨_,#[_],rfl,.inr ⟨_,rfl⟩,rX,λ W A c hb hr=>ahK x A c q u v q2 W hr (hq.later hb) (lx.later hb)⟩):=h
def za2.Kab(h:p:=by obtain⟨u,v,rfl⟩:=two WC;exact⟨_,#[_],rfl,.inr ⟨_,rfl⟩,oK,λ W A c hb hr=>amv x A c q u v W hr (hq.later hb)⟩):=h
def za3.Kab(h:p:=by obtain⟨u,v,rfl⟩:=two WC;exact⟨_,#[_],rfl,.inr ⟨_,rfl⟩,oK,λ W A c hb hr=>amw x A c q u v W hr (hq.later hb)⟩):=h
def za4.Kab(h:p:=by obtain⟨u,v,rfl⟩:=two WC;exact⟨_,#[_],rfl,.inr ⟨_,rfl⟩,oK,λ W A c hb hr=>amx x A c q u v W hr (hq.later hb)⟩):=h
def za5.Kab(h:p:=by obtain⟨u,v,rfl⟩:=two WC;exact⟨_,#[_],rfl,.inr ⟨_,rfl⟩,oK,λ W A c hb hr=>amy x A c q u v W hr (hq.later hb)⟩):=h
def za6.Kab(h:p:=by obtain⟨u,v,rfl⟩:=two WC;exact⟨_,#[_],rfl,.inr ⟨_,rfl⟩,oK,λ W A c hb hr=>amz x A c q u v W hr (hq.later hb)⟩):=h
def za7.Kab(h:p:=by obtain⟨u,v,rfl⟩:=two WC;exact⟨_,#[_],rfl,.inr ⟨_,rfl⟩,oK,λ W A c hb hr=>amA x A c q u v W hr (hq.later hb)⟩):=h
def za8.Kab(h:p:=by exact Zfd):=h
def za9.Kab(h:p:=by exact Zfd):=h
def zba.Kab(h:p:=by exact ZfL):=h
def zbb.Kab(h:p:=by exact ZfL):=h
def zbc.Kab(h:p:=by obtain⟨u,rfl⟩:=one WC;exact⟨_,#[],rfl,.inl rfl,Zx,λ W A c hb hr=>Vv x A c u W hr (hwd rfl).1 (hwd rfl).2 (bc u Tad)⟩):=h
theorem gQ.does{w:t_}{k:Nat}{a:Int}(h:gQ w k (.agg (cJ a wa gi al nu d)))(x:Ex)(l:w_)(hl:(l.length:Int)=a)(bc:∀v∈l,v.Ok)(hwd:k=20->1<=x.width/\x.width<=1099511627776):atT w d x l (Jh k x.width l):=by
 have two:a=2->∃u v,l=[u,v]:=λ e=>by
  match l,hl with
  |[u,v],_=>exact⟨u,v,rfl⟩
  |[],h=>simp at h;omega
  |[u],h=>simp at h;omega
  |u::v::z::r,h=>simp at h;omega
 have one:a=1->∃u,l=[u]:=λ e=>by
  match l,hl with
  |[u],_=>exact⟨u,rfl⟩
  |[],h=>simp at h;omega
  |u::v::r,h=>simp at h;omega
 unfold gQ at h;split at h
 ·open zaV in exact Zas
 ·open zaW in exact Zas
 obtain⟨q,h,hq⟩:=h;open zaX in exact Zas
 obtain⟨q,h,hq⟩:=h;open zaY in exact Zas
 obtain⟨q,h,hq⟩:=h;open zaZ in exact Zas
 obtain⟨q,q2,h,hq,lx⟩:=h;open za0 in exact Zas
 obtain⟨q,q2,h,hq,lx⟩:=h;open za1 in exact Zas
 obtain⟨q,h,hq⟩:=h;open za2 in exact Zas
 obtain⟨q,h,hq⟩:=h;open za3 in exact Zas
 obtain⟨q,h,hq⟩:=h;open za4 in exact Zas
 obtain⟨q,h,hq⟩:=h;open za5 in exact Zas
 obtain⟨q,h,hq⟩:=h;open za6 in exact Zas
 obtain⟨q,h,hq⟩:=h;open za7 in exact Zas
 obtain⟨q,h,hq⟩:=h;open za8 in exact Zas
 obtain⟨q,h,hq⟩:=h;open za9 in exact Zas
 obtain⟨q,h,hq⟩:=h;open zba in exact Zas
 obtain⟨q,h,hq⟩:=h;open zbb in exact Zas
 ·open zbc in exact Zas
 exact h.elim
section
variable{α:Type}{f:α->xr}{e:TypeId}{size:Nat}{base:Nat}{lv:Value}{l:List α}{y:α}
structure AR (f:α->xr) (e:TypeId) (size base:Nat) (lv:Value) (l:List α) (y:α) (a b:t_):Prop where
 grown:a.grownBy b lv.ownBlock
 old:aH f e size a base lv l->aH f e size b base lv l
 new:∀u,aH f e size a base u (l++[y])->aH f e size b base u (l++[y])
theorem AR.refl(w:t_):AR f e size base lv l y w w:=⟨⟨rfl,rfl,rfl,aE,λ _ _ _=>rfl⟩,id,λ _=>id⟩
theorem AR.trans{a b c:t_}(h:AR f e size base lv l y a b)(k:AR f e size base lv l y b c):AR f e size base lv l y a c:=
 ⟨h.grown.trans k.grown,λ o=>k.old (h.old o),λ u o=>k.new u (h.new u o)⟩
theorem AR.later{a b:t_}(h:ai a b):AR f e size base lv l y a b:=
 ⟨⟨h.os,h.tape,h.output,h.size,λ k hk _=>h.block k hk⟩,λ o=>o.later h,λ u o=>o.later h⟩
theorem AR.drew(w:t_):AR f e size base lv l y w w.drew:=AR.later (aj.drew w)
theorem fA{P:Program}{w:t_}(t ty:TypeId)(z:Value)(bytes:Nat)(ht:P.underlying t=some (.slice e))(jQ:(P.info? e).map (λ i=>(i.zero,i.size,i.bytes))=some (some z,size,bytes))(hzs:z.cells.size=size)(hsz:0<size)
  (hf:∀x,(f x).length=size) (h1:∀u∈f y,u.oneCell'=true) (hown:aH f e size w base lv l)
  (g0:Nat) (hg0:aB w g0 e (f y).toArray) (hlen:(l.length+1)*bytes<=140737488355328) (nI:l.length+1<=140737488355328) (hbase:base<=w.heap.size):
  ∃v' w',(Builtin.append_ #[t,t] ty #[lv,aL g0 1 1]).run P w=.ok v' w'/\aH f e size w' base v' (l++[y])/\AR f e size base lv l y w w':=by
 obtain⟨i0,kB,hz0,hz1,hz2⟩:=info_parts jQ;have hnews:∀j u,(f y)[j]?=some u->w.cell? ((⟨g0,0,none⟩:Addr).add j)=some u:=by
  intro j u hu;have:(Addr.add ⟨g0,0,none⟩ j)=⟨g0,j,none⟩:=by unfold Addr.add;split<;>simp_all
  rw[this,hg0.cell];simpa using hu
 have fI:(f y).length=1*size:=by rw[hf];omega
 have conv:∀{w':t_}{v':Value},w'.ownsRow base e size v' (l.length+1) (l.flatMap f++f y)->aH f e size w' base v' (l++[y]):=λ h=>by unfold aH;rw[length_append,flatMap_append];simpa using h
 by_cases hroom:∃g cap,lv=aL g l.length cap/\l.length+1<=cap
 ·obtain⟨g,cap,rfl,hr⟩:=hroom;obtain⟨w',hrun,ho,hg⟩:=run_append_fits (P:=P) w base t ty e i0 size ht kB hz1 g l.length cap (l.flatMap f) hown ⟨g0,0,none⟩ 1 1 (f y) fI hnews h1 hr;refine⟨_,w',hrun,conv ho,hg,λ _=>?_,λ u hu=>?_⟩
  ·rcases ho.2 with⟨h,_⟩|⟨g',cap',cur,h,hbg,ei,hn,hm,hs,ht'⟩
   ·cases h
   injection h with vY Fk h3';injection vY with vY;injection vY with vY _ _;subst vY h3';refine⟨hown.1,.inr ⟨g,cap,cur,rfl,hbg,ei,by omega,hm,hs,?_⟩⟩;have hx:=congrArg (List.take (l.length*size)) ht';rw[take_take,Nat.min_eq_left (Nat.mul_le_mul_right _ WC),take_append_of_le_length (Nat.le_of_eq hown.1.symm)]at hx;rw[hx];exact take_of_length_le (Nat.le_of_eq hown.1)
  by_cases hb:u.ownBlock=some g
  ·rcases hu.2 with⟨rfl,_⟩|⟨g',cap',cur,rfl,hbg,ei,hn,hm,hs,ht'⟩
   ·simp[Value.ownBlock]at hb
   simp only[Value.ownBlock,Option.some.injEq]at hb;subst hb;rcases hown.2 with⟨h,_⟩|⟨g2,ahQ,aBW,h,_,VE,_,_,hs2,_⟩
   cases h;injection h with vY Fk h3';injection vY with vY;injection vY with vY _ _;subst vY h3';rw[ei]at VE;injection VE with VE;injection VE with VE _ _;subst VE;have atU:cap'=cap:=Nat.eq_of_mul_eq_mul_right hsz (hs.symm.trans hs2);subst atU;have:=conv ho;rw[length_append];exact this
  exact hu.keep λ q hq=>hg.block q (hu.lt hq).1 λ e=>hb (by rw[hq];exact e)
 obtain⟨v',w',hrun,ho,hg,_,hat⟩:=run_append_own_at (P:=P) w base t ty e i0 z size bytes ht kB hz0 hz1 hz2 hzs hsz lv l.length (l.flatMap f) hown ⟨g0,0,none⟩ 1 1 (f y) fI hnews h1 Tam hlen hbase;have atV:ai w w':=by
  rcases hown.2 with⟨rfl,h0⟩|⟨g,cap,cur,rfl,hbg,ei,hn,hm,hs,mC⟩
  have hr:=run_append_nil (P:=P) w t ty e i0 z ht kB hz0 ⟨g0,0,none⟩ 1 1 (f y) (by rw[hz1];exact fI) hnews WC WC (by rw[hz2];have:1*bytes<=(l.length+1)*bytes:=Nat.mul_le_mul_right _ WC;omega);exact Zg4;have hno:¬l.length+1<=cap:=λ h=>hroom ⟨g,cap,rfl,h⟩;have holds:∀j u,(l.flatMap f)[j]?=some u->w.cell? ((⟨g,0,none⟩:Addr).add j)=some u:=World.ownsRow.cells hown (g:=g) rfl;have hr:=run_append_grow (P:=P) w t ty e i0 z ht kB hz0 ⟨g,0,none⟩ l.length cap (l.flatMap f) (by rw[hz1];exact hown.1) holds ⟨g0,0,none⟩ 1 1 (f y) (by rw[hz1];exact fI) hnews WC WC (by rw[hz2];exact growslice_fits WC hlen);exact Zg4
 exact⟨v',w',hrun,conv ho,AR.later atV⟩
end
def aX(v:Val):xr:=[ag v.k,af v.n,.string v.s]
def dS(k:Int):xr:=[ag k]
theorem mD:(prog.info? 44).map (λ i=>(i.zero,i.size,i.bytes))=some (some (.agg #[ag 0,af 0,au]),3,32):=by exact Zhr
theorem dX(b off n:Nat):Addr.add ⟨b,off,none⟩ n=⟨b,off+n,none⟩:=by unfold Addr.add;split;rename_i h;subst h;rfl;rfl
variable{f:α->xr}
theorem Ji{size:Nat}(hf:∀x,(f x).length=size):∀(l:List α) (i j:Nat) (x:α),l[i]?=some x->j<size->(l.flatMap f)[i*size+j]?=(f x)[j]?
 |[],i,j,x,h,hj=>by simp at h
 |y::l,0,j,x,h,hj=>by simp at h;subst h;simp only[flatMap_cons,Nat.zero_mul,Nat.zero_add];rw[getElem?_append_left (by rw[hf];exact hj)]
 |y::l,i+1,j,x,h,hj=>by have:=Ji hf l i j x Taj hj;simp only[flatMap_cons];rw[getElem?_append_right (by rw[hf,Nat.succ_mul];omega),hf,<-this];congr 1;rw[Nat.succ_mul];omega
variable{e:TypeId}{l:List α}
theorem ey{size:Nat}(hf:∀x,(f x).length=size){w:t_}{base:Nat}{v:Value}(h:aH f e size w base v l):
  ∃A c,v=.slice A l.length c/\(l=[]\/∃g,A=some ⟨g,0,none⟩/\g<w.heap.size/\∀i x j u,l[i]?=some x->j<size->(f x)[j]?=some u->w.cell? ⟨g,i*size+j,none⟩=some u):=by
 obtain⟨A,c,rfl,hr,_,hA⟩:=h.reads;refine⟨A,c,rfl,?_⟩;rcases hA with rfl|⟨g,rfl,hg⟩;exact .inl rfl;rcases eq_nil_or_concat l with rfl|hne;exact .inl rfl;have VF:0<l.length:=by obtain⟨_,_,rfl⟩:=hne;simp
 obtain⟨ad,e,hb,hc⟩:=hr.2 VF;injection e with e;subst e;refine .inr ⟨g,rfl,hb,λ i x j u hx hj hu=>?_⟩;have:=hc (i*size+j) u ((Ji hf l i j x hx hj).trans hu);rw[dX]at this;exact ZfH
theorem Jj{w:t_}{base:Nat}{v:Value}{l:w_}(h:aH aX 44 3 w base v l):∃A c,v=.slice A l.length c/\RV w w.heap.size A l:=by obtain⟨A,c,rfl,hc⟩:=ey (f:=aX) (size:=3) (λ _=>rfl) h;refine⟨A,c,rfl,?_⟩;rcases hc with hc|⟨g,rfl,hg,hc⟩;exact .inl hc;refine .inr ⟨g,0,rfl,hg,λ i x hx=>?_⟩;have k:=λ j u hj hu=>hc i x j u hx hj hu;exact⟨by simpa using k 0 _ WC rfl,by simpa using k 1 _ WC rfl,by simpa using k 2 _ WC rfl⟩
def uS(op:Int):Int:=if op=4\/op=16\/op=17 then 1 else if 10<=op/\op<=15\/op=18\/op=19 then 0 else 2
def uT(op:Int):Int:=if op=4\/10<=op/\op<=19 then 1 else 2
def uU(op:Int):Bool:=decide (10<=op/\op<=15)
def Cr(op:Int):Bool:=decide (16<=op/\op<=19)
theorem gQ.fields{w:t_}{k:Nat}{a:Int}(h:gQ w k (.agg (cJ a wa gi al nu d))):wa=uS k/\gi=uT k/\al=uU k/\nu=Cr k:=by
 unfold gQ at h;split at h
 all_goals first
  |exact h.elim
  |(simp[fo,cJ]at h;simp[uS,uT,uU,Cr];simp_all)
  |(obtain⟨q,q2,h1,_⟩:=h;simp[fo,cJ]at h1;simp[uS,uT,uU,Cr];simp_all)
  |(obtain⟨q,h1,_⟩:=h;simp[fo,cJ]at h1;simp[uS,uT,uU,Cr];simp_all)
theorem Cs{x:Ex}(h:bO x=0)(h2:x.op≠2)(h1:x.op≠1):lB x.op=true/\(x.n:Int)=rU x.op/\(x.op=20->1<=x.width/\x.width<=1099511627776):=by
 unfold bO at h;rw[if_neg (by simp[h1,h2])]at h;split at h
 ·rename_i hc;refine⟨hc.1,hc.2.1,λ e=>?_⟩;rcases hc.2.2 with h3|h3
  ·exact absurd e h3
  exact h3
 split at h<;>omega
variable{xv:Val}
theorem tG{op:Int}{name:u_}{width:Int}{A:xP}{c:Nat}(h:bO ⟨op,xv,name,width,A,l.length,c⟩=0)(h2:op=2):l=[]:=by
 subst h2;unfold bO at h;split at h
 ·rename_i hc;rcases hc with⟨h3,_⟩|⟨_,h3⟩
  ·exact absurd h3 (show¬((2:Int)=1) by decide)
  exact eq_nil_of_length_eq_zero h3
 split at h;rename_i hc;exact absurd hc.1 (show¬(lB 2=true) by decide);split at h<;>omega
def iq(op:Int):List Int->Bool
 |[k]=>ck k (uS op)
 |[k,j]=>ck k (uS op)&&(ck j (uS op)&&(!uU op||ck k j))
 |_=>false
def jm(op width:Int)(vs:w_):Val×Int:=
 if iq op (vs.map (·.k))=false then(aM,40)else if Cr op=false/\(vs.map (·.k)).any (· ==0)=true then(aM,0)else Jh op.toNat width vs
def qU(x:Ex)(vs:w_):Val×Int:=
 if bO x≠0 then(aM,bO x)else if x.op=1 then(x.v,0)else jm x.op x.width vs
def evV(base:Nat)(lv kv:Value)(vs:w_)(v:Val)(g:Nat):Nat->t_->Value->Prop
 |0=>λ _ u=>u=lv
 |1=>λ _ u=>u=.agg (aC v)
 |2=>λ w u=>∃q,u=aL q 1 1/\aB w q 44 (aX v).toArray/\some q≠lv.ownBlock
 |3=>λ w u=>aH aX 44 3 w base u (vs++[v])
 |4=>λ _ u=>u=kv
 |5=>λ _ u=>u=aw g
 |6=>λ _ u=>u=ag v.k
 |7=>λ w u=>∃q,u=aL q 1 1/\aB w q 5 (dS v.k).toArray/\some q≠lv.ownBlock
 |_=>λ _ _=>True
theorem Gt(base:Nat)(lv kv:Value)(vs:w_)(v:Val)(g:Nat)(i:Nat)(w w':t_)(u:Value)(h:evV base lv kv vs v g i w u)(hr:AR aX 44 3 base lv vs v w w'):evV base lv kv vs v g i w' u:=by unfold evV at*;split at h;exact h;exact h;exact Zim;exact hr.new _ h;exact h;exact h;exact h;exact Zim;trivial
theorem amR(h:l.length=1):∃p,l=[p]:=by
 match l,h with
 |[p],_=>exact⟨p,rfl⟩
theorem amS(h:l.length=2):∃p q,l=[p,q]:=by
 match l,h with
 |[p,q],_=>exact⟨p,q,rfl⟩
variable{β:Type}{f':β->xr}{e':TypeId}{size' base':Nat}{u u':Value}{l':List β}
theorem aH.differ{size base:Nat}{w:t_}(h:aH f e size w base u l)(h':aH f' e' size' w base' u' l')(ht:e≠e')(hq:u.ownBlock=some q):some q≠u'.ownBlock:=by intro hq';obtain⟨_,_,c1,h1⟩:=h.lt hq;obtain⟨_,_,c2,h2⟩:=h'.lt hq'.symm;exact Zh3
theorem aH.past{size base:Nat}{w:t_}(h:aH f e size w base u l)(h':aH f' e' size' w base' u' l')(hne:e≠e')(hg:w.grownBy w' u'.ownBlock):aH f e size w' base u l:=
 h.keep λ q hq=>hg.block q (h.lt hq).1 (h.differ h' hne hq)
def cC(w:t_)(b off:Nat)(y:Ex):Prop:=
 w.cell? ⟨b,off,none⟩=some (ag y.op)/\w.cell? ⟨b,off+1,none⟩=some (ag y.v.k)/\w.cell? ⟨b,off+2,none⟩=some (af y.v.n)/\w.cell? ⟨b,off+3,none⟩=some (.string y.v.s)/\
 w.cell? ⟨b,off+4,none⟩=some (.string y.name)/\w.cell? ⟨b,off+5,none⟩=some (af y.width)/\w.cell? ⟨b,off+6,none⟩=some (.slice y.A y.n y.c)
theorem cC.keep{w:t_}{b:Nat}{x:Ex}(h:cC w b off x)(hk:∀o,w'.cell? ⟨b,o,none⟩=w.cell? ⟨b,o,none⟩):cC w' b off x:=by unfold cC at*;simp only[hk];exact h
def RE(w:t_)(B:Nat)(A:xP)(l:v_):Prop:=
 l=[]\/∃b off,A=some ⟨b,off,none⟩/\b<B/\∀i x,l[i]?=some x->cC w b (off+i*7) x
theorem RE.below{w:t_}{A:xP}{l:v_}(h:RE w B A l)(hb:Below B w w'):RE w' B A l:=by exact ZcP
theorem RE.more{w:t_}{A:xP}{l:v_}(h:RE w B A l)(hB:B<=B'):RE w B' A l:=by exact Zeg
theorem RE.at_{w:t_}{A:xP}{l:v_}(h:RE w B A l){k:Nat}(hk:k<l.length):∃b off,A=some ⟨b,off,none⟩/\b<B/\cC w b (off+k*7) l[k]:=by exact Zdo
def jZ(w:t_)(cV rV:Value)(y:Ex)(v:Val)(e:Int):Prop:=∀W,ai w W->ar 17 #[.agg (ay y),cV,rV] W λ en w'=>en=.returned (bP v e)/\ai W w'
def zb8.Kan(h:p:=by exact ZbD):=h
def zb9.Kan(h:p:=by exact ZbD):=h
def zca.Kan(h:p:=by exact ZbB):=h
def zcb.Kan(h:p:=by exact ZbB):=h
def zeO.Ka1(h:p:=by
 refine(Mf g9 0 c9 v1.k _ VJ).mono ?_;rintro e w4 ⟨rfl,rfl⟩;cases hz:(v1.k==0);have NE:=aa (Fz.ae _ (show jm op width [v1]=Jh op.toNat width [v1] by unfold jm;simp only[map_cons,map_nil];rw[um.ae,hs,if_neg Tad,if_neg Tan]));open zb8 in exact ZaJ
 exact ZcD):=h
def zfm.Kbe(h:p:=by
 replace wQ:=eS wQ Lw.size;clear Lw;have um:fy (iq op [v1.k]=ck v1.k wa):=by have Nm:=HWA.ae;have NX:=BK.ae;show iq _ _=_;simp only[iq,<-Nm,<-NX]
 cases hs:ck v1.k wa;exact Za3;cases hgi:nu
 ·open zeO in exact ZcN
 subst hgi;have NE:=aa (Fz.ae _ (show jm op width [v1]=Jh op.toNat width [v1] by unfold jm;simp only[map_cons,map_nil];rw[um.ae,hs,if_neg Tad,if_neg (by have:=HGI.ae;simp[<-this])]));open zb9 in exact ZaJ):=h
def zeK.Ka0(h:p:=by have VJ:=(uG.ae.cell (p:=⟨g9,0,none⟩) lC).trans (uH 0 v1.k 0 _ rfl WC rfl);have wQ:=eS lC uG.ae.size;clear uH uG;go_wp2_with fail;refine(Gr a wa gi nu d kF g9 0 c9 v1.k _ wQ VJ).mono ?_;open zfm in exact Zdv):=h
def zeP.Ka1(h:p:=by
 refine(Mg g9 0 c9 v1.k v2.k _ VJ kc2).mono ?_;rintro e w4 ⟨rfl,rfl⟩;cases hz:(v1.k==0||v2.k==0);have NE:=aa (Fz.ae _ (show jm op width [v1,v2]=Jh op.toNat width [v1,v2] by unfold jm;simp only[map_cons,map_nil];rw[um.ae,hs,if_neg Tad,if_neg Tan]));open zca in exact ZaJ
 exact ZcD):=h
def zfn.Kbe(h:p:=by
 replace kc2:=(Lw.cell (p:=⟨g9,1,none⟩) wQ).trans kc2;replace wQ:=eS wQ Lw.size;clear Lw;have um:fy (iq op [v1.k,v2.k]=(ck v1.k wa&&(ck v2.k wa&&(!al||ck v1.k v2.k)))):=by have Nm:=HWA.ae;have NX:=BK.ae;show iq _ _=_;simp only[iq,<-Nm,<-NX]
 cases hs:(ck v1.k wa&&(ck v2.k wa&&(!al||ck v1.k v2.k)));exact Za3;cases hgi:nu
 ·open zeP in exact ZcN
 subst hgi;have NE:=aa (Fz.ae _ (show jm op width [v1,v2]=Jh op.toNat width [v1,v2] by unfold jm;simp only[map_cons,map_nil];rw[um.ae,hs,if_neg Tad,if_neg (by have:=HGI.ae;simp[<-this])]));open zcb in exact ZaJ):=h
def zeL.Ka0(h:p:=by have VJ:=(uG.ae.cell (p:=⟨g9,0,none⟩) lC).trans (uH 0 v1.k 0 _ rfl WC rfl);have kc2:=(uG.ae.cell (p:=⟨g9,1,none⟩) lC).trans (uH 1 v2.k 0 _ rfl WC rfl);have wQ:=eS lC uG.ae.size;clear uH uG;go_wp2_with fail;refine(Gs a wa gi al nu d kF g9 0 c9 v1.k v2.k _ wQ VJ kc2).mono ?_;open zfn in exact Zdv):=h
def zhB.Kb6(h:p:=by
 have Fz:fy (∀r,jm op width (args.map (·.2))=r->qU ⟨op,xv,name,width,A,args.length,c⟩ (args.map (·.2))=r):=λ r hr=>by unfold qU;rw[if_neg Tba,if_neg H1.ae];exact hr
 clear hwa yK hgi VI oq Jm ahR hOp HOI HWD hwd h1 nK oC;rcases ahT with⟨hlen,rfl⟩|hlen
 obtain⟨⟨LE,v1⟩,rfl⟩:=amR hlen;open zeK in exact ZcM
 obtain⟨⟨LE,v1⟩,⟨y2,v2⟩,rfl⟩:=amS hlen;open zeL in exact ZcM):=h
def zdG.KaI(h:p:=by have VI:=hOp.args;rw[TF]at Jn VI;obtain⟨hwa,NO,yK,hgi⟩:=Jn;clear NO;have HWD:=aa hwd;have HD:=aa (hOp.does ⟨op,xv,name,width,A,args.length,c⟩ (args.map (·.2)) (by rw[length_map,VI];exact oq) (λ u hu=>by obtain⟨z,hz,rfl⟩:=List.mem_map.1 hu;exact atW.ae z hz) (λ e=>HWD.ae (by rw[<-TF,e];rfl)));have HD0:=HD;have HDB:=aa (Below.refl _ _:Below (W3.alloc (.cells #[af a,ag wa,ag gi,.bool al,.bool nu,d] 100)).heap.size (W3.alloc (.cells #[af a,ag wa,ag gi,.bool al,.bool nu,d] 100)) (W3.alloc (.cells #[af a,ag wa,ag gi,.bool al,.bool nu,d] 100)));clear HD;open zhB in exact Zf1):=h
def zfM.Kbq(h:p:=by
 replace k1:=k1.later b2;replace cL:=cL.later b2;replace hB:=aj.then hB b2;replace Cv:=aa ((Cv.ae.below b2).more b2.size);have hR:=aB.new W3 100 #[af a,ag wa,ag gi,.bool al,.bool nu,d];have amU:=VH.later (ah W3 (.cells #[af a,ag wa,ag gi,.bool al,.bool nu,d] 100));have HOI:=aa amU;have uG:=aa b2;clear VH amU KK b2 hd;generalize b3:bO ⟨op,xv,name,width,A,args.length,c⟩=fe;have nK:=aa b3;clear b3;have z0:=k1.cell 0;have z1:=k1.cell 1;have x2:=k1.cell 2;have x3:=k1.cell 3;have x4:=k1.cell 4;have x5:=k1.cell 5;have x6:=k1.cell 6;have x0:=hR.cell 0;have x1:=hR.cell 1;have z2:=hR.cell 2;have z3:=hR.cell 3;have z4:=hR.cell 4;have z5:=hR.cell 5;simp only[Uaa]at z0 z1 x2 x3 x4 x5 x6 x0 x1 z2 z3 z4 z5;have dy:=aI cL;have iA:=aB.frozen cL;by_cases hf:fe=0
 ·subst hf;by_cases h1:op=1
  ·have HQ:=aa (show qU ⟨op,xv,name,width,A,args.length,c⟩ (args.map (·.2))=(xv,0) by unfold qU;rw[if_neg Tba,if_pos h1]);have t1:(op==1)=true:=by simpa using h1
   clear h1;exact ZeO
  open zdG in exact ZbU
 have HQ:=aa (show qU ⟨op,xv,name,width,A,args.length,c⟩ (args.map (·.2))=(aM,fe) by unfold qU;rw[if_pos (by rw[nK.ae];exact hf),nK.ae]);have t1:(fe != 0)=true:=by simpa using hf
 clear hf;go_wp2_with fail;exact bodyPost_ret (v:=.tuple #[.agg #[ag 0,af 0,.string ByteArray.empty],af fe]) Tah rfl ⟨by rw[HQ.ae];rfl,((hB.setCell bJ _).setCell bJ _).setCell bJ _⟩):=h
def zbj.Kae(h:p:=by have oC:fy (qU ⟨op,xv,name,width,A,args.length,c⟩ (args.map (·.2))=qU ⟨op,xv,name,width,A,args.length,c⟩ (args.map (·.2))):=rfl;go_wp2_with fail;refine(wP ⟨op,xv,name,width,A,args.length,c⟩ _).mono ?_;rintro e W3 ⟨oo,rfl,VH,KK⟩;clear z0 z1 x2 x3 x4 x5 x6;open zfM in exact Zd3):=h
def zgO.KbP(h:p:=by
 have No:=aB.new (w.alloc (.cells #[ag op,ag xv.k,af xv.n,.string xv.s,.string name,af width,.slice A args.length c] 46)) 44 #[ag 0,af 0,au];rw[World.size_alloc]at No;have Kx:=aj.then (ah w (.cells #[ag op,ag xv.k,af xv.n,.string xv.s,.string name,af width,.slice A args.length c] 46)) (ah _ (.cells #[ag 0,af 0,au] 44));clear x6;generalize (w.alloc (.cells #[ag op,ag xv.k,af xv.n,.string xv.s,.string name,af width,.slice A args.length c] 46)).alloc (.cells #[ag 0,af 0,au] 44)=W at*;have bJ:w.heap.size<=w.heap.size+1:=WC;generalize w.heap.size+1=g at*;go_loopw [8,9,20] (λ lv kv LT wr=>∃i:Nat,i<=args.length/\LT=af i/\aH aX 44 3 wr W.heap.size lv ((args.take i).map (·.2))/\aH dS 5 1 wr W.heap.size kv ((args.take i).map (·.2.k))/\ai W wr) (λ _ _ LT _=>args.length-(intOf LT).toNat);case atStart=>exact⟨0,gE,rfl,aH.nil,aH.nil,cX⟩
 case round=>
  obtain⟨i,hk,rfl,hO,hK,hb⟩:=hrel;have HO:=aa hO;have HK:=aa hK;clear hO hK;rcases gR i args.length with hlt|wI
  ·obtain⟨b,off,rfl,ly,hex⟩:=(HA.ae.below (Kx.trans (hb.mono Kx.size))).at_ (show i <(args.map (·.1)).length by simpa using hlt);have jR:(args.map (·.1))[i]' Tao=args[i].1:=by simp
   exact Zae
  have mC:args.take i=args:=take_of_length_le wI;rw[mC]at HO HK;clear mC;obtain⟨A8,c8,hu8,iJ⟩:=Jj HO.ae;obtain⟨A9,c9,hu9,Oe⟩:=ey (f:=dS) (size:=1) (λ _=>rfl) HK.ae;rw[length_map]at hu8 hu9;subst hu8 hu9;have k1:=HX.later hb;have cL:=No.later hb;have hB:=aj.then Kx hb;clear HO HK HX No Kx;have Cv:=aa iJ;have HKC:=aa Oe;clear iJ Oe;open zbj in exact Zay):=h
theorem Zy(op:Int)(xv:Val)(name:u_)(width:Int)(A:xP)(c:Nat)(cV rV:Value)(args:List (Ex×Val))(pJ:op≠2\/args≠[])(bc:∀a∈args,a.2.Ok)(w:t_)(hl:args.length<=1599289640356)(hA:RE w w.heap.size A (args.map (·.1)))(hE:∀a∈args,jZ w cV rV a.1 a.2 0):
  ar 17 #[.agg #[ag op,ag xv.k,af xv.n,.string xv.s,.string name,af width,.slice A args.length c],cV,rV] w λ en w'=>en=.returned (bP (qU ⟨op,xv,name,width,A,args.length,c⟩ (args.map (·.2))).1 (qU ⟨op,xv,name,width,A,args.length,c⟩ (args.map (·.2))).2)/\ai w w':=by have Jk:=aa pJ;have atW:=aa bc;clear pJ bc;have HA:=aa hA;have HE:=aa hE;clear hA hE;go_enter func17,ntmps17;have HX:=(aB.new w 46 #[ag op,ag xv.k,af xv.n,.string xv.s,.string name,af width,.slice A args.length c]).alloc (.cells #[ag 0,af 0,au] 44);open zgO in exact Ze4
def zeb.KaQ(h:p:=by
 have jR:(args.map (·.1)++bad::post)[i]' Tac=args[i].1:=by rw[getElem_append_left Tao];simp
 exact Zae):=h
def ziB.Kcv(h:p:=by
 have bG:=ah W3 (.cells #[ag 0,af 0,.string ByteArray.empty] 44);have b1:=aj.then hb (aj.then (aj.then bY KK) bG);have cL:=hR.later b1;have ez:=aj.then Kx b1;have dy:=aI cL;have iA:=aB.frozen cL;have te:(er != 0)=true:=by have:=PW.ae;simpa using this
 clear gO hex bY KK bG b1 cL HX hR Kx hb;unfold bP aM;go_wp2_with fail;exact bodyPost_ret (v:=.tuple #[.agg #[ag 0,af 0,.string ByteArray.empty],af er]) Tah rfl ⟨rfl,((ez.setCell bJ _).setCell bJ _).setCell bJ _⟩):=h
def zhH.Kb8(h:p:=by clear jR fX HO HK;open ziB in exact ZhL):=h
def zec.KaQ(h:p:=by open zhH in exact Zf3):=h
def zgP.KbP(h:p:=by
 have hR:=aB.new (w.alloc (.cells #[ag op,ag xv.k,af xv.n,.string xv.s,.string name,af width,.slice A n c] 46)) 44 #[ag 0,af 0,au];rw[World.size_alloc]at hR;have Kx:=aj.then (ah w (.cells #[ag op,ag xv.k,af xv.n,.string xv.s,.string name,af width,.slice A n c] 46)) (ah _ (.cells #[ag 0,af 0,au] 44));clear x6;generalize (w.alloc (.cells #[ag op,ag xv.k,af xv.n,.string xv.s,.string name,af width,.slice A n c] 46)).alloc (.cells #[ag 0,af 0,au] 44)=W at*;have bJ:w.heap.size<=w.heap.size+1:=WC;generalize w.heap.size+1=g at*;go_loopw [8,9,20] (λ lv kv LT wr=>∃i:Nat,i<=args.length/\LT=af i/\aH aX 44 3 wr W.heap.size lv ((args.take i).map (·.2))/\aH dS 5 1 wr W.heap.size kv ((args.take i).map (·.2.k))/\ai W wr) (λ _ _ LT _=>args.length-(intOf LT).toNat);case atStart=>exact⟨0,gE,rfl,aH.nil,aH.nil,cX⟩
 case round=>
  obtain⟨i,hk,rfl,hO,hK,hb⟩:=hrel;have HO:=aa hO;have HK:=aa hK;clear hO hK;rcases gR i args.length with hlt|wI
  ·open zeb in exact Zcv
  have fX:i=args.length:=by omega
  open zec in exact Zcv):=h
theorem Zz(op:Int)(xv:Val)(name:u_)(width:Int)(A:xP)(n c:Nat)(cV rV:Value)(args:List (Ex×Val))(bad:Ex)(er:Int)(post:v_)(hn:args.length+1+post.length=n)(w:t_)(hl:args.length<=1599289640356)(YI:n<=1599289640356)(hA:RE w w.heap.size A (args.map (·.1)++bad::post))(hE:∀a∈args,jZ w cV rV a.1 a.2 0)(kN:jZ w cV rV bad aM er)(her:er≠0):
  ar 17 #[.agg #[ag op,ag xv.k,af xv.n,.string xv.s,.string name,af width,.slice A n c],cV,rV] w λ en w'=>en=.returned (bP aM er)/\ai w w':=by have HN:=aa hn;have Jo:=aa kN;have PW:=aa her;clear hn kN her;have HA:=aa hA;have HE:=aa hE;clear hA hE;go_enter func17,ntmps17;have HX:=(aB.new w 46 #[ag op,ag xv.k,af xv.n,.string xv.s,.string name,af width,.slice A n c]).alloc (.cells #[ag 0,af 0,au] 44);open zgP in exact Ze4
inductive Tr where
 |mk (op:Int) (v:Val) (name:u_) (width:Int) (args:List Tr)
abbrev vI:=List Tr
def ZA(w:t_)(S:Nat->Prop)(A:xP)(l:v_):Prop:=
 l=[]\/∃b off,A=some ⟨b,off,none⟩/\S b/\∀i x,l[i]?=some x->cC w b (off+i*7) x
mutual
def Tr.at_(w:t_)(S:Nat->Prop):Tr->Ex->Prop
 |.mk op v name width args,y=>y.op=op/\y.v=v/\y.name=name/\y.width=width/\y.n=args.length/\∃ys,ZA w S y.A ys/\Tr.aO w S args ys
def Tr.aO(w:t_)(S:Nat->Prop):vI->v_->Prop
 |[],ys=>ys=[]
 |t::ts,ys=>∃y ys',ys=y::ys'/\Tr.at_ w S t y/\Tr.aO w S ts ys'
end
variable{S S':Nat->Prop}
theorem ZA.keep{w:t_}{A:xP}{l:v_}(h:ZA w S A l)(hk:∀b,S b->(∀o,w'.cell? ⟨b,o,none⟩=w.cell? ⟨b,o,none⟩)/\S' b):ZA w' S' A l:=by rcases h with h|⟨b,off,h1,h2,h3⟩;exact Zis;exact .inr ⟨b,off,h1,(hk b h2).2,λ i x hx=>(h3 i x hx).keep (hk b h2).1⟩
mutual
theorem Tr.at_.keep{w w':t_}{S S':Nat->Prop}(hk:∀b,S b->(∀o,w'.cell? ⟨b,o,none⟩=w.cell? ⟨b,o,none⟩)/\S' b):∀(t:Tr) (y:Ex),t.at_ w S y->t.at_ w' S' y
 |.mk op v name width args,y,h=>by unfold Tr.at_ at h⊢;obtain⟨h1,h2,h3,h4,h5,ys,h6,h7⟩:=h;exact⟨h1,h2,h3,h4,h5,ys,h6.keep hk,Tr.aO.keep hk args ys h7⟩
theorem Tr.aO.keep{w w':t_}{S S':Nat->Prop}(hk:∀b,S b->(∀o,w'.cell? ⟨b,o,none⟩=w.cell? ⟨b,o,none⟩)/\S' b):∀(ts:vI) (ys:v_),Tr.aO w S ts ys->Tr.aO w' S' ts ys
 |[],ys,h=>by unfold Tr.aO at h⊢;exact h
 |t::ts,ys,h=>by unfold Tr.aO at h⊢;obtain⟨y,ys',h1,h2,h3⟩:=h;exact⟨y,ys',h1,Tr.at_.keep hk t y h2,Tr.aO.keep hk ts ys' h3⟩
end
theorem Tr.aO.length{w:t_}:∀{ts:vI}{ys:v_},Tr.aO w S ts ys->ys.length=ts.length
 |[],ys,h=>by unfold Tr.aO at h;subst h;rfl
 |t::ts,ys,h=>by unfold Tr.aO at h;obtain⟨y,ys',rfl,_,h3⟩:=h;simp[Tr.aO.length h3]
def Old(w:t_):Nat->Prop:=λ b=>b<w.heap.size
theorem ZA.old{w:t_}{A:xP}{l:v_}(h:ZA w (Old w) A l):RE w w.heap.size A l:=h
variable{y:Ex}
theorem Tr.at_.later{w:t_}{t:Tr}(h:t.at_ w (Old w) y)(hb:ai w w'):t.at_ w' (Old w') y:=
 Tr.at_.keep (λ b hS=>⟨λ o=>hb.cell (p:=⟨b,o,none⟩) hS,eS hS hb.size⟩) t y h
variable{ts:vI}{ys:v_}
theorem Tr.aO.later{w:t_}(h:Tr.aO w (Old w) ts ys)(hb:ai w w'):Tr.aO w' (Old w') ts ys:=
 Tr.aO.keep (λ b hS=>⟨λ o=>hb.cell (p:=⟨b,o,none⟩) hS,eS hS hb.size⟩) ts ys h
mutual
def Tr.ok:Tr->Prop
 |.mk op v name width args=>v.Ok/\args.length<=1599289640356/\(0<=op/\op<=255)/\(-9223372036854775808<=width/\width<=9223372036854775807)/\(0<=v.k/\v.k<=255)/\Tr.cO args
def Tr.cO:vI->Prop
 |[]=>True
 |t::ts=>t.ok/\Tr.cO ts
end
structure aZ where
 name:u_
 t:Int
def qW(w:t_)(b off:Nat)(x:aZ):Prop:=w.cell? ⟨b,off,none⟩=some (.string x.name)/\w.cell? ⟨b,off+1,none⟩=some (ag x.t)
theorem qW.keep{w:t_}{b:Nat}{x:aZ}(h:qW w b off x)(hk:∀o,w'.cell? ⟨b,o,none⟩=w.cell? ⟨b,o,none⟩):qW w' b off x:=by unfold qW at*;simp only[hk];exact h
def RC(w:t_)(B:Nat)(A:xP)(l:List aZ):Prop:=
 l=[]\/∃b off,A=some ⟨b,off,none⟩/\b<B/\∀i x,l[i]?=some x->qW w b (off+i*2) x
theorem RC.below{w:t_}{A:xP}{l:List aZ}(h:RC w B A l)(hb:Below B w w'):RC w' B A l:=by exact ZcP
theorem RC.more{w:t_}{A:xP}{l:List aZ}(h:RC w B A l)(hB:B<=B'):RC w B' A l:=by exact Zeg
theorem RC.later{w:t_}{A:xP}{l:List aZ}(h:RC w w.heap.size A l)(hb:ai w w'):RC w' w'.heap.size A l:=(h.below hb).more hb.size
theorem RC.at_{w:t_}{A:xP}{l:List aZ}(h:RC w B A l){k:Nat}(hk:k<l.length):∃b off,A=some ⟨b,off,none⟩/\b<B/\qW w b (off+k*2) l[k]:=by exact Zdo
theorem RV.later{w:t_}{A:xP}{l:w_}(h:RV w w.heap.size A l)(hb:ai w w'):RV w' w'.heap.size A l:=(h.below hb).more hb.size
def dp(name:u_):List aZ->Nat
 |[]=>0
 |c::cs=>if (c.name.toList==name.toList)=true then 0 else dp name cs+1
def lD(name:u_)(cols:List aZ):Int:=if dp name cols<cols.length then dp name cols else -1
def Cy(cols:List aZ)(row:w_)(name:u_):Val×Int:=
 if dp name cols<cols.length/\dp name cols<row.length then
  (if good (row.getD (dp name cols) aM)=true then(row.getD (dp name cols) aM,0)else(aM,40))
 else(aM,41)
def cf:List (Val×Int)->Int
 |[]=>0
 |r::rs=>if r.2≠0 then r.2 else cf rs
def mF(cols:List aZ)(row:w_)(x:Ex)(rs:List (Val×Int)):Val×Int:=
 if cf rs≠0 then(aM,cf rs)else if bO x≠0 then(aM,bO x)else if x.op=1 then(x.v,0)else if x.op=2 then Cy cols row x.name else jm x.op x.width (rs.map (·.1))
mutual
def Tr.eval(cols:List aZ)(row:w_):Tr->Val×Int
 |.mk op v name width args=>mF cols row ⟨op,v,name,width,none,args.length,0⟩ (Tr.fN cols row args)
def Tr.fN(cols:List aZ)(row:w_):vI->List (Val×Int)
 |[]=>[]
 |t::ts=>t.eval cols row::Tr.fN cols row ts
end
theorem Tr.pK(cols:List aZ)(row:w_):∀ts,(Tr.fN cols row ts).length=ts.length
 |[]=>by simp[Tr.fN]
 |t::ts=>by simp[Tr.fN,Tr.pK cols row ts]
theorem ed:aM.Ok:=⟨by decide,by decide⟩
theorem TH(b:Bool):(bF b).Ok:=by cases b<;>exact⟨by decide,by decide⟩
theorem tH(n:Int): -9223372036854775808<=wrap64 n/\wrap64 n<=9223372036854775807:=by unfold wrap64;omega
theorem Cz{n:Int}{c:Bool}(h: -9223372036854775808<=n/\n<=9223372036854775807):(fM n c).1.Ok:=by cases c;exact ed;exact h
theorem ahU{a b:Int}(ha: -9223372036854775808<=a/\a<=9223372036854775807): -9223372036854775808<=Int.tmod a b/\Int.tmod a b<=9223372036854775807:=by
 have h:(Int.tmod a b).natAbs<=a.natAbs:=by rw[Int.natAbs_tmod];exact Nat.mod_le _ _
 have h2:0<=a->0<=Int.tmod a b:=λ h=>Int.tmod_nonneg b h;have h3:a<=0->Int.tmod a b<=0:=λ h=>by have:=Int.tmod_nonneg b (show 0<= -a by omega);rw[Int.neg_tmod]at this;omega
 omega
theorem ZB(s:Bool)(l:w_):(mB s l).Ok:=by unfold mB;repeat (first|exact ed|exact TH _|split)
theorem amY(k:Nat)(wd:Int)(l:w_)(hl:∀v∈l,v.Ok):(Jh k wd l).1.Ok:=by
 unfold Jh;split;case h_7 a b=>unfold AQ;split;exact ed;exact Cz (ahU (hl a Tad))
 all_goals first
  |exact ed
  |exact TH _
  |exact ZB _ _
  |exact Cz (tH _)
  |(unfold AP;split;exact ed;exact Cz (tH _))
theorem acH(op wd:Int)(l:w_)(hl:∀v∈l,v.Ok):(jm op wd l).1.Ok:=by unfold jm;split;exact ed;split;exact ed;exact amY _ _ _ hl
theorem ahV(cols:List aZ)(row:w_)(name:u_)(hr:∀v∈row,v.Ok):(Cy cols row name).1.Ok:=by
 unfold Cy;split
 ·rename_i h;split
  ·rw[getD_eq_getElem?_getD,getElem?_eq_getElem h.2];exact hr _ (getElem_mem h.2)
  exact ed
 exact ed
mutual
theorem Tr.acI(cols:List aZ)(row:w_)(hr:∀v∈row,v.Ok):∀t:Tr,t.ok->(t.eval cols row).1.Ok
 |.mk op v name width args,h=>by unfold Tr.ok at h;unfold Tr.eval mF;have ha:=Tr.wR cols row hr args h.2.2.2.2.2;split;exact ed;split;exact ed;split;exact h.1;split;exact ahV _ _ _ hr;refine acH _ _ _ λ u hu=>?_;obtain⟨z,hz,rfl⟩:=List.mem_map.1 hu;exact ha z hz
theorem Tr.wR(cols:List aZ)(row:w_)(hr:∀v∈row,v.Ok):∀ts:vI,Tr.cO ts->∀z∈Tr.fN cols row ts,z.1.Ok
 |[],_,z,hz=>by simp[Tr.fN]at hz
 |t::ts,h,z,hz=>by unfold Tr.cO at h;unfold Tr.fN at hz;rcases List.mem_cons.1 hz with rfl|hz;exact Tr.acI cols row hr t h.1;exact Tr.wR cols row hr ts h.2 z hz
end
theorem rY:∀(l:List (Ex×(Val×Int))),(∀a∈l,a.2.2=0)\/∃pre bad post,l=pre++bad::post/\(∀a∈pre,a.2.2=0)/\bad.2.2≠0
 |[]=>.inl Tad
 |a::l=>by
   by_cases h:a.2.2=0
   ·rcases rY l with h1|⟨pre,bad,post,h1,h2,h3⟩
    ·exact .inl (by intro x hx;rcases List.mem_cons.1 hx with rfl|hx;exact h;exact h1 x hx)
    refine .inr ⟨a::pre,bad,post,by rw[h1];rfl,?_,h3⟩;intro x hx;rcases List.mem_cons.1 hx with rfl|hx;exact h;exact h2 x hx
   exact .inr ⟨[],a,l,rfl,by simp,h⟩
theorem zU:∀{l:List (Val×Int)},(∀a∈l,a.2=0)->cf l=0
 |[],_=>rfl
 |a::l,h=>by unfold cf;rw[if_neg TaS];exact zU λ x hx=>h x Tbh
theorem Gu:∀{pre post:List (Val×Int)}{bad:Val×Int},(∀a∈pre,a.2=0)->bad.2≠0->cf (pre++bad::post)=bad.2
 |[],post,bad,_,hb=>by unfold cf;simp[hb]
 |a::pre,post,bad,h,hb=>by show cf (a::(pre++bad::post))=_;unfold cf;rw[if_neg TaS];exact Gu (λ x hx=>h x Tbh) hb
theorem PX(x:aZ)(name:u_)(g:Nat)(w:t_)(hg:aB w g 9 #[.string name]):
  ar 79 #[.agg #[.string x.name,ag x.t],aw g] w λ e w'=>e=.returned (.bool (x.name.toList==name.toList))/\ai w w':=by have c0:=(hg.alloc (.cells #[.string x.name,ag x.t] 113)).cell 0;simp only[getElem?_toArray,getElem?_cons_zero]at c0;go_enter func79,ntmps79;go_wp2_with fail;go_ret;exact⟨rfl,by go_grown⟩
theorem VK{name:u_}{c:aZ}{cs:List aZ}(h:(c.name.toList==name.toList)=false):dp name (c::cs)=dp name cs+1:=by show(if (c.name.toList==name.toList)=true then 0 else dp name cs+1)=_;rw[if_neg (by rw[h];simp)]
theorem PY{name:u_}{c:aZ}{cs:List aZ}(h:(c.name.toList==name.toList)=true):dp name (c::cs)=0:=by show(if (c.name.toList==name.toList)=true then 0 else dp name cs+1)=_;rw[if_pos h]
theorem cH{k:Nat}(h:k<l.length):l.drop k=l[k]::l.drop (k+1):=drop_eq_getElem_cons h
theorem Jp(cols:List aZ)(CA:xP)(cc:Nat)(name:u_)(g:Nat)(w:t_)(hC:RC w w.heap.size CA cols)(hg:aB w g 9 #[.string name])(hl:cols.length<=140737488355328):
  ar 78 #[.slice CA cols.length cc,.func (.func 79) #[] #[.pointer (some ⟨g,0,none⟩)]] w λ e w'=>e=.returned (.int .i64 (lD name cols))/\ai w w':=by
 have HC:=aa hC;clear hC;go_enter func78,ntmps78;go_wp2_with fail;go_loopw [5,8] (λ _ Kx wr=>∃i:Nat,i<=cols.length/\Kx=af i/\dp name cols=i+dp name (cols.drop i)/\ai w wr) (λ _ Kx _=>cols.length-(intOf Kx).toNat);case atStart=>exact⟨0,gE,rfl,by simp,cX⟩
 case round=>
  obtain⟨i,hk,rfl,hp,hb⟩:=hrel;have HP:=aa hp;clear hp;by_cases hlt:i<cols.length
  ·obtain⟨b,off,rfl,ly,hex⟩:=(HC.ae.below hb).at_ hlt;have HD:=aa (cH hlt);generalize cols[i]=x at*;unfold qW at hex;have hz:=hg.later hb;go_wp2_with fail;refine(PX x name g _ hz).mono ?_;rintro e w1 ⟨rfl,b1⟩;have hb1:=aj.then hb b1;clear hex hz b1 hb;cases hm:(x.name.toList==name.toList)
   ·go_wp2_with fail;go_roundw;case rel=>refine⟨i+1,by omega,by go_num,?_,hb1⟩;rw[HP.ae,HD.ae,VK hm];omega
    case measure=>exact Za2
   go_wp2_with fail;go_ret;refine⟨?_,hb1⟩;have BL:dp name cols=i:=by rw[HP.ae,HD.ae,PY hm];omega
   unfold lD;rw[BL,if_pos hlt];rfl
  go_wp2_with fail;go_ret;refine⟨?_,hb⟩;have BL:dp name cols=cols.length:=by rw[HP.ae,drop_eq_nil_of_le WC];unfold dp;omega
  unfold lD;rw[BL,if_neg WC];rfl
theorem Gv(cols:List aZ)(CA:xP)(cc:Nat)(name:u_)(w:t_)(hC:RC w w.heap.size CA cols)(hl:cols.length<=140737488355328):
  ar 43 #[.slice CA cols.length cc,.string name] w λ e w'=>e=.returned (af (lD name cols))/\ai w w':=by have bb:=ah w (.cells #[.string name] 9);have hg:=aB.new w 9 #[.string name];have hC2:=aa (hC.later bb);clear hC;go_enter func43,ntmps43;go_wp2_with fail;refine(Jp cols CA cc name w.heap.size _ hC2.ae hg hl).mono ?_;rintro e w1 ⟨rfl,b1⟩;have hb:=aj.then bb b1;clear b1 bb hg;exact Zfm
def zbK.Kaj(h:p:=by exact ZeI):=h
def ze5.Ka6(h:p:=by
 have dy:=aI cL;have iA:=aB.frozen cL;go_wp2_with fail;clear hst x0 x1 z2 z3 z4 z5 z6 dy iA;refine(Gv cols CA cc name _ HO.ae hl).mono ?_;rintro e w2 ⟨rfl,b3⟩;replace hR:=hR.later b3;replace cL:=cL.later b3;replace hB:=aj.then hB b3;replace HO:=aa (HO.ae.later b3);replace HK:=aa (HK.ae.later b3);clear b3;by_cases vG:dp name cols<cols.length
 ·have HP:=aa (show lD name cols=(dp name cols:Int) by unfold lD;rw[if_pos vG]);rw[HP.ae];have hc1:Cy cols row name=if dp name cols<row.length then(if good (row.getD (dp name cols) aM)=true then(row.getD (dp name cols) aM,0)else(aM,40))else(aM,41):=by unfold Cy;simp only[vG,true_and]
  have Qa:=aa hc1;clear hc1 HP;generalize dp name cols=k at*;have hk2:(k:Int)<=140737488355328:=WC;have t0:decide ((k:Int)< 0)=false:=decide_eq_false WC;by_cases hk:k<row.length
  ·have t1:decide (row.length<=k)=false:=decide_eq_false WC;obtain⟨b,off,rfl,ly,hval⟩:=HK.ae.at_ hk;have HG:=aa (show row.getD k aM=row[k] by rw[getD_eq_getElem?_getD,getElem?_eq_getElem hk];rfl);have AU:=aa (Qa.ae.trans (if_pos hk));rw[HG.ae]at AU;generalize row[k]=xv at*;have hva:=hval;unfold ej at hval;have x0:=hR.cell 0;have x1:=hR.cell 1;have z2:=hR.cell 2;have z3:=hR.cell 3;have z4:=hR.cell 4;have z5:=hR.cell 5;have z6:=hR.cell 6;simp only[Uaa]at x0 x1 z2 z3 z4 z5 z6;have dy:=aI cL;have iA:=aB.frozen cL;go_wp2_with fail;refine(wJ xv _).mono ?_;rintro e w3 ⟨rfl,Lw⟩;replace hva:=hva.keep (w':=w3) λ o=>Lw.cell (p:=⟨b,o,none⟩) ly
   clear x0 x1 z2 z3 z4 z5 z6 dy iA;replace hR:=hR.later Lw;replace cL:=cL.later Lw;replace hB:=aj.then hB Lw;replace HO:=aa (HO.ae.later Lw);replace HK:=aa (HK.ae.later Lw);clear hval Lw;unfold ej at hva;cases hg:good xv
   ·have HQ:=aa (AU.ae.trans (if_neg (by rw[hg];simp)));have x0:=hR.cell 0;have x1:=hR.cell 1;have z2:=hR.cell 2;have z3:=hR.cell 3;have z4:=hR.cell 4;have z5:=hR.cell 5;have z6:=hR.cell 6;simp only[Uaa]at x0 x1 z2 z3 z4 z5 z6;have dy:=aI cL;have iA:=aB.frozen cL;go_wp2_with fail;exact bodyPost_ret (v:=.tuple #[.agg #[ag 0,af 0,.string ByteArray.empty],af 40]) Tah rfl ⟨by rw[HQ.ae];rfl,((hB.setCell bJ _).setCell bJ _).setCell bJ _⟩
   have HQ:=aa (AU.ae.trans (if_pos hg));have x0:=hR.cell 0;have x1:=hR.cell 1;have z2:=hR.cell 2;have z3:=hR.cell 3;have z4:=hR.cell 4;have z5:=hR.cell 5;have z6:=hR.cell 6;simp only[Uaa]at x0 x1 z2 z3 z4 z5 z6;have dy:=aI cL;have iA:=aB.frozen cL;exact ZeO
  have t1:decide (row.length<=k)=true:=decide_eq_true WC;have HQ:=aa (Qa.ae.trans (if_neg hk));have x0:=hR.cell 0;have x1:=hR.cell 1;have z2:=hR.cell 2;have z3:=hR.cell 3;have z4:=hR.cell 4;have z5:=hR.cell 5;have z6:=hR.cell 6;simp only[Uaa]at x0 x1 z2 z3 z4 z5 z6;exact ZeI
 have HP:=aa (show lD name cols= -1 by unfold lD;rw[if_neg vG]);rw[HP.ae];have HQ:=aa (show Cy cols row name=(aM,41) by unfold Cy;rw[if_neg (λ h=>vG h.1)]);open zbK in exact ZaE):=h
def zgw.KbH(h:p:=by clear Jl VH x0 x1 z2 z3 z4 z5 z6 dy iA;have b3:=aj.then b1 (ah w1 (.cells #[af 0,ag 0,ag 0,.bool false,.bool false,.nilFunc] 100));replace hR:=hR.later b3;replace cL:=cL.later b3;replace hB:=aj.then hB b3;replace HO:=aa (HO.ae.later b3);open ze5 in exact ZcX):=h
def zgT.KbQ(h:p:=by
 go_wp2_with fail;have cL:=aB.new (w.alloc (.cells #[ag 2,ag Kx.k,af Kx.n,.string Kx.s,.string name,af width,.slice A 0 c] 46)) 44 #[ag 0,af 0,au];rw[World.size_alloc]at cL;have hB:=aj.then (ah w (.cells #[ag 2,ag Kx.k,af Kx.n,.string Kx.s,.string name,af width,.slice A 0 c] 46)) (ah _ (.cells #[ag 0,af 0,au] 44));replace HO:=aa (HO.ae.later hB);replace HK:=aa (HK.ae.later hB);clear z6;generalize (w.alloc (.cells #[ag 2,ag Kx.k,af Kx.n,.string Kx.s,.string name,af width,.slice A 0 c] 46)).alloc (.cells #[ag 0,af 0,au] 44)=W at*;have bJ:w.heap.size<=w.heap.size+1:=WC;generalize w.heap.size+1=g at*;go_loopw [8,9,20] (λ lv kv i wr=>lv=az/\kv=az/\i=af 0/\wr=W) (λ _ _ _ _=>0);case atStart=>exact⟨rfl,rfl,rfl,rfl⟩
 case round=>obtain⟨rfl,rfl,rfl,rfl⟩:=hrel;have x0:=hR.cell 0;have x1:=hR.cell 1;have z2:=hR.cell 2;have z3:=hR.cell 3;have z4:=hR.cell 4;have z5:=hR.cell 5;have z6:=hR.cell 6;simp only[Uaa]at x0 x1 z2 z3 z4 z5 z6;have dy:=aI cL;have iA:=aB.frozen cL;open zgw in exact ZeR):=h
theorem ZC(Kx:Val)(name:u_)(width:Int)(A:xP)(c:Nat)(cols:List aZ)(CA:xP)(cc:Nat)(row:w_)(RA:xP)(rc:Nat)(w:t_)(hC:RC w w.heap.size CA cols)(hl:cols.length<=140737488355328)(hV:RV w w.heap.size RA row)(hl2:row.length<=140737488355328):
  ar 17 #[.agg #[ag 2,ag Kx.k,af Kx.n,.string Kx.s,.string name,af width,.slice A 0 c],.slice CA cols.length cc,.slice RA row.length rc] w λ en w'=>en=.returned (bP (Cy cols row name).1 (Cy cols row name).2)/\ai w w':=by have HO:=aa hC;have HK:=aa hV;clear hC hV;go_enter func17,ntmps17;have hR:=(aB.new w 46 #[ag 2,ag Kx.k,af Kx.n,.string Kx.s,.string name,af width,.slice A 0 c]).alloc (.cells #[ag 0,af 0,au] 44);open zgT in exact Ze6
theorem uV{n:Int}{c:Bool}(h:(fM n c).2≠0):(fM n c).1=aM:=by cases c;rfl;exact absurd rfl h
theorem acJ(k:Nat)(wd:Int)(l:w_)(h:(Jh k wd l).2≠0):(Jh k wd l).1=aM:=by
 unfold Jh at*;split at h;case h_6 a b=>unfold AP at*;exact Zh7
 case h_7 a b=>unfold AQ at*;exact Zh7
 all_goals first
  |exact absurd rfl h
  |exact uV h
theorem VL(op wd:Int)(l:w_)(h:(jm op wd l).2≠0):(jm op wd l).1=aM:=by unfold jm at*;split at h;rename_i h1;rw[if_pos h1];rename_i h1;rw[if_neg h1];split at h;exact absurd rfl h;rename_i h2;rw[if_neg h2];exact acJ _ _ _ h
theorem Qb(cols:List aZ)(row:w_)(x:Ex)(rs:List (Val×Int))(h:(mF cols row x rs).2≠0):(mF cols row x rs).1=aM:=by
 unfold mF at*;split at h;rename_i h1;rw[if_pos h1];rename_i h1;rw[if_neg h1];split at h;rename_i h2;rw[if_pos h2];rename_i h2;rw[if_neg h2];split at h;exact absurd rfl h;rename_i h3;rw[if_neg h3];split at h
 ·rename_i h4;rw[if_pos h4];unfold Cy at*;split at h
  ·rename_i h5;rw[if_pos h5];split at h
   ·exact absurd rfl h
   rename_i h6;rw[if_neg h6]
  rename_i h5;rw[if_neg h5]
 rename_i h4;rw[if_neg h4];exact VL _ _ _ h
mutual
theorem Tr.VM(cols:List aZ)(row:w_):∀t:Tr,(t.eval cols row).2≠0->(t.eval cols row).1=aM
 |.mk op v name width args,h=>by unfold Tr.eval at*;exact Qb _ _ _ _ h
theorem Tr.CB(cols:List aZ)(row:w_):∀ts:vI,∀z∈Tr.fN cols row ts,z.2≠0->z.1=aM
 |[],z,hz,_=>by simp[Tr.fN]at hz
 |t::ts,z,hz,h=>by unfold Tr.fN at hz;rcases List.mem_cons.1 hz with rfl|hz;exact Tr.VM cols row t h;exact Tr.CB cols row ts z hz h
end
section
variable(cols:List aZ) (CA:xP) (cc:Nat) (row:w_) (RA:xP) (rc:Nat)
theorem ZE(op:Int)(xv:Val)(name:u_)(width:Int)(A:xP)(c:Nat)(args:List (Ex×(Val×Int)))(bc:∀a∈args,a.2.1.Ok)(hz:∀a∈args,a.2.2≠0->a.2.1=aM)(w:t_)(hl:args.length<=1599289640356)(hA:RE w w.heap.size A (args.map (·.1)))
  (hC:RC w w.heap.size CA cols) (cj:cols.length<=140737488355328) (hV:RV w w.heap.size RA row) (lQ:row.length<=140737488355328)
  (hE:∀a∈args,jZ w (.slice CA cols.length cc) (.slice RA row.length rc) a.1 a.2.1 a.2.2):
  ar 17 #[.agg #[ag op,ag xv.k,af xv.n,.string xv.s,.string name,af width,.slice A args.length c],.slice CA cols.length cc,.slice RA row.length rc] w λ en w'=>en=.returned (bP (mF cols row ⟨op,xv,name,width,none,args.length,0⟩ (args.map (·.2))).1 (mF cols row ⟨op,xv,name,width,none,args.length,0⟩ (args.map (·.2))).2)/\ai w w':=by
 rcases rY args with h0|⟨pre,bad,post,rfl,FA,kN⟩
 ·have hf:cf (args.map (·.2))=0:=zU λ a ha=>by obtain⟨z,hz,rfl⟩:=List.mem_map.1 ha;exact h0 z hz
  by_cases h2:op=2/\args=[]
  ·obtain⟨rfl,rfl⟩:=h2;have k:=ZC xv name width A c cols CA cc row RA rc w hC cj hV lQ;have e:mF cols row ⟨2,xv,name,width,none,0,0⟩ []=Cy cols row name:=by unfold mF;rw[if_neg (by simp[cf]),if_neg (by simp[bO]),if_neg Tad,if_pos (by rfl)]
   show Calls _ _ _ _ λ en w'=>en=.returned (bP (mF cols row ⟨2,xv,name,width,none,0,0⟩ []).1 (mF cols row ⟨2,xv,name,width,none,0,0⟩ []).2)/\_;rw[e];exact k
  have k:=Zy op xv name width A c (.slice CA cols.length cc) (.slice RA row.length rc) (args.map λ a=>(a.1,a.2.1)) (by
   by_cases ho:op=2
   ·right;intro h;exact h2 ⟨ho,by simpa using h⟩
   exact .inl ho) (λ a ha=>by obtain⟨z,hz,rfl⟩:=List.mem_map.1 ha;exact bc z hz) w (by simpa using hl) Tav (λ a ha=>by
   obtain⟨z,hz,rfl⟩:=List.mem_map.1 ha;have:=hE z hz;rw[h0 z hz]at this;exact this)
  rw[length_map]at k;have hm:(args.map λ a=>(a.1,a.2.1)).map (·.2)=(args.map (·.2)).map (·.1):=by simp[Function.comp_def]
  rw[hm]at k;have e:mF cols row ⟨op,xv,name,width,none,args.length,0⟩ (args.map (·.2))=qU ⟨op,xv,name,width,A,args.length,c⟩ ((args.map (·.2)).map (·.1)):=by have ahW:bO ⟨op,xv,name,width,A,args.length,c⟩=bO ⟨op,xv,name,width,none,args.length,0⟩:=rfl;unfold mF qU;exact Zck
  rw[e];exact k
 have hbz:bad.2.1=aM:=hz bad Tad kN;have hbE:=hE bad Tad;rw[hbz]at hbE;have k:=Zz op xv name width A (pre++bad::post).length c (.slice CA cols.length cc) (.slice RA row.length rc) (pre.map λ a=>(a.1,a.2.1)) bad.1 bad.2.2 (post.map (·.1)) Tac w (by simp at hl⊢;omega) hl Tav (λ a ha=>by obtain⟨z,hz',rfl⟩:=List.mem_map.1 ha;have:=hE z (by simp[hz']);rw[FA z hz']at this;exact this) hbE kN
 have hf:cf ((pre++bad::post).map (·.2))=bad.2.2:=by rw[map_append,map_cons];exact Gu (λ a ha=>by obtain⟨z,hz',rfl⟩:=List.mem_map.1 ha;exact FA z hz') kN
 have e:mF cols row ⟨op,xv,name,width,none,(pre++bad::post).length,0⟩ ((pre++bad::post).map (·.2))=(aM,bad.2.2):=by unfold mF;rw[if_pos (by rw[hf];exact kN),hf]
 rw[e];exact k
mutual
theorem Tr.Jq(cj:cols.length<=140737488355328)(lQ:row.length<=140737488355328)(hro:∀v∈row,v.Ok):∀(t:Tr) (y:Ex) (w:t_),t.ok->t.at_ w (Old w) y->RC w w.heap.size CA cols->RV w w.heap.size RA row->jZ w (.slice CA cols.length cc) (.slice RA row.length rc) y (t.eval cols row).1 (t.eval cols row).2
 |.mk op v name width args,y,w,bc,hat,hC,hV=>by
   intro W hb;have oL:=hat.later hb;unfold Tr.at_ at oL;obtain⟨h1,h2,h3,h4,h5,ys,h6,h7⟩:=oL;unfold Tr.ok at bc;obtain⟨l,fI,hl2,uW⟩:=Tr.CC cj lQ hro args ys W bc.2.2.2.2.2 h7 (hC.later hb) (hV.later hb);obtain⟨Lx,yv,lR,ir,yA,yn,yc⟩:=y;dsimp only at h1 h2 h3 h4 h5 h6;subst h1 h2 h3 h4 h5;have hlen:l.length=args.length:=by
    have:(l.map (·.2)).length=(Tr.fN cols row args).length:=by rw[hl2]
    rw[length_map,Tr.pK]at this;exact this
   have hzz:∀a∈l,a.2.1.Ok/\(a.2.2≠0->a.2.1=aM):=λ a ha=>by
    have hm:a.2∈Tr.fN cols row args:=by rw[<-hl2];exact List.mem_map.2 ⟨a,ha,rfl⟩
    exact⟨Tr.wR cols row hro args bc.2.2.2.2.2 _ hm,Tr.CB cols row args _ hm⟩
   have k:=ZE cols CA cc row RA rc Lx yv lR ir yA yc l (λ a ha=>(hzz a ha).1) (λ a ha=>(hzz a ha).2) W (by rw[hlen];exact bc.2.1) Tbf (hC.later hb) cj (hV.later hb) lQ uW;rw[hl2,hlen]at k;unfold Tr.eval;exact k
theorem Tr.CC(cj:cols.length<=140737488355328)(lQ:row.length<=140737488355328)(hro:∀v∈row,v.Ok):∀(ts:vI) (ys:v_) (w:t_),Tr.cO ts->Tr.aO w (Old w) ts ys->RC w w.heap.size CA cols->RV w w.heap.size RA row->∃l:List (Ex×(Val×Int)),l.map (·.1)=ys/\l.map (·.2)=Tr.fN cols row ts/\∀a∈l,jZ w (.slice CA cols.length cc) (.slice RA row.length rc) a.1 a.2.1 a.2.2
 |[],ys,w,_,hat,_,_=>by unfold Tr.aO at hat;subst hat;exact⟨[],rfl,by simp[Tr.fN],by simp⟩
 |t::ts,ys,w,bc,hat,hC,hV=>by unfold Tr.aO at hat;unfold Tr.cO at bc;obtain⟨y,ys',rfl,h2,h3⟩:=hat;obtain⟨l,fI,hl2,uW⟩:=Tr.CC cj lQ hro ts ys' w bc.2 h3 hC hV;refine⟨(y,t.eval cols row)::l,by simp[fI],by simp[hl2,Tr.fN],λ a ha=>?_⟩;rcases List.mem_cons.1 ha with rfl|ha;exact Tr.Jq cj lQ hro t y w bc.1 h2 hC hV;exact uW a ha
end
end
def wS(r:Val×Int):Bool×Int:=if r.2≠0 then(false,r.2)else if ck r.1.k 1=false then(false,40)else(r.1.n==1,0)
theorem amZ{w:t_}{A:xP}(h:RE w B A (y::ys)):∃b off,A=some ⟨b,off,none⟩/\b<B/\cC w b off y:=by rcases h with h|⟨b,off,h1,h2,h3⟩;cases h;refine⟨b,off,h1,h2,?_⟩;have:=h3 0 y rfl;exact ZfH
theorem ZF(A:xP)(n c:Nat)(hn:0<n)(YI:n<=1599289640356)(y:Ex)(ys:v_)(cV rV:Value)(r:Val×Int)(w:t_)(hA:RE w w.heap.size A (y::ys))(hE:jZ w cV rV y r.1 r.2):
  ar 16 #[.slice A n c,cV,rV] w λ e w'=>e=.returned (.tuple #[.bool (wS r).1,af (wS r).2])/\ai w w':=by
 obtain⟨b,off,rfl,hb,hex⟩:=amZ hA;have HE:=aa hE;clear hA hE;have t0:(n==0)=false:=Tac;have t0':((n:Int)==0)=false:=Tac;unfold cC at hex;go_enter func16,ntmps16;go_wp2_with fail;refine(HE.ae w cX).mono ?_;rintro e w1 ⟨rfl,b1⟩;clear hex t0 t0' HE;obtain⟨v,f⟩:=r;unfold bP;dsimp only;have hv:=aB.new w1 44 (aC v);have hB:=aj.then b1 (ah w1 (.cells (aC v) 44));clear b1;have cv:=aI hv;by_cases hf:f=0
 ·subst hf;go_wp2_with fail;have hg:=aB.new (w1.alloc (.cells (aC v) 44)) 5 #[ag v.k,ag 1];have bb:=ah (w1.alloc (.cells (aC v) 44)) (.cells #[ag v.k,ag 1] 5);rw[World.size_alloc]at hg;have g0:=hg.cell 0;have g1:=hg.cell 1;have glt:=hg.lt;simp only[Uaa]at g0 g1;refine(rW (w1.heap.size+1) 0 2 v.k 1 _ glt g0 g1).mono ?_;rintro e w2 ⟨rfl,b2⟩;replace hB:=aj.then (aj.then hB bb) b2;replace hv:=(hv.later bb).later b2;clear bb b2 g0 g1 glt hg cv;have cv:=aI hv;cases hgo:ck v.k 1
  ·have HQ:=aa (show wS (v,0)=(false,40) by unfold wS;rw[if_neg Tad,if_pos hgo]);go_wp2_with fail;exact bodyPost_ret (v:=.tuple #[.bool false,af 40]) TaA rfl ⟨by rw[HQ.ae],hB⟩
  have HQ:=aa (show wS (v,0)=(v.n==1,0) by unfold wS;rw[if_neg Tad,if_neg (by rw[hgo];simp)]);go_wp2_with fail;exact bodyPost_ret (v:=.tuple #[.bool (v.n==1),af 0]) TaA rfl ⟨by rw[HQ.ae],hB⟩
 have t1:(f != 0)=true:=by simpa using hf
 have HQ:=aa (show wS (v,f)=(false,f) by unfold wS;rw[if_pos hf]);clear hf;go_wp2_with fail;exact bodyPost_ret (v:=.tuple #[.bool false,af f]) TaA rfl ⟨by rw[HQ.ae],hB⟩
theorem ZG(A:xP)(c:Nat)(cV rV:Value)(w:t_):ar 16 #[.slice A 0 c,cV,rV] w λ e w'=>e=.returned (.tuple #[.bool true,af 0])/\w=w':=by go_enter func16,ntmps16;go_wp2_with fail;exact bodyPost_ret (v:=.tuple #[.bool true,af 0]) TaA rfl ⟨rfl,rfl⟩
def uI(x:Ex)(ts:List Int):Int×Int:=
 if bO x≠0 then(0,bO x)else if x.op=1 then(x.v.k,0)else if iq x.op ts=false then(0,40)else(uT x.op,0)
def ZH(w:t_)(cV:Value)(y:Ex)(t:Int):Prop:=∀W,ai w W->ar 59 #[.agg (ay y),cV] W λ en w'=>en=.returned (.tuple #[ag t,af 0])/\ai W w'
def zc3.Kaz(h:p:=by exact Zeb):=h
def zc4.Kaz(h:p:=by exact Zec):=h
def zc5.Kaz(h:p:=by exact Zeb):=h
def zc6.Kaz(h:p:=by exact Zec):=h
def zeM.Ka0(h:p:=by
 have VJ:=(uG.ae.cell (p:=⟨g9,0,none⟩) lC).trans (uH 0 v1 0 _ rfl WC rfl);have wQ:=eS lC uG.ae.size;clear uH uG;go_wp2_with fail;refine(Gr a wa gi nu d kF g9 0 c9 v1 _ wQ VJ).mono ?_;rintro e w3 ⟨rfl,b3⟩;clear x0 x1 z6 y0 y1 c2 y3 o4 o5;replace hR:=hR.later b3;replace cL:=cL.later b3;replace hB:=aj.then hB b3;clear b3;have um:fy (iq op [v1]=ck v1 wa):=by have z1:=HWA.ae;have Ly:=BK.ae;show iq _ _=_;simp only[iq,<-z1,<-Ly]
 cases hs:ck v1 wa;have HQ:=aa (Fz.ae (0,40) (by rw[um.ae,hs,if_pos rfl]));open zc3 in exact Zbj
 have HQ:=aa (Fz.ae (gi,0) Tbq);open zc4 in exact Zbj):=h
def zeN.Ka0(h:p:=by
 have VJ:=(uG.ae.cell (p:=⟨g9,0,none⟩) lC).trans (uH 0 v1 0 _ rfl WC rfl);have kc2:=(uG.ae.cell (p:=⟨g9,1,none⟩) lC).trans (uH 1 v2 0 _ rfl WC rfl);have wQ:=eS lC uG.ae.size;clear uH uG;go_wp2_with fail;refine(Gs a wa gi al nu d kF g9 0 c9 v1 v2 _ wQ VJ kc2).mono ?_;rintro e w3 ⟨rfl,b3⟩;clear x0 x1 z6 y0 y1 c2 y3 o4 o5;replace hR:=hR.later b3;replace cL:=cL.later b3;replace hB:=aj.then hB b3;clear b3;have um:fy (iq op [v1,v2]=(ck v1 wa&&(ck v2 wa&&(!al||ck v1 v2)))):=by have z1:=HWA.ae;have Ly:=BK.ae;show iq _ _=_;simp only[iq,<-z1,<-Ly]
 cases hs:(ck v1 wa&&(ck v2 wa&&(!al||ck v1 v2)));have HQ:=aa (Fz.ae (0,40) (by rw[um.ae,hs,if_pos rfl]));open zc5 in exact Zbj
 have HQ:=aa (Fz.ae (gi,0) Tbq);open zc6 in exact Zbj):=h
def zhC.Kb6(h:p:=by
 have Fz:fy (∀r,(if iq op (args.map (·.2))=false then(0,40)else(uT op,0))=r->uI ⟨op,xv,name,width,A,args.length,c⟩ (args.map (·.2))=r):=λ r hr=>by unfold uI;rw[if_neg Tba,if_neg H1.ae];exact hr
 clear hwa yK hnu hgi oq Jm ahR hOp HOI hwd h1 nK;rcases ahT with⟨hlen,rfl⟩|hlen
 obtain⟨⟨LE,v1⟩,rfl⟩:=amR hlen;open zeM in exact ZcM
 obtain⟨⟨LE,v1⟩,⟨y2,v2⟩,rfl⟩:=amS hlen;open zeN in exact ZcM):=h
def zdH.KaI(h:p:=by rw[TF]at Jn;obtain⟨hwa,hgi,yK,hnu⟩:=Jn;open zhC in exact Zf1):=h
def zfN.Kbq(h:p:=by
 replace hR:=hR.later b2;replace hB:=aj.then hB b2;have cL:=aB.new W3 100 #[af a,ag wa,ag gi,.bool al,.bool nu,d];have HOI:=aa (VH.later (ah W3 (.cells #[af a,ag wa,ag gi,.bool al,.bool nu,d] 100)));have uG:=aa b2;clear VH KK b2 hd;generalize Jl:bO ⟨op,xv,name,width,A,args.length,c⟩=fe;have nK:=aa Jl;clear Jl;have x0:=hR.cell 0;have x1:=hR.cell 1;have z6:=hR.cell 6;have y0:=cL.cell 0;have y1:=cL.cell 1;have c2:=cL.cell 2;have y3:=cL.cell 3;have o4:=cL.cell 4;have o5:=cL.cell 5;simp only[Uaa]at x0 x1 z6 y0 y1 c2 y3 o4 o5;by_cases hf:fe=0
 ·subst hf;by_cases h1:op=1
  ·have HR:=aa (show uI ⟨op,xv,name,width,A,args.length,c⟩ (args.map (·.2))=(xv.k,0) by unfold uI;rw[if_neg Tba,if_pos h1]);have t1:(op==1)=true:=by simpa using h1
   clear h1;go_wp2_with fail;exact bodyPost_ret (v:=.tuple #[ag xv.k,af 0]) Taq rfl ⟨by rw[HR.ae],hB⟩
  open zdH in exact ZbU
 have HR:=aa (show uI ⟨op,xv,name,width,A,args.length,c⟩ (args.map (·.2))=(0,fe) by unfold uI;rw[if_pos (by rw[nK.ae];exact hf),nK.ae]);have t1:(fe != 0)=true:=by simpa using hf
 clear hf;go_wp2_with fail;exact bodyPost_ret (v:=.tuple #[ag 0,af fe]) Taq rfl ⟨by rw[HR.ae],hB⟩):=h
def zbL.Kaj(h:p:=by go_wp2_with fail;refine(wP ⟨op,xv,name,width,A,args.length,c⟩ _).mono ?_;rintro e W3 ⟨oo,rfl,VH,KK⟩;clear x0 x1 z2 z3 z4 z5 z6;open zfN in exact Zd3):=h
theorem ZI(op:Int)(xv:Val)(name:u_)(width:Int)(A:xP)(c:Nat)(cV:Value)(args:List (Ex×Int))(pJ:op≠2\/args≠[])(w:t_)(hl:args.length<=1599289640356)(hA:RE w w.heap.size A (args.map (·.1)))(hE:∀a∈args,ZH w cV a.1 a.2):
  ar 59 #[.agg #[ag op,ag xv.k,af xv.n,.string xv.s,.string name,af width,.slice A args.length c],cV] w λ en w'=>en=.returned (.tuple #[ag (uI ⟨op,xv,name,width,A,args.length,c⟩ (args.map (·.2))).1,af (uI ⟨op,xv,name,width,A,args.length,c⟩ (args.map (·.2))).2])/\ai w w':=by
 have Jk:=aa pJ;have HA:=aa hA;have HE:=aa hE;clear hA hE pJ;go_enter func59,ntmps59;have hX:=aB.new w 46 #[ag op,ag xv.k,af xv.n,.string xv.s,.string name,af width,.slice A args.length c];have z6:=hX.cell 6;simp only[Uaa]at z6;go_wp2_with fail;have Kx:=ah w (.cells #[ag op,ag xv.k,af xv.n,.string xv.s,.string name,af width,.slice A args.length c] 46);clear z6;generalize w.alloc (.cells #[ag op,ag xv.k,af xv.n,.string xv.s,.string name,af width,.slice A args.length c] 46)=W at*;go_loopw [6,17] (λ kv Lw wr=>∃i:Nat,i<=args.length/\Lw=af i/\aH dS 5 1 wr W.heap.size kv ((args.take i).map (·.2))/\ai W wr) (λ _ Lw _=>args.length-(intOf Lw).toNat);case atStart=>exact Zc2
 case round=>
  obtain⟨i,hk,rfl,hp,hb⟩:=hrel;have HP:=aa hp;clear hp;rcases gR i args.length with hlt|wI
  ·obtain⟨b,off,rfl,ly,hex⟩:=(HA.ae.below (Kx.trans (hb.mono Kx.size))).at_ (show i <(args.map (·.1)).length by simpa using hlt);have jR:(args.map (·.1))[i]' Tao=args[i].1:=by simp
   exact ZaK
  have mC:args.take i=args:=take_of_length_le wI;rw[mC]at HP;clear mC;obtain⟨A9,c9,hu9,vG⟩:=ey (f:=dS) (size:=1) (λ _=>rfl) HP.ae;rw[length_map]at hu9;subst hu9;have hR:=hX.later hb;have hB:=aj.then Kx hb;clear HP hX Kx;have HKC:=aa vG;open zbL in exact ZaE
def pL(w:t_)(cV:Value)(y:Ex)(t e:Int):Prop:=∀W,ai w W->ar 59 #[.agg (ay y),cV] W λ en w'=>en=.returned (.tuple #[ag t,af e])/\ai W w'
def zed.KaQ(h:p:=by
 have jR:(args.map (·.1)++bad::post)[i]' Tac=args[i].1:=by rw[getElem_append_left Tao];simp
 exact ZaK):=h
def ziC.Kcv(h:p:=by
 have ez:=aj.then Kx (aj.then hb (aj.then bY KK));have te:(er != 0)=true:=by have:=PW.ae;simpa using this
 clear gO hex bY KK HX Kx hb;go_wp2_with fail;exact bodyPost_ret (v:=.tuple #[ag 0,af er]) Taq rfl ⟨rfl,ez⟩):=h
def zhI.Kb8(h:p:=by clear jR fX HP;open ziC in exact ZhL):=h
def zee.KaQ(h:p:=by open zhI in exact Zf3):=h
def zgQ.KbP(h:p:=by
 have Kx:=ah w (.cells #[ag op,ag xv.k,af xv.n,.string xv.s,.string name,af width,.slice A n c] 46);clear x6;generalize w.alloc (.cells #[ag op,ag xv.k,af xv.n,.string xv.s,.string name,af width,.slice A n c] 46)=W at*;go_loopw [6,17] (λ kv Lw wr=>∃i:Nat,i<=args.length/\Lw=af i/\aH dS 5 1 wr W.heap.size kv ((args.take i).map (·.2))/\ai W wr) (λ _ Lw _=>args.length-(intOf Lw).toNat);case atStart=>exact Zc2
 case round=>
  obtain⟨i,hk,rfl,hp,hb⟩:=hrel;have HP:=aa hp;clear hp;rcases gR i args.length with hlt|wI
  ·open zed in exact Zcv
  have fX:i=args.length:=by omega
  open zee in exact Zcv):=h
theorem ZJ(op:Int)(xv:Val)(name:u_)(width:Int)(A:xP)(n c:Nat)(cV:Value)(args:List (Ex×Int))(bad:Ex)(bt er:Int)(post:v_)(hn:args.length+1+post.length=n)(w:t_)(hl:args.length<=1599289640356)(YI:n<=1599289640356)(hA:RE w w.heap.size A (args.map (·.1)++bad::post))(hE:∀a∈args,ZH w cV a.1 a.2)(kN:pL w cV bad bt er)(her:er≠0):
  ar 59 #[.agg #[ag op,ag xv.k,af xv.n,.string xv.s,.string name,af width,.slice A n c],cV] w λ en w'=>en=.returned (.tuple #[ag 0,af er])/\ai w w':=by have HN:=aa hn;have Jo:=aa kN;have PW:=aa her;clear hn kN her;have HA:=aa hA;have HE:=aa hE;clear hA hE;go_enter func59,ntmps59;have HX:=aB.new w 46 #[ag op,ag xv.k,af xv.n,.string xv.s,.string name,af width,.slice A n c];open zgQ in exact Ze4
def nL(cols:List aZ)(name:u_):Int×Int:=if dp name cols<cols.length then((cols.getD (dp name cols) ⟨ByteArray.empty,0⟩).t,0)else(0,41)
def zbM.Kaj(h:p:=by go_wp2_with fail;exact bodyPost_ret (v:=.tuple #[ag 0,af 41]) Taq rfl ⟨by rw[HQ.ae],hB⟩):=h
def ze6.Ka6(h:p:=by
 go_wp2_with fail;clear hst x0 x1 z2 z3 z4 z5 z6;refine(Gv cols CA cc name _ HK.ae hl).mono ?_;rintro e w' ⟨rfl,b3⟩;replace hR:=hR.later b3;replace hB:=aj.then hB b3;replace HK:=aa (HK.ae.later b3);clear b3;by_cases vG:dp name cols<cols.length
 ·have HP:=aa (show lD name cols=(dp name cols:Int) by unfold lD;rw[if_pos vG]);rw[HP.ae];have YJ:=aa (show nL cols name=((cols.getD (dp name cols) ⟨ByteArray.empty,0⟩).t,0) by unfold nL;rw[if_pos vG]);clear HP;generalize dp name cols=k at*;have hk2:(k:Int)<=140737488355328:=by omega
  have t0:decide (0<=(k:Int))=true:=decide_eq_true WC;obtain⟨b,off,rfl,ly,PZ⟩:=HK.ae.at_ vG;have HG:=aa (show cols.getD k ⟨ByteArray.empty,0⟩=cols[k] by rw[getD_eq_getElem?_getD,getElem?_eq_getElem vG];rfl);have HQ:=YJ;rw[HG.ae]at HQ;clear YJ;generalize cols[k]=x at*;unfold qW at PZ;have x0:=hR.cell 0;have x1:=hR.cell 1;have z2:=hR.cell 2;have z3:=hR.cell 3;have z4:=hR.cell 4;have z5:=hR.cell 5;have z6:=hR.cell 6;simp only[Uaa]at x0 x1 z2 z3 z4 z5 z6;go_wp2_with fail;exact bodyPost_ret (v:=.tuple #[ag x.t,af 0]) Taq rfl ⟨by rw[HQ.ae],hB⟩
 have HP:=aa (show lD name cols= -1 by unfold lD;rw[if_neg vG]);rw[HP.ae];have HQ:=aa (show nL cols name=(0,41) by unfold nL;rw[if_neg vG]);open zbM in exact ZaE):=h
def zgx.KbH(h:p:=by clear Jl VH x0 x1 z2 z3 z4 z5 z6;have b3:=aj.then b1 (ah w1 (.cells #[af 0,ag 0,ag 0,.bool false,.bool false,.nilFunc] 100));replace hR:=hR.later b3;replace hB:=aj.then hB b3;open ze6 in exact ZcX):=h
def zgU.KbQ(h:p:=by
 go_wp2_with fail;have hB:=ah w (.cells #[ag 2,ag Kx.k,af Kx.n,.string Kx.s,.string name,af width,.slice A 0 c] 46);replace HK:=aa (HK.ae.later hB);clear z6;generalize w.alloc (.cells #[ag 2,ag Kx.k,af Kx.n,.string Kx.s,.string name,af width,.slice A 0 c] 46)=W at*;go_loopw [6,17] (λ kv i wr=>kv=az/\i=af 0/\wr=W) (λ _ _ _=>0);case atStart=>exact ZiF
 case round=>obtain⟨rfl,rfl,rfl⟩:=hrel;have x0:=hR.cell 0;have x1:=hR.cell 1;have z2:=hR.cell 2;have z3:=hR.cell 3;have z4:=hR.cell 4;have z5:=hR.cell 5;have z6:=hR.cell 6;simp only[Uaa]at x0 x1 z2 z3 z4 z5 z6;open zgx in exact ZeR):=h
theorem ZK(Kx:Val)(name:u_)(width:Int)(A:xP)(c:Nat)(cols:List aZ)(CA:xP)(cc:Nat)(w:t_)(hC:RC w w.heap.size CA cols)(hl:cols.length<=140737488355328):
  ar 59 #[.agg #[ag 2,ag Kx.k,af Kx.n,.string Kx.s,.string name,af width,.slice A 0 c],.slice CA cols.length cc] w λ en KK=>en=.returned (.tuple #[ag (nL cols name).1,af (nL cols name).2])/\ai w KK:=by have HK:=aa hC;clear hC;go_enter func59,ntmps59;have hR:=aB.new w 46 #[ag 2,ag Kx.k,af Kx.n,.string Kx.s,.string name,af width,.slice A 0 c];open zgU in exact Ze6
def iu:List (Int×Int)->Int
 |[]=>0
 |r::rs=>if r.2≠0 then r.2 else iu rs
def rZ(cols:List aZ)(x:Ex)(rs:List (Int×Int)):Int×Int:=
 if iu rs≠0 then(0,iu rs)else if bO x≠0 then(0,bO x)else if x.op=1 then(x.v.k,0)else if x.op=2 then nL cols x.name else if iq x.op (rs.map (·.1))=false then(0,40)else(uT x.op,0)
mutual
def Tr.type(cols:List aZ):Tr->Int×Int
 |.mk op v name width args=>rZ cols ⟨op,v,name,width,none,args.length,0⟩ (Tr.types cols args)
def Tr.types(cols:List aZ):vI->List (Int×Int)
 |[]=>[]
 |t::ts=>t.type cols::Tr.types cols ts
end
theorem Tr.pM(cols:List aZ):∀ts,(Tr.types cols ts).length=ts.length
 |[]=>by simp[Tr.types]
 |t::ts=>by simp[Tr.types,Tr.pM cols ts]
theorem pN:∀(l:List (Ex×(Int×Int))),(∀a∈l,a.2.2=0)\/∃pre bad post,l=pre++bad::post/\(∀a∈pre,a.2.2=0)/\bad.2.2≠0
 |[]=>.inl Tad
 |a::l=>by
   by_cases h:a.2.2=0
   ·rcases pN l with h1|⟨pre,bad,post,h1,h2,h3⟩
    ·exact .inl (by intro x hx;rcases List.mem_cons.1 hx with rfl|hx;exact h;exact h1 x hx)
    refine .inr ⟨a::pre,bad,post,by rw[h1];rfl,?_,h3⟩;intro x hx;rcases List.mem_cons.1 hx with rfl|hx;exact h;exact h2 x hx
   exact .inr ⟨[],a,l,rfl,by simp,h⟩
theorem se:∀{l:List (Int×Int)},(∀a∈l,a.2=0)->iu l=0
 |[],_=>rfl
 |a::l,h=>by unfold iu;rw[if_neg TaS];exact se λ x hx=>h x Tbh
theorem yL:∀{pre post:List (Int×Int)}{bad:Int×Int},(∀a∈pre,a.2=0)->bad.2≠0->iu (pre++bad::post)=bad.2
 |[],post,bad,_,hb=>by unfold iu;simp[hb]
 |a::pre,post,bad,h,hb=>by show iu (a::(pre++bad::post))=_;unfold iu;rw[if_neg TaS];exact yL (λ x hx=>h x Tbh) hb
section
variable(cols:List aZ) (CA:xP) (cc:Nat)
theorem ZL(op:Int)(xv:Val)(name:u_)(width:Int)(A:xP)(c:Nat)(args:List (Ex×(Int×Int)))(w:t_)(hl:args.length<=1599289640356)(hA:RE w w.heap.size A (args.map (·.1)))
  (hC:RC w w.heap.size CA cols) (cj:cols.length<=140737488355328) (hE:∀a∈args,pL w (.slice CA cols.length cc) a.1 a.2.1 a.2.2):
  ar 59 #[.agg #[ag op,ag xv.k,af xv.n,.string xv.s,.string name,af width,.slice A args.length c],.slice CA cols.length cc] w λ en w'=>en=.returned (.tuple #[ag (rZ cols ⟨op,xv,name,width,none,args.length,0⟩ (args.map (·.2))).1,af (rZ cols ⟨op,xv,name,width,none,args.length,0⟩ (args.map (·.2))).2])/\ai w w':=by
 rcases pN args with h0|⟨pre,bad,post,rfl,FA,kN⟩
 ·have hf:iu (args.map (·.2))=0:=se λ a ha=>by obtain⟨z,hz,rfl⟩:=List.mem_map.1 ha;exact h0 z hz
  by_cases h2:op=2/\args=[]
  ·obtain⟨rfl,rfl⟩:=h2;have k:=ZK xv name width A c cols CA cc w hC cj;have e:rZ cols ⟨2,xv,name,width,none,0,0⟩ []=nL cols name:=by unfold rZ;rw[if_neg (by simp[iu]),if_neg (by simp[bO]),if_neg Tad,if_pos (by rfl)]
   show Calls _ _ _ _ λ en w'=>en=.returned (.tuple #[ag (rZ cols ⟨2,xv,name,width,none,0,0⟩ []).1,af (rZ cols ⟨2,xv,name,width,none,0,0⟩ []).2])/\_;rw[e];exact k
  have k:=ZI op xv name width A c (.slice CA cols.length cc) (args.map λ a=>(a.1,a.2.1)) (by
   by_cases ho:op=2
   ·right;intro h;exact h2 ⟨ho,by simpa using h⟩
   exact .inl ho) w (by simpa using hl) Tav (λ a ha=>by
   obtain⟨z,hz,rfl⟩:=List.mem_map.1 ha;have:=hE z hz;rw[h0 z hz]at this;exact this)
  rw[length_map]at k;have hm:(args.map λ a=>(a.1,a.2.1)).map (·.2)=(args.map (·.2)).map (·.1):=by simp[Function.comp_def]
  rw[hm]at k;have e:rZ cols ⟨op,xv,name,width,none,args.length,0⟩ (args.map (·.2))=uI ⟨op,xv,name,width,A,args.length,c⟩ ((args.map (·.2)).map (·.1)):=by have ahW:bO ⟨op,xv,name,width,A,args.length,c⟩=bO ⟨op,xv,name,width,none,args.length,0⟩:=rfl;unfold rZ uI;exact Zck
  rw[e];exact k
 have hbE:=hE bad Tad;have k:=ZJ op xv name width A (pre++bad::post).length c (.slice CA cols.length cc) (pre.map λ a=>(a.1,a.2.1)) bad.1 bad.2.1 bad.2.2 (post.map (·.1)) Tac w (by simp at hl⊢;omega) hl Tav (λ a ha=>by obtain⟨z,hz',rfl⟩:=List.mem_map.1 ha;have:=hE z (by simp[hz']);rw[FA z hz']at this;exact this) hbE kN
 have hf:iu ((pre++bad::post).map (·.2))=bad.2.2:=by rw[map_append,map_cons];exact yL (λ a ha=>by obtain⟨z,hz',rfl⟩:=List.mem_map.1 ha;exact FA z hz') kN
 have e:rZ cols ⟨op,xv,name,width,none,(pre++bad::post).length,0⟩ ((pre++bad::post).map (·.2))=(0,bad.2.2):=by unfold rZ;rw[if_pos (by rw[hf];exact kN),hf]
 rw[e];exact k
mutual
theorem Tr.pO(cj:cols.length<=140737488355328):∀(t:Tr) (y:Ex) (w:t_),t.ok->t.at_ w (Old w) y->RC w w.heap.size CA cols->pL w (.slice CA cols.length cc) y (t.type cols).1 (t.type cols).2
 |.mk op v name width args,y,w,bc,hat,hC=>by
   intro W hb;have oL:=hat.later hb;unfold Tr.at_ at oL;obtain⟨h1,h2,h3,h4,h5,ys,h6,h7⟩:=oL;unfold Tr.ok at bc;obtain⟨l,fI,hl2,uW⟩:=Tr.CD cj args ys W bc.2.2.2.2.2 h7 (hC.later hb);obtain⟨Lx,yv,lR,ir,yA,yn,yc⟩:=y;dsimp only at h1 h2 h3 h4 h5 h6;subst h1 h2 h3 h4 h5;have hlen:l.length=args.length:=by
    have:(l.map (·.2)).length=(Tr.types cols args).length:=by rw[hl2]
    rw[length_map,Tr.pM]at this;exact this
   have k:=ZL cols CA cc Lx yv lR ir yA yc l W (by rw[hlen];exact bc.2.1) Tbf (hC.later hb) cj uW;rw[hl2,hlen]at k;unfold Tr.type;exact k
theorem Tr.CD(cj:cols.length<=140737488355328):∀(ts:vI) (ys:v_) (w:t_),Tr.cO ts->Tr.aO w (Old w) ts ys->RC w w.heap.size CA cols->∃l:List (Ex×(Int×Int)),l.map (·.1)=ys/\l.map (·.2)=Tr.types cols ts/\∀a∈l,pL w (.slice CA cols.length cc) a.1 a.2.1 a.2.2
 |[],ys,w,_,hat,_=>by unfold Tr.aO at hat;subst hat;exact⟨[],rfl,by simp[Tr.types],by simp⟩
 |t::ts,ys,w,bc,hat,hC=>by unfold Tr.aO at hat;unfold Tr.cO at bc;obtain⟨y,ys',rfl,h2,h3⟩:=hat;obtain⟨l,fI,hl2,uW⟩:=Tr.CD cj ts ys' w bc.2 h3 hC;refine⟨(y,t.type cols)::l,by simp[fI],by simp[hl2,Tr.types],λ a ha=>?_⟩;rcases List.mem_cons.1 ha with rfl|ha;exact Tr.pO cj t y w bc.1 h2 hC;exact uW a ha
end
end
theorem wT:prog.cellsOf 5=1:=by exact Zhr
theorem tI:prog.cellsOf 2=1:=by exact Zhr
theorem gS:prog.cellsOf 9=1:=by exact Zhr
theorem nM:prog.cellsOf 44=3:=by exact Zhr
theorem TI{n:Int}(h:(Lit.int .u8 n).wf=true):0<=n/\n<=255:=ZhS
section
variable{H:Type}{enc:TypeId×Value->H}{w:t_}{base:Nat}{spare:Nat->Bool}{held:Bool}{fuel:Nat}{cs:xr}{x:DataW H×List MemPlace}
theorem Jr{n:Int}(h:(Lit.int .i64 n).wf=true): -9223372036854775808<=n/\n<=9223372036854775807:=ZhS
theorem ZM(h:DataW.trod enc prog w base spare held fuel 44 cs=some x):∃a:Val,cs=[ag a.k,af a.n,.string a.s]/\a.Ok/\0<=a.k/\a.k<=255:=by
 obtain⟨xs,n,_,_,hl,hlen,hf⟩:=DataW.trod_struct underlying44 h;rw[nM]at hl
 match cs,hl with
 |[c0,c1,c2],_=>
   have get:∀i,i<3->∃y,xs[i]?=some y:=λ i hi=>⟨xs[i]'(by simp at hlen;omega),getElem?_eq_getElem _⟩;obtain⟨y0,e0⟩:=get 0 WC;obtain⟨y1,e1⟩:=get 1 WC;obtain⟨y2,e2⟩:=get 2 WC;have t0:DataW.trod enc prog w base spare held n 5 (([c0,c1,c2].drop 0).take (prog.cellsOf 5))=some y0:=(hf 0 _ rfl).trans e0;have t1:DataW.trod enc prog w base spare held n 2 (([c0,c1,c2].drop 1).take (prog.cellsOf 2))=some y1:=(hf 1 _ rfl).trans e1;have t2:DataW.trod enc prog w base spare held n 9 (([c0,c1,c2].drop 2).take (prog.cellsOf 9))=some y2:=(hf 2 _ rfl).trans e2;rw[wT]at t0;rw[tI]at t1;rw[gS]at t2;simp only[drop_succ_cons,drop_zero,take_succ_cons,take_zero]at t0 t1 t2;obtain⟨n0,q0,_,f0⟩:=DataW.trod_int underlying5 t0;obtain⟨n1,q1,_,f1⟩:=DataW.trod_int underlying2 t1;obtain⟨s,q2,_,f2⟩:=DataW.trod_string underlying9 t2;simp at q0 q1 q2;subst q0 q1 q2;exact⟨⟨n0,n1,s⟩,rfl,Jr f1,TI f0⟩
end
theorem pick{P:Nat->α->Prop}:∀n,(∀i,i<n->∃x,P i x)->∃l:List α,l.length=n/\∀i x,l[i]?=some x->P i x
 |0,_=>⟨[],rfl,λ i x h=>by simp at h⟩
 |n+1,h=>by obtain⟨l,hl,hp⟩:=pick n λ i hi=>h i WC;obtain⟨y,hy⟩:=h n WC;refine⟨l++[y],by simp[hl],λ i x hx=>?_⟩;rcases Nat.lt_trichotomy i n with hi|hi|hi;rw[getElem?_append_left WC]at hx;exact hp i x hx;subst hi;rw[getElem?_append_right WC,hl]at hx;simp at hx;subst hx;exact hy;rw[getElem?_eq_none Tac]at hx;cases hx
theorem kG{w:t_}{a:Addr}{v:Value}(h:w.cell? a=some v):a.block<w.heap.size/\a.spot=none:=by
 unfold World.cell? at h;split at h
 ·rename_i hb;refine⟨?_,?_⟩
  ·rcases gR a.block w.heap.size with h'|h'
   ·exact h'
   rw[Array.getElem?_eq_none h']at hb;cases hb
  split at h;cases h;rename_i hs;simpa using hs
 cases h
end Go.Proofs.YtndgjggokjickaaGreatDoor
