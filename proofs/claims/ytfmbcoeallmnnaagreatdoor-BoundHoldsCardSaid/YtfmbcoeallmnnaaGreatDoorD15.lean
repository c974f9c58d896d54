/- Parts of the proof. -/
import Derived.Laws.CopyOwn
import Derived.Test.YtfmbcoeallmnnaaGreatDoorD14
namespace Go.Proofs.YtfmbcoeallmnnaaGreatDoor
open Go.ChangeShapes Go.WideShapes Go.ChangeAt Go.RowKit
set_option linter.unusedVariables false
structure ot where
 i:Nat
 T:TypeId
 c:Array Value
 s:Nat
 d:Array Value
def ot.now (x:ot)(B:Nat)(σ:Nat→Option Value)(w:World):Prop:=
 match σ x.i with
 | none=>σ x.s=none
 | some v=>∃g,v=.pointer (some ⟨g,0,none⟩)∧B≤g∧ag w g x.T (if (σ x.s).isSome=true then x.d else x.c)
def fK (X:List ot)(i:Nat):Bool:=X.any fun x=>x.i==i || x.s==i
def Na (X:List ot)(CL:List Nat)(n:Nat):Bool:=
 decide (X.map (·.i)++X.map (·.s)++CL).Nodup && X.all (fun x=>decide (x.i < n))&& CL.all (fun i=>decide (i < n))
structure UU (B n:Nat) (w0:World) (u:Nat→Value) (X:List ot) (σ:Nat→Option Value) (w:World):Prop where
 b:Below B w0 w
 now:∀x∈X,x.now B σ w
 apart:∀x∈X,∀y∈X,x.i≠y.i→∀v,σ x.i=some v→σ y.i≠some v
 u:∀i v,σ i=some v→fK X i=false→v=u i
 far:∀i,n≤i→σ i=none
def nH (P:Program)(l:List Oper)(u:Nat→Value)(X:List ot)(CL:List Nat)(a0:Act)(B:Nat)(w0:World)(i:Nat)(o:Oper):Prop:=
 o.guard=none∧
 match X.find? (fun x=>x.i==i)with
 | some x=>∀ρ w,fk ρ→(execOp ρ o).run P w=.ok (.value (.pointer (some ⟨w.heap.size,0,none⟩))) (w.alloc (.cells x.c x.T))
 | none=>match X.find? (fun x=>x.s==i)with
   | some x=>(cj o).contains x.i=true∧∀ρ w g,fk ρ→ag w g x.T x.c→cL l (fun j _ v=>if j=x.i then v=.pointer (some ⟨g,0,none⟩)else fK X j=false→v=u j) a0.eval ρ w o (tmpsOf o)→
      ∃w',(execOp ρ o).run P w=.ok .skip w'∧ag w' g x.T x.d∧w.grownBy w' (some g)
   | none=>∀ρ w,fk ρ→Below B w0 w→cL l (fun j _ v=>fK X j=false→v=u j) a0.eval ρ w o (tmpsOf o)→
      if CL.contains i=true then nw P o ρ w fun v w'=>v=u i∧Below w.heap.size w w' else(execOp ρ o).run P w=.ok (.value (u i)) w
def sH (P:Program)(l:List Oper)(u:Nat→Value)(X:List ot)(CL:List Nat)(a0:Act)(B:Nat)(w0:World):List Oper→Nat→Prop
 | [],_=>True
 | o::rest,i=>nH P l u X CL a0 B w0 i o∧sH P l u X CL a0 B w0 rest (i+1)
theorem nI {l:List Oper} {V V':Nat→World→Value→Prop} {Hy ρ:Operand→Value} {w:World} {o:Oper}(h:∀j v,V j w v→V' j w v):∀ {ts:List Tmp},cL l V Hy ρ w o ts→cL l V' Hy ρ w o ts
 | [],_=>trivial
 | t::ts,hr=>by
   unfold cL at hr ⊢;refine⟨?_,nI h hr.2⟩;have h1:=hr.1;cases hs:ed l o t with
   | none=>rw[hs] at h1;exact h1
   | some j=>rw[hs] at h1;exact h _ _ h1
theorem tR {V V':Nat→World→Value→Prop} {K:Act→World→Prop} {w:World}(h:∀j v,V j w v→V' j w v):∀ {l:List Oper} {i:Nat} {a:Act},cN V' K l i a w→cN V K l i a w
 | [],_,_,hf=>hf
 | o::l,i,a,hf=>by
   unfold cN at hf ⊢;cases ho:o.dst with
   | none=>rw[ho] at hf;exact tR h hf
   | some d=>rw[ho] at hf;exact fun v hv=>tR h (hf v (h _ _ hv))
theorem rh {B n:Nat} {w0 w w':World} {u:Nat→Value} {X:List ot} {σ:Nat→Option Value}(hB:B≤w0.heap.size)(h:UU B n w0 u X σ w)(hl:Below w.heap.size w w'):UU B n w0 u X σ w':=
 ⟨h.b.trans (hl.mono (Nat.le_trans hB h.b.size)),fun x hx=>by
   have:=h.now x hx
   unfold ot.now at this ⊢
   cases he:σ x.i with
   | none=>rw[he] at this;exact this
   | some v=>
     rw[he] at this
     obtain⟨g,h1,h2,h3⟩:=this
     exact⟨g,h1,h2,h3.later hl⟩,h.apart,h.u,h.far⟩
theorem nJ {X:List ot} {x:ot}(h:x∈X):fK X x.i=true:=by unfold fK;exact List.any_eq_true.2 ⟨x,h,by simp⟩
theorem sI {X:List ot} {x:ot}(h:x∈X):fK X x.s=true:=by unfold fK;exact List.any_eq_true.2 ⟨x,h,by simp⟩
theorem uO {P:Program} {L:List Oper} {u:Nat→Value} {X:List ot} {CL:List Nat} {a0:Act} {B:Nat} {w0:World}:∀ {l:List Oper} {k:Nat},sH P L u X CL a0 B w0 l k→∀i o,l[i]?=some o→nH P L u X CL a0 B w0 (k+i) o
 | [],_,_,i,o,h=>by simp at h
 | x::l,k,hs,0,o,h=>by simp at h;subst h;exact hs.1
 | x::l,k,hs,i+1,o,h=>by have:=uO hs.2 i o (by simpa using h);rwa [show k+1+i=k+(i+1) by omega] at this
theorem zU {P:Program} {L:List Oper} {u:Nat→Value} {M:List Nat} {G:(Nat→Option Value)→World→Prop} {a0:Act}:∀(l:List Oper) (k:Nat),(∀i o,l[i]?=some o→MZ P L u M G a0 (k+i) o)→Bl P L u M G a0 l k
 | [],_,_=>trivial
 | x::l,k,h=>⟨h 0 x rfl,zU l (k+1) fun i o hi=>by
    have:=h (i+1) o (by simpa using hi)
    rwa [show k+(i+1)=k+1+i by omega] at this⟩
theorem map_inj {f:ot→Nat}:∀ {X:List ot},(X.map f).Nodup→∀x∈X,∀y∈X,f x=f y→x=y
 | [],_,x,hx,_,_,_=>by cases hx
 | a::X,h,x,hx,y,hy,e=>by
   rw[List.map_cons,List.nodup_cons] at h;rcases List.mem_cons.1 hx with rfl | hx2
   ·rcases List.mem_cons.1 hy with rfl | iq
    ·rfl
    ·exact absurd (e▸List.mem_map_of_mem iq) h.1
   ·rcases List.mem_cons.1 hy with rfl | iq
    ·exact absurd (e▸List.mem_map_of_mem hx2) h.1
    ·exact map_inj h.2 x hx2 y iq e
theorem Nb {P:Program} {o:Oper} {ρ:Operand→Value} {w:World} {T T':Value→World→Prop}(h:nw P o ρ w T)(k:∀v w',T v w'→T' v w'):nw P o ρ w T':=by
 unfold nw at h ⊢;split at h
 ·exact k _ _ h
 ·exact k _ _ h
 ·exact h.mono fun e w'' ⟨v,h1,h2⟩=>⟨v,h1,k _ _ h2⟩
 ·exact h.elim
theorem Dl {X:List ot} {p:ot→Bool} {x:ot}(h:X.find? p=some x):x∈X∧p x=true:=⟨List.mem_of_find?_eq_some h,List.find?_some h⟩
theorem FQ {X:List ot} {i:Nat}(h:fK X i=true):(∃x,X.find? (fun x=>x.i==i)=some x)∨(X.find? (fun x=>x.i==i)=none∧∃x,X.find? (fun x=>x.s==i)=some x):=by
 cases h1:X.find? (fun x=>x.i==i)with
 | some x=>exact .inl ⟨x,rfl⟩
 | none=>
   refine .inr ⟨rfl,?_⟩;cases h2:X.find? (fun x=>x.s==i)with
   | some x=>exact⟨x,rfl⟩
   | none=>
     exfalso;obtain⟨x,hx,hp⟩:=List.any_eq_true.1 h;rw[List.find?_eq_none] at h1 h2;have a1:=h1 x hx;have a2:=h2 x hx;rw[Bool.or_eq_true] at hp;rcases hp with hp | hp
     ·exact a1 hp
     ·exact a2 hp
def FT (X:List ot)(CL:List Nat)(n:Nat):List Nat:=(X.map (·.i)++X.map (·.s)).filter (fun i=>decide (i < n))++CL
def uP (σ:Nat→Option Value)(i:Nat):Nat:=match σ i with | some (.pointer (some p))=>p.block | _=>0
section
variable {P:Program} {Q:Exit→Act→World→Prop} {a0:Act} {w0:World}
theorem Bn {id:Nat} {ops:List Oper}(k:Nat)(u:Nat→Value)(X:List ot)(CL:List Nat)(hm:P.follows .mixedOrders=true)(aZ:bX (ops.take k) a0.tmps.size (ops.take k) 0=true)(hz:cH ops (ops.drop k) (ops.take k).length=true)
  (hX:Na X CL (ops.take k).length=true) (hs:sH P (ops.take k) u X CL a0 w0.heap.size w0 (ops.take k) 0)
  (hf:∀w (g:Nat→Nat),Below w0.heap.size w0 w→(∀x∈X,w0.heap.size≤g x.i∧ag w (g x.i) x.T (if x.s <(ops.take k).length then x.d else x.c))→(∀x∈X,∀y∈X,x.i≠y.i→g x.i≠g y.i)→
    cN (fun j _ v=>if X.any (fun x=>x.i==j)=true then v=.pointer (some ⟨g j,0,none⟩)else fK X j=false→v=u j) (fun a w=>wpList P ops.toArray Q (ops.drop k) a w) (ops.take k) 0 a0 w):
  (Code.region id ops.toArray true).wp P Q a0 w0:=by
 obtain⟨l,hl⟩:∃l,l=ops.take k:=⟨_,rfl⟩;rw[← hl] at aZ hz hX hs hf;simp only[Na,Bool.and_eq_true,decide_eq_true_eq,List.all_eq_true] at hX;obtain⟨⟨MW,YA⟩,dT⟩:=hX;have hni:∀x∈X,∀y∈X,x.i=y.i→x=y:=map_inj (List.nodup_append.1 (List.nodup_append.1 MW).1).1;have vp:∀x∈X,∀y∈X,x.s=y.s→x=y:=map_inj (List.nodup_append.1 (List.nodup_append.1 MW).1).2.1;have qm:∀x∈X,∀y∈X,x.i≠y.s:=fun x hx y hy=>(List.nodup_append.1 (List.nodup_append.1 MW).1).2.2 x.i (List.mem_map_of_mem hx) y.s (List.mem_map_of_mem hy)
 have hCL:∀i∈CL,fK X i=false:=by
  intro i hi;cases hc:fK X i with
  | false=>rfl
  | true=>
    exfalso;obtain⟨x,hx,hp⟩:=List.any_eq_true.1 hc;rw[Bool.or_eq_true,beq_iff_eq,beq_iff_eq] at hp;rcases hp with rfl | rfl
    ·exact(List.nodup_append.1 MW).2.2 x.i (List.mem_append.2 (.inl (List.mem_map_of_mem hx))) x.i hi rfl
    ·exact(List.nodup_append.1 MW).2.2 x.s (List.mem_append.2 (.inr (List.mem_map_of_mem hx))) x.s hi rfl
 have hM:∀i,i∈FT X CL l.length↔(i < l.length∧fK X i=true)∨i∈CL:=by
  intro i;unfold FT fK;rw[List.mem_append,List.mem_filter,List.mem_append,List.mem_map,List.mem_map,List.any_eq_true,decide_eq_true_eq];constructor
  ·rintro(⟨⟨x,hx,rfl⟩|⟨x,hx,rfl⟩,h2⟩| h)
   ·exact .inl ⟨h2,x,hx,by simp⟩
   ·exact .inl ⟨h2,x,hx,by simp⟩
   ·exact .inr h
  ·rintro(⟨h2,x,hx,hp⟩| h)
   ·rw[Bool.or_eq_true,beq_iff_eq,beq_iff_eq] at hp;rcases hp with rfl | rfl
    ·exact .inl ⟨.inl ⟨x,hx,rfl⟩,h2⟩
    ·exact .inl ⟨.inr ⟨x,hx,rfl⟩,h2⟩
   ·exact .inr h
 have ow:ops=l++ops.drop k:=by rw[hl];exact(List.take_append_drop k ops).symm
 refine Dk (ops.drop k) l ow u (FT X CL l.length) (UU w0.heap.size l.length w0 u X) (fun σ w h=>rh (Nat.le_refl _) h ((Below.refl _ _).drew)) ⟨Below.refl _ _,fun _ _=>rfl,fun _ _ _ _ _ _ h=>(by cases h),fun _ _ h=>(by cases h),fun _ _=>rfl⟩ hm aZ (by rw[← ow];exact hz) ?_ ?_ ?_
 ·rw[List.all_eq_true];intro i hi;rw[decide_eq_true_eq];rcases(hM i).1 hi with h | h
  ·exact h.1
  ·exact dT i h
 ·refine zU l 0 fun i o hi=>?_
  have hst:=uO hs i o hi;rw[Nat.zero_add] at hst ⊢;have qz:i < l.length:=by
   rcases Nat.lt_or_ge i l.length with h | h
   ·exact h
   ·rw[List.getElem?_eq_none h] at hi;cases hi
  obtain⟨hg,hst⟩:=hst;intro ρ w σ hc hG hr he hn;refine⟨hg,?_⟩;have SU:∀j v,vv u (FT X CL l.length) σ j w v→fK X j=false→v=u j:=by
   intro j v hv hj;unfold vv at hv;split at hv
   ·exact hG.u j v hv hj
   ·exact hv
  cases YB:X.find? (fun x=>x.i==i)with
  | some x=>
    rw[YB] at hst;obtain⟨hx,QQ⟩:=Dl YB;have QQ:x.i=i:=by simpa using QQ
    subst QQ;have AU:x.i∈FT X CL l.length:=(hM _).2 (.inl ⟨qz,nJ hx⟩);rw[if_pos AU];refine ai (hst ρ w hc) ?_;have hl2:Below w.heap.size w (w.alloc (.cells x.c x.T)):=((Below.refl _ _).alloc (Nat.le_refl _) _);have SV:=rh (Nat.le_refl _) hG hl2;have M7:=hn AU;refine⟨SV.b,fun y hy=>?_,fun y hy z hz SX v hv hv2=>?_,fun j v hv hj=>?_,fun j hj=>?_⟩
    ·by_cases Bo:y=x
     ·subst Bo;unfold ot.now;rw[ju];refine⟨_,rfl,hG.b.size,?_⟩;have hs0:σ y.s=none:=by have:=hG.now y hy;unfold ot.now at this;rw[M7] at this;exact this
      rw[dx _ _ (fun e=>qm y hy y hy e.symm),hs0];exact ag.new _ _ _
     ·have:=SV.now y hy;unfold ot.now at this ⊢;rw[dx _ _ (fun e=>Bo (hni y hy x hx e)),dx _ _ (fun e=>qm x hx y hy e.symm)];exact this
    ·by_cases Bo:y.i=x.i
     ·have F8:z.i≠x.i:=fun e=>SX (by rw[Bo,e])
      rw[Bo,ju] at hv;rw[dx _ _ F8] at hv2;injection hv with hv;subst hv;have:=hG.now z hz;unfold ot.now at this;rw[hv2] at this;obtain⟨g,hg1,_,hg3⟩:=this;have:w.heap.size=g:=by injection hg1 with hg1;injection hg1 with hg1;injection hg1
      have:=hg3.lt;omega
     ·rw[dx _ _ Bo] at hv;by_cases F8:z.i=x.i
      ·rw[F8,ju] at hv2;injection hv2 with hv2;subst hv2;have:=hG.now y hy;unfold ot.now at this;rw[hv] at this;obtain⟨g,hg1,_,hg3⟩:=this;have:w.heap.size=g:=by injection hg1 with hg1;injection hg1 with hg1;injection hg1
       have:=hg3.lt;omega
      ·rw[dx _ _ F8] at hv2;exact hG.apart y hy z hz SX v hv hv2
    ·have UW:j≠x.i:=fun e=>by subst e;rw[nJ hx] at hj;cases hj
     rw[dx _ _ UW] at hv;exact hG.u j v hv hj
    ·have UW:j≠x.i:=fun e=>by omega
     rw[dx _ _ UW];exact hG.far j hj
  | none=>
    rw[YB] at hst;cases bp:X.find? (fun x=>x.s==i)with
    | some x=>
      rw[bp] at hst;obtain⟨hx,QQ⟩:=Dl bp;have QQ:x.s=i:=by simpa using QQ
      subst QQ;obtain⟨hed,hst⟩:=hst;have AU:x.s∈FT X CL l.length:=(hM _).2 (.inl ⟨qz,sI hx⟩);have SI:x.i∈FT X CL l.length:=(hM _).2 (.inl ⟨YA x hx,nJ hx⟩);rw[if_pos AU];have qH:=hn AU;have hsome:=he x.i (by simpa using hed) SI;have UX:=hG.now x hx;unfold ot.now at UX;cases PZ:σ x.i with
      | none=>rw[PZ] at hsome;cases hsome
      | some v0=>
        rw[PZ] at UX;obtain⟨g,rfl,Mu,hblk⟩:=UX;rw[qH] at hblk;obtain⟨w',hrun,hd,hgr⟩:=hst ρ w g hc hblk (nI (fun j v hv=>by
         by_cases hj:j=x.i
         ·rw[if_pos hj]
          unfold vv at hv
          rw[if_pos (by rw[hj];exact SI),hj,PZ] at hv
          injection hv with hv
          exact hv.symm
         ·rw[if_neg hj]
          exact SU j v hv) hr)
        refine wy hrun ?_;have hl2:Below w0.heap.size w w':=⟨hgr.os,hgr.tape,hgr.output,hgr.size,fun k hk=>hgr.block k (Nat.lt_of_lt_of_le hk hG.b.size) (fun e=>by injection e with e;omega)⟩;refine⟨hG.b.trans hl2,fun y hy=>?_,fun y hy z hz SX v hv hv2=>?_,fun j v hv hj=>?_,fun j hj=>?_⟩
        ·by_cases Bo:y=x
         ·subst Bo;unfold ot.now;rw[dx _ _ (qm y hy y hy),PZ,ju];exact⟨g,rfl,Mu,hd⟩
         ·have:=hG.now y hy;unfold ot.now at this ⊢;rw[dx _ _ (qm y hy x hx),dx _ _ (fun e=>Bo (vp y hy x hx e))];cases iq:σ y.i with
          | none=>rw[iq] at this;exact this
          | some v1=>rw[iq] at this;obtain⟨g1,rfl,h2,h3⟩:=this;refine⟨g1,rfl,h2,h3.grown hgr fun e=>?_⟩;injection e with e;subst e;exact hG.apart x hx y hy (fun e=>Bo (hni y hy x hx e.symm)) _ PZ iq
        ·rw[dx _ _ (qm y hy x hx)] at hv;rw[dx _ _ (qm z hz x hx)] at hv2;exact hG.apart y hy z hz SX v hv hv2
        ·have UW:j≠x.s:=fun e=>by subst e;rw[sI hx] at hj;cases hj
         rw[dx _ _ UW] at hv;exact hG.u j v hv hj
        ·have UW:j≠x.s:=fun e=>by omega
         rw[dx _ _ UW];exact hG.far j hj
    | none=>
      rw[bp] at hst;have za:fK X i=false:=by
       cases hc2:fK X i with
       | false=>rfl
       | true=>
         rcases FQ hc2 with ⟨x,hx⟩|⟨_,x,hx⟩
         ·rw[hx] at YB;cases YB
         ·rw[hx] at bp;cases bp
      have hrun:=hst ρ w hc hG.b (nI SU hr);by_cases Dm:i∈CL
      ·rw[if_pos (by simpa using Dm)] at hrun;rw[if_pos ((hM i).2 (.inr Dm))];refine Nb hrun ?_;rintro v w' ⟨rfl,hb⟩;have SV:=rh (Nat.le_refl _) hG hb;have hcs:∀y∈X,y.i≠i∧y.s≠i:=fun y hy=>⟨fun e=>(by subst e;rw[nJ hy] at za;cases za),fun e=>(by subst e;rw[sI hy] at za;cases za)⟩
       refine⟨SV.b,fun y hy=>?_,fun y hy z hz SX v hv hv2=>?_,fun j v hv hj=>?_,fun j hj=>?_⟩
       ·have:=SV.now y hy;unfold ot.now at this ⊢;rw[dx _ _ (hcs y hy).1,dx _ _ (hcs y hy).2];exact this
       ·rw[dx _ _ (hcs y hy).1] at hv;rw[dx _ _ (hcs z hz).1] at hv2;exact hG.apart y hy z hz SX v hv hv2
       ·by_cases uG:j=i
        ·subst uG;rw[ju] at hv;injection hv with hv;exact hv.symm
        ·rw[dx _ _ uG] at hv;exact hG.u j v hv hj
       ·rw[dx _ _ (show j≠i by omega)];exact hG.far j hj
      ·rw[if_neg (by simpa using Dm)] at hrun;rw[if_neg (fun h=>by
        rcases(hM i).1 h with h | h
        ·rw[za] at h;cases h.2
        ·exact Dm h)]
       exact hrun
 ·intro σ w hall hG;have hsome:∀x∈X,∃g,σ x.i=some (.pointer (some ⟨g,0,none⟩))∧w0.heap.size≤g∧ag w g x.T (if x.s < l.length then x.d else x.c):=by
   intro x hx;have h1:=hall x.i ((hM _).2 (.inl ⟨YA x hx,nJ hx⟩));have h2:=hG.now x hx;unfold ot.now at h2;cases PZ:σ x.i with
   | none=>rw[PZ] at h1;cases h1
   | some v=>
     rw[PZ] at h2;obtain⟨g,rfl,h3,h4⟩:=h2;refine⟨g,rfl,h3,?_⟩;by_cases hlt:x.s < l.length
     ·rw[if_pos (hall x.s ((hM _).2 (.inl ⟨hlt,sI hx⟩)))] at h4;rw[if_pos hlt];exact h4
     ·rw[hG.far x.s (by omega)] at h4;rw[if_neg hlt];exact h4
  refine tR ?_ (hf w (uP σ) hG.b ?_ ?_)
  ·intro j v hv;by_cases hj:X.any (fun x=>x.i==j)=true
   ·rw[if_pos hj];obtain⟨x,hx,he⟩:=List.any_eq_true.1 hj;have he:x.i=j:=by simpa using he
    subst he;obtain⟨g,h1,_⟩:=hsome x hx;unfold vv at hv;rw[if_pos ((hM _).2 (.inl ⟨YA x hx,nJ hx⟩)),h1] at hv;injection hv with hv;rw[← hv];simp only[uP,h1]
   ·rw[if_neg hj];intro hc;unfold vv at hv;split at hv
    ·exact hG.u j v hv hc
    ·exact hv
  ·intro x hx;obtain⟨g,h1,h2,h3⟩:=hsome x hx;have:uP σ x.i=g:=by simp only[uP,h1]
   rw[this];exact⟨h2,h3⟩
  ·intro x hx y hy hxy e;obtain⟨g,h1,h2,h3⟩:=hsome x hx;obtain⟨g',kD,tE,SK⟩:=hsome y hy;have e1:uP σ x.i=g:=by simp only[uP,h1]
   have e2:uP σ y.i=g':=by simp only[uP,kD]
   rw[e1,e2] at e;subst e;exact hG.apart x hx y hy hxy _ h1 kD
def FU (f:Nat→Value):List Oper→Nat→Act→Act
 | [],_,a=>a
 | o::l,i,a=>FU f l (i+1) (a.put o.dst (f i))
theorem tS {V:Nat→World→Value→Prop} {K:Act→World→Prop} {w:World} {f:Nat→Value}:∀ {l:List Oper} {i:Nat} {a:Act},(∀j o v,l[j]?=some o→o.dst.isSome=true→V (i+j) w v→v=f (i+j))→K (FU f l i a) w→cN V K l i a w
 | [],_,_,_,h=>h
 | o::l,i,a,hv,h=>by
   unfold cN;unfold FU at h;have hr:∀j o v,l[j]?=some o→o.dst.isSome=true→V (i+1+j) w v→v=f (i+1+j):=fun j o' v ho hd hx=>by have:=hv (j+1) o' v (by simpa using ho) hd (by rwa [show i+(j+1)=i+1+j by omega]);rwa [show i+(j+1)=i+1+j by omega] at this
   cases hd:o.dst with
   | none=>rw[hd] at h;exact tS hr h
   | some d=>rw[hd] at h;intro v hx;have:v=f i:=hv 0 o v rfl (by rw[hd];rfl) hx;subst this;exact tS hr h
def UY (X:List ot)(l:List Oper):Bool:=(List.range l.length).all fun j=>match l[j]? with | some o=>o.dst.isNone || X.any (fun x=>x.i==j)|| !fK X j | none=>true
theorem mv {id:Nat} {ops:List Oper}(k:Nat)(u:Nat→Value)(X:List ot)(CL:List Nat)(hm:P.follows .mixedOrders=true)(aZ:bX (ops.take k) a0.tmps.size (ops.take k) 0=true)(hz:cH ops (ops.drop k) (ops.take k).length=true)
  (hX:Na X CL (ops.take k).length=true) (hD:UY X (ops.take k)=true) (hs:sH P (ops.take k) u X CL a0 w0.heap.size w0 (ops.take k) 0)
  (hf:∀w (g:Nat→Nat),Below w0.heap.size w0 w→(∀x∈X,w0.heap.size≤g x.i∧ag w (g x.i) x.T (if x.s <(ops.take k).length then x.d else x.c))→(∀x∈X,∀y∈X,x.i≠y.i→g x.i≠g y.i)→
    wpList P ops.toArray Q (ops.drop k) (FU (fun j=>if X.any (fun x=>x.i==j)=true then .pointer (some ⟨g j,0,none⟩)else u j) (ops.take k) 0 a0) w):
  (Code.region id ops.toArray true).wp P Q a0 w0:=
 Bn k u X CL hm aZ hz hX hs fun w g h1 h2 h3=>tS (fun j o v ho hd hx=>by
  rw[Nat.zero_add] at hx ⊢
  by_cases hj:X.any (fun x=>x.i==j)=true
  ·rw[if_pos hj] at hx ⊢;exact hx
  ·rw[if_neg hj] at hx ⊢
   refine hx ?_
   have hlt:j <(ops.take k).length:=(List.getElem?_eq_some_iff.1 ho).1
   have:=List.all_eq_true.1 hD j (List.mem_range.2 hlt)
   rw[ho] at this
   simp only[Bool.or_eq_true] at this
   rcases this with (h | h)| h
   ·rw[Option.isNone_iff_eq_none] at h;rw[h] at hd;cases hd
   ·exact absurd h hj
   ·simpa using h) (hf w g h1 h2 h3)
end
section
variable {P:Program} {l:List Oper} {u:Nat→Value} {X:List ot} {CL:List Nat} {a0:Act} {B:Nat} {w0:World} {i:Nat} {o:Oper}
theorem jJ (x:ot)(hg:o.guard=none)(hf:X.find? (fun x=>x.i==i)=some x)(h:∀ρ w,fk ρ→(execOp ρ o).run P w=.ok (.value (.pointer (some ⟨w.heap.size,0,none⟩))) (w.alloc (.cells x.c x.T))):nH P l u X CL a0 B w0 i o:=by refine⟨hg,?_⟩;rw[hf];exact h
theorem ze (x:ot)(hg:o.guard=none)(hf:X.find? (fun x=>x.i==i)=none)(hs:X.find? (fun x=>x.s==i)=some x)(he:(cj o).contains x.i=true)
  (h:∀ρ w g,fk ρ→ag w g x.T x.c→cL l (fun j _ v=>if j=x.i then v=.pointer (some ⟨g,0,none⟩)else fK X j=false→v=u j) a0.eval ρ w o (tmpsOf o)→∃w',(execOp ρ o).run P w=.ok .skip w'∧ag w' g x.T x.d∧w.grownBy w' (some g)):nH P l u X CL a0 B w0 i o:=by
 refine⟨hg,?_⟩;rw[hf];dsimp only;rw[hs];exact⟨he,h⟩
theorem Nc {ty:TypeId} {x y:Operand} {ρ:Operand→Value} {w:World} {g:Nat} {T:TypeId} {c d:Array Value}(ho:o.op=.store ty x y)(hx:ρ x=.pointer (some ⟨g,0,none⟩))(hy:ρ y=.agg d)(hg:ag w g T c)(hi:(P.info? ty).map (·.size)=some d.size)(hold:c.size=d.size)(h1:d.all (·.oneCell')=true):
  (execOp ρ o).run P w=.ok .skip (w.setRow g d):=by
 unfold execOp;simp only[ho,hx,hy,Instr.storeAt,Instr.sureAddr,Sem.run_bind,Sem.run_pure,Result.andThen_ok,run_storeVar_row w g T ty c d hg hi hold h1]
theorem sJ (x:ot)(ty:TypeId)(p y:Operand)(hg:o.guard=none)(ho:o.op=.store ty p y)(hf:X.find? (fun x=>x.i==i)=none)(hs:X.find? (fun x=>x.s==i)=some x)(he:(cj o).contains x.i=true)
  (hi:(P.info? ty).map (·.size)=some x.d.size) (hold:x.c.size=x.d.size) (h1:x.d.all (·.oneCell')=true)
  (h:∀ρ w g,fk ρ→cL l (fun j _ v=>if j=x.i then v=.pointer (some ⟨g,0,none⟩)else fK X j=false→v=u j) a0.eval ρ w o (tmpsOf o)→ρ p=.pointer (some ⟨g,0,none⟩)∧ρ y=.agg x.d):nH P l u X CL a0 B w0 i o:=
 ze x hg hf hs he fun ρ w g hc hb hr=>⟨_,Nc ho (h ρ w g hc hr).1 (h ρ w g hc hr).2 hb hi hold h1,setRow_heap w g x.c x.d x.T (0,0) hb,
  ⟨rfl,rfl,rfl,by simp,fun i hi hne=>setRow_other w g i x.d (fun e=>hne (by rw[e]))⟩⟩
theorem kL (hn:fK X i=false):X.find? (fun x=>x.i==i)=none∧X.find? (fun x=>x.s==i)=none:=by
 constructor
 ·rw[List.find?_eq_none];intro x hx h;have:x.i=i:=by simpa using h
  subst this;rw[nJ hx] at hn;cases hn
 ·rw[List.find?_eq_none];intro x hx h;have:x.s=i:=by simpa using h
  subst this;rw[sI hx] at hn;cases hn
theorem aJ (hg:o.guard=none)(hn:fK X i=false)(hc:CL.contains i=false)(h:∀ρ w,fk ρ→Below B w0 w→cL l (fun j _ v=>fK X j=false→v=u j) a0.eval ρ w o (tmpsOf o)→(execOp ρ o).run P w=.ok (.value (u i)) w):nH P l u X CL a0 B w0 i o:=by refine⟨hg,?_⟩;rw[(kL hn).1];dsimp only;rw[(kL hn).2];dsimp only;intro ρ w h1 h2 h3;rw[hc];exact h ρ w h1 h2 h3
theorem jd (hg:o.guard=none)(hn:fK X i=false)(hc:CL.contains i=true)(h:∀ρ w,fk ρ→Below B w0 w→cL l (fun j _ v=>fK X j=false→v=u j) a0.eval ρ w o (tmpsOf o)→nw P o ρ w fun v w'=>v=u i∧Below w.heap.size w w'):nH P l u X CL a0 B w0 i o:=by refine⟨hg,?_⟩;rw[(kL hn).1];dsimp only;rw[(kL hn).2];dsimp only;intro ρ w h1 h2 h3;rw[hc];exact h ρ w h1 h2 h3
theorem mS {ρ:Operand→Value} {w:World} {f:FuncId} {args:Array Value} {v:Value}(h:(execOp ρ o).run P w=.ok (.enter f args) w)(hc:Calls P f args w fun e w'=>e=.returned v∧Below w.heap.size w w'):nw P o ρ w fun x w'=>x=v∧Below w.heap.size w w':=
 fZ h (hc.mono fun e w' ⟨h1,h2⟩=>⟨v,h1,rfl,h2⟩)
end
theorem jv {w:World} {q:Nat} {T:TypeId} {old:Array Value}(h:ag w q T old)(cs:Array Value):ag (w.setRow q cs) q T cs:=setRow_heap w q old cs T (0,0) h
theorem dP {w:World} {q b:Nat} {T:TypeId} {old:Array Value}(h:ag w b T old)(hq:b≠q)(cs:Array Value):ag (w.setRow q cs) b T old:=(setRow_other w q b cs hq).trans h
theorem eU {w w':World} {B q:Nat}(h:Below B w w')(hq:B≤q)(cs:Array Value):Below B w (w'.setRow q cs):=below_setRow h hq cs
end Go.Proofs.YtfmbcoeallmnnaaGreatDoor
