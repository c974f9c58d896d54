/- Parts of the proof. -/
import Derived.Test.YtfmbcoeallmnnaaGreatDoorD21
namespace Go.Proofs.YtfmbcoeallmnnaaGreatDoor.R
open Go.RowKit
def ag (w:World)(g:Nat)(t:TypeId)(cs:Array Value):Prop:=w.heap[g]?=some (.cells cs t (0,0))
section
variable {w w':World} {g:Nat} {t:TypeId} {cs:Array Value}
theorem ag.lt (h:ag w g t cs):g < w.heap.size:=by
 rcases Nat.lt_or_ge g w.heap.size with hlt | AW
 ·exact hlt
 ·unfold ag at h;rw[Array.getElem?_eq_none AW] at h;cases h
theorem ag.cell (h:ag w g t cs)(i:Nat):w.cell? ⟨g,i,none⟩=cs[i]?:=cell_of_row w g i cs t (0,0) h
theorem ag.frozen (h:ag w g t cs)(i:Nat):w.frozen? ⟨g,i,none⟩=false:=by unfold ag at h;simp[World.frozen?,h]
theorem ag.new (w:World)(t:TypeId)(cs:Array Value):ag (w.alloc (.cells cs t)) w.heap.size t cs:=heap_alloc_new w _
theorem ag.drew (h:ag w g t cs):ag w.drew g t cs:=h
theorem ag.drewN (h:ag w g t cs)(n:Nat):ag (w.drewN n) g t cs:=h
theorem ag.alloc (h:ag w g t cs)(o:Obj):ag (w.alloc o) g t cs:=(Below.heap_alloc w o g h.lt).trans h
theorem ag.cA (h:ag w g t cs)(i:Nat)(u:Value):ag (w.setCell ⟨g,i,none⟩ u) g t (cs.setIfInBounds i u):=by unfold ag at h ⊢;simp[World.setCell,Array.getElem?_modify,h]
theorem ag.far (h:ag w g t cs) {p:Addr}(hp:g≠p.block)(u:Value):ag (w.setCell p u) g t cs:=(Below.heap_setCell w p u g hp).trans h
theorem ag.below {B:Nat}(h:ag w g t cs)(hb:Below B w w')(hg:g < B):ag w' g t cs:=(hb.block g hg).trans h
theorem ag.later (h:ag w g t cs)(hb:Below w.heap.size w w'):ag w' g t cs:=h.below hb h.lt
theorem ag.grown {row:Option Nat}(h:ag w g t cs)(hb:w.grownBy w' row)(hg:some g≠row):ag w' g t cs:=(hb.block g h.lt hg).trans h
end
theorem fg {p:Nat} {w w':World}(h:Below w.heap.size w w'):w.grownBy w' (some p):=⟨h.os,h.tape,h.output,h.size,fun k hk _=>h.block k hk⟩
theorem pw {p:Nat} {a b c:World}(h:a.grownBy b (some p))(k:b.grownBy c (some p)):a.grownBy c (some p):=
 ⟨k.os.trans h.os,k.tape.trans h.tape,k.output.trans h.output,Nat.le_trans h.size k.size,fun i hi hne=>(k.block i (Nat.lt_of_lt_of_le hi h.size) hne).trans (h.block i hi hne)⟩
theorem nd {p:Nat} {a b:World}(h:a.grownBy b (some p))(i:Nat)(u:Value):a.grownBy (b.setCell ⟨p,i,none⟩ u) (some p):=by
 refine⟨h.os,h.tape,h.output,?_,fun k hk hne=>?_⟩
 ·have:(b.setCell ⟨p,i,none⟩ u).heap.size=b.heap.size:=by simp[World.setCell]
  rw[this];exact h.size
 ·rw[Below.heap_setCell b ⟨p,i,none⟩ u k (fun e=>hne (by rw[e]))];exact h.block k hk hne
theorem uW {p B:Nat} {a b:World}(h:a.grownBy b (some p))(hB:B≤a.heap.size)(hp:B≤p):Below B a b:=
 ⟨h.os,h.tape,h.output,h.size,fun k hk=>h.block k (by omega) (fun e=>by injection e with e;omega)⟩
set_option linter.unusedVariables false
def aQ {α:Type}(f:α→List Value)(e:TypeId)(size:Nat)(w:World)(base:Nat)(v:Value)(l:List α):Prop:=w.ownsRow base e size v l.length (l.flatMap f)
section
variable {α:Type} {f:α→List Value} {e:TypeId} {size:Nat} {w w':World} {base:Nat} {v:Value} {l:List α}
theorem aQ.nil:aQ f e size w base (.slice none 0 0) []:=⟨by simp,.inl ⟨rfl,rfl⟩⟩
theorem aQ.reads (h:aQ f e size w base v l):∃A c,v=.slice A l.length c∧Reads w w.heap.size size A l.length (l.flatMap f)∧l.length≤c∧(l=[]∨∃g,A=some ⟨g,0,none⟩∧base≤g):=by
 rcases h.2 with ⟨rfl,h0⟩|⟨g,cap,cur,rfl,hb,hg,hn,hm,hs,ht⟩
 ·have:l=[]:=List.eq_nil_of_length_eq_zero h0;subst this;exact⟨none,0,rfl,Reads.none_,Nat.le_refl _,.inl rfl⟩
 ·exact⟨some ⟨g,0,none⟩,cap,rfl,Reads.Fq h,hn,.inr ⟨g,rfl,hb⟩⟩
theorem aQ.keep (h:aQ f e size w base v l)(hk:∀g,v.ownBlock=some g→w'.heap[g]?=w.heap[g]?):aQ f e size w' base v l:=by
 refine⟨h.1,?_⟩;rcases h.2 with h0 |⟨g,cap,cur,rfl,hbg,hg,hn,hm,hs,ht⟩
 ·exact .inl h0
 ·exact .inr ⟨g,cap,cur,rfl,hbg,(hk g rfl).trans hg,hn,hm,hs,ht⟩
theorem aQ.lt (h:aQ f e size w base v l) {g:Nat}(hg:v.ownBlock=some g):g < w.heap.size∧base≤g∧∃cur,w.heap[g]?=some (.cells cur e (0,0)):=by
 rcases h.2 with ⟨rfl,_⟩|⟨g',cap,cur,rfl,hbg,Fs,hn,hm,hs,ht⟩
 ·simp[Value.ownBlock] at hg
 ·simp only[Value.ownBlock,Option.some.injEq] at hg;subst hg;refine⟨?_,hbg,cur,Fs⟩;rcases Nat.lt_or_ge g' w.heap.size with hlt | AW
  ·exact hlt
  ·rw[Array.getElem?_eq_none AW] at Fs;cases Fs
theorem aQ.later (h:aQ f e size w base v l)(hb:Below w.heap.size w w'):aQ f e size w' base v l:=h.keep fun g hg=>hb.block g (h.lt hg).1
theorem aQ.other (h:aQ f e size w base v l) {q:Nat} {t:TypeId} {cs:Array Value}(hq:ag w q t cs)(ht:t≠e):v.ownBlock≠some q:=by intro hg;obtain⟨_,_,cur,hc⟩:=h.lt hg;unfold ag at hq;rw[hq] at hc;injection hc with hc;injection hc with _ hc _;exact ht hc
theorem aQ.grown {p:Nat}(h:aQ f e size w base v l)(hg:w.grownBy w' (some p))(hp:v.ownBlock≠some p):aQ f e size w' base v l:=h.keep fun g dh=>hg.block g (h.lt dh).1 fun e=>hp (by rw[dh];exact e)
theorem ag.NL {q:Nat} {t:TypeId} {cs:Array Value}(hq:ag w q t cs)(h:aQ f e size w base v l)(ht:t≠e)(hg:w.grownBy w' v.ownBlock):ag w' q t cs:=hq.grown hg fun e=>h.other hq ht e.symm
theorem eR (h:aQ f e size w base v l)(hg:w.grownBy w' v.ownBlock)(hbase:base≤w.heap.size):Below base w w':=by refine⟨hg.os,hg.tape,hg.output,hg.size,fun k hk=>hg.block k (by omega) fun e=>?_⟩;have:=(h.lt e.symm).2.1;omega
theorem dm {P:Program} {ops:Array Oper} {rest:List Oper} {o:Oper} {a:Act} {Q:Exit→Act→World→Prop}(hgd:o.guard=none)(s x:Operand)(t:TypeId)
  (ho:o.op=.call { callee:=.builtin .append,args:= #[s,x],argTypes:= #[t,t] })
  (z:Value) (bytes:Nat) (ht:P.underlying t=some (.slice e)) (jV:(P.info? e).map (fun i=>(i.zero,i.size,i.bytes))=some (some z,size,bytes)) (hzs:z.cells.size=size) (hsz:0 < size)
  (y:α) (hf:(f y).length=size) (h1:∀u∈f y,u.oneCell'=true)
  (hs:a.eval s=v) (hown:aQ f e size w base v l)
  (g:Nat) (hx:a.eval x=.slice (some ⟨g,0,none⟩) 1 1) (hg:ag w g e (f y).toArray)
  (hlen:(l.length+1)*bytes≤140737488355328) (ld:l.length+1≤140737488355328) (hbase:base≤w.heap.size)
  (h:∀v' w',aQ f e size w' base v' (l++ [y])→w.grownBy w' v.ownBlock→wpList P ops Q rest (a.put o.dst v') w'):wpList P ops Q (o::rest) a w:=by
 obtain⟨i0,qj,hz0,hz1,hz2⟩:=info_parts jV;refine eD w hgd s x t ho base e i0 z size bytes ht qj hz0 hz1 hz2 hzs hsz v l.length (l.flatMap f) hs hown (g+1) (some ⟨g,0,none⟩) 1 1 (f y) hx ⟨by omega,fun _=>⟨_,rfl,Nat.lt_succ_self _,?_⟩⟩ h1 (by unfold maxLen;omega) hlen hbase ?_
 ·intro j u hu;have:(Addr.add ⟨g,0,none⟩ j)=⟨g,j,none⟩:=by unfold Addr.add;split <;> simp_all
  rw[this,hg.cell];simpa using hu
 ·intro v' w' h2 h3 h4;refine h v' w' ?_ h3;unfold aQ;rw[List.length_append,List.flatMap_append];simpa using h2
end
def tmpsOf (o:Oper):List Tmp:=o.op.operands.toList.filterMap fun | .tmp t=>some t | _=>none
def cF (t:Tmp):List Oper→Nat→Option Nat
 | [],_=>none
 | o::l,i=>if o.dst=some t then some i else cF t l (i+1)
def eK (o:Oper)(j:Nat):Bool:=o.after.toList.any fun e=>Region.binds .any e && Nat.beq e.on j
def ed (l:List Oper)(o:Oper)(t:Tmp):Option Nat:=
 match cF t l 0 with
 | some j=>if eK o j then some j else none
 | none=>none
def cj (o:Oper):List Nat:=(o.after.toList.filter (Region.binds .any ·)).map (·.on)
def ew (l:List Oper)(N:Nat)(i:Nat)(o:Oper):Bool:=
 (cj o).all (fun j=>decide (j < i))&&
 (match o.dst with | some d=>decide (d < N)&&(cF d l 0==some i)| none=>true)&&
 (tmpsOf o).all (fun t=>match cF t l 0 with | some j=>eK o j ||(match l[j]? with | some oj=>eK oj i | none=>false)| none=>true)&&
 (match o.guard with | none=>true | some (j,_)=>eK o j &&(match l[j]? with | some oj=>oj.dst.isSome | none=>false))
def bX (l:List Oper)(N:Nat):List Oper→Nat→Bool
 | [],_=>true
 | o::rest,i=>ew l N i o && bX l N rest (i+1)
def kW (l:List Oper):Nat→List Nat→Bool
 | 0,_=>true
 | k+1,S=>S.contains k && kW l k (S++(match l[k]? with | some o=>cj o | none=> []))
def cH (l:List Oper):List Oper→Nat→Bool
 | [],_=>true
 | o::rest,i=>(cj o).all (fun j=>decide (j < i))&& kW l i (cj o)&& cH l rest (i+1)
def nw (P:Program)(o:Oper)(ρ:Operand→Value)(w:World)(T:Value→World→Prop):Prop:=
 match (execOp ρ o).run P w with
 | .ok (.value v) w'=>T v w'
 | .ok .skip w'=>T undef w'
 | .ok (.enter f args) w'=>Calls P f args w' fun e w''=>∃v,e=.returned v∧T v w''
 | _=>False
structure fk (ρ:Operand→Value):Prop where
 const:∀v,ρ (.const v)=v
 func:∀f,ρ (.func f)=.func (.func f) #[] #[]
 global:∀g,ρ (.global g)=.pointer (some ⟨g,0,none⟩)
theorem fU (a:Act):fk a.eval:=⟨fun _=>rfl,fun _=>rfl,fun _=>rfl⟩
def cL (l:List Oper)(V:Nat→World→Value→Prop)(Hy ρ:Operand→Value)(w:World)(o:Oper):List Tmp→Prop
 | []=>True
 | t::ts=>(match ed l o t with | some j=>V j w (ρ (.tmp t))| none=>ρ (.tmp t)=Hy (.tmp t))∧cL l V Hy ρ w o ts
def vY (P:Program)(l:List Oper)(R:World→World→Prop)(V:Nat→World→Value→Prop)(a0:Act)(w0:World)(i:Nat)(o:Oper):Prop:=
 ∀ρ w,fk ρ→R w0 w→cL l V a0.eval ρ w o (tmpsOf o)→
  match o.guard with
  | none=>nw P o ρ w fun v w'=>R w w'∧V i w' v
  | some (j,want)=>match (l[j]?).bind (·.dst)with
    | some d=>V j w (ρ (.tmp d))→(ρ (.tmp d)=.bool want→nw P o ρ w fun v w'=>R w w'∧V i w' v)∧(ρ (.tmp d)≠ .bool want→V i w undef)
    | none=>False
def Steps (P:Program)(l:List Oper)(R:World→World→Prop)(V:Nat→World→Value→Prop)(a0:Act)(w0:World):List Oper→Nat→Prop
 | [],_=>True
 | o::rest,i=>vY P l R V a0 w0 i o∧Steps P l R V a0 w0 rest (i+1)
def cN (V:Nat→World→Value→Prop)(K:Act→World→Prop):List Oper→Nat→Act→World→Prop
 | [],_,a,w=>K a w
 | o::rest,i,a,w=>match o.dst with
   | some d=>∀v,V i w v→cN V K rest (i+1) (a.put (some d) v) w
   | none=>cN V K rest (i+1) a w
theorem oF {P:Program} {L:List Oper} {R:World→World→Prop} {V:Nat→World→Value→Prop} {a0:Act} {w0:World}:∀ {l:List Oper} {k:Nat},Steps P L R V a0 w0 l k→∀i o,l[i]?=some o→vY P L R V a0 w0 (k+i) o
 | [],_,_,i,o,h=>by simp at h
 | x::l,k,hs,0,o,h=>by simp at h;subst h;exact hs.1
 | x::l,k,hs,i+1,o,h=>by have:=oF hs.2 i o (by simpa using h);rwa [show k+1+i=k+(i+1) by omega] at this
theorem aR {L:List Oper} {N:Nat}:∀ {l:List Oper} {k:Nat},bX L N l k=true→∀i o,l[i]?=some o→ew L N (k+i) o=true
 | [],_,_,i,o,h=>by simp at h
 | x::l,k,hs,0,o,h=>by simp at h;subst h;simp only[bX,Bool.and_eq_true] at hs;exact hs.1
 | x::l,k,hs,i+1,o,h=>by simp only[bX,Bool.and_eq_true] at hs;have:=aR hs.2 i o (by simpa using h);rwa [show k+1+i=k+(i+1) by omega] at this
theorem dE {L:List Oper}:∀ {l:List Oper} {k:Nat},cH L l k=true→∀i o,l[i]?=some o→(cj o).all (fun j=>decide (j < k+i))=true∧kW L (k+i) (cj o)=true
 | [],_,_,i,o,h=>by simp at h
 | x::l,k,hs,0,o,h=>by simp at h;subst h;simp only[cH,Bool.and_eq_true] at hs;exact hs.1
 | x::l,k,hs,i+1,o,h=>by simp only[cH,Bool.and_eq_true] at hs;have:=dE hs.2 i o (by simpa using h);rwa [show k+1+i=k+(i+1) by omega] at this
theorem dY {o:Oper} {j:Nat}:j∈cj o↔∃e∈o.after,Region.binds .any e=true∧e.on=j:=by
 unfold cj;simp only[List.mem_map,List.mem_filter,Array.mem_toList_iff];constructor
 ·rintro⟨e,⟨h1,h2⟩,h3⟩;exact⟨e,h1,h2,h3⟩
 ·rintro⟨e,h1,h2,h3⟩;exact⟨e,⟨h1,h2⟩,h3⟩
theorem cY {o:Oper} {j:Nat}:eK o j=true↔j∈cj o:=by rw[dY];unfold eK;simp only[List.any_eq_true,Bool.and_eq_true,Nat.beq_eq,Array.mem_toList_iff]
theorem dJ {L:List Oper}(done:Nat→Prop)(XC:∀i o,L[i]?=some o→done i→∀j∈cj o,done j):
  ∀(k:Nat) (S:List Nat),kW L k S=true→(∀j∈S,done j)→∀j,j < k→done j
 | 0,_,_,_,j,hj=>absurd hj (by omega)
 | k+1,S,hc,hS,j,hj=>by
   simp only[kW,Bool.and_eq_true] at hc;have hk:done k:=hS k (by simpa using hc.1);by_cases e:j=k
   ·subst e;exact hk
   ·refine dJ done XC k _ hc.2 ?_ j (by omega);intro i hi;rcases List.mem_append.1 hi with h | h
    ·exact hS i h
    ·split at h
     ·rename_i o ho;exact XC k o ho hk i h
     ·cases h
theorem fl {t:Tmp}:∀ {l:List Oper} {k i:Nat} {o:Oper},l[i]?=some o→o.dst=some t→(∃j,cF t l k=some j)
 | [],_,i,o,h,_=>by simp at h
 | x::l,k,0,o,h,hd=>by simp at h;subst h;exact⟨k,by simp[cF,hd]⟩
 | x::l,k,i+1,o,h,hd=>by
   by_cases hx:x.dst=some t
   ·exact⟨k,by simp[cF,hx]⟩
   ·obtain⟨j,hj⟩:=fl (l:=l) (k:=k+1) (i:=i) (o:=o) (by simpa using h) hd;exact⟨j,by simp[cF,hx,hj]⟩
theorem fV {t:Tmp}:∀ {l:List Oper} {k j:Nat},cF t l k=some j→∃i o,j=k+i∧l[i]?=some o∧o.dst=some t
 | [],_,_,h=>by simp[cF] at h
 | x::l,k,j,h=>by
   unfold cF at h;split at h
   ·rename_i hx;injection h with h;subst h;exact⟨0,x,rfl,rfl,hx⟩
   ·obtain⟨i,o,e,h1,h2⟩:=fV h;exact⟨i+1,o,by omega,by simpa using h1,h2⟩
structure Inv (l:List Oper) (V:Nat→World→Value→Prop) (R:World→World→Prop) (a0:Act) (w0:World) (m:Nat) (listed:Array Bool) (a:Act) (w:World):Prop where
 r:R w0 w
 defers:a.defers=a0.defers
 size:a.tmps.size=a0.tmps.size
 old:∀t,(∀i o,l[i]?=some o→o.dst=some t→listed.getD i false=true→False)→a.tmps[t]?=a0.tmps[t]?
 new:∀i o d,l[i]?=some o→listed.getD i false=true→o.dst=some d→V i w (a.eval (.tmp d))
 closed:∀i o,l[i]?=some o→listed.getD i false=true→∀j∈cj o,listed.getD j false=true
 len:listed.size=m
 tail:∀i,l.length≤i→listed.getD i false=false
def aG (l:Nat)(listed:Array Bool):Nat:=((List.range l).filter fun i=> !listed.getD i false).length
theorem cd (listed:Array Bool)(i j:Nat)(hi:i < listed.size):(listed.setIfInBounds i true).getD j false=if j=i then true else listed.getD j false:=by
 by_cases h:j=i
 ·subst h;simp[hi]
 ·simp only[Array.getD_eq_getD_getElem?,if_neg h];rw[Array.getElem?_setIfInBounds_ne (fun e=>h e.symm)]
theorem jS {p q:Nat→Bool} {i:Nat}:∀ {L:List Nat},L.Nodup→i∈L→p i=true→q i=false→(∀j∈L,j≠i→q j=p j)→(L.filter q).length+1=(L.filter p).length
 | [],_,h,_,_,_=>by cases h
 | x::L,hn,hm,hp,hq,Uj=>by
   have XD:=(List.nodup_cons.1 hn);by_cases hx:x=i
   ·subst hx;have he:L.filter q=L.filter p:=List.filter_congr fun j hj=>Uj j (List.mem_cons_of_mem _ hj) (fun e=>XD.1 (e▸hj))
    rw[List.filter_cons,List.filter_cons,hp,hq,he];simp
   ·have hi:i∈L:=by
     rcases List.mem_cons.1 hm with h | h
     ·exact absurd h.symm hx
     ·exact h
    have ih:=jS XD.2 hi hp hq (fun j hj=>Uj j (List.mem_cons_of_mem _ hj));have J4:=Uj x (List.mem_cons_self) hx;rw[List.filter_cons,List.filter_cons,J4];split
    ·simp only[List.length_cons];omega
    ·exact ih
theorem fo (l:Nat)(listed:Array Bool)(i:Nat)(hi:i < listed.size)(hl:i < l)(h:listed.getD i false=false):aG l (listed.setIfInBounds i true)+1=aG l listed:=by unfold aG;refine jS (i:=i) List.nodup_range (List.mem_range.2 hl) (by simp[h]) (by rw[cd _ _ _ hi];simp) ?_;intro j _ hj;rw[cd _ _ _ hi,if_neg hj]
theorem cq {l:Nat} {listed:Array Bool}(h:aG l listed=0):∀i,i < l→listed.getD i false=true:=by
 intro i hi;unfold aG at h;have:=List.length_eq_zero_iff.1 h;cases hc:listed.getD i false with
 | true=>rfl
 | false=>
   have hm:i∈(List.range l).filter fun i=> !listed.getD i false:=List.mem_filter.2 ⟨List.mem_range.2 hi,by simp[hc]⟩
   rw[this] at hm;cases hm
theorem least {p:Nat→Prop}:∀n,p n→∃i,p i∧∀j,j < i→¬p j:=by
 intro n hn;induction n using Nat.strongRecOn with
 | ind n ih=>
   by_cases h:∃j,j < n∧p j
   ·obtain⟨j,hj,hp⟩:=h;exact ih j hj hp
   ·exact⟨n,hn,fun j hj hp=>h ⟨j,hj,hp⟩⟩
theorem fp {l:Nat} {listed:Array Bool}(h:aG l listed≠0):∃i,i < l∧listed.getD i false=false:=by
 unfold aG at h
 match hf:(List.range l).filter fun i=> !listed.getD i false with
 | []=>rw[hf] at h;exact absurd rfl h
 | i::_=>
   have hm:i∈(List.range l).filter fun i=> !listed.getD i false:=by rw[hf];exact List.mem_cons_self
   have:=List.mem_filter.1 hm;exact⟨i,List.mem_range.1 this.1,by simpa using this.2⟩
theorem eA {P:Program} {o:Oper} {a:Act} {w:World} {T:Value→World→Prop} {K:Act→World→Prop} {Q:Exit→Act→World→Prop}
  (h:nw P o a.eval w T) (hK:∀v w',T v w'→K (a.put o.dst v) w'):o.wp P a w K Q:=by
 unfold nw at h;unfold Oper.wp;generalize (execOp a.eval o).run P w=r at*;cases r with
 | ok n w'=>
   cases n <;> simp only[Oper.upon] <;> first | exact hK _ _ h | exact h.elim | skip
   exact h.mono fun e w'' ⟨v,he,ht⟩=>by subst he;exact hK _ _ ht
 | halt x w'=>exact h.elim
theorem eB {a a0:Act} {t:Tmp}(h:a.tmps[t]?=a0.tmps[t]?):a.eval (.tmp t)=a0.eval (.tmp t):=by simp[Act.eval,Array.getD_eq_getD_getElem?,h]
section
variable {P:Program} {l zs:List Oper} {Q:Exit→Act→World→Prop} {R:World→World→Prop} {V:Nat→World→Value→Prop} {a0:Act} {w0:World}
theorem fW {i:Nat} {o:Oper}(h:l[i]?=some o):(l++zs).toArray[i]?=some o:=by
 have:i < l.length:=by
  rcases Nat.lt_or_ge i l.length with h' | h'
  ·exact h'
  ·rw[List.getElem?_eq_none h'] at h;cases h
 simp[List.getElem?_append_left this,h]
theorem Inv.reads (aZ:bX l a0.tmps.size l 0=true) {listed:Array Bool} {a:Act} {w:World} {m:Nat}(I:Inv l V R a0 w0 m listed a w) {i:Nat} {o:Oper}(ho:l[i]?=some o)
  (AQ:listed.getD i false=false) (hall:∀j∈cj o,listed.getD j false=true):∀ts,(∀t∈ts,t∈tmpsOf o)→cL l V a0.eval a.eval w o ts
 | [],_=>trivial
 | t::ts,vZ=>by
   refine⟨?_,Inv.reads aZ I ho AQ hall ts (fun t ht=>vZ t (List.mem_cons_of_mem _ ht))⟩;have Fm:=aR aZ i o ho;rw[Nat.zero_add] at Fm;simp only[ew,Bool.and_eq_true] at Fm;have ht:=List.all_eq_true.1 Fm.1.2 t (vZ t List.mem_cons_self);unfold ed;cases hs:cF t l 0 with
   | none=>refine eB (I.old t ?_);intro j oj hj hd _;obtain⟨k,hk⟩:=fl (k:=0) hj hd;rw[hs] at hk;cases hk
   | some j=>
     simp only[hs] at ht;obtain⟨j',oj,e,hj,hd⟩:=fV hs;rw[Nat.zero_add] at e;subst e;by_cases he:eK o j=true
     ·simp only[he,if_true];exact I.new j oj t hj (hall j (cY.1 he)) hd
     ·simp only[he];rw[Bool.not_eq_true] at he;simp only[he,Bool.false_or,hj] at ht;refine eB (I.old t ?_);intro k ok hk Me hlk;have wb:=aR aZ k ok hk;simp only[ew,Me,Bool.and_eq_true,Nat.zero_add,beq_iff_eq] at wb;have hkj:k=j:=by have:=wb.1.1.2.2;rw[hs] at this;injection this with this;exact this.symm
      subst hkj;rw[hj] at hk;injection hk with hk;subst hk
      have:=I.closed k oj hj hlk i (cY.1 ht);rw[AQ] at this;cases this
theorem Inv.step (aZ:bX l a0.tmps.size l 0=true)(hV:∀i w w' v,V i w v→R w w'→V i w' v)(hT:∀a b c,R a b→R b c→R a c) {m:Nat} {listed:Array Bool} {a:Act} {w w':World} {v:Value}(I:Inv l V R a0 w0 m listed a w) {i:Nat} {o:Oper}(ho:l[i]?=some o)(AU:i < m)
  (AQ:listed.getD i false=false) (hall:∀j∈cj o,listed.getD j false=true) (hr:R w w') (hv:V i w' v):Inv l V R a0 w0 m (listed.setIfInBounds i true) (a.put o.dst v) w':=by
 have qz:i < listed.size:=by rw[I.len];exact AU
 have og:i < l.length:=by
  rcases Nat.lt_or_ge i l.length with h' | h'
  ·exact h'
  ·rw[List.getElem?_eq_none h'] at ho;cases ho
 have dF:=aR aZ i o ho;rw[Nat.zero_add] at dF;refine⟨hT _ _ _ I.r hr,?_,?_,?_,?_,?_,by simp[I.len],?_⟩
 ·cases hd:o.dst <;> simp[Act.put,I.defers]
 ·cases hd:o.dst <;> simp[Act.put,I.size]
 ·intro t ht;have SH:o.dst≠some t:=fun e=>ht i o ho e (by rw[cd _ _ _ qz,if_pos rfl])
  have h1:(a.put o.dst v).tmps[t]?=a.tmps[t]?:=by
   cases hd:o.dst with
   | none=>rfl
   | some d=>
     have:d≠t:=fun e=>SH (by rw[hd,e])
     simp[Act.put,Array.getElem?_setIfInBounds_ne this]
  rw[h1];refine I.old t ?_;intro j oj hj hd hl;exact ht j oj hj hd (by rw[cd _ _ _ qz];split <;> simp_all)
 ·intro j oj d hj hl hd;by_cases uG:j=i
  ·subst uG;rw[hj] at ho;injection ho with ho;subst ho
   simp only[ew,hd,Bool.and_eq_true,decide_eq_true_eq] at dF;have:(a.put oj.dst v).eval (.tmp d)=v:=by
    have hb:d < a.tmps.size:=by rw[I.size];exact dF.1.1.2.1
    simp[hd,Act.put,Act.eval,hb]
   rw[this];exact hv
  ·have hl':listed.getD j false=true:=by rw[cd _ _ _ qz,if_neg uG] at hl;exact hl
   have hne:o.dst≠some d:=by intro e;have fX:=aR aZ j oj hj;simp only[ew,hd,Bool.and_eq_true,Nat.zero_add,beq_iff_eq] at fX;simp only[ew,e,Bool.and_eq_true,beq_iff_eq] at dF;rw[fX.1.1.2.2] at dF;have:=dF.1.1.2.2;injection this with this;exact uG this
   have h1:(a.put o.dst v).eval (.tmp d)=a.eval (.tmp d):=Act.eval_put fun d' Uk e=>by injection e with e;subst e;exact hne Uk
   rw[h1];exact hV _ _ _ _ (I.new j oj d hj hl' hd) hr
 ·intro j oj hj hl k hk;rw[cd _ _ _ qz];by_cases XE:k=i
  ·rw[if_pos XE]
  ·rw[if_neg XE];by_cases uG:j=i
   ·subst uG;rw[hj] at ho;injection ho with ho;subst ho
    exact hall k hk
   ·rw[cd _ _ _ qz,if_neg uG] at hl;exact I.closed j oj hj hl k hk
 ·intro j hj;rw[cd _ _ _ qz,if_neg (by omega)];exact I.tail j hj
def fill (f:Tmp→Value):List Oper→Act→Act
 | [],a=>a
 | o::rest,a=>fill f rest (match o.dst with | some d=>a.put (some d) (f d)| none=>a)
theorem eC (f:Tmp→Value):∀(l:List Oper) (a:Act),(fill f l a).defers=a.defers
 | [],_=>rfl
 | o::rest,a=>by rw[fill,eC f rest];cases o.dst <;> rfl
theorem gL (f:Tmp→Value):∀(l:List Oper) (a:Act),(fill f l a).tmps.size=a.tmps.size
 | [],_=>rfl
 | o::rest,a=>by rw[fill,gL f rest];cases o.dst <;> simp[Act.put]
theorem iT (f:Tmp→Value):∀(l:List Oper) (a:Act) (t:Nat),t < a.tmps.size→(fill f l a).tmps[t]?=if (∃o∈l,o.dst=some t)then some (f t)else a.tmps[t]?
 | [],_,_,_=>by simp[fill]
 | o::rest,a,t,ht=>by
   rw[fill,iT f rest _ t (by cases o.dst <;> simpa [Act.put] using ht)];by_cases h1:∃o'∈rest,o'.dst=some t
   ·rw[if_pos h1,if_pos (by obtain⟨o',h,e⟩:=h1;exact⟨o',List.mem_cons_of_mem _ h,e⟩)]
   ·rw[if_neg h1];by_cases h2:o.dst=some t
    ·rw[if_pos ⟨o,List.mem_cons_self,h2⟩,h2];simp[Act.put,ht]
    ·rw[if_neg (by rintro⟨o',h,e⟩;rcases List.mem_cons.1 h with rfl | h;exact h2 e;exact h1 ⟨o',h,e⟩)];cases hd:o.dst with
     | none=>rfl
     | some d=>simp[Act.put,Array.getElem?_setIfInBounds_ne (show d≠t from fun e=>h2 (by rw[hd,e]))]
theorem kX {K:Act→World→Prop} {w:World}(f:Tmp→Value):∀(L:List Oper) (k:Nat) (a:Act),(∀i o d,L[i]?=some o→o.dst=some d→V (k+i) w (f d))→cN V K L k a w→K (fill f L a) w
 | [],_,_,_,h=>h
 | o::rest,k,a,hv,h=>by
   rw[fill];have Cw:∀i o' d,rest[i]?=some o'→o'.dst=some d→V (k+1+i) w (f d):=fun i o' d h1 h2=>by have:=hv (i+1) o' d (by simpa using h1) h2;rwa [show k+(i+1)=k+1+i by omega] at this
   unfold cN at h;cases hd:o.dst with
   | none=>simp only[hd] at h;exact kX f rest (k+1) a Cw h
   | some d=>simp only[hd] at h;exact kX f rest (k+1) _ Cw (h _ (by have:=hv 0 o d rfl hd;simpa using this))
theorem iU {ops:Array Oper} {listed:Array Bool} {i:Nat} {o:Oper}(ho:ops[i]?=some o)(hu:listed.getD i true=false)(hall:∀j∈cj o,listed.getD j false=true):i∈Region.ready .any ops listed:=
 mem_ready.2 ⟨hu,o,ho,fun e he hb=>hall _ (dY.2 ⟨e,he,hb,rfl⟩)⟩
theorem cm {listed:Array Bool} {i:Nat}(h:i < listed.size):listed.getD i true=listed.getD i false:=by simp[h]
theorem iV {N:Nat}(aZ:bX l N l 0=true)(hz:cH (l++zs) zs l.length=true):∀(k:Nat) (rest:List Oper),zs.drop k=rest→∀(listed:Array Bool) (a:Act) (w:World),listed.size=(l++zs).length→
  (∀i,i <(l++zs).length→(listed.getD i false=true↔i < l.length+k))→wpList P (l++zs).toArray Q rest a w→wpAny P .any (l++zs).toArray Q rest.length listed a w
 | k,[],hk,listed,a,w,hs,hl,h=>by
   refine⟨?_,h⟩;have hlen:zs.length≤k:=List.drop_eq_nil_iff.1 hk;rw[List.eq_nil_iff_forall_not_mem];intro i hi;obtain⟨hu,o,ho,_⟩:=mem_ready.1 hi;have og:i <(l++zs).length:=by
    rcases Nat.lt_or_ge i (l++zs).length with h' | h'
    ·exact h'
    ·rw[Array.getElem?_eq_none (by simpa using h')] at ho;cases ho
   rw[cm (by omega)] at hu;have:=(hl i og).2 (by simp at og;omega);rw[hu] at this;cases this
 | k,o::rest,hk,listed,a,w,hs,hl,h=>by
   have Qi:zs[k]?=some o:=by have:=congrArg (fun x=>x[0]?) hk;simpa using this
   have Mf:k < zs.length:=by
    rcases Nat.lt_or_ge k zs.length with h' | h'
    ·exact h'
    ·rw[List.getElem?_eq_none h'] at Qi;cases Qi
   have Mg:(l++zs)[l.length+k]?=some o:=by rw[List.getElem?_append_right (by omega)];simpa using Qi
   have mF:zs.drop (k+1)=rest:=by rw[← List.tail_drop,hk];rfl
   have ht:=dE hz k o Qi;have Mh:∀j∈cj o,listed.getD j false=true:=fun j hj=>by have:=of_decide_eq_true (List.all_eq_true.1 ht.1 j hj);exact(hl j (by simp;omega)).2 this
   have AQ:listed.getD (l.length+k) true=false:=by
    rw[cm (by rw[hs];simp;omega)];cases hc:listed.getD (l.length+k) false with
    | false=>rfl
    | true=>exact absurd ((hl _ (by simp;omega)).1 hc) (by omega)
   have ee:l.length+k∈Region.ready .any (l++zs).toArray listed:=iU (by simpa using Mg) AQ Mh;refine⟨(fun h0=>by rw[h0] at ee;cases ee),fun i hi=>?_⟩;obtain⟨hu,oi,hoi,hall⟩:=mem_ready.1 hi;have og:i <(l++zs).length:=by
    rcases Nat.lt_or_ge i (l++zs).length with h' | h'
    ·exact h'
    ·rw[Array.getElem?_eq_none (by simpa using h')] at hoi;cases hoi
   rw[cm (by omega)] at hu;have J5:l.length+k≤i:=by
    rcases Nat.lt_or_ge i (l.length+k)with h' | h'
    ·have:=(hl i og).2 h';rw[hu] at this;cases this
    ·exact h'
   have hik:i=l.length+k:=by
    rcases Nat.lt_or_ge (l.length+k) i with h' | h'
    ·exfalso;have J6:zs[i - l.length]?=some oi:=by
      have:(l++zs)[i]?=some oi:=by simpa using hoi
      rw[List.getElem?_append_right (by omega)] at this;exact this
     have wh:=dE hz (i - l.length) oi J6;rw[show l.length+(i - l.length)=i by omega] at wh;have hc:=dJ (L:=l++zs) (fun j=>j <(l++zs).length→listed.getD j false=true) (by
      intro j oj hj hdone e he hlt
      have Mi:j <(l++zs).length:=by
       rcases Nat.lt_or_ge j (l++zs).length with h' | h'
       ·exact h'
       ·rw[List.getElem?_eq_none h'] at hj;cases hj
      have AV:=(hl j Mi).1 (hdone Mi)
      by_cases hjz:l.length≤j
      ·have Fo:zs[j - l.length]?=some oj:=by rw[List.getElem?_append_right (by omega)] at hj;exact hj
       have:=of_decide_eq_true (List.all_eq_true.1 (dE hz (j - l.length) oj Fo).1 e he)
       exact(hl e hlt).2 (by omega)
      ·have pH:l[j]?=some oj:=by rw[List.getElem?_append_left (by omega)] at hj;exact hj
       have fX:=aR aZ j oj pH
       simp only[ew,Bool.and_eq_true,Nat.zero_add] at fX
       have:=of_decide_eq_true (List.all_eq_true.1 fX.1.1.1 e he)
       exact(hl e hlt).2 (by omega)) i (cj oi) wh.2 (by
      intro j hj hlt
      obtain⟨e,he,hb,rfl⟩:=dY.1 hj
      exact hall e he hb) (l.length+k) h' (by simp;omega)
     exact absurd ((hl _ (by simp;omega)).1 hc) (by omega)
    ·omega
   subst hik;have ho:(l++zs).toArray[l.length+k]?=some o:=by simpa using Mg
   have hw:wpOp P (l++zs).toArray Q (l.length+k) (wpList P (l++zs).toArray Q rest) a w:=by unfold wpOp;rw[ho];unfold wpList at h;exact h
   refine wpOp_mono (fun a' w' h'=>iV aZ hz (k+1) rest mF _ a' w' (by simp[hs]) ?_ h') hw;intro i hi;rw[cd _ _ _ (by rw[hs];simp;omega)];by_cases SI:i=l.length+k
   ·rw[if_pos SI];exact⟨fun _=>by omega,fun _=>rfl⟩
   ·rw[if_neg SI,hl i hi];omega
theorem aD (n i:Nat):(Array.replicate n false).getD i false=false:=by simp only[Array.getD_eq_getD_getElem?,Array.getElem?_replicate];split <;> rfl
theorem ny {a b:Act}(h1:a.tmps=b.tmps)(h2:a.defers=b.defers):a=b:=by cases a;cases b;simp_all
theorem oG {N:Nat}(aZ:bX l N l 0=true)(hz:cH (l++zs) zs l.length=true)(hf:∀w,R w0 w→cN V (fun a w=>wpList P (l++zs).toArray Q zs a w) l 0 a0 w) {listed:Array Bool} {a:Act} {w:World}(I:Inv l V R a0 w0 (l++zs).length listed a w)
  (h0:aG l.length listed=0):wpAny P .any (l++zs).toArray Q zs.length listed a w:=by
 have hall:=cq h0;have ha:a=fill (fun d=>a.eval (.tmp d)) l a0:=by
  have h1:a.tmps=(fill (fun d=>a.eval (.tmp d)) l a0).tmps:=by
   apply Array.ext_getElem?;intro t;by_cases ht:t < a0.tmps.size
   ·rw[iT _ _ _ _ ht];split
    ·simp[Act.eval,I.size,ht]
    ·rename_i hno;refine I.old t ?_;intro i o hi hd _;exact hno ⟨o,List.mem_of_getElem? hi,hd⟩
   ·rw[Array.getElem?_eq_none (by rw[I.size];omega),Array.getElem?_eq_none (by rw[gL];omega)]
  have h2:a.defers=(fill (fun d=>a.eval (.tmp d)) l a0).defers:=by rw[eC,I.defers]
  exact ny h1 h2
 have hK:=kX (V:=V) (fun d=>a.eval (.tmp d)) l 0 a0 (fun i o d hi hd=>by
  rw[Nat.zero_add]
  have qz:i < l.length:=by
   rcases Nat.lt_or_ge i l.length with h' | h'
   ·exact h'
   ·rw[List.getElem?_eq_none h'] at hi;cases hi
  exact I.new i o d hi (hall i qz) hd) (hf w I.r)
 rw[← ha] at hK;refine iV aZ hz 0 zs rfl listed a w I.len ?_ hK;intro i hi;constructor
 ·intro hl;rcases Nat.lt_or_ge i l.length with h' | h'
  ·omega
  ·rw[I.tail i h'] at hl;cases hl
 ·intro hl;exact hall i (by omega)
theorem iJ {id:Nat} {ops:List Oper}(zs:List Oper)(l:List Oper)(ow:ops=l++zs)(R:World→World→Prop)(hrefl:∀w,R w w)(qN:∀a b c,R a b→R b c→R a c)(iW:∀w,R w w.drew)
  (V:Nat→World→Value→Prop) (hV:∀i w w' v,V i w v→R w w'→V i w' v) (hm:P.follows .mixedOrders=true) (aZ:bX l a0.tmps.size l 0=true) (hz:cH (l++zs) zs l.length=true)
  (hs:Steps P l R V a0 w0 l 0) (hf:∀w,R w0 w→cN V (fun a w=>wpList P ops.toArray Q zs a w) l 0 a0 w):(Code.region id ops.toArray true).wp P Q a0 w0:=by
 subst ow;have main:∀(fuel:Nat) (listed:Array Bool) (a:Act) (w:World),Inv l V R a0 w0 (l++zs).length listed a w→fuel=aG l.length listed+zs.length→wpAny P .any (l++zs).toArray Q fuel listed a w:=by
  intro fuel;induction fuel with
  | zero=>
    intro listed a w I Mj;have h0:aG l.length listed=0:=by omega
    have hz0:zs.length=0:=by omega
    have:=oG aZ hz hf I h0;rwa [hz0] at this
  | succ fuel ih=>
    intro listed a w I Mj;by_cases h0:aG l.length listed=0
    ·have:=oG aZ hz hf I h0;rwa [show zs.length=fuel+1 by omega] at this
    ·obtain⟨i0,qj,Jw⟩:=fp h0;obtain⟨i,⟨hi,hu⟩,wj⟩:=least (p:=fun i=>i < l.length∧listed.getD i false=false) i0 ⟨qj,Jw⟩;have jT:∀j,j < i→listed.getD j false=true:=fun j hj=>by
      cases hc:listed.getD j false with
      | true=>rfl
      | false=>exact absurd ⟨by omega,hc⟩ (wj j hj)
     have vI:l[i]?=some l[i]:=List.getElem?_eq_getElem hi;have kY:=aR aZ i _ vI;simp only[ew,Bool.and_eq_true,Nat.zero_add] at kY;have ee:i∈Region.ready .any (l++zs).toArray listed:=by
      refine iU (fW vI) ?_ fun j hj=>jT j (of_decide_eq_true (List.all_eq_true.1 kY.1.1.1 j hj))
      rw[cm (by rw[I.len];simp;omega)];exact hu
     refine⟨(fun hnil=>by rw[hnil] at ee;cases ee),fun j hj=>?_⟩;obtain⟨oH,oj,ig,hall⟩:=mem_ready.1 hj;have uH:j <(l++zs).length:=by
      rcases Nat.lt_or_ge j (l++zs).length with h' | h'
      ·exact h'
      ·rw[Array.getElem?_eq_none (by simpa using h')] at ig;cases ig
     rw[cm (by rw[I.len];exact uH)] at oH;have cZ:∀k∈cj oj,listed.getD k false=true:=fun k hk=>by obtain⟨e,he,hb,rfl⟩:=dY.1 hk;exact hall e he hb
     have AV:j < l.length:=by
      rcases Nat.lt_or_ge j l.length with h' | h'
      ·exact h'
      ·exfalso;have Fo:zs[j - l.length]?=some oj:=by
        have:(l++zs)[j]?=some oj:=by simpa using ig
        rw[List.getElem?_append_right (by omega)] at this;exact this
       have wh:=dE hz (j - l.length) oj Fo;rw[show l.length+(j - l.length)=j by omega] at wh;have hc:=dJ (L:=l++zs) (fun k=>listed.getD k false=true) (by
        intro k ok hk hd e he
        rcases Nat.lt_or_ge k l.length with wk | wk
        ·rw[List.getElem?_append_left wk] at hk
         exact I.closed k ok hk hd e he
        ·rw[I.tail k wk] at hd;cases hd) j (cj oj) wh.2 cZ i (by omega)
       rw[hu] at hc;cases hc
     have pH:l[j]?=some oj:=by
      have:(l++zs)[j]?=some oj:=by simpa using ig
      rw[List.getElem?_append_left AV] at this;exact this
     have hst:=oF hs j oj pH;rw[Nat.zero_add] at hst;have Hz:=Inv.reads aZ I pH oH cZ (tmpsOf oj) (fun _ h=>h);have hstep:=hst a.eval w (fU a) I.r Hz;have rT:∀v w',R w w'→V j w' v→wpAny P .any (l++zs).toArray Q fuel (listed.setIfInBounds j true) (a.put oj.dst v) w':=by intro v w' hr hv;refine ih _ _ _ (I.step aZ hV qN pH uH oH cZ hr hv) ?_;have:=fo l.length listed j (by rw[I.len];exact uH) AV oH;omega
     unfold wpOp;rw[ig];show if Region.wanted oj (yielded (l++zs).toArray a.tmps)=true then _ else _
     cases hg:oj.guard with
     | none=>rw[if_pos (by simp[Region.wanted,hg])];simp only[hg] at hstep;exact .inl (eA hstep fun v w' h=>rT v w' h.1 h.2)
     | some g=>
       obtain⟨k,want⟩:=g;simp only[hg] at hstep;have fX:=aR aZ j oj pH;simp only[ew,hg,Bool.and_eq_true,Nat.zero_add] at fX;have Fp:listed.getD k false=true:=cZ k (cY.1 fX.2.1);cases hd:(l[k]?).bind (·.dst)with
       | none=>simp only[hd] at hstep
       | some d=>
         simp only[hd] at hstep;obtain⟨ok,qO,Me⟩:∃ok,l[k]?=some ok∧ok.dst=some d:=by
          cases hlk:l[k]? with
          | none=>rw[hlk] at hd;cases hd
          | some ok=>rw[hlk] at hd;exact⟨ok,rfl,hd⟩
         have Ul:=I.new k ok d qO Fp Me;obtain⟨h1,h2⟩:=hstep Ul;have wb:=aR aZ k ok qO;simp only[ew,Me,Bool.and_eq_true,decide_eq_true_eq,Nat.zero_add] at wb;have Um:d < a.tmps.size:=by rw[I.size];exact wb.1.1.2.1
         have kZ:yielded (l++zs).toArray a.tmps k=match a.eval (.tmp d)with | .bool b=>some b | _=>none:=by unfold yielded;rw[fW qO];simp only[Option.bind_some,Me,Act.eval,Array.getD_eq_getD_getElem?,Array.getElem?_eq_getElem Um,Option.getD_some];cases a.tmps[d] <;> rfl
         by_cases jU:a.eval (.tmp d)=.bool want
         ·rw[if_pos (by simp[Region.wanted,hg,kZ,jU])];exact .inl (eA (h1 jU) fun v w' h=>rT v w' h.1 h.2)
         ·rw[if_neg (by
           simp only[Region.wanted,hg,kZ]
           intro hc
           apply jU
           cases hv:a.eval (.tmp d)<;> rw[hv] at hc <;> simp at hc
           rw[hc])]
          exact rT undef w (hrefl w) (h2 jU)
 refine wp_region_any hm ?_;have h0:R w0 w0.drew:=iW w0;have:=main (l++zs).toArray.size (Array.replicate (l++zs).toArray.size false) a0 w0.drew ⟨h0,rfl,rfl,fun _ _=>rfl,(fun i o d _ h=>by rw[aD] at h;cases h),(fun i o _ h=>by rw[aD] at h;cases h),by simp,fun i _=>aD _ _⟩ (by
  have:aG l.length (Array.replicate (l++zs).toArray.size false)=l.length:=by
   unfold aG
   rw[List.filter_eq_self.2 (fun i _=>by rw[aD];rfl),List.length_range]
  rw[this];simp)
 exact this
end
end Go.Proofs.YtfmbcoeallmnnaaGreatDoor.R
