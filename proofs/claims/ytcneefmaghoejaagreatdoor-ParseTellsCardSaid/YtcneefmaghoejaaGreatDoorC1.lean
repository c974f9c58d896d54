/- Parts of the proof. -/
import Derived.Below
import Derived.Deep.AppendLies
import Derived.Deep.Draws
import Derived.OwnWalk
namespace Go.Proofs.YtcneefmaghoejaaGreatDoor
open Go.RowKit
theorem Eo (a:Addr)(n:Nat):(a.add n).block=a.block:=by unfold Addr.add;split <;> rfl
def Reads (w:World)(B size:Nat)(A:Option Addr)(n:Nat)(xs:List Value):Prop:=
 xs.length=n*size∧(0 < n→∃ad,A=some ad∧ad.block < B∧∀j u,xs[j]?=some u→w.cell? (ad.add j)=some u)
section
variable {w w':World} {B B' size n:Nat} {A:Option Addr} {xs:List Value}
theorem Reads.none_:Reads w B size A 0 []:=⟨by simp,fun h=>absurd h (by omega)⟩
theorem Reads.keep (h:Reads w B size A n xs)(hk:∀p:Addr,p.block < B→w'.cell? p=w.cell? p):Reads w' B size A n xs:=
 ⟨h.1,fun hn=>by
   obtain⟨ad,e,hb,hc⟩:=h.2 hn
   exact⟨ad,e,hb,fun j u hu=>(hk _ (by rw[Eo];exact hb)).trans (hc j u hu)⟩⟩
theorem Reads.more (h:Reads w B size A n xs)(hB:B≤B'):Reads w B' size A n xs:=
 ⟨h.1,fun hn=>by
   obtain⟨ad,e,hb,hc⟩:=h.2 hn
   exact⟨ad,e,by omega,hc⟩⟩
theorem Reads.below (h:Reads w B size A n xs)(hb:Below B w w'):Reads w' B size A n xs:=h.keep fun _ hp=>hb.cell hp
theorem Reads.drewN (h:Reads w B size A n xs)(k:Nat):Reads (w.drewN k) B size A n xs:=h
theorem Reads.alloc (h:Reads w B size A n xs)(hB:B≤w.heap.size)(o:Obj):Reads (w.alloc o) B size A n xs:=h.keep fun p hp=>World.cell?_alloc_lt w o p (by omega)
theorem Reads.E3 {base:Nat} {e:TypeId} {c:Nat}(h:w.ownsRow base e size (.slice A n c) n xs):Reads w w.heap.size size A n xs:=by
 refine⟨h.1,fun hn=>?_⟩;obtain⟨g,cap,hv,_,hlt⟩:=h.form hn;have hA:A=some ⟨g,0,none⟩:=by injection hv
 subst hA;exact⟨_,rfl,hlt,h.cells (g:=g) rfl⟩
end
section
variable {P:Program} (w:World)
theorem vy (base:Nat)(t ty e:TypeId)(i:TypeInfo)(size:Nat)(ht:P.underlying t=some (.slice e))(hi:P.info? e=some i)
  (v:Value) (n:Nat) (xs:List Value) (hown:w.ownsRow base e size v n xs) (c:Nat):(Builtin.append_ #[t,t] ty #[v,.slice none 0 c]).run P w=.ok v w:=by
 rcases hown.2 with ⟨rfl,rfl⟩|⟨g,cap,cur,rfl,_,_,hnc,_⟩
 ·simp[Builtin.append_,run_underlying ht,sizeOf,typeInfo,hi,Builtin.lenOf,Builtin.firstCells]
 ·simp[Builtin.append_,run_underlying ht,sizeOf,typeInfo,hi,Builtin.lenOf,Builtin.firstCells,hnc,storeCells]
theorem nR (base:Nat)(t ty e:TypeId)(i:TypeInfo)(z:Value)(size bytes:Nat)(ht:P.underlying t=some (.slice e))(hi:P.info? e=some i)(hz:i.zero=some z)
  (hsize:i.size=size) (hby:i.bytes=bytes) (hzs:z.cells.size=size) (hsz:0 < size)
  (v:Value) (n:Nat) (xs:List Value) (hown:w.ownsRow base e size v n xs)
  (B:Nat) (A:Option Addr) (m c:Nat) (news:List Value) (hr:Reads w B size A m news) (h1:∀u∈news,u.oneCell'=true)
  (h63:n+m≤maxLen) (hbytes:(n+m)*bytes≤140737488355328) (hbase:base≤w.heap.size):
  ∃v' w',(Builtin.append_ #[t,t] ty #[v,.slice A m c]).run P w=.ok v' w'∧w'.ownsRow base e size v' (n+m) (xs++news)∧w.grownBy w' v.ownBlock∧
   (v'.ownBlock=v.ownBlock∨v'.ownBlock=some w.heap.size):=by
 rcases A with _ | ad
 ·have hm:m=0:=by
   rcases Nat.eq_zero_or_pos m with h0 | h0
   ·exact h0
   ·obtain⟨ad,h,_⟩:=hr.2 h0;cases h
  subst hm;have hn:news=[]:=List.eq_nil_of_length_eq_zero (by simpa using hr.1);subst hn;exact⟨v,w,vy w base t ty e i size ht hi v n xs hown c,by simpa using hown,World.grownBy.refl w _,.inl rfl⟩
 ·have zJ:∀j u,news[j]?=some u→w.cell? (ad.add j)=some u:=by
   intro j u hu;rcases Nat.eq_zero_or_pos m with h0 | h0
   ·subst h0;have hn:news=[]:=List.eq_nil_of_length_eq_zero (by simpa using hr.1);subst hn;simp at hu
   ·obtain⟨ad',h,_,hc⟩:=hr.2 h0;injection h with h;subst h;exact hc j u hu
  obtain⟨v',w',hrun,h2,h3,_,h5⟩:=run_append_own_at (P:=P) w base t ty e i z size bytes ht hi hz hsize hby hzs hsz v n xs hown ad m c news hr.1 zJ h1 h63 hbytes hbase;exact⟨v',w',hrun,h2,h3,h5⟩
theorem Ce {o:Oper} {a:Act} {K:Act→World→Prop} {Q:Exit→Act→World→Prop}(s x:Operand)(t:TypeId)
  (ho:o.op=.call { callee:=.builtin .append,args:= #[s,x],argTypes:= #[t,t] })
  (base:Nat) (e:TypeId) (i:TypeInfo) (z:Value) (size bytes:Nat) (ht:P.underlying t=some (.slice e)) (hi:P.info? e=some i) (hz:i.zero=some z)
  (hsize:i.size=size) (hby:i.bytes=bytes) (hzs:z.cells.size=size) (hsz:0 < size)
  (v:Value) (n:Nat) (xs:List Value) (hs:a.eval s=v) (hown:w.ownsRow base e size v n xs)
  (B:Nat) (A:Option Addr) (m c:Nat) (news:List Value) (hx:a.eval x=.slice A m c) (hr:Reads w B size A m news) (h1:∀u∈news,u.oneCell'=true)
  (h63:n+m≤maxLen) (hbytes:(n+m)*bytes≤140737488355328) (hbase:base≤w.heap.size)
  (h:∀v' w',w'.ownsRow base e size v' (n+m) (xs++news)→w.grownBy w' v.ownBlock→(v'.ownBlock=v.ownBlock∨v'.ownBlock=some w.heap.size)→K (a.put o.dst v') w'):o.wp P a w K Q:=by
 obtain⟨v',w',hrun,h2,h3,h4⟩:=nR (P:=P) w base t o.type e i z size bytes ht hi hz hsize hby hzs hsz v n xs hown B A m c news hr h1 h63 hbytes hbase;unfold Oper.wp execOp;simp only[ho,resolve,invoke,builtin,Sem.run_bind,Sem.run_pure,Result.andThen_ok,List.map_toArray,List.map_cons,List.map_nil,hs,hx,hrun];exact h v' w' h2 h3 h4
theorem oT {ops:Array Oper} {rest:List Oper} {o:Oper} {a:Act} {Q:Exit→Act→World→Prop}(hgd:o.guard=none)(s x:Operand)(t:TypeId)
  (ho:o.op=.call { callee:=.builtin .append,args:= #[s,x],argTypes:= #[t,t] })
  (base:Nat) (e:TypeId) (i:TypeInfo) (z:Value) (size bytes:Nat) (ht:P.underlying t=some (.slice e)) (hi:P.info? e=some i) (hz:i.zero=some z)
  (hsize:i.size=size) (hby:i.bytes=bytes) (hzs:z.cells.size=size) (hsz:0 < size)
  (v:Value) (n:Nat) (xs:List Value) (hs:a.eval s=v) (hown:w.ownsRow base e size v n xs)
  (B:Nat) (A:Option Addr) (m c:Nat) (news:List Value) (hx:a.eval x=.slice A m c) (hr:Reads w B size A m news) (h1:∀u∈news,u.oneCell'=true)
  (h63:n+m≤maxLen) (hbytes:(n+m)*bytes≤140737488355328) (hbase:base≤w.heap.size)
  (h:∀v' w',w'.ownsRow base e size v' (n+m) (xs++news)→w.grownBy w' v.ownBlock→(v'.ownBlock=v.ownBlock∨v'.ownBlock=some w.heap.size)→wpList P ops Q rest (a.put o.dst v') w'):wpList P ops Q (o::rest) a w:=
 wpList_plain hgd fun _ hK=>Ce w s x t ho base e i z size bytes ht hi hz hsize hby hzs hsz v n xs hs hown B A m c news hx hr h1 h63 hbytes hbase fun v' w' h2 h3 h4=>hK _ _ (h v' w' h2 h3 h4)
end
def au (w:World)(g:Nat)(t:TypeId)(cs:Array Value):Prop:=w.heap[g]?=some (.cells cs t (0,0))
section
variable {w w':World} {g:Nat} {t:TypeId} {cs:Array Value}
theorem au.lt (h:au w g t cs):g < w.heap.size:=by
 rcases Nat.lt_or_ge g w.heap.size with hlt | JA
 ·exact hlt
 ·unfold au at h;rw[Array.getElem?_eq_none JA] at h;cases h
theorem au.cell (h:au w g t cs)(i:Nat):w.cell? ⟨g,i,none⟩=cs[i]?:=cell_of_row w g i cs t (0,0) h
theorem au.frozen (h:au w g t cs)(i:Nat):w.frozen? ⟨g,i,none⟩=false:=by unfold au at h;simp[World.frozen?,h]
theorem au.new (w:World)(t:TypeId)(cs:Array Value):au (w.alloc (.cells cs t)) w.heap.size t cs:=heap_alloc_new w _
theorem au.drew (h:au w g t cs):au w.drew g t cs:=h
theorem au.drewN (h:au w g t cs)(n:Nat):au (w.drewN n) g t cs:=h
theorem au.alloc (h:au w g t cs)(o:Obj):au (w.alloc o) g t cs:=(Below.heap_alloc w o g h.lt).trans h
theorem au.cg (h:au w g t cs)(i:Nat)(u:Value):au (w.setCell ⟨g,i,none⟩ u) g t (cs.setIfInBounds i u):=by unfold au at h ⊢;simp[World.setCell,Array.getElem?_modify,h]
theorem au.far (h:au w g t cs) {p:Addr}(hp:g≠p.block)(u:Value):au (w.setCell p u) g t cs:=(Below.heap_setCell w p u g hp).trans h
theorem au.below {B:Nat}(h:au w g t cs)(hb:Below B w w')(hg:g < B):au w' g t cs:=(hb.block g hg).trans h
theorem au.later (h:au w g t cs)(hb:Below w.heap.size w w'):au w' g t cs:=h.below hb h.lt
theorem au.grown {row:Option Nat}(h:au w g t cs)(hb:w.grownBy w' row)(hg:some g≠row):au w' g t cs:=(hb.block g h.lt hg).trans h
end
theorem aH {p:Nat} {w w':World}(h:Below w.heap.size w w'):w.grownBy w' (some p):=⟨h.os,h.tape,h.output,h.size,fun k hk _=>h.block k hk⟩
theorem af {p:Nat} {a b c:World}(h:a.grownBy b (some p))(k:b.grownBy c (some p)):a.grownBy c (some p):=
 ⟨k.os.trans h.os,k.tape.trans h.tape,k.output.trans h.output,Nat.le_trans h.size k.size,fun i hi hne=>(k.block i (Nat.lt_of_lt_of_le hi h.size) hne).trans (h.block i hi hne)⟩
theorem cd {p:Nat} {a b:World}(h:a.grownBy b (some p))(i:Nat)(u:Value):a.grownBy (b.setCell ⟨p,i,none⟩ u) (some p):=by
 refine⟨h.os,h.tape,h.output,?_,fun k hk hne=>?_⟩
 ·have:(b.setCell ⟨p,i,none⟩ u).heap.size=b.heap.size:=by simp[World.setCell]
  rw[this];exact h.size
 ·rw[Below.heap_setCell b ⟨p,i,none⟩ u k (fun e=>hne (by rw[e]))];exact h.block k hk hne
theorem bD {p B:Nat} {a b:World}(h:a.grownBy b (some p))(hB:B≤a.heap.size)(hp:B≤p):Below B a b:=
 ⟨h.os,h.tape,h.output,h.size,fun k hk=>h.block k (by omega) (fun e=>by injection e with e;omega)⟩
set_option linter.unusedVariables false
def df {α:Type}(f:α→List Value)(e:TypeId)(size:Nat)(w:World)(base:Nat)(v:Value)(l:List α):Prop:=w.ownsRow base e size v l.length (l.flatMap f)
section
variable {α:Type} {f:α→List Value} {e:TypeId} {size:Nat} {w w':World} {base:Nat} {v:Value} {l:List α}
theorem df.nil:df f e size w base (.slice none 0 0) []:=⟨by simp,.inl ⟨rfl,rfl⟩⟩
theorem df.reads (h:df f e size w base v l):∃A c,v=.slice A l.length c∧Reads w w.heap.size size A l.length (l.flatMap f)∧l.length≤c∧(l=[]∨∃g,A=some ⟨g,0,none⟩∧base≤g):=by
 rcases h.2 with ⟨rfl,h0⟩|⟨g,cap,cur,rfl,hb,hg,hn,hm,hs,ht⟩
 ·have:l=[]:=List.eq_nil_of_length_eq_zero h0;subst this;exact⟨none,0,rfl,Reads.none_,Nat.le_refl _,.inl rfl⟩
 ·exact⟨some ⟨g,0,none⟩,cap,rfl,Reads.E3 h,hn,.inr ⟨g,rfl,hb⟩⟩
theorem df.keep (h:df f e size w base v l)(hk:∀g,v.ownBlock=some g→w'.heap[g]?=w.heap[g]?):df f e size w' base v l:=by
 refine⟨h.1,?_⟩;rcases h.2 with h0 |⟨g,cap,cur,rfl,hbg,hg,hn,hm,hs,ht⟩
 ·exact .inl h0
 ·exact .inr ⟨g,cap,cur,rfl,hbg,(hk g rfl).trans hg,hn,hm,hs,ht⟩
theorem df.lt (h:df f e size w base v l) {g:Nat}(hg:v.ownBlock=some g):g < w.heap.size∧base≤g∧∃cur,w.heap[g]?=some (.cells cur e (0,0)):=by
 rcases h.2 with ⟨rfl,_⟩|⟨g',cap,cur,rfl,hbg,QU,hn,hm,hs,ht⟩
 ·simp[Value.ownBlock] at hg
 ·simp only[Value.ownBlock,Option.some.injEq] at hg;subst hg;refine⟨?_,hbg,cur,QU⟩;rcases Nat.lt_or_ge g' w.heap.size with hlt | JA
  ·exact hlt
  ·rw[Array.getElem?_eq_none JA] at QU;cases QU
theorem df.later (h:df f e size w base v l)(hb:Below w.heap.size w w'):df f e size w' base v l:=h.keep fun g hg=>hb.block g (h.lt hg).1
theorem df.other (h:df f e size w base v l) {q:Nat} {t:TypeId} {cs:Array Value}(hq:au w q t cs)(ht:t≠e):v.ownBlock≠some q:=by intro hg;obtain⟨_,_,cur,hc⟩:=h.lt hg;unfold au at hq;rw[hq] at hc;injection hc with hc;injection hc with _ hc _;exact ht hc
theorem df.grown {p:Nat}(h:df f e size w base v l)(hg:w.grownBy w' (some p))(hp:v.ownBlock≠some p):df f e size w' base v l:=h.keep fun g aF=>hg.block g (h.lt aF).1 fun e=>hp (by rw[aF];exact e)
theorem au.Gf {q:Nat} {t:TypeId} {cs:Array Value}(hq:au w q t cs)(h:df f e size w base v l)(ht:t≠e)(hg:w.grownBy w' v.ownBlock):au w' q t cs:=hq.grown hg fun e=>h.other hq ht e.symm
theorem nK (h:df f e size w base v l)(hg:w.grownBy w' v.ownBlock)(hbase:base≤w.heap.size):Below base w w':=by refine⟨hg.os,hg.tape,hg.output,hg.size,fun k hk=>hg.block k (by omega) fun e=>?_⟩;have:=(h.lt e.symm).2.1;omega
theorem jG {P:Program} {ops:Array Oper} {rest:List Oper} {o:Oper} {a:Act} {Q:Exit→Act→World→Prop}(hgd:o.guard=none)(s x:Operand)(t:TypeId)
  (ho:o.op=.call { callee:=.builtin .append,args:= #[s,x],argTypes:= #[t,t] })
  (z:Value) (bytes:Nat) (ht:P.underlying t=some (.slice e)) (nS:(P.info? e).map (fun i=>(i.zero,i.size,i.bytes))=some (some z,size,bytes)) (hzs:z.cells.size=size) (hsz:0 < size)
  (y:α) (hf:(f y).length=size) (h1:∀u∈f y,u.oneCell'=true)
  (hs:a.eval s=v) (hown:df f e size w base v l)
  (g:Nat) (hx:a.eval x=.slice (some ⟨g,0,none⟩) 1 1) (hg:au w g e (f y).toArray)
  (hlen:(l.length+1)*bytes≤140737488355328) (oU:l.length+1≤140737488355328) (hbase:base≤w.heap.size)
  (h:∀v' w',df f e size w' base v' (l++ [y])→w.grownBy w' v.ownBlock→wpList P ops Q rest (a.put o.dst v') w'):wpList P ops Q (o::rest) a w:=by
 obtain⟨i0,CF,hz0,hz1,hz2⟩:=info_parts nS;refine oT w hgd s x t ho base e i0 z size bytes ht CF hz0 hz1 hz2 hzs hsz v l.length (l.flatMap f) hs hown (g+1) (some ⟨g,0,none⟩) 1 1 (f y) hx ⟨by omega,fun _=>⟨_,rfl,Nat.lt_succ_self _,?_⟩⟩ h1 (by unfold maxLen;omega) hlen hbase ?_
 ·intro j u hu;have:(Addr.add ⟨g,0,none⟩ j)=⟨g,j,none⟩:=by unfold Addr.add;split <;> simp_all
  rw[this,hg.cell];simpa using hu
 ·intro v' w' h2 h3 h4;refine h v' w' ?_ h3;unfold df;rw[List.length_append,List.flatMap_append];simpa using h2
end
def tmpsOf (o:Oper):List Tmp:=o.op.operands.toList.filterMap fun | .tmp t=>some t | _=>none
def jY (t:Tmp):List Oper→Nat→Option Nat
 | [],_=>none
 | o::l,i=>if o.dst=some t then some i else jY t l (i+1)
def iq (o:Oper)(j:Nat):Bool:=o.after.toList.any fun e=>Region.binds .any e && Nat.beq e.on j
def ct (l:List Oper)(o:Oper)(t:Tmp):Option Nat:=
 match jY t l 0 with
 | some j=>if iq o j then some j else none
 | none=>none
def iI (o:Oper):List Nat:=(o.after.toList.filter (Region.binds .any ·)).map (·.on)
def mZ (l:List Oper)(N:Nat)(i:Nat)(o:Oper):Bool:=
 (iI o).all (fun j=>decide (j < i))&&
 (match o.dst with | some d=>decide (d < N)&&(jY d l 0==some i)| none=>true)&&
 (tmpsOf o).all (fun t=>match jY t l 0 with | some j=>iq o j ||(match l[j]? with | some oj=>iq oj i | none=>false)| none=>true)&&
 (match o.guard with | none=>true | some (j,_)=>iq o j &&(match l[j]? with | some oj=>oj.dst.isSome | none=>false))
def eQ (l:List Oper)(N:Nat):List Oper→Nat→Bool
 | [],_=>true
 | o::rest,i=>mZ l N i o && eQ l N rest (i+1)
def zK (l:List Oper):Nat→List Nat→Bool
 | 0,_=>true
 | k+1,S=>S.contains k && zK l k (S++(match l[k]? with | some o=>iI o | none=> []))
def fL (l:List Oper):List Oper→Nat→Bool
 | [],_=>true
 | o::rest,i=>(iI o).all (fun j=>decide (j < i))&& zK l i (iI o)&& fL l rest (i+1)
def xR (P:Program)(o:Oper)(ρ:Operand→Value)(w:World)(T:Value→World→Prop):Prop:=
 match (execOp ρ o).run P w with
 | .ok (.value v) w'=>T v w'
 | .ok .skip w'=>T undef w'
 | .ok (.enter f args) w'=>Calls P f args w' fun e w''=>∃v,e=.returned v∧T v w''
 | _=>False
structure dn (ρ:Operand→Value):Prop where
 const:∀v,ρ (.const v)=v
 func:∀f,ρ (.func f)=.func (.func f) #[] #[]
 global:∀g,ρ (.global g)=.pointer (some ⟨g,0,none⟩)
theorem oV (a:Act):dn a.eval:=⟨fun _=>rfl,fun _=>rfl,fun _=>rfl⟩
def nT (l:List Oper)(V:Nat→World→Value→Prop)(Z7 ρ:Operand→Value)(w:World)(o:Oper):List Tmp→Prop
 | []=>True
 | t::ts=>(match ct l o t with | some j=>V j w (ρ (.tmp t))| none=>ρ (.tmp t)=Z7 (.tmp t))∧nT l V Z7 ρ w o ts
def QV (P:Program)(l:List Oper)(R:World→World→Prop)(V:Nat→World→Value→Prop)(a0:Act)(w0:World)(i:Nat)(o:Oper):Prop:=
 ∀ρ w,dn ρ→R w0 w→nT l V a0.eval ρ w o (tmpsOf o)→
  match o.guard with
  | none=>xR P o ρ w fun v w'=>R w w'∧V i w' v
  | some (j,want)=>match (l[j]?).bind (·.dst)with
    | some d=>V j w (ρ (.tmp d))→(ρ (.tmp d)=.bool want→xR P o ρ w fun v w'=>R w w'∧V i w' v)∧(ρ (.tmp d)≠ .bool want→V i w undef)
    | none=>False
def Steps (P:Program)(l:List Oper)(R:World→World→Prop)(V:Nat→World→Value→Prop)(a0:Act)(w0:World):List Oper→Nat→Prop
 | [],_=>True
 | o::rest,i=>QV P l R V a0 w0 i o∧Steps P l R V a0 w0 rest (i+1)
def kA (V:Nat→World→Value→Prop)(K:Act→World→Prop):List Oper→Nat→Act→World→Prop
 | [],_,a,w=>K a w
 | o::rest,i,a,w=>match o.dst with
   | some d=>∀v,V i w v→kA V K rest (i+1) (a.put (some d) v) w
   | none=>kA V K rest (i+1) a w
theorem Gg {P:Program} {L:List Oper} {R:World→World→Prop} {V:Nat→World→Value→Prop} {a0:Act} {w0:World}:∀ {l:List Oper} {k:Nat},Steps P L R V a0 w0 l k→∀i o,l[i]?=some o→QV P L R V a0 w0 (k+i) o
 | [],_,_,i,o,h=>by simp at h
 | x::l,k,hs,0,o,h=>by simp at h;subst h;exact hs.1
 | x::l,k,hs,i+1,o,h=>by have:=Gg hs.2 i o (by simpa using h);rwa [show k+1+i=k+(i+1) by omega] at this
theorem dN {L:List Oper} {N:Nat}:∀ {l:List Oper} {k:Nat},eQ L N l k=true→∀i o,l[i]?=some o→mZ L N (k+i) o=true
 | [],_,_,i,o,h=>by simp at h
 | x::l,k,hs,0,o,h=>by simp at h;subst h;simp only[eQ,Bool.and_eq_true] at hs;exact hs.1
 | x::l,k,hs,i+1,o,h=>by simp only[eQ,Bool.and_eq_true] at hs;have:=dN hs.2 i o (by simpa using h);rwa [show k+1+i=k+(i+1) by omega] at this
theorem kZ {L:List Oper}:∀ {l:List Oper} {k:Nat},fL L l k=true→∀i o,l[i]?=some o→(iI o).all (fun j=>decide (j < k+i))=true∧zK L (k+i) (iI o)=true
 | [],_,_,i,o,h=>by simp at h
 | x::l,k,hs,0,o,h=>by simp at h;subst h;simp only[fL,Bool.and_eq_true] at hs;exact hs.1
 | x::l,k,hs,i+1,o,h=>by simp only[fL,Bool.and_eq_true] at hs;have:=kZ hs.2 i o (by simpa using h);rwa [show k+1+i=k+(i+1) by omega] at this
theorem mb {o:Oper} {j:Nat}:j∈iI o↔∃e∈o.after,Region.binds .any e=true∧e.on=j:=by
 unfold iI;simp only[List.mem_map,List.mem_filter,Array.mem_toList_iff];constructor
 ·rintro⟨e,⟨h1,h2⟩,h3⟩;exact⟨e,h1,h2,h3⟩
 ·rintro⟨e,h1,h2,h3⟩;exact⟨e,⟨h1,h2⟩,h3⟩
theorem dZ {o:Oper} {j:Nat}:iq o j=true↔j∈iI o:=by rw[mb];unfold iq;simp only[List.any_eq_true,Bool.and_eq_true,Nat.beq_eq,Array.mem_toList_iff]
theorem ld {L:List Oper}(done:Nat→Prop)(U2:∀i o,L[i]?=some o→done i→∀j∈iI o,done j):
  ∀(k:Nat) (S:List Nat),zK L k S=true→(∀j∈S,done j)→∀j,j < k→done j
 | 0,_,_,_,j,hj=>absurd hj (by omega)
 | k+1,S,hc,hS,j,hj=>by
   simp only[zK,Bool.and_eq_true] at hc;have hk:done k:=hS k (by simpa using hc.1);by_cases e:j=k
   ·subst e;exact hk
   ·refine ld done U2 k _ hc.2 ?_ j (by omega);intro i hi;rcases List.mem_append.1 hi with h | h
    ·exact hS i h
    ·split at h
     ·rename_i o ho;exact U2 k o ho hk i h
     ·cases h
theorem qu {t:Tmp}:∀ {l:List Oper} {k i:Nat} {o:Oper},l[i]?=some o→o.dst=some t→(∃j,jY t l k=some j)
 | [],_,i,o,h,_=>by simp at h
 | x::l,k,0,o,h,hd=>by simp at h;subst h;exact⟨k,by simp[jY,hd]⟩
 | x::l,k,i+1,o,h,hd=>by
   by_cases hx:x.dst=some t
   ·exact⟨k,by simp[jY,hx]⟩
   ·obtain⟨j,hj⟩:=qu (l:=l) (k:=k+1) (i:=i) (o:=o) (by simpa using h) hd;exact⟨j,by simp[jY,hx,hj]⟩
theorem rE {t:Tmp}:∀ {l:List Oper} {k j:Nat},jY t l k=some j→∃i o,j=k+i∧l[i]?=some o∧o.dst=some t
 | [],_,_,h=>by simp[jY] at h
 | x::l,k,j,h=>by
   unfold jY at h;split at h
   ·rename_i hx;injection h with h;subst h;exact⟨0,x,rfl,rfl,hx⟩
   ·obtain⟨i,o,e,h1,h2⟩:=rE h;exact⟨i+1,o,by omega,by simpa using h1,h2⟩
structure Inv (l:List Oper) (V:Nat→World→Value→Prop) (R:World→World→Prop) (a0:Act) (w0:World) (m:Nat) (listed:Array Bool) (a:Act) (w:World):Prop where
 r:R w0 w
 defers:a.defers=a0.defers
 size:a.tmps.size=a0.tmps.size
 old:∀t,(∀i o,l[i]?=some o→o.dst=some t→listed.getD i false=true→False)→a.tmps[t]?=a0.tmps[t]?
 new:∀i o d,l[i]?=some o→listed.getD i false=true→o.dst=some d→V i w (a.eval (.tmp d))
 closed:∀i o,l[i]?=some o→listed.getD i false=true→∀j∈iI o,listed.getD j false=true
 len:listed.size=m
 tail:∀i,l.length≤i→listed.getD i false=false
def cT (l:Nat)(listed:Array Bool):Nat:=((List.range l).filter fun i=> !listed.getD i false).length
theorem gQ (listed:Array Bool)(i j:Nat)(hi:i < listed.size):(listed.setIfInBounds i true).getD j false=if j=i then true else listed.getD j false:=by
 by_cases h:j=i
 ·subst h;simp[hi]
 ·simp only[Array.getD_eq_getD_getElem?,if_neg h];rw[Array.getElem?_setIfInBounds_ne (fun e=>h e.symm)]
theorem xS {p q:Nat→Bool} {i:Nat}:∀ {L:List Nat},L.Nodup→i∈L→p i=true→q i=false→(∀j∈L,j≠i→q j=p j)→(L.filter q).length+1=(L.filter p).length
 | [],_,h,_,_,_=>by cases h
 | x::L,hn,hm,hp,hq,YH=>by
   have hn':=(List.nodup_cons.1 hn);by_cases hx:x=i
   ·subst hx;have he:L.filter q=L.filter p:=List.filter_congr fun j hj=>YH j (List.mem_cons_of_mem _ hj) (fun e=>hn'.1 (e▸hj))
    rw[List.filter_cons,List.filter_cons,hp,hq,he];simp
   ·have hi:i∈L:=by
     rcases List.mem_cons.1 hm with h | h
     ·exact absurd h.symm hx
     ·exact h
    have ih:=xS hn'.2 hi hp hq (fun j hj=>YH j (List.mem_cons_of_mem _ hj));have hxq:=YH x (List.mem_cons_self) hx;rw[List.filter_cons,List.filter_cons,hxq];split
    ·simp only[List.length_cons];omega
    ·exact ih
theorem nt (l:Nat)(listed:Array Bool)(i:Nat)(hi:i < listed.size)(hl:i < l)(h:listed.getD i false=false):cT l (listed.setIfInBounds i true)+1=cT l listed:=by unfold cT;refine xS (i:=i) List.nodup_range (List.mem_range.2 hl) (by simp[h]) (by rw[gQ _ _ _ hi];simp) ?_;intro j _ hj;rw[gQ _ _ _ hi,if_neg hj]
theorem fG {l:Nat} {listed:Array Bool}(h:cT l listed=0):∀i,i < l→listed.getD i false=true:=by
 intro i hi;unfold cT at h;have:=List.length_eq_zero_iff.1 h;cases hc:listed.getD i false with
 | true=>rfl
 | false=>
   have hm:i∈(List.range l).filter fun i=> !listed.getD i false:=List.mem_filter.2 ⟨List.mem_range.2 hi,by simp[hc]⟩
   rw[this] at hm;cases hm
theorem least {p:Nat→Prop}:∀n,p n→∃i,p i∧∀j,j < i→¬p j:=by
 intro n hn;induction n using Nat.strongRecOn with
 | ind n ih=>
   by_cases h:∃j,j < n∧p j
   ·obtain⟨j,hj,hp⟩:=h;exact ih j hj hp
   ·exact⟨n,hn,fun j hj hp=>h ⟨j,hj,hp⟩⟩
theorem nu {l:Nat} {listed:Array Bool}(h:cT l listed≠0):∃i,i < l∧listed.getD i false=false:=by
 unfold cT at h
 match hf:(List.range l).filter fun i=> !listed.getD i false with
 | []=>rw[hf] at h;exact absurd rfl h
 | i::_=>
   have hm:i∈(List.range l).filter fun i=> !listed.getD i false:=by rw[hf];exact List.mem_cons_self
   have:=List.mem_filter.1 hm;exact⟨i,List.mem_range.1 this.1,by simpa using this.2⟩
theorem mf {P:Program} {o:Oper} {a:Act} {w:World} {T:Value→World→Prop} {K:Act→World→Prop} {Q:Exit→Act→World→Prop}
  (h:xR P o a.eval w T) (hK:∀v w',T v w'→K (a.put o.dst v) w'):o.wp P a w K Q:=by
 unfold xR at h;unfold Oper.wp;generalize (execOp a.eval o).run P w=r at*;cases r with
 | ok n w'=>
   cases n <;> simp only[Oper.upon] <;> first | exact hK _ _ h | exact h.elim | skip
   exact h.mono fun e w'' ⟨v,he,ht⟩=>by subst he;exact hK _ _ ht
 | halt x w'=>exact h.elim
theorem oW {a a0:Act} {t:Tmp}(h:a.tmps[t]?=a0.tmps[t]?):a.eval (.tmp t)=a0.eval (.tmp t):=by simp[Act.eval,Array.getD_eq_getD_getElem?,h]
section
variable {P:Program} {l zs:List Oper} {Q:Exit→Act→World→Prop} {R:World→World→Prop} {V:Nat→World→Value→Prop} {a0:Act} {w0:World}
theorem pF {i:Nat} {o:Oper}(h:l[i]?=some o):(l++zs).toArray[i]?=some o:=by
 have:i < l.length:=by
  rcases Nat.lt_or_ge i l.length with h' | h'
  ·exact h'
  ·rw[List.getElem?_eq_none h'] at h;cases h
 simp[List.getElem?_append_left this,h]
theorem Inv.reads (aO:eQ l a0.tmps.size l 0=true) {listed:Array Bool} {a:Act} {w:World} {m:Nat}(I:Inv l V R a0 w0 m listed a w) {i:Nat} {o:Oper}(ho:l[i]?=some o)
  (Wc:listed.getD i false=false) (hall:∀j∈iI o,listed.getD j false=true):∀ts,(∀t∈ts,t∈tmpsOf o)→nT l V a0.eval a.eval w o ts
 | [],_=>trivial
 | t::ts,Z8=>by
   refine⟨?_,Inv.reads aO I ho Wc hall ts (fun t ht=>Z8 t (List.mem_cons_of_mem _ ht))⟩;have E4:=dN aO i o ho;rw[Nat.zero_add] at E4;simp only[mZ,Bool.and_eq_true] at E4;have ht:=List.all_eq_true.1 E4.1.2 t (Z8 t List.mem_cons_self);unfold ct;cases hs:jY t l 0 with
   | none=>refine oW (I.old t ?_);intro j oj hj hd _;obtain⟨k,hk⟩:=qu (k:=0) hj hd;rw[hs] at hk;cases hk
   | some j=>
     simp only[hs] at ht;obtain⟨j',oj,e,hj,hd⟩:=rE hs;rw[Nat.zero_add] at e;subst e;by_cases he:iq o j=true
     ·simp only[he,if_true];exact I.new j oj t hj (hall j (dZ.1 he)) hd
     ·simp only[he];rw[Bool.not_eq_true] at he;simp only[he,Bool.false_or,hj] at ht;refine oW (I.old t ?_);intro k ok hk Z9 hlk;have QW:=dN aO k ok hk;simp only[mZ,Z9,Bool.and_eq_true,Nat.zero_add,beq_iff_eq] at QW;have hkj:k=j:=by have:=QW.1.1.2.2;rw[hs] at this;injection this with this;exact this.symm
      subst hkj;rw[hj] at hk;injection hk with hk;subst hk
      have:=I.closed k oj hj hlk i (dZ.1 ht);rw[Wc] at this;cases this
theorem Inv.step (aO:eQ l a0.tmps.size l 0=true)(hV:∀i w w' v,V i w v→R w w'→V i w' v)(hT:∀a b c,R a b→R b c→R a c) {m:Nat} {listed:Array Bool} {a:Act} {w w':World} {v:Value}(I:Inv l V R a0 w0 m listed a w) {i:Nat} {o:Oper}(ho:l[i]?=some o)(YI:i < m)
  (Wc:listed.getD i false=false) (hall:∀j∈iI o,listed.getD j false=true) (hr:R w w') (hv:V i w' v):Inv l V R a0 w0 m (listed.setIfInBounds i true) (a.put o.dst v) w':=by
 have JB:i < listed.size:=by rw[I.len];exact YI
 have LP:i < l.length:=by
  rcases Nat.lt_or_ge i l.length with h' | h'
  ·exact h'
  ·rw[List.getElem?_eq_none h'] at ho;cases ho
 have mg:=dN aO i o ho;rw[Nat.zero_add] at mg;refine⟨hT _ _ _ I.r hr,?_,?_,?_,?_,?_,by simp[I.len],?_⟩
 ·cases hd:o.dst <;> simp[Act.put,I.defers]
 ·cases hd:o.dst <;> simp[Act.put,I.size]
 ·intro t ht;have U3:o.dst≠some t:=fun e=>ht i o ho e (by rw[gQ _ _ _ JB,if_pos rfl])
  have h1:(a.put o.dst v).tmps[t]?=a.tmps[t]?:=by
   cases hd:o.dst with
   | none=>rfl
   | some d=>
     have:d≠t:=fun e=>U3 (by rw[hd,e])
     simp[Act.put,Array.getElem?_setIfInBounds_ne this]
  rw[h1];refine I.old t ?_;intro j oj hj hd hl;exact ht j oj hj hd (by rw[gQ _ _ _ JB];split <;> simp_all)
 ·intro j oj d hj hl hd;by_cases QY:j=i
  ·subst QY;rw[hj] at ho;injection ho with ho;subst ho
   simp only[mZ,hd,Bool.and_eq_true,decide_eq_true_eq] at mg;have:(a.put oj.dst v).eval (.tmp d)=v:=by
    have hb:d < a.tmps.size:=by rw[I.size];exact mg.1.1.2.1
    simp[hd,Act.put,Act.eval,hb]
   rw[this];exact hv
  ·have hl':listed.getD j false=true:=by rw[gQ _ _ _ JB,if_neg QY] at hl;exact hl
   have hne:o.dst≠some d:=by intro e;have pG:=dN aO j oj hj;simp only[mZ,hd,Bool.and_eq_true,Nat.zero_add,beq_iff_eq] at pG;simp only[mZ,e,Bool.and_eq_true,beq_iff_eq] at mg;rw[pG.1.1.2.2] at mg;have:=mg.1.1.2.2;injection this with this;exact QY this
   have h1:(a.put o.dst v).eval (.tmp d)=a.eval (.tmp d):=Act.eval_put fun d' We e=>by injection e with e;subst e;exact hne We
   rw[h1];exact hV _ _ _ _ (I.new j oj d hj hl' hd) hr
 ·intro j oj hj hl k hk;rw[gQ _ _ _ JB];by_cases hki:k=i
  ·rw[if_pos hki]
  ·rw[if_neg hki];by_cases QY:j=i
   ·subst QY;rw[hj] at ho;injection ho with ho;subst ho
    exact hall k hk
   ·rw[gQ _ _ _ JB,if_neg QY] at hl;exact I.closed j oj hj hl k hk
 ·intro j hj;rw[gQ _ _ _ JB,if_neg (by omega)];exact I.tail j hj
def fill (f:Tmp→Value):List Oper→Act→Act
 | [],a=>a
 | o::rest,a=>fill f rest (match o.dst with | some d=>a.put (some d) (f d)| none=>a)
theorem oX (f:Tmp→Value):∀(l:List Oper) (a:Act),(fill f l a).defers=a.defers
 | [],_=>rfl
 | o::rest,a=>by rw[fill,oX f rest];cases o.dst <;> rfl
theorem tv (f:Tmp→Value):∀(l:List Oper) (a:Act),(fill f l a).tmps.size=a.tmps.size
 | [],_=>rfl
 | o::rest,a=>by rw[fill,tv f rest];cases o.dst <;> simp[Act.put]
theorem vz (f:Tmp→Value):∀(l:List Oper) (a:Act) (t:Nat),t < a.tmps.size→(fill f l a).tmps[t]?=if (∃o∈l,o.dst=some t)then some (f t)else a.tmps[t]?
 | [],_,_,_=>by simp[fill]
 | o::rest,a,t,ht=>by
   rw[fill,vz f rest _ t (by cases o.dst <;> simpa [Act.put] using ht)];by_cases h1:∃o'∈rest,o'.dst=some t
   ·rw[if_pos h1,if_pos (by obtain⟨o',h,e⟩:=h1;exact⟨o',List.mem_cons_of_mem _ h,e⟩)]
   ·rw[if_neg h1];by_cases h2:o.dst=some t
    ·rw[if_pos ⟨o,List.mem_cons_self,h2⟩,h2];simp[Act.put,ht]
    ·rw[if_neg (by rintro⟨o',h,e⟩;rcases List.mem_cons.1 h with rfl | h;exact h2 e;exact h1 ⟨o',h,e⟩)];cases hd:o.dst with
     | none=>rfl
     | some d=>simp[Act.put,Array.getElem?_setIfInBounds_ne (show d≠t from fun e=>h2 (by rw[hd,e]))]
theorem zL {K:Act→World→Prop} {w:World}(f:Tmp→Value):∀(L:List Oper) (k:Nat) (a:Act),(∀i o d,L[i]?=some o→o.dst=some d→V (k+i) w (f d))→kA V K L k a w→K (fill f L a) w
 | [],_,_,_,h=>h
 | o::rest,k,a,hv,h=>by
   rw[fill];have xT:∀i o' d,rest[i]?=some o'→o'.dst=some d→V (k+1+i) w (f d):=fun i o' d h1 h2=>by have:=hv (i+1) o' d (by simpa using h1) h2;rwa [show k+(i+1)=k+1+i by omega] at this
   unfold kA at h;cases hd:o.dst with
   | none=>simp only[hd] at h;exact zL f rest (k+1) a xT h
   | some d=>simp only[hd] at h;exact zL f rest (k+1) _ xT (h _ (by have:=hv 0 o d rfl hd;simpa using this))
theorem rF {ops:Array Oper} {listed:Array Bool} {i:Nat} {o:Oper}(ho:ops[i]?=some o)(hu:listed.getD i true=false)(hall:∀j∈iI o,listed.getD j false=true):i∈Region.ready .any ops listed:=
 mem_ready.2 ⟨hu,o,ho,fun e he hb=>hall _ (mb.2 ⟨e,he,hb,rfl⟩)⟩
theorem gR {listed:Array Bool} {i:Nat}(h:i < listed.size):listed.getD i true=listed.getD i false:=by simp[h]
theorem vA {N:Nat}(aO:eQ l N l 0=true)(hz:fL (l++zs) zs l.length=true):∀(k:Nat) (rest:List Oper),zs.drop k=rest→∀(listed:Array Bool) (a:Act) (w:World),listed.size=(l++zs).length→
  (∀i,i <(l++zs).length→(listed.getD i false=true↔i < l.length+k))→wpList P (l++zs).toArray Q rest a w→wpAny P .any (l++zs).toArray Q rest.length listed a w
 | k,[],hk,listed,a,w,hs,hl,h=>by
   refine⟨?_,h⟩;have hlen:zs.length≤k:=List.drop_eq_nil_iff.1 hk;rw[List.eq_nil_iff_forall_not_mem];intro i hi;obtain⟨hu,o,ho,_⟩:=mem_ready.1 hi;have LP:i <(l++zs).length:=by
    rcases Nat.lt_or_ge i (l++zs).length with h' | h'
    ·exact h'
    ·rw[Array.getElem?_eq_none (by simpa using h')] at ho;cases ho
   rw[gR (by omega)] at hu;have:=(hl i LP).2 (by simp at LP;omega);rw[hu] at this;cases this
 | k,o::rest,hk,listed,a,w,hs,hl,h=>by
   have U4:zs[k]?=some o:=by have:=congrArg (fun x=>x[0]?) hk;simpa using this
   have aaa:k < zs.length:=by
    rcases Nat.lt_or_ge k zs.length with h' | h'
    ·exact h'
    ·rw[List.getElem?_eq_none h'] at U4;cases U4
   have aab:(l++zs)[l.length+k]?=some o:=by rw[List.getElem?_append_right (by omega)];simpa using U4
   have CG:zs.drop (k+1)=rest:=by rw[← List.tail_drop,hk];rfl
   have ht:=kZ hz k o U4;have aac:∀j∈iI o,listed.getD j false=true:=fun j hj=>by have:=of_decide_eq_true (List.all_eq_true.1 ht.1 j hj);exact(hl j (by simp;omega)).2 this
   have Wc:listed.getD (l.length+k) true=false:=by
    rw[gR (by rw[hs];simp;omega)];cases hc:listed.getD (l.length+k) false with
    | false=>rfl
    | true=>exact absurd ((hl _ (by simp;omega)).1 hc) (by omega)
   have lD:l.length+k∈Region.ready .any (l++zs).toArray listed:=rF (by simpa using aab) Wc aac;refine⟨(fun h0=>by rw[h0] at lD;cases lD),fun i hi=>?_⟩;obtain⟨hu,oi,hoi,hall⟩:=mem_ready.1 hi;have LP:i <(l++zs).length:=by
    rcases Nat.lt_or_ge i (l++zs).length with h' | h'
    ·exact h'
    ·rw[Array.getElem?_eq_none (by simpa using h')] at hoi;cases hoi
   rw[gR (by omega)] at hu;have aka:l.length+k≤i:=by
    rcases Nat.lt_or_ge i (l.length+k)with h' | h'
    ·have:=(hl i LP).2 h';rw[hu] at this;cases this
    ·exact h'
   have hik:i=l.length+k:=by
    rcases Nat.lt_or_ge (l.length+k) i with h' | h'
    ·exfalso;have hzi:zs[i - l.length]?=some oi:=by
      have:(l++zs)[i]?=some oi:=by simpa using hoi
      rw[List.getElem?_append_right (by omega)] at this;exact this
     have LQ:=kZ hz (i - l.length) oi hzi;rw[show l.length+(i - l.length)=i by omega] at LQ;have hc:=ld (L:=l++zs) (fun j=>j <(l++zs).length→listed.getD j false=true) (by
      intro j oj hj hdone e he hlt
      have aad:j <(l++zs).length:=by
       rcases Nat.lt_or_ge j (l++zs).length with h' | h'
       ·exact h'
       ·rw[List.getElem?_eq_none h'] at hj;cases hj
      have QG:=(hl j aad).1 (hdone aad)
      by_cases hjz:l.length≤j
      ·have Wf:zs[j - l.length]?=some oj:=by rw[List.getElem?_append_right (by omega)] at hj;exact hj
       have:=of_decide_eq_true (List.all_eq_true.1 (kZ hz (j - l.length) oj Wf).1 e he)
       exact(hl e hlt).2 (by omega)
      ·have zM:l[j]?=some oj:=by rw[List.getElem?_append_left (by omega)] at hj;exact hj
       have pG:=dN aO j oj zM
       simp only[mZ,Bool.and_eq_true,Nat.zero_add] at pG
       have:=of_decide_eq_true (List.all_eq_true.1 pG.1.1.1 e he)
       exact(hl e hlt).2 (by omega)) i (iI oi) LQ.2 (by
      intro j hj hlt
      obtain⟨e,he,hb,rfl⟩:=mb.1 hj
      exact hall e he hb) (l.length+k) h' (by simp;omega)
     exact absurd ((hl _ (by simp;omega)).1 hc) (by omega)
    ·omega
   subst hik;have ho:(l++zs).toArray[l.length+k]?=some o:=by simpa using aab
   have hw:wpOp P (l++zs).toArray Q (l.length+k) (wpList P (l++zs).toArray Q rest) a w:=by unfold wpOp;rw[ho];unfold wpList at h;exact h
   refine wpOp_mono (fun a' w' h'=>vA aO hz (k+1) rest CG _ a' w' (by simp[hs]) ?_ h') hw;intro i hi;rw[gQ _ _ _ (by rw[hs];simp;omega)];by_cases hii:i=l.length+k
   ·rw[if_pos hii];exact⟨fun _=>by omega,fun _=>rfl⟩
   ·rw[if_neg hii,hl i hi];omega
theorem cq (n i:Nat):(Array.replicate n false).getD i false=false:=by simp only[Array.getD_eq_getD_getElem?,Array.getElem?_replicate];split <;> rfl
theorem Ep {a b:Act}(h1:a.tmps=b.tmps)(h2:a.defers=b.defers):a=b:=by cases a;cases b;simp_all
theorem Gh {N:Nat}(aO:eQ l N l 0=true)(hz:fL (l++zs) zs l.length=true)(hf:∀w,R w0 w→kA V (fun a w=>wpList P (l++zs).toArray Q zs a w) l 0 a0 w) {listed:Array Bool} {a:Act} {w:World}(I:Inv l V R a0 w0 (l++zs).length listed a w)
  (h0:cT l.length listed=0):wpAny P .any (l++zs).toArray Q zs.length listed a w:=by
 have hall:=fG h0;have ha:a=fill (fun d=>a.eval (.tmp d)) l a0:=by
  have h1:a.tmps=(fill (fun d=>a.eval (.tmp d)) l a0).tmps:=by
   apply Array.ext_getElem?;intro t;by_cases ht:t < a0.tmps.size
   ·rw[vz _ _ _ _ ht];split
    ·simp[Act.eval,I.size,ht]
    ·rename_i hno;refine I.old t ?_;intro i o hi hd _;exact hno ⟨o,List.mem_of_getElem? hi,hd⟩
   ·rw[Array.getElem?_eq_none (by rw[I.size];omega),Array.getElem?_eq_none (by rw[tv];omega)]
  have h2:a.defers=(fill (fun d=>a.eval (.tmp d)) l a0).defers:=by rw[oX,I.defers]
  exact Ep h1 h2
 have hK:=zL (V:=V) (fun d=>a.eval (.tmp d)) l 0 a0 (fun i o d hi hd=>by
  rw[Nat.zero_add]
  have JB:i < l.length:=by
   rcases Nat.lt_or_ge i l.length with h' | h'
   ·exact h'
   ·rw[List.getElem?_eq_none h'] at hi;cases hi
  exact I.new i o d hi (hall i JB) hd) (hf w I.r)
 rw[← ha] at hK;refine vA aO hz 0 zs rfl listed a w I.len ?_ hK;intro i hi;constructor
 ·intro hl;rcases Nat.lt_or_ge i l.length with h' | h'
  ·omega
  ·rw[I.tail i h'] at hl;cases hl
 ·intro hl;exact hall i (by omega)
theorem Gi {id:Nat} {ops:List Oper}(zs:List Oper)(l:List Oper)(Er:ops=l++zs)(R:World→World→Prop)(hrefl:∀w,R w w)(JJ:∀a b c,R a b→R b c→R a c)(rG:∀w,R w w.drew)
  (V:Nat→World→Value→Prop) (hV:∀i w w' v,V i w v→R w w'→V i w' v) (hm:P.follows .mixedOrders=true) (aO:eQ l a0.tmps.size l 0=true) (hz:fL (l++zs) zs l.length=true)
  (hs:Steps P l R V a0 w0 l 0) (hf:∀w,R w0 w→kA V (fun a w=>wpList P ops.toArray Q zs a w) l 0 a0 w):(Code.region id ops.toArray true).wp P Q a0 w0:=by
 subst Er;have main:∀(fuel:Nat) (listed:Array Bool) (a:Act) (w:World),Inv l V R a0 w0 (l++zs).length listed a w→fuel=cT l.length listed+zs.length→wpAny P .any (l++zs).toArray Q fuel listed a w:=by
  intro fuel;induction fuel with
  | zero=>
    intro listed a w I E5;have h0:cT l.length listed=0:=by omega
    have hz0:zs.length=0:=by omega
    have:=Gh aO hz hf I h0;rwa [hz0] at this
  | succ fuel ih=>
    intro listed a w I E5;by_cases h0:cT l.length listed=0
    ·have:=Gh aO hz hf I h0;rwa [show zs.length=fuel+1 by omega] at this
    ·obtain⟨i0,CF,E6⟩:=nu h0;obtain⟨i,⟨hi,hu⟩,JK⟩:=least (p:=fun i=>i < l.length∧listed.getD i false=false) i0 ⟨CF,E6⟩;have kQ:∀j,j < i→listed.getD j false=true:=fun j hj=>by
      cases hc:listed.getD j false with
      | true=>rfl
      | false=>exact absurd ⟨by omega,hc⟩ (JK j hj)
     have BW:l[i]?=some l[i]:=List.getElem?_eq_getElem hi;have rH:=dN aO i _ BW;simp only[mZ,Bool.and_eq_true,Nat.zero_add] at rH;have lD:i∈Region.ready .any (l++zs).toArray listed:=by
      refine rF (pF BW) ?_ fun j hj=>kQ j (of_decide_eq_true (List.all_eq_true.1 rH.1.1.1 j hj))
      rw[gR (by rw[I.len];simp;omega)];exact hu
     refine⟨(fun hnil=>by rw[hnil] at lD;cases lD),fun j hj=>?_⟩;obtain⟨zN,oj,qz,hall⟩:=mem_ready.1 hj;have FY:j <(l++zs).length:=by
      rcases Nat.lt_or_ge j (l++zs).length with h' | h'
      ·exact h'
      ·rw[Array.getElem?_eq_none (by simpa using h')] at qz;cases qz
     rw[gR (by rw[I.len];exact FY)] at zN;have iG:∀k∈iI oj,listed.getD k false=true:=fun k hk=>by obtain⟨e,he,hb,rfl⟩:=mb.1 hk;exact hall e he hb
     have QG:j < l.length:=by
      rcases Nat.lt_or_ge j l.length with h' | h'
      ·exact h'
      ·exfalso;have Wf:zs[j - l.length]?=some oj:=by
        have:(l++zs)[j]?=some oj:=by simpa using qz
        rw[List.getElem?_append_right (by omega)] at this;exact this
       have LQ:=kZ hz (j - l.length) oj Wf;rw[show l.length+(j - l.length)=j by omega] at LQ;have hc:=ld (L:=l++zs) (fun k=>listed.getD k false=true) (by
        intro k ok hk hd e he
        rcases Nat.lt_or_ge k l.length with JL | JL
        ·rw[List.getElem?_append_left JL] at hk
         exact I.closed k ok hk hd e he
        ·rw[I.tail k JL] at hd;cases hd) j (iI oj) LQ.2 iG i (by omega)
       rw[hu] at hc;cases hc
     have zM:l[j]?=some oj:=by
      have:(l++zs)[j]?=some oj:=by simpa using qz
      rw[List.getElem?_append_left QG] at this;exact this
     have hst:=Gg hs j oj zM;rw[Nat.zero_add] at hst;have NQ:=Inv.reads aO I zM zN iG (tmpsOf oj) (fun _ h=>h);have hstep:=hst a.eval w (oV a) I.r NQ;have Ra:∀v w',R w w'→V j w' v→wpAny P .any (l++zs).toArray Q fuel (listed.setIfInBounds j true) (a.put oj.dst v) w':=by intro v w' hr hv;refine ih _ _ _ (I.step aO hV JJ zM FY zN iG hr hv) ?_;have:=nt l.length listed j (by rw[I.len];exact FY) QG zN;omega
     unfold wpOp;rw[qz];show if Region.wanted oj (yielded (l++zs).toArray a.tmps)=true then _ else _
     cases hg:oj.guard with
     | none=>rw[if_pos (by simp[Region.wanted,hg])];simp only[hg] at hstep;exact .inl (mf hstep fun v w' h=>Ra v w' h.1 h.2)
     | some g=>
       obtain⟨k,want⟩:=g;simp only[hg] at hstep;have pG:=dN aO j oj zM;simp only[mZ,hg,Bool.and_eq_true,Nat.zero_add] at pG;have Wh:listed.getD k false=true:=iG k (dZ.1 pG.2.1);cases hd:(l[k]?).bind (·.dst)with
       | none=>simp only[hd] at hstep
       | some d=>
         simp only[hd] at hstep;obtain⟨ok,JM,Z9⟩:∃ok,l[k]?=some ok∧ok.dst=some d:=by
          cases hlk:l[k]? with
          | none=>rw[hlk] at hd;cases hd
          | some ok=>rw[hlk] at hd;exact⟨ok,rfl,hd⟩
         have hyv:=I.new k ok d JM Wh Z9;obtain⟨h1,h2⟩:=hstep hyv;have QW:=dN aO k ok JM;simp only[mZ,Z9,Bool.and_eq_true,decide_eq_true_eq,Nat.zero_add] at QW;have aeN:d < a.tmps.size:=by rw[I.size];exact QW.1.1.2.1
         have zO:yielded (l++zs).toArray a.tmps k=match a.eval (.tmp d)with | .bool b=>some b | _=>none:=by unfold yielded;rw[pF JM];simp only[Option.bind_some,Z9,Act.eval,Array.getD_eq_getD_getElem?,Array.getElem?_eq_getElem aeN,Option.getD_some];cases a.tmps[d] <;> rfl
         by_cases xU:a.eval (.tmp d)=.bool want
         ·rw[if_pos (by simp[Region.wanted,hg,zO,xU])];exact .inl (mf (h1 xU) fun v w' h=>Ra v w' h.1 h.2)
         ·rw[if_neg (by
           simp only[Region.wanted,hg,zO]
           intro hc
           apply xU
           cases hv:a.eval (.tmp d)<;> rw[hv] at hc <;> simp at hc
           rw[hc])]
          exact Ra undef w (hrefl w) (h2 xU)
 refine wp_region_any hm ?_;have h0:R w0 w0.drew:=rG w0;have:=main (l++zs).toArray.size (Array.replicate (l++zs).toArray.size false) a0 w0.drew ⟨h0,rfl,rfl,fun _ _=>rfl,(fun i o d _ h=>by rw[cq] at h;cases h),(fun i o _ h=>by rw[cq] at h;cases h),by simp,fun i _=>cq _ _⟩ (by
  have:cT l.length (Array.replicate (l++zs).toArray.size false)=l.length:=by
   unfold cT
   rw[List.filter_eq_self.2 (fun i _=>by rw[cq];rfl),List.length_range]
  rw[this];simp)
 exact this
end
end Go.Proofs.YtcneefmaghoejaaGreatDoor
