/- Parts of the proof. -/
import Derived.Test.YtehhdlgjfdnafaaGreatDoorRows
import Derived.Deep.Strs
import Derived.Test.YtehhdlgjfdnafaaGreatDoorXB29
namespace Go.Proofs.YtehhdlgjfdnafaaGreatDoor
variable{p:Prop}
set_option maxHeartbeats 90000000
set_option maxRecDepth 100000
open Go.Lib (hid)
open Go.ChangeShapes Go.WideShapes Go.ChangeAt Go.RowKit List
set_option linter.unusedVariables false
set_option linter.unusedSimpArgs false
theorem Mx:Tryz.prog.cellsOf 5=1:=by exact Zhj
theorem wO:Tryz.prog.cellsOf 2=1:=by exact Zhj
theorem iW:Tryz.prog.cellsOf 9=1:=by exact Zhj
theorem Sd:Tryz.prog.cellsOf 4=1:=by exact Zhj
theorem yD:Tryz.prog.cellsOf 32=3:=by exact Zhj
theorem vd:Tryz.prog.cellsOf 36=7:=by exact Zhj
theorem qU:Tryz.prog.cellsOf 24=1:=by exact Zhj
theorem Sg:Tryz.prog.cellsOf 51=8:=by exact Zhj
theorem M5:Tryz.prog.cellsOf 86=8:=by exact Zhj
theorem M6:Tryz.prog.cellsOf 53=2:=by exact Zhj
theorem M7:Tryz.prog.cellsOf 55=8:=by exact Zhj
theorem M8:Tryz.prog.cellsOf 23=1:=by exact Zhj
theorem abz:Tryz.prog.cellsOf 25=1:=by exact Zhj
theorem abA:Tryz.prog.cellsOf 26=1:=by exact Zhj
theorem abB:Tryz.prog.cellsOf 22=1:=by exact Zhj
theorem abC:Tryz.prog.cellsOf 29=1:=by exact Zhj
theorem abD:Tryz.prog.cellsOf 30=1:=by exact Zhj
theorem My:Tryz.prog.cellsOf 28=8:=by exact Zhj
theorem abE:Tryz.prog.cellsOf 34=28:=by exact Zhj
variable{n:Int}
theorem M9(h:(Lit.int .u8 n).wf=true):0<=n/\n<=255:=by exact ZgN
theorem Az(h:(Lit.int .i64 n).wf=true): -9223372036854775808<=n/\n<=9223372036854775807:=by exact ZgN
variable{α:Type}{P:Nat->α->Prop}
theorem N0:∀n,(∀i,i < n->∃x,P i x)->∃l:List α,l.length=n/\∀i x,l[i]?=some x->P i x
 | 0,_=>⟨[],rfl,λ i x h=>by simp at h⟩
 | n+1,h=>by
   obtain⟨l,hl,hp⟩:=N0 n λ i hi=>h i Taa
   obtain⟨y,hy⟩:=h n Taa;refine⟨l++ [y],by simp[hl],λ i x hx=>?_⟩;rcases Nat.lt_trichotomy i n with hi | hi | hi
   ·rw[getElem?_append_left Taa] at hx;exact hp i x hx
   ·subst hi;rw[getElem?_append_right Taa,hl] at hx;simp at hx;subst hx;exact hy
   ·rw[getElem?_eq_none Tad] at hx;cases hx
variable{w:World}{a:Addr}{v:Value}
theorem agK(h:w.cell? a=some v):a.block < w.heap.size/\a.spot=none:=by
 unfold World.cell? at h;split at h
 ·rename_i hb;refine⟨?_,?_⟩
  ·rcases Nat.lt_or_ge a.block w.heap.size with h' | h'
   ·exact h'
   ·rw[Array.getElem?_eq_none h'] at hb;cases hb
  ·split at h
   ·cases h
   ·rename_i hs;simpa using hs
 ·cases h
theorem amr (b off n:Nat):Addr.add ⟨b,off,none⟩ n=⟨b,off+n,none⟩:=by
 unfold Addr.add;split
 ·rename_i h;subst h;rfl
 ·rfl
variable{base K:Nat}{cs:List Value}
theorem abF(h:w.cells? base a K=some cs):cs.length=K/\∀i,i < K->w.cell? (a.add i)=cs[i]?:=by
 unfold World.cells? at h;split at h
 ·exact⟨by simpa using mapM_some_length h,λ i hi=>mapM_some_get h i i (by simp[hi])⟩
 ·cases h
def wP (w:World):Nat->Prop:=λ b=>b < w.heap.size
def Tr.big (t:Tr)(n:Nat):Prop:=t.fine/\t.thin/\2*t.nodes<=n
variable{β:Type}{R:α->β->Prop}{l:List α}
theorem fE.mem{m:List β}(h:fE R l m):∀x∈l,∃y∈m,R x y:=by
 induction h with
 | nil=>intro x hx;cases hx
 | cons a _ ih=>
   intro x hx;rcases List.mem_cons.1 hx with rfl | hx
   ·exact⟨_,by simp,a⟩
   ·obtain⟨y,hy,hr⟩:=ih x hx;exact⟨y,by simp[hy],hr⟩
theorem yE(g:α->Tr) {R:α->Nat->Prop}(hR:∀x n,R x n->2*(g x).nodes<=n)  {m:List Nat}(h:fE R l m):2*Tr.aQ (l.map g)<=m.sum:=by
 induction h with
 | nil=>simp[Tr.aQ]
 | cons a _ ih=>simp only[map_cons,sum_cons];unfold Tr.aQ;have:=hR _ _ a;omega
theorem JC:∀ {l:List α} {m:List β},m.length=l.length->(∀(i:Nat) (x:α) (y:β),l[i]?=some x->m[i]?=some y->R x y)->fE R l m
 | [],[],_,_=> .nil
 | x::l,y::m,hl,h=> .cons (h 0 x y rfl rfl) (JC (by simpa using hl) λ i a b ha hb=>h (i+1) a b TaJ (by simpa using hb))
 | [],_::_,hl,_=>by simp at hl
 | _::_,[],hl,_=>by simp at hl
section
variable {H:Type} {enc:TypeId×Value->H} {w:World} {base:Nat} {spare:Nat->Bool} {held:Bool}
theorem bw (d:DataW H):1<=Rows.uptoBulk d:=by
 cases d with
 | lit l=>cases l <;> simp[Rows.uptoBulk]
 | nil=>exact Zgy
 | ptr d=>exact Zgy
 | slice elems spare=>exact Zgy
 | agg parts=>exact Zgy
 | iface t d=>exact Zgy
 | map entries=>exact Zgy
 | held h=>exact Zgy
theorem Ec:∀l:List (DataW H),Rows.uptoBulkAll l=(l.map Rows.uptoBulk).sum
 | []=>by simp[Rows.uptoBulkAll]
 | d::l=>by simp only[Rows.uptoBulkAll,map_cons,sum_cons,Ec l]
theorem N2 {l:List (DataW H)} {d:DataW H}(h:d∈l):Rows.uptoBulk d<=Rows.uptoBulkAll l:=by
 induction l with
 | nil=>cases h
 | cons x l ih=>
   simp only[Rows.uptoBulkAll];rcases List.mem_cons.1 h with rfl | h
   ·omega
   ·have:=ih h;omega
theorem Sh:∀l:List Nat,(∀n∈l,1<=n)->l.length<=l.sum
 | [],_=>by simp
 | n::l,h=>by
   have:=Sh l λ m hm=>h m (by simp[hm])
   have:=h n Tae;simp only[length_cons,sum_cons];omega
theorem kN {α:Type}(E:El α)(P:α->Nat->Prop) {T e:TypeId}(hT:Tryz.prog.underlying T=some (.slice e))(hc:Tryz.prog.cellsOf e=E.size)(hK:0 < E.size) {fuel:Nat} {cs:List Value} {x:DataW H×List MemPlace}
  (IP:∀m,m < fuel->∀cs x,DataW.trod enc Tryz.prog w base spare held m e cs=some x->Rows.uptoBulk x.1<=1048576->∃a y,cs=E.f y/\E.rel w (wP w) a y/\P a (Rows.uptoBulk x.1)) (h:DataW.trod enc Tryz.prog w base spare held fuel T cs=some x) (hw:Rows.uptoBulk x.1<=1048576):
  ∃(s:Sl) (l:List α) (ns:List Nat),cs=[fF s]/\s.n=l.length/\E.sl w (wP w) s l/\fE P l ns/\ns.sum+1<=Rows.uptoBulk x.1/\l.length<=1048576:=by
 rcases DataW.trod_slice hT h with ⟨hcs,_⟩|⟨ad,len,cap,elems,rest,n,hn,hcs,hx,_,hl,hm,hlen,he,_,_⟩
 ·exact⟨⟨none,0,0⟩,[],[],hcs,rfl,E.mb _ _,.nil,by simpa using bw _,by simp⟩
 ·subst hx hcs;replace hw:Rows.uptoBulk (DataW.slice (elems.map (·.1)) (rest.map (·.1)))<=1048576:=hw;have vH:Rows.uptoBulkAll (elems.map (·.1))+1<=Rows.uptoBulk (DataW.slice (elems.map (·.1)) (rest.map (·.1))):=by simp only[Rows.uptoBulk];omega
  have arq:len<=1048576:=by
   have:=Sh ((elems.map (·.1)).map Rows.uptoBulk) (by
    intro n hn
    simp only[mem_map] at hn
    obtain⟨d,_,rfl⟩:=hn
    exact bw _)
   rw[<- Ec] at this;simp only[length_map] at this;omega
  rcases Nat.eq_zero_or_pos len with h0 | h0
  ·subst h0;refine⟨⟨some ad,0,cap⟩,[],[],rfl,rfl,⟨rfl,[],.inl rfl,.nil⟩,.nil,by simpa using bw _,by simp⟩
  have sG:∀i,i < len->∃p:α×E.β,(E.rel w (wP w) p.1 p.2/\(∀d,(elems.map (·.1))[i]?=some d->P p.1 (Rows.uptoBulk d)))/\∀j,j < E.size->w.cell? ((ad.add (i*E.size)).add j)=(E.f p.2)[j]?:=by intro i hi;have h1:=he i hi;rw[getElem?_eq_getElem Taa,hc] at h1;obtain⟨cs,h2,h3⟩:=Option.bind_eq_some_iff.1 h1;have sB:=N2 (l:=elems.map (·.1)) (List.mem_map.2 ⟨_,getElem_mem (by omega:i < elems.length),rfl⟩);obtain⟨a,y,rfl,hr,ha⟩:=IP n Taa cs _ h3 Taa;refine⟨(a,y),⟨hr,λ d hd=>?_⟩,(abF h2).2⟩;rw[getElem?_map,getElem?_eq_getElem Taa] at hd;injection hd with hd;rw[<- hd];exact ha
  obtain⟨a0,_,hc0⟩:=sG 0 h0;have hsome:∃u,(E.f a0.2)[0]?=some u:=⟨(E.f a0.2)[0]'(by rw[E.hf];exact hK),getElem?_eq_getElem _⟩;obtain⟨u0,Wt⟩:=hsome;have hlt:=agK ((hc0 0 hK).trans Wt);obtain⟨b,off,spot⟩:=ad;have hs:spot=none:=by have:=hlt.2;simpa [Addr.add] using this
  subst hs;have hbl:b < w.heap.size:=by have:=hlt.1;simpa [Addr.add] using this
  obtain⟨l,hll,hp⟩:=N0 len (P:=λ(i:Nat) (p:α×E.β)=>(E.rel w (wP w) p.1 p.2/\(∀d,(elems.map (·.1))[i]?=some d->P p.1 (Rows.uptoBulk d)))/\∀j,j < E.size->w.cell? ⟨b,off+i*E.size+j,none⟩=(E.f p.2)[j]?) λ i hi=>by obtain⟨a,ha,hca⟩:=sG i hi;refine⟨a,ha,λ j hj=>?_⟩;have:=hca j hj;simp only[amr] at this;exact this
  subst hll;refine⟨⟨some ⟨b,off,none⟩,l.length,cap⟩,l.map (·.1),(elems.map (·.1)).map Rows.uptoBulk,rfl,by simp,⟨by simp,l.map (·.2),.inr ⟨b,off,rfl,hbl,λ i y j u hy hu=>?_⟩,?_⟩,?_,by rw[<- Ec];exact vH,by simpa using arq⟩
  ·obtain⟨p,hp1,rfl⟩:∃p,l[i]?=some p/\p.2=y:=by simpa [getElem?_map] using hy
   have hj:j < E.size:=by
    rcases Nat.lt_or_ge j E.size with h' | h'
    ·exact h'
    ·rw[getElem?_eq_none (by rw[E.hf];exact h')] at hu;cases hu
   rw[(hp i p hp1).2 j hj];exact hu
  ·refine JC Tae λ i x y hx hy=>?_
   obtain⟨p,hp1,rfl⟩:∃p,l[i]?=some p/\p.1=x:=by simpa [getElem?_map] using hx
   have e:p.2=y:=by simpa [getElem?_map,hp1] using hy
   rw[<- e];exact(hp i p hp1).1.1
  ·refine JC (by simp[hlen]) λ i x y hx hy=>?_
   obtain⟨p,hp1,rfl⟩:∃p,l[i]?=some p/\p.1=x:=by simpa [getElem?_map] using hx
   obtain⟨d,hd,rfl⟩:∃d,(elems.map (·.1))[i]?=some d/\Rows.uptoBulk d=y:=by rw[getElem?_map] at hy;exact Option.map_eq_some_iff.1 hy
   exact(hp i p hp1).1.2 d hd
theorem N3 (s:ByteArray):Rows.uptoBulk (DataW.lit (H:=H) (.string s.data.toList))=s.size+1:=by exact Zgy
theorem ko {fuel:Nat} {cs:List Value} {x:DataW H×List MemPlace}(h:DataW.trod enc Tryz.prog w base spare held fuel 9 cs=some x):∃s:ByteArray,cs=[.string s]/\s.size+1<=Rows.uptoBulk x.1:=by obtain⟨s,q,z,_⟩:=DataW.trod_string Tryz.underlying9 h;refine⟨s,q,?_⟩;have e:=congrArg (λ y=>Rows.uptoBulk y.1) z;simp only[N3] at e;omega
theorem Ed {fuel:Nat} {cs:List Value} {x:DataW H×List MemPlace}(h:DataW.trod enc Tryz.prog w base spare held fuel 32 cs=some x):∃a:Val,cs=fp a/\(a.Ok/\0<=a.k/\a.k<=255)/\a.s.size<=Rows.uptoBulk x.1:=by
 obtain⟨y0,y1,y2,n,hx,hl,t0,t1,t2⟩:=Deep.trod_struct3 Tryz.underlying32 h;rw[yD] at hl
 match cs,hl with
 | [c0,c1,c2],_=>simp only[iW,Mx,wO,drop_succ_cons,drop_zero,take_succ_cons,take_zero] at t0 t1 t2;obtain⟨n0,q0,_,f0⟩:=DataW.trod_int Tryz.underlying5 t0;obtain⟨n1,q1,_,f1⟩:=DataW.trod_int Tryz.underlying2 t1;obtain⟨s,q2,z2⟩:=ko t2;simp at q0 q1 q2;subst q0 q1 q2;refine⟨⟨n0,n1,s⟩,rfl,⟨Az f1,M9 f0⟩,?_⟩;subst hx;simp only[Rows.uptoBulk,Rows.uptoBulkAll];show s.size<=_;omega
theorem yF:∀(fuel:Nat) (cs:List Value) (x:DataW H×List MemPlace),DataW.trod enc Tryz.prog w base spare held fuel 36 cs=some x->Rows.uptoBulk x.1<=1048576->∃(t:Tr) (y:Ex),cs=aT y/\t.at_ w (wP w) y/\t.big (Rows.uptoBulk x.1):=by
 intro fuel
 induction fuel using Nat.strongRecOn with
 | _ fuel ih=>
   intro cs x h hw;obtain⟨xs,n,hn,hx,hl,hlen,hf⟩:=DataW.trod_struct Tryz.underlying36 h;rw[vd] at hl;subst hx
   match xs,hlen with
   | [y0,y1,y2,y3,y4],_=>
   match cs,hl with
   | [c0,c1,c2,c3,c4,c5,c6],_=>
     have t0:DataW.trod enc Tryz.prog w base spare held n 5 (([c0,c1,c2,c3,c4,c5,c6].drop 0).take (Tryz.prog.cellsOf 5))=some y0:=(hf 0 _ rfl);rw[Mx] at t0;have t1:DataW.trod enc Tryz.prog w base spare held n 32 (([c0,c1,c2,c3,c4,c5,c6].drop 1).take (Tryz.prog.cellsOf 32))=some y1:=(hf 1 _ rfl);rw[yD] at t1;have t2:DataW.trod enc Tryz.prog w base spare held n 9 (([c0,c1,c2,c3,c4,c5,c6].drop 4).take (Tryz.prog.cellsOf 9))=some y2:=(hf 2 _ rfl);rw[iW] at t2;have t3:DataW.trod enc Tryz.prog w base spare held n 2 (([c0,c1,c2,c3,c4,c5,c6].drop 5).take (Tryz.prog.cellsOf 2))=some y3:=(hf 3 _ rfl);rw[wO] at t3;have t4:DataW.trod enc Tryz.prog w base spare held n 24 (([c0,c1,c2,c3,c4,c5,c6].drop 6).take (Tryz.prog.cellsOf 24))=some y4:=(hf 4 _ rfl);rw[qU] at t4;simp only[drop_succ_cons,drop_zero,take_succ_cons,take_zero] at t0 t1 t2 t3 t4;have eb:Rows.uptoBulk (DataW.agg (List.map (λ x=>x.1) [y0,y1,y2,y3,y4]))=Rows.uptoBulk y0.1+(Rows.uptoBulk y1.1+(Rows.uptoBulk y2.1+(Rows.uptoBulk y3.1+(Rows.uptoBulk y4.1+(0)))))+1:=by simp only[map_cons,map_nil,Rows.uptoBulk,Rows.uptoBulkAll]
     dsimp only at hw ⊢;rw[eb] at hw ⊢;have hb0:=bw y0.1;have hb1:=bw y1.1;have hb2:=bw y2.1;have hb3:=bw y3.1;have hb4:=bw y4.1;obtain⟨n0,q0,_,f0⟩:=DataW.trod_int Tryz.underlying5 t0;obtain⟨a,qa,⟨ha,AB,hk2⟩,has⟩:=Ed t1;obtain⟨s,q2,z2⟩:=ko t2;obtain⟨n3,q3,_,f3⟩:=DataW.trod_int Tryz.underlying2 t3;obtain⟨sl,l,ns,q4,hsn,jk,h2,ars,hll⟩:=kN eE Tr.big Tryz.underlying24 vd Tab (λ m hm cs x h1 h2=>by
      obtain⟨t,y,r1,r2,r3⟩:=ih m Taa cs x h1 h2
      exact⟨t,y,r1,r2,r3⟩) t4 Taa
     unfold fp at qa;simp at q0 qa q2 q3 q4;obtain⟨rfl,rfl,rfl⟩:=qa;subst q0 q2 q3 q4;have sB:=h2.mem;have agL:=yE id (λ x n (h:Tr.big x n)=>h.2.2) h2;rw[map_id] at agL;obtain⟨_,ys,hR,hA⟩:=jk;have hwd:=Az f3;refine⟨.mk n0 a s n3 l,⟨n0,a,s,n3,sl.A,sl.n,sl.c⟩,rfl,?_,?_,?_,?_⟩
     ·unfold Tr.at_;exact⟨rfl,rfl,rfl,rfl,hsn,ys,hR,ru.1 hA⟩
     ·unfold Tr.fine;exact⟨⟨ha,by omega,by omega,hwd.1,hwd.2⟩,KO _ λ t ht=>by obtain⟨n,_,hb⟩:=sB t ht;exact hb.1⟩
     ·unfold Tr.thin;exact⟨by omega,kI _ λ t ht=>by obtain⟨n,_,hb⟩:=sB t ht;exact hb.2.1⟩
     ·unfold Tr.nodes;omega
def JD (x:Tr×ByteArray)(n:Nat):Prop:=x.1.big n/\x.2.size<=n
def Ee (x:Tr×Bool)(n:Nat):Prop:=x.1.big n
def PY (x:ByteArray×Tr)(n:Nat):Prop:=x.2.big n/\x.1.size<=n
def PZ (x:ByteArray×Int)(n:Nat):Prop:=x.1.size<=n/\0<=x.2/\x.2<=255/\1<=n
def Qa (x:Int)(n:Nat):Prop:= -9223372036854775808<=x/\x<=9223372036854775807/\1<=n
def JE (l:List Tr)(n:Nat):Prop:=(∀t∈l,t.fine/\t.thin)/\2*Tr.aQ l+1<=n/\l.length<=1048576
theorem zc0.KaD(h:p:=by obtain⟨t,y,q0,r0,b0⟩:=yF n _ _ t0 Taa;obtain⟨s,q1,z1⟩:=ko t1;unfold aT at q0;simp at q0 q1;obtain⟨rfl,rfl,rfl,rfl,rfl,rfl,rfl⟩:=q0;subst q1;exact⟨(t,s),(y,s),rfl,⟨r0,rfl⟩,⟨b0.1,b0.2.1,by have:=b0.2.2;show 2*t.nodes<=_;omega⟩,by show s.size<=_;omega⟩):p:=h
theorem N4 {fuel:Nat} {cs:List Value} {x:DataW H×List MemPlace}(h:DataW.trod enc Tryz.prog w base spare held fuel 51 cs=some x)(hw:Rows.uptoBulk x.1<=1048576):∃a y,cs=iX.f y/\iX.rel w (wP w) a y/\JD a (Rows.uptoBulk x.1):=by
 obtain⟨xs,n,hn,hx,hl,hlen,hf⟩:=DataW.trod_struct Tryz.underlying51 h;rw[Sg] at hl;subst hx
 match xs,hlen with
 | [y0,y1],_=>
 match cs,hl with
 | [c0,c1,c2,c3,c4,c5,c6,c7],_=>have t0:DataW.trod enc Tryz.prog w base spare held n 36 (([c0,c1,c2,c3,c4,c5,c6,c7].drop 0).take (Tryz.prog.cellsOf 36))=some y0:=(hf 0 _ rfl);rw[vd] at t0;have t1:DataW.trod enc Tryz.prog w base spare held n 9 (([c0,c1,c2,c3,c4,c5,c6,c7].drop 7).take (Tryz.prog.cellsOf 9))=some y1:=(hf 1 _ rfl);rw[iW] at t1;open zc0 in exact ZaZ
theorem zc1.KaD(h:p:=by obtain⟨t,y,q0,r0,b0⟩:=yF n _ _ t0 Taa;obtain⟨s,q1,_⟩:=DataW.trod_bool Tryz.underlying4 t1;unfold aT at q0;simp at q0 q1;obtain⟨rfl,rfl,rfl,rfl,rfl,rfl,rfl⟩:=q0;subst q1;exact⟨(t,s),(y,s),rfl,⟨r0,rfl⟩,b0.1,b0.2.1,by have:=b0.2.2;show 2*t.nodes<=_;omega⟩):p:=h
theorem VK {fuel:Nat} {cs:List Value} {x:DataW H×List MemPlace}(h:DataW.trod enc Tryz.prog w base spare held fuel 86 cs=some x)(hw:Rows.uptoBulk x.1<=1048576):∃a y,cs=kt.f y/\kt.rel w (wP w) a y/\Ee a (Rows.uptoBulk x.1):=by
 obtain⟨xs,n,hn,hx,hl,hlen,hf⟩:=DataW.trod_struct Tryz.underlying86 h;rw[M5] at hl;subst hx
 match xs,hlen with
 | [y0,y1],_=>
 match cs,hl with
 | [c0,c1,c2,c3,c4,c5,c6,c7],_=>have t0:DataW.trod enc Tryz.prog w base spare held n 36 (([c0,c1,c2,c3,c4,c5,c6,c7].drop 0).take (Tryz.prog.cellsOf 36))=some y0:=(hf 0 _ rfl);rw[vd] at t0;have t1:DataW.trod enc Tryz.prog w base spare held n 4 (([c0,c1,c2,c3,c4,c5,c6,c7].drop 7).take (Tryz.prog.cellsOf 4))=some y1:=(hf 1 _ rfl);rw[Sd] at t1;open zc1 in exact ZaZ
theorem zc2.KaD(h:p:=by obtain⟨t,y,q0,r0,b0⟩:=yF n _ _ t1 Taa;obtain⟨s,q1,z1⟩:=ko t0;unfold aT at q0;simp at q0 q1;obtain⟨rfl,rfl,rfl,rfl,rfl,rfl,rfl⟩:=q0;subst q1;exact⟨(s,t),(s,y),rfl,⟨rfl,r0⟩,⟨b0.1,b0.2.1,by have:=b0.2.2;show 2*t.nodes<=_;omega⟩,by show s.size<=_;omega⟩):p:=h
theorem abG {fuel:Nat} {cs:List Value} {x:DataW H×List MemPlace}(h:DataW.trod enc Tryz.prog w base spare held fuel 55 cs=some x)(hw:Rows.uptoBulk x.1<=1048576):∃a y,cs=sT.f y/\sT.rel w (wP w) a y/\PY a (Rows.uptoBulk x.1):=by
 obtain⟨xs,n,hn,hx,hl,hlen,hf⟩:=DataW.trod_struct Tryz.underlying55 h;rw[M7] at hl;subst hx
 match xs,hlen with
 | [y0,y1],_=>
 match cs,hl with
 | [c0,c1,c2,c3,c4,c5,c6,c7],_=>have t0:DataW.trod enc Tryz.prog w base spare held n 9 (([c0,c1,c2,c3,c4,c5,c6,c7].drop 0).take (Tryz.prog.cellsOf 9))=some y0:=(hf 0 _ rfl);rw[iW] at t0;have t1:DataW.trod enc Tryz.prog w base spare held n 36 (([c0,c1,c2,c3,c4,c5,c6,c7].drop 1).take (Tryz.prog.cellsOf 36))=some y1:=(hf 1 _ rfl);rw[vd] at t1;open zc2 in exact ZaZ
theorem zc3.KaD(h:p:=by obtain⟨s,q0,z0⟩:=ko t0;obtain⟨k,q1,_,f1⟩:=DataW.trod_int Tryz.underlying5 t1;simp at q0 q1;subst q0 q1;exact⟨(s,k),(s,k),rfl,rfl,by show s.size<=_;omega,(M9 f1).1,(M9 f1).2,by omega⟩):p:=h
theorem abH {fuel:Nat} {cs:List Value} {x:DataW H×List MemPlace}(h:DataW.trod enc Tryz.prog w base spare held fuel 53 cs=some x)(hw:Rows.uptoBulk x.1<=1048576):∃a y,cs=sS.f y/\sS.rel w (wP w) a y/\PZ a (Rows.uptoBulk x.1):=by
 obtain⟨xs,n,hn,hx,hl,hlen,hf⟩:=DataW.trod_struct Tryz.underlying53 h;rw[M6] at hl;subst hx
 match xs,hlen with
 | [y0,y1],_=>
 match cs,hl with
 | [c0,c1],_=>have t0:DataW.trod enc Tryz.prog w base spare held n 9 (([c0,c1].drop 0).take (Tryz.prog.cellsOf 9))=some y0:=(hf 0 _ rfl);rw[iW] at t0;have t1:DataW.trod enc Tryz.prog w base spare held n 5 (([c0,c1].drop 1).take (Tryz.prog.cellsOf 5))=some y1:=(hf 1 _ rfl);rw[Mx] at t1;open zc3 in exact ZaZ
theorem abI {fuel:Nat} {cs:List Value} {x:DataW H×List MemPlace}(h:DataW.trod enc Tryz.prog w base spare held fuel 2 cs=some x)(hw:Rows.uptoBulk x.1<=1048576):∃a y,cs=Cf.f y/\Cf.rel w (wP w) a y/\Qa a (Rows.uptoBulk x.1):=by obtain⟨n,q,_,f⟩:=DataW.trod_int Tryz.underlying2 h;exact⟨n,n,q,rfl,(Az f).1,(Az f).2,bw _⟩
theorem qV {fuel:Nat} {cs:List Value} {x:DataW H×List MemPlace}(h:DataW.trod enc Tryz.prog w base spare held fuel 24 cs=some x)(hw:Rows.uptoBulk x.1<=1048576):∃(l:List Tr) (y:Sl),cs=[fF y]/\eE.sl w (wP w) y l/\JE l (Rows.uptoBulk x.1):=by
 obtain⟨sl,l,ns,q,hsn,jk,h2,ars,hll⟩:=kN eE Tr.big Tryz.underlying24 vd Tab (λ m hm cs x h1 h2=>by
  obtain⟨t,y,r1,r2,r3⟩:=yF m cs x h1 h2
  exact⟨t,y,r1,r2,r3⟩) h hw
 have agL:=yE id (λ x n (h:Tr.big x n)=>h.2.2) h2;rw[map_id] at agL;exact⟨l,sl,q,jk,λ t ht=>by obtain⟨n,_,hb⟩:=h2.mem t ht;exact⟨hb.1,hb.2.1⟩,by omega,hll⟩
theorem abJ {fuel:Nat} {cs:List Value} {x:DataW H×List MemPlace}(h:DataW.trod enc Tryz.prog w base spare held fuel 24 cs=some x)(hw:Rows.uptoBulk x.1<=1048576):∃a y,cs=rR.f y/\rR.rel w (wP w) a y/\JE a (Rows.uptoBulk x.1):=by obtain⟨l,y,q,hl,hb⟩:=qV h hw;exact⟨l,y,q,hl,hb⟩
theorem Si {α:Type} {R:α->Nat->Prop}(hR:∀x n,R x n->1<=n) {l:List α} {m:List Nat}(h:fE R l m):l.length<=m.sum:=by
 induction h with
 | nil=>simp
 | cons a _ ih=>have:=hR _ _ a;simp only[length_cons,sum_cons];omega
theorem abK {l:List (List Tr)} {m:List Nat}(h:fE JE l m):2*Tr.aQ l.flatten+l.length<=m.sum:=by
 induction h with
 | nil=>simp[Tr.aQ]
 | cons a _ ih=>have:=a.2.1;simp only[flatten_cons,length_cons,sum_cons,eG];omega
theorem JF {n:Nat}:∀ {l:List Nat},n∈l->n<=l.sum
 | m::l,h=>by
   simp only[sum_cons];rcases List.mem_cons.1 h with rfl | h
   ·omega
   ·have:=JF h;omega
theorem zij.KcH(h:p:=by
 obtain⟨a0,l0,m0,q0,s0,r0,e0,u0,v0⟩:=kN iX JD Tryz.underlying23 Sg Tab (λ m hm cs x h1 h2=>N4 h1 h2) t0 Taa;obtain⟨s1,q1,z1⟩:=ko t1;obtain⟨s2,q2,_⟩:=DataW.trod_bool Tryz.underlying4 t2;obtain⟨l3,a3,q3,r3,b3,c3,d3⟩:=qV t3 Taa;obtain⟨l4,a4,q4,r4,b4,c4,d4⟩:=qV t4 Taa;obtain⟨l5,a5,q5,r5,b5,c5,d5⟩:=qV t5 Taa;obtain⟨a6,l6,m6,q6,s6,r6,e6,u6,v6⟩:=kN kt Ee Tryz.underlying25 M5 Tab (λ m hm cs x h1 h2=>VK h1 h2) t6 Taa;obtain⟨a7,l7,m7,q7,s7,r7,e7,u7,v7⟩:=kN Cf Qa Tryz.underlying26 wO Tab (λ m hm cs x h1 h2=>abI h1 h2) t7 Taa;have n0:=yE (·.1) (λ x n (h:JD x n)=>h.1.2.2) e0;have n6:=yE (·.1) (λ x n (h:Ee x n)=>h.2.2) e6;have n7:=Si (λ x n (h:Qa x n)=>h.2.2) e7;simp at q0 q1 q2 q3 q4 q5 q6 q7;subst q0 q1 q2 q3 q4 q5 q6 q7;refine⟨⟨l0,s1,s2,l3,l4,l5,l6,l7⟩,⟨a0,s1,s2,a3,a4,a5,a6,a7⟩,rfl,⟨r0,rfl,rfl,r3,r4,r5,r6,r7⟩,?_⟩;refine⟨by show s1.size<=_;omega,λ x hx=>?_,λ x hx=>?_,b3,b4,b5,λ x hx=>?_,?_⟩
 ·obtain⟨n,hn,hb⟩:=e0.mem x hx;have:=JF hn;have:=hb.2;exact⟨hb.1.1,hb.1.2.1,by omega⟩
 ·obtain⟨n,hn,hb⟩:=e6.mem x hx;exact⟨hb.1,hb.2.1⟩
 ·obtain⟨n,hn,hb⟩:=e7.mem x hx;exact⟨hb.1,hb.2.1⟩
 ·unfold Qu.exprs;simp only[eG];omega):p:=h
theorem VL {fuel:Nat} {cs:List Value} {x:DataW H×List MemPlace}(h:DataW.trod enc Tryz.prog w base spare held fuel 28 cs=some x)(hw:Rows.uptoBulk x.1<=1048576):∃(q:Qu) (y:lB),cs=jX y/\q.at_ w (wP w) y/\q.jb (Rows.uptoBulk x.1):=by
 obtain⟨xs,n,hn,hx,hl,hlen,hf⟩:=DataW.trod_struct Tryz.underlying28 h;rw[My] at hl;subst hx
 match xs,hlen with
 | [y0,y1,y2,y3,y4,y5,y6,y7],_=>
 match cs,hl with
 | [c0,c1,c2,c3,c4,c5,c6,c7],_=>
   have t0:DataW.trod enc Tryz.prog w base spare held n 23 (([c0,c1,c2,c3,c4,c5,c6,c7].drop 0).take (Tryz.prog.cellsOf 23))=some y0:=(hf 0 _ rfl);rw[M8] at t0;have t1:DataW.trod enc Tryz.prog w base spare held n 9 (([c0,c1,c2,c3,c4,c5,c6,c7].drop 1).take (Tryz.prog.cellsOf 9))=some y1:=(hf 1 _ rfl);rw[iW] at t1;have t2:DataW.trod enc Tryz.prog w base spare held n 4 (([c0,c1,c2,c3,c4,c5,c6,c7].drop 2).take (Tryz.prog.cellsOf 4))=some y2:=(hf 2 _ rfl);rw[Sd] at t2;have t3:DataW.trod enc Tryz.prog w base spare held n 24 (([c0,c1,c2,c3,c4,c5,c6,c7].drop 3).take (Tryz.prog.cellsOf 24))=some y3:=(hf 3 _ rfl);rw[qU] at t3;have t4:DataW.trod enc Tryz.prog w base spare held n 24 (([c0,c1,c2,c3,c4,c5,c6,c7].drop 4).take (Tryz.prog.cellsOf 24))=some y4:=(hf 4 _ rfl);rw[qU] at t4;have t5:DataW.trod enc Tryz.prog w base spare held n 24 (([c0,c1,c2,c3,c4,c5,c6,c7].drop 5).take (Tryz.prog.cellsOf 24))=some y5:=(hf 5 _ rfl);rw[qU] at t5;have t6:DataW.trod enc Tryz.prog w base spare held n 25 (([c0,c1,c2,c3,c4,c5,c6,c7].drop 6).take (Tryz.prog.cellsOf 25))=some y6:=(hf 6 _ rfl);rw[abz] at t6;have t7:DataW.trod enc Tryz.prog w base spare held n 26 (([c0,c1,c2,c3,c4,c5,c6,c7].drop 7).take (Tryz.prog.cellsOf 26))=some y7:=(hf 7 _ rfl);rw[abA] at t7;simp only[drop_succ_cons,drop_zero,take_succ_cons,take_zero] at t0 t1 t2 t3 t4 t5 t6 t7;have eb:Rows.uptoBulk (DataW.agg (List.map (λ x=>x.1) [y0,y1,y2,y3,y4,y5,y6,y7]))=Rows.uptoBulk y0.1+(Rows.uptoBulk y1.1+(Rows.uptoBulk y2.1+(Rows.uptoBulk y3.1+(Rows.uptoBulk y4.1+(Rows.uptoBulk y5.1+(Rows.uptoBulk y6.1+(Rows.uptoBulk y7.1+(0))))))))+1:=by simp only[map_cons,map_nil,Rows.uptoBulk,Rows.uptoBulkAll]
   open zij in exact Zgv
theorem zik.KcH(h:p:=by
 have hb8:=bw y8.1;have MG:=bw y9.1;have R7:=bw y10.1;have R8:=bw y11.1;have R9:=bw y12.1;have S0:=bw y13.1;have S3:=bw y14.1;have axV:=bw y15.1;have axW:=bw y16.1;obtain⟨k0,q0,_,f0⟩:=DataW.trod_int Tryz.underlying5 t0;obtain⟨k1,q1,z1⟩:=ko t1;obtain⟨a2,l2,m2,q2,s2,r2,e2,u2,v2⟩:=kN sS PZ Tryz.underlying22 M6 Tab (λ m hm cs x h1 h2=>abH h1 h2) t2 Taa;obtain⟨k3,q3,z3⟩:=ko t3;obtain⟨k4,q4,_,f4⟩:=DataW.trod_int Tryz.underlying2 t4;obtain⟨k5,q5,z5⟩:=ko t5;obtain⟨k6,q6,_,f6⟩:=DataW.trod_int Tryz.underlying2 t6;obtain⟨k7,y7,q7,r7,g7⟩:=VL t7 Taa;obtain⟨k8,q8,_,f8⟩:=DataW.trod_int Tryz.underlying5 t8;obtain⟨k9,q9,z9⟩:=ko t9;obtain⟨MH,q10,_,f10⟩:=DataW.trod_int Tryz.underlying2 t10;obtain⟨MI,q11,_,f11⟩:=DataW.trod_int Tryz.underlying2 t11;obtain⟨a12,MP,m12,q12,s12,r12,e12,u12,v12⟩:=kN rR JE Tryz.underlying29 qU Tab (λ m hm cs x h1 h2=>abJ h1 h2) t12 Taa;obtain⟨a13,P6,m13,q13,s13,r13,e13,u13,v13⟩:=kN sT PY Tryz.underlying30 M7 Tab (λ m hm cs x h1 h2=>abG h1 h2) t13 Taa;obtain⟨LI,S5,q14,r14,S1,c14,d14⟩:=qV t14 Taa;obtain⟨VW,q15,g15,z15⟩:=Ed t15;obtain⟨O3,q16,g16,z16⟩:=Ed t16;have n2:=Si (λ x n (h:PZ x n)=>h.2.2.2) e2;have n12:=abK e12;have n13:=yE (·.2) (λ x n (h:PY x n)=>h.1.2.2) e13;have n7:=g7.nodes;unfold jX at q7;unfold fp at q15 q16;simp at q0 q1 q2 q3 q4 q5 q6 q7 q8 q9 q10 q11 q12 q13 q14 q15 q16;obtain⟨rfl,rfl,rfl,rfl,rfl,rfl,rfl,rfl⟩:=q7;obtain⟨rfl,rfl,rfl⟩:=q15;obtain⟨rfl,rfl,rfl⟩:=q16;subst q0 q1 q2 q3 q4 q5 q6 q8 q9 q10 q11 q12 q13 q14
 have Qx:=r7.aK;refine⟨⟨k0,k1,l2,k3,k4,k5,k6,k7,k8,k9,MH,MI,MP,P6,LI,VW,O3⟩,⟨k0,k1,a2,k3,k4,k5,k6,y7,k8,k9,MH,MI,a12,a13,S5,VW,O3⟩,rfl,⟨rfl,rfl,r2,rfl,rfl,rfl,rfl,r7,rfl,rfl,rfl,rfl,r12,r13,r14,rfl,rfl⟩,?_⟩;refine⟨M9 f0,M9 f8,⟨?_,?_,?_,?_⟩,Az f4,Az f6,Az f10,Az f11,⟨g15.1,?_⟩,⟨g16.1,?_⟩,λ x hx=>?_,λ x hx=>?_,λ x hx=>?_,S1,g7.more Taa,?_,?_⟩
 ·show k1.size<=_;omega
 ·show k3.size<=_;omega
 ·show k5.size<=_;omega
 ·show k9.size<=_;omega
 ·show VW.s.size<=_;omega
 ·show O3.s.size<=_;omega
 ·obtain⟨n,hn,hb⟩:=e2.mem x hx;have:=JF hn;have:=hb.1;exact⟨by omega,hb.2.1,hb.2.2.1⟩
 ·obtain⟨n,hn,hb⟩:=e12.mem x hx;exact⟨hb.1,hb.2.2⟩
 ·obtain⟨n,hn,hb⟩:=e13.mem x hx;have:=JF hn;have:=hb.2;exact⟨hb.1.1,hb.1.2.1,by omega⟩
 ·show 2*Tr.aQ (MP.flatten++P6.map (·.2)++LI++k7.exprs)+l2.length+MP.length+k7.aG.length<=_;simp only[eG];omega
 ·show k1.size+k3.size+k5.size+k9.size+k7.aK.size+VW.s.size+O3.s.size<=_;omega):p:=h
theorem N5 {fuel:Nat} {cs:List Value} {x:DataW H×List MemPlace}(h:DataW.trod enc Tryz.prog w base spare held fuel 34 cs=some x)(hw:Rows.uptoBulk x.1<=1048576):∃(s:St) (y:fl),cs=bD y/\s.at_ w (wP w) y/\s.jb (Rows.uptoBulk x.1):=by
 obtain⟨xs,n,hn,hx,hl,hlen,hf⟩:=DataW.trod_struct Tryz.underlying34 h;rw[abE] at hl;subst hx
 match xs,hlen with
 | [y0,y1,y2,y3,y4,y5,y6,y7,y8,y9,y10,y11,y12,y13,y14,y15,y16],_=>
 match cs,hl with
 | [c0,c1,c2,c3,c4,c5,c6,c7,c8,c9,c10,c11,c12,c13,c14,c15,c16,c17,c18,c19,c20,c21,Mz,MA,c24,MB,MC,MD],_=>
   have t0:DataW.trod enc Tryz.prog w base spare held n 5 (([c0,c1,c2,c3,c4,c5,c6,c7,c8,c9,c10,c11,c12,c13,c14,c15,c16,c17,c18,c19,c20,c21,Mz,MA,c24,MB,MC,MD].drop 0).take (Tryz.prog.cellsOf 5))=some y0:=(hf 0 _ rfl);rw[Mx] at t0;have t1:DataW.trod enc Tryz.prog w base spare held n 9 (([c0,c1,c2,c3,c4,c5,c6,c7,c8,c9,c10,c11,c12,c13,c14,c15,c16,c17,c18,c19,c20,c21,Mz,MA,c24,MB,MC,MD].drop 1).take (Tryz.prog.cellsOf 9))=some y1:=(hf 1 _ rfl);rw[iW] at t1;have t2:DataW.trod enc Tryz.prog w base spare held n 22 (([c0,c1,c2,c3,c4,c5,c6,c7,c8,c9,c10,c11,c12,c13,c14,c15,c16,c17,c18,c19,c20,c21,Mz,MA,c24,MB,MC,MD].drop 2).take (Tryz.prog.cellsOf 22))=some y2:=(hf 2 _ rfl);rw[abB] at t2;have t3:DataW.trod enc Tryz.prog w base spare held n 9 (([c0,c1,c2,c3,c4,c5,c6,c7,c8,c9,c10,c11,c12,c13,c14,c15,c16,c17,c18,c19,c20,c21,Mz,MA,c24,MB,MC,MD].drop 3).take (Tryz.prog.cellsOf 9))=some y3:=(hf 3 _ rfl);rw[iW] at t3;have t4:DataW.trod enc Tryz.prog w base spare held n 2 (([c0,c1,c2,c3,c4,c5,c6,c7,c8,c9,c10,c11,c12,c13,c14,c15,c16,c17,c18,c19,c20,c21,Mz,MA,c24,MB,MC,MD].drop 4).take (Tryz.prog.cellsOf 2))=some y4:=(hf 4 _ rfl);rw[wO] at t4;have t5:DataW.trod enc Tryz.prog w base spare held n 9 (([c0,c1,c2,c3,c4,c5,c6,c7,c8,c9,c10,c11,c12,c13,c14,c15,c16,c17,c18,c19,c20,c21,Mz,MA,c24,MB,MC,MD].drop 5).take (Tryz.prog.cellsOf 9))=some y5:=(hf 5 _ rfl);rw[iW] at t5;have t6:DataW.trod enc Tryz.prog w base spare held n 2 (([c0,c1,c2,c3,c4,c5,c6,c7,c8,c9,c10,c11,c12,c13,c14,c15,c16,c17,c18,c19,c20,c21,Mz,MA,c24,MB,MC,MD].drop 6).take (Tryz.prog.cellsOf 2))=some y6:=(hf 6 _ rfl)
   rw[wO] at t6;have t7:DataW.trod enc Tryz.prog w base spare held n 28 (([c0,c1,c2,c3,c4,c5,c6,c7,c8,c9,c10,c11,c12,c13,c14,c15,c16,c17,c18,c19,c20,c21,Mz,MA,c24,MB,MC,MD].drop 7).take (Tryz.prog.cellsOf 28))=some y7:=(hf 7 _ rfl);rw[My] at t7;have t8:DataW.trod enc Tryz.prog w base spare held n 5 (([c0,c1,c2,c3,c4,c5,c6,c7,c8,c9,c10,c11,c12,c13,c14,c15,c16,c17,c18,c19,c20,c21,Mz,MA,c24,MB,MC,MD].drop 15).take (Tryz.prog.cellsOf 5))=some y8:=(hf 8 _ rfl);rw[Mx] at t8;have t9:DataW.trod enc Tryz.prog w base spare held n 9 (([c0,c1,c2,c3,c4,c5,c6,c7,c8,c9,c10,c11,c12,c13,c14,c15,c16,c17,c18,c19,c20,c21,Mz,MA,c24,MB,MC,MD].drop 16).take (Tryz.prog.cellsOf 9))=some y9:=(hf 9 _ rfl);rw[iW] at t9;have t10:DataW.trod enc Tryz.prog w base spare held n 2 (([c0,c1,c2,c3,c4,c5,c6,c7,c8,c9,c10,c11,c12,c13,c14,c15,c16,c17,c18,c19,c20,c21,Mz,MA,c24,MB,MC,MD].drop 17).take (Tryz.prog.cellsOf 2))=some y10:=(hf 10 _ rfl);rw[wO] at t10;have t11:DataW.trod enc Tryz.prog w base spare held n 2 (([c0,c1,c2,c3,c4,c5,c6,c7,c8,c9,c10,c11,c12,c13,c14,c15,c16,c17,c18,c19,c20,c21,Mz,MA,c24,MB,MC,MD].drop 18).take (Tryz.prog.cellsOf 2))=some y11:=(hf 11 _ rfl);rw[wO] at t11;have t12:DataW.trod enc Tryz.prog w base spare held n 29 (([c0,c1,c2,c3,c4,c5,c6,c7,c8,c9,c10,c11,c12,c13,c14,c15,c16,c17,c18,c19,c20,c21,Mz,MA,c24,MB,MC,MD].drop 19).take (Tryz.prog.cellsOf 29))=some y12:=(hf 12 _ rfl);rw[abC] at t12;have t13:DataW.trod enc Tryz.prog w base spare held n 30 (([c0,c1,c2,c3,c4,c5,c6,c7,c8,c9,c10,c11,c12,c13,c14,c15,c16,c17,c18,c19,c20,c21,Mz,MA,c24,MB,MC,MD].drop 20).take (Tryz.prog.cellsOf 30))=some y13:=(hf 13 _ rfl)
   rw[abD] at t13;have t14:DataW.trod enc Tryz.prog w base spare held n 24 (([c0,c1,c2,c3,c4,c5,c6,c7,c8,c9,c10,c11,c12,c13,c14,c15,c16,c17,c18,c19,c20,c21,Mz,MA,c24,MB,MC,MD].drop 21).take (Tryz.prog.cellsOf 24))=some y14:=(hf 14 _ rfl);rw[qU] at t14;have t15:DataW.trod enc Tryz.prog w base spare held n 32 (([c0,c1,c2,c3,c4,c5,c6,c7,c8,c9,c10,c11,c12,c13,c14,c15,c16,c17,c18,c19,c20,c21,Mz,MA,c24,MB,MC,MD].drop 22).take (Tryz.prog.cellsOf 32))=some y15:=(hf 15 _ rfl);rw[yD] at t15;have t16:DataW.trod enc Tryz.prog w base spare held n 32 (([c0,c1,c2,c3,c4,c5,c6,c7,c8,c9,c10,c11,c12,c13,c14,c15,c16,c17,c18,c19,c20,c21,Mz,MA,c24,MB,MC,MD].drop 25).take (Tryz.prog.cellsOf 32))=some y16:=(hf 16 _ rfl);rw[yD] at t16;simp only[drop_succ_cons,drop_zero,take_succ_cons,take_zero] at t0 t1 t2 t3 t4 t5 t6 t7 t8 t9 t10 t11 t12 t13 t14 t15 t16;have eb:Rows.uptoBulk (DataW.agg (List.map (λ x=>x.1) [y0,y1,y2,y3,y4,y5,y6,y7,y8,y9,y10,y11,y12,y13,y14,y15,y16]))=Rows.uptoBulk y0.1+(Rows.uptoBulk y1.1+(Rows.uptoBulk y2.1+(Rows.uptoBulk y3.1+(Rows.uptoBulk y4.1+(Rows.uptoBulk y5.1+(Rows.uptoBulk y6.1+(Rows.uptoBulk y7.1+(Rows.uptoBulk y8.1+(Rows.uptoBulk y9.1+(Rows.uptoBulk y10.1+(Rows.uptoBulk y11.1+(Rows.uptoBulk y12.1+(Rows.uptoBulk y13.1+(Rows.uptoBulk y14.1+(Rows.uptoBulk y15.1+(Rows.uptoBulk y16.1+(0)))))))))))))))))+1:=by simp only[map_cons,map_nil,Rows.uptoBulk,Rows.uptoBulkAll]
   open zik in exact Zgv
end
open Go.Shelf
variable{w0:World}{b m:Nat}{s0:Option aV}{S:Nat->Prop}{s:St}{y:fl}
theorem zcl.Kau(h:p:=by
 have en:∀args w,(callFunc 45 args).run Tryz.prog w=.ok (.enter 45 args) w:=enters_of Tryz.func45 Tac rfl;have EN:=hid en;have HL:=hid vg;have HY:=hid hlen;have HR:=hid hR;have HC:=hid Yd;clear en vg hlen hR Yd;have hrc:=CJ (·.2) s.aS;have fW:(s.aS.map λ x=>x.2.cost).length=y.aS.n:=by rw[length_map,HL.out]
 rw[fW] at hrc;have hcn:=ju (s.aS.map (·.2));have HRC:=hid hrc;have CL:=hid fW;have jk:=fg (s.aS.map (·.2));rw[length_map] at jk;clear hrc fW;have AW:w4.cell? ⟨g1,20,none⟩=some (.slice y.aS.A y.aS.n y.aS.c):=H4.out.q.cell 20;have p0:w4.cell? ⟨g0,0,none⟩=some (.pointer (some ⟨b,0,none⟩)):=H4.out.p.cell 0;go_wp2_with fail;refine(TE (λ i=>(s.aS.map λ x=>x.2.cost).getD i 0+2) (gb (s.aS.map λ x=>x.2.cost)) 45 #[] #[.pointer (some ⟨g0,0,none⟩)] EN.out y.aS.A y.aS.c y.aS.n ys (s.aS.map Cn) S hS Tbf Tas HR.out w4 H4.out.st H4.out.hw (jE _) (λ i hi=>uN _ 2 Tab i Tap) (λ i hi=>by have:=qu (s.aS.map λ x=>x.2.cost) i Tap;rw[CL.out] at this;exact this) (by rw[HRC.out];omega) TaT (λ i z oo hz ho Wr s' n' dW hW hc=>by
  obtain⟨x,hx,rfl⟩:∃x,s.aS[i]?=some x/\Cn x=oo:=by simpa [getElem?_map] using ho
  have hr:=pw HC.out hx hz
  have O5:=mem_of_getElem? hx
  have AQ:=HF.out.aS x O5
  have hnr:=mi (List.mem_map.2 ⟨x,O5,rfl⟩:x.2∈s.aS.map (·.2))
  rw[CK (·.2) hx] at hc ⊢
  have zj:Cn x=aq (dx z.1) (aq (some [32,61,32]) x.2.whole):=by unfold Cn;rw[hr.1]
  rw[zj,<- Nat.add_assoc]
  exact XX hE z (by rw[hr.1];exact AQ.2.2) (Tr.vZ hE hS x.2 z.2 hr.2 AQ.1 AQ.2.1 Taa) Wr hW (H4.out.hw.trans dW.below) (dW.blk H4.out.p hg0 Tab) hg0 Taa)).mono ?_
 rintro e w5 ⟨rfl,h2,d2⟩;rw[HRC.out] at h2;have H5:=hid (H4.out.next hg0 hg1 h2 d2);clear h2 d2 H4 p0 AW;have Yk:w5.cell? ⟨g1,21,none⟩=some (.slice y.aR.A y.aR.n y.aR.c):=H5.out.q.cell 21;have p0:w5.cell? ⟨g0,0,none⟩=some (.pointer (some ⟨b,0,none⟩)):=H5.out.p.cell 0;go_wp2_with fail;refine(px hE hS ⟨#[87,72,69,82,69]⟩ y.aR s.aR HA.out.aR HF.out.aR Taa Tab w5 H5.out.st H5.out.hw (by have:=qz s.aR;omega)).mono ?_;rintro e w6 ⟨rfl,h2,d2⟩;have H6:=hid (H5.out.next hg0 hg1 h2 d2);clear h2 d2 H5 p0 Yk;have fW:=qz s.aR;go_wp2_with fail;go_end0;refine⟨rfl,?_,H6.out.did⟩;have:=H6.out.st.more (show n+3+1+Tr.costs (s.aS.map (·.2))+3+rV s.aR<=n+(13*Tr.aQ s.exprs+4*s.aJ.length+3*s.rows.length+80) by omega);exact Zfk):p:=h
theorem zfv.Kbu(h:p:=by refine(cA ⟨#[32,83,69,84,32]⟩ w3 H3.out.st Tab Taa).mono ?_;rintro e w4 ⟨rfl,h2,d2⟩;have H4:=hid (H3.out.next hg0 hg1 h2 d2);clear h2 d2 H3 p0;obtain⟨vg,ys,hR,Yd⟩:=HA.out.aS;have hlen:List.length (α:=ByteArray×Ex) ys=s.aS.length:=Yd.len;open zcl in exact ZaJ):p:=h
theorem zdo.KaM(h:p:=by refine(mj hE ⟨#[85,80,68,65,84,69]⟩ y.name w2 H2.out.st H2.out.hw Tab Tan Taa).mono ?_;open zfv in exact ZcM):p:=h
theorem zaf.Kaa(h:p:=by
 have x0:nR.cell? ⟨g1,0,none⟩=some (.int .u8 6):=by have:=H0.out.q.cell 0;rw[show(bD y).toArray[0]?=some (.int .u8 y.kind)from rfl,mS] at this;exact this
 clear mS hk;go_upto_region 22 with fail;have bX:w0.heap.size<=w.heap.size:=by rw[jv.out];exact dK.out
 refine cM 8 (zo b g1 y tt) (AU _ _ _ _) Tac Tac Tac ?_ ?_
 ·simp only[take_succ_cons,take_zero];refine⟨Zbw,ZaX,ZbI,?_,ZbI,Zda,?_,?_,trivial⟩
  ·intro ρ w3 hc hL hr;have h0:_=_:=hr.1;have k20:w3.cell? ⟨g1,20,none⟩=some (.slice y.aS.A y.aS.n y.aS.c):=(av.later H0.out.q hL).cell 20;exact Zg5
  ·intro ρ w3 hc hL hr;have h0:_=_:=hr.1;have h1:_=_:=hr.2.1;exact ae (w':=w3) (gT rfl (by simp only[map_toArray,map_cons,map_nil,h0,h1];exact KR y)) ⟨af.refl _,rfl⟩
  ·intro ρ w3 hc hL hr;have h0:_=_:=hr.1;have h1:_=_:=hr.2.1;have e1:=hc.func 37;refine dG (f:=37) (args:= #[.agg (bD y).toArray,.agg (bD (eM y false false false false false false true true false)).toArray]) (w':=w3) Taq ?_;exact Zce
 intro W2 hL;simp only[Uab];rintro _ rfl a1 - a2 - a3 - a4 - a5 - a6 - _ rfl;open zdo in exact Zbe):p:=h
theorem Ot{n:Nat} (hE:dy w0) (hS:∀b,S b->b < w0.heap.size)  (h:s.at_ w0 S y)(hf:s.jb m)(hm:m<=1048576)(w:World)(hst:eI w0.heap.size b s0 n w)(hw:Below w0.heap.size w0 w)(hk:s.kind=6)(hn:n+s.cost<=49999000):
  Calls Tryz.prog 19 #[.pointer (some ⟨b,0,none⟩),ji y] w (ba w0.heap.size b (aq s0 (cF s)) (n+s.cost) w):=by
 rw[show cF s=aq (bg (dJ s false false false false false false true true false)) (aq (some [85,80,68,65,84,69,32]) (aq (dx s.name) (aq (some [32,83,69,84,32]) (aq (dC (s.aS.map Cn)) (eh [87,72,69,82,69] s.aR))))) by unfold cF;rw[hk];rfl];have mS:y.kind=6:=by rw[h.kind,hk]
 unfold St.cost at hn ⊢;have JS:=gj s;have zZ:=hf.nodes;have hlt:=hst.lt;have hsz:=hst.size;obtain⟨tt,oy⟩:∃tt,tt=dJ s false false false false false false true true false:=⟨_,rfl⟩;have TT:=hid (λ W=>gi h hf hm false false false false false false true true false W);rw[<- oy] at TT;unfold ji at TT;have yK:=hid oy;clear oy;open zaf in exact Zaa
theorem zdp.KaM(h:p:=by refine(mj hE ⟨#[68,69,76,69,84,69,32,70,82,79,77]⟩ y.name w2 H2.out.st H2.out.hw Tab Tan Taa).mono ?_;rintro e w3 ⟨rfl,h2,d2⟩;have H3:=hid (H2.out.next hg0 hg1 h2 d2);clear h2 d2 H2 p0 x1;have Yk:w3.cell? ⟨g1,21,none⟩=some (.slice y.aR.A y.aR.n y.aR.c):=H3.out.q.cell 21;have p0:w3.cell? ⟨g0,0,none⟩=some (.pointer (some ⟨b,0,none⟩)):=H3.out.p.cell 0;go_wp2_with fail;refine(px hE hS ⟨#[87,72,69,82,69]⟩ y.aR s.aR HA.out.aR HF.out.aR Taa Tab w3 H3.out.st H3.out.hw (by have:=qz s.aR;omega)).mono ?_;rintro e w4 ⟨rfl,h2,d2⟩;have H4:=hid (H3.out.next hg0 hg1 h2 d2);clear h2 d2 H3 p0 Yk;have fW:=qz s.aR;go_wp2_with fail;go_end0;refine⟨rfl,?_,H4.out.did⟩;have:=H4.out.st.more (show n+3+3+rV s.aR<=n+(13*Tr.aQ s.exprs+4*s.aJ.length+3*s.rows.length+80) by omega);exact Zfk):p:=h
theorem zag.Kaa(h:p:=by
 have x0:nR.cell? ⟨g1,0,none⟩=some (.int .u8 7):=by have:=H0.out.q.cell 0;rw[show(bD y).toArray[0]?=some (.int .u8 y.kind)from rfl,mS] at this;exact this
 clear mS hk;go_upto_region 28 with fail;have bX:w0.heap.size<=w.heap.size:=by rw[jv.out];exact dK.out
 refine cM 6 (CR b g1 y tt) (CS _ _ _ _) Tac Tac Tac ?_ ?_
 ·simp only[take_succ_cons,take_zero];refine⟨Zbw,ZaX,ZbI,Zda,?_,?_,trivial⟩
  ·intro ρ w3 hc hL hr;have h0:_=_:=hr.1;exact ae (w':=w3) (gT rfl (by simp only[map_toArray,map_cons,map_nil,h0];exact Oi y)) ⟨af.refl _,rfl⟩
  ·intro ρ w3 hc hL hr;have h0:_=_:=hr.1;have h1:_=_:=hr.2.1;have e1:=hc.func 37;refine dG (f:=37) (args:= #[.agg (bD y).toArray,.agg (bD (eM y false false false false false false false true false)).toArray]) (w':=w3) Taq ?_;exact Zce
 intro W2 hL;simp only[Uab];rintro _ rfl a1 - a2 - a3 - a4 - _ rfl;open zdp in exact Zbe):p:=h
theorem Ou{n:Nat} (hE:dy w0) (hS:∀b,S b->b < w0.heap.size)  (h:s.at_ w0 S y)(hf:s.jb m)(hm:m<=1048576)(w:World)(hst:eI w0.heap.size b s0 n w)(hw:Below w0.heap.size w0 w)(hk:s.kind=7)(hn:n+s.cost<=49999000):
  Calls Tryz.prog 19 #[.pointer (some ⟨b,0,none⟩),ji y] w (ba w0.heap.size b (aq s0 (cF s)) (n+s.cost) w):=by
 rw[show cF s=aq (bg (dJ s false false false false false false false true false)) (aq (some [68,69,76,69,84,69,32,70,82,79,77,32]) (aq (dx s.name) (eh [87,72,69,82,69] s.aR))) by unfold cF;rw[hk];rfl];have mS:y.kind=7:=by rw[h.kind,hk]
 unfold St.cost at hn ⊢;have JS:=gj s;have zZ:=hf.nodes;have hlt:=hst.lt;have hsz:=hst.size;obtain⟨tt,oy⟩:∃tt,tt=dJ s false false false false false false false true false:=⟨_,rfl⟩;have TT:=hid (λ W=>gi h hf hm false false false false false false false true false W);rw[<- oy] at TT;unfold ji at TT;have yK:=hid oy;clear oy;open zag in exact Zaa
end Go.Proofs.YtehhdlgjfdnafaaGreatDoor
