/- Parts of the proof. -/
import Derived.Test.YtehhdlgjfdnafaaGreatDoorXF22
import Derived.Test.YtehhdlgjfdnafaaGreatDoorXF24
namespace Go.Proofs.YtehhdlgjfdnafaaGreatDoor
variable{p:Prop}
set_option maxHeartbeats 90000000
set_option maxRecDepth 100000
open Go.Lib (hid)
open Go.ChangeShapes Go.WideShapes Go.ChangeAt Go.RowKit List
set_option linter.unusedVariables false
set_option linter.unusedSimpArgs false
mutual
def Tr.nodes:Tr->Nat
 | .mk _ _ _ _ args=>Tr.aG args+1
def Tr.aG:List Tr->Nat
 | []=>0
 | t::ts=>t.nodes+Tr.aG ts
end
theorem dy:∀a b:List Tr,Tr.aG (a++b)=Tr.aG a+Tr.aG b
 | [],b=>by simp[Tr.aG]
 | t::a,b=>by show t.nodes+Tr.aG (a++b)=(t.nodes+Tr.aG a)+Tr.aG b;rw[dy a b];omega
theorem Ut (t:Tr):1<=t.nodes:=by cases t;unfold Tr.nodes;omega
theorem ft:∀l:List Tr,l.length<=Tr.aG l
 | []=>by simp
 | t::ts=>by have:=ft ts;have:=Ut t;unfold Tr.aG;rw[length_cons];omega
theorem oP:∀l:List Tr,(∀t∈l,t.thin)->Tr.iP l
 | [],_=>by unfold Tr.iP;trivial
 | t::ts,h=>by unfold Tr.iP;exact⟨h t Tad,oP ts λ u hu=>h u (by simp[hu])⟩
structure Qu.mB (q:Qu) (n:Nat):Prop where
 aP:q.aP.size<=1048576
 items:∀x∈q.items,x.1.fine/\x.1.thin/\x.2.size<=1048576
 order:∀x∈q.order,x.1.fine/\x.1.thin
 aS:∀x∈q.aS,x.fine/\x.thin
 group:∀x∈q.group,x.fine/\x.thin
 having:∀x∈q.having,x.fine/\x.thin
 aN:∀x∈q.aN, -9223372036854775808<=x/\x<=9223372036854775807
 nodes:2*Tr.aG q.exprs+q.aN.length+q.aP.size<=n
structure St.mB (s:St) (n:Nat):Prop where
 kind:0<=s.kind/\s.kind<=255
 what:0<=s.what/\s.what<=255
 names:s.name.size<=1048576/\s.time.size<=1048576/\s.space.size<=1048576/\s.cM.size<=1048576
 every: -9223372036854775808<=s.every/\s.every<=9223372036854775807
 parts: -9223372036854775808<=s.parts/\s.parts<=9223372036854775807
 a: -9223372036854775808<=s.a/\s.a<=9223372036854775807
 b: -9223372036854775808<=s.b/\s.b<=9223372036854775807
 aP:s.aP.Ok/\s.aP.s.size<=1048576
 dx:s.dx.Ok/\s.dx.s.size<=1048576
 bg:∀c∈s.bg,c.1.size<=1048576/\0<=c.2/\c.2<=255
 rows:∀r∈s.rows,(∀t∈r,t.fine/\t.thin)/\r.length<=1048576
 bF:∀x∈s.bF,x.2.fine/\x.2.thin/\x.1.size<=1048576
 aS:∀x∈s.aS,x.fine/\x.thin
 query:s.query.mB n
 nodes:2*Tr.aG s.exprs+s.bg.length+s.rows.length+s.query.aN.length<=n
 aqm:s.name.size+s.time.size+s.space.size+s.cM.size+s.query.aP.size+s.aP.s.size+s.dx.s.size<=n
mutual
theorem Bg:∀t:Tr,t.depth<=t.nodes
 | .mk _ _ _ _ args=>by have:=yy args;unfold Tr.depth Tr.nodes;omega
theorem yy:∀ts:List Tr,Tr.mb ts<=Tr.aG ts
 | []=>by simp[Tr.mb]
 | t::ts=>by have:=Bg t;have:=yy ts;unfold Tr.mb Tr.aG;omega
end
mutual
theorem xd:∀t:Tr,t.cost+3<=13*t.nodes
 | .mk _ _ _ _ args=>by have:=jI args;unfold Tr.cost Tr.nodes;omega
theorem jI:∀ts:List Tr,Tr.costs ts<=13*Tr.aG ts
 | []=>by simp[Tr.costs]
 | t::ts=>by have:=xd t;have:=jI ts;unfold Tr.costs Tr.aG;omega
end
variable{t:Tr}
theorem mO:∀ {l:List Tr},t∈l->t.nodes<=Tr.aG l
 | u::l,h=>by
   unfold Tr.aG;rcases List.mem_cons.1 h with rfl | h
   ·omega
   ·have:=mO h;omega
variable{α β:Type}{R:α->β->Prop}
theorem qm{l:List α} {m:List β}(h:iK R l m):∀ {i:Nat} {x:α} {y:β},l[i]?=some x->m[i]?=some y->R x y:=by
 induction h with
 | nil=>intro i x y h;simp at h
 | cons a _ ih=>
   intro i x y h k
   cases i with
   | zero=>simp at h k;subst h k;exact a
   | succ i=>exact ih Tam (by simpa using k)
variable{w0:World}{S:Nat->Prop}
theorem Tr.xf{b:Nat}(hE:dM w0) (hS:∀b,S b->b < w0.heap.size)(t:Tr)(y:Ex)(h:t.at_ w0 S y)(hf:t.fine)(ht:t.thin)(hd:t.nodes<=1000000):gy 23 b w0 y t.whole t.cost:=
 OE (d:=t.depth) (λ W hW=>Tr.alm hS t y h ht (Nat.le_trans (Bg t) hd) W hW) (Tr.adn hE hS t y h hf)
open Go.Shelf
noncomputable def vz:Code:=Tryz.f40.body.getD .skip
structure QT (T:Array Value) (g0 g1:Nat):Prop where
 sz:T.size=83
 t2:T.getD 2 undef=.pointer (some ⟨g0,0,none⟩)
 t3:T.getD 3 undef=.pointer (some ⟨g1,0,none⟩)
structure QW (w0:World) (b:Nat) (s:Option aX) (n:Nat) (ws W:World) (g0 g1:Nat) (y:mv):Prop where
 p:av W g0 87 #[.pointer (some ⟨b,0,none⟩)]
 q:av W g1 28 (kL y).toArray
 st:eR w0.heap.size b s n W
 did:cF w0.heap.size b ws W
 hw:Below w0.heap.size w0 W
section
variable {w0 ws W W':World} {b n m g0 g1:Nat} {s s':Option aX} {y:mv}
theorem QW.next (h:QW w0 b s n ws W g0 g1 y)(hg0:g0≠b)(hg1:g1≠b)(h1:eR w0.heap.size b s' m W')(d:cF w0.heap.size b W W'):QW w0 b s' m ws W' g0 g1 y:=⟨d.blk h.p hg0 Tab,d.blk h.q hg1 Tab,h1,h.did.trans d,h.hw.trans d.below⟩
theorem QW.more (h:QW w0 b s n ws W g0 g1 y)(hm:n<=m):QW w0 b s m ws W g0 g1 y:=⟨h.p,h.q,h.st.more hm,h.did,h.hw⟩
theorem QW.same (h:QW w0 b s n ws W g0 g1 y)(e:s=s'):QW w0 b s' n ws W g0 g1 y:=e▸h
theorem QW.cells (h:QW w0 b s n ws W g0 g1 y):W.cell? ⟨g0,0,none⟩=some (.pointer (some ⟨b,0,none⟩))/\W.cell? ⟨g1,0,none⟩=some (.slice y.items.A y.items.n y.items.c)/\W.cell? ⟨g1,1,none⟩=some (.string y.aP)/\W.cell? ⟨g1,2,none⟩=some (.bool y.only)/\W.cell? ⟨g1,3,none⟩=some (.slice y.aS.A y.aS.n y.aS.c)/\W.cell? ⟨g1,4,none⟩=some (.slice y.group.A y.group.n y.group.c)/\W.cell? ⟨g1,5,none⟩=some (.slice y.having.A y.having.n y.having.c)/\W.cell? ⟨g1,6,none⟩=some (.slice y.order.A y.order.n y.order.c)/\W.cell? ⟨g1,7,none⟩=some (.slice y.aN.A y.aN.n y.aN.c):=
 ⟨h.p.cell 0,h.q.cell 0,h.q.cell 1,h.q.cell 2,h.q.cell 3,h.q.cell 4,h.q.cell 5,h.q.cell 6,h.q.cell 7⟩
end
theorem Dq(g:α->Tr)(l:List α):gB (l.map λ x=>(g x).cost) (l.map λ x=>(g x).cost).length=Tr.costs (l.map g):=by have:=pj (l.map g);rw[map_map] at this;exact this
theorem vA (l:List Nat)(d:Nat)(hd:d<=2):∀i,i < l.length->gB l i+(l.getD i 0+d+1)<=gB l (i+1):=λ i hi=>by have:=vq l i hi;omega
theorem rk (l:List Nat):∀i,i<=l.length->gB l i<=gB l l.length:=λ i hi=>zK l l.length i hi (Nat.le_refl _)
variable{i:Nat}{x:α}
theorem Dr(g:α->Tr) {l:List α}  (h:l[i]?=some x):(l.map λ x=>(g x).cost).getD i 0=(g x).cost:=by simp[List.getD,h]
variable{ws W:World}{n g0 g1:Nat}{s:Option aX}{y:mv}{T:Array Value}{Q:Exit->Act->World->Prop}
theorem zaN.Kae(h:p:=by
 clear q0 q1 q2 q3 q4 q5 q6 q7;refine wp_seq_k λ K hK=>?_
 have HK:=hid hK;clear hK;go_wp2_with fail;refine(cH ⟨#[83,69,76,69,67,84,32]⟩ W HH.out.st Tab Taa).mono ?_;exact ZfB):p:=h
theorem YN{b:Nat}    (hn:n+1<=49999990)(hT:QT T g0 g1)(hg0:g0≠b)(hg1:g1≠b)(h:QW w0 b s n ws W g0 g1 y)
  (hO:∀T' W',QT T' g0 g1->QW w0 b (aq s (some [83,69,76,69,67,84,32])) (n+1) ws W' g0 g1 y->(jq vz 2).wp Tryz.prog Q { tmps:=T',defers:=[] } W'):
  (jq vz 1).wp Tryz.prog Q { tmps:=T,defers:=[] } W:=by
 open zaN in exact Zah
def zR (q:Qu):Option aX:=if q.items.length=0 then some [42] else dL (q.items.map nZ)
theorem zb9.Kar(h:p:=by
 have en:∀args w,(callFunc 85 args).run Tryz.prog w=.ok (.enter 85 args) w:=enters_of Tryz.func85 Tac rfl;have EN:=hid en;clear en e0 Jc;have hc:=Dq (·.1) q.items;have iq:(q.items.map λ x=>x.1.cost).length=k:=by rw[length_map,HL.out]
 rw[iq] at hc;have HC:=hid hc;have Ds:=hid iq;clear hc iq;go_wp2_with fail;refine(Pa (λ i=>(q.items.map λ x=>x.1.cost).getD i 0+2) (gB (q.items.map λ x=>x.1.cost)) 85 #[] #[.pointer (some ⟨g0,0,none⟩)] EN.out _ _ k ys (q.items.map nZ) S hS (by rw[hlen,HL.out]) Tat HR.out W HH.out.st HH.out.hw (jU _) (λ i hi=>vA _ 2 (Nat.le_refl _) i Tap) (λ i hi=>by have:=rk (q.items.map λ x=>x.1.cost) i Tap;rw[Ds.out] at this;exact this) Ta6 YO ?_).mono ?_
 ·intro i z oo hz ho Wr s' n' dW hW hc;obtain⟨x,hx,rfl⟩:∃x,q.items[i]?=some x/\nZ x=oo:=by simpa [getElem?_map] using ho
  have hr:=qm HA.out hx hz;have BI:=HF.out x (mem_of_getElem? hx);have AQ:=mO (List.mem_map.2 ⟨x,mem_of_getElem? hx,rfl⟩:x.1∈q.items.map (·.1));have hN:=HN.out;rw[Dr (·.1) hx] at hc ⊢;have zP:nZ x=aq x.1.whole (asO z.2):=by unfold nZ asO;rw[hr.2]
  rw[zP,<- Nat.add_assoc];exact TW z hE (by rw[hr.2];exact BI.2.2) (Tr.xf hE hS x.1 z.1 hr.1 BI.1 BI.2.1 Taa) Wr hW (HH.out.hw.trans dW.below) (dW.blk HH.out.p hg0 Tab) hg0 Taa
 rintro e w2 ⟨rfl,h2,d2⟩;rw[HC.out] at h2;have H2:=hid ((HH.out.next hg0 hg1 h2 d2).more (show n+Tr.costs (q.items.map (·.1))<=n+(Tr.costs (q.items.map (·.1))+1) by omega));clear h2 d2 HH p0 q0;exact Zbv):p:=h
theorem zaO.Kae(h:p:=by
 clear q1 q2 q3 q4 q5 q6 q7;refine wp_seq_k λ K hK=>?_
 have HK:=hid hK;clear hK;obtain⟨vU,ys,hR,hA⟩:=hl;obtain⟨k,hk⟩:∃k,k=y.items.n:=⟨_,rfl⟩;rw[<- hk] at q0 vU;have hlen:List.length (α:=Ex×ByteArray) ys=q.items.length:=hA.len;have YO:k<=1000000:=by have:=ft (q.items.map (·.1));rw[length_map] at this;omega
 have HL:=hid vU;have HR:=hid hR;have HA:=hid hA;have HF:=hid hf;have HN:=hid hN;clear vU hR hA hf hN hk;by_cases Jc:k=0
 ·subst Jc;have e0:zR q=some [42]:=by unfold zR;rw[if_pos HL.out.symm]
  rw[e0] at HO;clear hlen e0;go_wp2_with fail;refine(cH ⟨#[42]⟩ W HH.out.st Tab Taa).mono ?_;rintro e w2 ⟨rfl,h2,d2⟩;have H2:=hid ((HH.out.next hg0 hg1 h2 d2).more (show n+1<=n+(Tr.costs (q.items.map (·.1))+1) by omega));clear h2 d2 HH p0 q0;exact Zbv
 ·have t1:((k:Int)==0)=false:=by simp;omega
  have t2:(k==0)=false:=by simpa using Jc
  have e0:zR q=dL (q.items.map nZ):=by unfold zR;rw[if_neg Ta3]
  rw[e0] at HO;open zb9 in exact ZaG):p:=h
theorem aax{b:Nat}     (hS:∀b,S b->b < w0.heap.size)(hE:dM w0) {q:Qu}(hl:kR.sl w0 S y.items q.items)(hf:∀x∈q.items,x.1.fine/\x.1.thin/\x.2.size<=1048576)(hN:Tr.aG (q.items.map (·.1))<=1000000)(hn:n+(Tr.costs (q.items.map (·.1))+1)<=49999990)(hT:QT T g0 g1)(hg0:g0≠b)(hg1:g1≠b)(h:QW w0 b s n ws W g0 g1 y)
  (hO:∀T' W',QT T' g0 g1->QW w0 b (aq s (zR q)) (n+(Tr.costs (q.items.map (·.1))+1)) ws W' g0 g1 y->(jq vz 3).wp Tryz.prog Q { tmps:=T',defers:=[] } W'):
  (jq vz 2).wp Tryz.prog Q { tmps:=T,defers:=[] } W:=by
 open zaO in exact Zah
theorem zaP.Kae(h:p:=by
 clear q0 q1 q2 q3 q4 q5 q6 q7;refine wp_seq_k λ K hK=>?_
 have HK:=hid hK;clear hK;go_wp2_with fail;refine(cH ⟨#[32,70,82,79,77,32]⟩ W HH.out.st Tab Taa).mono ?_;exact ZfB):p:=h
theorem afX{b:Nat}    (hn:n+1<=49999990)(hT:QT T g0 g1)(hg0:g0≠b)(hg1:g1≠b)(h:QW w0 b s n ws W g0 g1 y)
  (hO:∀T' W',QT T' g0 g1->QW w0 b (aq s (some [32,70,82,79,77,32])) (n+1) ws W' g0 g1 y->(jq vz 4).wp Tryz.prog Q { tmps:=T',defers:=[] } W'):
  (jq vz 3).wp Tryz.prog Q { tmps:=T,defers:=[] } W:=by
 open zaP in exact Zah
theorem zaQ.Kae(h:p:=by
 clear q0 q1 q3 q4 q5 q6 q7;refine wp_seq_k λ K hK=>?_
 have HK:=hid hK;clear hK;obtain⟨bo,hbo⟩:∃bo,bo=y.only:=⟨_,rfl⟩;rw[<- hbo] at HO q2;clear hbo;cases bo
 ·rw[if_neg Tab,dD] at HO;exact Zds
 ·rw[if_pos rfl] at HO;go_wp2_with fail;refine(cH ⟨#[79,78,76,89,32]⟩ W HH.out.st Tab Taa).mono ?_;rintro e w2 ⟨rfl,h2,d2⟩;have H2:=hid (HH.out.next hg0 hg1 h2 d2);clear h2 d2 HH p0 q2;exact Zbv):p:=h
theorem afY{b:Nat}    (hn:n+1<=49999990)(hT:QT T g0 g1)(hg0:g0≠b)(hg1:g1≠b)(h:QW w0 b s n ws W g0 g1 y)
  (hO:∀T' W',QT T' g0 g1->QW w0 b (aq s (some (if y.only then [79,78,76,89,32] else []))) (n+1) ws W' g0 g1 y->(jq vz 5).wp Tryz.prog Q { tmps:=T',defers:=[] } W'):
  (jq vz 4).wp Tryz.prog Q { tmps:=T,defers:=[] } W:=by
 open zaQ in exact Zah
theorem zaR.Kae(h:p:=by
 clear q0 q2 q3 q4 q5 q6 q7;refine wp_seq_k λ K hK=>?_
 have HK:=hid hK;clear hK;go_wp2_with fail;refine(eL hE y.aP W HH.out.st HH.out.hw hf Taa).mono ?_;rintro e w2 ⟨rfl,h2,d2⟩;have H2:=hid (HH.out.next hg0 hg1 h2 d2);clear h2 d2 HH p0 q1;exact Zbv):p:=h
theorem afZ{b:Nat}    (hE:dM w0)(hf:y.aP.size<=1048576)(hn:n+1<=49999990)(hT:QT T g0 g1)(hg0:g0≠b)(hg1:g1≠b)(h:QW w0 b s n ws W g0 g1 y)
  (hO:∀T' W',QT T' g0 g1->QW w0 b (aq s (dz y.aP)) (n+1) ws W' g0 g1 y->(jq vz 6).wp Tryz.prog Q { tmps:=T',defers:=[] } W'):
  (jq vz 5).wp Tryz.prog Q { tmps:=T,defers:=[] } W:=by
 open zaR in exact Zah
variable{k:Nat}
theorem YP(word:aX)(l:List Tr) (hk:k=l.length):aq (bl (decide (k<=1))) (if k=0 then some [] else aq (some (32::(word++ [32]))) ((l[0]?.map Tr.whole).getD none))=dX word l:=by
 subst hk;unfold dX
 match l with
 | []=>rfl
 | t::r=>rfl
def sX (l:List Tr):Nat:=(l.head?.map Tr.cost).getD 0
theorem rp (l:List Tr):sX l<=13*Tr.aG l:=by
 cases l with
 | nil=>simp[sX]
 | cons t r=>have:=xd t;unfold sX Tr.aG;simp;omega
theorem qp{b:Nat}  (hE:dM w0)(hS:∀b,S b->b < w0.heap.size)(word:ByteArray)(y:Sl)(l:List Tr)(hl:fy.sl w0 S y l)(hf:∀x∈l,x.fine/\x.thin)(hN:Tr.aG l<=1000000)(hwl:word.size<=1000)(w:World)(h:eR w0.heap.size b s n w)(hw:Below w0.heap.size w0 w)(hn:n+3+sX l<=50000000):
  Calls Tryz.prog 47 #[.pointer (some ⟨b,0,none⟩),.string word,.slice y.A y.n y.c] w (bk w0.heap.size b (aq s (dX word.data.toList l)) (n+3+sX l) w):=by
 obtain⟨vU,ys,hR,hA⟩:=hl;have hlen:List.length (α:=Ex) ys=l.length:=hA.len;have YO:l.length<=1000000:=Nat.le_trans (ft l) hN;rw[<- YP _ l vU];refine TV word y.A y.n y.c ys _ S hS (by rw[hlen,vU]) hR hwl Taa (λ z hz=>?_) w h hw hn;obtain⟨t,ht⟩:∃t,l[0]?=some t:=⟨_,getElem?_eq_getElem (by rw[<- hlen];exact(List.getElem?_eq_some_iff.1 hz).1)⟩;have hr:=qm hA ht hz;have hm:=mem_of_getElem? ht;have:=mO hm;have e1:(l[0]?.map Tr.whole).getD none=t.whole:=by rw[ht];rfl
 have e2:sX l=t.cost:=by
  cases l with
  | nil=>cases ht
  | cons a r=>injection ht with ht;subst ht;rfl
 rw[e1,e2];exact Tr.xf hE hS t z hr (hf t hm).1 (hf t hm).2 Taa
variable{l:List Tr}
theorem zaS.Kae(h:p:=by
 clear q0 q1 q2 q4 q5 q6 q7;refine wp_seq_k λ K hK=>?_
 have HK:=hid hK;clear hK;go_wp2_with fail;refine(qp hE hS ⟨#[87,72,69,82,69]⟩ y.aS l hl hf hN Tab W HH.out.st HH.out.hw Taa).mono ?_;rintro e w2 ⟨rfl,h2,d2⟩;rw[Nat.add_assoc] at h2;have H2:=hid (HH.out.next hg0 hg1 h2 d2);clear h2 d2 HH p0 q3;exact Zbv):p:=h
theorem aay{b:Nat}     (hS:∀b,S b->b < w0.heap.size)(hE:dM w0) (hl:fy.sl w0 S y.aS l)(hf:∀x∈l,x.fine/\x.thin)(hN:Tr.aG l<=1000000)(hn:n+(3+sX l)<=49999990)(hT:QT T g0 g1)(hg0:g0≠b)(hg1:g1≠b)(h:QW w0 b s n ws W g0 g1 y)
  (hO:∀T' W',QT T' g0 g1->QW w0 b (aq s (dX [87,72,69,82,69] l)) (n+(3+sX l)) ws W' g0 g1 y->(jq vz 7).wp Tryz.prog Q { tmps:=T',defers:=[] } W'):
  (jq vz 6).wp Tryz.prog Q { tmps:=T,defers:=[] } W:=by
 open zaS in exact Zah
theorem zgK.Kb4(h:p:=by
 have hN:=HN.out;have hcg:(l.map Tr.cost).getD i 0=x.cost:=by simp[List.getD,hx]
 rw[hcg] at hc ⊢;rw[Nat.add_zero];exact Tr.xf hE hS x z hr BI.1 BI.2 Taa Wr s' n' hW (H2.out.hw.trans dW.below) (by simpa using hc)):p:=h
theorem zca.Kar(h:p:=by
 have en:∀args w,(callFunc 23 args).run Tryz.prog w=.ok (.enter 23 args) w:=enters_of Tryz.func23 Tac rfl;have EN:=hid en;clear en e0 Jc;have hc:=pj l;have iq:(l.map Tr.cost).length=k:=by rw[length_map,HL.out]
 rw[iq] at hc;have HC:=hid hc;have Ds:=hid iq;clear hc iq;go_wp2_with fail;refine(cH ⟨#[32,71,82,79,85,80,32,66,89,32]⟩ W HH.out.st Tab Taa).mono ?_;rintro e w2 ⟨rfl,h2,d2⟩;have H2:=hid (HH.out.next hg0 hg1 h2 d2);clear h2 d2 HH p0 q4 t1 t2;obtain⟨p0,q0,q1,q2,q3,q4,q5,q6,q7⟩:=H2.out.cells;rw[show y.group.n=k from Rs.out] at q4;clear q0 q1 q2 q3 q5 q6 q7;go_wp2_with fail;refine(xQ (λ i=>(l.map Tr.cost).getD i 0+0) (gB (l.map Tr.cost)) 23 #[.pointer (some ⟨b,0,none⟩)] #[] EN.out _ _ k ys (l.map Tr.whole) S hS (by rw[hlen,HL.out]) Tat HR.out w2 H2.out.st H2.out.hw (jU _) (λ i hi=>vA _ 0 Tab i Tap) (λ i hi=>by have:=rk (l.map Tr.cost) i Tap;rw[Ds.out] at this;exact this) Ta6 YO ?_).mono ?_
 ·open zgK in exact Zeq
 rintro e w3 ⟨rfl,h3,d3⟩;rw[HC.out] at h3;have H3:=hid (((H2.out.next hg0 hg1 h3 d3).more (show n+1+Tr.costs l<=n+(Tr.costs l+1) by omega)).same (aH _ _ _));clear h3 d3 H2 p0 q4;exact ZgI):p:=h
theorem zhn.Kcn(h:p:=by
 have e0:ix [32,71,82,79,85,80,32,66,89,32] (l.map Tr.whole)=aq (some [32,71,82,79,85,80,32,66,89,32]) (dL (l.map Tr.whole)):=by unfold ix;rw[if_neg Tbf]
 rw[e0] at HO;open zca in exact ZaG):p:=h
theorem zaT.Kae(h:p:=by
 clear q0 q1 q2 q3 q5 q6 q7;refine wp_seq_k λ K hK=>?_
 have HK:=hid hK;clear hK;obtain⟨vU,ys,hR,hA⟩:=hl;obtain⟨k,hk⟩:∃k,k=y.group.n:=⟨_,rfl⟩;rw[<- hk] at q4 vU;have Rs:=hid hk.symm;have hlen:List.length (α:=Ex) ys=l.length:=hA.len;have YO:k<=1000000:=by have:=ft l;omega
 have HL:=hid vU;have HR:=hid hR;have HA:=hid hA;have HF:=hid hf;have HN:=hid hN;clear vU hR hA hf hN hk;by_cases Jc:k=0
 ·subst Jc;have e0:ix [32,71,82,79,85,80,32,66,89,32] (l.map Tr.whole)=some []:=by unfold ix;rw[if_pos Tbh]
  rw[e0,dD] at HO;clear hlen e0;exact Zds
 ·open zhn in exact ZfS):p:=h
theorem aaz{b:Nat}     (hS:∀b,S b->b < w0.heap.size)(hE:dM w0) (hl:fy.sl w0 S y.group l)(hf:∀x∈l,x.fine/\x.thin)(hN:Tr.aG l<=1000000)(hn:n+(Tr.costs l+1)<=49999990)(hT:QT T g0 g1)(hg0:g0≠b)(hg1:g1≠b)(h:QW w0 b s n ws W g0 g1 y)
  (hO:∀T' W',QT T' g0 g1->QW w0 b (aq s (ix [32,71,82,79,85,80,32,66,89,32] (l.map Tr.whole))) (n+(Tr.costs l+1)) ws W' g0 g1 y->(jq vz 8).wp Tryz.prog Q { tmps:=T',defers:=[] } W'):
  (jq vz 7).wp Tryz.prog Q { tmps:=T,defers:=[] } W:=by
 open zaT in exact Zah
theorem zaU.Kae(h:p:=by
 clear q0 q1 q2 q3 q4 q6 q7;refine wp_seq_k λ K hK=>?_
 have HK:=hid hK;clear hK;go_wp2_with fail;refine(qp hE hS ⟨#[72,65,86,73,78,71]⟩ y.having l hl hf hN Tab W HH.out.st HH.out.hw Taa).mono ?_;rintro e w2 ⟨rfl,h2,d2⟩;rw[Nat.add_assoc] at h2;have H2:=hid (HH.out.next hg0 hg1 h2 d2);clear h2 d2 HH p0 q5;exact Zbv):p:=h
theorem YQ{b:Nat}     (hS:∀b,S b->b < w0.heap.size)(hE:dM w0) (hl:fy.sl w0 S y.having l)(hf:∀x∈l,x.fine/\x.thin)(hN:Tr.aG l<=1000000)(hn:n+(3+sX l)<=49999990)(hT:QT T g0 g1)(hg0:g0≠b)(hg1:g1≠b)(h:QW w0 b s n ws W g0 g1 y)
  (hO:∀T' W',QT T' g0 g1->QW w0 b (aq s (dX [72,65,86,73,78,71] l)) (n+(3+sX l)) ws W' g0 g1 y->(jq vz 9).wp Tryz.prog Q { tmps:=T',defers:=[] } W'):
  (jq vz 8).wp Tryz.prog Q { tmps:=T,defers:=[] } W:=by
 open zaU in exact Zah
theorem zcb.Kar(h:p:=by
 have en:∀args w,(callFunc 87 args).run Tryz.prog w=.ok (.enter 87 args) w:=enters_of Tryz.func87 Tac rfl;have EN:=hid en;clear en e0 Jc;have hc:=Dq (·.1) l;have iq:(l.map λ x=>x.1.cost).length=k:=by rw[length_map,HL.out]
 rw[iq] at hc;have HC:=hid hc;have Ds:=hid iq;clear hc iq;go_wp2_with fail;refine(cH ⟨#[32,79,82,68,69,82,32,66,89,32]⟩ W HH.out.st Tab Taa).mono ?_;rintro e w2 ⟨rfl,h2,d2⟩;have H2:=hid (HH.out.next hg0 hg1 h2 d2);clear h2 d2 HH p0 q6 t1 t2;obtain⟨p0,q0,q1,q2,q3,q4,q5,q6,q7⟩:=H2.out.cells;rw[show y.order.n=k from Rs.out] at q6;clear q0 q1 q2 q3 q4 q5 q7;go_wp2_with fail;refine(LD (λ i=>(l.map λ x=>x.1.cost).getD i 0+1) (gB (l.map λ x=>x.1.cost)) 87 #[] #[.pointer (some ⟨g0,0,none⟩)] EN.out _ _ k ys (l.map jn) S hS (by rw[hlen,HL.out]) Tat HR.out w2 H2.out.st H2.out.hw (jU _) (λ i hi=>vA _ 1 Tab i Tap) (λ i hi=>by have:=rk (l.map λ x=>x.1.cost) i Tap;rw[Ds.out] at this;exact this) Ta6 YO ?_).mono ?_
 ·intro i z oo hz ho Wr s' n' dW hW hc;obtain⟨x,hx,rfl⟩:∃x,l[i]?=some x/\jn x=oo:=by simpa [getElem?_map] using ho
  have hr:=qm HA.out hx hz;have BI:=HF.out x (mem_of_getElem? hx);have AQ:=mO (List.mem_map.2 ⟨x,mem_of_getElem? hx,rfl⟩:x.1∈l.map (·.1));have hN:=HN.out;rw[Dr (·.1) hx] at hc ⊢;have zP:jn x=aq x.1.whole (QY z.2):=by unfold jn QY;rw[hr.2]
  rw[zP,<- Nat.add_assoc];exact OG z (Tr.xf hE hS x.1 z.1 hr.1 BI.1 BI.2 Taa) Wr hW (H2.out.hw.trans dW.below) (dW.blk H2.out.p hg0 Tab) hg0 Taa
 rintro e w3 ⟨rfl,h3,d3⟩;rw[HC.out] at h3;have H3:=hid (((H2.out.next hg0 hg1 h3 d3).more (show n+1+Tr.costs (l.map (·.1))<=n+(Tr.costs (l.map (·.1))+1) by omega)).same (aH _ _ _));clear h3 d3 H2 p0 q6;exact ZgI):p:=h
theorem zho.Kcn(h:p:=by
 have e0:ix [32,79,82,68,69,82,32,66,89,32] (l.map jn)=aq (some [32,79,82,68,69,82,32,66,89,32]) (dL (l.map jn)):=by unfold ix;rw[if_neg Tbf]
 rw[e0] at HO;open zcb in exact ZaG):p:=h
theorem zaV.Kae(h:p:=by
 clear q0 q1 q2 q3 q4 q5 q7;refine wp_seq_k λ K hK=>?_
 have HK:=hid hK;clear hK;obtain⟨vU,ys,hR,hA⟩:=hl;obtain⟨k,hk⟩:∃k,k=y.order.n:=⟨_,rfl⟩;rw[<- hk] at q6 vU;have Rs:=hid hk.symm;have hlen:List.length (α:=Ex×Bool) ys=l.length:=hA.len;have YO:k<=1000000:=by have:=ft (l.map (·.1));rw[length_map] at this;omega
 have HL:=hid vU;have HR:=hid hR;have HA:=hid hA;have HF:=hid hf;have HN:=hid hN;clear vU hR hA hf hN hk;by_cases Jc:k=0
 ·subst Jc;have e0:ix [32,79,82,68,69,82,32,66,89,32] (l.map jn)=some []:=by unfold ix;rw[if_pos Tbh]
  rw[e0,dD] at HO;clear hlen e0;exact Zds
 ·open zho in exact ZfS):p:=h
theorem aaA{b:Nat}     (hS:∀b,S b->b < w0.heap.size)(hE:dM w0) {l:List (Tr×Bool)}(hl:oq.sl w0 S y.order l)(hf:∀x∈l,x.1.fine/\x.1.thin)(hN:Tr.aG (l.map (·.1))<=1000000)(hn:n+(Tr.costs (l.map (·.1))+1)<=49999990)(hT:QT T g0 g1)(hg0:g0≠b)(hg1:g1≠b)(h:QW w0 b s n ws W g0 g1 y)
  (hO:∀T' W',QT T' g0 g1->QW w0 b (aq s (ix [32,79,82,68,69,82,32,66,89,32] (l.map jn))) (n+(Tr.costs (l.map (·.1))+1)) ws W' g0 g1 y->(jq vz 10).wp Tryz.prog Q { tmps:=T',defers:=[] } W'):
  (jq vz 9).wp Tryz.prog Q { tmps:=T,defers:=[] } W:=by
 open zaV in exact Zah
theorem zaW.Kae(h:p:=by
 clear q0 q1 q2 q3 q4 q5 q6;refine wp_seq_k λ K hK=>?_
 have HK:=hid hK;clear hK;have hd:decide ((y.aN.n:Int)<=1)=decide (y.aN.n<=1):=by rw[decide_eq_decide];omega
 go_wp2_with fail;refine(bp _ W HH.out.st).mono ?_;rintro e w2 ⟨rfl,h2,d2⟩;try rw[hd] at h2
 have H2:=hid (HH.out.next hg0 hg1 h2 d2);clear h2 d2 HH p0 q7 hd;exact Zbv):p:=h
theorem aga{b:Nat}    (hn:n+0<=49999990)(hT:QT T g0 g1)(hg0:g0≠b)(hg1:g1≠b)(h:QW w0 b s n ws W g0 g1 y)
  (hO:∀T' W',QT T' g0 g1->QW w0 b (aq s (bl (decide (y.aN.n<=1)))) (n+0) ws W' g0 g1 y->(jq vz 11).wp Tryz.prog Q { tmps:=T',defers:=[] } W'):
  (jq vz 10).wp Tryz.prog Q { tmps:=T,defers:=[] } W:=by
 open zaW in exact Zah
def alo (l:List Int):Option aX:=match l with | []=>some [] | n::_=>aq (some [32,76,73,77,73,84,32]) (se n)
theorem zf4.KbP(h:p:=by refine wpQuiet_nil ?_;rintro V4 ⟨x9,Dt⟩;have wk:=x9.h;rw[<- Dt] at wk;have H3:=hid (H2.out.next hg0 hg1 (H2.out.st.later wk) (cF.aF wk H2.out.st.size));clear Dt x9 p0' q7' c' wk H2;go_wp2_with fail;refine(gO hE z BI.1 BI.2 V4 H3.out.st H3.out.hw Taa).mono ?_;rintro e w4 ⟨rfl,h4,d4⟩;have H4:=hid (((H3.out.next hg0 hg1 h4 d4).more (show n+1+1<=n+2 by omega)).same (aH _ _ _));clear h4 d4 H3;go_wp2_with fail;exact HO.out _ _ H4.out):p:=h
theorem zaX.Kae(h:p:=by
 clear q0 q1 q2 q3 q4 q5 q6;obtain⟨vU,ys,hR,hA⟩:=hl;obtain⟨k,hk⟩:∃k,k=y.aN.n:=⟨_,rfl⟩;rw[<- hk] at q7 vU;have HNN:=hid vU;have HKN:=hid YO;clear vU YO
 match l,HNN,hA,hf,HO,HKN with
 | [],HNN,hA,hf,HO,_=>have Jc:k=0:=HNN.out;subst Jc;clear hk hR hA hf;have HO:=hid (show∀T' W',QW w0 b s (n+2) ws W' g0 g1 y->Q .normal { tmps:=T',defers:=[] } W' from λ T' W' h=>HO.out T' W' (h.same (dD s).symm));go_wp2_with fail;exact HO.out _ _ (HH.out.more Taa)
 | x::r,HNN,hA,hf,HO,HKN=>
   have HO:=hid (show∀T' W',QW w0 b (aq s (aq (some [32,76,73,77,73,84,32]) (se x))) (n+2) ws W' g0 g1 y->Q .normal { tmps:=T',defers:=[] } W' from HO.out);have BR:0 < k:=by rw[HNN.out];simp
   have hk2:k<=1000000000:=by rw[HNN.out];exact HKN.out
   have Rs:=hid hk.symm;have BI:=hf x Tad
   obtain⟨z,zs,rfl,hz⟩:∃z zs,ys=z::zs/\z=x:=by
    cases hA with
    | cons a _=>exact⟨_,_,rfl,a⟩
   subst hz;rcases hR with h0 |⟨b2,off,mg,kM,hcell⟩
   ·cases h0
   have hc0:=hcell 0 z 0 _ rfl rfl;have vT:=hid (hS b2 kM);have HC0:=hid hc0;have HAE:=hid mg;have t1:decide ((0:Int)<(k:Int))=true:=decide_eq_true Taa;have t2:decide (0 < k)=true:=decide_eq_true BR;clear hcell hc0 hA hf mg hk kM;go_wp2_with fail;refine(cH ⟨#[32,76,73,77,73,84,32]⟩ W HH.out.st Tab Taa).mono ?_;rintro e w2 ⟨rfl,h2,d2⟩;have H2:=hid (HH.out.next hg0 hg1 h2 d2);clear h2 d2 HH p0 q7 t1 t2;obtain⟨p0,q0,q1,q2,q3,q4,q5,q6,q7⟩:=H2.out.cells;clear q0 q1 q2 q3 q4 q5 q6;rw[Rs.out,HAE.out] at q7;have iq:w2.cell? ⟨b2,off,none⟩=some (.int .i64 z):=(H2.out.hw.cell (p:=⟨b2,off,none⟩) vT.out).trans HC0.out;go_wp2_with fail;refine fo 5 w2.heap.size w2 (Below.refl _ _) Tac Tac Tac Tac ?_;have p0':=λ q:Ext w2.heap.size w2=>(q.h.cell (p:=⟨g0,0,none⟩) (ax p0)).trans p0
   have q7':=λ q:Ext w2.heap.size w2=>(q.h.cell (p:=⟨g1,7,none⟩) (ax q7)).trans q7
   have c':=λ q:Ext w2.heap.size w2=>(q.h.cell (p:=⟨b2,off,none⟩) (ax iq)).trans iq
   clear p0 q7 iq;open zf4 in exact ZdZ):p:=h
theorem aaB{b:Nat}     (hS:∀b,S b->b < w0.heap.size)(hE:dM w0) {l:List Int}(hl:QS.sl w0 S y.aN l)(hf:∀x∈l, -9223372036854775808<=x/\x<=9223372036854775807)(YO:l.length<=1000000000)(hn:n+2<=49999990)(hT:QT T g0 g1)(hg0:g0≠b)(hg1:g1≠b)(h:QW w0 b s n ws W g0 g1 y)
  (hO:∀T' W',QW w0 b (aq s (alo l)) (n+2) ws W' g0 g1 y->Q .normal { tmps:=T',defers:=[] } W'):
  (jq vz 11).wp Tryz.prog Q { tmps:=T,defers:=[] } W:=by
 open zaX in exact Zah
def Qu.cost (q:Qu):Nat:=13*Tr.aG q.exprs+20
theorem aaC (q:Qu):iU q=aq (some [83,69,76,69,67,84,32]) (aq (zR q) (aq (some [32,70,82,79,77,32]) (aq (some (if q.only then [79,78,76,89,32] else [])) (aq (dz q.aP) (aq (dX [87,72,69,82,69] q.aS) (aq (ix [32,71,82,79,85,80,32,66,89,32] (q.group.map Tr.whole)) (aq (dX [72,65,86,73,78,71] q.having) (aq (ix [32,79,82,68,69,82,32,66,89,32] (q.order.map jn)) (aq (bl (decide (q.aN.length<=1))) (alo q.aN)))))))))):=rfl
theorem yz (q:Qu):Tr.aG q.exprs=Tr.aG (q.items.map (·.1))+Tr.aG q.aS+Tr.aG q.group+Tr.aG q.having+Tr.aG (q.order.map (·.1)):=by unfold Qu.exprs;simp only[dy]
variable{m:Nat}
theorem sk{b:Nat} (hE:dM w0) (hS:∀b,S b->b < w0.heap.size) {q:Qu} (h:q.at_ w0 S y)(hf:q.mB m)(hm:m<=1048576)(w:World)(hst:eR w0.heap.size b s n w)(hw:Below w0.heap.size w0 w)(hn:n+q.cost<=49999000):
  Calls Tryz.prog 40 #[.pointer (some ⟨b,0,none⟩),IU y] w (bk w0.heap.size b (aq s (iU q)) (n+q.cost) w):=by
 have hN:=hf.nodes;have AQ:=yz q;have c0:=jI (q.items.map (·.1));have c1:=rp q.aS;have c2:=jI q.group;have c3:=rp q.having;have c4:=jI (q.order.map (·.1));unfold Qu.cost at hn ⊢;rw[AQ] at hn ⊢ hN;have hlt:=hst.lt;have hsz:=hst.size;have hW0:QW w0 b s n w ((w.alloc (.cells #[.pointer (some ⟨b,0,none⟩)] 87)).alloc (.cells (kL y).toArray 28)) w.heap.size (w.heap.size+1) y:=by have b1:=aa w (.cells #[.pointer (some ⟨b,0,none⟩)] 87);have b2:=aa (w.alloc (.cells #[.pointer (some ⟨b,0,none⟩)] 87)) (.cells (kL y).toArray 28);have b3:=af.then b1 b2;have hy:=av.new (w.alloc (.cells #[.pointer (some ⟨b,0,none⟩)] 87)) 28 (kL y).toArray;rw[World.size_alloc] at hy;exact⟨(av.new w _ _).alloc _,hy,hst.later b3,cF.aF b3 hsz,hw.trans (b3.mono hw.size)⟩
 have hg0:w.heap.size≠b:=by omega
 have hg1:w.heap.size+1≠b:=by omega
 obtain⟨Q,hQ⟩:∃Q,Q=bodyPost Tryz.prog Tryz.f40 (bk w0.heap.size b (aq s (iU q)) (n+(13*(Tr.aG (q.items.map (·.1))+Tr.aG q.aS+Tr.aG q.group+Tr.aG q.having+Tr.aG (q.order.map (·.1)))+20)) w):=⟨_,rfl⟩;have fin:∀T' W',QW w0 b (aq s (iU q)) (n+(13*(Tr.aG (q.items.map (·.1))+Tr.aG q.aS+Tr.aG q.group+Tr.aG q.having+Tr.aG (q.order.map (·.1)))+20)) w W' w.heap.size (w.heap.size+1) y->Q .normal { tmps:=T',defers:=[] } W':=λ T' W' h=>by rw[hQ];exact bodyPost_end (results_none rfl _ _ _) rfl ⟨rfl,h.st,h.did⟩
 have lh:=h.aN.1
 have all:∀T W,QT T w.heap.size (w.heap.size+1)->QW w0 b s n w W w.heap.size (w.heap.size+1) y->(jq vz 1).wp Tryz.prog Q { tmps:=T,defers:=[] } W:=by
  intro T W hT hW;refine YN Taa hT hg0 hg1 hW λ T W hT hW=>?_
  refine aax hS hE h.items hf.items Taa Taa hT hg0 hg1 hW λ T W hT hW=>?_
  refine afX Taa hT hg0 hg1 hW λ T W hT hW=>?_
  refine afY Taa hT hg0 hg1 hW λ T W hT hW=>?_
  refine afZ hE (by rw[h.aP];exact hf.aP) Taa hT hg0 hg1 hW λ T W hT hW=>?_
  refine aay hS hE h.aS hf.aS Taa Taa hT hg0 hg1 hW λ T W hT hW=>?_
  refine aaz hS hE h.group hf.group Taa Taa hT hg0 hg1 hW λ T W hT hW=>?_
  refine YQ hS hE h.having hf.having Taa Taa hT hg0 hg1 hW λ T W hT hW=>?_
  refine aaA hS hE h.order hf.order Taa Taa hT hg0 hg1 hW λ T W hT hW=>?_
  refine aga Taa hT hg0 hg1 hW λ T W hT hW=>?_
  refine aaB hS hE h.aN hf.aN Taa Taa hT hg0 hg1 hW λ T W hW=>?_
  refine fin T W ((hW.more Taa).same ?_);rw[aaC,lh,h.aP,h.only];simp only[aH]
 clear fin c0 c1 c2 c3 c4 hN AQ hst lh h;subst hQ;simp only[vz,jq,Tryz.f40,Option.getD_some] at all;have ALL:=hid all;have HW0:=hid hW0;clear all hW0;obtain⟨⟨iA,ii,ic⟩,qf,qo,⟨wA,wn,wc⟩,⟨gA,gn,gc⟩,⟨hA,hn2,hc⟩,⟨oA,on,oc⟩,⟨lA,ln,lc⟩⟩:=y;unfold IU kL fN;go_enter Tryz.func40,Tryz.ntmps40;refine wp_seq_k λ K hK=>?_
 have HK:=hid hK;clear hK;go_wp2_with fail;refine HK.out _ _ (ALL.out _ _ ⟨rfl,rfl,rfl⟩ HW0.out)
def eW (y:gT)(c q j w e r u h t:Bool):gT:=
 { bg:=if c then y.bg else .nil,time:=if c then y.time else⟨#[]⟩,every:=if e then y.every else 0,space:=if c then y.space else⟨#[]⟩,parts:=if c then y.parts else 0,query:=if q then y.query else⟨.nil,⟨#[]⟩,false,.nil,.nil,.nil,.nil,.nil⟩,what:=if w then y.what else 0,cM:=if j then y.cM else⟨#[]⟩,a:=if j then y.a else 0,b:=if j then y.b else 0,rows:=if r then y.rows else .nil,bF:=if u then y.bF else .nil,aS:=if h then y.aS else .nil,aP:=if t then y.aP else⟨0,0,⟨#[]⟩⟩,dx:=if t then y.dx else⟨0,0,⟨#[]⟩⟩,name:=⟨#[]⟩,kind:=0 }
theorem Rt (f:Bool)(x:Sl)(l:Nat)(hl:x.n=l):((x.n:Int)==(((if f then x else Sl.nil).n:Nat):Int))=(f || l==0):=by
 subst hl;cases f
 ·simp only[Bool.false_eq_true,if_false,Bool.false_or];show((x.n:Int)==((0:Nat):Int))=_;rw[Bool.eq_iff_iff];simp
 ·simp
theorem YU (f:Bool)(x:ByteArray):(x.toList==(if f then x else⟨#[]⟩).toList)=(f || x.toList== []):=by
 cases f
 ·simp only[Bool.false_eq_true,if_false,Bool.false_or];rw[show(⟨#[]⟩:ByteArray).toList=[] by rw[ByteArray.toList_eq]]
 ·simp
theorem LF (f:Bool)(x:Int):(x==(if f then x else 0))=(f || x==0):=by cases f <;> simp
theorem adE (f:Bool)(x:Val):IY x (if f then x else⟨0,0,⟨#[]⟩⟩)=(f || kX x):=by
 cases f
 ·simp only[Bool.false_eq_true,if_false,Bool.false_or];unfold IY kX;rw[show((⟨0,0,⟨#[]⟩⟩:Val).s).toList=[] by rw[ByteArray.toList_eq]]
 ·simp[IY]
variable{w:World}
theorem agd{q:Qu} (h:q.at_ w S y):qX y=Gj q:=by unfold qX Gj;rw[h.items.1,h.aS.1,h.group.1,h.having.1,h.order.1,h.aN.1,h.aP,h.only]
theorem aaG(f:Bool)   {q:Qu} (h:q.at_ w S y):(qX y==qX (if f then y else⟨.nil,⟨#[]⟩,false,.nil,.nil,.nil,.nil,.nil⟩))=(f || Gj q):=by
 cases f
 ·simp only[Bool.false_eq_true,if_false,Bool.false_or];rw[agd h,show qX (⟨.nil,⟨#[]⟩,false,.nil,.nil,.nil,.nil,.nil⟩:mv)=true by
   unfold qX
   rw[show((⟨.nil,⟨#[]⟩,false,.nil,.nil,.nil,.nil,.nil⟩:mv).aP).toList=[] by rw[ByteArray.toList_eq]]
   rfl]
  simp
 ·simp
theorem age{s:St} {y:gT}(h:s.at_ w S y)(c q j wh e r u hh t:Bool):Lf y (eW y c q j wh e r u hh t)=cY s c q j wh e r u hh t:=by
 unfold Lf eW;dsimp only;rw[Rt c y.bg _ h.bg.1,YU,LF,YU,LF,aaG q h.query,LF,YU,LF,LF,Rt r y.rows _ h.rows.1,Rt u y.bF _ h.bF.1,Rt hh y.aS _ h.aS.1,adE,adE];unfold cY;rw[h.time,h.every,h.space,h.parts,h.what,h.cM,h.a,h.b,h.aP,h.dx];generalize (s.bg.length==0)=A1;generalize (s.time.toList== [])=A2;generalize (s.every==0)=A3;generalize (s.space.toList== [])=A4;generalize (s.parts==0)=A5;generalize Gj s.query=A6;generalize (s.what==0)=A7;generalize (s.cM.toList== [])=A8;generalize (s.a==0)=A9;generalize (s.b==0)=A10;generalize (s.rows.length==0)=A11;generalize (s.bF.length==0)=A12;generalize (s.aS.length==0)=A13;generalize kX s.aP=A14;generalize kX s.dx=A15;rw[Bool.eq_iff_iff];simp only[Bool.and_eq_true,Bool.or_eq_true];constructor
 ·rintro⟨a1,a2,a3,a4,a5,a6,a7,a8,a9,a10,a11,a12,a13,a14,a15⟩;refine⟨⟨⟨⟨⟨⟨⟨⟨?_,a3⟩,a6⟩,a7⟩,?_⟩,a11⟩,a12⟩,a13⟩,?_⟩
  ·rcases a1 with h | a1
   ·exact .inl h
   rcases a2 with h | a2
   ·exact .inl h
   rcases a4 with h | a4
   ·exact .inl h
   rcases a5 with h | a5
   ·exact .inl h
   exact .inr ⟨⟨⟨a1,a2⟩,a4⟩,a5⟩
  ·rcases a8 with h | a8
   ·exact .inl h
   rcases a9 with h | a9
   ·exact .inl h
   rcases a10 with h | a10
   ·exact .inl h
   exact .inr ⟨⟨a8,a9⟩,a10⟩
  ·rcases a14 with h | a14
   ·exact .inl h
   rcases a15 with h | a15
   ·exact .inl h
   exact .inr ⟨a14,a15⟩
 ·rintro⟨⟨⟨⟨⟨⟨⟨⟨a1,a3⟩,a6⟩,a7⟩,a8⟩,a11⟩,a12⟩,a13⟩,a14⟩;exact⟨a1.imp id λ h=>h.1.1.1,a1.imp id λ h=>h.1.1.2,a3,a1.imp id λ h=>h.1.2,a1.imp id λ h=>h.2,a6,a7,a8.imp id λ h=>h.1.1,a8.imp id λ h=>h.1.2,a8.imp id λ h=>h.2,a11,a12,a13,a14.imp id λ h=>h.1,a14.imp id λ h=>h.2⟩
theorem YV{s:St} {y:gT}(h:s.at_ w S y) (hf:s.mB m)(hm:m<=1048576):Lg y:=by
 have hn:=hf.nodes;have hq:=yz s.query;have he:Tr.aG s.query.exprs<=Tr.aG s.exprs:=by unfold St.exprs;rw[dy];omega
 have l1:=ft (s.query.items.map (·.1));have l2:=ft s.query.aS;have l3:=ft s.query.group;have l4:=ft s.query.having;have l5:=ft (s.query.order.map (·.1));rw[length_map] at l1 l5;refine⟨?_,?_,?_,?_,?_,?_⟩
 ·rw[h.query.items.1];omega
 ·rw[h.query.aS.1];omega
 ·rw[h.query.group.1];omega
 ·rw[h.query.having.1];omega
 ·rw[h.query.order.1];omega
 ·rw[h.query.aN.1];omega
theorem YW{y:gT}(h:Lg y)(c q j wh e r u hh t:Bool):Lg (eW y c q j wh e r u hh t):=by
 cases q
 ·exact⟨Nat.zero_le _,Nat.zero_le _,Nat.zero_le _,Nat.zero_le _,Nat.zero_le _,Nat.zero_le _⟩
 ·exact⟨h.i,h.w,h.g,h.h,h.o,h.l⟩
theorem gD{s:St} {y:gT}(h:s.at_ w S y) (hf:s.mB m)(hm:m<=1048576)(c q j wh e r u hh t:Bool)(W:World):
  Calls Tryz.prog 37 #[mK y,mK (eW y c q j wh e r u hh t)] W λ e' w'=>e'=.returned (.bool (cY s c q j wh e r u hh t))/\Below W.heap.size W w':=by rw[<- age h];exact Yg y _ (YV h hf hm) (YW (YV h hf hm) ..) W
variable{g:Nat}{ty:TypeId}{cs:Array Value}{fs:Array Field}{ρ:Operand->Value}{o:Oper}
theorem jW{x:Operand} (ho:o.op=.load ty x)(hx:ρ x=.pointer (some ⟨g,0,none⟩))(hg:av w g ty cs)
  (hu:Tryz.prog.underlying ty=some (.struct fs)) (hi:(Tryz.prog.info? ty).map (·.size)=some cs.size):(execOp ρ o).run Tryz.prog w=.ok (.value (.agg cs)) w:=by unfold execOp;simp only[ho,hx,Instr.loadAt,Instr.sureAddr,Sem.run_bind,Sem.run_pure,Result.andThen_ok,run_loadVar_row w g ty ty cs (0,0) (.struct fs) hg hu rfl hi]
theorem ie{t:TypeId} {parts:Array (Nat×Operand)}   (ho:o.op=.build t parts)
  (hv:Tryz.prog.built t (parts.map λ(i,x)=>(i,ρ x)).toList=some cs):(execOp ρ o).run Tryz.prog w=.ok (.value (.agg cs)) w:=by unfold execOp;simp only[ho,Sem.run_bind,run_build w t _ cs hv,Result.andThen_ok,Sem.run_pure]
theorem YX:(Tryz.prog.info? 34).map (·.size)=some 28:=by kernel_rfl
theorem kD (y:gT):(Tryz.prog.info? 34).map (·.size)=some (cd y).toArray.size:=YX
theorem Pc (y:gT):Tryz.prog.built 34 [(2,.slice y.bg.A y.bg.n y.bg.c),(3,.string y.time),(4,.int .i64 y.every),(5,.string y.space),(6,.int .i64 y.parts)]=some (cd (eW y true false false false true false false false false)).toArray:=by kernel_rfl
theorem sq (y:gT):Tryz.prog.built 34 [(7,.agg #[.slice y.query.items.A y.query.items.n y.query.items.c,.string y.query.aP,.bool y.query.only,.slice y.query.aS.A y.query.aS.n y.query.aS.c,.slice y.query.group.A y.query.group.n y.query.group.c,.slice y.query.having.A y.query.having.n y.query.having.c,.slice y.query.order.A y.query.order.n y.query.order.c,.slice y.query.aN.A y.query.aN.n y.query.aN.c])]=some (cd (eW y false true false false false false false false false)).toArray:=by kernel_rfl
theorem Ux (y:gT):Tryz.prog.built 34 [(8,.int .u8 y.what)]=some (cd (eW y false false false true false false false false false)).toArray:=by kernel_rfl
theorem Uy (y:gT):Tryz.prog.built 34 [(12,.slice y.rows.A y.rows.n y.rows.c)]=some (cd (eW y false false false false false true false false false)).toArray:=by kernel_rfl
theorem LG (y:gT):Tryz.prog.built 34 [(13,.slice y.bF.A y.bF.n y.bF.c),(14,.slice y.aS.A y.aS.n y.aS.c)]=some (cd (eW y false false false false false false true true false)).toArray:=by kernel_rfl
theorem Pf (y:gT):Tryz.prog.built 34 [(14,.slice y.aS.A y.aS.n y.aS.c)]=some (cd (eW y false false false false false false false true false)).toArray:=by kernel_rfl
theorem vB (y:gT):Tryz.prog.built 34 [(15,.agg #[.int .u8 y.aP.k,.int .i64 y.aP.n,.string y.aP.s]),(16,.agg #[.int .u8 y.dx.k,.int .i64 y.dx.n,.string y.dx.s])]=some (cd (eW y false false false false false false false false true)).toArray:=by kernel_rfl
structure SW (w0:World) (b:Nat) (s:Option aX) (n:Nat) (ws W:World) (g1:Nat) (y:gT):Prop where
 q:av W g1 34 (cd y).toArray
 st:eR w0.heap.size b s n W
 did:cF w0.heap.size b ws W
 hw:Below w0.heap.size w0 W
section
variable {w0 ws W W':World} {b n m g0 g1:Nat} {s s':Option aX} {y:gT}
theorem SW.next (h:SW w0 b s n ws W g1 y)(hg1:g1≠b)(h1:eR w0.heap.size b s' m W')(d:cF w0.heap.size b W W'):SW w0 b s' m ws W' g1 y:=⟨d.blk h.q hg1 Tab,h1,h.did.trans d,h.hw.trans d.below⟩
theorem SW.later (h:SW w0 b s n ws W g1 y)(hB:w0.heap.size<=ws.heap.size)(k:Below W.heap.size W W'):SW w0 b s n ws W' g1 y:=⟨h.q.later k,h.st.later k,h.did.later k hB,h.hw.trans (k.mono h.hw.size)⟩
structure PW (w0:World) (b:Nat) (s:Option aX) (n:Nat) (ws W:World) (g0 g1:Nat) (y:gT):Prop where
 p:av W g0 87 #[.pointer (some ⟨b,0,none⟩)]
 s_:SW w0 b s n ws W g1 y
theorem PW.st (h:PW w0 b s n ws W g0 g1 y):eR w0.heap.size b s n W:=h.s_.st
theorem PW.q (h:PW w0 b s n ws W g0 g1 y):av W g1 34 (cd y).toArray:=h.s_.q
theorem PW.did (h:PW w0 b s n ws W g0 g1 y):cF w0.heap.size b ws W:=h.s_.did
theorem PW.hw (h:PW w0 b s n ws W g0 g1 y):Below w0.heap.size w0 W:=h.s_.hw
theorem PW.next (h:PW w0 b s n ws W g0 g1 y)(hg0:g0≠b)(hg1:g1≠b)(h1:eR w0.heap.size b s' m W')(d:cF w0.heap.size b W W'):PW w0 b s' m ws W' g0 g1 y:=⟨d.blk h.p hg0 Tab,h.s_.next hg1 h1 d⟩
theorem PW.later (h:PW w0 b s n ws W g0 g1 y)(hB:w0.heap.size<=ws.heap.size)(k:Below W.heap.size W W'):PW w0 b s n ws W' g0 g1 y:=⟨h.p.later k,h.s_.later hB k⟩
end
def St.cost (s:St):Nat:=13*Tr.aG s.exprs+4*s.bg.length+3*s.rows.length+80
theorem gF (s:St):Tr.aG s.exprs=Tr.aG s.rows.flatten+Tr.aG (s.bF.map (·.2))+Tr.aG s.aS+Tr.aG s.query.exprs:=by unfold St.exprs;simp only[dy]
def Du (b g:Nat)(y:gT)(tt:Bool):Nat->World->Value->Prop
 | 0,_,v=>v=.pointer (some ⟨b,0,none⟩)
 | 1,_,v=>v=.agg (cd y).toArray
 | 2,_,v=>v=.pointer (some ⟨g,2,none⟩)
 | 3,_,v=>v=.slice y.bg.A y.bg.n y.bg.c
 | 4,_,v=>v=.pointer (some ⟨g,3,none⟩)
 | 5,_,v=>v=.string y.time
 | 6,_,v=>v=.pointer (some ⟨g,4,none⟩)
 | 7,_,v=>v=.int .i64 y.every
 | 8,_,v=>v=.pointer (some ⟨g,5,none⟩)
 | 9,_,v=>v=.string y.space
 | 10,_,v=>v=.pointer (some ⟨g,6,none⟩)
 | 11,_,v=>v=.int .i64 y.parts
 | 12,_,v=>v=.agg (cd (eW y true false false false true false false false false)).toArray
 | 13,_,v=>v=.bool tt
 | _,_,_=>False
theorem Dv (b g:Nat)(y:gT)(tt:Bool):∀i w w' v,Du b g y tt i w v->af w w'->Du b g y tt i w' v:=by
 intro i w w' v h hl
 match i with
 | 0 | 1 | 2 | 3 | 4 | 5 | 6 | 7 | 8 | 9 | 10 | 11 | 12 | 13=>exact h
 | n+14=>exact h
def Dw (b g:Nat)(y:gT)(tt:Bool):Nat->World->Value->Prop
 | 0,_,v=>v=.pointer (some ⟨b,0,none⟩)
 | 1,_,v=>v=.agg (cd y).toArray
 | 2,_,v=>v=.pointer (some ⟨g,7,none⟩)
 | 3,_,v=>v=.agg #[.slice y.query.items.A y.query.items.n y.query.items.c,.string y.query.aP,.bool y.query.only,.slice y.query.aS.A y.query.aS.n y.query.aS.c,.slice y.query.group.A y.query.group.n y.query.group.c,.slice y.query.having.A y.query.having.n y.query.having.c,.slice y.query.order.A y.query.order.n y.query.order.c,.slice y.query.aN.A y.query.aN.n y.query.aN.c]
 | 4,_,v=>v=.agg (cd (eW y false true false false false false false false false)).toArray
 | 5,_,v=>v=.bool tt
 | _,_,_=>False
theorem Dx (b g:Nat)(y:gT)(tt:Bool):∀i w w' v,Dw b g y tt i w v->af w w'->Dw b g y tt i w' v:=by exact ZdU
def Jp (b g:Nat)(y:gT)(tt:Bool):Nat->World->Value->Prop
 | 0,_,v=>v=.pointer (some ⟨b,0,none⟩)
 | 1,_,v=>v=.agg (cd y).toArray
 | 2,_,v=>v=.pointer (some ⟨g,19,none⟩)
 | 3,_,v=>v=.slice y.rows.A y.rows.n y.rows.c
 | 4,_,v=>v=.agg (cd (eW y false false false false false true false false false)).toArray
 | 5,_,v=>v=.bool tt
 | _,_,_=>False
theorem Fv (b g:Nat)(y:gT)(tt:Bool):∀i w w' v,Jp b g y tt i w v->af w w'->Jp b g y tt i w' v:=by exact ZdU
def zS (b g:Nat)(y:gT)(tt:Bool):Nat->World->Value->Prop
 | 0,_,v=>v=.pointer (some ⟨b,0,none⟩)
 | 1,_,v=>v=.agg (cd y).toArray
 | 2,_,v=>v=.pointer (some ⟨g,20,none⟩)
 | 3,_,v=>v=.slice y.bF.A y.bF.n y.bF.c
 | 4,_,v=>v=.pointer (some ⟨g,21,none⟩)
 | 5,_,v=>v=.slice y.aS.A y.aS.n y.aS.c
 | 6,_,v=>v=.agg (cd (eW y false false false false false false true true false)).toArray
 | 7,_,v=>v=.bool tt
 | _,_,_=>False
theorem BJ (b g:Nat)(y:gT)(tt:Bool):∀i w w' v,zS b g y tt i w v->af w w'->zS b g y tt i w' v:=by exact ZfY
def Dy (b g:Nat)(y:gT)(tt:Bool):Nat->World->Value->Prop
 | 0,_,v=>v=.pointer (some ⟨b,0,none⟩)
 | 1,_,v=>v=.agg (cd y).toArray
 | 2,_,v=>v=.pointer (some ⟨g,21,none⟩)
 | 3,_,v=>v=.slice y.aS.A y.aS.n y.aS.c
 | 4,_,v=>v=.agg (cd (eW y false false false false false false false true false)).toArray
 | 5,_,v=>v=.bool tt
 | _,_,_=>False
theorem Dz (b g:Nat)(y:gT)(tt:Bool):∀i w w' v,Dy b g y tt i w v->af w w'->Dy b g y tt i w' v:=by exact ZdU
def vC (b g:Nat)(y:gT)(tt:Bool):Nat->World->Value->Prop
 | 0,_,v=>v=.pointer (some ⟨b,0,none⟩)
 | 1,_,v=>v=.agg (cd y).toArray
 | 2,_,v=>v=.pointer (some ⟨g,22,none⟩)
 | 3,_,v=>v=.agg #[.int .u8 y.aP.k,.int .i64 y.aP.n,.string y.aP.s]
 | 4,_,v=>v=.pointer (some ⟨g,25,none⟩)
 | 5,_,v=>v=.agg #[.int .u8 y.dx.k,.int .i64 y.dx.n,.string y.dx.s]
 | 6,_,v=>v=.agg (cd (eW y false false false false false false false false true)).toArray
 | 7,_,v=>v=.bool tt
 | _,_,_=>False
theorem nd (b g:Nat)(y:gT)(tt:Bool):∀i w w' v,vC b g y tt i w v->af w w'->vC b g y tt i w' v:=by exact ZfY
end Go.Proofs.YtehhdlgjfdnafaaGreatDoor
