/- Parts of the proof. -/
import Derived.Test.YtehhdlgjfdnafaaGreatDoorXE22
import Derived.Test.YtehhdlgjfdnafaaGreatDoorXE23
namespace Go.Proofs.YtehhdlgjfdnafaaGreatDoor
variable{p:Prop}
set_option maxHeartbeats 90000000
set_option maxRecDepth 100000
open Go.Lib (hid)
open Go.ChangeShapes Go.WideShapes Go.ChangeAt Go.RowKit List
set_option linter.unusedVariables false
set_option linter.unusedSimpArgs false
mutual
def Tr.nodes:Tr->Nat
 | .mk _ _ _ _ args=>Tr.aM args+1
def Tr.aM:List Tr->Nat
 | []=>0
 | t::ts=>t.nodes+Tr.aM ts
end
theorem iw:∀a b:List Tr,Tr.aM (a++b)=Tr.aM a+Tr.aM b
 | [],b=>by simp[Tr.aM]
 | t::a,b=>by show t.nodes+Tr.aM (a++b)=(t.nodes+Tr.aM a)+Tr.aM b;rw[iw a b];omega
theorem Py (t:Tr):1<=t.nodes:=by cases t;unfold Tr.nodes;omega
theorem eL:∀l:List Tr,l.length<=Tr.aM l
 | []=>by simp
 | t::ts=>by have:=eL ts;have:=Py t;unfold Tr.aM;rw[length_cons];omega
theorem Ie:∀l:List Tr,(∀t∈l,t.fine)->Tr.rP l
 | [],_=>by unfold Tr.rP;trivial
 | t::ts,h=>by unfold Tr.rP;exact⟨h t Tae,Ie ts λ u hu=>h u (by simp[hu])⟩
theorem Dw:∀l:List Tr,(∀t∈l,t.thin)->Tr.gT l
 | [],_=>by unfold Tr.gT;trivial
 | t::ts,h=>by unfold Tr.gT;exact⟨h t Tae,Dw ts λ u hu=>h u (by simp[hu])⟩
structure Qu.my (q:Qu) (n:Nat):Prop where
 aN:q.aN.size<=1048576
 items:∀x∈q.items,x.1.fine/\x.1.thin/\x.2.size<=1048576
 order:∀x∈q.order,x.1.fine/\x.1.thin
 aP:∀x∈q.aP,x.fine/\x.thin
 group:∀x∈q.group,x.fine/\x.thin
 having:∀x∈q.having,x.fine/\x.thin
 aQ:∀x∈q.aQ, -9223372036854775808<=x/\x<=9223372036854775807
 nodes:2*Tr.aM q.exprs+q.aQ.length+q.aN.size<=n
structure St.my (s:St) (n:Nat):Prop where
 kind:0<=s.kind/\s.kind<=255
 what:0<=s.what/\s.what<=255
 names:s.name.size<=1048576/\s.time.size<=1048576/\s.space.size<=1048576/\s.cI.size<=1048576
 every: -9223372036854775808<=s.every/\s.every<=9223372036854775807
 parts: -9223372036854775808<=s.parts/\s.parts<=9223372036854775807
 a: -9223372036854775808<=s.a/\s.a<=9223372036854775807
 b: -9223372036854775808<=s.b/\s.b<=9223372036854775807
 aN:s.aN.Ok/\s.aN.s.size<=1048576
 dH:s.dH.Ok/\s.dH.s.size<=1048576
 aY:∀c∈s.aY,c.1.size<=1048576/\0<=c.2/\c.2<=255
 rows:∀r∈s.rows,(∀t∈r,t.fine/\t.thin)/\r.length<=1048576
 bF:∀x∈s.bF,x.2.fine/\x.2.thin/\x.1.size<=1048576
 aP:∀x∈s.aP,x.fine/\x.thin
 query:s.query.my n
 nodes:2*Tr.aM s.exprs+s.aY.length+s.rows.length+s.query.aQ.length<=n
 air:s.name.size+s.time.size+s.space.size+s.cI.size+s.query.aN.size+s.aN.s.size+s.dH.s.size<=n
mutual
theorem yi:∀t:Tr,t.depth<=t.nodes
 | .mk _ _ _ _ args=>by have:=vT args;unfold Tr.depth Tr.nodes;omega
theorem vT:∀ts:List Tr,Tr.ko ts<=Tr.aM ts
 | []=>by simp[Tr.ko]
 | t::ts=>by have:=yi t;have:=vT ts;unfold Tr.ko Tr.aM;omega
end
mutual
theorem uD:∀t:Tr,t.cost+3<=13*t.nodes
 | .mk _ _ _ _ args=>by have:=iV args;unfold Tr.cost Tr.nodes;omega
theorem iV:∀ts:List Tr,Tr.costs ts<=13*Tr.aM ts
 | []=>by simp[Tr.costs]
 | t::ts=>by have:=uD t;have:=iV ts;unfold Tr.costs Tr.aM;omega
end
variable{t:Tr}
theorem lr:∀ {l:List Tr},t∈l->t.nodes<=Tr.aM l
 | u::l,h=>by
   unfold Tr.aM;rcases List.mem_cons.1 h with rfl | h
   ·omega
   ·have:=lr h;omega
variable{α β:Type}{R:α->β->Prop}
theorem oG{l:List α} {m:List β}(h:fS R l m):∀ {i:Nat} {x:α} {y:β},l[i]?=some x->m[i]?=some y->R x y:=by
 induction h with
 | nil=>intro i x y h;simp at h
 | cons a _ ih=>
   intro i x y h k
   cases i with
   | zero=>simp at h k;subst h k;exact a
   | succ i=>exact ih Tam (by simpa using k)
variable{w0:World}{S:Nat->Prop}
theorem Tr.uE{b:Nat}(hE:di w0) (hS:∀b,S b->b < w0.heap.size)(t:Tr)(y:Ex)(h:t.at_ w0 S y)(hf:t.fine)(ht:t.thin)(hd:t.nodes<=1000000):fC 23 b w0 y t.whole t.cost:=
 KS (d:=t.depth) (λ W hW=>Tr.aec hS t y h ht (Nat.le_trans (yi t) hd) W hW) (Tr.Zp hE hS t y h hf)
open Go.Shelf
noncomputable def tz:Code:=Tryz.f40.body.getD .skip
structure QT (T:Array Value) (g0 g1:Nat):Prop where
 sz:T.size=83
 t2:T.getD 2 undef=.pointer (some ⟨g0,0,none⟩)
 t3:T.getD 3 undef=.pointer (some ⟨g1,0,none⟩)
structure QW (w0:World) (b:Nat) (s:Option aT) (n:Nat) (ws W:World) (g0 g1:Nat) (y:kM):Prop where
 p:av W g0 87 #[.pointer (some ⟨b,0,none⟩)]
 q:av W g1 28 (jE y).toArray
 st:eu w0.heap.size b s n W
 did:ck w0.heap.size b ws W
 hw:Below w0.heap.size w0 W
section
variable {w0 ws W W':World} {b n m g0 g1:Nat} {s s':Option aT} {y:kM}
theorem QW.next (h:QW w0 b s n ws W g0 g1 y)(hg0:g0≠b)(hg1:g1≠b)(h1:eu w0.heap.size b s' m W')(d:ck w0.heap.size b W W'):QW w0 b s' m ws W' g0 g1 y:=⟨d.blk h.p hg0 Tac,d.blk h.q hg1 Tac,h1,h.did.trans d,h.hw.trans d.below⟩
theorem QW.more (h:QW w0 b s n ws W g0 g1 y)(hm:n<=m):QW w0 b s m ws W g0 g1 y:=⟨h.p,h.q,h.st.more hm,h.did,h.hw⟩
theorem QW.same (h:QW w0 b s n ws W g0 g1 y)(e:s=s'):QW w0 b s' n ws W g0 g1 y:=e▸h
theorem QW.cells (h:QW w0 b s n ws W g0 g1 y):W.cell? ⟨g0,0,none⟩=some (.pointer (some ⟨b,0,none⟩))/\W.cell? ⟨g1,0,none⟩=some (.slice y.items.A y.items.n y.items.c)/\W.cell? ⟨g1,1,none⟩=some (.string y.aN)/\W.cell? ⟨g1,2,none⟩=some (.bool y.only)/\W.cell? ⟨g1,3,none⟩=some (.slice y.aP.A y.aP.n y.aP.c)/\W.cell? ⟨g1,4,none⟩=some (.slice y.group.A y.group.n y.group.c)/\W.cell? ⟨g1,5,none⟩=some (.slice y.having.A y.having.n y.having.c)/\W.cell? ⟨g1,6,none⟩=some (.slice y.order.A y.order.n y.order.c)/\W.cell? ⟨g1,7,none⟩=some (.slice y.aQ.A y.aQ.n y.aQ.c):=
 ⟨h.p.cell 0,h.q.cell 0,h.q.cell 1,h.q.cell 2,h.q.cell 3,h.q.cell 4,h.q.cell 5,h.q.cell 6,h.q.cell 7⟩
end
theorem AP(g:α->Tr)(l:List α):fD (l.map λ x=>(g x).cost) (l.map λ x=>(g x).cost).length=Tr.costs (l.map g):=by have:=nG (l.map g);rw[map_map] at this;exact this
theorem tA (l:List Nat)(d:Nat)(hd:d<=2):∀i,i < l.length->fD l i+(l.getD i 0+d+1)<=fD l (i+1):=λ i hi=>by have:=sU l i hi;omega
theorem pN (l:List Nat):∀i,i<=l.length->fD l i<=fD l l.length:=λ i hi=>wV l l.length i hi (Nat.le_refl _)
variable{i:Nat}{x:α}
theorem AQ(g:α->Tr) {l:List α}  (h:l[i]?=some x):(l.map λ x=>(g x).cost).getD i 0=(g x).cost:=by simp[List.getD,h]
variable{ws W:World}{n g0 g1:Nat}{s:Option aT}{y:kM}{T:Array Value}{Q:Exit->Act->World->Prop}
theorem zaN.Kae(h:p:=by
 clear q0 q1 q2 q3 q4 q5 q6 q7;refine wp_seq_k λ K hK=>?_
 have HK:=hid hK;clear hK;go_wp2_with fail;refine(cn ⟨#[83,69,76,69,67,84,32]⟩ W HH.out.st Tac Taa).mono ?_;exact Zft):p:=h
theorem Tw{b:Nat}    (hn:n+1<=49999990)(hT:QT T g0 g1)(hg0:g0≠b)(hg1:g1≠b)(h:QW w0 b s n ws W g0 g1 y)
  (hO:∀T' W',QT T' g0 g1->QW w0 b (aq s (some [83,69,76,69,67,84,32])) (n+1) ws W' g0 g1 y->(iz tz 2).wp Tryz.prog Q { tmps:=T',defers:=[] } W'):
  (iz tz 1).wp Tryz.prog Q { tmps:=T,defers:=[] } W:=by
 open zaN in exact Zah
def xn (q:Qu):Option aT:=if q.items.length=0 then some [42] else dt (q.items.map ou)
theorem zcb.Kas(h:p:=by
 have en:∀args w,(callFunc 85 args).run Tryz.prog w=.ok (.enter 85 args) w:=enters_of Tryz.func85 Tab rfl;have EN:=hid en;clear en e0 Fm;have hc:=AP (·.1) q.items;have gw:(q.items.map λ x=>x.1.cost).length=k:=by rw[length_map,HL.out]
 rw[gw] at hc;have HC:=hid hc;have AU:=hid gw;clear hc gw;go_wp2_with fail;refine(KU (λ i=>(q.items.map λ x=>x.1.cost).getD i 0+2) (fD (q.items.map λ x=>x.1.cost)) 85 #[] #[.pointer (some ⟨g0,0,none⟩)] EN.out _ _ k ys (q.items.map ou) S hS (by rw[hlen,HL.out]) Tas HR.out W HH.out.st HH.out.hw (jg _) (λ i hi=>tA _ 2 (Nat.le_refl _) i Tap) (λ i hi=>by have:=pN (q.items.map λ x=>x.1.cost) i Tap;rw[AU.out] at this;exact this) Ta2 Tx ?_).mono ?_
 ·intro i z oo hz ho Wr s' n' dW hW hc;obtain⟨x,hx,rfl⟩:∃x,q.items[i]?=some x/\ou x=oo:=by simpa [getElem?_map] using ho
  have hr:=oG HA.out hx hz;have yH:=HF.out x (mem_of_getElem? hx);have yh:=lr (List.mem_map.2 ⟨x,mem_of_getElem? hx,rfl⟩:x.1∈q.items.map (·.1));have hN:=HN.out;rw[AQ (·.1) hx] at hc ⊢;have xk:ou x=aq x.1.whole (asO z.2):=by unfold ou asO;rw[hr.2]
  rw[xk,<- Nat.add_assoc];exact Px z hE (by rw[hr.2];exact yH.2.2) (Tr.uE hE hS x.1 z.1 hr.1 yH.1 yH.2.1 Taa) Wr hW (HH.out.hw.trans dW.below) (dW.blk HH.out.p hg0 Tac) hg0 Taa
 rintro e w2 ⟨rfl,h2,d2⟩;rw[HC.out] at h2;have H2:=hid ((HH.out.next hg0 hg1 h2 d2).more (show n+Tr.costs (q.items.map (·.1))<=n+(Tr.costs (q.items.map (·.1))+1) by omega));clear h2 d2 HH p0 q0;exact Zbt):p:=h
theorem zaO.Kae(h:p:=by
 clear q1 q2 q3 q4 q5 q6 q7;refine wp_seq_k λ K hK=>?_
 have HK:=hid hK;clear hK;obtain⟨qN,ys,hR,hA⟩:=hl;obtain⟨k,hk⟩:∃k,k=y.items.n:=⟨_,rfl⟩;rw[<- hk] at q0 qN;have hlen:List.length (α:=Ex×ByteArray) ys=q.items.length:=hA.len;have Tx:k<=1000000:=by have:=eL (q.items.map (·.1));rw[length_map] at this;omega
 have HL:=hid qN;have HR:=hid hR;have HA:=hid hA;have HF:=hid hf;have HN:=hid hN;clear qN hR hA hf hN hk;by_cases Fm:k=0
 ·subst Fm;have e0:xn q=some [42]:=by unfold xn;rw[if_pos HL.out.symm]
  rw[e0] at HO;clear hlen e0;go_wp2_with fail;refine(cn ⟨#[42]⟩ W HH.out.st Tac Taa).mono ?_;rintro e w2 ⟨rfl,h2,d2⟩;have H2:=hid ((HH.out.next hg0 hg1 h2 d2).more (show n+1<=n+(Tr.costs (q.items.map (·.1))+1) by omega));clear h2 d2 HH p0 q0;exact Zbt
 ·have t1:((k:Int)==0)=false:=by simp;omega
  have t2:(k==0)=false:=by simpa using Fm
  have e0:xn q=dt (q.items.map ou):=by unfold xn;rw[if_neg Ta0]
  rw[e0] at HO;open zcb in exact ZaH):p:=h
theorem XB{b:Nat}     (hS:∀b,S b->b < w0.heap.size)(hE:di w0) {q:Qu}(hl:iP.sl w0 S y.items q.items)(hf:∀x∈q.items,x.1.fine/\x.1.thin/\x.2.size<=1048576)(hN:Tr.aM (q.items.map (·.1))<=1000000)(hn:n+(Tr.costs (q.items.map (·.1))+1)<=49999990)(hT:QT T g0 g1)(hg0:g0≠b)(hg1:g1≠b)(h:QW w0 b s n ws W g0 g1 y)
  (hO:∀T' W',QT T' g0 g1->QW w0 b (aq s (xn q)) (n+(Tr.costs (q.items.map (·.1))+1)) ws W' g0 g1 y->(iz tz 3).wp Tryz.prog Q { tmps:=T',defers:=[] } W'):
  (iz tz 2).wp Tryz.prog Q { tmps:=T,defers:=[] } W:=by
 open zaO in exact Zah
theorem zaP.Kae(h:p:=by
 clear q0 q1 q2 q3 q4 q5 q6 q7;refine wp_seq_k λ K hK=>?_
 have HK:=hid hK;clear hK;go_wp2_with fail;refine(cn ⟨#[32,70,82,79,77,32]⟩ W HH.out.st Tac Taa).mono ?_;exact Zft):p:=h
theorem T6{b:Nat}    (hn:n+1<=49999990)(hT:QT T g0 g1)(hg0:g0≠b)(hg1:g1≠b)(h:QW w0 b s n ws W g0 g1 y)
  (hO:∀T' W',QT T' g0 g1->QW w0 b (aq s (some [32,70,82,79,77,32])) (n+1) ws W' g0 g1 y->(iz tz 4).wp Tryz.prog Q { tmps:=T',defers:=[] } W'):
  (iz tz 3).wp Tryz.prog Q { tmps:=T,defers:=[] } W:=by
 open zaP in exact Zah
theorem zaQ.Kae(h:p:=by
 clear q0 q1 q3 q4 q5 q6 q7;refine wp_seq_k λ K hK=>?_
 have HK:=hid hK;clear hK;obtain⟨bo,hbo⟩:∃bo,bo=y.only:=⟨_,rfl⟩;rw[<- hbo] at HO q2;clear hbo;cases bo
 ·rw[if_neg Tac,cX] at HO;exact Zdo
 ·rw[if_pos rfl] at HO;go_wp2_with fail;refine(cn ⟨#[79,78,76,89,32]⟩ W HH.out.st Tac Taa).mono ?_;rintro e w2 ⟨rfl,h2,d2⟩;have H2:=hid (HH.out.next hg0 hg1 h2 d2);clear h2 d2 HH p0 q2;exact Zbt):p:=h
theorem T7{b:Nat}    (hn:n+1<=49999990)(hT:QT T g0 g1)(hg0:g0≠b)(hg1:g1≠b)(h:QW w0 b s n ws W g0 g1 y)
  (hO:∀T' W',QT T' g0 g1->QW w0 b (aq s (some (if y.only then [79,78,76,89,32] else []))) (n+1) ws W' g0 g1 y->(iz tz 5).wp Tryz.prog Q { tmps:=T',defers:=[] } W'):
  (iz tz 4).wp Tryz.prog Q { tmps:=T,defers:=[] } W:=by
 open zaQ in exact Zah
theorem zaR.Kae(h:p:=by
 clear q0 q2 q3 q4 q5 q6 q7;refine wp_seq_k λ K hK=>?_
 have HK:=hid hK;clear hK;go_wp2_with fail;refine(ee hE y.aN W HH.out.st HH.out.hw hf Taa).mono ?_;rintro e w2 ⟨rfl,h2,d2⟩;have H2:=hid (HH.out.next hg0 hg1 h2 d2);clear h2 d2 HH p0 q1;exact Zbt):p:=h
theorem T8{b:Nat}    (hE:di w0)(hf:y.aN.size<=1048576)(hn:n+1<=49999990)(hT:QT T g0 g1)(hg0:g0≠b)(hg1:g1≠b)(h:QW w0 b s n ws W g0 g1 y)
  (hO:∀T' W',QT T' g0 g1->QW w0 b (aq s (cS y.aN)) (n+1) ws W' g0 g1 y->(iz tz 6).wp Tryz.prog Q { tmps:=T',defers:=[] } W'):
  (iz tz 5).wp Tryz.prog Q { tmps:=T,defers:=[] } W:=by
 open zaR in exact Zah
variable{k:Nat}
theorem Ty(word:aT)(l:List Tr) (hk:k=l.length):aq (bc (decide (k<=1))) (if k=0 then some [] else aq (some (32::(word++ [32]))) ((l[0]?.map Tr.whole).getD none))=eQ word l:=by
 subst hk;unfold eQ
 match l with
 | []=>rfl
 | t::r=>rfl
def qO (l:List Tr):Nat:=(l.head?.map Tr.cost).getD 0
theorem pO (l:List Tr):qO l<=13*Tr.aM l:=by
 cases l with
 | nil=>simp[qO]
 | cons t r=>have:=uD t;unfold qO Tr.aM;simp;omega
theorem oH{b:Nat}  (hE:di w0)(hS:∀b,S b->b < w0.heap.size)(word:ByteArray)(y:Sl)(l:List Tr)(hl:eJ.sl w0 S y l)(hf:∀x∈l,x.fine/\x.thin)(hN:Tr.aM l<=1000000)(ZL:word.size<=1000)(w:World)(h:eu w0.heap.size b s n w)(hw:Below w0.heap.size w0 w)(hn:n+3+qO l<=50000000):
  Calls Tryz.prog 47 #[.pointer (some ⟨b,0,none⟩),.string word,.slice y.A y.n y.c] w (aW w0.heap.size b (aq s (eQ word.data.toList l)) (n+3+qO l) w):=by
 obtain⟨qN,ys,hR,hA⟩:=hl;have hlen:List.length (α:=Ex) ys=l.length:=hA.len;have Tx:l.length<=1000000:=Nat.le_trans (eL l) hN;rw[<- Ty _ l qN];refine Pw word y.A y.n y.c ys _ S hS (by rw[hlen,qN]) hR ZL Taa (λ z hz=>?_) w h hw hn;obtain⟨t,ht⟩:∃t,l[0]?=some t:=⟨_,getElem?_eq_getElem (by rw[<- hlen];exact(List.getElem?_eq_some_iff.1 hz).1)⟩;have hr:=oG hA ht hz;have hm:=mem_of_getElem? ht;have:=lr hm;have e1:(l[0]?.map Tr.whole).getD none=t.whole:=by rw[ht];rfl
 have e2:qO l=t.cost:=by
  cases l with
  | nil=>cases ht
  | cons a r=>injection ht with ht;subst ht;rfl
 rw[e1,e2];exact Tr.uE hE hS t z hr (hf t hm).1 (hf t hm).2 Taa
variable{l:List Tr}
theorem zaS.Kae(h:p:=by
 clear q0 q1 q2 q4 q5 q6 q7;refine wp_seq_k λ K hK=>?_
 have HK:=hid hK;clear hK;go_wp2_with fail;refine(oH hE hS ⟨#[87,72,69,82,69]⟩ y.aP l hl hf hN Tac W HH.out.st HH.out.hw Taa).mono ?_;rintro e w2 ⟨rfl,h2,d2⟩;rw[Nat.add_assoc] at h2;have H2:=hid (HH.out.next hg0 hg1 h2 d2);clear h2 d2 HH p0 q3;exact Zbt):p:=h
theorem XC{b:Nat}     (hS:∀b,S b->b < w0.heap.size)(hE:di w0) (hl:eJ.sl w0 S y.aP l)(hf:∀x∈l,x.fine/\x.thin)(hN:Tr.aM l<=1000000)(hn:n+(3+qO l)<=49999990)(hT:QT T g0 g1)(hg0:g0≠b)(hg1:g1≠b)(h:QW w0 b s n ws W g0 g1 y)
  (hO:∀T' W',QT T' g0 g1->QW w0 b (aq s (eQ [87,72,69,82,69] l)) (n+(3+qO l)) ws W' g0 g1 y->(iz tz 7).wp Tryz.prog Q { tmps:=T',defers:=[] } W'):
  (iz tz 6).wp Tryz.prog Q { tmps:=T,defers:=[] } W:=by
 open zaS in exact Zah
theorem zgv.KbZ(h:p:=by
 have hN:=HN.out;have hcg:(l.map Tr.cost).getD i 0=x.cost:=by simp[List.getD,hx]
 rw[hcg] at hc ⊢;rw[Nat.add_zero];exact Tr.uE hE hS x z hr yH.1 yH.2 Taa Wr s' n' hW (H2.out.hw.trans dW.below) (by simpa using hc)):p:=h
theorem zcc.Kas(h:p:=by
 have en:∀args w,(callFunc 23 args).run Tryz.prog w=.ok (.enter 23 args) w:=enters_of Tryz.func23 Tab rfl;have EN:=hid en;clear en e0 Fm;have hc:=nG l;have gw:(l.map Tr.cost).length=k:=by rw[length_map,HL.out]
 rw[gw] at hc;have HC:=hid hc;have AU:=hid gw;clear hc gw;go_wp2_with fail;refine(cn ⟨#[32,71,82,79,85,80,32,66,89,32]⟩ W HH.out.st Tac Taa).mono ?_;rintro e w2 ⟨rfl,h2,d2⟩;have H2:=hid (HH.out.next hg0 hg1 h2 d2);clear h2 d2 HH p0 q4 t1 t2;obtain⟨p0,q0,q1,q2,q3,q4,q5,q6,q7⟩:=H2.out.cells;rw[show y.group.n=k from MZ.out] at q4;clear q0 q1 q2 q3 q5 q6 q7;go_wp2_with fail;refine(vt (λ i=>(l.map Tr.cost).getD i 0+0) (fD (l.map Tr.cost)) 23 #[.pointer (some ⟨b,0,none⟩)] #[] EN.out _ _ k ys (l.map Tr.whole) S hS (by rw[hlen,HL.out]) Tas HR.out w2 H2.out.st H2.out.hw (jg _) (λ i hi=>tA _ 0 Tac i Tap) (λ i hi=>by have:=pN (l.map Tr.cost) i Tap;rw[AU.out] at this;exact this) Ta2 Tx ?_).mono ?_
 ·open zgv in exact Zej
 rintro e w3 ⟨rfl,h3,d3⟩;rw[HC.out] at h3;have H3:=hid (((H2.out.next hg0 hg1 h3 d3).more (show n+1+Tr.costs l<=n+(Tr.costs l+1) by omega)).same (aB _ _ _));clear h3 d3 H2 p0 q4;exact ZgA):p:=h
theorem zhb.Kcj(h:p:=by
 have e0:jm [32,71,82,79,85,80,32,66,89,32] (l.map Tr.whole)=aq (some [32,71,82,79,85,80,32,66,89,32]) (dt (l.map Tr.whole)):=by unfold jm;rw[if_neg Tbc]
 rw[e0] at HO;open zcc in exact ZaH):p:=h
theorem zaT.Kae(h:p:=by
 clear q0 q1 q2 q3 q5 q6 q7;refine wp_seq_k λ K hK=>?_
 have HK:=hid hK;clear hK;obtain⟨qN,ys,hR,hA⟩:=hl;obtain⟨k,hk⟩:∃k,k=y.group.n:=⟨_,rfl⟩;rw[<- hk] at q4 qN;have MZ:=hid hk.symm;have hlen:List.length (α:=Ex) ys=l.length:=hA.len;have Tx:k<=1000000:=by have:=eL l;omega
 have HL:=hid qN;have HR:=hid hR;have HA:=hid hA;have HF:=hid hf;have HN:=hid hN;clear qN hR hA hf hN hk;by_cases Fm:k=0
 ·subst Fm;have e0:jm [32,71,82,79,85,80,32,66,89,32] (l.map Tr.whole)=some []:=by unfold jm;rw[if_pos Tbe]
  rw[e0,cX] at HO;clear hlen e0;exact Zdo
 ·open zhb in exact ZfJ):p:=h
theorem XD{b:Nat}     (hS:∀b,S b->b < w0.heap.size)(hE:di w0) (hl:eJ.sl w0 S y.group l)(hf:∀x∈l,x.fine/\x.thin)(hN:Tr.aM l<=1000000)(hn:n+(Tr.costs l+1)<=49999990)(hT:QT T g0 g1)(hg0:g0≠b)(hg1:g1≠b)(h:QW w0 b s n ws W g0 g1 y)
  (hO:∀T' W',QT T' g0 g1->QW w0 b (aq s (jm [32,71,82,79,85,80,32,66,89,32] (l.map Tr.whole))) (n+(Tr.costs l+1)) ws W' g0 g1 y->(iz tz 8).wp Tryz.prog Q { tmps:=T',defers:=[] } W'):
  (iz tz 7).wp Tryz.prog Q { tmps:=T,defers:=[] } W:=by
 open zaT in exact Zah
theorem zaU.Kae(h:p:=by
 clear q0 q1 q2 q3 q4 q6 q7;refine wp_seq_k λ K hK=>?_
 have HK:=hid hK;clear hK;go_wp2_with fail;refine(oH hE hS ⟨#[72,65,86,73,78,71]⟩ y.having l hl hf hN Tac W HH.out.st HH.out.hw Taa).mono ?_;rintro e w2 ⟨rfl,h2,d2⟩;rw[Nat.add_assoc] at h2;have H2:=hid (HH.out.next hg0 hg1 h2 d2);clear h2 d2 HH p0 q5;exact Zbt):p:=h
theorem Tz{b:Nat}     (hS:∀b,S b->b < w0.heap.size)(hE:di w0) (hl:eJ.sl w0 S y.having l)(hf:∀x∈l,x.fine/\x.thin)(hN:Tr.aM l<=1000000)(hn:n+(3+qO l)<=49999990)(hT:QT T g0 g1)(hg0:g0≠b)(hg1:g1≠b)(h:QW w0 b s n ws W g0 g1 y)
  (hO:∀T' W',QT T' g0 g1->QW w0 b (aq s (eQ [72,65,86,73,78,71] l)) (n+(3+qO l)) ws W' g0 g1 y->(iz tz 9).wp Tryz.prog Q { tmps:=T',defers:=[] } W'):
  (iz tz 8).wp Tryz.prog Q { tmps:=T,defers:=[] } W:=by
 open zaU in exact Zah
theorem zcd.Kas(h:p:=by
 have en:∀args w,(callFunc 87 args).run Tryz.prog w=.ok (.enter 87 args) w:=enters_of Tryz.func87 Tab rfl;have EN:=hid en;clear en e0 Fm;have hc:=AP (·.1) l;have gw:(l.map λ x=>x.1.cost).length=k:=by rw[length_map,HL.out]
 rw[gw] at hc;have HC:=hid hc;have AU:=hid gw;clear hc gw;go_wp2_with fail;refine(cn ⟨#[32,79,82,68,69,82,32,66,89,32]⟩ W HH.out.st Tac Taa).mono ?_;rintro e w2 ⟨rfl,h2,d2⟩;have H2:=hid (HH.out.next hg0 hg1 h2 d2);clear h2 d2 HH p0 q6 t1 t2;obtain⟨p0,q0,q1,q2,q3,q4,q5,q6,q7⟩:=H2.out.cells;rw[show y.order.n=k from MZ.out] at q6;clear q0 q1 q2 q3 q4 q5 q7;go_wp2_with fail;refine(Ig (λ i=>(l.map λ x=>x.1.cost).getD i 0+1) (fD (l.map λ x=>x.1.cost)) 87 #[] #[.pointer (some ⟨g0,0,none⟩)] EN.out _ _ k ys (l.map kr) S hS (by rw[hlen,HL.out]) Tas HR.out w2 H2.out.st H2.out.hw (jg _) (λ i hi=>tA _ 1 Tac i Tap) (λ i hi=>by have:=pN (l.map λ x=>x.1.cost) i Tap;rw[AU.out] at this;exact this) Ta2 Tx ?_).mono ?_
 ·intro i z oo hz ho Wr s' n' dW hW hc;obtain⟨x,hx,rfl⟩:∃x,l[i]?=some x/\kr x=oo:=by simpa [getElem?_map] using ho
  have hr:=oG HA.out hx hz;have yH:=HF.out x (mem_of_getElem? hx);have yh:=lr (List.mem_map.2 ⟨x,mem_of_getElem? hx,rfl⟩:x.1∈l.map (·.1));have hN:=HN.out;rw[AQ (·.1) hx] at hc ⊢;have xk:kr x=aq x.1.whole (MX z.2):=by unfold kr MX;rw[hr.2]
  rw[xk,<- Nat.add_assoc];exact KT z (Tr.uE hE hS x.1 z.1 hr.1 yH.1 yH.2 Taa) Wr hW (H2.out.hw.trans dW.below) (dW.blk H2.out.p hg0 Tac) hg0 Taa
 rintro e w3 ⟨rfl,h3,d3⟩;rw[HC.out] at h3;have H3:=hid (((H2.out.next hg0 hg1 h3 d3).more (show n+1+Tr.costs (l.map (·.1))<=n+(Tr.costs (l.map (·.1))+1) by omega)).same (aB _ _ _));clear h3 d3 H2 p0 q6;exact ZgA):p:=h
theorem zhc.Kcj(h:p:=by
 have e0:jm [32,79,82,68,69,82,32,66,89,32] (l.map kr)=aq (some [32,79,82,68,69,82,32,66,89,32]) (dt (l.map kr)):=by unfold jm;rw[if_neg Tbc]
 rw[e0] at HO;open zcd in exact ZaH):p:=h
theorem zaV.Kae(h:p:=by
 clear q0 q1 q2 q3 q4 q5 q7;refine wp_seq_k λ K hK=>?_
 have HK:=hid hK;clear hK;obtain⟨qN,ys,hR,hA⟩:=hl;obtain⟨k,hk⟩:∃k,k=y.order.n:=⟨_,rfl⟩;rw[<- hk] at q6 qN;have MZ:=hid hk.symm;have hlen:List.length (α:=Ex×Bool) ys=l.length:=hA.len;have Tx:k<=1000000:=by have:=eL (l.map (·.1));rw[length_map] at this;omega
 have HL:=hid qN;have HR:=hid hR;have HA:=hid hA;have HF:=hid hf;have HN:=hid hN;clear qN hR hA hf hN hk;by_cases Fm:k=0
 ·subst Fm;have e0:jm [32,79,82,68,69,82,32,66,89,32] (l.map kr)=some []:=by unfold jm;rw[if_pos Tbe]
  rw[e0,cX] at HO;clear hlen e0;exact Zdo
 ·open zhc in exact ZfJ):p:=h
theorem XF{b:Nat}     (hS:∀b,S b->b < w0.heap.size)(hE:di w0) {l:List (Tr×Bool)}(hl:mI.sl w0 S y.order l)(hf:∀x∈l,x.1.fine/\x.1.thin)(hN:Tr.aM (l.map (·.1))<=1000000)(hn:n+(Tr.costs (l.map (·.1))+1)<=49999990)(hT:QT T g0 g1)(hg0:g0≠b)(hg1:g1≠b)(h:QW w0 b s n ws W g0 g1 y)
  (hO:∀T' W',QT T' g0 g1->QW w0 b (aq s (jm [32,79,82,68,69,82,32,66,89,32] (l.map kr))) (n+(Tr.costs (l.map (·.1))+1)) ws W' g0 g1 y->(iz tz 10).wp Tryz.prog Q { tmps:=T',defers:=[] } W'):
  (iz tz 9).wp Tryz.prog Q { tmps:=T,defers:=[] } W:=by
 open zaV in exact Zah
theorem zaW.Kae(h:p:=by
 clear q0 q1 q2 q3 q4 q5 q6;refine wp_seq_k λ K hK=>?_
 have HK:=hid hK;clear hK;have hd:decide ((y.aQ.n:Int)<=1)=decide (y.aQ.n<=1):=by rw[decide_eq_decide];omega
 go_wp2_with fail;refine(aX _ W HH.out.st).mono ?_;rintro e w2 ⟨rfl,h2,d2⟩;try rw[hd] at h2
 have H2:=hid (HH.out.next hg0 hg1 h2 d2);clear h2 d2 HH p0 q7 hd;exact Zbt):p:=h
theorem T9{b:Nat}    (hn:n+0<=49999990)(hT:QT T g0 g1)(hg0:g0≠b)(hg1:g1≠b)(h:QW w0 b s n ws W g0 g1 y)
  (hO:∀T' W',QT T' g0 g1->QW w0 b (aq s (bc (decide (y.aQ.n<=1)))) (n+0) ws W' g0 g1 y->(iz tz 11).wp Tryz.prog Q { tmps:=T',defers:=[] } W'):
  (iz tz 10).wp Tryz.prog Q { tmps:=T,defers:=[] } W:=by
 open zaW in exact Zah
def aee (l:List Int):Option aT:=match l with | []=>some [] | n::_=>aq (some [32,76,73,77,73,84,32]) (vq n)
theorem zgq.KbX(h:p:=by refine wpQuiet_nil ?_;rintro V4 ⟨x9,Tp⟩;have Hw:=x9.h;rw[<- Tp] at Hw;have H3:=hid (H2.out.next hg0 hg1 (H2.out.st.later Hw) (ck.aA Hw H2.out.st.size));clear Tp x9 p0' q7' c' Hw H2;go_wp2_with fail;refine(fN hE z yH.1 yH.2 V4 H3.out.st H3.out.hw Taa).mono ?_;rintro e w4 ⟨rfl,h4,d4⟩;have H4:=hid (((H3.out.next hg0 hg1 h4 d4).more (show n+1+1<=n+2 by omega)).same (aB _ _ _));clear h4 d4 H3;go_wp2_with fail;exact HO.out _ _ H4.out):p:=h
theorem zaX.Kae(h:p:=by
 clear q0 q1 q2 q3 q4 q5 q6;obtain⟨qN,ys,hR,hA⟩:=hl;obtain⟨k,hk⟩:∃k,k=y.aQ.n:=⟨_,rfl⟩;rw[<- hk] at q7 qN;have ZN:=hid qN;have HKN:=hid Tx;clear qN Tx
 match l,ZN,hA,hf,HO,HKN with
 | [],ZN,hA,hf,HO,_=>have Fm:k=0:=ZN.out;subst Fm;clear hk hR hA hf;have HO:=hid (show∀T' W',QW w0 b s (n+2) ws W' g0 g1 y->Q .normal { tmps:=T',defers:=[] } W' from λ T' W' h=>HO.out T' W' (h.same (cX s).symm));go_wp2_with fail;exact HO.out _ _ (HH.out.more Taa)
 | x::r,ZN,hA,hf,HO,HKN=>
   have HO:=hid (show∀T' W',QW w0 b (aq s (aq (some [32,76,73,77,73,84,32]) (vq x))) (n+2) ws W' g0 g1 y->Q .normal { tmps:=T',defers:=[] } W' from HO.out);have yu:0 < k:=by rw[ZN.out];simp
   have hk2:k<=1000000000:=by rw[ZN.out];exact HKN.out
   have MZ:=hid hk.symm;have yH:=hf x Tae
   obtain⟨z,zs,rfl,hz⟩:∃z zs,ys=z::zs/\z=x:=by
    cases hA with
    | cons a _=>exact⟨_,_,rfl,a⟩
   subst hz;rcases hR with h0 |⟨b2,off,mr,lH,hcell⟩
   ·cases h0
   have hc0:=hcell 0 z 0 _ rfl rfl;have px:=hid (hS b2 lH);have HC0:=hid hc0;have HAE:=hid mr;have t1:decide ((0:Int)<(k:Int))=true:=decide_eq_true Taa;have t2:decide (0 < k)=true:=decide_eq_true yu;clear hcell hc0 hA hf mr hk lH;go_wp2_with fail;refine(cn ⟨#[32,76,73,77,73,84,32]⟩ W HH.out.st Tac Taa).mono ?_;rintro e w2 ⟨rfl,h2,d2⟩;have H2:=hid (HH.out.next hg0 hg1 h2 d2);clear h2 d2 HH p0 q7 t1 t2;obtain⟨p0,q0,q1,q2,q3,q4,q5,q6,q7⟩:=H2.out.cells;clear q0 q1 q2 q3 q4 q5 q6;rw[MZ.out,HAE.out] at q7;have gw:w2.cell? ⟨b2,off,none⟩=some (.int .i64 z):=(H2.out.hw.cell (p:=⟨b2,off,none⟩) px.out).trans HC0.out;go_wp2_with fail;refine gU 5 w2.heap.size w2 (Below.refl _ _) Tab Tab Tab Tab ?_;have p0':=λ q:Ext w2.heap.size w2=>(q.h.cell (p:=⟨g0,0,none⟩) (bY p0)).trans p0
   have q7':=λ q:Ext w2.heap.size w2=>(q.h.cell (p:=⟨g1,7,none⟩) (bY q7)).trans q7
   have c':=λ q:Ext w2.heap.size w2=>(q.h.cell (p:=⟨b2,off,none⟩) (bY gw)).trans gw
   clear p0 q7 gw;open zgq in exact Zeg):p:=h
theorem XG{b:Nat}     (hS:∀b,S b->b < w0.heap.size)(hE:di w0) {l:List Int}(hl:Mo.sl w0 S y.aQ l)(hf:∀x∈l, -9223372036854775808<=x/\x<=9223372036854775807)(Tx:l.length<=1000000000)(hn:n+2<=49999990)(hT:QT T g0 g1)(hg0:g0≠b)(hg1:g1≠b)(h:QW w0 b s n ws W g0 g1 y)
  (hO:∀T' W',QW w0 b (aq s (aee l)) (n+2) ws W' g0 g1 y->Q .normal { tmps:=T',defers:=[] } W'):
  (iz tz 11).wp Tryz.prog Q { tmps:=T,defers:=[] } W:=by
 open zaX in exact Zah
def Qu.cost (q:Qu):Nat:=13*Tr.aM q.exprs+20
theorem XH (q:Qu):jG q=aq (some [83,69,76,69,67,84,32]) (aq (xn q) (aq (some [32,70,82,79,77,32]) (aq (some (if q.only then [79,78,76,89,32] else [])) (aq (cS q.aN) (aq (eQ [87,72,69,82,69] q.aP) (aq (jm [32,71,82,79,85,80,32,66,89,32] (q.group.map Tr.whole)) (aq (eQ [72,65,86,73,78,71] q.having) (aq (jm [32,79,82,68,69,82,32,66,89,32] (q.order.map kr)) (aq (bc (decide (q.aQ.length<=1))) (aee q.aQ)))))))))):=rfl
theorem vU (q:Qu):Tr.aM q.exprs=Tr.aM (q.items.map (·.1))+Tr.aM q.aP+Tr.aM q.group+Tr.aM q.having+Tr.aM (q.order.map (·.1)):=by unfold Qu.exprs;simp only[iw]
variable{m:Nat}
theorem qD{b:Nat} (hE:di w0) (hS:∀b,S b->b < w0.heap.size) {q:Qu} (h:q.at_ w0 S y)(hf:q.my m)(hm:m<=1048576)(w:World)(hst:eu w0.heap.size b s n w)(hw:Below w0.heap.size w0 w)(hn:n+q.cost<=49999000):
  Calls Tryz.prog 40 #[.pointer (some ⟨b,0,none⟩),GJ y] w (aW w0.heap.size b (aq s (jG q)) (n+q.cost) w):=by
 have hN:=hf.nodes;have yh:=vU q;have c0:=iV (q.items.map (·.1));have c1:=pO q.aP;have c2:=iV q.group;have c3:=pO q.having;have c4:=iV (q.order.map (·.1));unfold Qu.cost at hn ⊢;rw[yh] at hn ⊢ hN;have hlt:=hst.lt;have hsz:=hst.size;have hW0:QW w0 b s n w ((w.alloc (.cells #[.pointer (some ⟨b,0,none⟩)] 87)).alloc (.cells (jE y).toArray 28)) w.heap.size (w.heap.size+1) y:=by have b1:=aa w (.cells #[.pointer (some ⟨b,0,none⟩)] 87);have b2:=aa (w.alloc (.cells #[.pointer (some ⟨b,0,none⟩)] 87)) (.cells (jE y).toArray 28);have b3:=af.then b1 b2;have hy:=av.new (w.alloc (.cells #[.pointer (some ⟨b,0,none⟩)] 87)) 28 (jE y).toArray;rw[World.size_alloc] at hy;exact⟨(av.new w _ _).alloc _,hy,hst.later b3,ck.aA b3 hsz,hw.trans (b3.mono hw.size)⟩
 have hg0:w.heap.size≠b:=by omega
 have hg1:w.heap.size+1≠b:=by omega
 obtain⟨Q,hQ⟩:∃Q,Q=bodyPost Tryz.prog Tryz.f40 (aW w0.heap.size b (aq s (jG q)) (n+(13*(Tr.aM (q.items.map (·.1))+Tr.aM q.aP+Tr.aM q.group+Tr.aM q.having+Tr.aM (q.order.map (·.1)))+20)) w):=⟨_,rfl⟩;have fin:∀T' W',QW w0 b (aq s (jG q)) (n+(13*(Tr.aM (q.items.map (·.1))+Tr.aM q.aP+Tr.aM q.group+Tr.aM q.having+Tr.aM (q.order.map (·.1)))+20)) w W' w.heap.size (w.heap.size+1) y->Q .normal { tmps:=T',defers:=[] } W':=λ T' W' h=>by rw[hQ];exact bodyPost_end (results_none rfl _ _ _) rfl ⟨rfl,h.st,h.did⟩
 have lh:=h.aQ.1
 have all:∀T W,QT T w.heap.size (w.heap.size+1)->QW w0 b s n w W w.heap.size (w.heap.size+1) y->(iz tz 1).wp Tryz.prog Q { tmps:=T,defers:=[] } W:=by
  intro T W hT hW;refine Tw Taa hT hg0 hg1 hW λ T W hT hW=>?_
  refine XB hS hE h.items hf.items Taa Taa hT hg0 hg1 hW λ T W hT hW=>?_
  refine T6 Taa hT hg0 hg1 hW λ T W hT hW=>?_
  refine T7 Taa hT hg0 hg1 hW λ T W hT hW=>?_
  refine T8 hE (by rw[h.aN];exact hf.aN) Taa hT hg0 hg1 hW λ T W hT hW=>?_
  refine XC hS hE h.aP hf.aP Taa Taa hT hg0 hg1 hW λ T W hT hW=>?_
  refine XD hS hE h.group hf.group Taa Taa hT hg0 hg1 hW λ T W hT hW=>?_
  refine Tz hS hE h.having hf.having Taa Taa hT hg0 hg1 hW λ T W hT hW=>?_
  refine XF hS hE h.order hf.order Taa Taa hT hg0 hg1 hW λ T W hT hW=>?_
  refine T9 Taa hT hg0 hg1 hW λ T W hT hW=>?_
  refine XG hS hE h.aQ hf.aQ Taa Taa hT hg0 hg1 hW λ T W hW=>?_
  refine fin T W ((hW.more Taa).same ?_);rw[XH,lh,h.aN,h.only];simp only[aB]
 clear fin c0 c1 c2 c3 c4 hN yh hst lh h;subst hQ;simp only[tz,iz,Tryz.f40,Option.getD_some] at all;have ALL:=hid all;have HW0:=hid hW0;clear all hW0;obtain⟨⟨iA,ii,ic⟩,qf,qo,⟨wA,wn,wc⟩,⟨gA,gn,gc⟩,⟨hA,ZI,hc⟩,⟨oA,on,oc⟩,⟨lA,ln,lc⟩⟩:=y;unfold GJ jE eU;go_enter Tryz.func40,Tryz.ntmps40;refine wp_seq_k λ K hK=>?_
 have HK:=hid hK;clear hK;go_wp2_with fail;refine HK.out _ _ (ALL.out _ _ ⟨rfl,rfl,rfl⟩ HW0.out)
def eA (y:fX)(c q j w e r u h t:Bool):fX:=
 { aY:=if c then y.aY else .nil,time:=if c then y.time else⟨#[]⟩,every:=if e then y.every else 0,space:=if c then y.space else⟨#[]⟩,parts:=if c then y.parts else 0,query:=if q then y.query else⟨.nil,⟨#[]⟩,false,.nil,.nil,.nil,.nil,.nil⟩,what:=if w then y.what else 0,cI:=if j then y.cI else⟨#[]⟩,a:=if j then y.a else 0,b:=if j then y.b else 0,rows:=if r then y.rows else .nil,bF:=if u then y.bF else .nil,aP:=if h then y.aP else .nil,aN:=if t then y.aN else⟨0,0,⟨#[]⟩⟩,dH:=if t then y.dH else⟨0,0,⟨#[]⟩⟩,name:=⟨#[]⟩,kind:=0 }
theorem Na (f:Bool)(x:Sl)(l:Nat)(hl:x.n=l):((x.n:Int)==(((if f then x else Sl.nil).n:Nat):Int))=(f || l==0):=by
 subst hl;cases f
 ·simp only[Bool.false_eq_true,if_false,Bool.false_or];show((x.n:Int)==((0:Nat):Int))=_;rw[Bool.eq_iff_iff];simp
 ·simp
theorem TE (f:Bool)(x:ByteArray):(x.toList==(if f then x else⟨#[]⟩).toList)=(f || x.toList== []):=by
 cases f
 ·simp only[Bool.false_eq_true,if_false,Bool.false_or];rw[show(⟨#[]⟩:ByteArray).toList=[] by rw[ByteArray.toList_eq]]
 ·simp
theorem Ih (f:Bool)(x:Int):(x==(if f then x else 0))=(f || x==0):=by cases f <;> simp
theorem ZO (f:Bool)(x:Val):Fi x (if f then x else⟨0,0,⟨#[]⟩⟩)=(f || nB x):=by
 cases f
 ·simp only[Bool.false_eq_true,if_false,Bool.false_or];unfold Fi nB;rw[show((⟨0,0,⟨#[]⟩⟩:Val).s).toList=[] by rw[ByteArray.toList_eq]]
 ·simp[Fi]
variable{w:World}
theorem U2{q:Qu} (h:q.at_ w S y):pM y=WW q:=by unfold pM WW;rw[h.items.1,h.aP.1,h.group.1,h.having.1,h.order.1,h.aQ.1,h.aN,h.only]
theorem XL(f:Bool)   {q:Qu} (h:q.at_ w S y):(pM y==pM (if f then y else⟨.nil,⟨#[]⟩,false,.nil,.nil,.nil,.nil,.nil⟩))=(f || WW q):=by
 cases f
 ·simp only[Bool.false_eq_true,if_false,Bool.false_or];rw[U2 h,show pM (⟨.nil,⟨#[]⟩,false,.nil,.nil,.nil,.nil,.nil⟩:kM)=true by
   unfold pM
   rw[show((⟨.nil,⟨#[]⟩,false,.nil,.nil,.nil,.nil,.nil⟩:kM).aN).toList=[] by rw[ByteArray.toList_eq]]
   rfl]
  simp
 ·simp
theorem U3{s:St} {y:fX}(h:s.at_ w S y)(c q j wh e r u hh t:Bool):Ia y (eA y c q j wh e r u hh t)=dv s c q j wh e r u hh t:=by
 unfold Ia eA;dsimp only;rw[Na c y.aY _ h.aY.1,TE,Ih,TE,Ih,XL q h.query,Ih,TE,Ih,Ih,Na r y.rows _ h.rows.1,Na u y.bF _ h.bF.1,Na hh y.aP _ h.aP.1,ZO,ZO];unfold dv;rw[h.time,h.every,h.space,h.parts,h.what,h.cI,h.a,h.b,h.aN,h.dH];generalize (s.aY.length==0)=A1;generalize (s.time.toList== [])=A2;generalize (s.every==0)=A3;generalize (s.space.toList== [])=A4;generalize (s.parts==0)=A5;generalize WW s.query=A6;generalize (s.what==0)=A7;generalize (s.cI.toList== [])=A8;generalize (s.a==0)=A9;generalize (s.b==0)=A10;generalize (s.rows.length==0)=A11;generalize (s.bF.length==0)=A12;generalize (s.aP.length==0)=A13;generalize nB s.aN=A14;generalize nB s.dH=A15;rw[Bool.eq_iff_iff];simp only[Bool.and_eq_true,Bool.or_eq_true];constructor
 ·rintro⟨a1,a2,a3,a4,a5,a6,a7,a8,a9,a10,a11,a12,a13,S8,a15⟩;refine⟨⟨⟨⟨⟨⟨⟨⟨?_,a3⟩,a6⟩,a7⟩,?_⟩,a11⟩,a12⟩,a13⟩,?_⟩
  ·rcases a1 with h | a1
   ·exact .inl h
   rcases a2 with h | a2
   ·exact .inl h
   rcases a4 with h | a4
   ·exact .inl h
   rcases a5 with h | a5
   ·exact .inl h
   exact .inr ⟨⟨⟨a1,a2⟩,a4⟩,a5⟩
  ·rcases a8 with h | a8
   ·exact .inl h
   rcases a9 with h | a9
   ·exact .inl h
   rcases a10 with h | a10
   ·exact .inl h
   exact .inr ⟨⟨a8,a9⟩,a10⟩
  ·rcases S8 with h | S8
   ·exact .inl h
   rcases a15 with h | a15
   ·exact .inl h
   exact .inr ⟨S8,a15⟩
 ·rintro⟨⟨⟨⟨⟨⟨⟨⟨a1,a3⟩,a6⟩,a7⟩,a8⟩,a11⟩,a12⟩,a13⟩,S8⟩;exact⟨a1.imp id λ h=>h.1.1.1,a1.imp id λ h=>h.1.1.2,a3,a1.imp id λ h=>h.1.2,a1.imp id λ h=>h.2,a6,a7,a8.imp id λ h=>h.1.1,a8.imp id λ h=>h.1.2,a8.imp id λ h=>h.2,a11,a12,a13,S8.imp id λ h=>h.1,S8.imp id λ h=>h.2⟩
theorem TF{s:St} {y:fX}(h:s.at_ w S y) (hf:s.my m)(hm:m<=1048576):Ib y:=by
 have hn:=hf.nodes;have hq:=vU s.query;have he:Tr.aM s.query.exprs<=Tr.aM s.exprs:=by unfold St.exprs;rw[iw];omega
 have l1:=eL (s.query.items.map (·.1));have l2:=eL s.query.aP;have l3:=eL s.query.group;have l4:=eL s.query.having;have l5:=eL (s.query.order.map (·.1));rw[length_map] at l1 l5;refine⟨?_,?_,?_,?_,?_,?_⟩
 ·rw[h.query.items.1];omega
 ·rw[h.query.aP.1];omega
 ·rw[h.query.group.1];omega
 ·rw[h.query.having.1];omega
 ·rw[h.query.order.1];omega
 ·rw[h.query.aQ.1];omega
theorem TG{y:fX}(h:Ib y)(c q j wh e r u hh t:Bool):Ib (eA y c q j wh e r u hh t):=by
 cases q
 ·exact⟨Nat.zero_le _,Nat.zero_le _,Nat.zero_le _,Nat.zero_le _,Nat.zero_le _,Nat.zero_le _⟩
 ·exact⟨h.i,h.w,h.g,h.h,h.o,h.l⟩
theorem fF{s:St} {y:fX}(h:s.at_ w S y) (hf:s.my m)(hm:m<=1048576)(c q j wh e r u hh t:Bool)(W:World):
  Calls Tryz.prog 37 #[mC y,mC (eA y c q j wh e r u hh t)] W λ e' w'=>e'=.returned (.bool (dv s c q j wh e r u hh t))/\Below W.heap.size W w':=by rw[<- U3 h];exact Tu y _ (TF h hf hm) (TG (TF h hf hm) ..) W
variable{g:Nat}{ty:TypeId}{cs:Array Value}{fs:Array Field}{ρ:Operand->Value}{o:Oper}
theorem ji{x:Operand} (ho:o.op=.load ty x)(hx:ρ x=.pointer (some ⟨g,0,none⟩))(hg:av w g ty cs)
  (hu:Tryz.prog.underlying ty=some (.struct fs)) (hi:(Tryz.prog.info? ty).map (·.size)=some cs.size):(execOp ρ o).run Tryz.prog w=.ok (.value (.agg cs)) w:=by unfold execOp;simp only[ho,hx,Instr.loadAt,Instr.sureAddr,Sem.run_bind,Sem.run_pure,Result.andThen_ok,run_loadVar_row w g ty ty cs (0,0) (.struct fs) hg hu rfl hi]
theorem gq{t:TypeId} {parts:Array (Nat×Operand)}   (ho:o.op=.build t parts)
  (hv:Tryz.prog.built t (parts.map λ(i,x)=>(i,ρ x)).toList=some cs):(execOp ρ o).run Tryz.prog w=.ok (.value (.agg cs)) w:=by unfold execOp;simp only[ho,Sem.run_bind,run_build w t _ cs hv,Result.andThen_ok,Sem.run_pure]
theorem TH:(Tryz.prog.info? 34).map (·.size)=some 28:=by kernel_rfl
theorem kC (y:fX):(Tryz.prog.info? 34).map (·.size)=some (bI y).toArray.size:=TH
theorem KW (y:fX):Tryz.prog.built 34 [(2,.slice y.aY.A y.aY.n y.aY.c),(3,.string y.time),(4,.int .i64 y.every),(5,.string y.space),(6,.int .i64 y.parts)]=some (bI (eA y true false false false true false false false false)).toArray:=by kernel_rfl
theorem qE (y:fX):Tryz.prog.built 34 [(7,.agg #[.slice y.query.items.A y.query.items.n y.query.items.c,.string y.query.aN,.bool y.query.only,.slice y.query.aP.A y.query.aP.n y.query.aP.c,.slice y.query.group.A y.query.group.n y.query.group.c,.slice y.query.having.A y.query.having.n y.query.having.c,.slice y.query.order.A y.query.order.n y.query.order.c,.slice y.query.aQ.A y.query.aQ.n y.query.aQ.c])]=some (bI (eA y false true false false false false false false false)).toArray:=by kernel_rfl
theorem PC (y:fX):Tryz.prog.built 34 [(8,.int .u8 y.what)]=some (bI (eA y false false false true false false false false false)).toArray:=by kernel_rfl
theorem PD (y:fX):Tryz.prog.built 34 [(12,.slice y.rows.A y.rows.n y.rows.c)]=some (bI (eA y false false false false false true false false false)).toArray:=by kernel_rfl
theorem Ii (y:fX):Tryz.prog.built 34 [(13,.slice y.bF.A y.bF.n y.bF.c),(14,.slice y.aP.A y.aP.n y.aP.c)]=some (bI (eA y false false false false false false true true false)).toArray:=by kernel_rfl
theorem KX (y:fX):Tryz.prog.built 34 [(14,.slice y.aP.A y.aP.n y.aP.c)]=some (bI (eA y false false false false false false false true false)).toArray:=by kernel_rfl
theorem tB (y:fX):Tryz.prog.built 34 [(15,.agg #[.int .u8 y.aN.k,.int .i64 y.aN.n,.string y.aN.s]),(16,.agg #[.int .u8 y.dH.k,.int .i64 y.dH.n,.string y.dH.s])]=some (bI (eA y false false false false false false false false true)).toArray:=by kernel_rfl
structure SW (w0:World) (b:Nat) (s:Option aT) (n:Nat) (ws W:World) (g1:Nat) (y:fX):Prop where
 q:av W g1 34 (bI y).toArray
 st:eu w0.heap.size b s n W
 did:ck w0.heap.size b ws W
 hw:Below w0.heap.size w0 W
section
variable {w0 ws W W':World} {b n m g0 g1:Nat} {s s':Option aT} {y:fX}
theorem SW.next (h:SW w0 b s n ws W g1 y)(hg1:g1≠b)(h1:eu w0.heap.size b s' m W')(d:ck w0.heap.size b W W'):SW w0 b s' m ws W' g1 y:=⟨d.blk h.q hg1 Tac,h1,h.did.trans d,h.hw.trans d.below⟩
theorem SW.later (h:SW w0 b s n ws W g1 y)(hB:w0.heap.size<=ws.heap.size)(k:Below W.heap.size W W'):SW w0 b s n ws W' g1 y:=⟨h.q.later k,h.st.later k,h.did.later k hB,h.hw.trans (k.mono h.hw.size)⟩
structure PW (w0:World) (b:Nat) (s:Option aT) (n:Nat) (ws W:World) (g0 g1:Nat) (y:fX):Prop where
 p:av W g0 87 #[.pointer (some ⟨b,0,none⟩)]
 s_:SW w0 b s n ws W g1 y
theorem PW.st (h:PW w0 b s n ws W g0 g1 y):eu w0.heap.size b s n W:=h.s_.st
theorem PW.q (h:PW w0 b s n ws W g0 g1 y):av W g1 34 (bI y).toArray:=h.s_.q
theorem PW.did (h:PW w0 b s n ws W g0 g1 y):ck w0.heap.size b ws W:=h.s_.did
theorem PW.hw (h:PW w0 b s n ws W g0 g1 y):Below w0.heap.size w0 W:=h.s_.hw
theorem PW.next (h:PW w0 b s n ws W g0 g1 y)(hg0:g0≠b)(hg1:g1≠b)(h1:eu w0.heap.size b s' m W')(d:ck w0.heap.size b W W'):PW w0 b s' m ws W' g0 g1 y:=⟨d.blk h.p hg0 Tac,h.s_.next hg1 h1 d⟩
theorem PW.later (h:PW w0 b s n ws W g0 g1 y)(hB:w0.heap.size<=ws.heap.size)(k:Below W.heap.size W W'):PW w0 b s n ws W' g0 g1 y:=⟨h.p.later k,h.s_.later hB k⟩
end
def St.cost (s:St):Nat:=13*Tr.aM s.exprs+4*s.aY.length+3*s.rows.length+80
theorem fG (s:St):Tr.aM s.exprs=Tr.aM s.rows.flatten+Tr.aM (s.bF.map (·.2))+Tr.aM s.aP+Tr.aM s.query.exprs:=by unfold St.exprs;simp only[iw]
def AV (b g:Nat)(y:fX)(tt:Bool):Nat->World->Value->Prop
 | 0,_,v=>v=.pointer (some ⟨b,0,none⟩)
 | 1,_,v=>v=.agg (bI y).toArray
 | 2,_,v=>v=.pointer (some ⟨g,2,none⟩)
 | 3,_,v=>v=.slice y.aY.A y.aY.n y.aY.c
 | 4,_,v=>v=.pointer (some ⟨g,3,none⟩)
 | 5,_,v=>v=.string y.time
 | 6,_,v=>v=.pointer (some ⟨g,4,none⟩)
 | 7,_,v=>v=.int .i64 y.every
 | 8,_,v=>v=.pointer (some ⟨g,5,none⟩)
 | 9,_,v=>v=.string y.space
 | 10,_,v=>v=.pointer (some ⟨g,6,none⟩)
 | 11,_,v=>v=.int .i64 y.parts
 | 12,_,v=>v=.agg (bI (eA y true false false false true false false false false)).toArray
 | 13,_,v=>v=.bool tt
 | _,_,_=>False
theorem AW (b g:Nat)(y:fX)(tt:Bool):∀i w w' v,AV b g y tt i w v->af w w'->AV b g y tt i w' v:=by
 intro i w w' v h hl
 match i with
 | 0 | 1 | 2 | 3 | 4 | 5 | 6 | 7 | 8 | 9 | 10 | 11 | 12 | 13=>exact h
 | n+14=>exact h
def AY (b g:Nat)(y:fX)(tt:Bool):Nat->World->Value->Prop
 | 0,_,v=>v=.pointer (some ⟨b,0,none⟩)
 | 1,_,v=>v=.agg (bI y).toArray
 | 2,_,v=>v=.pointer (some ⟨g,7,none⟩)
 | 3,_,v=>v=.agg #[.slice y.query.items.A y.query.items.n y.query.items.c,.string y.query.aN,.bool y.query.only,.slice y.query.aP.A y.query.aP.n y.query.aP.c,.slice y.query.group.A y.query.group.n y.query.group.c,.slice y.query.having.A y.query.having.n y.query.having.c,.slice y.query.order.A y.query.order.n y.query.order.c,.slice y.query.aQ.A y.query.aQ.n y.query.aQ.c]
 | 4,_,v=>v=.agg (bI (eA y false true false false false false false false false)).toArray
 | 5,_,v=>v=.bool tt
 | _,_,_=>False
theorem AZ (b g:Nat)(y:fX)(tt:Bool):∀i w w' v,AY b g y tt i w v->af w w'->AY b g y tt i w' v:=by exact ZdO
def Fp (b g:Nat)(y:fX)(tt:Bool):Nat->World->Value->Prop
 | 0,_,v=>v=.pointer (some ⟨b,0,none⟩)
 | 1,_,v=>v=.agg (bI y).toArray
 | 2,_,v=>v=.pointer (some ⟨g,19,none⟩)
 | 3,_,v=>v=.slice y.rows.A y.rows.n y.rows.c
 | 4,_,v=>v=.agg (bI (eA y false false false false false true false false false)).toArray
 | 5,_,v=>v=.bool tt
 | _,_,_=>False
theorem Cr (b g:Nat)(y:fX)(tt:Bool):∀i w w' v,Fp b g y tt i w v->af w w'->Fp b g y tt i w' v:=by exact ZdO
def xo (b g:Nat)(y:fX)(tt:Bool):Nat->World->Value->Prop
 | 0,_,v=>v=.pointer (some ⟨b,0,none⟩)
 | 1,_,v=>v=.agg (bI y).toArray
 | 2,_,v=>v=.pointer (some ⟨g,20,none⟩)
 | 3,_,v=>v=.slice y.bF.A y.bF.n y.bF.c
 | 4,_,v=>v=.pointer (some ⟨g,21,none⟩)
 | 5,_,v=>v=.slice y.aP.A y.aP.n y.aP.c
 | 6,_,v=>v=.agg (bI (eA y false false false false false false true true false)).toArray
 | 7,_,v=>v=.bool tt
 | _,_,_=>False
theorem yI (b g:Nat)(y:fX)(tt:Bool):∀i w w' v,xo b g y tt i w v->af w w'->xo b g y tt i w' v:=by exact ZfP
def Ba (b g:Nat)(y:fX)(tt:Bool):Nat->World->Value->Prop
 | 0,_,v=>v=.pointer (some ⟨b,0,none⟩)
 | 1,_,v=>v=.agg (bI y).toArray
 | 2,_,v=>v=.pointer (some ⟨g,21,none⟩)
 | 3,_,v=>v=.slice y.aP.A y.aP.n y.aP.c
 | 4,_,v=>v=.agg (bI (eA y false false false false false false false true false)).toArray
 | 5,_,v=>v=.bool tt
 | _,_,_=>False
theorem Bb (b g:Nat)(y:fX)(tt:Bool):∀i w w' v,Ba b g y tt i w v->af w w'->Ba b g y tt i w' v:=by exact ZdO
def tC (b g:Nat)(y:fX)(tt:Bool):Nat->World->Value->Prop
 | 0,_,v=>v=.pointer (some ⟨b,0,none⟩)
 | 1,_,v=>v=.agg (bI y).toArray
 | 2,_,v=>v=.pointer (some ⟨g,22,none⟩)
 | 3,_,v=>v=.agg #[.int .u8 y.aN.k,.int .i64 y.aN.n,.string y.aN.s]
 | 4,_,v=>v=.pointer (some ⟨g,25,none⟩)
 | 5,_,v=>v=.agg #[.int .u8 y.dH.k,.int .i64 y.dH.n,.string y.dH.s]
 | 6,_,v=>v=.agg (bI (eA y false false false false false false false false true)).toArray
 | 7,_,v=>v=.bool tt
 | _,_,_=>False
theorem lK (b g:Nat)(y:fX)(tt:Bool):∀i w w' v,tC b g y tt i w v->af w w'->tC b g y tt i w' v:=by exact ZfP
end Go.Proofs.YtehhdlgjfdnafaaGreatDoor
