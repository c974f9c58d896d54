/- Parts of the proof. -/
import Derived.Test.YtehhdlgjfdnafaaGreatDoorXB22
import Derived.Test.YtehhdlgjfdnafaaGreatDoorXB23
namespace Go.Proofs.YtehhdlgjfdnafaaGreatDoor
variable{p:Prop}
set_option maxHeartbeats 90000000
set_option maxRecDepth 100000
open Go.Lib (hid)
open Go.ChangeShapes Go.WideShapes Go.ChangeAt Go.RowKit List
set_option linter.unusedVariables false
set_option linter.unusedSimpArgs false
mutual
def Tr.nodes:Tr->Nat
 | .mk _ _ _ _ args=>Tr.aQ args+1
def Tr.aQ:List Tr->Nat
 | []=>0
 | t::ts=>t.nodes+Tr.aQ ts
end
theorem eG:∀a b:List Tr,Tr.aQ (a++b)=Tr.aQ a+Tr.aQ b
 | [],b=>by simp[Tr.aQ]
 | t::a,b=>by show t.nodes+Tr.aQ (a++b)=(t.nodes+Tr.aQ a)+Tr.aQ b;rw[eG a b];omega
theorem TA (t:Tr):1<=t.nodes:=by cases t;unfold Tr.nodes;omega
theorem fg:∀l:List Tr,l.length<=Tr.aQ l
 | []=>by simp
 | t::ts=>by have:=fg ts;have:=TA t;unfold Tr.aQ;rw[length_cons];omega
theorem KO:∀l:List Tr,(∀t∈l,t.fine)->Tr.tx l
 | [],_=>by unfold Tr.tx;trivial
 | t::ts,h=>by unfold Tr.tx;exact⟨h t Tae,KO ts λ u hu=>h u (by simp[hu])⟩
theorem kI:∀l:List Tr,(∀t∈l,t.thin)->Tr.ix l
 | [],_=>by unfold Tr.ix;trivial
 | t::ts,h=>by unfold Tr.ix;exact⟨h t Tae,kI ts λ u hu=>h u (by simp[hu])⟩
structure Qu.jb (q:Qu) (n:Nat):Prop where
 aK:q.aK.size<=1048576
 items:∀x∈q.items,x.1.fine/\x.1.thin/\x.2.size<=1048576
 order:∀x∈q.order,x.1.fine/\x.1.thin
 aR:∀x∈q.aR,x.fine/\x.thin
 group:∀x∈q.group,x.fine/\x.thin
 having:∀x∈q.having,x.fine/\x.thin
 aG:∀x∈q.aG, -9223372036854775808<=x/\x<=9223372036854775807
 nodes:2*Tr.aQ q.exprs+q.aG.length+q.aK.size<=n
structure St.jb (s:St) (n:Nat):Prop where
 kind:0<=s.kind/\s.kind<=255
 what:0<=s.what/\s.what<=255
 names:s.name.size<=1048576/\s.time.size<=1048576/\s.space.size<=1048576/\s.cr.size<=1048576
 every: -9223372036854775808<=s.every/\s.every<=9223372036854775807
 parts: -9223372036854775808<=s.parts/\s.parts<=9223372036854775807
 a: -9223372036854775808<=s.a/\s.a<=9223372036854775807
 b: -9223372036854775808<=s.b/\s.b<=9223372036854775807
 aK:s.aK.Ok/\s.aK.s.size<=1048576
 cP:s.cP.Ok/\s.cP.s.size<=1048576
 aJ:∀c∈s.aJ,c.1.size<=1048576/\0<=c.2/\c.2<=255
 rows:∀r∈s.rows,(∀t∈r,t.fine/\t.thin)/\r.length<=1048576
 aS:∀x∈s.aS,x.2.fine/\x.2.thin/\x.1.size<=1048576
 aR:∀x∈s.aR,x.fine/\x.thin
 query:s.query.jb n
 nodes:2*Tr.aQ s.exprs+s.aJ.length+s.rows.length+s.query.aG.length<=n
 aoW:s.name.size+s.time.size+s.space.size+s.cr.size+s.query.aK.size+s.aK.s.size+s.cP.s.size<=n
variable{n m:Nat}
theorem Qu.jb.more{q:Qu} (h:q.jb n)(hm:n<=m):q.jb m:=⟨h.aK,h.items,h.order,h.aR,h.group,h.having,h.aG,Nat.le_trans h.nodes hm⟩
mutual
theorem Al:∀t:Tr,t.depth<=t.nodes
 | .mk _ _ _ _ args=>by have:=xL args;unfold Tr.depth Tr.nodes;omega
theorem xL:∀ts:List Tr,Tr.ly ts<=Tr.aQ ts
 | []=>by simp[Tr.ly]
 | t::ts=>by have:=Al t;have:=xL ts;unfold Tr.ly Tr.aQ;omega
end
mutual
theorem vY:∀t:Tr,t.cost+3<=13*t.nodes
 | .mk _ _ _ _ args=>by have:=ju args;unfold Tr.cost Tr.nodes;omega
theorem ju:∀ts:List Tr,Tr.costs ts<=13*Tr.aQ ts
 | []=>by simp[Tr.costs]
 | t::ts=>by have:=vY t;have:=ju ts;unfold Tr.costs Tr.aQ;omega
end
variable{t:Tr}
theorem mi:∀ {l:List Tr},t∈l->t.nodes<=Tr.aQ l
 | u::l,h=>by
   unfold Tr.aQ;rcases List.mem_cons.1 h with rfl | h
   ·omega
   ·have:=mi h;omega
variable{α β:Type}{R:α->β->Prop}
theorem pw{l:List α} {m:List β}(h:fE R l m):∀ {i:Nat} {x:α} {y:β},l[i]?=some x->m[i]?=some y->R x y:=by
 induction h with
 | nil=>intro i x y h;simp at h
 | cons a _ ih=>
   intro i x y h k
   cases i with
   | zero=>simp at h k;subst h k;exact a
   | succ i=>exact ih Tam (by simpa using k)
variable{w0:World}{S:Nat->Prop}
theorem Tr.vZ{b:Nat}(hE:dy w0) (hS:∀b,S b->b < w0.heap.size)(t:Tr)(y:Ex)(h:t.at_ w0 S y)(hf:t.fine)(ht:t.thin)(hd:t.nodes<=1000000):fZ 23 b w0 y t.whole t.cost:=
 NG (d:=t.depth) (λ W hW=>Tr.ajU hS t y h ht (Nat.le_trans (Al t) hd) W hW) (Tr.abW hE hS t y h hf)
open Go.Shelf
noncomputable def uM:Code:=Tryz.f40.body.getD .skip
structure QT (T:Array Value) (g0 g1:Nat):Prop where
 sz:T.size=83
 t2:T.getD 2 undef=.pointer (some ⟨g0,0,none⟩)
 t3:T.getD 3 undef=.pointer (some ⟨g1,0,none⟩)
structure QW (w0:World) (b:Nat) (s:Option aV) (n:Nat) (ws W:World) (g0 g1:Nat) (y:lB):Prop where
 p:av W g0 87 #[.pointer (some ⟨b,0,none⟩)]
 q:av W g1 28 (jX y).toArray
 st:eI w0.heap.size b s n W
 did:cy w0.heap.size b ws W
 hw:Below w0.heap.size w0 W
section
variable {w0 ws W W':World} {b n m g0 g1:Nat} {s s':Option aV} {y:lB}
theorem QW.next (h:QW w0 b s n ws W g0 g1 y)(hg0:g0≠b)(hg1:g1≠b)(h1:eI w0.heap.size b s' m W')(d:cy w0.heap.size b W W'):QW w0 b s' m ws W' g0 g1 y:=⟨d.blk h.p hg0 Tab,d.blk h.q hg1 Tab,h1,h.did.trans d,h.hw.trans d.below⟩
theorem QW.more (h:QW w0 b s n ws W g0 g1 y)(hm:n<=m):QW w0 b s m ws W g0 g1 y:=⟨h.p,h.q,h.st.more hm,h.did,h.hw⟩
theorem QW.same (h:QW w0 b s n ws W g0 g1 y)(e:s=s'):QW w0 b s' n ws W g0 g1 y:=e▸h
theorem QW.cells (h:QW w0 b s n ws W g0 g1 y):W.cell? ⟨g0,0,none⟩=some (.pointer (some ⟨b,0,none⟩))/\W.cell? ⟨g1,0,none⟩=some (.slice y.items.A y.items.n y.items.c)/\W.cell? ⟨g1,1,none⟩=some (.string y.aK)/\W.cell? ⟨g1,2,none⟩=some (.bool y.only)/\W.cell? ⟨g1,3,none⟩=some (.slice y.aR.A y.aR.n y.aR.c)/\W.cell? ⟨g1,4,none⟩=some (.slice y.group.A y.group.n y.group.c)/\W.cell? ⟨g1,5,none⟩=some (.slice y.having.A y.having.n y.having.c)/\W.cell? ⟨g1,6,none⟩=some (.slice y.order.A y.order.n y.order.c)/\W.cell? ⟨g1,7,none⟩=some (.slice y.aG.A y.aG.n y.aG.c):=
 ⟨h.p.cell 0,h.q.cell 0,h.q.cell 1,h.q.cell 2,h.q.cell 3,h.q.cell 4,h.q.cell 5,h.q.cell 6,h.q.cell 7⟩
end
theorem CJ(g:α->Tr)(l:List α):gb (l.map λ x=>(g x).cost) (l.map λ x=>(g x).cost).length=Tr.costs (l.map g):=by have:=oq (l.map g);rw[map_map] at this;exact this
theorem uN (l:List Nat)(d:Nat)(hd:d<=2):∀i,i < l.length->gb l i+(l.getD i 0+d+1)<=gb l (i+1):=λ i hi=>by have:=uE l i hi;omega
theorem qu (l:List Nat):∀i,i<=l.length->gb l i<=gb l l.length:=λ i hi=>ze l l.length i hi (Nat.le_refl _)
variable{i:Nat}{x:α}
theorem CK(g:α->Tr) {l:List α}  (h:l[i]?=some x):(l.map λ x=>(g x).cost).getD i 0=(g x).cost:=by simp[List.getD,h]
variable{ws W:World}{g0 g1:Nat}{s:Option aV}{y:lB}{T:Array Value}{Q:Exit->Act->World->Prop}
theorem zaT.Kaf(h:p:=by
 clear q0 q1 q2 q3 q4 q5 q6 q7;refine wp_seq_k λ K hK=>?_
 have HK:=hid hK;clear hK;go_wp2_with fail;refine(cA ⟨#[83,69,76,69,67,84,32]⟩ W HH.out.st Tab Taa).mono ?_;exact ZfJ):p:=h
theorem XS{b:Nat}    (hn:n+1<=49999990)(hT:QT T g0 g1)(hg0:g0≠b)(hg1:g1≠b)(h:QW w0 b s n ws W g0 g1 y)
  (hO:∀T' W',QT T' g0 g1->QW w0 b (aq s (some [83,69,76,69,67,84,32])) (n+1) ws W' g0 g1 y->(ja uM 2).wp Tryz.prog Q { tmps:=T',defers:=[] } W'):
  (ja uM 1).wp Tryz.prog Q { tmps:=T,defers:=[] } W:=by
 open zaT in exact Zai
def zm (q:Qu):Option aV:=if q.items.length=0 then some [42] else dC (q.items.map pd)
theorem zco.Kau(h:p:=by
 have en:∀args w,(callFunc 85 args).run Tryz.prog w=.ok (.enter 85 args) w:=enters_of Tryz.func85 Tac rfl;have EN:=hid en;clear en e0 Ic;have hc:=CJ (·.1) q.items;have fW:(q.items.map λ x=>x.1.cost).length=k:=by rw[length_map,HL.out]
 rw[fW] at hc;have HC:=hid hc;have CL:=hid fW;clear hc fW;go_wp2_with fail;refine(Oe (λ i=>(q.items.map λ x=>x.1.cost).getD i 0+2) (gb (q.items.map λ x=>x.1.cost)) 85 #[] #[.pointer (some ⟨g0,0,none⟩)] EN.out _ _ k ys (q.items.map pd) S hS (by rw[hlen,HL.out]) Tas HR.out W HH.out.st HH.out.hw (jE _) (λ i hi=>uN _ 2 (Nat.le_refl _) i Tap) (λ i hi=>by have:=qu (q.items.map λ x=>x.1.cost) i Tap;rw[CL.out] at this;exact this) Ta2 XT ?_).mono ?_
 ·intro i z oo hz ho Wr s' n' dW hW hc;obtain⟨x,hx,rfl⟩:∃x,q.items[i]?=some x/\pd x=oo:=by simpa [getElem?_map] using ho
  have hr:=pw HA.out hx hz;have AQ:=HF.out x (mem_of_getElem? hx);have zZ:=mi (List.mem_map.2 ⟨x,mem_of_getElem? hx,rfl⟩:x.1∈q.items.map (·.1));have hN:=HN.out;rw[CK (·.1) hx] at hc ⊢;have zj:pd x=aq x.1.whole (asO z.2):=by unfold pd asO;rw[hr.2]
  rw[zj,<- Nat.add_assoc];exact Tb z hE (by rw[hr.2];exact AQ.2.2) (Tr.vZ hE hS x.1 z.1 hr.1 AQ.1 AQ.2.1 Taa) Wr hW (HH.out.hw.trans dW.below) (dW.blk HH.out.p hg0 Tab) hg0 Taa
 rintro e w2 ⟨rfl,h2,d2⟩;rw[HC.out] at h2;have H2:=hid ((HH.out.next hg0 hg1 h2 d2).more (show n+Tr.costs (q.items.map (·.1))<=n+(Tr.costs (q.items.map (·.1))+1) by omega));clear h2 d2 HH p0 q0;exact ZbA):p:=h
theorem zaU.Kaf(h:p:=by
 clear q1 q2 q3 q4 q5 q6 q7;refine wp_seq_k λ K hK=>?_
 have HK:=hid hK;clear hK;obtain⟨vg,ys,hR,hA⟩:=hl;obtain⟨k,hk⟩:∃k,k=y.items.n:=⟨_,rfl⟩;rw[<- hk] at q0 vg;have hlen:List.length (α:=Ex×ByteArray) ys=q.items.length:=hA.len;have XT:k<=1000000:=by have:=fg (q.items.map (·.1));rw[length_map] at this;omega
 have HL:=hid vg;have HR:=hid hR;have HA:=hid hA;have HF:=hid hf;have HN:=hid hN;clear vg hR hA hf hN hk;by_cases Ic:k=0
 ·subst Ic;have e0:zm q=some [42]:=by unfold zm;rw[if_pos HL.out.symm]
  rw[e0] at HO;clear hlen e0;go_wp2_with fail;refine(cA ⟨#[42]⟩ W HH.out.st Tab Taa).mono ?_;rintro e w2 ⟨rfl,h2,d2⟩;have H2:=hid ((HH.out.next hg0 hg1 h2 d2).more (show n+1<=n+(Tr.costs (q.items.map (·.1))+1) by omega));clear h2 d2 HH p0 q0;exact ZbA
 ·have t1:((k:Int)==0)=false:=by simp;omega
  have t2:(k==0)=false:=by simpa using Ic
  have e0:zm q=dC (q.items.map pd):=by unfold zm;rw[if_neg Ta0]
  rw[e0] at HO;open zco in exact ZaJ):p:=h
theorem U7{b:Nat}     (hS:∀b,S b->b < w0.heap.size)(hE:dy w0) {q:Qu}(hl:iX.sl w0 S y.items q.items)(hf:∀x∈q.items,x.1.fine/\x.1.thin/\x.2.size<=1048576)(hN:Tr.aQ (q.items.map (·.1))<=1000000)(hn:n+(Tr.costs (q.items.map (·.1))+1)<=49999990)(hT:QT T g0 g1)(hg0:g0≠b)(hg1:g1≠b)(h:QW w0 b s n ws W g0 g1 y)
  (hO:∀T' W',QT T' g0 g1->QW w0 b (aq s (zm q)) (n+(Tr.costs (q.items.map (·.1))+1)) ws W' g0 g1 y->(ja uM 3).wp Tryz.prog Q { tmps:=T',defers:=[] } W'):
  (ja uM 2).wp Tryz.prog Q { tmps:=T,defers:=[] } W:=by
 open zaU in exact Zai
theorem zaV.Kaf(h:p:=by
 clear q0 q1 q2 q3 q4 q5 q6 q7;refine wp_seq_k λ K hK=>?_
 have HK:=hid hK;clear hK;go_wp2_with fail;refine(cA ⟨#[32,70,82,79,77,32]⟩ W HH.out.st Tab Taa).mono ?_;exact ZfJ):p:=h
theorem aeD{b:Nat}    (hn:n+1<=49999990)(hT:QT T g0 g1)(hg0:g0≠b)(hg1:g1≠b)(h:QW w0 b s n ws W g0 g1 y)
  (hO:∀T' W',QT T' g0 g1->QW w0 b (aq s (some [32,70,82,79,77,32])) (n+1) ws W' g0 g1 y->(ja uM 4).wp Tryz.prog Q { tmps:=T',defers:=[] } W'):
  (ja uM 3).wp Tryz.prog Q { tmps:=T,defers:=[] } W:=by
 open zaV in exact Zai
theorem zaW.Kaf(h:p:=by
 clear q0 q1 q3 q4 q5 q6 q7;refine wp_seq_k λ K hK=>?_
 have HK:=hid hK;clear hK;obtain⟨bo,hbo⟩:∃bo,bo=y.only:=⟨_,rfl⟩;rw[<- hbo] at HO q2;clear hbo;cases bo
 ·rw[if_neg Tab,dm] at HO;exact ZdC
 ·rw[if_pos rfl] at HO;go_wp2_with fail;refine(cA ⟨#[79,78,76,89,32]⟩ W HH.out.st Tab Taa).mono ?_;rintro e w2 ⟨rfl,h2,d2⟩;have H2:=hid (HH.out.next hg0 hg1 h2 d2);clear h2 d2 HH p0 q2;exact ZbA):p:=h
theorem aeE{b:Nat}    (hn:n+1<=49999990)(hT:QT T g0 g1)(hg0:g0≠b)(hg1:g1≠b)(h:QW w0 b s n ws W g0 g1 y)
  (hO:∀T' W',QT T' g0 g1->QW w0 b (aq s (some (if y.only then [79,78,76,89,32] else []))) (n+1) ws W' g0 g1 y->(ja uM 5).wp Tryz.prog Q { tmps:=T',defers:=[] } W'):
  (ja uM 4).wp Tryz.prog Q { tmps:=T,defers:=[] } W:=by
 open zaW in exact Zai
theorem zaX.Kaf(h:p:=by
 clear q0 q2 q3 q4 q5 q6 q7;refine wp_seq_k λ K hK=>?_
 have HK:=hid hK;clear hK;go_wp2_with fail;refine(ey hE y.aK W HH.out.st HH.out.hw hf Taa).mono ?_;rintro e w2 ⟨rfl,h2,d2⟩;have H2:=hid (HH.out.next hg0 hg1 h2 d2);clear h2 d2 HH p0 q1;exact ZbA):p:=h
theorem aeF{b:Nat}    (hE:dy w0)(hf:y.aK.size<=1048576)(hn:n+1<=49999990)(hT:QT T g0 g1)(hg0:g0≠b)(hg1:g1≠b)(h:QW w0 b s n ws W g0 g1 y)
  (hO:∀T' W',QT T' g0 g1->QW w0 b (aq s (dx y.aK)) (n+1) ws W' g0 g1 y->(ja uM 6).wp Tryz.prog Q { tmps:=T',defers:=[] } W'):
  (ja uM 5).wp Tryz.prog Q { tmps:=T,defers:=[] } W:=by
 open zaX in exact Zai
variable{k:Nat}
theorem XU(word:aV)(l:List Tr) (hk:k=l.length):aq (bg (decide (k<=1))) (if k=0 then some [] else aq (some (32::(word++ [32]))) ((l[0]?.map Tr.whole).getD none))=eh word l:=by
 subst hk;unfold eh
 match l with
 | []=>rfl
 | t::r=>rfl
def rV (l:List Tr):Nat:=(l.head?.map Tr.cost).getD 0
theorem qz (l:List Tr):rV l<=13*Tr.aQ l:=by
 cases l with
 | nil=>simp[rV]
 | cons t r=>have:=vY t;unfold rV Tr.aQ;simp;omega
theorem px{b:Nat}  (hE:dy w0)(hS:∀b,S b->b < w0.heap.size)(word:ByteArray)(y:Sl)(l:List Tr)(hl:eE.sl w0 S y l)(hf:∀x∈l,x.fine/\x.thin)(hN:Tr.aQ l<=1000000)(hwl:word.size<=1000)(w:World)(h:eI w0.heap.size b s n w)(hw:Below w0.heap.size w0 w)(hn:n+3+rV l<=50000000):
  Calls Tryz.prog 47 #[.pointer (some ⟨b,0,none⟩),.string word,.slice y.A y.n y.c] w (ba w0.heap.size b (aq s (eh word.data.toList l)) (n+3+rV l) w):=by
 obtain⟨vg,ys,hR,hA⟩:=hl;have hlen:List.length (α:=Ex) ys=l.length:=hA.len;have XT:l.length<=1000000:=Nat.le_trans (fg l) hN;rw[<- XU _ l vg];refine Ta word y.A y.n y.c ys _ S hS (by rw[hlen,vg]) hR hwl Taa (λ z hz=>?_) w h hw hn;obtain⟨t,ht⟩:∃t,l[0]?=some t:=⟨_,getElem?_eq_getElem (by rw[<- hlen];exact(List.getElem?_eq_some_iff.1 hz).1)⟩;have hr:=pw hA ht hz;have hm:=mem_of_getElem? ht;have:=mi hm;have e1:(l[0]?.map Tr.whole).getD none=t.whole:=by rw[ht];rfl
 have e2:rV l=t.cost:=by
  cases l with
  | nil=>cases ht
  | cons a r=>injection ht with ht;subst ht;rfl
 rw[e1,e2];exact Tr.vZ hE hS t z hr (hf t hm).1 (hf t hm).2 Taa
variable{l:List Tr}
theorem zaY.Kaf(h:p:=by
 clear q0 q1 q2 q4 q5 q6 q7;refine wp_seq_k λ K hK=>?_
 have HK:=hid hK;clear hK;go_wp2_with fail;refine(px hE hS ⟨#[87,72,69,82,69]⟩ y.aR l hl hf hN Tab W HH.out.st HH.out.hw Taa).mono ?_;rintro e w2 ⟨rfl,h2,d2⟩;rw[Nat.add_assoc] at h2;have H2:=hid (HH.out.next hg0 hg1 h2 d2);clear h2 d2 HH p0 q3;exact ZbA):p:=h
theorem U8{b:Nat}     (hS:∀b,S b->b < w0.heap.size)(hE:dy w0) (hl:eE.sl w0 S y.aR l)(hf:∀x∈l,x.fine/\x.thin)(hN:Tr.aQ l<=1000000)(hn:n+(3+rV l)<=49999990)(hT:QT T g0 g1)(hg0:g0≠b)(hg1:g1≠b)(h:QW w0 b s n ws W g0 g1 y)
  (hO:∀T' W',QT T' g0 g1->QW w0 b (aq s (eh [87,72,69,82,69] l)) (n+(3+rV l)) ws W' g0 g1 y->(ja uM 7).wp Tryz.prog Q { tmps:=T',defers:=[] } W'):
  (ja uM 6).wp Tryz.prog Q { tmps:=T,defers:=[] } W:=by
 open zaY in exact Zai
theorem zhd.Kcb(h:p:=by
 have hN:=HN.out;have hcg:(l.map Tr.cost).getD i 0=x.cost:=by simp[List.getD,hx]
 rw[hcg] at hc ⊢;rw[Nat.add_zero];exact Tr.vZ hE hS x z hr AQ.1 AQ.2 Taa Wr s' n' hW (H2.out.hw.trans dW.below) (by simpa using hc)):p:=h
theorem zcp.Kau(h:p:=by
 have en:∀args w,(callFunc 23 args).run Tryz.prog w=.ok (.enter 23 args) w:=enters_of Tryz.func23 Tac rfl;have EN:=hid en;clear en e0 Ic;have hc:=oq l;have fW:(l.map Tr.cost).length=k:=by rw[length_map,HL.out]
 rw[fW] at hc;have HC:=hid hc;have CL:=hid fW;clear hc fW;go_wp2_with fail;refine(cA ⟨#[32,71,82,79,85,80,32,66,89,32]⟩ W HH.out.st Tab Taa).mono ?_;rintro e w2 ⟨rfl,h2,d2⟩;have H2:=hid (HH.out.next hg0 hg1 h2 d2);clear h2 d2 HH p0 q4 t1 t2;obtain⟨p0,q0,q1,q2,q3,q4,q5,q6,q7⟩:=H2.out.cells;rw[show y.group.n=k from JK.out] at q4;clear q0 q1 q2 q3 q5 q6 q7;go_wp2_with fail;refine(xm (λ i=>(l.map Tr.cost).getD i 0+0) (gb (l.map Tr.cost)) 23 #[.pointer (some ⟨b,0,none⟩)] #[] EN.out _ _ k ys (l.map Tr.whole) S hS (by rw[hlen,HL.out]) Tas HR.out w2 H2.out.st H2.out.hw (jE _) (λ i hi=>uN _ 0 Tab i Tap) (λ i hi=>by have:=qu (l.map Tr.cost) i Tap;rw[CL.out] at this;exact this) Ta2 XT ?_).mono ?_
 ·open zhd in exact ZeA
 rintro e w3 ⟨rfl,h3,d3⟩;rw[HC.out] at h3;have H3:=hid (((H2.out.next hg0 hg1 h3 d3).more (show n+1+Tr.costs l<=n+(Tr.costs l+1) by omega)).same (aD _ _ _));clear h3 d3 H2 p0 q4;exact ZgS):p:=h
theorem zhQ.Kcu(h:p:=by
 have e0:iP [32,71,82,79,85,80,32,66,89,32] (l.map Tr.whole)=aq (some [32,71,82,79,85,80,32,66,89,32]) (dC (l.map Tr.whole)):=by unfold iP;rw[if_neg Tbb]
 rw[e0] at HO;open zcp in exact ZaJ):p:=h
theorem zaZ.Kaf(h:p:=by
 clear q0 q1 q2 q3 q5 q6 q7;refine wp_seq_k λ K hK=>?_
 have HK:=hid hK;clear hK;obtain⟨vg,ys,hR,hA⟩:=hl;obtain⟨k,hk⟩:∃k,k=y.group.n:=⟨_,rfl⟩;rw[<- hk] at q4 vg;have JK:=hid hk.symm;have hlen:List.length (α:=Ex) ys=l.length:=hA.len;have XT:k<=1000000:=by have:=fg l;omega
 have HL:=hid vg;have HR:=hid hR;have HA:=hid hA;have HF:=hid hf;have HN:=hid hN;clear vg hR hA hf hN hk;by_cases Ic:k=0
 ·subst Ic;have e0:iP [32,71,82,79,85,80,32,66,89,32] (l.map Tr.whole)=some []:=by unfold iP;rw[if_pos Tbd]
  rw[e0,dm] at HO;clear hlen e0;exact ZdC
 ·open zhQ in exact Zf0):p:=h
theorem U9{b:Nat}     (hS:∀b,S b->b < w0.heap.size)(hE:dy w0) (hl:eE.sl w0 S y.group l)(hf:∀x∈l,x.fine/\x.thin)(hN:Tr.aQ l<=1000000)(hn:n+(Tr.costs l+1)<=49999990)(hT:QT T g0 g1)(hg0:g0≠b)(hg1:g1≠b)(h:QW w0 b s n ws W g0 g1 y)
  (hO:∀T' W',QT T' g0 g1->QW w0 b (aq s (iP [32,71,82,79,85,80,32,66,89,32] (l.map Tr.whole))) (n+(Tr.costs l+1)) ws W' g0 g1 y->(ja uM 8).wp Tryz.prog Q { tmps:=T',defers:=[] } W'):
  (ja uM 7).wp Tryz.prog Q { tmps:=T,defers:=[] } W:=by
 open zaZ in exact Zai
theorem za0.Kaf(h:p:=by
 clear q0 q1 q2 q3 q4 q6 q7;refine wp_seq_k λ K hK=>?_
 have HK:=hid hK;clear hK;go_wp2_with fail;refine(px hE hS ⟨#[72,65,86,73,78,71]⟩ y.having l hl hf hN Tab W HH.out.st HH.out.hw Taa).mono ?_;rintro e w2 ⟨rfl,h2,d2⟩;rw[Nat.add_assoc] at h2;have H2:=hid (HH.out.next hg0 hg1 h2 d2);clear h2 d2 HH p0 q5;exact ZbA):p:=h
theorem XV{b:Nat}     (hS:∀b,S b->b < w0.heap.size)(hE:dy w0) (hl:eE.sl w0 S y.having l)(hf:∀x∈l,x.fine/\x.thin)(hN:Tr.aQ l<=1000000)(hn:n+(3+rV l)<=49999990)(hT:QT T g0 g1)(hg0:g0≠b)(hg1:g1≠b)(h:QW w0 b s n ws W g0 g1 y)
  (hO:∀T' W',QT T' g0 g1->QW w0 b (aq s (eh [72,65,86,73,78,71] l)) (n+(3+rV l)) ws W' g0 g1 y->(ja uM 9).wp Tryz.prog Q { tmps:=T',defers:=[] } W'):
  (ja uM 8).wp Tryz.prog Q { tmps:=T,defers:=[] } W:=by
 open za0 in exact Zai
theorem zcq.Kau(h:p:=by
 have en:∀args w,(callFunc 87 args).run Tryz.prog w=.ok (.enter 87 args) w:=enters_of Tryz.func87 Tac rfl;have EN:=hid en;clear en e0 Ic;have hc:=CJ (·.1) l;have fW:(l.map λ x=>x.1.cost).length=k:=by rw[length_map,HL.out]
 rw[fW] at hc;have HC:=hid hc;have CL:=hid fW;clear hc fW;go_wp2_with fail;refine(cA ⟨#[32,79,82,68,69,82,32,66,89,32]⟩ W HH.out.st Tab Taa).mono ?_;rintro e w2 ⟨rfl,h2,d2⟩;have H2:=hid (HH.out.next hg0 hg1 h2 d2);clear h2 d2 HH p0 q6 t1 t2;obtain⟨p0,q0,q1,q2,q3,q4,q5,q6,q7⟩:=H2.out.cells;rw[show y.order.n=k from JK.out] at q6;clear q0 q1 q2 q3 q4 q5 q7;go_wp2_with fail;refine(KP (λ i=>(l.map λ x=>x.1.cost).getD i 0+1) (gb (l.map λ x=>x.1.cost)) 87 #[] #[.pointer (some ⟨g0,0,none⟩)] EN.out _ _ k ys (l.map jq) S hS (by rw[hlen,HL.out]) Tas HR.out w2 H2.out.st H2.out.hw (jE _) (λ i hi=>uN _ 1 Tab i Tap) (λ i hi=>by have:=qu (l.map λ x=>x.1.cost) i Tap;rw[CL.out] at this;exact this) Ta2 XT ?_).mono ?_
 ·intro i z oo hz ho Wr s' n' dW hW hc;obtain⟨x,hx,rfl⟩:∃x,l[i]?=some x/\jq x=oo:=by simpa [getElem?_map] using ho
  have hr:=pw HA.out hx hz;have AQ:=HF.out x (mem_of_getElem? hx);have zZ:=mi (List.mem_map.2 ⟨x,mem_of_getElem? hx,rfl⟩:x.1∈l.map (·.1));have hN:=HN.out;rw[CK (·.1) hx] at hc ⊢;have zj:jq x=aq x.1.whole (Ql z.2):=by unfold jq Ql;rw[hr.2]
  rw[zj,<- Nat.add_assoc];exact NH z (Tr.vZ hE hS x.1 z.1 hr.1 AQ.1 AQ.2 Taa) Wr hW (H2.out.hw.trans dW.below) (dW.blk H2.out.p hg0 Tab) hg0 Taa
 rintro e w3 ⟨rfl,h3,d3⟩;rw[HC.out] at h3;have H3:=hid (((H2.out.next hg0 hg1 h3 d3).more (show n+1+Tr.costs (l.map (·.1))<=n+(Tr.costs (l.map (·.1))+1) by omega)).same (aD _ _ _));clear h3 d3 H2 p0 q6;exact ZgS):p:=h
theorem zhR.Kcu(h:p:=by
 have e0:iP [32,79,82,68,69,82,32,66,89,32] (l.map jq)=aq (some [32,79,82,68,69,82,32,66,89,32]) (dC (l.map jq)):=by unfold iP;rw[if_neg Tbb]
 rw[e0] at HO;open zcq in exact ZaJ):p:=h
theorem za1.Kaf(h:p:=by
 clear q0 q1 q2 q3 q4 q5 q7;refine wp_seq_k λ K hK=>?_
 have HK:=hid hK;clear hK;obtain⟨vg,ys,hR,hA⟩:=hl;obtain⟨k,hk⟩:∃k,k=y.order.n:=⟨_,rfl⟩;rw[<- hk] at q6 vg;have JK:=hid hk.symm;have hlen:List.length (α:=Ex×Bool) ys=l.length:=hA.len;have XT:k<=1000000:=by have:=fg (l.map (·.1));rw[length_map] at this;omega
 have HL:=hid vg;have HR:=hid hR;have HA:=hid hA;have HF:=hid hf;have HN:=hid hN;clear vg hR hA hf hN hk;by_cases Ic:k=0
 ·subst Ic;have e0:iP [32,79,82,68,69,82,32,66,89,32] (l.map jq)=some []:=by unfold iP;rw[if_pos Tbd]
  rw[e0,dm] at HO;clear hlen e0;exact ZdC
 ·open zhR in exact Zf0):p:=h
theorem V0{b:Nat}     (hS:∀b,S b->b < w0.heap.size)(hE:dy w0) {l:List (Tr×Bool)}(hl:kt.sl w0 S y.order l)(hf:∀x∈l,x.1.fine/\x.1.thin)(hN:Tr.aQ (l.map (·.1))<=1000000)(hn:n+(Tr.costs (l.map (·.1))+1)<=49999990)(hT:QT T g0 g1)(hg0:g0≠b)(hg1:g1≠b)(h:QW w0 b s n ws W g0 g1 y)
  (hO:∀T' W',QT T' g0 g1->QW w0 b (aq s (iP [32,79,82,68,69,82,32,66,89,32] (l.map jq))) (n+(Tr.costs (l.map (·.1))+1)) ws W' g0 g1 y->(ja uM 10).wp Tryz.prog Q { tmps:=T',defers:=[] } W'):
  (ja uM 9).wp Tryz.prog Q { tmps:=T,defers:=[] } W:=by
 open za1 in exact Zai
theorem za2.Kaf(h:p:=by
 clear q0 q1 q2 q3 q4 q5 q6;refine wp_seq_k λ K hK=>?_
 have HK:=hid hK;clear hK;have hd:decide ((y.aG.n:Int)<=1)=decide (y.aG.n<=1):=by rw[decide_eq_decide];omega
 go_wp2_with fail;refine(bh _ W HH.out.st).mono ?_;rintro e w2 ⟨rfl,h2,d2⟩;try rw[hd] at h2
 have H2:=hid (HH.out.next hg0 hg1 h2 d2);clear h2 d2 HH p0 q7 hd;exact ZbA):p:=h
theorem aeG{b:Nat}    (hn:n+0<=49999990)(hT:QT T g0 g1)(hg0:g0≠b)(hg1:g1≠b)(h:QW w0 b s n ws W g0 g1 y)
  (hO:∀T' W',QT T' g0 g1->QW w0 b (aq s (bg (decide (y.aG.n<=1)))) (n+0) ws W' g0 g1 y->(ja uM 11).wp Tryz.prog Q { tmps:=T',defers:=[] } W'):
  (ja uM 10).wp Tryz.prog Q { tmps:=T,defers:=[] } W:=by
 open za2 in exact Zai
def ajW (l:List Int):Option aV:=match l with | []=>some [] | n::_=>aq (some [32,76,73,77,73,84,32]) (tj n)
theorem zgv.KbV(h:p:=by refine wpQuiet_nil ?_;rintro V4 ⟨x9,CM⟩;have vw:=x9.h;rw[<- CM] at vw;have H3:=hid (H2.out.next hg0 hg1 (H2.out.st.later vw) (cy.aC vw H2.out.st.size));clear CM x9 p0' q7' c' vw H2;go_wp2_with fail;refine(gD hE z AQ.1 AQ.2 V4 H3.out.st H3.out.hw Taa).mono ?_;rintro e w4 ⟨rfl,h4,d4⟩;have H4:=hid (((H3.out.next hg0 hg1 h4 d4).more (show n+1+1<=n+2 by omega)).same (aD _ _ _));clear h4 d4 H3;go_wp2_with fail;exact HO.out _ _ H4.out):p:=h
theorem za3.Kaf(h:p:=by
 clear q0 q1 q2 q3 q4 q5 q6;obtain⟨vg,ys,hR,hA⟩:=hl;obtain⟨k,hk⟩:∃k,k=y.aG.n:=⟨_,rfl⟩;rw[<- hk] at q7 vg;have HNN:=hid vg;have HKN:=hid XT;clear vg XT
 match l,HNN,hA,hf,HO,HKN with
 | [],HNN,hA,hf,HO,_=>have Ic:k=0:=HNN.out;subst Ic;clear hk hR hA hf;have HO:=hid (show∀T' W',QW w0 b s (n+2) ws W' g0 g1 y->Q .normal { tmps:=T',defers:=[] } W' from λ T' W' h=>HO.out T' W' (h.same (dm s).symm));go_wp2_with fail;exact HO.out _ _ (HH.out.more Taa)
 | x::r,HNN,hA,hf,HO,HKN=>
   have HO:=hid (show∀T' W',QW w0 b (aq s (aq (some [32,76,73,77,73,84,32]) (tj x))) (n+2) ws W' g0 g1 y->Q .normal { tmps:=T',defers:=[] } W' from HO.out);have AB:0 < k:=by rw[HNN.out];simp
   have hk2:k<=1000000000:=by rw[HNN.out];exact HKN.out
   have JK:=hid hk.symm;have AQ:=hf x Tae
   obtain⟨z,zs,rfl,hz⟩:∃z zs,ys=z::zs/\z=x:=by
    cases hA with
    | cons a _=>exact⟨_,_,rfl,a⟩
   subst hz;rcases hR with h0 |⟨b2,off,kR,jP,hcell⟩
   ·cases h0
   have hc0:=hcell 0 z 0 _ rfl rfl;have qc:=hid (hS b2 jP);have HC0:=hid hc0;have HAE:=hid kR;have t1:decide ((0:Int)<(k:Int))=true:=decide_eq_true Taa;have t2:decide (0 < k)=true:=decide_eq_true AB;clear hcell hc0 hA hf kR hk jP;go_wp2_with fail;refine(cA ⟨#[32,76,73,77,73,84,32]⟩ W HH.out.st Tab Taa).mono ?_;rintro e w2 ⟨rfl,h2,d2⟩;have H2:=hid (HH.out.next hg0 hg1 h2 d2);clear h2 d2 HH p0 q7 t1 t2;obtain⟨p0,q0,q1,q2,q3,q4,q5,q6,q7⟩:=H2.out.cells;clear q0 q1 q2 q3 q4 q5 q6;rw[JK.out,HAE.out] at q7;have fW:w2.cell? ⟨b2,off,none⟩=some (.int .i64 z):=(H2.out.hw.cell (p:=⟨b2,off,none⟩) qc.out).trans HC0.out;go_wp2_with fail;refine ep 5 w2.heap.size w2 (Below.refl _ _) Tac Tac Tac Tac ?_;have p0':=λ q:Ext w2.heap.size w2=>(q.h.cell (p:=⟨g0,0,none⟩) (ax p0)).trans p0
   have q7':=λ q:Ext w2.heap.size w2=>(q.h.cell (p:=⟨g1,7,none⟩) (ax q7)).trans q7
   have c':=λ q:Ext w2.heap.size w2=>(q.h.cell (p:=⟨b2,off,none⟩) (ax fW)).trans fW
   clear p0 q7 fW;open zgv in exact Zd8):p:=h
theorem V5{b:Nat}     (hS:∀b,S b->b < w0.heap.size)(hE:dy w0) {l:List Int}(hl:Cf.sl w0 S y.aG l)(hf:∀x∈l, -9223372036854775808<=x/\x<=9223372036854775807)(XT:l.length<=1000000000)(hn:n+2<=49999990)(hT:QT T g0 g1)(hg0:g0≠b)(hg1:g1≠b)(h:QW w0 b s n ws W g0 g1 y)
  (hO:∀T' W',QW w0 b (aq s (ajW l)) (n+2) ws W' g0 g1 y->Q .normal { tmps:=T',defers:=[] } W'):
  (ja uM 11).wp Tryz.prog Q { tmps:=T,defers:=[] } W:=by
 open za3 in exact Zai
def Qu.cost (q:Qu):Nat:=13*Tr.aQ q.exprs+20
theorem V6 (q:Qu):jr q=aq (some [83,69,76,69,67,84,32]) (aq (zm q) (aq (some [32,70,82,79,77,32]) (aq (some (if q.only then [79,78,76,89,32] else [])) (aq (dx q.aK) (aq (eh [87,72,69,82,69] q.aR) (aq (iP [32,71,82,79,85,80,32,66,89,32] (q.group.map Tr.whole)) (aq (eh [72,65,86,73,78,71] q.having) (aq (iP [32,79,82,68,69,82,32,66,89,32] (q.order.map jq)) (aq (bg (decide (q.aG.length<=1))) (ajW q.aG)))))))))):=rfl
theorem xM (q:Qu):Tr.aQ q.exprs=Tr.aQ (q.items.map (·.1))+Tr.aQ q.aR+Tr.aQ q.group+Tr.aQ q.having+Tr.aQ (q.order.map (·.1)):=by unfold Qu.exprs;simp only[eG]
theorem rC{b:Nat} (hE:dy w0) (hS:∀b,S b->b < w0.heap.size) {q:Qu} (h:q.at_ w0 S y)(hf:q.jb m)(hm:m<=1048576)(w:World)(hst:eI w0.heap.size b s n w)(hw:Below w0.heap.size w0 w)(hn:n+q.cost<=49999000):
  Calls Tryz.prog 40 #[.pointer (some ⟨b,0,none⟩),Hv y] w (ba w0.heap.size b (aq s (jr q)) (n+q.cost) w):=by
 have hN:=hf.nodes;have zZ:=xM q;have c0:=ju (q.items.map (·.1));have c1:=qz q.aR;have c2:=ju q.group;have c3:=qz q.having;have c4:=ju (q.order.map (·.1));unfold Qu.cost at hn ⊢;rw[zZ] at hn ⊢ hN;have hlt:=hst.lt;have hsz:=hst.size;have hW0:QW w0 b s n w ((w.alloc (.cells #[.pointer (some ⟨b,0,none⟩)] 87)).alloc (.cells (jX y).toArray 28)) w.heap.size (w.heap.size+1) y:=by have b1:=aa w (.cells #[.pointer (some ⟨b,0,none⟩)] 87);have b2:=aa (w.alloc (.cells #[.pointer (some ⟨b,0,none⟩)] 87)) (.cells (jX y).toArray 28);have b3:=af.then b1 b2;have hy:=av.new (w.alloc (.cells #[.pointer (some ⟨b,0,none⟩)] 87)) 28 (jX y).toArray;rw[World.size_alloc] at hy;exact⟨(av.new w _ _).alloc _,hy,hst.later b3,cy.aC b3 hsz,hw.trans (b3.mono hw.size)⟩
 have hg0:w.heap.size≠b:=by omega
 have hg1:w.heap.size+1≠b:=by omega
 obtain⟨Q,hQ⟩:∃Q,Q=bodyPost Tryz.prog Tryz.f40 (ba w0.heap.size b (aq s (jr q)) (n+(13*(Tr.aQ (q.items.map (·.1))+Tr.aQ q.aR+Tr.aQ q.group+Tr.aQ q.having+Tr.aQ (q.order.map (·.1)))+20)) w):=⟨_,rfl⟩;have fin:∀T' W',QW w0 b (aq s (jr q)) (n+(13*(Tr.aQ (q.items.map (·.1))+Tr.aQ q.aR+Tr.aQ q.group+Tr.aQ q.having+Tr.aQ (q.order.map (·.1)))+20)) w W' w.heap.size (w.heap.size+1) y->Q .normal { tmps:=T',defers:=[] } W':=λ T' W' h=>by rw[hQ];exact bodyPost_end (results_none rfl _ _ _) rfl ⟨rfl,h.st,h.did⟩
 have lh:=h.aG.1
 have all:∀T W,QT T w.heap.size (w.heap.size+1)->QW w0 b s n w W w.heap.size (w.heap.size+1) y->(ja uM 1).wp Tryz.prog Q { tmps:=T,defers:=[] } W:=by
  intro T W hT hW;refine XS Taa hT hg0 hg1 hW λ T W hT hW=>?_
  refine U7 hS hE h.items hf.items Taa Taa hT hg0 hg1 hW λ T W hT hW=>?_
  refine aeD Taa hT hg0 hg1 hW λ T W hT hW=>?_
  refine aeE Taa hT hg0 hg1 hW λ T W hT hW=>?_
  refine aeF hE (by rw[h.aK];exact hf.aK) Taa hT hg0 hg1 hW λ T W hT hW=>?_
  refine U8 hS hE h.aR hf.aR Taa Taa hT hg0 hg1 hW λ T W hT hW=>?_
  refine U9 hS hE h.group hf.group Taa Taa hT hg0 hg1 hW λ T W hT hW=>?_
  refine XV hS hE h.having hf.having Taa Taa hT hg0 hg1 hW λ T W hT hW=>?_
  refine V0 hS hE h.order hf.order Taa Taa hT hg0 hg1 hW λ T W hT hW=>?_
  refine aeG Taa hT hg0 hg1 hW λ T W hT hW=>?_
  refine V5 hS hE h.aG hf.aG Taa Taa hT hg0 hg1 hW λ T W hW=>?_
  refine fin T W ((hW.more Taa).same ?_);rw[V6,lh,h.aK,h.only];simp only[aD]
 clear fin c0 c1 c2 c3 c4 hN zZ hst lh h;subst hQ;simp only[uM,ja,Tryz.f40,Option.getD_some] at all;have ALL:=hid all;have HW0:=hid hW0;clear all hW0;obtain⟨⟨iA,ii,ic⟩,qf,qo,⟨wA,wn,wc⟩,⟨gA,gn,gc⟩,⟨hA,TC,hc⟩,⟨oA,on,oc⟩,⟨lA,ln,lc⟩⟩:=y;unfold Hv jX fF;go_enter Tryz.func40,Tryz.ntmps40;refine wp_seq_k λ K hK=>?_
 have HK:=hid hK;clear hK;go_wp2_with fail;refine HK.out _ _ (ALL.out _ _ ⟨rfl,rfl,rfl⟩ HW0.out)
def eM (y:fl)(c q j w e r u h t:Bool):fl:=
 { aJ:=if c then y.aJ else .nil,time:=if c then y.time else⟨#[]⟩,every:=if e then y.every else 0,space:=if c then y.space else⟨#[]⟩,parts:=if c then y.parts else 0,query:=if q then y.query else⟨.nil,⟨#[]⟩,false,.nil,.nil,.nil,.nil,.nil⟩,what:=if w then y.what else 0,cr:=if j then y.cr else⟨#[]⟩,a:=if j then y.a else 0,b:=if j then y.b else 0,rows:=if r then y.rows else .nil,aS:=if u then y.aS else .nil,aR:=if h then y.aR else .nil,aK:=if t then y.aK else⟨0,0,⟨#[]⟩⟩,cP:=if t then y.cP else⟨0,0,⟨#[]⟩⟩,name:=⟨#[]⟩,kind:=0 }
theorem QC (f:Bool)(x:Sl)(l:Nat)(hl:x.n=l):((x.n:Int)==(((if f then x else Sl.nil).n:Nat):Int))=(f || l==0):=by
 subst hl;cases f
 ·simp only[Bool.false_eq_true,if_false,Bool.false_or];show((x.n:Int)==((0:Nat):Int))=_;rw[Bool.eq_iff_iff];simp
 ·simp
theorem XZ (f:Bool)(x:ByteArray):(x.toList==(if f then x else⟨#[]⟩).toList)=(f || x.toList== []):=by
 cases f
 ·simp only[Bool.false_eq_true,if_false,Bool.false_or];rw[show(⟨#[]⟩:ByteArray).toList=[] by rw[ByteArray.toList_eq]]
 ·simp
theorem KQ (f:Bool)(x:Int):(x==(if f then x else 0))=(f || x==0):=by cases f <;> simp
theorem acp (f:Bool)(x:Val):Hy x (if f then x else⟨0,0,⟨#[]⟩⟩)=(f || oP x):=by
 cases f
 ·simp only[Bool.false_eq_true,if_false,Bool.false_or];unfold Hy oP;rw[show((⟨0,0,⟨#[]⟩⟩:Val).s).toList=[] by rw[ByteArray.toList_eq]]
 ·simp[Hy]
variable{w:World}
theorem aeJ{q:Qu} (h:q.at_ w S y):qh y=R4 q:=by unfold qh R4;rw[h.items.1,h.aR.1,h.group.1,h.having.1,h.order.1,h.aG.1,h.aK,h.only]
theorem X5(f:Bool)   {q:Qu} (h:q.at_ w S y):(qh y==qh (if f then y else⟨.nil,⟨#[]⟩,false,.nil,.nil,.nil,.nil,.nil⟩))=(f || R4 q):=by
 cases f
 ·simp only[Bool.false_eq_true,if_false,Bool.false_or];rw[aeJ h,show qh (⟨.nil,⟨#[]⟩,false,.nil,.nil,.nil,.nil,.nil⟩:lB)=true by
   unfold qh
   rw[show((⟨.nil,⟨#[]⟩,false,.nil,.nil,.nil,.nil,.nil⟩:lB).aK).toList=[] by rw[ByteArray.toList_eq]]
   rfl]
  simp
 ·simp
theorem aeK{s:St} {y:fl}(h:s.at_ w S y)(c q j wh e r u hh t:Bool):Kt y (eM y c q j wh e r u hh t)=dJ s c q j wh e r u hh t:=by
 unfold Kt eM;dsimp only;rw[QC c y.aJ _ h.aJ.1,XZ,KQ,XZ,KQ,X5 q h.query,KQ,XZ,KQ,KQ,QC r y.rows _ h.rows.1,QC u y.aS _ h.aS.1,QC hh y.aR _ h.aR.1,acp,acp];unfold dJ;rw[h.time,h.every,h.space,h.parts,h.what,h.cr,h.a,h.b,h.aK,h.cP];generalize (s.aJ.length==0)=A1;generalize (s.time.toList== [])=A2;generalize (s.every==0)=A3;generalize (s.space.toList== [])=A4;generalize (s.parts==0)=A5;generalize R4 s.query=A6;generalize (s.what==0)=A7;generalize (s.cr.toList== [])=A8;generalize (s.a==0)=A9;generalize (s.b==0)=A10;generalize (s.rows.length==0)=A11;generalize (s.aS.length==0)=A12;generalize (s.aR.length==0)=A13;generalize oP s.aK=A14;generalize oP s.cP=A15;rw[Bool.eq_iff_iff];simp only[Bool.and_eq_true,Bool.or_eq_true];constructor
 ·rintro⟨a1,a2,a3,a4,a5,a6,a7,a8,a9,a10,a11,a12,a13,S5,a15⟩;refine⟨⟨⟨⟨⟨⟨⟨⟨?_,a3⟩,a6⟩,a7⟩,?_⟩,a11⟩,a12⟩,a13⟩,?_⟩
  ·rcases a1 with h | a1
   ·exact .inl h
   rcases a2 with h | a2
   ·exact .inl h
   rcases a4 with h | a4
   ·exact .inl h
   rcases a5 with h | a5
   ·exact .inl h
   exact .inr ⟨⟨⟨a1,a2⟩,a4⟩,a5⟩
  ·rcases a8 with h | a8
   ·exact .inl h
   rcases a9 with h | a9
   ·exact .inl h
   rcases a10 with h | a10
   ·exact .inl h
   exact .inr ⟨⟨a8,a9⟩,a10⟩
  ·rcases S5 with h | S5
   ·exact .inl h
   rcases a15 with h | a15
   ·exact .inl h
   exact .inr ⟨S5,a15⟩
 ·rintro⟨⟨⟨⟨⟨⟨⟨⟨a1,a3⟩,a6⟩,a7⟩,a8⟩,a11⟩,a12⟩,a13⟩,S5⟩;exact⟨a1.imp id λ h=>h.1.1.1,a1.imp id λ h=>h.1.1.2,a3,a1.imp id λ h=>h.1.2,a1.imp id λ h=>h.2,a6,a7,a8.imp id λ h=>h.1.1,a8.imp id λ h=>h.1.2,a8.imp id λ h=>h.2,a11,a12,a13,S5.imp id λ h=>h.1,S5.imp id λ h=>h.2⟩
theorem Ya{s:St} {y:fl}(h:s.at_ w S y) (hf:s.jb m)(hm:m<=1048576):Ku y:=by
 have hn:=hf.nodes;have hq:=xM s.query;have he:Tr.aQ s.query.exprs<=Tr.aQ s.exprs:=by unfold St.exprs;rw[eG];omega
 have l1:=fg (s.query.items.map (·.1));have l2:=fg s.query.aR;have l3:=fg s.query.group;have l4:=fg s.query.having;have l5:=fg (s.query.order.map (·.1));rw[length_map] at l1 l5;refine⟨?_,?_,?_,?_,?_,?_⟩
 ·rw[h.query.items.1];omega
 ·rw[h.query.aR.1];omega
 ·rw[h.query.group.1];omega
 ·rw[h.query.having.1];omega
 ·rw[h.query.order.1];omega
 ·rw[h.query.aG.1];omega
theorem Yb{y:fl}(h:Ku y)(c q j wh e r u hh t:Bool):Ku (eM y c q j wh e r u hh t):=by
 cases q
 ·exact⟨Nat.zero_le _,Nat.zero_le _,Nat.zero_le _,Nat.zero_le _,Nat.zero_le _,Nat.zero_le _⟩
 ·exact⟨h.i,h.w,h.g,h.h,h.o,h.l⟩
theorem gi{s:St} {y:fl}(h:s.at_ w S y) (hf:s.jb m)(hm:m<=1048576)(c q j wh e r u hh t:Bool)(W:World):
  Calls Tryz.prog 37 #[ji y,ji (eM y c q j wh e r u hh t)] W λ e' w'=>e'=.returned (.bool (dJ s c q j wh e r u hh t))/\Below W.heap.size W w':=by rw[<- aeK h];exact Xi y _ (Ya h hf hm) (Yb (Ya h hf hm) ..) W
variable{g:Nat}{ty:TypeId}{cs:Array Value}{fs:Array Field}{ρ:Operand->Value}{o:Oper}
theorem jG{x:Operand} (ho:o.op=.load ty x)(hx:ρ x=.pointer (some ⟨g,0,none⟩))(hg:av w g ty cs)
  (hu:Tryz.prog.underlying ty=some (.struct fs)) (hi:(Tryz.prog.info? ty).map (·.size)=some cs.size):(execOp ρ o).run Tryz.prog w=.ok (.value (.agg cs)) w:=by unfold execOp;simp only[ho,hx,Instr.loadAt,Instr.sureAddr,Sem.run_bind,Sem.run_pure,Result.andThen_ok,run_loadVar_row w g ty ty cs (0,0) (.struct fs) hg hu rfl hi]
theorem gT{t:TypeId} {parts:Array (Nat×Operand)}   (ho:o.op=.build t parts)
  (hv:Tryz.prog.built t (parts.map λ(i,x)=>(i,ρ x)).toList=some cs):(execOp ρ o).run Tryz.prog w=.ok (.value (.agg cs)) w:=by unfold execOp;simp only[ho,Sem.run_bind,run_build w t _ cs hv,Result.andThen_ok,Sem.run_pure]
theorem Yc:(Tryz.prog.info? 34).map (·.size)=some 28:=by exact Zhj
theorem kg (y:fl):(Tryz.prog.info? 34).map (·.size)=some (bD y).toArray.size:=Yc
theorem Oh (y:fl):Tryz.prog.built 34 [(2,.slice y.aJ.A y.aJ.n y.aJ.c),(3,.string y.time),(4,.int .i64 y.every),(5,.string y.space),(6,.int .i64 y.parts)]=some (bD (eM y true false false false true false false false false)).toArray:=by exact Zhj
theorem rD (y:fl):Tryz.prog.built 34 [(7,.agg #[.slice y.query.items.A y.query.items.n y.query.items.c,.string y.query.aK,.bool y.query.only,.slice y.query.aR.A y.query.aR.n y.query.aR.c,.slice y.query.group.A y.query.group.n y.query.group.c,.slice y.query.having.A y.query.having.n y.query.having.c,.slice y.query.order.A y.query.order.n y.query.order.c,.slice y.query.aG.A y.query.aG.n y.query.aG.c])]=some (bD (eM y false true false false false false false false false)).toArray:=by exact Zhj
theorem TG (y:fl):Tryz.prog.built 34 [(8,.int .u8 y.what)]=some (bD (eM y false false false true false false false false false)).toArray:=by exact Zhj
theorem TH (y:fl):Tryz.prog.built 34 [(12,.slice y.rows.A y.rows.n y.rows.c)]=some (bD (eM y false false false false false true false false false)).toArray:=by exact Zhj
theorem KR (y:fl):Tryz.prog.built 34 [(13,.slice y.aS.A y.aS.n y.aS.c),(14,.slice y.aR.A y.aR.n y.aR.c)]=some (bD (eM y false false false false false false true true false)).toArray:=by exact Zhj
theorem Oi (y:fl):Tryz.prog.built 34 [(14,.slice y.aR.A y.aR.n y.aR.c)]=some (bD (eM y false false false false false false false true false)).toArray:=by exact Zhj
theorem uO (y:fl):Tryz.prog.built 34 [(15,.agg #[.int .u8 y.aK.k,.int .i64 y.aK.n,.string y.aK.s]),(16,.agg #[.int .u8 y.cP.k,.int .i64 y.cP.n,.string y.cP.s])]=some (bD (eM y false false false false false false false false true)).toArray:=by exact Zhj
structure SW (w0:World) (b:Nat) (s:Option aV) (n:Nat) (ws W:World) (g1:Nat) (y:fl):Prop where
 q:av W g1 34 (bD y).toArray
 st:eI w0.heap.size b s n W
 did:cy w0.heap.size b ws W
 hw:Below w0.heap.size w0 W
section
variable {w0 ws W W':World} {b n m g0 g1:Nat} {s s':Option aV} {y:fl}
theorem SW.next (h:SW w0 b s n ws W g1 y)(hg1:g1≠b)(h1:eI w0.heap.size b s' m W')(d:cy w0.heap.size b W W'):SW w0 b s' m ws W' g1 y:=⟨d.blk h.q hg1 Tab,h1,h.did.trans d,h.hw.trans d.below⟩
theorem SW.later (h:SW w0 b s n ws W g1 y)(hB:w0.heap.size<=ws.heap.size)(k:Below W.heap.size W W'):SW w0 b s n ws W' g1 y:=⟨h.q.later k,h.st.later k,h.did.later k hB,h.hw.trans (k.mono h.hw.size)⟩
structure PW (w0:World) (b:Nat) (s:Option aV) (n:Nat) (ws W:World) (g0 g1:Nat) (y:fl):Prop where
 p:av W g0 87 #[.pointer (some ⟨b,0,none⟩)]
 s_:SW w0 b s n ws W g1 y
theorem PW.st (h:PW w0 b s n ws W g0 g1 y):eI w0.heap.size b s n W:=h.s_.st
theorem PW.q (h:PW w0 b s n ws W g0 g1 y):av W g1 34 (bD y).toArray:=h.s_.q
theorem PW.did (h:PW w0 b s n ws W g0 g1 y):cy w0.heap.size b ws W:=h.s_.did
theorem PW.hw (h:PW w0 b s n ws W g0 g1 y):Below w0.heap.size w0 W:=h.s_.hw
theorem PW.next (h:PW w0 b s n ws W g0 g1 y)(hg0:g0≠b)(hg1:g1≠b)(h1:eI w0.heap.size b s' m W')(d:cy w0.heap.size b W W'):PW w0 b s' m ws W' g0 g1 y:=⟨d.blk h.p hg0 Tab,h.s_.next hg1 h1 d⟩
theorem PW.later (h:PW w0 b s n ws W g0 g1 y)(hB:w0.heap.size<=ws.heap.size)(k:Below W.heap.size W W'):PW w0 b s n ws W' g0 g1 y:=⟨h.p.later k,h.s_.later hB k⟩
end
def St.cost (s:St):Nat:=13*Tr.aQ s.exprs+4*s.aJ.length+3*s.rows.length+80
theorem gj (s:St):Tr.aQ s.exprs=Tr.aQ s.rows.flatten+Tr.aQ (s.aS.map (·.2))+Tr.aQ s.aR+Tr.aQ s.query.exprs:=by unfold St.exprs;simp only[eG]
def CN (b g:Nat)(y:fl)(tt:Bool):Nat->World->Value->Prop
 | 0,_,v=>v=.pointer (some ⟨b,0,none⟩)
 | 1,_,v=>v=.agg (bD y).toArray
 | 2,_,v=>v=.pointer (some ⟨g,2,none⟩)
 | 3,_,v=>v=.slice y.aJ.A y.aJ.n y.aJ.c
 | 4,_,v=>v=.pointer (some ⟨g,3,none⟩)
 | 5,_,v=>v=.string y.time
 | 6,_,v=>v=.pointer (some ⟨g,4,none⟩)
 | 7,_,v=>v=.int .i64 y.every
 | 8,_,v=>v=.pointer (some ⟨g,5,none⟩)
 | 9,_,v=>v=.string y.space
 | 10,_,v=>v=.pointer (some ⟨g,6,none⟩)
 | 11,_,v=>v=.int .i64 y.parts
 | 12,_,v=>v=.agg (bD (eM y true false false false true false false false false)).toArray
 | 13,_,v=>v=.bool tt
 | _,_,_=>False
theorem CO (b g:Nat)(y:fl)(tt:Bool):∀i w w' v,CN b g y tt i w v->af w w'->CN b g y tt i w' v:=by
 intro i w w' v h hl
 match i with
 | 0 | 1 | 2 | 3 | 4 | 5 | 6 | 7 | 8 | 9 | 10 | 11 | 12 | 13=>exact h
 | n+14=>exact h
def CP (b g:Nat)(y:fl)(tt:Bool):Nat->World->Value->Prop
 | 0,_,v=>v=.pointer (some ⟨b,0,none⟩)
 | 1,_,v=>v=.agg (bD y).toArray
 | 2,_,v=>v=.pointer (some ⟨g,7,none⟩)
 | 3,_,v=>v=.agg #[.slice y.query.items.A y.query.items.n y.query.items.c,.string y.query.aK,.bool y.query.only,.slice y.query.aR.A y.query.aR.n y.query.aR.c,.slice y.query.group.A y.query.group.n y.query.group.c,.slice y.query.having.A y.query.having.n y.query.having.c,.slice y.query.order.A y.query.order.n y.query.order.c,.slice y.query.aG.A y.query.aG.n y.query.aG.c]
 | 4,_,v=>v=.agg (bD (eM y false true false false false false false false false)).toArray
 | 5,_,v=>v=.bool tt
 | _,_,_=>False
theorem CQ (b g:Nat)(y:fl)(tt:Bool):∀i w w' v,CP b g y tt i w v->af w w'->CP b g y tt i w' v:=by exact Zd3
def Ir (b g:Nat)(y:fl)(tt:Bool):Nat->World->Value->Prop
 | 0,_,v=>v=.pointer (some ⟨b,0,none⟩)
 | 1,_,v=>v=.agg (bD y).toArray
 | 2,_,v=>v=.pointer (some ⟨g,19,none⟩)
 | 3,_,v=>v=.slice y.rows.A y.rows.n y.rows.c
 | 4,_,v=>v=.agg (bD (eM y false false false false false true false false false)).toArray
 | 5,_,v=>v=.bool tt
 | _,_,_=>False
theorem EE (b g:Nat)(y:fl)(tt:Bool):∀i w w' v,Ir b g y tt i w v->af w w'->Ir b g y tt i w' v:=by exact Zd3
def zo (b g:Nat)(y:fl)(tt:Bool):Nat->World->Value->Prop
 | 0,_,v=>v=.pointer (some ⟨b,0,none⟩)
 | 1,_,v=>v=.agg (bD y).toArray
 | 2,_,v=>v=.pointer (some ⟨g,20,none⟩)
 | 3,_,v=>v=.slice y.aS.A y.aS.n y.aS.c
 | 4,_,v=>v=.pointer (some ⟨g,21,none⟩)
 | 5,_,v=>v=.slice y.aR.A y.aR.n y.aR.c
 | 6,_,v=>v=.agg (bD (eM y false false false false false false true true false)).toArray
 | 7,_,v=>v=.bool tt
 | _,_,_=>False
theorem AU (b g:Nat)(y:fl)(tt:Bool):∀i w w' v,zo b g y tt i w v->af w w'->zo b g y tt i w' v:=by exact Zf6
def CR (b g:Nat)(y:fl)(tt:Bool):Nat->World->Value->Prop
 | 0,_,v=>v=.pointer (some ⟨b,0,none⟩)
 | 1,_,v=>v=.agg (bD y).toArray
 | 2,_,v=>v=.pointer (some ⟨g,21,none⟩)
 | 3,_,v=>v=.slice y.aR.A y.aR.n y.aR.c
 | 4,_,v=>v=.agg (bD (eM y false false false false false false false true false)).toArray
 | 5,_,v=>v=.bool tt
 | _,_,_=>False
theorem CS (b g:Nat)(y:fl)(tt:Bool):∀i w w' v,CR b g y tt i w v->af w w'->CR b g y tt i w' v:=by exact Zd3
def uP (b g:Nat)(y:fl)(tt:Bool):Nat->World->Value->Prop
 | 0,_,v=>v=.pointer (some ⟨b,0,none⟩)
 | 1,_,v=>v=.agg (bD y).toArray
 | 2,_,v=>v=.pointer (some ⟨g,22,none⟩)
 | 3,_,v=>v=.agg #[.int .u8 y.aK.k,.int .i64 y.aK.n,.string y.aK.s]
 | 4,_,v=>v=.pointer (some ⟨g,25,none⟩)
 | 5,_,v=>v=.agg #[.int .u8 y.cP.k,.int .i64 y.cP.n,.string y.cP.s]
 | 6,_,v=>v=.agg (bD (eM y false false false false false false false false true)).toArray
 | 7,_,v=>v=.bool tt
 | _,_,_=>False
theorem mC (b g:Nat)(y:fl)(tt:Bool):∀i w w' v,uP b g y tt i w v->af w w'->uP b g y tt i w' v:=by exact Zf6
end Go.Proofs.YtehhdlgjfdnafaaGreatDoor
