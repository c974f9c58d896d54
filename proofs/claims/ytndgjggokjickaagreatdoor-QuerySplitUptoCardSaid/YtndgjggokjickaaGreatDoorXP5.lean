/- Parts of the proof. -/
import Derived.Deep.WholeRow
import Derived.Test.YtndgjggokjickaaGreatDoorXP4
namespace Go.Proofs.YtndgjggokjickaaGreatDoor
open _root_.Go.Proofs.Tryz
variable{p:Sort _}
set_option maxHeartbeats 90000000
set_option maxRecDepth 100000
open Go.ChangeShapes Go.WideShapes Go.ChangeAt Go.RowKit List
set_option linter.unusedVariables false
set_option linter.unusedSimpArgs false
def gM(ng:Nat)(aD:vI)(ls:z_):List (w_×List (Val×Val)):=ls.map λ l=>(l.take ng,fU aD (l.drop ng))
structure po (ng:Nat) (aD:vI) (xs:List gV) (ks ls:z_):Prop where
 keys:xs.map gV.key=di ng (ks.map λ l=>l.take ng)
 rK:∀x∈xs,x.ss=dV (aD.map Tr.op) (gM ng aD ls) x.key
variable{ng:Nat}{aD:vI}{xs:List gV}{ks ls:z_}{i:Nat}{x:gV}
theorem po.get(h:po ng aD xs ks ls)(hx:xs[i]?=some x):(di ng (ks.map λ l=>l.take ng))[i]?=some x.key:=by rw[<-h.keys,getElem?_map,hx];rfl
variable{j:Nat}{y:gV}
theorem po.less(h:po ng aD xs ks ls)(hx:xs[i]?=some x)(hy:xs[j]?=some y)(kE:i<j):bT x.key y.key<0:=by have hp:=Q5 ng (ks.map λ l=>l.take ng);have e1:=h.get hx;have e2:=h.get hy;rw[pairwise_iff_getElem]at hp;obtain⟨i1,i2⟩:=List.getElem?_eq_some_iff.1 e1;obtain⟨j1,j2⟩:=List.getElem?_eq_some_iff.1 e2;have:=hp i j i1 j1 kE;rwa [i2,j2]at this
variable{l:w_}
theorem po.there(h:po ng aD xs ls ls)(hx:xs[j]?=some x)(hk:x.key=l.take ng):po ng aD xs (ls++[l]) ls:=by
 refine⟨?_,h.rK⟩;rw[h.keys,map_append];unfold di;by_cases h0:ng=0;rw[if_pos h0,if_pos h0];rw[if_neg h0,if_neg h0];show _=fZ ((ls.map λ l=>l.take ng)++[l.take ng]);rw[DV];have Eu:=h.keys;unfold di at Eu;rw[if_neg h0]at Eu;rw[<-Eu];refine(DU (j:=j) (x:=x.key) (λ i y hi hy=>?_) (by rw[getElem?_map,hx];rfl) (by rw[hk];exact oN _)).symm;rw[getElem?_map]at hy;cases hz:xs[i]? with
 |none=>rw[hz]at hy;cases hy
 |some z=>rw[hz]at hy;injection hy with hy;rw[<-hy,<-hk];exact h.less hz hx hi
theorem po.new(h:po ng aD xs ls ls)(hj:j<=xs.length)(fW:∀i y,i<j->xs[i]?=some y->bT y.key (l.take ng)< 0)(hhi:∀y,xs[j]?=some y->0<bT y.key (l.take ng))(h0:ng≠0)(hk:x.key=l.take ng)(hs:x.ss=(aD.map Tr.op).map fC):po ng aD (xs.take j++x::xs.drop j) (ls++[l]) ls:=by
 have hne:∀y∈xs,bT y.key (l.take ng)≠0:=by
  intro y hy;obtain⟨i,hi,rfl⟩:=getElem_of_mem hy;have fq:xs[i]?=some xs[i]:=getElem?_eq_getElem hi;rcases Nat.lt_trichotomy i j with h1|h1|h1;have:=fW i _ h1 fq;omega;subst h1;have:=hhi _ fq;omega;have hj2:j<xs.length:=by omega
  have a1:=hhi _ (getElem?_eq_getElem hj2);have a2:=h.less (getElem?_eq_getElem hj2) fq h1;intro e;have e2:=eO _ _ e;rw[e2]at a2;omega
 refine⟨?_,λ y hy=>?_⟩
 ·unfold di;rw[if_neg h0,map_append (l₁:=ls)];show _=fZ ((ls.map λ l=>l.take ng)++[l.take ng]);have Eu:=h.keys;unfold di at Eu;rw[if_neg h0]at Eu;rw[DV,<-Eu,NU (j:=j) (by rw[length_map];exact hj) ?_ ?_,map_append,map_cons,map_take,map_drop,hk]
  ·intro i y hi hy;rw[getElem?_map]at hy
   cases hz:xs[i]? with
   |none=>rw[hz]at hy;cases hy
   |some z=>rw[hz]at hy;injection hy with hy;rw[<-hy];exact fW i z hi hz
  intro y hy;rw[getElem?_map]at hy;cases hz:xs[j]? with
  |none=>rw[hz]at hy;cases hy
  |some z=>rw[hz]at hy;injection hy with hy;rw[<-hy];exact hhi z hz
 rcases List.mem_append.1 hy with hy|hy;exact h.rK y (mem_of_mem_take hy);rcases List.mem_cons.1 hy with rfl|hy
 ·rw[hs];refine(DX λ q hq=>?_).symm;unfold gM at hq;obtain⟨m,hm,rfl⟩:=List.mem_map.1 hq;have:m.take ng∈xs.map gV.key:=by rw[h.keys];unfold di;rw[if_neg h0];exact((oX fS eO _).2 _).2 (mem_map_of_mem hm)
  obtain⟨y,hy,e⟩:=List.mem_map.1 this;rw[hk];show bT (m.take ng) (l.take ng)≠0;have e:y.key=m.take ng:=e;rw[<-e];exact hne y hy
 exact h.rK y (mem_of_mem_drop hy)
theorem po.feed(h:po ng aD xs (ls++[l]) ls)(hx:xs[j]?=some x)(hk:x.key=l.take ng):po ng aD (xs.set j {x with ss:=eK x.ss (fU aD (l.drop ng))}) (ls++[l]) (ls++[l]):=by
 have hj:j<xs.length:=by rcases gR j xs.length with h|h;exact h;rw[getElem?_eq_none h]at hx;cases hx
 have hf:gM ng aD (ls++[l])=gM ng aD ls++[(l.take ng,fU aD (l.drop ng))]:=by unfold gM;rw[map_append];rfl
 refine⟨?_,λ y hy=>?_⟩;rw[<-h.keys,map_set];exact DY (by rw[getElem?_map,hx];rfl);obtain⟨i,hi,he⟩:=getElem_of_mem hy;have Ib:i<xs.length:=by simpa using hi
 rw[getElem_set]at he;by_cases kE:j=i;rw[if_pos kE]at he;subst he;dsimp only;rw[hf,NV (by rw[hk];exact oN _) (by rw[Ea,length_map]),<-h.rK x (mem_of_getElem? hx)];rfl;rw[if_neg kE]at he;subst he;have hi3:xs[i]?=some xs[i]:=getElem?_eq_getElem Ib;rw[hf,Kw ?_];exact h.rK _ (getElem_mem Ib);rw[<-hk];intro e;rcases Nat.lt_or_gt_of_ne kE with h1|h1;have:=h.less hx hi3 h1;omega;have:=h.less hi3 hx h1;have:=fS.jq xs[i].key x.key;omega
variable{k:w_}
theorem sV(h:k∈di ng (ls.map λ l=>l.take ng)):k.length<=ng:=by unfold di at h;split at h;simp at h;rw[h];simp;have:=((oX fS eO _).2 _).1 h;obtain⟨l,_,rfl⟩:=List.mem_map.1 this;exact length_take_le _ _
theorem KR(op:Int):∀l:List (Val×Val),0<=cnt op l/\cnt op l<=l.length
 |[]=>by simp[cnt]
 |x::l=>by
   have h:=KR op l;have h1:0<=one op x/\one op x<=1:=by unfold one;split<;>(try split)<;>(try split)<;>omega
   simp only[cnt,length_cons];omega
variable{op:Int}
theorem U7(h0:21<=op)(h1:op<=28){l:List (Val×Val)}{s:St}(r:Qm op s l)(hl:l.length<=1000000):s.Ok:=by have:=KR op l;have:=r.count;have:=r.all;have hs:=r.sum;refine⟨by rw[r.kind];exact h0,by rw[r.kind];exact h1,by omega,by omega,by omega,by omega,?_,?_⟩;rw[hs];unfold M;omega;rw[hs];unfold M;omega
variable{ops:List Int}{ps:List (w_×List (Val×Val))}
theorem vM(jN:∀op∈ops,isAgg op=true)(hp:ps.length<=300):∀s∈dV ops ps k,(s.Ok/\s.all<4611686018427387904)/\∃v e,gZ s v e:=by intro s hs;obtain⟨op,l,ho,hl,rfl⟩:=Xp jN s hs;have pJ:=jN op ho;unfold isAgg at pJ;simp only[Bool.and_eq_true,decide_eq_true_eq]at pJ;have r:=BO pJ.1 pJ.2 l;have ok:=U7 pJ.1 pJ.2 r WC;have:=KR op l;have:=r.count;have ha:=r.all;exact⟨⟨ok,by omega⟩,aia _ ok WC⟩
def od:uC (w_)->Int
 |.error e=>e
 |.ok _=>0
variable{cols:List aZ}{ts:vI}{e:Int}
theorem Iw{row:w_}(h:bA cols row ts=.error e):e≠0:=by unfold bA at h;split at h;rename_i hne;injection h with h;rw[<-h];exact hne;cases h
theorem Ev{row:w_}(h:bA cols row ts=.ok l):l.length=ts.length:=by unfold bA at h;split at h;cases h;injection h with h;rw[<-h,length_map,Tr.pK]
def fH(cols:List aZ)(ts:vI)(rs:List aK):z_:=rs.filterMap λ r=>match bA cols r.l ts with|.ok l=>some l|.error _=>none
def ee(cols:List aZ)(ts:vI)(rs:List aK):Int:=bX (rs.map λ r=>od (bA cols r.l ts))
variable{rs:List aK}
theorem Ew{k:Nat}(h:k<rs.length):fH cols ts (rs.take (k+1))=fH cols ts (rs.take k)++(match bA cols rs[k].l ts with|.ok l=>[l]|.error _=>[])/\ee cols ts (rs.take (k+1))=jO (ee cols ts (rs.take k)) (od (bA cols rs[k].l ts)):=by
 have e:rs.take (k+1)=rs.take k++[rs[k]]:=by rw[take_add_one,getElem?_eq_getElem h];rfl
 unfold fH ee;rw[e,filterMap_append,map_append];refine⟨?_,sx _ _⟩;congr 1;rw[filterMap_cons,filterMap_nil];cases bA cols rs[k].l ts<;>rfl
theorem vN(cols:List aZ)(ts:vI)(rs:List aK):(fH cols ts rs).length<=rs.length:=length_filterMap_le _ _
theorem XD(h:l∈fH cols ts rs):∃r∈rs,bA cols r.l ts=.ok l:=by
 unfold fH at h;obtain⟨r,hr,e⟩:=List.mem_filterMap.1 h;refine⟨r,hr,?_⟩;cases hw:bA cols r.l ts with
 |error e2=>rw[hw]at e;cases e
 |ok m=>rw[hw]at e;injection e with e;rw[e]
theorem Ey{row:w_}(hr:∀v∈row,v.Ok)(ht:Tr.cO ts)(h:bA cols row ts=.ok l):∀v∈l,v.Ok:=by unfold bA at h;split at h;cases h;injection h with h;rw[<-h];intro v hv;obtain⟨z,hz,rfl⟩:=List.mem_map.1 hv;exact Tr.wR cols row hr ts ht z hz
variable{w:t_}{B B':Nat}{qs:List Nat}{ss:List St}
theorem dK.down(h:dK w B qs ss)(hB:B'<=B):dK w B' qs ss:=⟨h.len,h.at_,λ q hq=>⟨fK hB (h.low q hq).1,(h.low q hq).2⟩,h.apart⟩
variable{A:xP}
theorem cK.take(h:cK w A l)(n:Nat):cK w A (l.take n):=⟨h.rv.Q0 n,h.ty⟩
variable{α:Type}{f:α->xr}{base:Nat}{w':t_}
theorem aH.turn{e:TypeId}{size:Nat}{v:Value}{l:List α}(h:aH f e size w base v l)(ht:qD w w' qs)(hs:dK w B qs ss)(he:e≠199):aH f e size w' base v l:=h.keep λ g hg=>by obtain⟨h1,_,cur,hc⟩:=h.lt hg;exact ht.block g h1 (hs.uN (show aB w g e cur from hc) he)
theorem aha(h:xs[j]?=some x):(xs.set j {x with ss:=ss}).map gV.g=xs.map gV.g:=by rw[map_set];exact DY (by rw[getElem?_map,h];rfl)
structure Ez (w:t_) (gp:Nat) (aG aD:vI) (cols:List aZ) (yg ya:v_) (GA:xP) (gc:Nat) (CA:xP) (cc:Nat) (AA:xP) (ac:Nat):Prop where
 lt:gp<w.heap.size
 c4:w.cell? ⟨gp,4,none⟩=some (.slice GA yg.length gc)
 c8:w.cell? ⟨gp,8,none⟩=some (.slice CA cols.length cc)
 c9:w.cell? ⟨gp,9,none⟩=some (.slice AA ya.length ac)
 rg:RE w w.heap.size GA yg
 tg:Tr.aO w (Old w) aG yg
 ra:RE w w.heap.size AA ya
 ta:Tr.aO w (Old w) aD ya
 rc:RC w w.heap.size CA cols
variable{gp:Nat}{aG:vI}{yg ya:v_}{GA:xP}{gc:Nat}{CA:xP}{cc:Nat}{AA:xP}{ac:Nat}
theorem Ez.later(h:Ez w gp aG aD cols yg ya GA gc CA cc AA ac)(hb:ai w w'):Ez w' gp aG aD cols yg ya GA gc CA cc AA ac:=
 ⟨eS h.lt hb.size,(hb.cell (p:=⟨gp,4,none⟩) h.lt).trans h.c4,(hb.cell (p:=⟨gp,8,none⟩) h.lt).trans h.c8,(hb.cell (p:=⟨gp,9,none⟩) h.lt).trans h.c9,h.rg.later hb,Tr.aO.later h.tg hb,h.ra.later hb,Tr.aO.later h.ta hb,h.rc.later hb⟩
variable{n c:Nat}{ys:v_}
theorem aej(h:aH bH 46 7 w base (.slice A n c) ys):RE w w.heap.size A ys:=by obtain⟨A2,c2,e,_,h1⟩:=qI h (S:=Old w) (λ q hq=>(h.lt hq).1);injection e with e _ _;subst e;exact Zdh
theorem sW{v:Value}(h:aH bH 46 7 w base v ys):∃A c,v=.slice A ys.length c/\RE w w.heap.size A ys:=by obtain⟨A,c,e,_,h1⟩:=qI h (S:=Old w) (λ q hq=>(h.lt hq).1);refine⟨A,c,e,?_⟩;exact Zdh
def vO(w:t_)(B0:Nat)(v:Value)(E:v_):Prop:=aH bH 46 7 w B0 v E
variable{B0:Nat}{E:v_}
theorem vO.later{v:Value}(h:vO w B0 v E)(hb:aj w w'):vO w' B0 v E:=aH.later h hb
def oB(res:uC (w_))(w:t_)(B0:Nat)(v0 v1:Value):Prop:=match res with
 |.error er=>v0=az/\v1=af er
 |.ok l=>v1=af 0/\aH aX 44 3 w B0 v0 l
variable{res:uC (w_)}{v0 v1:Value}
theorem oB.later(h:oB res w B0 v0 v1)(hb:aj w w'):oB res w' B0 v0 v1:=by
 cases res with
 |error er=>exact h
 |ok l=>exact⟨h.1,aH.later h.2 hb⟩
theorem oB.err(h:oB res w B0 v0 v1):v1=af (od res):=by
 cases res with
 |error er=>exact h.2
 |ok l=>exact h.1
def ajH(gp:Nat)(GA:xP)(gn gc:Nat)(U8:xP)(en U9:Nat)(CA:xP)(cn cc:Nat)(RA:xP)(rn rc:Nat)(E:v_)(B0:Nat)(res:uC (w_)):Nat->t_->Value->Prop
 |0,_,v=>v=aw gp
 |1,_,v=>v=aw gp
 |2,_,v=>v=aw gp
 |3,_,v=>v=aY gp 4
 |4,_,v=>v=.slice GA gn gc
 |5,_,v=>v=.slice U8 en U9
 |6,w,v=>∃gB:Nat,v=aL gB 2 2/\aB w gB 23 #[.slice GA gn gc,.slice U8 en U9]
 |7,w,v=>∃v7:Value,v=v7/\vO w B0 v7 E
 |8,_,v=>v=aw gp
 |9,_,v=>v=aw gp
 |10,_,v=>v=aY gp 8
 |11,_,v=>v=.slice CA cn cc
 |12,_,v=>v=.slice RA rn rc
 |13,w,v=>∃x0 x1:Value,v=.tuple #[x0,x1]/\oB res w B0 x0 x1
 |14,w,v=>∃x0 x1:Value,v=.tuple #[x0,x1]/\oB res w B0 x0 x1
 |15,w,v=>∃x0 x1:Value,v=x0/\oB res w B0 x0 x1
 |16,_,v=>v=af (od res)
 |17,w,v=>∃x0 x1:Value,v=x0/\oB res w B0 x0 x1
 |_,_,_=>False
theorem Sr(gp:Nat)(GA:xP)(gn gc:Nat)(U8:xP)(en U9:Nat)(CA:xP)(cn cc:Nat)(RA:xP)(rn rc:Nat)(E:v_)(B0:Nat)(res:uC (w_)):∀i w w' v,ajH gp GA gn gc U8 en U9 CA cn cc RA rn rc E B0 res i w v->aj w w'->ajH gp GA gn gc U8 en U9 CA cn cc RA rn rc E B0 res i w' v:=by
 intro i w w' v h hl
 match i with
 |0|1|2|3|4|5|8|9|10|11|12|16=>exact h
 |6=>obtain⟨gB,h1,f0⟩:=h;exact⟨gB,h1,f0.later hl⟩
 |7=>obtain⟨v7,h1,f0⟩:=h;exact⟨v7,h1,f0.later hl⟩
 |13=>exact Zci
 |14=>exact Zci
 |15=>exact Zci
 |17=>exact Zci
 |n+18=>exact h
def ajI(gp:Nat)(GA:xP)(gn gc:Nat)(XA:xP)(xn xc:Nat):Nat->t_->Value->Prop
 |0,_,v=>v=.slice XA xn xc
 |1,_,v=>v=aw gp
 |2,_,v=>v=aw gp
 |3,_,v=>v=aw gp
 |4,_,v=>v=aY gp 4
 |5,_,v=>v=.slice GA gn gc
 |6,_,v=>v=af gn
 |7,_,v=>v=aw gp
 |8,_,v=>v=aw gp
 |9,_,v=>v=aw gp
 |10,_,v=>v=aY gp 4
 |11,_,v=>v=.slice GA gn gc
 |12,_,v=>v=af gn
 |13,_,v=>v=.slice XA gn gn
 |_,_,_=>False
theorem Ss(gp:Nat)(GA:xP)(gn gc:Nat)(XA:xP)(xn xc:Nat):∀i w w' v,ajI gp GA gn gc XA xn xc i w v->aj w w'->ajI gp GA gn gc XA xn xc i w' v:=by
 intro i w w' v h hl
 match i with
 |0|1|2|3|4|5|6|7|8|9|10|11|12|13=>exact h
 |n+14=>exact h
def aek(gp lb ln lc j q:Nat)(XA:xP)(xn xc gn:Nat):Nat->t_->Value->Prop
 |0,_,v=>v=aw gp
 |1,_,v=>v=aL lb ln lc
 |2,_,v=>v=af j
 |3,_,v=>v=aY lb j
 |4,_,v=>v=aw q
 |5,_,v=>v=.slice XA xn xc
 |6,_,v=>v=.slice XA gn gn
 |7,_,v=>v=af gn
 |8,_,v=>v=.slice (fk XA xc gn) (xn-gn) (xc-gn)
 |_,_,_=>False
theorem EB(gp lb ln lc j q:Nat)(XA:xP)(xn xc gn:Nat):∀i w w' v,aek gp lb ln lc j q XA xn xc gn i w v->aj w w'->aek gp lb ln lc j q XA xn xc gn i w' v:=by
 intro i w w' v h hl
 match i with
 |0|1|2|3|4|5|6|7|8=>exact h
 |n+9=>exact h
def zhK.Kb9(h:p:=by rw[Nat.zero_add,y1]):=h
def ziK.Kcz(h:p:=by refine bD 9 (aek gp lb xs.length lc i q XA xn xc gn) (EB _ _ _ _ _ _ _ _ _ _) Taa Taa Taa ?_ ?_;exact Zba;exact Zax):=h
def ziL.Kcz(h:p:=by refine bD 9 (aek gp lb xs1.length lc9 i q XA xn xc gn) (EB _ _ _ _ _ _ _ _ _ _) Taa Taa Taa ?_ ?_;exact Zba;exact Zax):=h
def zh4.Kci(h:p:=by
 have DB:=aa (Oo.ae.later hL);have HGW:=aa (Xh.ae.later hL);have HKW:=aa (vK.ae.keep hL.size λ b cur hqk=>hL.block b hqk.lt);clear hL wu Bv V5 Oo Xh vK HEW;obtain⟨LA,lc,bc,hlc,V6⟩:=xJ DB.ae;have aqv:=aa bc;have hxl:xs.length<=301:=by have h1:=congrArg List.length xO.ae.keys;rw[length_map]at h1;have h2:=zE gn (ls.map λ l=>l.take gn);rw[length_map]at h2;have h3:=HLS.ae;have h4:=Fp.ae;omega
 have HXL:=aa hxl;have BJ:(l.take gn).length=gn:=by rw[length_take];have:=zv.ae;have:=pC.ae;omega
 have YL:=aa BJ;have XB:gn<=1000:=by have:=iT.ae;have:=A1.ae;omega
 have YY:=aa XB;have hsr:∀W,ai W6 W->ar 64 #[.slice LA (xs.map gV.g).length lc,.slice XA gn gn,.func (.func 65) #[] #[]] W (DF (xs.map gV.g).length (λ Ly=>bT ((xs.map gV.key).getD Ly []) (l.take gn)) W):=λ W hW=>by
  refine Rx (xs.map gV.g) LA XA lc gn gn (λ Ly=>bT ((xs.map gV.key).getD Ly []) (l.take gn)) W (by rw[length_map];omega) (V6.later hW) (λ Ly hi W2 hW2=>?_) (λ Ly i kE hj hc=>?_)
  ·rw[length_map]at hi;have hX:=((HGW.ae.later hW).later hW2).at_ xs[Ly] (getElem_mem hi);have Kx:=hX.blk.cell 0;simp only[getElem?_toArray,getElem?_cons_zero]at Kx;have hk2:=(HKW.ae.keep hW.size λ b cur hqk=>hW.block b hqk.lt).keep hW2.size λ b cur hqk=>hW2.block b hqk.lt
   have qV:xs[Ly].key.length<=gn:=sV (by rw[<-xO.ae.keys];exact mem_map_of_mem (getElem_mem hi));have uH:=Rw xs[Ly].g xs[Ly].KA XA xs[Ly].key (l.take gn) xs[Ly].kc gn W2 hX.blk.lt Kx hX.key.rv (hk2.rv.Q0 gn) WC WC;rw[BJ]at uH;simp only[getElem_map,getD_eq_getElem?_getD,getElem?_map,getElem?_eq_getElem hi,Option.map_some,Option.getD_some];exact uH
  rw[length_map]at hj;have hi:Ly<xs.length:=by omega
  simp only[getD_eq_getElem?_getD,getElem?_map,getElem?_eq_getElem hi,getElem?_eq_getElem hj,Option.map_some,Option.getD_some]at hc⊢;rcases gR Ly i with h1|h1;have:=xO.ae.less (getElem?_eq_getElem hi) (getElem?_eq_getElem hj) h1;exact fS.agk this WC;have e:Ly=i:=by omega
  subst e;exact hc
 have HSR:=aa (hsr _ cX);have HLR:=aa V6;rw[length_map]at HSR hlc aqv bc;have Za:=aa hlc;subst bc;clear hsr V6 BJ XB hlc aqv;go_wp2_with fail;refine HSR.ae.mono ?_;rintro e w7 ⟨i,hj,rfl,fW,hhi,b7⟩;have No:=aa hj;have vq:=aa (show∀Ly y,Ly<i->xs[Ly]?=some y->bT y.key (l.take gn)< 0 from λ Ly y hi hy=>by have:=fW Ly hi;simpa only[getD_eq_getElem?_getD,getElem?_map,hy,Option.map_some,Option.getD_some] using this)
 have ajS:=aa (show∀Ly y,i<=Ly->xs[Ly]?=some y->0<=bT y.key (l.take gn)from λ Ly y hi hy=>by have qQ:Ly<xs.length:=(List.getElem?_eq_some_iff.1 hy).1;have:=hhi Ly hi qQ;simpa only[getD_eq_getElem?_getD,getElem?_map,hy,Option.map_some,Option.getD_some] using this)
 have MY:=aa (Below.trans NN.ae (b7.mono NN.ae.size));have qH:=aa (NW.ae.later b7);have Oq:=aa (Fs.ae.later b7);have Ot:=aa (DB.ae.later b7);have NE:=aa (HGW.ae.later b7);have Oj:=aa (HKW.ae.keep b7.size λ b cur hqk=>b7.block b hqk.lt);have ajT:=aa (HLR.ae.later b7);clear b7 fW hhi hj NN NW Fs DB HGW HKW HLR HSR;by_cases hf:i<xs.length/\bT ((xs.map gV.key).getD i []) (l.take gn)=0
 ·obtain⟨hf1,hf2⟩:=hf;have tf:(decide (i<xs.length)&&decide (bT ((xs.map gV.key).getD i []) (l.take gn)=0))=true:=by simp only[decide_eq_true hf1,decide_eq_true hf2,Bool.and_self]
  have HF1:=aa hf1;have HKEY:=aa (show xs[i].key=l.take gn from eO _ _ (by have h2:=hf2;simp only[getD_eq_getElem?_getD,getElem?_map,getElem?_eq_getElem hf1,Option.map_some,Option.getD_some]at h2;exact h2))
  have HM:=aa (xO.ae.there (getElem?_eq_getElem hf1) HKEY.ae);have hxj:xs[i]?=some xs[i]:=getElem?_eq_getElem hf1;rw[tf];obtain⟨x,hX⟩:∃x,x=xs[i]:=⟨_,rfl⟩;rw[<-hX]at HKEY hxj;have Sz:=aa hxj;have zM:=MY;have V7:=qH;have KT:=Oq;have nE:=Ot;have KH:=NE;have HK9:=Oj;have V8:=ajT;clear hf1 hf2 tf hxj hX MY qH Oq Ot NE Oj ajT xO vq ajS;go_upto_region 20 with fail;have wD:i<xs.length:=(List.getElem?_eq_some_iff.1 Sz.ae).1;have HJL:=aa wD;obtain⟨lb,hA,yB,hcj⟩:=V8.ae.at_ (k:=i) (by rw[length_map];exact wD);obtain⟨ajU,Wi⟩:=List.getElem?_eq_some_iff.1 (show(xs.map gV.g)[i]?=some x.g by rw[getElem?_map,Sz.ae];rfl);open ziK in exact Ziy
 have tf:(decide (i<xs.length)&&decide (bT ((xs.map gV.key).getD i []) (l.take gn)=0))=false:=by rw[Bool.and_eq_false_iff,decide_eq_false_iff_not,decide_eq_false_iff_not];by_cases h1:i<xs.length;exact .inr λ h2=>hf ⟨h1,h2⟩;exact .inl h1
 have HNF:=aa (show∀y,xs[i]?=some y->0<bT y.key (l.take gn)from λ y hy=>by have h1:=ajS.ae i y aE hy;have wD:=(List.getElem?_eq_some_iff.1 hy).1;rcases Int.lt_or_eq_of_le h1 with h2|h2;exact h2;exact absurd ⟨wD,by simp only[getD_eq_getElem?_getD,getElem?_map,hy,Option.map_some,Option.getD_some];exact h2.symm⟩ hf)
 have PA:=aa (show gn≠0 from λ h0=>by
  have hk:=xO.ae.keys;unfold di at hk;rw[if_pos h0]at hk;have fI:xs.length=1:=by have:=congrArg List.length hk;simpa using this
  obtain⟨x,hX⟩:∃x,xs=[x]:=List.length_eq_one_iff.1 fI;have Q8:x.key=[]:=by rw[hX]at hk;simpa using hk
  have ht:l.take gn=[]:=by rw[h0];rfl
  rcases Nat.eq_zero_or_pos i with h1|h1
  ·have:=HNF.ae x (by rw[h1,hX];rfl)
   rw[Q8,ht]at this;simp[bT]at this
  have:=vq.ae 0 x h1 (by rw[hX];rfl);rw[Q8,ht]at this;simp[bT]at this)
 rw[tf];clear tf hf;have HE7:=aa (ox.ae.later MY.ae);go_wp2_with fail;refine(Hx gp ya AA ac XA gn gn w7 (by have:=A2.ae;omega) HE7.ae.lt HE7.ae.c9 HE7.ae.ra (λ y hy=>by
  have h1:y.op∈aD.map Tr.op:=by rw[<-HK.ae];exact mem_map_of_mem hy
  obtain⟨t,ht,he⟩:=List.mem_map.1 h1;rw[<-he];exact HS.ae t ht)).mono ?_
 rintro e w2 ⟨gg,sv,qs,rfl,ei,Ko,hgk,U5,UT,b2⟩;have bN:=ah w2 (.cells #[aw gg] 135);have hNB:=aB.new w2 135 #[aw gg];have b9:=aj.then b2 bN;have X7:w0.heap.size<=w7.heap.size:=MY.ae.size;have Xr:=aa (show gV.At w2 w0.heap.size ⟨gg,XA,gn,l.take gn,sv,qs,ya.map λ y=>fC y.op⟩from⟨by rw[YL.ae];exact hgk,fK X7 ei,U5.down X7,UT.down X7,(Oj.ae.keep b2.size λ b cur hqk=>b2.block b hqk.lt).take gn⟩);have YV:=aa ((NE.ae.later b2).insert (k:=i) Xr.ae (λ y hy q hq hm=>by have h1:=((NE.ae.at_ y hy).rK.low q hq).2;have h2:=(UT.low q hm).1;omega))
 have aes:=aa (YV.ae.later bN);have xS:=aa (Ot.ae.later b9);have aqA:=aa (qH.ae.later b9);have FZ:=aa (Oq.ae.later b9);have HK8:=aa (Oj.ae.keep b9.size λ b cur hqk=>b9.block b hqk.lt);have Ii:=aa (Below.trans MY.ae (b9.mono X7));have rb:=aa hNB;have hvb:(Value.slice LA xs.length lc).ownBlock≠some w2.heap.size:=λ e=>by have:=(Ot.ae.lt e).1;have:=b2.size;omega
 have HVB:=aa hvb;have HMJ:=aa (show po gn aD (xs.take i++⟨gg,XA,gn,l.take gn,sv,qs,ya.map λ y=>fC y.op⟩::xs.drop i) (ls++[l]) ls from xO.ae.new (by exact No.ae) vq.ae HNF.ae PA.ae rfl (by show ya.map (λ y=>fC y.op)=_;rw[<-HK.ae,map_map];rfl))
 have rq:(xs.map gV.g).take i++gg::(xs.map gV.g).drop i=(xs.take i++(⟨gg,XA,gn,l.take gn,sv,qs,ya.map λ y=>fC y.op⟩:gV)::xs.drop i).map gV.g:=Tad;have FH:(xs.take i++(⟨gg,XA,gn,l.take gn,sv,qs,ya.map λ y=>fC y.op⟩:gV)::xs.drop i)[i]?=some ⟨gg,XA,gn,l.take gn,sv,qs,ya.map λ y=>fC y.op⟩:=by
  have wD:i<=xs.length:=by exact No.ae
  rw[getElem?_append_right Taz,length_take,Nat.min_eq_left wD,Nat.sub_self];rfl
 have aet:(xs.take i++(⟨gg,XA,gn,l.take gn,sv,qs,ya.map λ y=>fC y.op⟩:gV)::xs.drop i).length<=302:=by
  have wD:i<=xs.length:=by exact No.ae
  have:=HXL.ae;simp only[length_append,length_take,length_cons,length_drop];omega
 obtain⟨x,hX⟩:∃x:gV,x=⟨gg,XA,gn,l.take gn,sv,qs,ya.map λ y=>fC y.op⟩:=⟨_,rfl⟩;have HKEY:=aa (show x.key=l.take gn by rw[hX]);rw[<-hX]at YV aes HMJ rq FH aet Xr;obtain⟨xs1,aqC⟩:∃xs1:List gV,xs1=xs.take i++x::xs.drop i:=⟨_,rfl⟩;rw[<-aqC]at YV aes HMJ rq FH aet;have Sz:=aa FH;have HM:=HMJ;have HGS:=aa rq;have aDP:=aa aet;have aqD:=Sp (xs.map gV.g) gg i (.slice LA xs.length lc) w0.heap.size w2.heap.size _ (by rw[length_map];have:=HXL.ae;omega) (by rw[length_map];exact No.ae) xS.ae rb.ae Ii.ae.size HVB.ae;have cb:=aa aqD;clear aqD hX aqC rq FH aet hvb hNB bN b2 b9 X7 U5 UT hgk Ko ei Xr NE Ot qH Oq Oj MY YV xO vq ajS HNF ajT HE7;go_wp2_with fail;refine cb.ae.mono ?_;rintro e w1 ⟨v1,rfl,hR,XW⟩;rw[HGS.ae]at hR;have nE:=aa hR;have KH:=aa (aes.ae.own xS.ae XW Tab Tab Tab Tab);have V7:=aa (aqA.ae.past xS.ae Tab XW);have KT:=aa (FZ.ae.lg xS.ae Tab XW);have ahf:=bj xS.ae XW Ii.ae.size;have zM:=aa (Below.trans Ii.ae ahf);have HK9:=aa (HK8.ae.keep XW.size λ b cur hqk=>XW.block b hqk.lt λ e=>xS.ae.other hqk Tab e.symm);obtain⟨LA9,lc9,hv9,_,aqF⟩:=xJ nE.ae;rw[length_map]at hv9;subst hv9;have V8:=aa aqF;clear hR XW ahf aqF xS aes aqA FZ Ii HK8 cb rb HVB HGS;go_upto_region 20 with fail;have wD:i<xs1.length:=(List.getElem?_eq_some_iff.1 Sz.ae).1;have HJL:=aa wD;obtain⟨lb,hA,yB,hcj⟩:=V8.ae.at_ (k:=i) (by rw[length_map];exact wD);obtain⟨ajU,Wi⟩:=List.getElem?_eq_some_iff.1 (show(xs1.map gV.g)[i]?=some x.g by rw[getElem?_map,Sz.ae];rfl)
 open ziL in exact Ziy):=h
def zim.Kcp(h:p:=by
 have hln:(aG++aD.flatMap Tr.args).length=gn+ye.length:=by have a1:=dZ ox.ae.tg;have a2:=dZ Nj.ae;rw[length_append,a1,a2,iT.ae]
 have hgx:gn<=l.length:=by rw[Az.ae,hln];omega
 have zv:=aa hgx;have HXC:=aa (show gn<=xc by omega);have Sy:=aa hxl;have HEW:=aa (ox.ae.later wu.ae);have wh:=aa (show(l.drop gn).length=ye.length by rw[length_drop,Az.ae,hln];omega);obtain⟨xn,Fq⟩:∃xn,xn=l.length:=⟨_,rfl⟩;rw[<-Fq]at zv⊢;have pC:=aa Fq;clear Q8 hln hgx hxl Fq LE;go_upto_region 16 with fail;refine bD 14 (ajI gp GA gn gc XA xn xc) (Ss _ _ _ _ _ _ _) Taa Taa Taa ?_ ?_;simp only[take_succ_cons,take_zero];refine⟨Zaa,Zaa,Zaa,Zaa,Zaa,ZhB,Zaa,Zaa,Zaa,Zaa,Zaa,ZhB,Zaa,ZdJ,trivial⟩;intro W6 hL;simp only[Uab];rintro a0-a1-a2-a3-a4-a5-a6-a7-a8-a9-Hc-S1-a12-_ rfl;open zh4 in exact ZgI):=h
def zcK.Kav(h:p:=by
 have iJ:=aa Il;have HQN:=aa Pz;have ajL:=aa lQ;have HB:=aa hqk;have XE:=aa fE;have Ae:=aa hP;have V2:=aa aqn;have LJ:=aa bc;have HG0:=aa fq;have HI0:=aa hI0;have Wv:=aa (show yg.length+ye.length<=1000000 by omega);have Nm:=aa (show(yg++ye).length<=1599289640356 by rw[length_append];omega);clear h Bi Ui qT hfn hz hS hw hl hh M7 hJ Pk Il Pz lQ hqk fE hP aqn bc fq hI0;simp only[iz,eC,f33,Option.getD_some];refine wp_seq_k λ K hK=>?_;have Fl:=aa hK;clear hK;go_wp2_with fail;go_loopw [10,54] (λ lv Ly wr=>∃(k:Nat) (xs:List gV),k<=zs.length/\Ly=af k/\ai w0 wr/\aH bH 46 7 wr w0.heap.size (.slice U8 ye.length U9) ye/\aB wr gb 84 #[af (ee cols (aG++aD.flatMap Tr.args) (zs.take k))]/\aH dh 135 1 wr w0.heap.size lv (xs.map gV.g)/\lj wr w0.heap.size xs/\po gn aD xs (fH cols (aG++aD.flatMap Tr.args) (zs.take k)) (fH cols (aG++aD.flatMap Tr.args) (zs.take k))) (λ _ Ly _=>zs.length-(intOf Ly).toNat);case atStart=>exact⟨0,xs0,gE,rfl,HB.ae,XE.ae,Ae.ae,LJ.ae,HG0.ae,HI0.ae⟩
 case round=>
  clear HB XE Ae LJ HG0 HI0;obtain⟨k,xs,hkr,rfl,hB,hAV,hGB,Zb,hG,hI⟩:=hrel;have HB:=aa hB;have XE:=aa hAV;have Ae:=aa hGB;have LJ:=aa Zb;have HG:=aa hG;have xO:=aa hI;clear hB hAV hGB Zb hG hI;by_cases hlt:k<zs.length
  ·obtain⟨b,off,rfl,ly,hcell,uw⟩:=(iJ.ae.below HB.ae).at_ hlt;have Cv:=aa (uw.more HB.ae.size);have Si:=aa (ajL.ae zs[k] (getElem_mem hlt));have V3:=aa (Ew (cols:=cols) (ts:=aG++aD.flatMap Tr.args) hlt);have HLS:=aa (vN cols (aG++aD.flatMap Tr.args) (zs.take k));have Fp:=aa (show(zs.take k).length<=300 by rw[length_take];have:=HQN.ae;omega);generalize zs[k]=r at*;generalize ee cols (aG++aD.flatMap Tr.args) (zs.take k)=He at*;generalize fH cols (aG++aD.flatMap Tr.args) (zs.take k)=ls at*;obtain⟨res,hres⟩:∃res,res=bA cols r.l (aG++aD.flatMap Tr.args):=⟨_,rfl⟩;rw[<-hres]at V3;have kt:=aa hres.symm;have oC:=aa (ox.ae.later HB.ae);have HTE:=aa (Tr.aO.later Nj.ae HB.ae);have pC:=aa (aej XE.ae);obtain⟨E,hE⟩:∃E,E=yg++ye:=⟨_,rfl⟩;have rz:=aa hE;obtain⟨B0,hB0⟩:∃B0,B0=wr.heap.size:=⟨_,rfl⟩;have CQ:=aa hB0;have hk9:k<=300:=by have:=HQN.ae;omega
   clear ly uw hres hE hB0;go_upto_region 14 with fail;clear hcell;refine bD 18 (ajH gp GA gn gc U8 ye.length U9 CA cols.length cc r.A r.l.length r.c E B0 res) (Sr _ _ _ _ _ _ _ _ _ _ _ _ _ _ _ _) Taa Taa Taa ?_ ?_
   ·simp only[take_succ_cons,take_zero];refine⟨Zaa,Zaa,Zaa,Zaa,?_,Zaa,?_,?_,Zaa,Zaa,Zaa,?_,Zaa,?_,?_,?_,?_,?_,trivial⟩
    ·intro ρ W4 hc hL hr;have h0:_=_:=hr.1;have c0:=(oC.ae.later hL).c4;exact Zb5
    intro ρ W4 hc hL hr;have h0:_=_:=hr.1;have h1:_=_:=hr.2.1;exact aq (v:=aL W4.heap.size 2 2) (w':=W4.alloc (.cells #[.slice GA gn gc,.slice U8 ye.length U9] 23)) TaD ⟨ah _ _,_,rfl,aB.new _ _ _⟩
    ·intro ρ W4 hc hL hr;obtain⟨gB0,h0,cL⟩:∃gB:Nat,ρ (.tmp 65)=aL gB 2 2/\aB W4 gB 23 #[.slice GA gn gc,.slice U8 ye.length U9]:=hr.1;have e1:=hc.func 35;refine bu (f:=35) (args:= #[aL gB0 2 2]) (w':=W4) TaE ?_;refine(vC (some ⟨gB0,0,none⟩) 2 [⟨GA,gc,yg⟩,⟨U8,U9,ye⟩] W4 Tad (by simpa [mh] using Wv.ae) ?_).mono ?_
     ·refine⟨gB0,0,rfl,cL.lt,λ Ly x hX=>?_⟩
      match Ly,hX with
      |0,hX=>simp at hX;subst hX;refine⟨?_,(oC.ae.later hL).rg⟩;exact Zgs
      |1,hX=>simp at hX;subst hX;refine⟨?_,pC.ae.later hL⟩;open zhK in exact Zf5
      |n+2,hX=>simp at hX
     exact Zep
    intro ρ W4 hc hL hr;have h0:_=_:=hr.1;have c0:=(oC.ae.later hL).c8;exact Zd6
    ·intro ρ W4 hc hL hr;obtain⟨v70,h0,cL⟩:∃v7:Value,ρ (.tmp 66)=v7/\vO W4 B0 v7 E:=hr.1;have h1:_=_:=hr.2.1;have h2:_=_:=hr.2.2.1;obtain⟨EA,ec,he,Er⟩:=sW (show aH bH 46 7 W4 B0 v70 E from cL);rw[rz.ae]at he Er;subst he;have e1:=hc.func 34;refine bu (f:=34) (args:= #[.slice EA (yg++ye).length ec,.slice CA cols.length cc,.slice r.A r.l.length r.c]) (w':=W4) (by simp[go_sem,e1,h0,h1,h2];done) ?_;refine(Ia cols CA cc r.l r.A r.c (aG++aD.flatMap Tr.args) (yg++ye) EA ec W4 pE.ae Si.ae.1 Si.ae.2 HL.ae (Tr.all_append (oC.ae.later hL).tg (Tr.aO.later HTE.ae hL)) Nm.ae Er (oC.ae.later hL).rc (Cv.ae.later hL)).mono ?_;exact Zc6
    intro ρ W4 hc hL hr;obtain⟨XF,XG,h0,cL⟩:∃x0 x1:Value,ρ (.tmp 72)=.tuple #[x0,x1]/\oB res W4 B0 x0 x1:=hr.1;exact Zg2;intro ρ W4 hc hL hr;obtain⟨XF,XG,h0,cL⟩:∃x0 x1:Value,ρ (.tmp 58)=.tuple #[x0,x1]/\oB res W4 B0 x0 x1:=hr.1;exact Zdt;intro ρ W4 hc hL hr;obtain⟨XF,XG,h0,cL⟩:∃x0 x1:Value,ρ (.tmp 58)=.tuple #[x0,x1]/\oB res W4 B0 x0 x1:=hr.1;exact Zha;intro ρ W4 hc hL hr;obtain⟨XF,XG,h0,cL⟩:∃x0 x1:Value,ρ (.tmp 73)=x0/\oB res W4 B0 x0 x1:=hr.1;exact Zdt
   intro W5 hL;simp only[Uab];rintro a0-a1-a2-a3-a4-a5-a6-a7-a8-a9-Hc-S1-a12-a13-a14-a15-_ rfl a16 ⟨aAE,aAF,rfl,ahc⟩;simp only[bw,Act.put,Uac];have ux:=aa (Below.trans HB.ae (hL.mono HB.ae.size));have UI:=aa (XE.ae.later hL);have BA:=aa (Ae.ae.later hL);have Sv:=aa (LJ.ae.later hL);have wk:=aa (HG.ae.later hL);have HWB:=aa ahc;have HWL:=aa hL.size;have HWS:=aa HB.ae.size;clear HB XE Ae LJ HG hL ahc Cv pC oC HTE;go_wp2_with fail;refine(xq gb He (od res) _ BA.ae).mono ?_;rintro e w5 ⟨rfl,JO,Kv⟩;have Sx:=aa JO;have wu:=aa (dz ux.ae Kv V2.ae);have Bv:=aa (UI.ae.grown Kv (UI.ae.other BA.ae Tab));have Oo:=aa (Sv.ae.grown Kv (Sv.ae.other BA.ae Tab));have Xh:=aa (wk.ae.grown Kv BA.ae Tab Tab Tab Tab);have BW:=aa (show∀l,res=.ok l->aH aX 44 3 w5 B0 a16 l from λ l Lw=>by have h1:=HWB.ae;rw[Lw]at h1;exact h1.2.grown Kv (h1.2.other BA.ae Tab))
   clear JO Kv ux UI BA Sv wk HWB;cases res with
   |error er=>
     have hne:=Iw kt.ae;have t1:(od (.error er)==0)=false:=by show(er==0)=false;simp[hne]
     have HS1:=aa V3.ae.1;have UK:=aa V3.ae.2;clear hne BW;go_wp2_with fail;go_roundw
     case rel=>
      refine⟨k+1,xs,hlt,by go_num,wu.ae,Bv.ae,?_,Oo.ae,Xh.ae,?_⟩;rw[UK.ae];exact Sx.ae;rw[HS1.ae];simpa using xO.ae
     case measure=>exact Za2
   |ok l=>have HS1:=aa (show fH cols (aG++aD.flatMap Tr.args) (zs.take (k+1))=ls++[l] from V3.ae.1);have UK:=aa (show ee cols (aG++aD.flatMap Tr.args) (zs.take (k+1))=jO He 0 from V3.ae.2);have Az:=aa (Ev kt.ae);have P9:=aa (Ey Si.ae.2 HL.ae kt.ae);open zim in exact Zhi
  have fX:k=zs.length:=by omega
  subst fX;have HTT:=aa (show zs.take zs.length=zs from take_length);rw[HTT.ae]at Ae xO;go_wp2_with fail;exact Fl.ae _ _ (HH.ae _ u10 xs _ rfl rfl rfl HB.ae Ae.ae LJ.ae HG.ae xO.ae)):=h
theorem V0(w0:t_)(gp gb gn:Nat)(aG aD:vI)(cols:List aZ)(yg ya ye:v_)(GA:xP)(gc:Nat)(CA:xP)(cc:Nat)(AA:xP)(ac:Nat)(zs:List aK)(RA:xP)(rrc:Nat)(av lv:Value)(xs0:List gV)(T:x_)(hT:T.size=164)
  (h0:T.getD 0 undef=aw gp) (h1:T.getD 1 undef=.slice RA zs.length rrc) (h6:T.getD 6 undef=av) (h9:T.getD 9 undef=aw gb) (h10:T.getD 10 undef=lv) (d:List Deferred) (w:t_) (Q:y_)
  (Bi:Ez w0 gp aG aD cols yg ya GA gc CA cc AA ac) (Ui:yg.length=gn) (qT:Tr.aO w0 (Old w0) (aD.flatMap Tr.args) ye) (hfn:ya.map Ex.n=aD.map λ t=>t.args.length) (hz:ya.map Ex.op=aD.map Tr.op) (hS:∀t∈aD,isAgg t.op=true) (hw:∀t∈aD,t.args.length<=2) (hl:Tr.cO (aG++aD.flatMap Tr.args))
  (hh:yg.length<=1000) (M7:ya.length<=100000) (hJ:ye.length<=100000) (Pk:cols.length<=140737488355328)
  (Il:RR w0 w0.heap.size RA zs) (Pz:zs.length<=300) (lQ:∀r∈zs,r.l.length<=140737488355328/\∀v∈r.l,v.Ok)
  (hqk:ai w0 w) (fE:aH bH 46 7 w w0.heap.size av ye) (hP:aB w gb 84 #[af 0]) (aqn:w0.heap.size<=gb) (bc:aH dh 135 1 w w0.heap.size lv (xs0.map gV.g)) (fq:lj w w0.heap.size xs0) (hI0:po gn aD xs0 [] [])
  (h:∀(T':x_) lv' xs W,T'.size=164->T'.getD 9 undef=aw gb->T'.getD 10 undef=lv'->ai w0 W->aB W gb 84 #[af (ee cols (aG++aD.flatMap Tr.args) zs)]->aH dh 135 1 W w0.heap.size lv' (xs.map gV.g)->lj W w0.heap.size xs->po gn aD xs (fH cols (aG++aD.flatMap Tr.args) zs) (fH cols (aG++aD.flatMap Tr.args) zs)->(eC iz 7).wp prog Q {tmps:=T',defers:=d} W):
  (eC iz 6).wp prog Q {tmps:=T,defers:=d} w:=by
 obtain⟨U8,U9,awI,_⟩:=sW fE;subst awI;obtain⟨f,rfl⟩:=KQ T hT;have h0:f 0=_:=h0;have h1:f 1=_:=h1;have h6:f 6=_:=h6;have h9:f 9=_:=h9;have h10:f 10=_:=h10;simp only[frg,h0,h1,h6,h9,h10];clear h0 h1 h6 h9 h10;clear h0 h1 h6 h9 h10 hT;have KK:=λ(T':x_) lv' xs W a0 a1 a2 a3 a4 a5 a6 a7=>h T' lv' xs W a0 a1 a2 a3 a4 a5 a6 a7;simp only[iz,eC,f33,Option.getD_some]at KK;have HH:=aa KK;clear KK;open zcK in exact Zbf
def ahg(v:Val):R.Val:=⟨v.k,v.n,v.s⟩
mutual
def X8:Tr->R.Tr
 |.mk op v name width args=>.mk op (ahg v) name width (sX args)
def sX:vI->List R.Tr
 |[]=>[]
 |t::ts=>X8 t::sX ts
end
def Ow(y:Ex):R.Ex:=⟨y.op,ahg y.v,y.name,y.width,y.A,y.n,y.c⟩
theorem xT:∀ts:vI,(sX ts).length=ts.length
 |[]=>by simp[sX]
 |t::ts=>by simp[sX,xT ts]
variable{S:Nat->Prop}
theorem aqG(h:ZA w S A ys):R.RL R.bH 7 w S A (ys.map Ow):=by
 rcases h with rfl|⟨b,off,Kx,h2,h3⟩;exact .inl rfl;refine .inr ⟨b,off,Kx,h2,λ i x j u h1 hu=>?_⟩;rw[getElem?_map]at h1;cases hy:ys[i]? with
 |none=>rw[hy]at h1;cases h1
 |some y=>
   rw[hy]at h1;injection h1 with h1;subst h1;obtain⟨k0,k1,k2,k3,k4,k5,k6⟩:=h3 i y hy
   match j,hu with
   |0,hu=>injection hu with hu;subst hu;exact k0
   |1,hu=>injection hu with hu;subst hu;exact k1
   |2,hu=>injection hu with hu;subst hu;exact k2
   |3,hu=>injection hu with hu;subst hu;exact k3
   |4,hu=>injection hu with hu;subst hu;exact k4
   |5,hu=>injection hu with hu;subst hu;exact k5
   |6,hu=>injection hu with hu;subst hu;exact k6
   |n+7,hu=>simp[R.bH]at hu
mutual
theorem UU{w:t_}{S:Nat->Prop}:∀(t:Tr) (y:Ex),t.at_ w S y->(X8 t).at_ w S (Ow y)
 |.mk op v name width args,y,h=>by unfold Tr.at_ at h;obtain⟨h1,h2,h3,h4,h5,ys,h6,h7⟩:=h;unfold X8 R.Tr.at_;exact⟨h1,by rw[<-h2];rfl,h3,h4,by rw[xT];exact h5,ys.map Ow,aqG h6,Ix args ys h7⟩
theorem Ix{w:t_}{S:Nat->Prop}:∀(ts:vI) (ys:v_),Tr.aO w S ts ys->R.Tr.aO w S (sX ts) (ys.map Ow)
 |[],ys,h=>by unfold Tr.aO at h;subst h;unfold sX R.Tr.aO;rfl
 |t::ts,ys,h=>by unfold Tr.aO at h;obtain⟨y,ys',rfl,h1,h2⟩:=h;unfold sX R.Tr.aO;exact⟨Ow y,ys'.map Ow,rfl,UU t y h1,Ix ts ys' h2⟩
end
mutual
theorem UW:∀t:R.Tr,X8 (rD t)=t
 |.mk op v name width args=>by unfold rD X8;rw[Ox args];rfl
theorem Ox:∀ts:List R.Tr,sX (ij ts)=ts
 |[]=>by unfold ij sX;rfl
 |t::ts=>by unfold ij sX;rw[UW t,Ox ts]
end
theorem Iy:∀ts:List R.Tr,ij ts=ts.map rD
 |[]=>by unfold ij;rfl
 |t::ts=>by unfold ij;rw[Iy ts];rfl
theorem XH(d:R.Qu):(fG d).all=({kind:=8,query:=d}:R.St).exprs.map rD:=by unfold Qy.all fG R.St.exprs R.Qu.exprs;simp only[Iy,map_map,map_append,append_assoc,flatten_nil,map_nil,nil_append];rfl
end Go.Proofs.YtndgjggokjickaaGreatDoor
namespace Go.Proofs.YtndgjggokjickaaGreatDoor.R
open _root_.Go.Proofs.Tryz
set_option maxHeartbeats 90000000
set_option maxRecDepth 100000
open Go.ChangeShapes Go.WideShapes Go.ChangeAt Go.RowKit List
set_option linter.unusedVariables false
set_option linter.unusedSimpArgs false
def Zc:Obj:=.cells #[ag 0,au,az,au,af 0,au,af 0,az,au,.bool false,az,az,az,az,az,ag 0,au,af 0,af 0,az,az,az,ag 0,af 0,au,ag 0,af 0,au] 64
variable{P:Program}{ops:Array Oper}{rest:List Oper}{a:Act}{w:t_}{Q:y_}{cs:x_}
theorem BB{o:Oper}(hg:o.guard=none)(t:TypeId)(parts:Array (Nat×Operand))(ho:o.op=.build t parts)
  (hv:P.built t (parts.map λ(i,x)=>(i,a.eval x)).toList=some cs) (h:wpList P ops Q rest (a.put o.dst (.agg cs)) w):wpList P ops Q (o::rest) a w:=
 wpList_build hg t parts ho (by rw[hv];rfl) (by rw[hv];exact h)
theorem X9(qy:zy):prog.built 64 [(0,ag 8),(7,quV qy)]=some (tX {kind:=8,query:=qy}).toArray:=by exact Zhr
def vP(l:dI)(d:Qu)(r:dI):Prop:=∀(ρ:dx) (w:t_),ρ.at w (.good l) false->ar 134 #[ρ.ptr] w λ e w'=>∃y:zy,e=.returned (quV y)/\d.at_ w' (jM w.heap.size w') y/\eQ ρ w w' (.good r) false
def uD(d:Qu):St:= {kind:=8,query:=d}
variable{t:Wd}{l r:dI}{d:Qu}
theorem Y0(hse:ju fF t=true)(H:vP (t::l) d r)(ρ:dx)(w:t_)(h:ρ.at w (.good (t::l)) false):
  ar 86 #[ρ.ptr] w λ e w'=>∃y:zy,e=.returned (stV {kind:=8,query:=y})/\d.at_ w' (jM w.heap.size w') y/\eQ ρ w w' (.good r) false:=by
 have ei:=h.Hk;obtain⟨tk,pl,bd,hpl,hlt,hsm,vt,cq,hg,LD,wV,hp⟩:=h.xD;obtain⟨r',nX⟩:=hg (t::l) rfl;injection nX with mC htr;have hb:=aj.then (ah w Zc) (ah _ Zc);have h0:=h.later hb;have YJ:=(aB.new w 64 st0).alloc Zc;have HQ:=aa YJ;have HH:=aa h;have HR:=aa H;have awO:=aa (show(cw.good (t::l)).head (⟨#[115,101,108,101,99,116]⟩:u_).data.toList=true from hse);clear YJ h hg cq vt hse hpl H;rw[show Obj.cells st0 64=Zc from rfl]at HQ;unfold Zc at*;clear htr;go_enter func86,ntmps86;go_wp2_with fail;refine(mq ρ _ _ false h0 ⟨#[115,101,108,101,99,116]⟩).mono ?_;rintro e w1 ⟨rfl,b1⟩;rw[awO.ae];have hb1:=aj.then hb b1;have WI:=aa (HQ.ae.later b1);clear HQ h0 b1 hb mC hp;go_wp2_with fail;refine(HR.ae ρ _ (HH.ae.later hb1)).mono ?_;rintro e w3 ⟨qy,rfl,hqd,d3⟩;have HQ:=aa (d3.blk WI.ae WC);have HD:=aa ((eQ.df HH.ae hb1).trans d3);have HS:=aa hqd;have hs9:w.heap.size+1<=w1.heap.size:=WI.ae.lt;clear d3 hqd WI HH;go_wp2_with (first
  |(refine BB rfl 64 _ rfl (cs:=(tX {kind:=8,query:=qy}).toArray) ?hv ?_;rotate_left)
  |(refine wpList_store_row rfl 64 (.tmp 2) (.tmp 8) rfl w.heap.size (tX {kind:=8,query:=qy}).toArray rfl rfl 64 st0 HQ.ae TaJ rfl (Rt _) ?_
    have HR:=aa (HQ.ae.row (tX {kind:=8,query:=qy}).toArray);have HF:=aa (HD.ae.row ei aE (tX {kind:=8,query:=qy}).toArray);have UK:=aa (Qu.at_.keep (jF (show w.heap.size<=w.heap.size+1 by omega)) (Qu.at_.keep (Uz w3 (show w.heap.size<w.heap.size+1 by omega) (tX {kind:=8,query:=qy}).toArray) (Qu.at_.keep (jF hs9) HS.ae)))))
 case hv=>exact X9 qy
 exact bodyPost_ret (v:=stV {kind:=8,query:=qy}) (results_cell_row results86 _ _ w.heap.size 64 (tX {kind:=8,query:=qy}).toArray (0,0) _ rfl HR.ae underlying64 rfl TaJ) rfl ⟨qy,rfl,UK.ae,HF.ae⟩
def Oy(d:Qu)(w:t_)(e:Ending)(w':t_):Prop:=∃y:zy,e=.returned (.tuple #[stV {kind:=8,query:=y},af 0,af 0])/\d.at_ w' (jM w.heap.size w') y/\ai w w'
variable{r0:dI}
theorem aeu(s:u_)(w:t_)(hs:s.size<=4294967280){l:List sB}(Kx:Bg s.data.toList=.ok l){t0:Wd}(hw:l.map (·.w)=t0::r0)(hse:ju fF t0=true)(H:vP (t0::r0) d (t::r))(M7:t.k=0)(hh:(uD d).exprs.length<=1000)(hl:∀x∈(uD d).exprs,x.thin/\x.depth<=32):ar 52 #[.string s] w (Oy d w):=by
 obtain⟨_,hlen,hS⟩:=Ux Kx;have hne:l≠[]:=by intro h;rw[h]at hw;cases hw
 have HSE:=aa (λ ρ w h=>Y0 hse H ρ w h);have HEN:=aa (WZ Kx);have HS:=aa hS;have HO:=aa hw;have HL:=aa hl;have A1:=aa hh;have A2:=aa M7;clear hS hw hl hh hse H M7;have YJ:=aB.new w 64 st0;rw[show Obj.cells st0 64=Zc from rfl]at YJ;have HQ:=aa YJ;clear YJ;unfold Zc at*;go_enter func52,ntmps52;go_wp2_with fail;refine(adF Kx hs).mono ?_;rintro e w1 ⟨A,c,rfl,ht,b1⟩;obtain⟨gl,rfl,hgb,Br,hc⟩:=ht.cells hne;have WI:=aa (HQ.ae.later b1);have HB:=aa (aj.then (ah w _) b1);have hR:=dx.start (c:=c) Br hc HEN.ae hlen HS.ae;rw[HO.ae]at hR;have HR:=aa hR;have LC:w.heap.size<w1.heap.size:=WI.ae.lt;clear ht hc b1 HQ hR hgb hne;go_wp2_with fail;refine(HSE.ae ⟨w1.heap.size,gl,c,l⟩ _ HR.ae).mono ?_;rintro e w2 ⟨qy,rfl,hat,dd⟩;obtain⟨y,hy⟩:∃y:N3,y= {kind:=8,query:=qy}:=⟨_,rfl⟩;rw[<-hy];have HY:=aa hy;clear hy;rw[show(w1.alloc _).heap.size=w1.heap.size+1 by simp]at hat;have bJ:w1.heap.size <(w1.alloc (.cells #[aL gl l.length c,af 0,af (-1),.bool false] 169)).heap.size:=Tad;have lx:=dd.blk (WI.ae.alloc _) Tbk;have hs2:w1.heap.size+1<=w2.heap.size:=by have:=dd.size;simpa using this
 have HD3:=aa ((dd.later (ah w2 Zc)).row bJ (by rw[show(w1.alloc _).heap.size=w1.heap.size+1 by simp];exact hs2) (tX y).toArray);have HY3:=aa ((aB.new w2 64 st0).row (tX y).toArray);have nV:=aa ((lx.alloc Zc).adO (q:=w2.heap.size) WC (tX y).toArray);have aqH:=aa (Qu.at_.keep (NL w2 Zc (tX y).toArray) hat);have fT:=aa (show ai w (w1.alloc (.cells #[aL gl l.length c,af 0,af (-1),.bool false] 169))from aj.then HB.ae (ah w1 _));clear dd hat lx WI HR HB;rw[show(Obj.cells st0 64)=Zc from rfl]at HY3;unfold Zc at*;go_wp2_with (first
  |(refine wpList_store_row rfl 64 (.tmp 9) (.tmp 27) rfl w2.heap.size (tX y).toArray rfl rfl 64 st0 (aB.new w2 64 st0) TaJ rfl (Rt _) ?_))
 generalize ((w2.alloc _).setRow _ _)=W3 at*;refine(cy ⟨w1.heap.size,gl,c,l⟩ _ _ _ HD3.ae.at_ ⟨#[59]⟩ (by show((t.k==1||t.k==4)&&t.s==aiv)=false;rw[A2.ae];rfl)).mono ?_;rintro e w4 ⟨rfl,d4⟩;have HD:=aa (HD3.ae.trans d4);have O1:=aa (d4.blk nV.ae Tbk);have HY4:=aa (d4.blk HY3.ae (by show w2.heap.size≠w1.heap.size;omega));have ajY:=aa (Qu.at_.keep (mo d4.grown (show w1.heap.size<w1.heap.size+1 by omega)) aqH.ae);clear d4 HD3 nV HY3 aqH;have U6:=aa (fT.ae.trans (dz HD.ae.grown fT.ae.size (by show w.heap.size<=w1.heap.size;omega)));obtain⟨tk,pl,bd,hpl,aqI,anY,vt,cq,hg,LD,wV,hp⟩:=HD.ae.at_.xD;obtain⟨r',nX⟩:=hg _ rfl;injection nX with mC _;have M7:=A2.ae;rw[mC]at M7;obtain rfl:bd= -1:=vt;obtain⟨c0,c1,c2,k0,k1,k2,k3⟩:=hp;simp only at c0 c1 c2 k0 k1 k2 k3;have aqI:pl<l.length:=aqI;have aDT:(pl:Int)< l.length:=WC;clear hg cq hpl mC;rw[M7]at k0;have c3:=HD.ae.at_.facts.2.2.2.1;simp only at c3;clear HD Kx M7;go_wp2_with (first
  |(refine wpList_load_row rfl 64 (.tmp 9) rfl w2.heap.size rfl 64 (tX y).toArray (0,0) _ HY4.ae underlying64 rfl TaJ ?_))
 clear c0 c1 c2 c3 k0 k1 k2 k3;have hq9:d.at_ w4 (Old w4) qy:=Qu.at_.keep (λ b hb=>⟨λ _=>rfl,hb.2⟩) ajY.ae;have hqa:=UF hq9;have hst:(tX y).toArray=adS 8 (fG d) (Ru qy):=by rw[HY.ae];unfold adS fG Ru;rw[<-hq9.bU,<-hq9.only];rfl
 have key:=vE (k:=8) (fG d) (Ru qy) w4 hqa.1 (by have h:=A1.ae;simp only[uD,St.exprs,Qu.exprs,length_append,length_map,flatten_nil,length_nil,map_nil]at h;simp only[fG,mj,length_map];omega)
 rw[<-hst]at key;have HE:=aa (show(fG d).all=(uD d).exprs.map rD from XH d);clear hqa hst hq9;refine key.mono ?_;rintro e w5 ⟨v,ys,rfl,hown,hall,b5⟩;obtain⟨sA,sc,rfl,Er⟩:=sW hown;have HQ5:=aa (O1.ae.later b5);have HY5:=aa (HY4.ae.later b5);have awP:=aa (Qu.at_.keep (jo b5) ajY.ae);have wu:=aa (aj.then U6.ae b5);have Si:=aa Er;have Dg:=aa (hall.later b5);obtain⟨sn,MJ⟩:∃sn,sn=ys.length:=⟨_,rfl⟩;have HNL:=aa (show sn=(uD d).exprs.length by rw[MJ,Go.Proofs.YtndgjggokjickaaGreatDoor.Tr.aO.length hall,HE.ae,length_map]);have FN:sn<=1000:=by rw[HNL.ae];exact A1.ae
 rw[<-MJ];clear b5 Er hall hown MJ key O1 HY4 ajY U6;go_wp2_with fail;go_loopw [11] (λ u wr=>∃i:Nat,i<=sn/\u=af i/\ai w5 wr) (λ u _=>sn-(intOf u).toNat);case atStart=>exact Zhs
 case round=>
  obtain⟨i,Xz,rfl,cL⟩:=hrel;have iJ:=aa cL;have HQr:=aa (HQ5.ae.later cL);have HYr:=aa (HY5.ae.later cL);by_cases hlt:i<sn
  ·obtain⟨x,hx⟩:∃x,(uD d).exprs[i]?=some x:=⟨_,getElem?_eq_getElem (by have:=HNL.ae;omega)⟩;obtain⟨yx,TX,aqJ⟩:=Dg.ae.get (t:=rD x) (i:=i) (by rw[HE.ae,getElem?_map,hx];rfl);have aqK:x.at_ w5 (Old w5) (Ow yx):=by have h:=UU _ _ aqJ;rwa [UW]at h
   have aev:=HL.ae x (mem_of_getElem? hx);have HL:=aa (Tr.aou (w:=w5) (S:=Old w5) (λ b hb=>hb) x (Ow yx) aqK aev.1 (by have:=aev.2;omega) wr cL);rcases Si.ae with h0|⟨b,off,hAe,hSb,hcell⟩;subst h0;simp at TX;obtain⟨q0,q1,q2,q3,q4,q5,q6⟩:=(hcell i yx TX).keep (λ o=>cL.cell (p:=⟨b,o,none⟩) hSb);have hdi:¬((x.depth:Int)> 32):=by have:=aev.2;omega
   clear hcell hx TX aqJ aqK aev;subst hAe;go_wp2_with fail;clear q0 q1 q2 q3 q4 q5 q6;refine HL.ae.mono ?_;rintro e w6 ⟨rfl,b6⟩;go_wp2_with fail;go_roundw;case rel=>exact⟨i+1,by omega,by go_num,iJ.ae.trans (b6.mono iJ.ae.size)⟩
   case measure=>exact Za2
  obtain rfl:i=sn:=by omega
  have awQ:=aa (Qu.at_.keep (jo cL) awP.ae);have HBr:=aa (aj.then wu.ae cL);clear cL;go_wp2_with (first
   |(refine wpList_load_row rfl 64 (.tmp 9) rfl w2.heap.size rfl 64 (tX y).toArray (0,0) _ HYr.ae underlying64 rfl TaJ ?_)
   |(refine wpList_store_row rfl 64 (.tmp 2) (.tmp 82) rfl w.heap.size (tX y).toArray rfl rfl 64 st0 HQr.ae TaJ rfl (Rt _) ?_
     have HR9:=aa (HQr.ae.row (tX y).toArray);have HS9:=aa (show Qu.at_ (wr.setRow w.heap.size (tX y).toArray) (jM w.heap.size (wr.setRow w.heap.size (tX y).toArray)) d qy from Qu.at_.keep (jF (show w.heap.size<=w1.heap.size+1 by omega)) (Qu.at_.keep (Uz wr (show w.heap.size<w1.heap.size+1 by omega) (tX y).toArray) awQ.ae));have zM:=aa (HBr.ae.trans (dz (Hv wr w.heap.size (tX y).toArray) HBr.ae.size aE))))
  exact bodyPost_ret (v:=.tuple #[stV y,af 0,af 0]) (Kn results52 _ _ w.heap.size 64 (tX y).toArray (0,0) _ (af 0) (af 0) rfl HR9.ae underlying64 rfl (by rw[show Array.size (tX y).toArray=28 from rfl];exact qB) rfl rfl) rfl ⟨qy,by rw[HY.ae],HS9.ae,zM.ae⟩
def nB(t:Wd):Bool:=t.k==1&&!uq t.s&&!ju QG t&&!ju BR t&&!ju G3 t&&!ju eN t&&!ju G1 t&&!ju tO t
def uB(u:Wd):Bool:=lH 0 u==0&&lH 1 u==0&&lH 4 u==0&&lH 5 u==0&&!ju adj u
theorem AB(h:nB t=true):Ng t/\t.k=1/\uq t.s=false/\∀l,zx (t::l):=by simp only[nB,Bool.and_eq_true,beq_iff_eq,Bool.not_eq_true']at h;obtain⟨⟨⟨⟨⟨⟨⟨k,a⟩,b⟩,c⟩,d⟩,e⟩,f⟩,g⟩:=h;exact⟨⟨⟨by omega,by omega⟩,b,c,d,e⟩,k,a,λ l=>⟨f,g⟩⟩
variable{u:Wd}
theorem ED(h:uB u=true):Hn u:=by simp only[uB,Bool.and_eq_true,beq_iff_eq,Bool.not_eq_true']at h;exact⟨h.1.1.1.1,h.1.1.1.2,h.1.1.2,h.1.2,h.2⟩
theorem Iz(r:dI)(h:nB t=true)(ho:ju eN u=false)(hu:uB u=true)(h3:lH 3 u=0):cZ 0 (t::u::r) (vk ⟨t.s.toArray⟩) (u::r):=
 Nq (Nh (AB h).1 (AB h).2.1 (AB h).2.2.1 ho) ((AB h).2.2.2 _) (ED hu) h3
abbrev nW(s:xb):Wd:=⟨1,s,0⟩
abbrev gW(s:xb):Wd:=⟨4,s,0⟩
abbrev iW(n:Int):Wd:=⟨2,[],n⟩
abbrev eW:Wd:=⟨0,[],0⟩
abbrev tW:Wd:=nW [116,105,109,101]
abbrev vW:Wd:=nW [118]
def kT:Tr:=vk ⟨#[116,105,109,101]⟩
def kV:Tr:=vk ⟨#[118]⟩
def sY:Tr:=.mk 20 kr ByteArray.empty 5 [kT]
abbrev Y2(r:dI):dI:=nW CZ::gW eN::iW 5::gW dO::tW::gW eJ::r
theorem Y3(r:dI)(hu:uB u=true)(h3:lH 3 u=0):cZ 0 (Y2 (u::r)) sY (u::r):=
 Nq (Nn 20 rfl (AB rfl).1 rfl rfl rfl rfl rfl rfl (Iz _ rfl rfl rfl rfl) rfl) ⟨rfl,rfl⟩ (ED hu) h3
def Zd:Qu:= {items:=[(sY,ByteArray.empty),(BQ 23 [kV],ByteArray.empty)],bU:=⟨#[116]⟩,group:=[sY]}
def Ze:Qu:= {items:=[(kV,ByteArray.empty)],bU:=⟨#[116]⟩,bQ:=[BQ 14 [kT,ur ⟨2,1,ByteArray.empty⟩]],order:=[(kV,true)],dA:=[1]}
def Y4:Qu:= {items:=[(kV,ByteArray.empty)],bU:=⟨#[116]⟩,group:=[kT]}
def Zf:Qu:= {items:=[(BQ 21 [],ByteArray.empty)],bU:=⟨#[116]⟩,bQ:=[ur ⟨1,0,ByteArray.empty⟩]}
def wd0:dI:=Y2 (gW dO::nW G6::gW eN::vW::gW eJ::nW zb::nW [116]::nW BS::nW QH::Y2 [eW])
def wd1:dI:=[vW,nW zb,nW [116],nW JQ,tW,gW aiw,iW 1,nW JR,nW QH,vW,nW QI,nW JS,iW 1,eW]
def wd2:dI:=[vW,nW zb,nW [116],nW BS,nW QH,tW,eW]
def wd3:dI:=[nW JT,gW eN,gW ze,gW eJ,nW zb,nW [116],nW JQ,nW BR,eW]
theorem awR:vP (nW fF::wd0) Zd [eW]:=
 BX rfl rfl (.cons (Y3 _ rfl rfl) rfl rfl (.one (Nq (L8 23 ⟨rfl,rfl,rfl,rfl⟩ (AB rfl).1 rfl rfl rfl rfl (Iz _ rfl rfl rfl rfl) rfl) ⟨rfl,rfl⟩ (ED rfl) rfl) rfl rfl)) Tab rfl rfl rfl rfl (.none rfl) (.some rfl rfl rfl (Y3 _ rfl rfl)) rfl (.none rfl) (.none rfl)
theorem awS:vP (nW fF::wd1) Ze [eW]:=
 BX rfl rfl (.one (Iz _ rfl rfl rfl rfl) rfl rfl) Tab rfl rfl rfl rfl (.some rfl (aor 14 Tab Tab (ED rfl) rfl (Nh (AB rfl).1 rfl rfl rfl) ⟨rfl,rfl⟩ (L5 rfl) ⟨rfl,rfl⟩ (ED rfl))) (.none rfl) rfl (.some rfl rfl rfl rfl (Iz _ rfl rfl rfl rfl)) (.some rfl rfl)
theorem awT:vP (nW fF::wd2) Y4 [eW]:=
 BX rfl rfl (.one (Iz _ rfl rfl rfl rfl) rfl rfl) Tab rfl rfl rfl rfl (.none rfl) (.some rfl rfl rfl (Iz _ rfl rfl rfl rfl)) rfl (.none rfl) (.none rfl)
theorem awU:vP (nW fF::wd3) Zf [eW]:=
 BX rfl rfl (.one (Nq (WV 22 rfl (AB rfl).1 rfl rfl rfl rfl rfl rfl) ⟨rfl,rfl⟩ (ED rfl) rfl) rfl rfl) Tab rfl rfl rfl rfl (.some rfl (Nq (Rh ⟨by decide,by decide⟩ rfl rfl) ⟨rfl,rfl⟩ (ED rfl) rfl)) (.none rfl) rfl (.none rfl) (.none rfl)
variable{W:dI}
theorem Ce{s:u_}(hl:(match Bg s.data.toList with|.ok l=>l.map (·.w)|.error _=>[])=nW fF::W)(hs:s.size<=1000)(H:vP (nW fF::W) d [eW])(hnx:(uD d).exprs.length<=1000)(hdx:∀x∈(uD d).exprs,x.thin/\x.depth<=32)(w:t_):ar 52 #[.string s] w (Oy d w):=by
 cases e:Bg s.data.toList with
 |error x=>rw[e]at hl;cases hl
 |ok l=>rw[e]at hl;exact aeu s w WC e hl rfl H rfl hnx hdx
theorem aqL:∀x∈(uD Zd).exprs,x.thin/\x.depth<=32:=by simp[uD,Zd,St.exprs,Qu.exprs,sY,kT,kV,BQ,ur,vk,Tr.thin,Tr.Ar,Tr.depth,Tr.iX]
theorem aqM:∀x∈(uD Ze).exprs,x.thin/\x.depth<=32:=by simp[uD,Ze,St.exprs,Qu.exprs,sY,kT,kV,BQ,ur,vk,Tr.thin,Tr.Ar,Tr.depth,Tr.iX]
theorem aqN:∀x∈(uD Y4).exprs,x.thin/\x.depth<=32:=by simp[uD,Y4,St.exprs,Qu.exprs,sY,kT,kV,BQ,ur,vk,Tr.thin,Tr.Ar,Tr.depth,Tr.iX]
theorem aqO:∀x∈(uD Zf).exprs,x.thin/\x.depth<=32:=by simp[uD,Zf,St.exprs,Qu.exprs,sY,kT,kV,BQ,ur,vk,Tr.thin,Tr.Ar,Tr.depth,Tr.iX]
end Go.Proofs.YtndgjggokjickaaGreatDoor.R
namespace Go.Proofs.YtndgjggokjickaaGreatDoor
open _root_.Go.Proofs.Tryz
variable{p:Sort _}
set_option maxHeartbeats 90000000
set_option maxRecDepth 100000
open Go.ChangeShapes Go.WideShapes Go.ChangeAt Go.RowKit List
set_option linter.unusedVariables false
set_option linter.unusedSimpArgs false
variable{w w':t_}
theorem xU{p:Nat}(h:ai w w'):w.grownBy w' (some p):=⟨h.os,h.tape,h.output,h.size,λ k hk _=>h.block k hk⟩
variable{g:Nat}
theorem eH(h:w.grownBy w' (some g))(i:Nat)(v:Value):w.grownBy (w'.setCell ⟨g,i,none⟩ v) (some g):=
 ⟨h.os,h.tape,h.output,by simpa [World.setCell] using h.size,λ k hk hne=>(Below.heap_setCell w' ⟨g,i,none⟩ v k (λ e=>hne Ta5)).trans (h.block k hk hne)⟩
theorem EE(m:R.N3):(R.tX m).toArray.size=28:=by simp[R.tX,R.Nr,R.N6]
theorem aew(m:R.N3):(R.tX m).toArray.all (·.oneCell')=true:=by simp[R.tX,R.Nr,R.oG,R.N6,Value.oneCell']
theorem Y5:(prog.info? 64).map (·.size)=some 28:=by exact Zhr
def ajZ:x_:=(R.tX {}).toArray
theorem Y6(m:R.zy):(R.Nr m).toArray.size=8:=by simp[R.Nr]
theorem Y7:(prog.info? 27).map (·.size)=some 8:=by exact Zhr
def aex:x_:=(R.Nr {}).toArray
def KU:u_:=⟨#[115,101,108,101,99,116,32]⟩
def Y8(d:R.Qu)(w:t_)(e:Ending)(w':t_):Prop:=∃y:R.zy,e=.returned (R.quV y)/\d.at_ w' (Old w') y/\ai w w'
theorem Z0(s:u_)(d:R.Qu)(hs:(KU++s).size<=1000)(hp:∀w,ar 52 #[.string (KU++s)] w (R.Oy d w))(w:t_):ar 25 #[.string s] w (Y8 d w):=by
 have HP:=aa hp;have Xz:=aB.new w 27 aex;have hB:=ah w (.cells aex 27);clear hp;go_enter func25,ntmps25;go_upto_region 1 with fail;change Code.wp _ _ _ _ (w.alloc (.cells aex 27));generalize w.alloc _=W1 at*;obtain⟨g,hg⟩:∃g,g=w.heap.size:=⟨_,rfl⟩;rw[<-hg]at Xz⊢;have hz:w.heap.size<=g:=WC;have hgW:=Xz.lt;clear hg;have hz1:¬9223372036854775807<7+s.size:=by have h:=hs;rw[ByteArray.size_append]at h;have:KU.size=7:=rfl;omega
 go_wp2_with fail;refine(HP.ae W1).mono ?_;rintro e vy ⟨qy,rfl,hat,b1⟩;obtain⟨y,hy⟩:∃y:R.N3,y= {kind:=8,query:=qy}:=⟨_,rfl⟩;rw[<-hy];replace hat:d.at_ vy (R.jM W1.heap.size vy) y.query:=by rw[hy];exact hat
 clear hy;have c4:=aa hat;replace Xz:=Xz.later b1;replace hB:=aj.then hB b1;clear hat HP;obtain⟨cs,hcs⟩:∃cs,cs=(R.tX y).toArray:=⟨_,rfl⟩;have L9:=aa (show(prog.info? 64).map (·.size)=some cs.size by rw[hcs,EE];exact Y5);have Nl:=aa (show ajZ.size=cs.size by rw[hcs,EE];exact EE _);have zw:=aa (show cs.all (·.oneCell')=true by rw[hcs];exact aew _);have Pt:=aa hcs;unfold R.stV;rw[<-hcs];clear hcs b1 hz1;have HX0:=ah vy (.cells cs 64);have H3:=aB.new vy 64 cs;have hg:=Xz.lt;go_upto_region 2 with (first
  |(refine wpList_store_row rfl 64 (.tmp 3) (.tmp 10) rfl vy.heap.size cs rfl rfl 64 ajZ (aB.new vy 64 ajZ) L9.ae Nl.ae zw.ae ?_
    rw[World.setRow_alloc_new]))
 change Code.wp _ _ _ _ (vy.alloc (.cells cs 64));have awV:=aa (R.Qu.at_.keep (R.jo HX0) c4.ae);replace Xz:=Xz.later HX0;replace hB:=aj.then hB HX0;have l3:w.heap.size<=vy.heap.size:=WC;clear HX0 L9 Nl zw c4;generalize vy.alloc _=Rk at*;generalize vy.heap.size=qx at*;have c0:Rk.cell? ⟨qx,7,none⟩=some (R.oG y.query.items):=(H3.cell 7).trans TaC;have c1:Rk.cell? ⟨qx,8,none⟩=some (.string y.query.bU):=(H3.cell 8).trans TaC;have c2:Rk.cell? ⟨qx,9,none⟩=some (.bool y.query.only):=(H3.cell 9).trans TaC;have c3:Rk.cell? ⟨qx,10,none⟩=some (R.oG y.query.bQ):=(H3.cell 10).trans TaC;have Kx:Rk.cell? ⟨qx,11,none⟩=some (R.oG y.query.group):=(H3.cell 11).trans TaC;have c5:Rk.cell? ⟨qx,12,none⟩=some (R.oG y.query.having):=(H3.cell 12).trans TaC;have c6:Rk.cell? ⟨qx,13,none⟩=some (R.oG y.query.order):=(H3.cell 13).trans TaC;have c7:Rk.cell? ⟨qx,14,none⟩=some (R.oG y.query.dA):=(H3.cell 14).trans TaC;unfold R.oG at c0 c3 Kx c5 c6 c7;have Ig:=Xz.frozen;have z:∀j u,aex[j]?=some u->Rk.cell? ⟨g,j,none⟩=some u:=λ j u h=>(Xz.cell j).trans h;have k0:=z 0 _ rfl;have k1:=z 1 _ rfl;have k2:=z 2 _ rfl;have k3:=z 3 _ rfl;have k4:=z 4 _ rfl;have k5:=z 5 _ rfl;have k6:=z 6 _ rfl;have z7:=z 7 _ rfl;have HR0:=((((((((Xz.aW 0 (.slice y.query.items.A y.query.items.n y.query.items.c)).aW 1 (.string y.query.bU)).aW 2 (.bool y.query.only)).aW 3 (.slice y.query.bQ.A y.query.bQ.n y.query.bQ.c)).aW 4 (.slice y.query.group.A y.query.group.n y.query.group.c)).aW 5 (.slice y.query.having.A y.query.having.n y.query.having.c)).aW 6 (.slice y.query.order.A y.query.order.n y.query.order.c)).aW 7 (.slice y.query.dA.A y.query.dA.n y.query.dA.c));have zA:=aa (eH (eH (eH (eH (eH (eH (eH (eH (xU (p:=g) (Below.refl Rk.heap.size Rk)) 0 (.slice y.query.items.A y.query.items.n y.query.items.c)) 1 (.string y.query.bU)) 2 (.bool y.query.only)) 3 (.slice y.query.bQ.A y.query.bQ.n y.query.bQ.c)) 4 (.slice y.query.group.A y.query.group.n y.query.group.c)) 5 (.slice y.query.having.A y.query.having.n y.query.having.c)) 6 (.slice y.query.order.A y.query.order.n y.query.order.c)) 7 (.slice y.query.dA.A y.query.dA.n y.query.dA.c));have U6:=aa ((((((((hB.setCell (p:=⟨g,0,none⟩) hz (.slice y.query.items.A y.query.items.n y.query.items.c)).setCell (p:=⟨g,1,none⟩) hz (.string y.query.bU)).setCell (p:=⟨g,2,none⟩) hz (.bool y.query.only)).setCell (p:=⟨g,3,none⟩) hz (.slice y.query.bQ.A y.query.bQ.n y.query.bQ.c)).setCell (p:=⟨g,4,none⟩) hz (.slice y.query.group.A y.query.group.n y.query.group.c)).setCell (p:=⟨g,5,none⟩) hz (.slice y.query.having.A y.query.having.n y.query.having.c)).setCell (p:=⟨g,6,none⟩) hz (.slice y.query.order.A y.query.order.n y.query.order.c)).setCell (p:=⟨g,7,none⟩) hz (.slice y.query.dA.A y.query.dA.n y.query.dA.c));have HR:=aa (show aB _ g 27 (R.Nr y.query).toArray from HR0);clear z Xz hB HR0 H3;go_wp2_with fail;have HQ:=R.Qu.at_.keep (λ b hb=>((R.mo zA.ae hgW) b hb).imp id λ h=>h.2) awV.ae;exact bodyPost_ret (v:=R.quV y.query) (results_cell_row results25 _ _ g 27 (R.Nr y.query).toArray (0,0) _ rfl HR.ae underlying27 rfl (by rw[Y6];exact Y7)) rfl ⟨y.query,rfl,HQ,U6.ae⟩
theorem uh(s:u_)(d:R.Qu)(hs:(KU++s).size<=1000)(hp:∀w,ar 52 #[.string (KU++s)] w (R.Oy d w))(w:t_):ar 25 #[.string s] w λ e w'=>∃L,e=.returned (oF (fG d) L)/\su w' (fG d) L/\ai w w':=by refine(Z0 s d hs hp w).mono ?_;rintro e w1 ⟨y,rfl,hat,b⟩;obtain⟨h1,h2⟩:=UF hat;exact⟨Ru y,by rw[h2],h1,b⟩
def N5(n:Nat):Prop:=n<=5
def aey(s:St):Val×Int:=if s.op=21 then(num s.all,0)else s.total
variable{op:Int}
theorem aka(h:op=21\/op=23)(l:List (Val×Val)):gT (lS op l)=aey (lS op l):=by rcases h with rfl|rfl;have hr:=BO (op:=21) WC WC l;have h:=JN (s:=lS 21 l) ⟨num (lS 21 l).all,0,by unfold gZ;rw[hr.kind];simp⟩;unfold gZ at h;rw[hr.kind]at h;simp only[if_pos]at h;unfold aey;rw[hr.kind,if_pos rfl];exact Prod.ext h.1 h.2;have hr:=BO (op:=23) WC WC l;have h:=JN (s:=lS 23 l) ⟨(lS 23 l).total.1,(lS 23 l).total.2,by unfold gZ;rw[hr.kind];simp⟩;unfold gZ at h;rw[hr.kind]at h;unfold aey;rw[hr.kind,if_neg Tab];rw[if_neg Tab,if_neg Tab,if_pos rfl]at h;exact Prod.ext h.1 h.2
def xV(ops:List Int)(l:List (w_×List (Val×Val)))(k:w_):List (Val×Int):=(List.range ops.length).map λ i=>aey (lS (ops.getD i 0) (ow i l k))
variable{ops:List Int}
theorem XI(h:∀op∈ops,op=21\/op=23)(l:List (w_×List (Val×Val)))(k:w_):cg ops l k=xV ops l k:=by unfold cg xV;refine map_congr_left λ i hi=>?_;rw[mem_range]at hi;exact aka (h _ (by rw[getD_eq_getElem?_getD,getElem?_eq_getElem hi];exact getElem_mem hi)) _
def KV(ng:Nat)(aD:vI)(l:z_):uC (z_):=
 let ps:=l.map λ r=>(r.take ng,fU aD (r.drop ng))
 let ks:=if ng=0 then [[]] else fZ (ps.map (·.1))
 let e:=bX (ks.map λ k=>cf (xV (aD.map Tr.op) ps k))
 if e≠0 then .error e else .ok (ks.map λ k=>k++(xV (aD.map Tr.op) ps k).map (·.1))
variable{ng:Nat}{aD:vI}
theorem Z1(h:∀op∈aD.map Tr.op,op=21\/op=23)(l:z_):jE ng aD l=KV ng aD l:=by unfold jE KV;simp only[XI h]
def Z2(q:Qy)(p:iY)(cols:List aZ)(rows:z_):uC (z_):=
 if (cP cols q.bQ rows).2≠0 then .error (cP cols q.bQ rows).2
 else if p.aJ=false then .ok (cP cols q.bQ rows).1
 else match Be ((cP cols q.bQ rows).1.map λ r=>bA cols r (q.aG++p.st.aD.flatMap Tr.args))with
 |.error e=>.error e
 |.ok l=>match KV q.aG.length p.st.aD l with
   |.error e=>.error e
   |.ok gs=>if (cP p.st.aG p.having gs).2≠0 then .error (cP p.st.aG p.having gs).2 else .ok (cP p.st.aG p.having gs).1
def akb(p:iY)(cols:List aZ)(rows:z_):uC (List eu):=
 Be (rows.map λ r=>match bA (ie p cols) r (p.items++p.order)with|.error e=>.error e|.ok l=>.ok (Ag p r l))
def aqP(q:Qy)(cols:List aZ)(rows:z_):uC (List aZ×z_):=
 match et q cols with
 |.error e=>.error e
 |.ok p=>if rows.any (λ r=> !iE cols r)=true then .error 40
   else match Z2 q p cols rows with
   |.error e=>.error e
   |.ok left=>match akb p cols left with
     |.error e=>.error e
     |.ok ls=>.ok (p.head,((match q.lim with|[]=>iF (q.ord.map λ o:Tr×Bool=>o.2) ls|n::_=>(iF (q.ord.map λ o:Tr×Bool=>o.2) ls).take n.toNat).map eu.row))
def ui(q:Qy)(cols:List aZ):Bool:=match et q cols with
 |.error _=>true
 |.ok p=>(p.st.aD.map Tr.op).all λ op=>op==21||op==23
variable{q:Qy}{cols:List aZ}
theorem UY(h:ui q cols=true)(rows:z_):iZ q cols rows=aqP q cols rows:=by
 unfold iZ aqP;unfold ui at h;cases hp:et q cols with
 |error e=>rfl
 |ok p=>
   rw[hp]at h;have jN:∀op∈p.st.aD.map Tr.op,op=21\/op=23:=λ op ho=>by have:=List.all_eq_true.1 h op ho;simpa using this
   have hl:xp q p cols rows=Z2 q p cols rows:=by unfold xp Z2;simp only[Z1 jN];rfl
   show(if _ then _ else match xp q p cols rows with|.error e=>_|.ok left=>match yZ p cols left with|.error e=>_|.ok ls=>_)=_;rw[hl];rfl
def mY:List aZ:=[⟨⟨#[116,105,109,101]⟩,2⟩,⟨⟨#[118]⟩,2⟩]
def xW:z_:=[[num 1,num 5],[num 2,num 7],[num 6,num 1]]
def t0B:u_:=⟨#[98,117,99,107,101,116,40,53,44,32,116,105,109,101,41,44,32,115,117,109,40,118,41,32,102,114,111,109,32,116,32,103,114,111,117,112,32,98,121,32,98,117,99,107,101,116,40,53,44,32,116,105,109,101,41]⟩
theorem aqQ(w:t_):ar 52 #[.string (KU++t0B)] w (R.Oy R.Zd w):=R.Ce (W:=R.wd0) Taa Tab R.awR Tab R.aqL w
theorem aez:ui (fG R.Zd) mY=true:=by exact Zhr
def SC:List aZ:=match et (fG R.Zd) mY with|.ok p=>p.head|.error _=>[]
theorem aeA:iZ (fG R.Zd) mY xW=.ok (SC,[[num 0,num 12],[num 5,num 1]]):=by rw[UY aez];exact Zhr
def t1B:u_:=⟨#[118,32,102,114,111,109,32,116,32,119,104,101,114,101,32,116,105,109,101,32,62,32,49,32,111,114,100,101,114,32,98,121,32,118,32,100,101,115,99,32,108,105,109,105,116,32,49]⟩
theorem aqR(w:t_):ar 52 #[.string (KU++t1B)] w (R.Oy R.Ze w):=R.Ce (W:=R.wd1) Taa Tab R.awS Tab R.aqM w
theorem aeB:ui (fG R.Ze) mY=true:=by exact Zhr
def SD:List aZ:=match et (fG R.Ze) mY with|.ok p=>p.head|.error _=>[]
theorem aeC:iZ (fG R.Ze) mY xW=.ok (SD,[[num 7]]):=by rw[UY aeB];exact Zhr
def t2B:u_:=⟨#[118,32,102,114,111,109,32,116,32,103,114,111,117,112,32,98,121,32,116,105,109,101]⟩
theorem aqS(w:t_):ar 52 #[.string (KU++t2B)] w (R.Oy R.Y4 w):=R.Ce (W:=R.wd2) Taa Tab R.awT Tab R.aqN w
theorem aeD:ui (fG R.Y4) mY=true:=by exact Zhr
theorem aeE:iZ (fG R.Y4) mY xW=.error 42:=by rw[UY aeD];exact Zhr
def t3B:u_:=⟨#[99,111,117,110,116,40,42,41,32,102,114,111,109,32,116,32,119,104,101,114,101,32,102,97,108,115,101]⟩
theorem aqT(w:t_):ar 52 #[.string (KU++t3B)] w (R.Oy R.Zf w):=R.Ce (W:=R.wd3) Taa Tab R.awU Tab R.aqO w
theorem aeF:ui (fG R.Zf) mY=true:=by exact Zhr
def SE:List aZ:=match et (fG R.Zf) mY with|.ok p=>p.head|.error _=>[]
theorem aeG:iZ (fG R.Zf) mY xW=.ok (SE,[[num 0]]):=by rw[UY aeF];exact Zhr
def zdI.KaJ(h:p:=by clear Xz hB HB;go_wp2_with fail;exact bodyPost_ret (v:=.agg #[ag 2,af n,au]) (results_cell_row results27 _ _ g 44 _ (0,0) _ rfl HR.ae underlying44 rfl rfl) rfl ⟨rfl,U6.ae⟩):=h
def zgj.KbC(h:p:=by rw[<-hg]at Xz⊢;have hz:w.heap.size<=g:=WC;clear hg;have HB:=aa hB;have HR:=(((Xz.aW 0 (ag 2)).aW 1 (af n)).aW 2 (au));have U6:=aa (((hB.setCell (p:=⟨g,0,none⟩) hz (ag 2)).setCell (p:=⟨g,1,none⟩) hz (af n)).setCell (p:=⟨g,2,none⟩) hz (au));have HR:=aa (show aB _ g 44 #[ag 2,af n,au] from HR);open zdI in exact ZbY):=h
theorem fP(n:Int)(w:t_):ar 27 #[af n] w λ e w'=>e=.returned (.agg #[ag 2,af n,au])/\ai w w':=by have hB:=ah w (.cells #[ag 0,af 0,au] 44);have Xz:=aB.new w 44 #[ag 0,af 0,au];go_enter func27,ntmps27;open zgj in exact ZeH
variable{a b:Int}
theorem EF(h:aB w g 44 #[ag 2,af a,au,ag 2,af b,au]):RV w w.heap.size (some ⟨g,0,none⟩) [num a,num b]:=by
 refine .inr ⟨_,0,rfl,h.lt,λ i x hx=>?_⟩
 match i,hx with
 |0,hx=>exact Zie
 |1,hx=>injection hx with hx;subst hx;exact⟨h.cell 3,h.cell 4,h.cell 5⟩
 |n+2,hx=>cases hx
def ziT.KcD(h:p:=by
 clear b1;have K4:=aa (aB.new (w6.alloc (.cells #[ag 2,af 6,au,ag 2,af 1,au] 44)) 38 #[aL w2.heap.size 2 2,aL w4.heap.size 2 2,aL w6.heap.size 2 2]);generalize World.alloc (World.alloc w6 _) _=W at*;rw[World.size_alloc]at K4;refine bodyPost_ret (v:=.tuple #[aL w.heap.size 2 2,aL (w6.heap.size+1) 3 3]) (by simp[results,results24,go_sem];done) rfl ?_;refine⟨some ⟨w.heap.size,0,none⟩,2,some ⟨w6.heap.size+1,0,none⟩,3,[⟨some ⟨w2.heap.size,0,none⟩,[num 1,num 5],2⟩,⟨some ⟨w4.heap.size,0,none⟩,[num 2,num 7],2⟩,⟨some ⟨w6.heap.size,0,none⟩,[num 6,num 1],2⟩],rfl,?_,?_,rfl,HB.ae⟩
 ·refine .inr ⟨_,0,rfl,HK.ae.lt,λ i x hx=>?_⟩
  match i,hx with
  |0,hx=>injection hx with hx;subst hx;exact⟨HK.ae.cell 0,HK.ae.cell 1⟩
  |1,hx=>injection hx with hx;subst hx;exact⟨HK.ae.cell 2,HK.ae.cell 3⟩
  |n+2,hx=>cases hx
 refine .inr ⟨_,0,rfl,K4.ae.lt,λ i x hx=>?_⟩
 match i,hx with
 |0,hx=>injection hx with hx;subst hx;exact⟨K4.ae.cell 0,EF K1.ae⟩
 |1,hx=>injection hx with hx;subst hx;exact⟨K4.ae.cell 1,EF K2.ae⟩
 |2,hx=>injection hx with hx;subst hx;exact⟨K4.ae.cell 2,EF K3.ae⟩
 |n+3,hx=>cases hx):=h
theorem XJ(w:t_):ar 24 #[] w λ e w'=>∃CA cc RA rc rs,e=.returned (.tuple #[.slice CA mY.length cc,.slice RA rs.length rc])/\RC w' w'.heap.size CA mY/\RR w' w'.heap.size RA rs/\rs.map (·.l)=xW/\ai w w':=by go_enter func24,ntmps24;go_wp2_with fail;have HB:=aa (ah w (.cells #[.string ⟨#[116,105,109,101]⟩,ag 2,.string ⟨#[118]⟩,ag 2] 113));have HK:=aa (aB.new w 113 #[.string ⟨#[116,105,109,101]⟩,ag 2,.string ⟨#[118]⟩,ag 2]);refine(fP _ _).mono ?_;rintro e w1 ⟨rfl,b1⟩;replace HK:=aa (HK.ae.later b1);replace HB:=aa (aj.then HB.ae b1);clear b1;go_wp2_with fail;refine(fP _ _).mono ?_;rintro e w2 ⟨rfl,b1⟩;replace HK:=aa (HK.ae.later b1);replace HB:=aa (aj.then HB.ae b1);clear b1;go_wp2_with fail;have b1:=ah w2 (.cells #[ag 2,af 1,au,ag 2,af 5,au] 44);replace HK:=aa (HK.ae.later b1);replace HB:=aa (aj.then HB.ae b1);clear b1;have K1:=aa (aB.new w2 44 #[ag 2,af 1,au,ag 2,af 5,au]);refine(fP _ _).mono ?_;rintro e w3 ⟨rfl,b1⟩;replace HK:=aa (HK.ae.later b1);replace K1:=aa (K1.ae.later b1);replace HB:=aa (aj.then HB.ae b1);clear b1;go_wp2_with fail;refine(fP _ _).mono ?_;rintro e w4 ⟨rfl,b1⟩;replace HK:=aa (HK.ae.later b1);replace K1:=aa (K1.ae.later b1);replace HB:=aa (aj.then HB.ae b1);clear b1;go_wp2_with fail;have b1:=ah w4 (.cells #[ag 2,af 2,au,ag 2,af 7,au] 44);replace HK:=aa (HK.ae.later b1);replace K1:=aa (K1.ae.later b1);replace HB:=aa (aj.then HB.ae b1);clear b1;have K2:=aa (aB.new w4 44 #[ag 2,af 2,au,ag 2,af 7,au]);refine(fP _ _).mono ?_;rintro e w5 ⟨rfl,b1⟩;replace HK:=aa (HK.ae.later b1);replace K1:=aa (K1.ae.later b1);replace K2:=aa (K2.ae.later b1);replace HB:=aa (aj.then HB.ae b1);clear b1;go_wp2_with fail;refine(fP _ _).mono ?_;rintro e w6 ⟨rfl,b1⟩;replace HK:=aa (HK.ae.later b1);replace K1:=aa (K1.ae.later b1);replace K2:=aa (K2.ae.later b1);replace HB:=aa (aj.then HB.ae b1);clear b1;go_wp2_with fail;have b1:=ah w6 (.cells #[ag 2,af 6,au,ag 2,af 1,au] 44);replace HK:=aa (HK.ae.later b1);replace K1:=aa (K1.ae.later b1);replace K2:=aa (K2.ae.later b1);replace HB:=aa (aj.then HB.ae b1);clear b1;have K3:=aa (aB.new w6 44 #[ag 2,af 6,au,ag 2,af 1,au]);have b1:=ah (w6.alloc (.cells #[ag 2,af 6,au,ag 2,af 1,au] 44)) (.cells #[aL w2.heap.size 2 2,aL w4.heap.size 2 2,aL w6.heap.size 2 2] 38);open ziT in exact ZiM
def x6V(vx:Val)(gv b off n cc k:Nat)(ct:Int)(gd nz ne:Bool):Nat->t_->Value->Prop
 |0,_,v=>v=.agg (aC vx)
 |1,_,v=>v=(cond gd (.bool true) (.bool false))
 |2,_,v=>v=(cond gd (.bool false) (.bool true))
 |3,_,v=>v=(cond gd (.bool false) (.bool true))
 |4,_,v=>v=(cond gd (aw gv) (undef))
 |5,_,v=>v=(cond gd (ag vx.k) (undef))
 |6,_,v=>v=(cond gd ((cond nz (.bool true) (.bool false))) (undef))
 |7,_,v=>v=(cond gd ((cond nz (.bool true) (.bool false))) (undef))
 |8,_,v=>v=(cond gd ((cond nz (aw gv) (undef))) (undef))
 |9,_,v=>v=(cond gd ((cond nz (ag vx.k) (undef))) (undef))
 |10,_,v=>v=(cond gd ((cond nz (.slice (some ⟨b,off,none⟩) n cc) (undef))) (undef))
 |11,_,v=>v=(cond gd ((cond nz (af k) (undef))) (undef))
 |12,_,v=>v=(cond gd ((cond nz (aY b (off+k*2)) (undef))) (undef))
 |13,_,v=>v=(cond gd ((cond nz (aY b (off+k*2+1)) (undef))) (undef))
 |14,_,v=>v=(cond gd ((cond nz (ag ct) (undef))) (undef))
 |15,_,v=>v=(cond gd ((cond nz ((cond ne (.bool true) (.bool false))) (undef))) (undef))
 |16,_,v=>v=(cond gd ((cond nz ((cond ne (.bool true) (.bool false))) (.bool false))) (undef))
 |17,_,v=>v=(cond gd ((cond nz ((cond ne (.bool true) (.bool false))) (.bool false))) (.bool true))
 |_,_,_=>False
theorem XK(vx:Val)(gv b off n cc k:Nat)(ct:Int)(gd nz ne:Bool):∀i w w' v,x6V vx gv b off n cc k ct gd nz ne i w v->aj w w'->x6V vx gv b off n cc k ct gd nz ne i w' v:=by
 intro i w w' v h hl
 match i with
 |0|1|2|3|4|5|6|7|8|9|10|11|12|13|14|15|16|17=>exact h
 |n+18=>exact h
variable{c:aZ}{cs:List aZ}{vs:w_}
theorem pw{v:Val}:iE (c::cs) (v::vs)=(Hd c v&&iE cs vs):=rfl
theorem Oz:∀{cs:List aZ}{vs:w_},cs.length≠vs.length->iE cs vs=false
 |[],[],h=>absurd rfl h
 |[],_::_,_=>rfl
 |_::_,[],_=>rfl
 |c::cs,v::vs,h=>by rw[pw,Oz (λ e=>h (by simp[e])),Bool.and_false]
def zhv.Kb4(h:p:=by have h1:_=_:=hr.2.1;have KK:(i:Int)<(cols.length:Int):=WC;exact aq (w':=W4) (by simp[go_sem,h0,h1,KK,rB,dX];done) ⟨aj.refl _,rfl⟩):=h
def zhw.Kb4(h:p:=by have jP:=(hL.cell (p:=⟨Kx,aBY+i*2+1,none⟩) HBS.ae).trans HCT.ae;exact Zd5):=h
def zhx.Kb4(h:p:=by have h1:_=_:=hr.2.1;have e1:=oD.ae.2 rfl;exact ZhA):=h
def zhy.Kb4(h:p:=by have h1:_=_:=hr.2.1;have e1:=oD.ae.1 rfl;exact ZhA):=h
theorem Z3(cols:List aZ)(CA:xP)(cc:Nat)(row:w_)(RA:xP)(rc:Nat)(w:t_)(pD:cols.length<=140737488355328)(HZ:row.length<=140737488355328)(kB:RC w w.heap.size CA cols)(hg4:RV w w.heap.size RA row):
  ar 31 #[.slice CA cols.length cc,.slice RA row.length rc] w λ e w'=>e=.returned (.bool (iE cols row))/\ai w w':=by
 have HI:=aa kB;have LI:=aa hg4;have Ie:=aa pD;have uv:=aa HZ;clear kB hg4 pD HZ;obtain⟨rt,hrt⟩:∃rt,rt=iE cols row:=⟨_,rfl⟩;rw[<-hrt];have MN:=aa hrt;clear hrt;by_cases hl:cols.length=row.length
 case neg=>
  have hr:rt=false:=by rw[MN.ae];exact Oz hl
  subst hr;have t1:((cols.length:Int) !=(row.length:Int))=true:=Tac;have t2:decide ((cols.length:Int)=(row.length:Int))=false:=Tac;have t3:decide (cols.length=row.length)=false:=by simp[hl]
  have hb:=Below.refl w.heap.size w;clear hl;go_enter func31,ntmps31;exact Zfm
 have t1:((cols.length:Int) !=(row.length:Int))=false:=by simp[hl]
 have t2:decide ((cols.length:Int)=(row.length:Int))=true:=by simp[hl]
 have t3:decide (cols.length=row.length)=true:=by simp[hl]
 have Az:=aa hl;clear hl;go_enter func31,ntmps31;go_wp2_with fail;clear t1 t2 t3;go_loopw [14] (λ Lw wr=>∃i:Nat,i<=row.length/\Lw=af i/\rt=iE (cols.drop i) (row.drop i)/\ai w wr) (λ Lw _=>row.length-(intOf Lw).toNat);case atStart=>exact⟨0,gE,rfl,MN.ae,cX⟩
 case round=>
  clear MN;obtain⟨i,hk,rfl,hp,hb⟩:=hrel;have HP:=aa hp;clear hp;have HZ:=uv.ae;by_cases hlt:i<row.length
  ·have rB:i<cols.length:=by have:=Az.ae;omega
   obtain⟨b2,aDY,rfl,hb1,hx⟩:=(LI.ae.below hb).at_ hlt;obtain⟨Kx,aBY,rfl,hb2,TK⟩:=(HI.ae.below hb).at_ rB;have Kd:=aa (show cols.drop i=cols[i]::cols.drop (i+1)from drop_eq_getElem_cons rB);have LH:=aa (show row.drop i=row[i]::row.drop (i+1)from drop_eq_getElem_cons hlt);generalize row[i]=v at*;generalize cols[i]=c at*;unfold ej at hx;unfold qW at TK;go_upto_region 6 with fail;have HG:=aB.new wr 44 (aC v);have bV:=ah wr (.cells (aC v) 44);have hct:=(bV.cell (p:=⟨Kx,aBY+i*2+1,none⟩) (eS hb2 hb.size)).trans TK.2;have HCT:=aa hct;have hB:=aj.then hb bV;have Lz:Kx <(wr.alloc (.cells (aC v) 44)).heap.size:=eS (eS hb2 hb.size) bV.size;have HBS:=aa Lz;generalize wr.alloc _=W2 at*;obtain⟨g8,F3⟩:∃g8,g8=wr.heap.size:=⟨_,rfl⟩;rw[<-F3]at HG⊢;clear F3 hx TK hct bV Lz;obtain⟨gd,hgd⟩:∃gd,gd=good v:=⟨_,rfl⟩;obtain⟨nz,hnz⟩:∃nz:Bool,(nz=true->v.k≠0)/\(nz=false->v.k=0):=by by_cases h:v.k=0;exact⟨false,λ h=>Tae,λ _=>h⟩;exact Zhx
   obtain⟨ne,hne⟩:∃ne:Bool,(ne=true->v.k≠c.t)/\(ne=false->v.k=c.t):=by by_cases h:v.k=c.t;exact⟨false,λ h=>Tae,λ _=>h⟩;exact Zhx
   have PB:=aa hgd;have PA:=aa hnz;have oD:=aa hne;clear hgd hnz hne;refine bD 18 (x6V v g8 Kx aBY cols.length cc i c.t gd nz ne) (XK _ _ _ _ _ _ _ _ _ _ _) Taa Taa Taa ?_ ?_
   ·simp only[take_succ_cons,take_zero];refine⟨?_,?_,Zix,Zix,?_,?_,?_,?_,Za1,?_,Za1,Za1,?_,Za1,?_,?_,?_,?_,trivial⟩
    ·intro ρ W4 hc hL hr;exact Zdi
    ·intro ρ W4 hc hL hr;cases gd
     ·exact ZdV
     exact ZdV
    ·intro ρ W4 hc hL hr;cases gd
     ·exact Zbz
     exact Zge
    ·intro ρ W4 hc hL hr;cases gd
     ·exact Zbz
     skip;intro hg;have hg:ρ (.tmp 22)=.bool false:=hg;refine⟨λ _=>?_,λ hn=>absurd hg hn⟩;exact Zdi
    ·intro ρ W4 hc hL hr;cases gd
     ·exact ZgS
     skip;cases nz
     ·skip;cases ne
      ·exact ZdF
      exact ZdF
     skip;cases ne
     exact ZdG;exact ZdG
    ·intro ρ W4 hc hL hr;cases gd
     ·skip;cases nz
      ·exact Zbz
      exact Zbz
     skip;cases nz
     exact Zge;exact Zge
    ·intro ρ W4 hc hL hr;cases gd
     ·exact Zg0
     skip;cases nz
     exact Zc5
     skip;intro hg;have hg:ρ (.tmp 26)=.bool true:=hg;refine⟨λ _=>?_,λ hn=>absurd hg hn⟩;exact Zdi
    ·intro ρ W4 hc hL hr;cases gd
     ·exact Zg0
     skip;cases nz
     exact Zc5
     open zhv in exact ZfG
    ·intro ρ W4 hc hL hr;cases gd
     ·exact Zg0
     skip;cases nz
     exact Zc5
     open zhw in exact ZfG
    ·intro ρ W4 hc hL hr;cases gd
     ·skip;cases nz
      ·skip;cases ne
       ·exact ZbN
       exact ZbN
      skip;cases ne
      exact ZbN;exact ZbN
     skip;cases nz
     ·skip;cases ne
      ·exact Zc5
      exact Zc5
     skip;cases ne
     ·open zhx in exact ZfG
     open zhy in exact ZfG
    ·intro ρ W4 hc hL hr;cases gd
     ·exact ZgS
     skip;cases nz
     ·skip;cases ne
      ·exact ZcQ
      exact ZcQ
     skip;cases ne
     exact ZcQ;exact ZcQ
    intro ρ W4 hc hL hr;cases gd
    ·skip;cases nz
     ·exact ZfT
     exact ZfT
    skip;cases nz
    exact ZfT;exact ZfT
   intro W3 hL;simp only[Uab];rintro a0-a1-a2-a3-a4-a5-a6-a7-a8-a9-Hc-S1-a12-a13-a14-a15-a16-_ rfl;simp only[bw,Act.put,Uac];have hW:=aj.then hB hL;clear HG HCT HBS hB hL hb;cases gd
   ·skip;have hr:rt=false:=by rw[HP.ae,Kd.ae,LH.ae,pw];unfold Hd;rw[<-PB.ae];rfl
    exact ZhT
   cases nz
   ·skip;have hr:rt=iE (cols.drop (i+1)) (row.drop (i+1)):=by rw[HP.ae,Kd.ae,LH.ae,pw];unfold Hd;rw[<-PB.ae];rw[PA.ae.2 rfl];rfl
    have HR:=aa hr;clear hr HP Kd LH PB PA oD;exact ZcV
   cases ne
   ·skip;have hr:rt=iE (cols.drop (i+1)) (row.drop (i+1)):=by rw[HP.ae,Kd.ae,LH.ae,pw];unfold Hd;rw[<-PB.ae];rw[oD.ae.2 rfl];simp
    have HR:=aa hr;clear hr HP Kd LH PB PA oD;exact ZcV
   skip
   have hr:rt=false:=by
    rw[HP.ae,Kd.ae,LH.ae,pw];unfold Hd;rw[<-PB.ae];have e1:(v.k==0)=false:=by have:=PA.ae.1 rfl;simpa using this
    have e2:(v.k==c.t)=false:=by have:=oD.ae.1 rfl;simpa using this
    rw[e1,e2];rfl
   exact ZhT
  have fX:i=row.length:=by omega
  have hr:rt=true:=by rw[HP.ae,drop_eq_nil_of_le (by have:=Az.ae;omega),drop_eq_nil_of_le WC];rfl
  subst hr;exact Zfm
def zfC.Kbl(h:p:=by obtain⟨y,sb⟩:=yb;dsimp only at*;have HS:=aa hS;have oC:=aa gO;clear hS gO;skip;exact ZfW):=h
theorem KX(gc:Nat)(A:xP)(c:Nat)(args:List (aK×Bool))(w:t_)(hl:args.length<=1599289640356)(hA:RR w w.heap.size A (args.map (·.1)))(hE:∀a∈args,∀W,ai w W->ar 30 #[.slice a.1.A a.1.l.length a.1.c,aw gc] W λ e w'=>e=.returned (.bool a.2)/\ai W w'):
  ar 62 #[.slice A args.length c,.func (.func 30) #[] #[.pointer (some ⟨gc,0,none⟩)]] w λ e w'=>e=.returned (.int .i64 (gI (args.map (·.2))))/\ai w w':=by
 have HA:=aa hA;have HE:=aa hE;clear hA hE;go_enter func62,ntmps62;go_wp2_with fail;go_loopw [5,8] (λ _ Kx wr=>∃i:Nat,i<=args.length/\Kx=af i/\(∀j,j<i->(args.map (·.2)).getD j false=false)/\ai w wr) (λ _ Kx _=>args.length-(intOf Kx).toNat);case atStart=>exact ZfY
 case round=>
  obtain⟨i,hk,rfl,hp,hb⟩:=hrel;have HP:=aa hp;clear hp;by_cases hlt:i<args.length
  ·open zfC in exact ZdU
  exact ZdK
theorem BC(gc:Nat)(A:xP)(c:Nat)(args:List (aK×Bool))(w:t_)(hl:args.length<=1599289640356)(hA:RR w w.heap.size A (args.map (·.1)))(hE:∀a∈args,∀W,ai w W->ar 30 #[.slice a.1.A a.1.l.length a.1.c,aw gc] W λ e w'=>e=.returned (.bool a.2)/\ai W w'):
  ar 29 #[.slice A args.length c,.func (.func 30) #[] #[.pointer (some ⟨gc,0,none⟩)]] w λ e w'=>e=.returned (.bool ((args.map (·.2)).any id))/\ai w w':=by have hi:=KX gc A c args w hl hA hE;rw[xf];clear hA hE;go_enter func29,ntmps29;exact Za5
theorem OC(gc:Nat)(cols:List aZ)(CA:xP)(cc:Nat)(r:aK)(w:t_)(hgc:gc<w.heap.size)(hcc:w.cell? ⟨gc,0,none⟩=some (.slice CA cols.length cc))(cj:cols.length<=140737488355328)(lQ:r.l.length<=140737488355328)(hC:RC w w.heap.size CA cols)(hV:RV w w.heap.size r.A r.l):
  ar 30 #[.slice r.A r.l.length r.c,aw gc] w λ e w'=>e=.returned (.bool (!iE cols r.l))/\ai w w':=by have h:=Z3 cols CA cc r.l r.A r.c w cj lQ hC hV;have HH:=aa h;clear h hC hV cj lQ;go_enter func30,ntmps30;go_wp2_with fail;refine HH.ae.mono ?_;exact Zdl
theorem OD(gc:Nat)(cols:List aZ)(CA:xP)(cc:Nat)(rows:List aK)(A:xP)(c:Nat)(w:t_)(hgc:gc<w.heap.size)(hcc:w.cell? ⟨gc,0,none⟩=some (.slice CA cols.length cc))(cj:cols.length<=140737488355328)(hn:rows.length<=1599289640356)(lQ:∀r∈rows,r.l.length<=140737488355328)(hC:RC w w.heap.size CA cols)(hR:RR w w.heap.size A rows):
  ar 29 #[.slice A rows.length c,.func (.func 30) #[] #[.pointer (some ⟨gc,0,none⟩)]] w λ e w'=>e=.returned (.bool (rows.any λ r=> !iE cols r.l))/\ai w w':=by
 have h:=BC gc A c (rows.map λ r=>(r,!iE cols r.l)) w (by simpa using hn) (by simpa [Function.comp_def] using hR) (λ a ha W hW=>by
  obtain⟨r,hr,rfl⟩:=List.mem_map.1 ha;have uw:RV W W.heap.size r.A r.l:=by obtain⟨k,hk,he⟩:=getElem_of_mem hr;obtain⟨b,off,_,_,_,h5⟩:=(hR.below hW).at_ hk;rw[he]at h5;exact h5.more hW.size
  exact OC gc cols CA cc r W (eS hgc hW.size) ((hW.cell (p:=⟨gc,0,none⟩) hgc).trans hcc) cj (lQ r hr) (hC.later hW) uw)
 rw[length_map,map_map,any_map]at h;exact h
def c4V(g4 g5 k b1 o1 b2 o2:Nat)(ka kb:Value)(x y:Val):Nat->t_->Value->Prop
 |0,_,v=>v=aY g4 1
 |1,_,v=>v=ka
 |2,_,v=>v=af k
 |3,_,v=>v=aY b1 (o1+k*3)
 |4,_,v=>v=.agg (aC x)
 |5,_,v=>v=aY g5 1
 |6,_,v=>v=kb
 |7,_,v=>v=af k
 |8,_,v=>v=aY b2 (o2+k*3)
 |9,_,v=>v=.agg (aC y)
 |10,_,v=>v=af (bC x y)
 |11,_,v=>v=af (bC x y)
 |_,_,_=>False
theorem XL(g4 g5 k b1 o1 b2 o2:Nat)(ka kb:Value)(x y:Val):∀i w w' v,c4V g4 g5 k b1 o1 b2 o2 ka kb x y i w v->aj w w'->c4V g4 g5 k b1 o1 b2 o2 ka kb x y i w' v:=by
 intro i w w' v h hl
 match i with
 |0|1|2|3|4|5|6|7|8|9|10|11=>exact h
 |n+12=>exact h
structure ru where
 row:aK
 keys:aK
def ru.v(l:ru):Value:=.agg #[.slice l.row.A l.row.l.length l.row.c,.slice l.keys.A l.keys.l.length l.keys.c]
def ru.s(l:ru):eu:=⟨l.row.l,l.keys.l⟩
structure ru.At (w:t_) (l:ru) (n:Nat):Prop where
 row:RV w w.heap.size l.row.A l.row.l
 keys:RV w w.heap.size l.keys.A l.keys.l
 len:l.keys.l.length=n
 short:l.row.l.length<=1000
variable{l:ru}{n:Nat}
theorem ru.At.later(h:l.At w n)(hb:ai w w'):l.At w' n:=⟨h.row.later hb,h.keys.later hb,h.len,h.short⟩
variable{x y:Int}
theorem Z4(h:x≠0):pB x y=x:=if_neg h
theorem IB:pB 0 y=y:=if_pos rfl
variable{d:Bool}{ds:List Bool}{la lb:w_}
theorem SF{a b:Val}:xm (d::ds) (a::la) (b::lb)=pB (F5 d a b) (xm ds la lb):=rfl
theorem XM(x y z:Int):pB (pB x y) z=pB x (pB y z):=by
 unfold pB;repeat' split
 all_goals first|rfl |(exfalso;omega)|omega
theorem OE(gp:Nat)(aG:List (Tr×Bool))(oA:xP)(on oc:Nat)(a b:ru)(w:t_)(hS:aG.length<=1599289640356)(qZ:gp<w.heap.size)(Dn:w.cell? ⟨gp,6,none⟩=some (.slice oA on oc))(hO:fh w (aG.map λ x=>(x.1,Value.bool x.2)) oA on)(pd:a.At w aG.length)(hb:b.At w aG.length):
  ar 39 #[aw gp,a.v,b.v] w λ e w'=>e=.returned (af (xo (aG.map λ x=>x.2) a.s b.s))/\ai w w':=by
 obtain⟨hn,ys,hys,a2,hy3⟩:=hO;rw[length_map]at hn;subst hn;have M7:ys.length=aG.length:=by have:=congrArg List.length a2;simpa using this
 have hh:∀(i:Nat) (z:Ex×Value) (o:Tr×Bool),ys[i]?=some z->aG[i]?=some o->z.2=.bool o.2:=λ i z o hz ho=>by have h1:=congrArg (λ l=>l[i]?) a2;simp only[getElem?_map,hz,ho,Option.map_some]at h1;injection h1
 clear a2 hy3;obtain⟨⟨rA,rl,rc⟩,⟨kA,Gh,kc⟩⟩:=a;obtain⟨⟨sA,sl,sc⟩,⟨jA,jl,jc⟩⟩:=b;obtain⟨rt,hrt⟩:∃rt,rt=xo (aG.map λ x=>x.2) (ru.s ⟨⟨rA,rl,rc⟩,⟨kA,Gh,kc⟩⟩) (ru.s ⟨⟨sA,sl,sc⟩,⟨jA,jl,jc⟩⟩):=⟨_,rfl⟩;rw[<-hrt];have hw:=pd.len;have hl:=hb.len;dsimp only at hw hl;unfold ru.v;dsimp only;have aqV:rt=pB (xm ((aG.map λ x=>x.2).drop 0) (Gh.drop 0) (jl.drop 0)) (bT rl sl):=hrt;have MN:=aa aqV;clear hrt aqV;have HS:=aa hS;have HO:=aa hw;have HL:=aa hl;have A1:=aa hh;have A2:=aa M7;have b0:=ah w (.cells #[.slice rA rl.length rc,.slice kA Gh.length kc] 91);have pD:=aB.new w 91 #[.slice rA rl.length rc,.slice kA Gh.length kc];have b2:=ah (w.alloc (.cells #[.slice rA rl.length rc,.slice kA Gh.length kc] 91)) (.cells #[.slice sA sl.length sc,.slice jA jl.length jc] 91);have HZ:=aB.new (w.alloc (.cells #[.slice rA rl.length rc,.slice kA Gh.length kc] 91)) 91 #[.slice sA sl.length sc,.slice jA jl.length jc];replace pD:=pD.later b2;have bb:=aj.then b0 b2;rw[World.size_alloc]at HZ;have ud:=aa (pd.later bb);have HBL:=aa (hb.later bb);have HY:=aa (hys.later bb);have HPO:=aa ((bb.cell (p:=⟨gp,6,none⟩) qZ).trans Dn);have LF:=aa (eS qZ bb.size);have Bf:=aa bb;clear pd hb hys Dn qZ bb b0 b2 hS hw hl hh M7;go_enter func39,ntmps39;go_upto_region 1 with fail;generalize World.alloc (World.alloc w _) _=W at*;obtain⟨g4,hg4⟩:∃g4,g4=w.heap.size+1:=⟨_,rfl⟩;rw[<-hg4]at HZ⊢;clear hg4;obtain⟨LE,Lw⟩:∃LE,LE=w.heap.size:=⟨_,rfl⟩;rw[<-Lw]at pD⊢;clear Lw;have Dn:=HPO.ae;have aqW:=aa pD;have aqX:=aa HZ;clear pD HZ;go_wp2_with fail;clear Dn;go_loopw [16] (λ Ly wr=>∃i:Nat,i<=aG.length/\Ly=af i/\rt=pB (xm ((aG.map λ x=>x.2).drop i) (Gh.drop i) (jl.drop i)) (bT rl sl)/\ai W wr) (λ Ly _=>aG.length-(intOf Ly).toNat);case atStart=>exact⟨0,gE,rfl,MN.ae,cX⟩
 case round=>
  clear MN;obtain⟨i,hk,rfl,hp,hb⟩:=hrel;have HP:=aa hp;clear hp;by_cases hlt:i<aG.length
  ·have fW:i<Gh.length:=by have:=HO.ae;omega
   have ake:i<jl.length:=by have:=HL.ae;omega
   have aqY:i<ys.length:=by have:=A2.ae;omega
   obtain⟨bo,oo,rfl,Dx,hex,hd⟩:=(HY.ae.below hb).at_ aqY;rw[A1.ae i _ _ (getElem?_eq_getElem aqY) (getElem?_eq_getElem hlt)]at hd;obtain⟨b2,o1,Wf,hb1,hx1⟩:=(ud.ae.keys.below hb).at_ fW;obtain⟨Kx,o2,uJ,hb2,hx2⟩:=(HBL.ae.keys.below hb).at_ ake;dsimp only at Wf uJ;subst Wf uJ;have Kd:=aa (show(aG.map λ x=>x.2).drop i=aG[i].2::(aG.map λ x=>x.2).drop (i+1) by rw[drop_eq_getElem_cons Tao];simp);have LH:=aa (show Gh.drop i=Gh[i]::Gh.drop (i+1)from drop_eq_getElem_cons fW);have HD3:=aa (show jl.drop i=jl[i]::jl.drop (i+1)from drop_eq_getElem_cons ake);generalize aG[i].2=ds at*;generalize Gh[i]=x at*;generalize jl[i]=y at*;generalize ys[i]=z at*;obtain⟨z1,z2⟩:=z;dsimp only at hex hd;unfold cC at hex;unfold ej at hx1 hx2;go_upto_region 4 with fail;have TK:=hx1;have hcy:=hx2;have HG:=aB.new wr 117 #[ag z1.op,ag z1.v.k,af z1.v.n,.string z1.v.s,.string z1.name,af z1.width,.slice z1.A z1.n z1.c,.bool ds];have bV:=ah wr (.cells #[ag z1.op,ag z1.v.k,af z1.v.n,.string z1.v.s,.string z1.name,af z1.width,.slice z1.A z1.n z1.c,.bool ds] 117);have pD:=(aqW.ae.later hb).later bV;have HZ:=(aqX.ae.later hb).later bV;have Z5:b2<wr.heap.size:=eS hb1 hb.size;have Z6:Kx<wr.heap.size:=eS hb2 hb.size;have HX:=aa (And.intro (bV.cell (p:=⟨b2,o1+i*3,none⟩) Z5 |>.trans TK.1) (And.intro (bV.cell (p:=⟨b2,o1+i*3+1,none⟩) Z5 |>.trans TK.2.1) (bV.cell (p:=⟨b2,o1+i*3+2,none⟩) Z5 |>.trans TK.2.2)));have HYY:=aa (And.intro (bV.cell (p:=⟨Kx,o2+i*3,none⟩) Z6 |>.trans hcy.1) (And.intro (bV.cell (p:=⟨Kx,o2+i*3+1,none⟩) Z6 |>.trans hcy.2.1) (bV.cell (p:=⟨Kx,o2+i*3+2,none⟩) Z6 |>.trans hcy.2.2)));have eZ:=aa (eS Z5 bV.size);have fT:=aa (eS Z6 bV.size);have hB:=aj.then hb bV;generalize wr.alloc _=W2 at*;obtain⟨g8,F3⟩:∃g8,g8=wr.heap.size:=⟨_,rfl⟩;rw[<-F3]at HG⊢;clear F3 hx1 hx2 TK hcy hex hd bV Z5 Z6 hb;refine bD 12 (c4V LE g4 i b2 o1 Kx o2 (.slice (some ⟨b2,o1,none⟩) Gh.length kc) (.slice (some ⟨Kx,o2,none⟩) jl.length jc) x y) (XL _ _ _ _ _ _ _ _ _ _ _) Taa Taa Taa ?_ ?_
   ·simp only[take_succ_cons,take_zero];refine⟨Zaa,?_,Zaa,?_,?_,Zaa,?_,Zaa,?_,?_,?_,Zaa,trivial⟩
    ·intro ρ W4 hc hL hr;have h0:_=_:=hr.1;have c0:=(pD.later hL).cell 1;exact ZaW
    ·intro ρ W4 hc hL hr;have h0:_=_:=hr.1;have h1:_=_:=hr.2.1;have rB:(i:Int)<(Gh.length:Int):=by omega
     exact aq (w':=W4) (by simp[go_sem,h0,h1,rB,fW,dX];done) ⟨aj.refl _,rfl⟩
    intro ρ W4 hc hL hr;have h0:_=_:=hr.1;have y0:=(hL.cell (p:=⟨b2,o1+i*3,none⟩) eZ.ae).trans HX.ae.1;have y1:=(hL.cell (p:=⟨b2,o1+i*3+1,none⟩) eZ.ae).trans HX.ae.2.1;have c2:=(hL.cell (p:=⟨b2,o1+i*3+2,none⟩) eZ.ae).trans HX.ae.2.2;exact ZdQ;intro ρ W4 hc hL hr;have h0:_=_:=hr.1;have c0:=(HZ.later hL).cell 1;exact ZaW
    ·intro ρ W4 hc hL hr;have h0:_=_:=hr.1;have h1:_=_:=hr.2.1;have rB:(i:Int)<(jl.length:Int):=by omega
     exact aq (w':=W4) (by simp[go_sem,h0,h1,rB,ake,dX];done) ⟨aj.refl _,rfl⟩
    intro ρ W4 hc hL hr;have h0:_=_:=hr.1;have y0:=(hL.cell (p:=⟨Kx,o2+i*3,none⟩) fT.ae).trans HYY.ae.1;have y1:=(hL.cell (p:=⟨Kx,o2+i*3+1,none⟩) fT.ae).trans HYY.ae.2.1;have c2:=(hL.cell (p:=⟨Kx,o2+i*3+2,none⟩) fT.ae).trans HYY.ae.2.2;exact ZdQ;intro ρ W4 hc hL hr;have h0:_=_:=hr.1;have h1:_=_:=hr.2.1;have e1:=hc.func 18;refine bu (f:=18) (args:= #[.agg (aC x),.agg (aC y)]) (w':=W4) Tat ?_;refine(dQ x y W4).mono ?_;exact Zbl
   intro W3 hL;simp only[Uab];rintro a0-a1-KK-a3-a4-a5-a6-a7-a8-a9-Hc-_ rfl;simp only[bw,Act.put,Uac];have hst:rt=pB (F5 ds x y) (pB (xm ((aG.map λ x=>x.2).drop (i+1)) (Gh.drop (i+1)) (jl.drop (i+1))) (bT rl sl)):=by rw[HP.ae,Kd.ae,LH.ae,HD3.ae,SF,XM]
   have d7:=(HG.later hL).cell 7;simp only[Uaa]at d7;have hW:=aj.then hB hL;have hvb:=Jv x y;have ny:F5 ds x y=if ds=true then -(bC x y)else bC x y:=rfl;rw[ny]at hst;clear ny HG pD HZ HX HYY eZ fT hB hL HP Kd LH HD3;generalize bC x y=vv at*;obtain⟨v1,v2⟩:=hvb;by_cases h0:vv=0
   ·subst h0;have hS:=HS.ae;have HR:=aa (show rt=pB (xm ((aG.map λ x=>x.2).drop (i+1)) (Gh.drop (i+1)) (jl.drop (i+1))) (bT rl sl) by rw[hst];cases ds<;>exact IB);clear hst v1 v2;cases ds
    ·exact ZcV
    exact ZcV
   cases ds
   ·have hr:rt=vv:=by rw[hst];exact Z4 (by simpa using h0)
    subst hr;have t1:(rt != 0)=true:=by simpa using h0
    have t2:decide (rt=0)=false:=by simpa using h0
    clear hst h0;go_wp2_with fail;go_ret;exact⟨rfl,aj.then Bf.ae hW⟩
   have hr:rt= -vv:=by rw[hst];exact Z4 Tac
   have t1:((-vv) != 0)=true:=Tac;have t2:decide ((-vv)=0)=false:=Tac;have HMX:=aa hr;clear hst h0 hr;exact Zh6
  have fX:i=aG.length:=by omega
  have hr:rt=bT rl sl:=by rw[HP.ae,drop_eq_nil_of_le (by rw[length_map];omega)];exact IB
  subst hr;have Z7:=(ud.ae.later hb).row;have hrb:=(HBL.ae.later hb).row;dsimp only at Z7 hrb;have l1:=(aqW.ae.later hb).cell 0;have l2:=(aqX.ae.later hb).cell 0;simp only[getElem?_toArray,getElem?_cons_zero]at l1 l2;have hrw:=wX rA rc rl sA sc sl wr Z7 hrb ud.ae.short HBL.ae.short;have HH:=aa hrw;clear Z7 hrb hrw HP;go_wp2_with fail;refine HH.ae.mono ?_;rintro e w1 ⟨rfl,b1⟩;go_wp2_with fail;go_ret;exact⟨rfl,aj.then Bf.ae (aj.then hb b1)⟩
end Go.Proofs.YtndgjggokjickaaGreatDoor
namespace Go.Proofs.YtndgjggokjickaaGreatDoor.L
open _root_.Go.Proofs.Tryz
variable{p:Sort _}
set_option maxHeartbeats 90000000
set_option maxRecDepth 100000
open Go.ChangeShapes Go.WideShapes Go.ChangeAt Go.RowKit List
set_option linter.unusedVariables false
set_option linter.unusedSimpArgs false
structure aS (ds:List Bool) (gp:Nat) where
 row:aK
 keys:aK
variable{ds:List Bool}{gp:Nat}
def aS.rv(x:aS ds gp):Value:=.slice x.row.A x.row.l.length x.row.c
def aS.kv(x:aS ds gp):Value:=.slice x.keys.A x.keys.l.length x.keys.c
def aS.s(x:aS ds gp):eu:=⟨x.row.l,x.keys.l⟩
def xX(x y:aS ds gp):Int:=xo ds x.s y.s
theorem IC(x y:aS ds gp):xX y x= -(xX x y):=(mU ds).jq _ _
theorem XN(x:aS ds gp):xX x x=0:=by have:=IC x x;omega
theorem SG(x y z:aS ds gp)(h:xX x y<=0)(k:xX y z<=0):xX x z<=0:=(mU ds).trans _ _ _ h k
def RN(w:t_)(g:Nat)(r:aK):Prop:=
 r.l=[]\/∃b off,r.A=some ⟨b,off,none⟩/\b<w.heap.size/\b≠g/\∀i x,r.l[i]?=some x->ej w b (off+i*3) x
variable{w w':t_}{g:Nat}
theorem RN.rv{r:aK}(h:RN w g r)(hg:w.grownBy w' (some g)):RV w' w'.heap.size r.A r.l:=by exact Zdj
def At(w:t_)(g n:Nat)(D:Nat->aS ds gp):Prop:=∃cs,aB w g 91 cs/\n*2<=cs.size/\∀i,i<n->cs[i*2]?=some (D i).rv/\cs[i*2+1]?=some (D i).kv
variable{n:Nat}{D:Nat->aS ds gp}
theorem At.cell(h:At w g n D)(i:Nat)(hi:i<n):w.cell? ⟨g,i*2,none⟩=some (.slice (D i).row.A (D i).row.l.length (D i).row.c):=by obtain⟨cs,hb,_,hc⟩:=h;rw[hb.cell,(hc i hi).1];rfl
theorem At.lu(h:At w g n D)(i:Nat)(hi:i<n):w.cell? ⟨g,i*2+1,none⟩=some (.slice (D i).keys.A (D i).keys.l.length (D i).keys.c):=by obtain⟨cs,hb,_,hc⟩:=h;rw[hb.cell,(hc i hi).2];rfl
theorem At.frozen(h:At w g n D)(i:Nat):w.frozen? ⟨g,i,none⟩=false:=by obtain⟨cs,hb,_,hc⟩:=h;exact hb.frozen i
theorem At.later(h:At w g n D)(hb:ai w w'):At w' g n D:=by obtain⟨cs,h1,h2,h3⟩:=h;exact⟨cs,h1.later hb,h2,h3⟩
def swp(D:Nat->aS ds gp)(i j:Nat):Nat->aS ds gp:=λ k=>if k=j then D i else if k=i then D j else D k
variable{cs:x_}{q:Nat}{u:Value}
theorem UZ{p:Nat}{v:Value}:(((cs.setIfInBounds (p*2) u).setIfInBounds (p*2+1) v))[q*2]?=(if q=p then(if p*2<cs.size then some u else none)else cs[q*2]?)/\(((cs.setIfInBounds (p*2) u).setIfInBounds (p*2+1) v))[q*2+1]?=(if q=p then(if p*2+1<cs.size then some v else none)else cs[q*2+1]?):=by rw[Array.getElem?_setIfInBounds,Array.getElem?_setIfInBounds,Array.getElem?_setIfInBounds,Array.getElem?_setIfInBounds];simp only[Array.size_setIfInBounds];constructor;exact ZiC;exact ZiC
theorem At.swap(h:At w g n D)(i j:Nat)(hi:i<n)(hj:j<n):At (((((w.setCell ⟨g,i*2,none⟩ (D j).rv).setCell ⟨g,i*2+1,none⟩ (D j).kv).setCell ⟨g,j*2,none⟩ (D i).rv).setCell ⟨g,j*2+1,none⟩ (D i).kv).drew) g n (swp D i j):=by obtain⟨cs,h1,h2,h3⟩:=h;refine⟨((((cs.setIfInBounds (i*2) (D j).rv).setIfInBounds (i*2+1) (D j).kv).setIfInBounds (j*2) (D i).rv).setIfInBounds (j*2+1) (D i).kv),((((h1.aW (i*2) _).aW (i*2+1) _).aW (j*2) _).aW (j*2+1) _).drew,by simpa using h2,λ k hk=>?_⟩;obtain⟨e0,e1⟩:=h3 k hk;unfold swp;obtain⟨a1,a2⟩:=UZ (cs:=(cs.setIfInBounds (i*2) (D j).rv).setIfInBounds (i*2+1) (D j).kv) (p:=j) (q:=k) (u:=(D i).rv) (v:=(D i).kv);obtain⟨b1,b2⟩:=UZ (cs:=cs) (p:=i) (q:=k) (u:=(D j).rv) (v:=(D j).kv);rw[a1,a2,b1,b2];simp only[Array.size_setIfInBounds];by_cases c1:k=j;rw[if_pos c1,if_pos c1,if_pos c1,if_pos WC,if_pos WC];exact ZfK;rw[if_neg c1,if_neg c1,if_neg c1];by_cases c2:k=i;rw[if_pos c2,if_pos c2,if_pos c2,if_pos WC,if_pos WC];exact ZfK;rw[if_neg c2,if_neg c2,if_neg c2];exact⟨e0,e1⟩
def ahj(ds:List Bool)(gp:Nat)(w0:t_)(g:Nat):Prop:=∀(x y:aS ds gp) W,w0.grownBy W (some g)->RN w0 g x.row->RN w0 g x.keys->RN w0 g y.row->RN w0 g y.keys->x.row.l.length<=1000->y.row.l.length<=1000->x.keys.l.length=ds.length->y.keys.l.length=ds.length->
 ar 39 #[aw gp,.agg #[.slice x.row.A x.row.l.length x.row.c,.slice x.keys.A x.keys.l.length x.keys.c],.agg #[.slice y.row.A y.row.l.length y.row.c,.slice y.keys.A y.keys.l.length y.keys.c]] W λ e w'=>e=.returned (af (xX x y))/\ai W w'
structure SS (w0:t_) (g n:Nat) (w:t_) (D:Nat->aS ds gp):Prop where
 at_:At w g n D
 grown:w0.grownBy w (some g)
 rows:∀k,k<n->RN w0 g (D k).row/\RN w0 g (D k).keys/\(D k).row.l.length<=1000/\(D k).keys.l.length=ds.length
 ord:ahj ds gp w0 g
variable{w0:t_}
theorem SS.later(h:SS w0 g n w D)(hb:ai w w'):SS w0 g n w' D:=⟨h.at_.later hb,ba h.grown (aQ hb),h.rows,h.ord⟩
variable{W:t_}
theorem SS.cmp(h:SS w0 g n w D)(i j:Nat)(hi:i<n)(hj:j<n)(hW:ai w W):
  ar 39 #[aw gp,.agg #[.slice (D i).row.A (D i).row.l.length (D i).row.c,.slice (D i).keys.A (D i).keys.l.length (D i).keys.c],.agg #[.slice (D j).row.A (D j).row.l.length (D j).row.c,.slice (D j).keys.A (D j).keys.l.length (D j).keys.c]] W λ e w'=>e=.returned (af (xX (D i) (D j)))/\ai W w':=
 h.ord _ _ W (ba h.grown (aQ hW)) (h.rows i hi).1 (h.rows i hi).2.1 (h.rows j hj).1 (h.rows j hj).2.1 (h.rows i hi).2.2.1 (h.rows j hj).2.2.1 (h.rows i hi).2.2.2 (h.rows j hj).2.2.2
theorem SS.swap(h:SS w0 g n w D)(i j:Nat)(hi:i<n)(hj:j<n):SS w0 g n (((((w.setCell ⟨g,i*2,none⟩ (D j).rv).setCell ⟨g,i*2+1,none⟩ (D j).kv).setCell ⟨g,j*2,none⟩ (D i).rv).setCell ⟨g,j*2+1,none⟩ (D i).kv).drew) (swp D i j):=by refine⟨h.at_.swap i j hi hj,jX (aF (aF (aF (aF h.grown _ _) _ _) _ _) _ _),λ k hk=>?_,h.ord⟩;exact Zhe
theorem SS.second(h:SS w0 g n w D)(i j:Nat)(hi:i<n)(hj:j<n)(x:aS ds gp):(∃v,(w.setCell ⟨g,i*2,none⟩ x.rv).cell? ⟨g,i*2+1,none⟩=some v)/\(∃v,((w.setCell ⟨g,i*2,none⟩ x.rv).setCell ⟨g,i*2+1,none⟩ x.kv).cell? ⟨g,j*2,none⟩=some v)/\∃v,(((w.setCell ⟨g,i*2,none⟩ x.rv).setCell ⟨g,i*2+1,none⟩ x.kv).setCell ⟨g,j*2,none⟩ (D i).rv).cell? ⟨g,j*2+1,none⟩=some v:=by obtain⟨cs,h1,h2,h3⟩:=h.at_;have LO:∀(cs:x_) k,k<cs.size->∃v,cs[k]?=some v:=λ cs k hk=>⟨_,Array.getElem?_eq_getElem hk⟩;refine⟨?_,?_,?_⟩;rw[(h1.aW _ _).cell];exact LO _ _ Tac;rw[((h1.aW _ _).aW _ _).cell];exact LO _ _ Tac;rw[(((h1.aW _ _).aW _ _).aW _ _).cell];exact LO _ _ Tac
def dT(D:Nat->aS ds gp)(a b c:Nat):Nat->aS ds gp:=λ k=>if a<=k/\k<a+c then D (k-a+b)else if b<=k/\k<b+c then D (k-b+a)else D k
theorem mI(D:Nat->aS ds gp)(a b:Nat):dT D a b 0=D:=by funext k;unfold dT;rw[if_neg WC,if_neg WC]
theorem mJ(D:Nat->aS ds gp)(a b i:Nat)(h:a+i<b):swp (dT D a b i) (a+i) (b+i)=dT D a b (i+1):=by funext k;unfold swp dT;exact ZbW
def si(w0:t_)(g n:Nat)(D:Nat->aS ds gp)(e:Ending)(w':t_):Prop:=e=.returned (.tuple #[])/\SS w0 g n w' D
theorem eX(w0:t_)(g n cap a b c:Nat)(D:Nat->aS ds gp)(w:t_)(h:SS w0 g n w D)(hn:n<=1000)(hab:a+c<=b)(hb:b+c<=n):
  ar 195 #[aL g n cap,af a,af b,af c,.func (.func 39) #[aw gp] #[]] w (si w0 g n (dT D a b c)):=by
 have HS:=aa h;clear h;have mixed:prog.follows .mixedOrders=true:=Taa;go_enter func195,ntmps195;go_wp2_with fail;go_loopw [10] (λ iv wr=>∃i:Nat,i<=c/\iv=af i/\SS w0 g n wr (dT D a b i)) (λ iv _=>c-(intOf iv).toNat);case atStart=>exact⟨0,gE,rfl,by rw[mI];exact HS.ae⟩
 case round=>
  obtain⟨i,hi,rfl,hs⟩:=hrel;have H2:=aa hs;clear hs;by_cases hlt:i<c
  ·have c1:=H2.ae.at_.cell (a+i) WC;have KY:=H2.ae.at_.lu (a+i) WC;have c2:=H2.ae.at_.cell (b+i) WC;have KZ:=H2.ae.at_.lu (b+i) WC;have f1:=H2.ae.at_.frozen ((a+i)*2);have f1k:=H2.ae.at_.frozen ((a+i)*2+1);have f2:=H2.ae.at_.frozen ((b+i)*2);have f2k:=H2.ae.at_.frozen ((b+i)*2+1);obtain⟨⟨u1,c3⟩,⟨u2,c4⟩,⟨u3,c5⟩⟩:=H2.ae.second (a+i) (b+i) WC WC (dT D a b i (b+i));have S3:=aa (H2.ae.swap (a+i) (b+i) WC WC);simp only[aS.rv,aS.kv]at c3 c4 c5 S3;go_upto_region 3 with fail;go_big_region_o;clear c1 c2 KY KZ c3 c4 c5 f1 f2 f1k f2k;exact Zed
  have yz:i=c:=by omega
  subst yz;go_wp2_with fail;exact bodyPost_ret (v:=.tuple #[]) (by simp[results,results195,go_sem]) rfl ⟨rfl,H2.ae⟩
def bS(D:Nat->aS ds gp)(s m e:Nat):Nat->aS ds gp:=λ k=>if s<=k/\k<e then(if k<s+(e-m)then D (k+(m-s))else D (k-(e-m)))else D k
theorem sj(D:Nat->aS ds gp)(m i j:Nat)(hi:i<=m)(kE:j<i):bS (dT D (m-i) m j) (m-(i-j)) m (m+j)=bS D (m-i) m (m+j):=Zf0
theorem sk(D:Nat->aS ds gp)(m i j:Nat)(hi:i<=m)(kE:i<j):bS (dT D (m-i) (m+j-i) i) (m-i) m (m+(j-i))=bS D (m-i) m (m+j):=Zf0
theorem sq(D:Nat->aS ds gp)(m i:Nat)(hi:i<=m):dT D (m-i) m i=bS D (m-i) m (m+i):=Zf0
def zfl.Kbd(h:p:=by exact bodyPost_ret (v:=.tuple #[]) (by simp[results,results166,go_sem]) rfl ⟨rfl,H3.ae⟩):=h
theorem vd(w0:t_)(g n cap a m b:Nat)(D:Nat->aS ds gp)(w:t_)(h:SS w0 g n w D)(hn:n<=1000)(ham:a<m)(hmb:m<b)(hb:b<=n):
  ar 166 #[aL g n cap,af a,af m,af b,.func (.func 39) #[aw gp] #[]] w (si w0 g n (bS D a m b)):=by
 have HS:=aa h;clear h;go_enter func166,ntmps166;go_wp2_with fail;go_loopw [10,11] (λ iv jv wr=>∃(i j:Nat) (E:Nat->aS ds gp),0<i/\0<j/\a+i<=m/\m+j<=b/\iv=af i/\jv=af j/\SS w0 g n wr E/\bS E (m-i) m (m+j)=bS D a m b) (λ iv jv _=>(intOf iv).toNat+(intOf jv).toNat);case atStart=>exact ZeC
 case round=>
  obtain⟨i,j,E,kB,hj0,hi,hj,rfl,rfl,hs,hr⟩:=hrel;have H2:=aa hs;have HR:=aa hr;clear hs hr;by_cases heq:i=j
  ·open zfl in exact Zds
  exact ZaT
def lt(x y:aS ds gp):Prop:=xX x y<0
def le(x y:aS ds gp):Prop:=xX x y<=0
theorem le_refl(x:aS ds gp):le x x:=by unfold le;rw[XN];omega
variable{x y z:aS ds gp}
theorem le_trans(h:le x y)(k:le y z):le x z:=SG _ _ _ h k
theorem le_of_lt(h:lt x y):le x y:=by unfold lt at h;unfold le;omega
theorem not_lt:¬lt x y↔le y x:=by unfold lt le;have:=IC x y;omega
theorem kP(h:le x y)(k:lt y z):lt x z:=by exact ZgW
theorem kQ(h:lt x y)(k:le y z):lt x z:=by exact ZgX
def cT(D:Nat->aS ds gp)(a b:Nat):Prop:=∀i j,a<=i->i<j->j<b->le (D i) (D j)
variable{a b a' b':Nat}
theorem cT.mono(h:cT D a b)(h1:a<=a')(h2:b'<=b):cT D a' b':=λ i j hi hj hb=>h i j WC hj WC
variable{E:Nat->aS ds gp}
theorem cT.congr(h:cT D a b)(he:∀i,a<=i->i<b->E i=D i):cT E a b:=λ i j hi hj hb=>by rw[he i hi WC,he j WC hb];exact h i j hi hj hb
variable{i j:Nat}
theorem cT.le(h:cT D a b)(hi:a<=i)(kE:i<=j)(hj:j<b):le (D i) (D j):=by exact ZgO
theorem cT.none(h:b<=a+1):cT D a b:=λ i j hi hj hb=>by omega
inductive Sw (a b:Nat) (D:Nat->aS ds gp):(Nat->aS ds gp)->Prop
 |refl:Sw a b D D
 |step {E:Nat->aS ds gp}{i j:Nat}:Sw a b D E->a<=i->i<b->a<=j->j<b->Sw a b D (swp E i j)
variable{F:Nat->aS ds gp}
theorem Sw.trans(h:Sw a b D E)(k:Sw a b E F):Sw a b D F:=by exact Zhm
theorem Sw.mono(h:Sw a b D E)(h1:a'<=a)(h2:b<=b'):Sw a' b' D E:=by exact ZfX
theorem Sw.ae(h:Sw a b D E):∀k,k<a\/b<=k->E k=D k:=by exact Ze9
theorem Sw.mem(h:Sw a b D E):∀k,a<=k->k<b->∃k',a<=k'/\k' < b/\E k=D k':=by exact ZdS
theorem EG(D:Nat->aS ds gp)(n i j:Nat)(hi:i<n)(hj:j<n):((List.range n).map (swp D i j)).Perm ((List.range n).map D):=by exact Zbx
theorem Sw.perm(h:Sw a b D E)(hb:b<=n):((List.range n).map E).Perm ((List.range n).map D):=by exact Zgd
theorem jB(D:Nat->aS ds gp)(a b:Nat):∀c,a+c<=b->Sw a (b+c) D (dT D a b c)
 |0,_=>by rw[mI];exact .refl
 |c+1,h=>by rw[<-mJ D a b c WC];exact .step ((jB D a b c WC).mono aE WC) WC WC WC WC
theorem Qn(D:Nat->aS ds gp)(m:Nat):∀N i j,i+j<=N->0<i->0<j->i<=m->Sw (m-i) (m+j) D (bS D (m-i) m (m+j)):=by exact Za7
theorem JC(D:Nat->aS ds gp)(s m e:Nat)(h1:s<m)(h2:m<e):Sw s e D (bS D s m e):=Zeq
theorem yO(D:Nat->aS ds gp)(m e:Nat):bS D m m e=D:=by exact Zc9
theorem ve(D:Nat->aS ds gp)(s m:Nat):bS D s m m=D:=by exact Zc9
def Mx(E:Nat->aS ds gp)(a i j:Nat):Prop:=(∀p q,a<=p->p<q->q<=i->p≠j->q≠j->le (E p) (E q))/\∀q,j<q->q<=i->le (E j) (E q)
theorem Mx.start(h:cT D a i):Mx D a i i:=⟨λ p q h1 h2 h3 h4 h5=>h p q h1 h2 WC,λ q h1 h2=>by omega⟩
theorem Mx.step(h:Mx E a i j)(hj:a<j)(Pj:j<=i)(hl:lt (E j) (E (j-1))):Mx (swp E j (j-1)) a i (j-1):=by exact ZbE
theorem Mx.stop(h:Mx E a i j)(hj:a<=j)(hs:j=a\/¬lt (E j) (E (j-1))):cT E a (i+1):=by exact Zct
def mK(D:Nat->aS ds gp)(a k:Nat):Nat->aS ds gp:=λ x=>if a<=x/\x<k then D (x+1)else if x=k then D a else D x
theorem oO(D:Nat->aS ds gp)(a:Nat):mK D a a=D:=by funext x;unfold mK;exact Zc4
theorem oP(D:Nat->aS ds gp)(a k:Nat)(h:a<=k):swp (mK D a k) k (k+1)=mK D a (k+1):=by funext x;unfold swp mK;exact Zc8
theorem wY(D:Nat->aS ds gp)(a:Nat):∀d,Sw a (a+d+1) D (mK D a (a+d))
 |0=>by show Sw a (a+0+1) D (mK D a a);rw[oO];exact .refl
 |d+1=>by rw[show a+(d+1)=a+d+1 by omega,<-oP D a (a+d) WC];exact .step ((wY D a d).mono aE WC) WC WC WC WC
theorem CN(hs:cT D (a+1) b)(hi:a+1<=i)(hib:i<=b)(h1:∀h,a+1<=h->h<i->lt (D h) (D a))(h2:∀h,i<=h->h<b->¬lt (D h) (D a)):cT (mK D a (i-1)) a b:=by exact Zbv
def ot(D:Nat->aS ds gp)(k m:Nat):Nat->aS ds gp:=λ x=>if x=k then D m else if k<x/\x<=m then D (x-1)else D x
theorem oQ(D:Nat->aS ds gp)(m:Nat):ot D m m=D:=by funext x;unfold ot;exact Zc4
theorem oT(D:Nat->aS ds gp)(k m:Nat)(h0:0<k)(h:k<=m):swp (ot D k m) k (k-1)=ot D (k-1) m:=by funext x;unfold swp ot;exact Zc8
theorem wZ(D:Nat->aS ds gp)(m:Nat):∀d,d<=m->Sw (m-d) (m+1) D (ot D (m-d) m)
 |0,_=>by rw[Nat.sub_zero,oQ];exact .refl
 |d+1,h=>by rw[show m-(d+1)=m-d-1 by omega,<-oT D (m-d) m WC WC];exact .step ((wZ D m d WC).mono WC aE) WC WC WC WC
variable{m:Nat}
theorem CO(hs:cT D a m)(hi:a<=i)(zQ:i<=m)(h1:∀h,a<=h->h<i->¬lt (D m) (D h))(h2:∀h,i<=h->h<m->lt (D m) (D h)):cT (ot D i m) a (m+1):=by exact ZbG
structure Found (D:Nat->aS ds gp) (p s0 r0 s r:Nat):Prop where
 low:∀c,s0<=c->c<s->¬lt (D (p-c)) (D c)
 high:∀c,r<=c->c<r0->lt (D (p-c)) (D c)
structure jC (a m b mid s0 r0:Nat):Prop where
 ab:a<m/\m<b
 B6:mid=(a+b)/ 2
 ends:(m > mid/\s0=mid+m-b/\r0=mid)\/(m<=mid/\s0=a/\r0=m)
variable{mid s0 r0 r c:Nat}
theorem Found.go{s:Nat}(he:jC a m b mid s0 r0)(h1:cT D a m)(h2:cT D m b)(h:Found D (mid+m-1) s0 r0 s r)(hs:s0<=s)(hr:r<=r0)(hc:s<=c)(hc2:c<r):
  (¬lt (D (mid+m-1-c)) (D c)->Found D (mid+m-1) s0 r0 (c+1) r)/\(lt (D (mid+m-1-c)) (D c)->Found D (mid+m-1) s0 r0 s c):=by exact ZbC
theorem yP{s:Nat}(he:jC a m b mid s0 r0)(h1:cT D a m)(h2:cT D m b)(h:Found D (mid+m-1) s0 r0 s s)(hs:s0<=s)(hr:s<=r0):
  cT (bS D s m (mid+m-s)) a s/\cT (bS D s m (mid+m-s)) s mid/\cT (bS D s m (mid+m-s)) mid (mid+m-s)/\cT (bS D s m (mid+m-s)) (mid+m-s) b/\
  ∀x y,a<=x->x<mid->mid<=y->y<b->le (bS D s m (mid+m-s) x) (bS D s m (mid+m-s) y):=by exact Zar
theorem JD(hm:a<=mid/\mid<=b)(h:∀x y,a<=x->x<mid->mid<=y->y<b->le (D x) (D y))(k1:Sw a mid D E)(k2:Sw mid b E F)(s1:cT E a mid)(s2:cT F mid b):cT F a b/\Sw a b D F:=by exact Zb0
def cI(w0:t_)(g n a b:Nat)(D:Nat->aS ds gp)(e:Ending)(w':t_):Prop:=e=.returned (.tuple #[])/\∃E,SS w0 g n w' E/\Sw a b D E/\cT E a b
def zaF.KW(h:p:=by have cV:=H3.ae.at_.cell (jp+1) WC;have KY:=H3.ae.at_.lu (jp+1) WC;have c2:=H3.ae.at_.cell jp WC;have KZ:=H3.ae.at_.lu jp WC;have f1:=H3.ae.at_.frozen ((jp+1)*2);have f1k:=H3.ae.at_.frozen ((jp+1)*2+1);have f2:=H3.ae.at_.frozen (jp*2);have f2k:=H3.ae.at_.frozen (jp*2+1);obtain⟨⟨u1,c3⟩,⟨u2,c4⟩,⟨u3,c5⟩⟩:=H3.ae.second (jp+1) jp WC WC (E jp);have S3:=aa (H3.ae.swap (jp+1) jp WC WC);simp only[aS.rv,aS.kv]at c3 c4 c5 S3;go_upto_region 6 with fail;go_big_region_o;clear cV c2 KY KZ c3 c4 c5 f1 f2 f1k f2k;exact Zcp):=h
def zaG.KW(h:p:=by exact Zia):=h
def zfz.Kbj(h:p:=by
 have KY:=λ q:Ext wr.heap.size wr=>(H2.ae.at_.later q.h).lu (jp+1) WC;have c2:=λ q:Ext wr.heap.size wr=>(H2.ae.at_.later q.h).cell jp WC;have KZ:=λ q:Ext wr.heap.size wr=>(H2.ae.at_.later q.h).lu jp WC;have hc:=λ q:Ext wr.heap.size wr=>H2.ae.cmp (jp+1) jp WC WC q.h;by_cases Kx:xX (E (jp+1)) (E jp)< 0;have t2:=decide_eq_true Kx;have HL:=aa (show lt (E (jp+1)) (E jp)from Kx);clear Kx;refine aR 17 wr.heap.size wr cX Taa Taa Taa Taa ?_;open zaF in exact Zaj
 have t2:=decide_eq_false Kx;have HL:=aa (show¬lt (E (jp+1)) (E jp)from Kx);clear Kx;refine aR 17 wr.heap.size wr cX Taa Taa Taa Taa ?_;open zaG in exact Zaj):=h
theorem iK(w0:t_)(g n cap a b:Nat)(D:Nat->aS ds gp)(w:t_)(h:SS w0 g n w D)(hn:n<=1000)(hab:a<=b)(hb:b<=n):
  ar 105 #[aL g n cap,af a,af b,.func (.func 39) #[aw gp] #[]] w (cI w0 g n a b D):=by
 have HS:=aa h;have mixed:prog.follows .mixedOrders=true:=Taa;clear h;go_enter func105,ntmps105;go_wp2_with fail;go_loopw [8] (λ iv wr=>∃(i:Nat) (KK:Nat->aS ds gp),a<i/\(i<=b\/i=a+1)/\iv=af i/\SS w0 g n wr KK/\Sw a b D KK/\cT KK a i) (λ iv _=>b-(intOf iv).toNat);case atStart=>exact ZhV
 case round=>
  clear HS;obtain⟨i,KK,kB,hi,rfl,hS,hw,hl⟩:=hrel;have H2:=aa hS;have HW:=aa hw;have Gb:=aa hl;clear hS hw hl;by_cases hlt:i<b
  ·go_wp2_with fail;go_loopw [9] (λ jv wr2=>∃(j:Nat) (E:Nat->aS ds gp),a<=j/\j<=i/\jv=af j/\SS w0 g n wr2 E/\Sw a b D E/\Mx E a i j) (λ jv _=>(intOf jv).toNat);case atStart=>exact Zib
   case round=>
    clear H2 HW Gb;obtain⟨j,E,hj0,hj,rfl,hS,hw,hl⟩:=hrel;have H2:=aa hS;have HW:=aa hw;have Gb:=aa hl;clear hS hw hl;by_cases hja:a<j
    ·open zfz in exact ZdI
    exact Zbn
  have HE:=aa (Gb.ae.mono (Nat.le_refl a) (show b<=i by omega));go_wp2_with fail;exact bodyPost_ret (v:=.tuple #[]) Tbp rfl ⟨rfl,KK,H2.ae,HW.ae,HE.ae⟩
def zaH.KW(h:p:=by exact Zfc):=h
def zaI.KW(h:p:=by exact Zez):=h
def zcZ.Kay(h:p:=by
 have cV:=λ q:Ext wr.heap.size wr=>(H2.ae.at_.later q.h).cell (jp) WC;have KY:=λ q:Ext wr.heap.size wr=>(H2.ae.at_.later q.h).lu (jp) WC;have c2:=λ q:Ext wr.heap.size wr=>(H2.ae.at_.later q.h).cell (a) WC;have KZ:=λ q:Ext wr.heap.size wr=>(H2.ae.at_.later q.h).lu (a) WC;have hc:=λ q:Ext wr.heap.size wr=>H2.ae.cmp (jp) (a) WC WC q.h;by_cases hl:xX (D (jp)) (D (a))< 0;have t2:=decide_eq_true hl;have HX:=aa (show lt (D (jp)) (D (a))from hl);clear hl;refine aR 11 wr.heap.size wr cX Taa Taa Taa Taa ?_;open zaH in exact Zaj
 have t2:=decide_eq_false hl;have HX:=aa (show¬lt (D (jp)) (D (a))from hl);clear hl;refine aR 11 wr.heap.size wr cX Taa Taa Taa Taa ?_;open zaI in exact Zaj):=h
def zgs.KbF(h:p:=by
 go_loopw [13] (λ kv wr2=>∃k:Nat,a<=k/\k<=j-1/\kv=af k/\SS w0 g n wr2 (mK D a k)) (λ kv _=>j-(intOf kv).toNat);case atStart=>exact ZiG
 case round=>
  clear H2;obtain⟨k,YK,hk,rfl,hs⟩:=hrel;have H2:=aa hs;clear hs;by_cases hlt:k<j-1
  ·have t2:decide ((k:Int)<((j-1:Nat):Int))=true:=decide_eq_true WC;have cV:=H2.ae.at_.cell (k) WC;have KY:=H2.ae.at_.lu (k) WC;have c2:=H2.ae.at_.cell (k+1) WC;have KZ:=H2.ae.at_.lu (k+1) WC;have f1:=H2.ae.at_.frozen ((k)*2);have f1k:=H2.ae.at_.frozen ((k)*2+1);have f2:=H2.ae.at_.frozen ((k+1)*2);have f2k:=H2.ae.at_.frozen ((k+1)*2+1);obtain⟨⟨u1,c3⟩,⟨u2,c4⟩,⟨u3,c5⟩⟩:=H2.ae.second (k) (k+1) WC WC (mK D a k (k+1));have S3:=aa (H2.ae.swap (k) (k+1) WC WC);simp only[aS.rv,aS.kv]at c3 c4 c5 S3;go_upto_region 11 with fail;go_big_region_o;clear cV c2 KY KZ c3 c4 c5 f1 f2 f1k f2k;exact Zdu
  have t2:decide ((k:Int)<((j-1:Nat):Int))=false:=decide_eq_false WC;have yz:k=j-1:=by omega
  exact Zfp):=h
def zg3.KbS(h:p:=by
 by_cases hlt:i<j
 ·go_upto_region 5 with fail;open zcZ in exact Zbi
 open zgs in exact ZeN):=h
theorem KO(w0:t_)(g n cap a b:Nat)(D:Nat->aS ds gp)(w:t_)(h:SS w0 g n w D)(hn:n<=1000)(hab:a+1<b)(hb:b<=n)(hQ:cT D (a+1) b):
  ar 106 #[aL g n cap,af a,af (a+1),af b,.func (.func 39) #[aw gp] #[]] w (cI w0 g n a b D):=by
 have HS:=aa h;have HQ:=aa hQ;have mixed:prog.follows .mixedOrders=true:=Taa;clear h hQ;have t1:((a:Int)+1-(a:Int)==1)=true:=Tac;go_enter func106,ntmps106;go_wp2_with fail;clear t1;go_loopw [10,11] (λ iv jv wr=>∃i j:Nat,a+1<=i/\i<=j/\j<=b/\iv=af i/\jv=af j/\SS w0 g n wr D/\(∀h,a+1<=h->h<i->lt (D h) (D a))/\∀h,j<=h->h<b->¬lt (D h) (D a)) (λ iv jv _=>(intOf jv).toNat-(intOf iv).toNat);case atStart=>exact Zgo
 case round=>
  open zg3 in exact Ze8
def zaJ.KW(h:p:=by exact ZfZ):=h
def zaK.KW(h:p:=by exact Zei):=h
def zc0.Kay(h:p:=by
 have cV:=λ q:Ext wr.heap.size wr=>(H2.ae.at_.later q.h).cell (m) WC;have KY:=λ q:Ext wr.heap.size wr=>(H2.ae.at_.later q.h).lu (m) WC;have c2:=λ q:Ext wr.heap.size wr=>(H2.ae.at_.later q.h).cell (jp) WC;have KZ:=λ q:Ext wr.heap.size wr=>(H2.ae.at_.later q.h).lu (jp) WC;have hc:=λ q:Ext wr.heap.size wr=>H2.ae.cmp (m) (jp) WC WC q.h;by_cases hl:xX (D (m)) (D (jp))< 0;have t2:=decide_eq_true hl;have HX:=aa (show lt (D (m)) (D (jp))from hl);clear hl;refine aR 12 wr.heap.size wr cX Taa Taa Taa Taa ?_;open zaJ in exact Zaj
 have t2:=decide_eq_false hl;have HX:=aa (show¬lt (D (m)) (D (jp))from hl);clear hl;refine aR 12 wr.heap.size wr cX Taa Taa Taa Taa ?_;open zaK in exact Zaj):=h
def zhh.KbX(h:p:=by have KY:=H2.ae.at_.lu (kp+1) WC;have c2:=H2.ae.at_.cell (kp) WC;have KZ:=H2.ae.at_.lu (kp) WC;have f1:=H2.ae.at_.frozen ((kp+1)*2);have f1k:=H2.ae.at_.frozen ((kp+1)*2+1);have f2:=H2.ae.at_.frozen ((kp)*2);have f2k:=H2.ae.at_.frozen ((kp)*2+1);obtain⟨⟨u1,c3⟩,⟨u2,c4⟩,⟨u3,c5⟩⟩:=H2.ae.second (kp+1) (kp) WC WC (ot D (kp+1) m (kp));have S3:=aa (H2.ae.swap (kp+1) (kp) WC WC);simp only[aS.rv,aS.kv]at c3 c4 c5 S3;go_upto_region 23 with fail;go_big_region_o;clear cV c2 KY KZ c3 c4 c5 f1 f2 f1k f2k;exact ZcT):=h
def zgN.KbO(h:p:=by
 go_loopw [17] (λ kv wr2=>∃k:Nat,j<=k/\k<=m/\kv=af k/\SS w0 g n wr2 (ot D k m)) (λ kv _=>(intOf kv).toNat);case atStart=>exact⟨m,by omega,by omega,rfl,by rw[oQ];exact H2.ae⟩
 case round=>
  clear H2;obtain⟨k,YK,hk,rfl,hs⟩:=hrel;have H2:=aa hs;clear hs;by_cases hlt:j<k
  ·open zhh in exact Zfi
  have t2:decide ((j:Int)<(k:Int))=false:=decide_eq_false WC;have yz:k=j:=by omega
  exact Zfp):=h
def zg4.KbS(h:p:=by
 by_cases hlt:i<j
 ·go_upto_region 17 with fail;open zc0 in exact Zbi
 open zgN in exact Ze3):=h
def zhR.Kcb(h:p:=by
 go_enter func106,ntmps106;go_wp2_with fail;clear t0 t1;go_loopw [14,15] (λ iv jv wr=>∃i j:Nat,a<=i/\i<=j/\j<=m/\iv=af i/\jv=af j/\SS w0 g n wr D/\(∀h,a<=h->h<i->¬lt (D m) (D h))/\∀h,j<=h->h<m->lt (D m) (D h)) (λ iv jv _=>(intOf jv).toNat-(intOf iv).toNat);case atStart=>exact Zhj
 case round=>
  open zg4 in exact Ze8):=h
theorem KP(w0:t_)(g n cap a m:Nat)(D:Nat->aS ds gp)(w:t_)(h:SS w0 g n w D)(hn:n<=1000)(hab:a+1<m)(hb:m+1<=n)(hQ:cT D a m):
  ar 106 #[aL g n cap,af a,af m,af (m+1),.func (.func 39) #[aw gp] #[]] w (cI w0 g n a (m+1) D):=by
 open zhR in exact Zgg
theorem Found.goP{s p:Nat}(hp:p=mid+m-1)(he:jC a m b mid s0 r0)(h1:cT D a m)(h2:cT D m b)(h:Found D p s0 r0 s r)(hs:s0<=s)(hr:r<=r0)(hc:s<=c)(hc2:c<r):
  (¬lt (D (p-c)) (D c)->Found D p s0 r0 (c+1) r)/\(lt (D (p-c)) (D c)->Found D p s0 r0 s c):=by subst hp;exact Found.go he h1 h2 h hs hr hc hc2
variable{f:Nat}
theorem vL{s p:Nat}(hp:p=mid+m-1)(hf:f=mid+m-s)(he:jC a m b mid s0 r0)(h1:cT D a m)(h2:cT D m b)(h:Found D p s0 r0 s s)(hs:s0<=s)(hr:s<=r0):
  cT (bS D s m f) a s/\cT (bS D s m f) s mid/\cT (bS D s m f) mid f/\cT (bS D s m f) f b/\
  ∀x y,a<=x->x<mid->mid<=y->y<b->le (bS D s m f x) (bS D s m f y):=by subst hp hf;exact yP he h1 h2 h hs hr
noncomputable def La:Code:=f106.body.getD .skip
structure SyT (vc:Value) (T:x_) (g n cap a m b mid:Nat) (vn vs vf:Value):Prop where
 sz:T.size=220
 t0:T.getD 0 undef=aL g n cap
 t1:T.getD 1 undef=af a
 t2:T.getD 2 undef=af m
 t3:T.getD 3 undef=af b
 t4:T.getD 4 undef=vc
 t18:T.getD 18 undef=af mid
 t19:T.getD 19 undef=vn
 t20:T.getD 20 undef=vs
 t24:T.getD 24 undef=vf
def Z8(w0:t_)(g n cap a b:Nat)(D:Nat->aS ds gp):Prop:=b<=n/\n<=1000/\∀a' m' b' (E:Nat->aS ds gp) W,a' < m'->m' < b'->b'<=n->b'-a' < b-a->SS w0 g n W E->cT E a' m'->cT E m' b'->ar 106 #[aL g n cap,af (a':Nat),af (m':Nat),af (b':Nat),.func (.func 39) #[aw gp] #[]] W (cI w0 g n a' b' E)
def Z9(w0:t_)(g n a b:Nat)(D:Nat->aS ds gp)(d:List Deferred)(Q:y_):Prop:=∀A W,A.defers=d->cI w0 g n a b D (.returned (.tuple #[])) W->Q .normal A W
structure SyO (a b mid s f:Nat) (R:Nat->aS ds gp):Prop where
 o:a<mid/\mid<b/\a<=s/\s<=mid/\mid<=f/\f<=b
 q1:cT R a s
 q2:cT R s mid
 q3:cT R mid f
 q4:cT R f b
 q5:∀x y,a<=x->x<mid->mid<=y->y<b->le (R x) (R y)
variable{vn:Value}{R S:Nat->aS ds gp}{T:x_}{d:List Deferred}{Q:y_}
def zf2.Kbv(h:p:=by simp only[La,eC,f106,Option.getD_some];exact ZaM):=h
def zau.KM(h:p:=by open zf2 in exact Zeh):=h
theorem sy3{cap:Nat}{s:Nat}(hT:SyT (.func (.func 39) #[aw gp] #[]) T g n cap a m b mid (vn) (af s) (af f))(hS:SS w0 g n w S)(hw:SyO a b mid s f R)(h1:Sw a mid R S)(h2:cT S a mid)(hd:Sw a b D R)(hI:Z8 w0 g n cap a b D)(hQ:Z9 w0 g n a b D d Q):
  (eC La 11).wp prog Q {tmps:=T,defers:=d} w:=by
 open zau in exact Zag
def zav.KM(h:p:=by have HS:=aa hS;have HO:=aa hw;have HD:=aa hd;have o:=hw.o;have bn:=HI.ae.1;clear hS hw hd;have HY:=aa λ(S:Nat->aS ds gp) W (k1:SS w0 g n W S) (k2:Sw a mid R S) (k3:cT S a mid) T hT=>sy3 (T:=T) (d:=d) (m:=m) (vn:=vn) hT k1 HO.ae k2 k3 HD.ae HI.ae HQ.ae;simp only[La,eC,f106,Option.getD_some]at HY⊢;exact ZaP):=h
theorem sy2{cap:Nat}{s:Nat}(hT:SyT (.func (.func 39) #[aw gp] #[]) T g n cap a m b mid (vn) (af s) (af f))(hS:SS w0 g n w R)(hw:SyO a b mid s f R)(hd:Sw a b D R)(hI:Z8 w0 g n cap a b D)(hQ:Z9 w0 g n a b D d Q):
  (eC La 10).wp prog Q {tmps:=T,defers:=d} w:=by
 open zav in exact Zag
variable{vf:Value}
def zdk.KaC(h:p:=by simp only[La,eC,f106,Option.getD_some]at HY⊢;exact ZaN):=h
def zaw.KM(h:p:=by open zdk in exact Zbt):=h
theorem sy1{cap:Nat}{s p:Nat}(hT:SyT (.func (.func 39) #[aw gp] #[]) T g n cap a m b mid (af (mid+m:Nat)) (af s) (vf))(hS:SS w0 g n w D)(he:jC a m b mid s0 r0)(hp:p=mid+m-1)(k1:cT D a m)(k2:cT D m b)(hF:Found D p s0 r0 s s)(hs:s0<=s/\s<=r0)(hI:Z8 w0 g n cap a b D)(hQ:Z9 w0 g n a b D d Q):
  (eC La 8).wp prog Q {tmps:=T,defers:=d} w:=by
 open zaw in exact Zag
def zaL.KW(h:p:=by exact ZfS):=h
def zaM.KW(h:p:=by exact ZfC):=h
def zc1.Kay(h:p:=by
 have zpc:(p:Int)-(jp:Int)=((p-jp:Nat):Int):=WC;have HG:=aa (Found.goP HL.ae HO.ae A1.ae A2.ae HF.ae vZ hjr cj hcr);have cV:=λ q:Ext wr.heap.size wr=>(H2.ae.at_.later q.h).cell (p-jp) WC;have KY:=λ q:Ext wr.heap.size wr=>(H2.ae.at_.later q.h).lu (p-jp) WC;have c2:=λ q:Ext wr.heap.size wr=>(H2.ae.at_.later q.h).cell jp WC;have KZ:=λ q:Ext wr.heap.size wr=>(H2.ae.at_.later q.h).lu jp WC;have hc:=λ q:Ext wr.heap.size wr=>H2.ae.cmp (p-jp) jp WC WC q.h;by_cases Kx:xX (D (p-jp)) (D jp)< 0;have t2:=decide_eq_true Kx;have HX:=aa (HG.ae.2 Kx);clear Kx;refine aR 14 wr.heap.size wr cX Taa Taa Taa Taa ?_;open zaL in exact Zaj
 have t2:=decide_eq_false Kx;have HX:=aa (HG.ae.1 Kx);clear Kx;refine aR 14 wr.heap.size wr cX Taa Taa Taa Taa ?_;open zaM in exact Zaj):=h
def zcs.Kaq(h:p:=by
 have HY:=aa λ s W (hh:SS w0 g n W D) (M7:Found D p s0 r0 s s) (k3:s0<=s/\s<=r0) T vf hT=>sy1 (T:=T) (d:=d) (vf:=vf) hT hh HO.ae HL.ae A1.ae A2.ae M7 k3 HI.ae HQ.ae;simp only[La,eC,f106,Option.getD_some]at HY⊢;refine wp_seq_k λ K hK=>?_;have Fl:=aa hK;clear hK;go_wp2_with fail;go_loopw [20,21] (λ sv rv wr=>∃i j:Nat,s0<=i/\i<=j/\j<=r0/\sv=af i/\rv=af j/\SS w0 g n wr D/\Found D p s0 r0 i j) (λ sv rv _=>(intOf rv).toNat-(intOf sv).toNat);case atStart=>exact Zga
 case round=>
  clear HS;obtain⟨i,j,vZ,kE,hjr,rfl,rfl,hs,hF⟩:=hrel;have H2:=aa hs;have HF:=aa hF;clear hs hF;by_cases hlt:i<j
  ·go_upto_region 35 with fail;open zc1 in exact Zbi
  exact Zeu):=h
theorem syL{cap:Nat}{p:Nat}(hT:SyT (.func (.func 39) #[aw gp] #[]) T g n cap a m b mid (af (mid+m:Nat)) (af s0) (vf))(XO:T.getD 21 undef=af r0)(e22:T.getD 22 undef=af p)(hS:SS w0 g n w D)(hw:jC a m b mid s0 r0)(hl:p=mid+m-1)(hh:cT D a m)(M7:cT D m b)(hI:Z8 w0 g n cap a b D)(hQ:Z9 w0 g n a b D d Q):
  (eC La 7).wp prog Q {tmps:=T,defers:=d} w:=by
 open zcs in exact ZaQ
def zeo.KaT(h:p:=by exact Zht):=h
def zep.KaT(h:p:=by exact Zht):=h
def ze7.Ka7(h:p:=by go_enter func106,ntmps106;open zeo in exact ZcB):=h
def zhi.KbY(h:p:=by go_enter func106,ntmps106;open zep in exact ZcB):=h
def zdw.KaE(h:p:=by
 simp only[La,eC,f106,Option.getD_some]at HY;rw[<-pY]at HY;clear h hp k1 k2 hI;have bm:a<mid/\mid<b:=WC;have HM:=aa aaa;have HNN:=aa pY;clear aaa pY;by_cases c:mid<m
 ·open ze7 in exact Zc0
 open zhi in exact Zfs):=h
theorem Lb(w0:t_)(g n cap a m b:Nat)(D:Nat->aS ds gp)(w:t_)(h:SS w0 g n w D)(ham:a+1<m)(hmb:m+1<b)(k1:cT D a m)(k2:cT D m b)(hI:Z8 w0 g n cap a b D):
  ar 106 #[aL g n cap,af a,af m,af b,.func (.func 39) #[aw gp] #[]] w (cI w0 g n a b D):=by
 open zdw in exact Zbw
theorem xY(w0:t_)(g n cap:Nat)(hn:n<=1000):∀(N a m b:Nat) (D:Nat->aS ds gp) (w:t_),b-a<=N->a<m->m<b->b<=n->SS w0 g n w D->cT D a m->cT D m b->
  ar 106 #[aL g n cap,af a,af m,af b,.func (.func 39) #[aw gp] #[]] w (cI w0 g n a b D):=by exact ZbV
def EL(E:Nat->aS ds gp)(s n:Nat):Prop:=∀a,s ∣ a->cT E a (min (a+s) n)
theorem mZ{d x y:Nat}(h1:d ∣ x)(h2:d ∣ y)(h:x<y):x+d<=y:=Zd4
def Low(E:Nat->aS ds gp)(s a:Nat):Prop:=∀x,s ∣ x->x+s<=a->cT E x (x+s)
def Ld(E:Nat->aS ds gp)(s a n:Nat):Prop:=∀x,s ∣ x->a<=x->cT E x (min (x+s) n)
theorem Low.step{s:Nat}(h:Low E s a)(hd:s ∣ a)(hw:Sw a (a+s) E F)(ho:cT F a (a+s)):Low F s (a+s):=by exact Zej
theorem Ld.step{s:Nat}(h:Ld E s a n)(hab:a<=b)(hw:Sw a b E F):Ld F s b n:=λ x hx hle=>(h x hx WC).congr λ i h2 h3=>hw.ae i (.inr WC)
theorem je{s:Nat}(h:Low E s a)(hd:s ∣ a)(han:a<=n)(hn:n<a+s)(hw:Sw a n E F)(ho:cT F a n):EL F s n:=by exact ZcZ
def zfG.Kbn(h:p:=by
 go_loopw [6] (λ sv wr=>∃(j:Nat) (E:Nat->aS ds gp),0<j/\j<=2000/\sv=af j/\SS w0 g n wr E/\Sw 0 n D E/\EL E j n) (λ sv _=>n-(intOf sv).toNat);case atStart=>exact⟨20,F,by omega,by omega,rfl,H2.ae,HW.ae,Gb.ae⟩
 case round=>
  clear H2 HW Gb;obtain⟨j,E,hj0,hj,rfl,hS,hw,hl⟩:=hrel;have HS:=aa hS;have HO:=aa hw;have HL:=aa hl;clear hS hw hl;by_cases hlt:j<n
  ·go_wp2_with fail;go_loopw [7,8] (λ av bv wr2=>∃(a:Nat) (E:Nat->aS ds gp),2*j ∣ a/\a<=n/\av=af a/\bv=af (a+2*j:Nat)/\SS w0 g n wr2 E/\Sw 0 n D E/\Low E (2*j) a/\Ld E j a n) (λ av _ _=>n-(intOf av).toNat);case atStart=>exact Zgp
   case round=>exact Zam
  have HE:=aa (show cT E 0 n from(HL.ae 0 ⟨0,rfl⟩).mono aE WC);go_wp2_with fail;exact bodyPost_ret (v:=.tuple #[]) Tbu rfl ⟨rfl,E,HS.ae,HO.ae,HE.ae⟩):=h
theorem vQ(w0:t_)(g n cap:Nat)(D:Nat->aS ds gp)(w:t_)(h:SS w0 g n w D)(hn:n<=1000):
  ar 70 #[aL g n cap,af n,.func (.func 39) #[aw gp] #[]] w (cI w0 g n 0 n D):=by
 have Kx:=aa h;clear h;go_enter func70,ntmps70;go_wp2_with fail;go_loopw [7,8] (λ av bv wr=>∃(a:Nat) (E:Nat->aS ds gp),20 ∣ a/\a<=n/\av=af a/\bv=af (a+20)/\SS w0 g n wr E/\Sw 0 n D E/\Low E 20 a) (λ av _ _=>n-(intOf av).toNat);case atStart=>exact ZhC
 case round=>
  clear Kx;obtain⟨a,E,M7,han,rfl,rfl,hS,hw,hl⟩:=hrel;have HS:=aa hS;have HO:=aa hw;have HL:=aa hl;have A2:=aa M7;clear hS hw hl M7;by_cases hlt:a+20<=n;exact ZbX
  open zfG in exact ZdX
theorem nd(w0:t_)(g n cap:Nat)(D:Nat->aS ds gp)(w:t_)(h:SS w0 g n w D)(hn:n<=1000):
  ar 38 #[aL g n cap,.func (.func 39) #[aw gp] #[]] w (cI w0 g n 0 n D):=by have HC:=vQ w0 g n cap D w h hn;clear h;go_enter func38,ntmps38;go_wp2_with fail;refine HC.mono ?_;rintro e w1 ⟨rfl,b1⟩;go_wp2_with fail;exact bodyPost_ret (v:=.tuple #[]) Tbw rfl ⟨rfl,b1⟩
def nj(w:t_)(e:Ending)(w':t_):Prop:=e=.returned (.tuple #[])/\w'=w
theorem nk(A:xP)(cap:Nat)(w:t_):
  ar 105 #[.slice A 0 cap,af 0,af 0,.func (.func 39) #[aw gp] #[]] w (nj w):=by
 go_enter func105,ntmps105;go_wp2_with fail;go_loopw [8] (λ iv wr=>iv=af 1/\wr=w) (λ _ _=>0);case atStart=>exact ZfK
 case round=>obtain⟨rfl,rfl⟩:=hrel;go_wp2_with fail;exact bodyPost_ret (v:=.tuple #[]) Tbp rfl ⟨rfl,rfl⟩
theorem sZ(A:xP)(cap:Nat)(w:t_):
  ar 70 #[.slice A 0 cap,af 0,.func (.func 39) #[aw gp] #[]] w (nj w):=by
 go_enter func70,ntmps70;go_wp2_with fail;go_loopw [7,8] (λ av bv wr=>av=af 0/\bv=af 20/\wr=w) (λ _ _ _=>0);case atStart=>exact ZiF
 case round=>
  obtain⟨rfl,rfl,rfl⟩:=hrel;go_wp2_with fail;refine(nk A cap _).mono ?_;rintro e_ w1 ⟨rfl,rfl⟩;go_wp2_with fail;go_loopw [6] (λ sv wr=>sv=af 20/\wr=w1) (λ _ _=>0);case atStart=>exact ZfK
  case round=>obtain⟨rfl,rfl⟩:=hrel;go_wp2_with fail;exact bodyPost_ret (v:=.tuple #[]) Tbu rfl ⟨rfl,rfl⟩
theorem lN(A:xP)(cap:Nat)(w:t_):
  ar 38 #[.slice A 0 cap,.func (.func 39) #[aw gp] #[]] w (nj w):=by go_enter func38,ntmps38;go_wp2_with fail;refine(sZ A cap w).mono ?_;rintro e_ w1 ⟨rfl,rfl⟩;go_wp2_with fail;exact bodyPost_ret (v:=.tuple #[]) Tbw rfl ⟨rfl,rfl⟩
end Go.Proofs.YtndgjggokjickaaGreatDoor.L
namespace Go.Proofs.YtndgjggokjickaaGreatDoor
open _root_.Go.Proofs.Tryz
variable{p:Sort _}
set_option maxHeartbeats 90000000
set_option maxRecDepth 100000
open Go.ChangeShapes Go.WideShapes Go.ChangeAt Go.RowKit List
set_option linter.unusedVariables false
set_option linter.unusedSimpArgs false
noncomputable def eI:Code:=f11.body.getD .skip
def Zg(f:Nat->Value):x_:= #[f 0,f 1,f 2,f 3,f 4,f 5,f 6,f 7,f 8,f 9,f 10,f 11,f 12,f 13,f 14,f 15,f 16,f 17,f 18,f 19,f 20,f 21,f 22,f 23,f 24,f 25,f 26,f 27,f 28,f 29,f 30,f 31,f 32,f 33,f 34,f 35,f 36,f 37,f 38,f 39,f 40,f 41,f 42,f 43,f 44,f 45,f 46,f 47,f 48,f 49,f 50,f 51,f 52,f 53,f 54,f 55,f 56,f 57,f 58,f 59,f 60,f 61,f 62,f 63,f 64,f 65,f 66,f 67,f 68,f 69,f 70,f 71,f 72,f 73,f 74,f 75,f 76,f 77,f 78,f 79,f 80,f 81,f 82,f 83,f 84,f 85,f 86,f 87,f 88,f 89,f 90,f 91,f 92,f 93,f 94,f 95,f 96,f 97,f 98,f 99,f 100,f 101,f 102,f 103,f 104,f 105,f 106,f 107,f 108,f 109,f 110,f 111,f 112,f 113,f 114,f 115,f 116,f 117,f 118,f 119,f 120,f 121,f 122,f 123,f 124,f 125,f 126,f 127,f 128,f 129,f 130,f 131,f 132,f 133,f 134,f 135,f 136,f 137,f 138,f 139,f 140,f 141,f 142,f 143,f 144,f 145,f 146,f 147,f 148,f 149,f 150,f 151,f 152,f 153,f 154,f 155,f 156,f 157,f 158,f 159,f 160,f 161,f 162,f 163,f 164,f 165,f 166,f 167,f 168,f 169,f 170,f 171,f 172,f 173,f 174,f 175,f 176,f 177,f 178,f 179,f 180,f 181,f 182]
theorem zN(T:x_)(h:T.size=183):∃f:Nat->Value,T=Zg f:=by
 refine⟨λ i=>T.getD i undef,?_⟩;apply Array.ext;rw[h];rfl;intro i h1 h2;have e:∀(f:Nat->Value) (i:Nat) (hi:i <(Zg f).size),(Zg f)[i]=f i:=by intro f i hi;have h3:(Zg f).toList=(List.range 183).map f:=rfl;have h4:(Zg f)[i]=(Zg f).toList[i]' Tay:=Tad;exact ZgE
 rw[e];simp[Array.getD,h1]
def akj(w:t_)(LA:xP)(n:Nat)(D:Nat->aK×aK):Prop:=n=0\/∃g,LA=some ⟨g,0,none⟩/\g<w.heap.size/\∀i,i<n->w.cell? ⟨g,i*2,none⟩=some (.slice (D i).1.A (D i).1.l.length (D i).1.c)/\w.cell? ⟨g,i*2+1,none⟩=some (.slice (D i).2.A (D i).2.l.length (D i).2.c)
def rowsOf(D:Nat->aK×aK)(n:Nat):List aK:=(List.range n).map λ i=>(D i).1
theorem OG(D:Nat->aK×aK)(n:Nat):rowsOf D (n+1)=rowsOf D n++[(D n).1]:=by unfold rowsOf;rw[range_succ,map_append];rfl
theorem EM(D:Nat->aK×aK)(n:Nat):(rowsOf D n).length=n:=by simp[rowsOf]
def zhp.Kb1(h:p:=by obtain⟨OA,oc,MX,_⟩:=HO.ae.reads;subst MX;have HOX:=HO;have axe:=HO.ae.other NW.ae Tab;clear HO;go_wp2_with fail;refine HH.ae _ _ (.slice OA (rowsOf D k).length oc) rfl rfl rfl (((NW.ae.aW 0 _).aW 1 _).aW 2 _) ?_ (aF (aF (aF (aQ hb) _ _) _ _) _ _);refine HOX.ae.keep λ KK Kx=>?_;have hn:KK≠g6:=λ e=>axe TaX;rw[Below.heap_setCell _ ⟨g6,2,none⟩ _ KK hn,Below.heap_setCell _ ⟨g6,1,none⟩ _ KK hn,Below.heap_setCell _ ⟨g6,0,none⟩ _ KK hn]):=h
theorem aeI(gp g6 n lc:Nat)(LA:xP)(D:Nat->aK×aK)(HA:xP)(hn hc:Nat)(T:x_)(hT:T.size=183)(h6:T.getD 6 undef=aw g6)(h8:T.getD 8 undef=aw gp)(XP:T.getD 13 undef=.slice LA n lc)(d:List Deferred)(w:t_)(Q:y_)
  (pY:n<=1000000) (qZ:gp<w.heap.size) (hch:w.cell? ⟨gp,12,none⟩=some (.slice HA hn hc)) (sQ:aB w g6 33 #[az,az,af 0]) (hL:akj w LA n D)
  (h:∀a W ov,a.defers=d->a.tmps.getD 6 undef=aw g6->a.tmps.getD 7 undef=af 0->aB W g6 33 #[.slice HA hn hc,ov,af n]->aH bh 38 1 W w.heap.size ov (rowsOf D n)->w.grownBy W (some g6)->Q .ret a W):
  (eC eI 14).wp prog Q {tmps:=T,defers:=d} w:=by
 obtain⟨f,rfl⟩:=zN T hT;have h6:f 6=_:=h6;have h8:f 8=_:=h8;have XP:f 13=_:=XP;simp only[Zg,h6,h8,XP];clear h6 h8 XP;clear h6 h8 XP hT;have HH:=aa h;have yD:=aa sQ;have HL:=aa hL;have b1:=ah w (.cells #[.slice HA hn hc,az,af n] 33);have cL:=aB.new w 33 #[.slice HA hn hc,az,af n];have eZ:=aa b1;have HX:=aa cL;clear h sQ hL b1 cL;simp only[eI,eC,f11,Option.getD_some];go_upto_region 33 with fail;clear hch qZ;obtain⟨g,hg⟩:∃g,g=w.heap.size:=⟨_,rfl⟩;rw[<-hg]at HX⊢;have xF:=aa hg;clear hg;generalize w.alloc _=W1 at*;go_wp2_with fail;go_loopw [170] (λ i wr=>∃(k:Nat) (ov:Value),k<=n/\i=af k/\aB wr g 33 #[.slice HA hn hc,ov,af n]/\aH bh 38 1 wr w.heap.size ov (rowsOf D k)/\ai w wr) (λ i _=>n-(intOf i).toNat);case atStart=>exact⟨0,_,gE,rfl,HX.ae,aH.nil,eZ.ae⟩
 case round=>
  clear eZ HX;obtain⟨k,ov,hk,rfl,hR,hO,hb⟩:=hrel;have HR:=aa hR;have HO:=aa hO;clear hR hO;by_cases hlt:k<n
  ·obtain⟨lb,hA,yB,cj⟩:∃KK,LA=some ⟨KK,0,none⟩/\KK<w.heap.size/\∀i,i<n->w.cell? ⟨KK,i*2,none⟩=some (.slice (D i).1.A (D i).1.l.length (D i).1.c)/\w.cell? ⟨KK,i*2+1,none⟩=some (.slice (D i).2.A (D i).2.l.length (D i).2.c):=by rcases HL.ae with h|h;omega;exact h
   obtain⟨z0,z1⟩:=cj k hlt;have y0:=(hb.cell (p:=⟨lb,k*2,none⟩) yB).trans z0;have Lw:=(hb.cell (p:=⟨lb,k*2+1,none⟩) yB).trans z1;subst hA;have HS:=aa (OG D k);have Az:=aa (EM D k);generalize (D k).1=r at*;generalize (D k).2=s at*;generalize rowsOf D k=rs at*;clear yB cj z0 z1;go_upto_region 36 with fail;have b1:=ah wr (.cells #[.slice r.A r.l.length r.c,.slice s.A s.l.length s.c] 91);have cL:=aB.new wr 91 #[.slice r.A r.l.length r.c,.slice s.A s.l.length s.c];have y1:=cL.cell 0;simp only[getElem?_toArray,getElem?_cons_zero]at y1;have Xy:=aa (HR.ae.later b1);have zB:=aa (HO.ae.later b1);have hb1:=aj.then hb b1;have HK:=aa cL;clear b1 HR HO hb cL y0 Lw;generalize hw1:wr.alloc (.cells #[.slice r.A r.l.length r.c,.slice s.A s.l.length s.c] 91)=W2 at*;generalize wr.heap.size=gl at*;clear hw1;have a1:=Xy.ae.cell 1;simp only[Uaa]at a1;have hB:=ah W2 (.cells #[.slice r.A r.l.length r.c] 38);have hG:=aB.new W2 38 #[.slice r.A r.l.length r.c];have UG:=aa (Xy.ae.later hB);have xG:=aa (zB.ae.later hB);have hb2:=aj.then hb1 hB;have HG:=aa hG;have hbase:=hb2.size;have lQ:=Az.ae;clear hB hG Xy zB;go_wp2_with (first
    |(at_builtin
      refine aV rfl (.tmp 175) (.tmp 178) 29 rfl _ 24 underlying29 iG rfl WC r rfl Tar rfl xG.ae W2.heap.size rfl HG.ae WC WC hbase ?_;intro v4 w4 o4 g4;obtain⟨A4,c4,hv4,_⟩:=o4.reads;rw[length_append,length_singleton,lQ]at hv4;subst hv4;have G4:=aa (UG.ae.lg xG.ae Tab g4);have gc:=G4.ae.cell 1;have gf:=G4.ae.frozen 1;simp only[Uaa]at gc;have B4:=aa (bj xG.ae g4 hbase);have O4:=aa o4;clear o4 g4))
   go_roundw;case rel=>have hgn:=O4.ae.other G4.ae Tab;refine⟨k+1,_,hlt,by go_num,G4.ae.aW 1 _,?_,(hb2.trans B4.ae).setCell TaV _⟩;rw[HS.ae];exact O4.ae.keep λ KK Kx=>Below.heap_setCell _ ⟨g,1,none⟩ _ KK (λ e=>hgn TaX)
   case measure=>exact Za2
  have fX:k=n:=by omega
  subst fX;have a0:=HR.ae.cell 0;have a1:=HR.ae.cell 1;have a2:=HR.ae.cell 2;simp only[Uaa]at a0 a1 a2;have NW:=aa (show aB wr g6 33 #[az,az,af 0] from(hb.block g6 yD.ae.lt).trans yD.ae);open zhp in exact Zfv
def fg(x:aK×aK):xr:=[.slice x.1.A x.1.l.length x.1.c,.slice x.2.A x.2.l.length x.2.c]
def OH(x:aK×aK):eu:=⟨x.1.l,x.2.l⟩
theorem Vb:(prog.info? 91).map (λ i=>(i.zero,i.size,i.bytes))=some (some (.agg #[az,az]),2,48):=by exact Zhr
variable{ds:List Bool}{gp:Nat}
def toD(x:aK×aK):L.aS ds gp:=⟨x.1,x.2⟩
variable{w w':t_}{A:xP}{l:w_}
theorem cK.later(h:cK w A l)(hb:ai w w'):cK w' A l:=h.keep hb.size λ b cur hc=>hb.block b hc.lt
variable{α:Type}{f:α->xr}{e:TypeId}{base:Nat}
theorem cK.own{size:Nat}{v:Value}{l:List α}{k:w_}(h:cK w A k)(ho:aH f e size w base v l)(he:44≠e)(hg:w.grownBy w' v.ownBlock):cK w' A k:=
 h.keep hg.size λ b cur hc=>hg.block b hc.lt λ e2=>ho.other hc he e2.symm
structure js (w:t_) (r:aK):Prop where
 key:cK w r.A r.l
 cap:r.l.length<=r.c
variable{r:aK}
theorem js.map(h:js w r)(k:cK w r.A r.l->cK w' r.A r.l):js w' r:=⟨k h.key,h.cap⟩
theorem js.later(h:js w r)(hb:ai w w'):js w' r:=⟨h.key.later hb,h.cap⟩
theorem js.own{size:Nat}{v:Value}{l:List α}(h:js w r)(ho:aH f e size w base v l)(he:44≠e)(hg:w.grownBy w' v.ownBlock):js w' r:=⟨h.key.own ho he hg,h.cap⟩
theorem js.rv(h:js w r):RV w w.heap.size r.A r.l:=h.key.rv
def aac(ord:List (Tr×Bool))(LA:xP)(dN:List (aK×aK))(lv:Value)(w:t_)(e:Ending)(w':t_):Prop:=
 e=.returned (.tuple #[])/\∃E:Nat->aK×aK,akj w' LA dN.length E/\((List.range dN.length).map λ i=>OH (E i)).map eu.row=(iF (ord.map λ o=>o.2) (dN.map OH)).map eu.row/\(∀i,i<dN.length->E i∈dN)/\w.grownBy w' lv.ownBlock
theorem Vc:∀(l:List (aK×aK)) (i:Nat) x,l[i]?=some x->(l.flatMap fg)[i*2]?=some (.slice x.1.A x.1.l.length x.1.c)/\(l.flatMap fg)[i*2+1]?=some (.slice x.2.A x.2.l.length x.2.c)
 |[],i,x,h=>by simp at h
 |y::l,0,x,h=>by simp at h;subst h;exact⟨rfl,rfl⟩
 |y::l,i+1,x,h=>by
   have:=Vc l i x Taj;rw[flatMap_cons];rw[getElem?_append_right (by simp[fg];omega),getElem?_append_right (by simp[fg];omega)];have e1:(i+1)*2-(fg y).length=i*2:=by simp[fg];omega
   have e2:(i+1)*2+1-(fg y).length=i*2+1:=by simp[fg];omega
   rw[e1,e2];exact this
theorem SH(gp:Nat)(ord:List (Tr×Bool))(oA:xP)(on oc:Nat)(dN:List (aK×aK))(base:Nat)(LA:xP)(lc:Nat)(w:t_)(pY:dN.length<=1000)(O6:ord.length<=1599289640356)(qZ:gp<w.heap.size)(Dn:w.cell? ⟨gp,6,none⟩=some (.slice oA on oc))(hgt:∃cs,aB w gp 81 cs)(hO:fh w (ord.map λ x=>(x.1,Value.bool x.2)) oA on)
  (hOt:∀b,base<=b->∀w',w.grownBy w' (some b)->fh w' (ord.map λ x=>(x.1,Value.bool x.2)) oA on)
  (Zb:aH fg 91 2 w base (.slice LA dN.length lc) dN) (td:∀x∈dN,js w x.1/\cK w x.2.A x.2.l/\x.1.l.length<=1000/\x.2.l.length=ord.length):
  ar 38 #[.slice LA dN.length lc,.func (.func 39) #[aw gp] #[]] w (aac ord LA dN (.slice LA dN.length lc) w):=by
 by_cases h0:dN=[];subst h0;refine(L.lN LA lc w).mono ?_;rintro e w' ⟨rfl,rfl⟩;exact⟨rfl,λ _=>(⟨none,[],0⟩,⟨none,[],0⟩),.inl rfl,rfl,λ i hi=>by simp at hi,⟨rfl,rfl,rfl,aE,λ _ _ _=>rfl⟩⟩;have hlen:0<dN.length:=List.length_pos_iff.2 h0;obtain⟨Jn,h1|⟨g,cap,cur,hv,hbg,hg,hlc,hm,hsz,mC⟩⟩:=Zb;omega;injection hv with e1 _ e2;subst e1 e2;have hD0:∀i,i<dN.length->∃x,dN[i]?=some x:=λ i hi=>⟨_,getElem?_eq_getElem hi⟩
 let d0:aK×aK:=(⟨none,[],0⟩,⟨none,[],0⟩);let D:Nat->L.aS (ord.map λ o=>o.2) gp:=λ i=>toD (dN.getD i d0)
 have Ci:∀i (hi:i<dN.length),dN.getD i d0=dN[i]:=λ i hi=>by rw[getD_eq_getElem?_getD,getElem?_eq_getElem hi];rfl
 have oh:∀(j:Nat) v,(dN.flatMap fg)[j]?=some v->cur[j]?=some v:=λ j v hj=>by
  rw[<-Array.getElem?_toList];have:(cur.toList.take (dN.length*2))[j]?=some v:=by rw[mC];exact hj
  rw[getElem?_take]at this;split at this;exact this;cases this
 have hAt:L.At w g dN.length D:=by refine⟨cur,hg,?_,λ i hi=>?_⟩;rw[hsz];exact Nat.mul_le_mul_right 2 hlc;obtain⟨f1,f2⟩:=Vc dN i dN[i] (getElem?_eq_getElem hi);refine⟨(oh _ _ f1).trans ?_,(oh _ _ f2).trans ?_⟩;show _=some (Value.slice (dN.getD i d0).1.A (dN.getD i d0).1.l.length (dN.getD i d0).1.c);rw[Ci i hi];show _=some (Value.slice (dN.getD i d0).2.A (dN.getD i d0).2.l.length (dN.getD i d0).2.c);rw[Ci i hi]
 have hRN:∀r:aK,cK w r.A r.l->L.RN w g r:=λ r hr=>by rcases hr.rv with h|⟨b,off,e1,e2,e3⟩;exact Zis;obtain⟨cs,hcs⟩:=hr.ty _ e1;exact .inr ⟨b,off,e1,e2,λ e=>by have:=lJ hcs hg Tab;exact this e,e3⟩
 have akk:∀k,k<dN.length->L.RN w g (D k).row/\L.RN w g (D k).keys/\(D k).row.l.length<=1000/\(D k).keys.l.length=(ord.map λ o=>o.2).length:=λ k hk=>by
  have hx:=td dN[k] (getElem_mem hk);have e:D k=toD dN[k]:=by show toD (dN.getD k d0)=_;rw[Ci k hk]
  rw[e];exact⟨hRN _ hx.1.key,hRN _ hx.2.1,hx.2.2.1,by rw[length_map];exact hx.2.2.2⟩
 have ei:gp≠g:=by obtain⟨cs,hcs⟩:=hgt;exact lJ hcs hg Tab
 have axf:L.ahj (ord.map λ o=>o.2) gp w g:=λ x y W hW r1 r2 r3 r4 l1 l2 l3 l4=>by rw[length_map]at l3 l4;have hc:=OE gp ord oA on oc ⟨x.row,x.keys⟩ ⟨y.row,y.keys⟩ W O6 (eS qZ hW.size) ((bI (hW.block gp qZ (λ e=>ei Tbl)) 6).trans Dn) (hOt g hbg W hW) ⟨r1.rv hW,r2.rv hW,l3,l1⟩ ⟨r3.rv hW,r4.rv hW,l4,l2⟩;exact hc
 refine(L.nd w g dN.length lc D w ⟨hAt,World.grownBy.refl w _,akk,axf⟩ pY).mono ?_;rintro e w' ⟨rfl,E,hS,hSw,hSr⟩;refine⟨rfl,λ i=>((E i).row,(E i).keys),.inr ⟨g,rfl,eS (show aB w g 91 cur from hg).lt hS.grown.size,λ i hi=>⟨hS.at_.cell i hi,hS.at_.lu i hi⟩⟩,?_,λ i hi=>?_,hS.grown⟩
 ·have hD:((List.range dN.length).map D).map (λ x:L.aS (ord.map λ o=>o.2) gp=>x.s)=dN.map OH:=by
   rw[map_map];apply ext_getElem;simp;intro i i1 i2;have hi:i<dN.length:=by simpa using i2
   simp only[getElem_map,getElem_range];show(toD (ds:=ord.map λ o=>o.2) (gp:=gp) (dN.getD i d0)).s=OH dN[i];rw[Ci i hi];rfl
  have hE:((List.range dN.length).map λ i=>OH ((E i).row,(E i).keys))=((List.range dN.length).map E).map (λ x:L.aS (ord.map λ o=>o.2) gp=>x.s):=by rw[map_map];rfl
  rw[hE];have hp:(((List.range dN.length).map E).map (λ x:L.aS (ord.map λ o=>o.2) gp=>x.s)).Perm (dN.map OH):=by rw[<-hD];exact(hSw.perm aE).map _
  unfold iF;refine Qx (mU _) eu.row (λ x y h=>RH h) _ _ (hp.trans (iV _ _).symm) ?_ (pT (mU _) _);rw[pairwise_map,pairwise_iff_getElem];intro i j hi hj kE;simp at hi hj;simp only[getElem_map,getElem_range];exact hSr i j WC kE hj
 obtain⟨k',_,TC,he⟩:=hSw.mem i gE hi;show((E i).row,(E i).keys)∈dN;rw[he];show((toD (ds:=ord.map λ o=>o.2) (gp:=gp) (dN.getD k' d0)).row,(toD (ds:=ord.map λ o=>o.2) (gp:=gp) (dN.getD k' d0)).keys)∈dN;rw[Ci k' TC];exact getElem_mem TC
theorem XQ(u:t_):(sizeOf (prog.elem 85)).run prog u=.ok 2 u:=by exact Zhr
theorem XR(A1:xP)(n c1 k:Nat)(hk:k<=c1)(u:t_):(Instr.slice 85 (.slice A1 n c1) none (some (af k)) none).run prog u=.ok (.slice A1 k c1) u:=by rw[run_slice_h u 85 A1 n c1 underlying85 .i64 k WC WC,XQ];exact Zih
def zcL.Kav(h:p:=by
 clear U5 h Bi Ui qT hfn hz hS hw hl hh M7 hJ Pk Dn Lw hOt;have akm:=λ(n:Nat) (wV:n<=1000) D T hT h6 h8 XP d w1 Q=>aeI gp g6 n lc LA D HA hn hc T hT h6 h8 XP d w1 Q WC;simp only[eI,eC,f11,Option.getD_some]at akm;have akn:=aa akm;clear akm;simp only[eI,eC,f11,Option.getD_some];refine wp_seq_k λ K hK=>?_;have Fl:=aa hK;clear hK;go_wp2_with fail;refine HSO.ae.mono ?_;rintro e w1 ⟨rfl,E,hE,hs,hm,hg⟩;have HE:=aa hE;have KK:=aa hs;have HM:=aa hm;have HG:=aa hg;clear hE hs hm hg HSO;go_wp2_with fail;refine Fl.ae _ _ ?_;clear Fl;have ako:w1.cell? ⟨gp,12,none⟩=some (.slice HA hn hc):=by obtain⟨cs,hcs⟩:=Nj.ae;exact(bI (HG.ae.block gp HFN.ae λ e=>ox.ae.other hcs Tab e.symm) 12).trans HK.ae
 have hk7:w1.cell? ⟨g3,7,none⟩=some (.slice lA lim.length lc2):=by obtain⟨cs,hcs⟩:=HO.ae;exact(bI (HG.ae.block g3 hcs.lt λ e=>ox.ae.other hcs Tab e.symm) 7).trans HS.ae
 have hb1:Below base w w1:=bj ox.ae HG.ae HJ.ae;have SJ:=aa (show aB w1 g6 33 #[az,az,af 0] from iT.ae.lg ox.ae Tab HG.ae);have JK:gp<w1.heap.size:=eS HFN.ae HG.ae.size;have hO:∀(n:Nat) (YI:n<=dN.length) (ahl:((List.range n).map λ i=>OH (E i)).map eu.row=((match lim with|[]=>iF (ord.map λ o:Tr×Bool=>o.2) (dN.map OH)|n::_=>(iF (ord.map λ o:Tr×Bool=>o.2) (dN.map OH)).take n.toNat).map eu.row)) (a:Act) W ov,a.defers=d->a.tmps.getD 6 undef=aw g6->a.tmps.getD 7 undef=af 0->aB W g6 33 #[.slice HA hn hc,ov,af n]->aH bh 38 1 W w1.heap.size ov (rowsOf E n)->w1.grownBy W (some g6)->Q .ret a W:=by
  intro n YI ahl a W ov e1 e2 e3 k6 oW gW;refine HH.ae a W ov (rowsOf E n) e1 e2 e3 (by rw[EM];exact k6) (oW.down (fK HJ.ae HG.ae.size)) (λ r hr=>?_) ?_ ?_;unfold rowsOf at hr;obtain⟨i,hi,rfl⟩:=List.mem_map.1 hr;have hi:i<n:=List.mem_range.1 hi;have hx:=pE.ae _ (HM.ae i WC);exact(hx.1.own ox.ae Tab HG.ae).map λ hk9=>hk9.keep gW.size λ b cur zF=>gW.block b zF.lt λ e=>by injection e with e;subst e;exact lJ zF SJ.ae Tab rfl
  rw[<-ahl];unfold rowsOf;rw[map_map,map_map];rfl;exact⟨w1,HG.ae,gW⟩
 have HBE:=aa hO;clear hO;refine wp_seq_k λ K hK=>?_;have Fl:=aa hK;clear hK;rcases lim with _|⟨n,_|⟨n2,lim⟩⟩
 ·have mO:=HBE.ae dN.length aE KK.ae;clear HBE;have HF:=aa mO;clear mO;go_wp2_with fail;exact Fl.ae _ _ (akn.ae dN.length pY E _ rfl rfl rfl rfl d w1 Q JK ako SJ.ae HE.ae λ a W ov e1 e2 e3 k6 oW gW=>HF.ae a W ov e1 e2 e3 k6 oW gW)
 ·obtain⟨n0,n1⟩:=A1.ae n Tad;obtain hl2|⟨lb,lo,hA,yB,cj⟩:=HL.ae
  ·cases hl2
  have hl0:=cj 0 n rfl;have M7:w1.cell? ⟨lb,lo,none⟩=some (af n):=by rw[Nat.add_zero]at hl0;refine(bI (HG.ae.block lb (eS yB HJ.ae) λ e=>?_) lo).trans hl0;have:=(ox.ae.lt e.symm).2.1;omega
  subst hA;obtain⟨k,hk⟩:∃k:Nat,n=k:=⟨n.toNat,by omega⟩;subst hk;have hs2:=XR LA dN.length lc (min dN.length k) WC w1;have mO:=HBE.ae (min dN.length k) (Nat.min_le_left _ _) (by have h1:=congrArg (List.take k) KK.ae;rw[<-map_take,<-map_take,<-map_take,take_range]at h1;rw[Nat.min_comm];exact h1)
  have nI:akj w1 LA (min dN.length k) E:=by rcases HE.ae with h|⟨g,q1,q2,q3⟩;exact .inl WC;exact .inr ⟨g,q1,q2,λ i hi=>q3 i WC⟩
  have HF:=aa mO;have zK:=aa nI;clear mO nI HBE hl0 yB cj HL;by_cases hlt:k<dN.length
  ·have Ck:min dN.length k=k:=by omega
   rw[Ck]at hs2 HF zK;have rB:((k:Int)<(dN.length:Int)):=WC;go_wp2_with fail;have hmt:(min (dN.length:Int) (k:Int)).toNat=k:=WC;simp only[hmt];exact Fl.ae _ _ (akn.ae k WC E _ rfl rfl rfl rfl d w1 Q JK ako SJ.ae zK.ae λ a W ov e1 e2 e3 k6 oW gW=>HF.ae a W ov e1 e2 e3 k6 oW gW)
  have Ck:min dN.length k=dN.length:=by omega
  rw[Ck]at hs2 HF zK;have rB:¬((k:Int)<(dN.length:Int)):=WC;go_wp2_with fail;have hmt:(min (dN.length:Int) (k:Int)).toNat=dN.length:=WC;simp only[hmt];exact Fl.ae _ _ (akn.ae dN.length WC E _ rfl rfl rfl rfl d w1 Q JK ako SJ.ae zK.ae λ a W ov e1 e2 e3 k6 oW gW=>HF.ae a W ov e1 e2 e3 k6 oW gW)
 have:=A2.ae;simp at this):=h
theorem aad(gp g3 g6:Nat)(ord:List (Tr×Bool))(oA:xP)(on oc:Nat)(lim:List Int)(lA:xP)(lc2:Nat)(dN:List (aK×aK))(base:Nat)(LA:xP)(lc:Nat)(HA:xP)(hn hc:Nat)(T:x_)(hT:T.size=183)(h3:T.getD 3 undef=aw g3)(h6:T.getD 6 undef=aw g6)(h8:T.getD 8 undef=aw gp)(XP:T.getD 13 undef=.slice LA dN.length lc)(d:List Deferred)(w:t_)(Q:y_)
  (pY:dN.length<=1000) (O6:ord.length<=1599289640356) (hfn:gp<w.heap.size) (hz:w.cell? ⟨gp,12,none⟩=some (.slice HA hn hc)) (Dn:w.cell? ⟨gp,6,none⟩=some (.slice oA on oc)) (qT:∃cs,aB w gp 81 cs) (Lw:fh w (ord.map λ x=>(x.1,Value.bool x.2)) oA on)
  (hOt:∀b,base<=b->∀w',w.grownBy w' (some b)->fh w' (ord.map λ x=>(x.1,Value.bool x.2)) oA on)
  (hS:w.cell? ⟨g3,7,none⟩=some (.slice lA lim.length lc2)) (hw:∃cs,aB w g3 27 cs) (hl:lim=[]\/∃b off,lA=some ⟨b,off,none⟩/\b<base/\∀i x,lim[i]?=some x->w.cell? ⟨b,off+i,none⟩=some (af x)) (hh:∀n∈lim,0<=n/\n<=9223372036854775807) (M7:lim.length<=1)
  (Ui:aB w g6 33 #[az,az,af 0]) (hJ:base<=w.heap.size)
  (Bi:aH fg 91 2 w base (.slice LA dN.length lc) dN) (Pk:∀x∈dN,js w x.1/\cK w x.2.A x.2.l/\x.1.l.length<=1000/\x.2.l.length=ord.length)
  (h:∀a W ov (out:List aK),a.defers=d->a.tmps.getD 6 undef=aw g6->a.tmps.getD 7 undef=af 0->aB W g6 33 #[.slice HA hn hc,ov,af out.length]->aH bh 38 1 W base ov out->(∀r∈out,js W r)->out.map (·.l)=((match lim with|[]=>iF (ord.map λ o:Tr×Bool=>o.2) (dN.map OH)|n::_=>(iF (ord.map λ o:Tr×Bool=>o.2) (dN.map OH)).take n.toNat).map eu.row)->(∃wm,w.grownBy wm (Value.slice LA dN.length lc).ownBlock/\wm.grownBy W (some g6))->Q .ret a W):
  (eC eI 12).wp prog Q {tmps:=T,defers:=d} w:=by
 obtain⟨f,rfl⟩:=zN T hT;have h3:f 3=_:=h3;have h6:f 6=_:=h6;have h8:f 8=_:=h8;have XP:f 13=_:=XP;simp only[Zg,h3,h6,h8,XP];clear h3 h6 h8 XP;clear h3 h6 h8 XP hT;have U5:=SH gp ord oA on oc dN base LA lc w pY O6 hfn Dn qT Lw hOt Bi Pk;have hle:dN.length<=lc:=by obtain⟨_,_,e,_,Kx,_⟩:=Bi.reads;injection e with _ _ e;rw[e];exact Kx
 have HSO:=aa U5;have HH:=aa h;open zcL in exact Zbf
def EN(items order:vI)(over:List aZ)(r:w_):uC eu:=match bA over r (items++order)with
 |.error e=>.error e
 |.ok l=>.ok ⟨if items=[] then r else l.take items.length,l.drop items.length⟩
def xZ(items order:vI)(over:List aZ)(rs:List aK):List eu:=rs.filterMap λ r=>vu (EN items order over r.l)
variable{order:vI}{over:List aZ}{rs:List aK}{k:Nat}
theorem XS{items:vI}(h:k<rs.length):xZ items order over (rs.take (k+1))=xZ items order over (rs.take k)++(match vu (EN items order over rs[k].l)with|some x=>[x]|none=>[]):=by
 have e:rs.take (k+1)=rs.take k++[rs[k]]:=by rw[take_add_one,getElem?_eq_getElem h];rfl
 unfold xZ;rw[e,filterMap_append];congr 1;rw[filterMap_cons,filterMap_nil];cases vu (EN items order over rs[k].l)<;>rfl
variable{c n:Nat}{a:Addr}
theorem OI(h:fk A c n=some a):∃b,A=some b/\b.block=a.block:=by
 unfold fk at h;split at h;exact⟨a,h,rfl⟩;cases A with
 |none=>cases h
 |some b=>simp only[Option.map_some,Option.some.injEq]at h;exact⟨b,rfl,by rw[<-h,wG]⟩
theorem cK.drop(h:cK w A l)(n c:Nat)(hc:l.length<=c):cK w (fk A c n) (l.drop n):=
 ⟨h.rv.UJ n c hc,λ a ha=>by obtain⟨b,e1,e2⟩:=OI ha;obtain⟨cur,zF⟩:=h.ty b e1;exact⟨cur,e2▸zF⟩⟩
structure OJ (w:t_) (gp:Nat) (items order:vI) (over:List aZ) (yi yo:v_) (IA:xP) (ic:Nat) (DA:xP) (dc:Nat) (OA:xP):Prop where
 lt:gp<w.heap.size
 c13:w.cell? ⟨gp,13,none⟩=some (.slice IA yi.length ic)
 c15:w.cell? ⟨gp,15,none⟩=some (.slice DA yo.length dc)
 ri:RE w w.heap.size IA yi
 ti:Tr.aO w (Old w) items yi
 ro:RE w w.heap.size DA yo
 eP:Tr.aO w (Old w) order yo
 rc:RC w w.heap.size OA over
variable{yi yo:v_}{IA:xP}{ic:Nat}{DA:xP}{dc:Nat}{OA:xP}
theorem OJ.later{items:vI}(h:OJ w gp items order over yi yo IA ic DA dc OA)(hb:ai w w'):OJ w' gp items order over yi yo IA ic DA dc OA:=
 ⟨eS h.lt hb.size,(hb.cell (p:=⟨gp,13,none⟩) h.lt).trans h.c13,(hb.cell (p:=⟨gp,15,none⟩) h.lt).trans h.c15,h.ri.later hb,Tr.aO.later h.ti hb,h.ro.later hb,Tr.aO.later h.eP hb,h.rc.later hb⟩
def akq(gp:Nat)(IA:xP)(ni ic:Nat)(DA:xP)(no dc:Nat)(CA:xP)(cn cc:Nat)(RA:xP)(rn rc:Nat)(E:v_)(B0:Nat)(res:uC (w_)):Nat->t_->Value->Prop
 |0,_,v=>v=aw gp
 |1,_,v=>v=aw gp
 |2,_,v=>v=aY gp 13
 |3,_,v=>v=.slice IA ni ic
 |4,_,v=>v=aw gp
 |5,_,v=>v=aw gp
 |6,_,v=>v=aY gp 15
 |7,_,v=>v=.slice DA no dc
 |8,w,v=>∃gB:Nat,v=aL gB 2 2/\aB w gB 23 #[.slice IA ni ic,.slice DA no dc]
 |9,w,v=>∃v7:Value,v=v7/\vO w B0 v7 E
 |10,_,v=>v=.slice CA cn cc
 |11,_,v=>v=.slice RA rn rc
 |12,w,v=>∃x0 x1:Value,v=.tuple #[x0,x1]/\oB res w B0 x0 x1
 |13,w,v=>∃x0 x1:Value,v=.tuple #[x0,x1]/\oB res w B0 x0 x1
 |14,w,v=>∃x0 x1:Value,v=x0/\oB res w B0 x0 x1
 |15,_,v=>v=af (od res)
 |16,w,v=>∃x0 x1:Value,v=x0/\oB res w B0 x0 x1
 |_,_,_=>False
theorem SK(gp:Nat)(IA:xP)(ni ic:Nat)(DA:xP)(no dc:Nat)(CA:xP)(cn cc:Nat)(RA:xP)(rn rc:Nat)(E:v_)(B0:Nat)(res:uC (w_)):∀i w w' v,akq gp IA ni ic DA no dc CA cn cc RA rn rc E B0 res i w v->aj w w'->akq gp IA ni ic DA no dc CA cn cc RA rn rc E B0 res i w' v:=by
 intro i w w' v h hl
 match i with
 |0|1|2|3|4|5|6|7|10|11|15=>exact h
 |8=>obtain⟨gB,h1,f0⟩:=h;exact⟨gB,h1,f0.later hl⟩
 |9=>obtain⟨v7,h1,f0⟩:=h;exact⟨v7,h1,f0.later hl⟩
 |12=>exact Zci
 |13=>exact Zci
 |14=>exact Zci
 |16=>exact Zci
 |n+17=>exact h
def akr(gp:Nat)(IA:xP)(ni ic:Nat)(XA:xP)(xn xc B0:Nat):Nat->t_->Value->Prop
 |0,_,v=>v=.slice XA xn xc
 |1,_,v=>v=aw gp
 |2,_,v=>v=aw gp
 |3,_,v=>v=aY gp 13
 |4,_,v=>v=.slice IA ni ic
 |5,_,v=>v=af ni
 |6,_,v=>v=aw gp
 |7,_,v=>v=aw gp
 |8,_,v=>v=aY gp 13
 |9,_,v=>v=.slice IA ni ic
 |10,_,v=>v=af ni
 |11,_,v=>v=.slice XA ni ni
 |12,_,v=>v=.slice XA xn xc
 |13,_,v=>v=aw gp
 |14,_,v=>v=aw gp
 |15,_,v=>v=aY gp 13
 |16,_,v=>v=.slice IA ni ic
 |17,_,v=>v=af ni
 |18,_,v=>v=.slice (fk XA xc ni) (xn-ni) (xc-ni)
 |19,_,v=>v=.agg #[.slice XA ni ni,.slice (fk XA xc ni) (xn-ni) (xc-ni)]
 |20,w,v=>∃gx:Nat,v=aw gx/\aB w gx 91 #[az,az]/\B0<=gx
 |_,_,_=>False
theorem SL(gp:Nat)(IA:xP)(ni ic:Nat)(XA:xP)(xn xc B0:Nat):∀i w w' v,akr gp IA ni ic XA xn xc B0 i w v->aj w w'->akr gp IA ni ic XA xn xc B0 i w' v:=by
 intro i w w' v h hl
 match i with
 |0|1|2|3|4|5|6|7|8|9|10|11|12|13|14|15|16|17|18|19=>exact h
 |20=>obtain⟨gx,h1,f0,f1⟩:=h;exact⟨gx,h1,f0.later hl,f1⟩
 |n+21=>exact h
def aks(gb:Nat)(le:Int):Nat->t_->Value->Prop
 |0,_,v=>v=.agg #[az,az,af 0]
 |1,_,v=>v=aw gb
 |2,_,v=>v=af le
 |3,_,v=>v=undef
 |4,_,v=>v=af le
 |_,_,_=>False
theorem SM(gb:Nat)(le:Int):∀i w w' v,aks gb le i w v->aj w w'->aks gb le i w' v:=by exact ZhI
variable{g:Nat}{t:TypeId}{b:Value}
theorem qO{a c:Value}(h:aB w g t #[a,b,c]):aj w (((w.setCell ⟨g,0,none⟩ a).setCell ⟨g,1,none⟩ b).setCell ⟨g,2,none⟩ c):=by have h2:aB (((w.setCell ⟨g,0,none⟩ a).setCell ⟨g,1,none⟩ b).setCell ⟨g,2,none⟩ c) g t #[a,b,c]:=((h.aW 0 a).aW 1 b).aW 2 c;refine⟨rfl,rfl,rfl,by simp,λ k hk=>?_⟩;by_cases e:k=g;subst e;exact(show _=_ from h2).trans (show _=_ from h).symm;rw[Below.heap_setCell _ ⟨g,2,none⟩ _ k e,Below.heap_setCell _ ⟨g,1,none⟩ _ k e,Below.heap_setCell _ ⟨g,0,none⟩ _ k e]
def zdJ.KaJ(h:p:=by exact Co (w':=((W4.setCell ⟨g6,0,none⟩ (az)).setCell ⟨g6,1,none⟩ (az)).setCell ⟨g6,2,none⟩ (af 0)) (by simp[go_sem,h0,h1,z0,z1,x2,f0,f1,f2];done) ⟨qO Xz,rfl⟩):=h
def zhN.Kb9(h:p:=by rw[Nat.zero_add,y1,HNO.ae]):=h
def zh5.Kci(h:p:=by
 have ark:=aa (show∀x∈dN,js W3 x.1/\cK W3 x.2.A x.2.l/\x.1.l.length<=1000/\x.2.l.length=order.length from λ x hX=>by obtain⟨f1,f2,q3⟩:=akt.ae x hX;exact⟨f1.later hL,f2.later hL,q3⟩);have arl:=aa (vK.ae.later hL);have RT:=aa ahp;have HNX:=aa (show u13.ownBlock≠some jK from λ e=>by have h1:=(Bv.ae.lt e).1;have h2:=aaf;have h3:=eZ.ae;omega);have HGL:=aa (show w.heap.size<=jK from fK wu.ae.size (by rw[<-eZ.ae];exact aaf));clear hL wu Bv V5 akt vK ahp aaf eZ HEW;have gx0:=RT.ae.cell 0;have gx1:=RT.ae.cell 1;have gf0:=RT.ae.frozen 0;have gf1:=RT.ae.frozen 1;simp only[Uaa]at gx0 gx1;go_upto_region 23 with fail;clear gx0 gx1 gf0 gf1;have g7:W3.grownBy ((W3.setCell ⟨jK,0,none⟩ (.slice XA gn gn)).setCell ⟨jK,1,none⟩ (.slice (fk XA xc gn) (xn-gn) (xc-gn))) (some jK):=aF (aF (aQ cX) _ _) _ _;have UI:=aa (show aB ((W3.setCell ⟨jK,0,none⟩ (.slice XA gn gn)).setCell ⟨jK,1,none⟩ (.slice (fk XA xc gn) (xn-gn) (xc-gn))) jK 91 #[.slice XA gn gn,.slice (fk XA xc gn) (xn-gn) (xc-gn)] from(RT.ae.aW 0 _).aW 1 _);generalize (W3.setCell ⟨jK,0,none⟩ (.slice XA gn gn)).setCell ⟨jK,1,none⟩ (.slice (fk XA xc gn) (xn-gn) (xc-gn))=W7 at*;have fX:∀{A:xP}{l:w_},cK W3 A l->cK W7 A l:=λ h=>h.keep g7.size λ b cur hc=>g7.block b hc.lt λ e=>by injection e with e;subst e;exact lJ hc RT.ae Tab rfl
 have Ii:=aa (dz NN.ae g7 HGL.ae);have xS:=aa (NW.ae.grown g7 HNX.ae);have FZ:=aa (Fs.ae.grown g7 (λ e=>by injection e with e;exact lJ Fs.ae RT.ae Tab e));have XU:=aa (show∀x∈dN,js W7 x.1/\cK W7 x.2.A x.2.l/\x.1.l.length<=1000/\x.2.l.length=order.length from λ x hX=>by obtain⟨f1,f2,q3⟩:=ark.ae x hX;exact⟨f1.map fX,fX f2,q3⟩);have aeK:=aa (fX arl.ae);have arn:=aa (ox.ae.later Ii.ae);have c13:=arn.ae.c13;rw[<-iT.ae]at c13;have HDL:=aa (show(l.drop gn).length=xn-gn by rw[length_drop,pC.ae]);have rL:=aa (show(l.take gn).length=gn by rw[length_take];have:=zv.ae;have:=pC.ae;omega);have YL:=aa (show(l.drop gn).length=order.length by rw[length_drop,KK.ae,HYO.ae];omega);clear g7 fX NN NW Fs ark arl RT;have axl:=HNX;clear HNX;by_cases hz:gn=0
 ·have t3:((gn:Int)==0)=true:=by simp[hz]
  have HIT:=aa (show items=[] from eq_nil_of_length_eq_zero (by rw[HYI.ae,hz]));have HZ:=aa hz;clear hz;go_wp2_with fail;clear c13;refine(vD r.A r.c r.l W7 ((axi.ae.below Ii.ae).more Ii.ae.size) Si.ae.1).mono ?_;rintro e w8 ⟨rv,rfl,uw,b8⟩;obtain⟨RA2,rc2,axm,aro,hk2⟩:=KB uw;have axn:=aa aro;clear aro;subst axm;have hx8:=UI.ae.later b8;have z0:=hx8.cell 0;have f0:=hx8.frozen 0;simp only[Uaa]at z0;go_upto_region 25 with fail;clear z0 f0;have g9:W7.grownBy (w8.setCell ⟨jK,0,none⟩ (.slice RA2 r.l.length rc2)) (some jK):=aF (aQ b8) _ _;have iC:aB (w8.setCell ⟨jK,0,none⟩ (.slice RA2 r.l.length rc2)) jK 91 #[.slice RA2 r.l.length rc2,.slice (fk XA xc gn) (xn-gn) (xc-gn)]:=hx8.aW 0 _;have hk9:cK (w8.setCell ⟨jK,0,none⟩ (.slice RA2 r.l.length rc2)) RA2 r.l:=hk2.keep (by rw[World.size_setCell];exact aE) λ b cur hc=>Below.heap_setCell _ ⟨jK,0,none⟩ _ b λ e=>by have e:b=jK:=e;subst e;exact lJ hc hx8 Tab rfl
  have YP:u13.ownBlock≠some jK:=axl.ae;generalize w8.setCell ⟨jK,0,none⟩ (.slice RA2 r.l.length rc2)=W9 at*;have fX:∀{A:xP}{l:w_},cK W7 A l->cK W9 A l:=λ h=>h.keep g9.size λ b cur hc=>g9.block b hc.lt λ e=>by injection e with e;subst e;exact lJ hc UI.ae Tab rfl
  have Ii:=aa (dz Ii.ae g9 HGL.ae);have xS:=aa (xS.ae.grown g9 YP);have FZ:=aa (FZ.ae.grown g9 (λ e=>by injection e with e;exact lJ FZ.ae UI.ae Tab e));have XU:=aa (show∀x∈dN,js W9 x.1/\cK W9 x.2.A x.2.l/\x.1.l.length<=1000/\x.2.l.length=order.length from λ x hX=>by obtain⟨f1,f2,q3⟩:=XU.ae x hX;exact⟨f1.map fX,fX f2,q3⟩);obtain⟨nl,hnl⟩:∃nl:aK×aK,nl=(⟨RA2,r.l,rc2⟩,⟨fk XA xc gn,l.drop gn,xc-gn⟩):=⟨_,rfl⟩;have HNL:=aa (show(fg nl).toArray= #[.slice RA2 r.l.length rc2,.slice (fk XA xc gn) (xn-gn) (xc-gn)] by rw[hnl];unfold fg;dsimp only;rw[HDL.ae]);have Ry:=aa (show OH nl=⟨if items=[] then r.l else l.take items.length,l.drop items.length⟩ by rw[hnl,if_pos HIT.ae,HYI.ae];rfl);have HN8:=aa (show js W9 nl.1/\cK W9 nl.2.A nl.2.l/\nl.1.l.length<=1000/\nl.2.l.length=order.length by rw[hnl];exact⟨⟨hk9,axn.ae⟩,(fX aeK.ae).drop gn xc Sy.ae,Si.ae.1,YL.ae⟩)
  have z0:=iC.cell 0;have z1:=iC.cell 1;simp only[Uaa]at z0 z1;clear hnl hk9 iC hx8 hk2 uw b8 g9 YP fX UI aeK arn;have bN:=ah W9 (.cells #[.slice RA2 r.l.length rc2,.slice (fk XA xc gn) (xn-gn) (xc-gn)] 91);have hG:=aB.new W9 91 #[.slice RA2 r.l.length rc2,.slice (fk XA xc gn) (xn-gn) (xc-gn)];have nE:=aa (xS.ae.later bN);have KT:=aa (FZ.ae.later bN);have zM:=aa (Below.trans Ii.ae (bN.mono Ii.ae.size));have akv:=aa (show∀x∈dN,js _ x.1/\cK _ x.2.A x.2.l/\x.1.l.length<=1000/\x.2.l.length=order.length from λ x hX=>by obtain⟨f1,f2,q3⟩:=XU.ae x hX;exact⟨f1.later bN,f2.later bN,q3⟩);have HN1:=aa (HN8.ae.1.later bN);have HN2:=aa (HN8.ae.2.1.later bN);have DD:=aa hG;have hbase:=zM.ae.size;have hlk:=Bh.ae;clear bN hG xS FZ Ii XU;go_wp2_with (first
   |(at_builtin
     refine aV (f:=fg) rfl (.tmp 133) (.tmp 135) 85 rfl _ 48 underlying85 Vb rfl WC nl rfl (by simp[fg,Value.oneCell']) rfl nE.ae W9.heap.size rfl (by rw[HNL.ae];exact DD.ae) WC WC hbase ?_;intro v4 w4 o4 g4;have O4:=aa o4;have B4:=aa (KT.ae.lg nE.ae Tab g4);have RW4:=aa (show∀x∈dN,js w4 x.1/\cK w4 x.2.A x.2.l/\x.1.l.length<=1000/\x.2.l.length=order.length from λ x hX=>by obtain⟨f1,f2,q3⟩:=akv.ae x hX;exact⟨f1.own nE.ae Tab g4,f2.own nE.ae Tab g4,q3⟩);have N41:=aa (HN1.ae.own nE.ae Tab g4);have N42:=aa (HN2.ae.own nE.ae Tab g4);have LT:=aa (Below.trans zM.ae (bj nE.ae g4 hbase));clear o4 g4))
  exact Zce
 have t3:((gn:Int)==0)=false:=by simp[hz]
 have HIT:=aa (show items≠[] from λ e=>hz (by rw[<-HYI.ae,e];rfl));clear hz;obtain⟨nl,hnl⟩:∃nl:aK×aK,nl=(⟨XA,l.take gn,gn⟩,⟨fk XA xc gn,l.drop gn,xc-gn⟩):=⟨_,rfl⟩;have HNL:=aa (show(fg nl).toArray= #[.slice XA gn gn,.slice (fk XA xc gn) (xn-gn) (xc-gn)] by rw[hnl];unfold fg;dsimp only;rw[rL.ae,HDL.ae]);have Ry:=aa (show OH nl=⟨if items=[] then r.l else l.take items.length,l.drop items.length⟩ by rw[hnl,if_neg HIT.ae,HYI.ae];rfl);have HN8:=aa (show js W7 nl.1/\cK W7 nl.2.A nl.2.l/\nl.1.l.length<=1000/\nl.2.l.length=order.length by rw[hnl];exact⟨⟨aeK.ae.take gn,by show(l.take gn).length<=gn;rw[length_take];omega⟩,aeK.ae.drop gn xc Sy.ae,by show(l.take gn).length<=1000;rw[rL.ae,<-HYI.ae];exact YZ.ae HIT.ae,YL.ae⟩)
 have z0:=UI.ae.cell 0;have z1:=UI.ae.cell 1;simp only[Uaa]at z0 z1;clear hnl;go_upto_region 25 with fail;clear c13;have bN:=ah W7 (.cells #[.slice XA gn gn,.slice (fk XA xc gn) (xn-gn) (xc-gn)] 91);have hG:=aB.new W7 91 #[.slice XA gn gn,.slice (fk XA xc gn) (xn-gn) (xc-gn)];have nE:=aa (xS.ae.later bN);have KT:=aa (FZ.ae.later bN);have zM:=aa (Below.trans Ii.ae (bN.mono Ii.ae.size));have akv:=aa (show∀x∈dN,js _ x.1/\cK _ x.2.A x.2.l/\x.1.l.length<=1000/\x.2.l.length=order.length from λ x hX=>by obtain⟨f1,f2,q3⟩:=XU.ae x hX;exact⟨f1.later bN,f2.later bN,q3⟩);have HN1:=aa (HN8.ae.1.later bN);have HN2:=aa (HN8.ae.2.1.later bN);have DD:=aa hG;have hbase:=zM.ae.size;have hlk:=Bh.ae;clear bN hG xS FZ Ii XU;go_wp2_with (first
  |(at_builtin
    refine aV (f:=fg) rfl (.tmp 133) (.tmp 135) 85 rfl _ 48 underlying85 Vb rfl WC nl rfl (by simp[fg,Value.oneCell']) rfl nE.ae W7.heap.size rfl (by rw[HNL.ae];exact DD.ae) WC WC hbase ?_;intro v4 w4 o4 g4;have O4:=aa o4;have B4:=aa (KT.ae.lg nE.ae Tab g4);have RW4:=aa (show∀x∈dN,js w4 x.1/\cK w4 x.2.A x.2.l/\x.1.l.length<=1000/\x.2.l.length=order.length from λ x hX=>by obtain⟨f1,f2,q3⟩:=akv.ae x hX;exact⟨f1.own nE.ae Tab g4,f2.own nE.ae Tab g4,q3⟩);have N41:=aa (HN1.ae.own nE.ae Tab g4);have N42:=aa (HN2.ae.own nE.ae Tab g4);have LT:=aa (Below.trans zM.ae (bj nE.ae g4 hbase));clear o4 g4))
 exact Zce):=h
def zin.Kcp(h:p:=by
 have hln:l.length=gn+no:=by rw[hlen,length_append,HYI.ae,HYO.ae]
 have KK:=aa hln;have zv:=aa (show gn<=l.length by omega);have HXC:=aa (show gn<=xc by omega);have Sy:=aa hxl;have HEW:=aa (ox.ae.later wu.ae);obtain⟨xn,Fq⟩:∃xn,xn=l.length:=⟨_,rfl⟩;rw[<-Fq]at zv⊢;have pC:=aa Fq;obtain⟨B1,LV⟩:∃B1,B1=w5.heap.size:=⟨_,rfl⟩;have eZ:=aa LV;clear Q8 hln hxl Fq LE hlen LV;go_upto_region 22 with fail;refine bD 21 (akr gp IA gn ic XA xn xc B1) (SL _ _ _ _ _ _ _ _) Taa Taa Taa ?_ ?_
 ·simp only[take_succ_cons,take_zero];refine⟨Zaa,Zaa,Zaa,Zaa,ZeB,Zaa,Zaa,Zaa,Zaa,ZeB,Zaa,ZdJ,Zaa,Zaa,Zaa,Zaa,ZeB,Zaa,ZgJ,Zev,?_,trivial⟩
  ·intro ρ W4 hc hL hr;exact aq (v:=aw W4.heap.size) (w':=W4.alloc (.cells #[az,az] 91)) (by simp[go_sem];done) ⟨ah _ _,_,rfl,aB.new _ _ _,by rw[eZ.ae];exact hL.size⟩
 intro W3 hL;simp only[Uab];rintro a0-a1-a2-a3-a4-a5-a6-a7-a8-a9-Hc-S1-a12-a13-a14-a15-a16-a17-a18-_ rfl a20 ⟨jK,rfl,ahp,aaf⟩;open zh5 in exact ZgI):=h
def zgt.KbG(h:p:=by
 go_wp2_with fail;go_loopw [13,81] (λ lv Ly wr=>∃(k:Nat) (dN:List (aK×aK)),k<=zs.length/\Ly=af k/\aH fg 91 2 wr w.heap.size lv dN/\(∀x∈dN,js wr x.1/\cK wr x.2.A x.2.l/\x.1.l.length<=1000/\x.2.l.length=order.length)/\dN.map OH=xZ items order over (zs.take k)/\dN.length<=k/\aB wr gb 84 #[af (ee over (items++order) (zs.take k))]/\ai w wr) (λ _ Ly _=>zs.length-(intOf Ly).toNat);case atStart=>exact⟨0,[],gE,rfl,aH.nil,(λ x hX=>by cases hX),rfl,aE,V2.ae,eZ.ae⟩
 case round=>
  clear eZ V2;obtain⟨k,dN,hkr,rfl,Zb,hRW,hLS,FB,hGB,hB⟩:=hrel;have LJ:=aa Zb;have Ke:=aa hRW;have Ae:=aa hLS;have Bh:=aa FB;have xO:=aa hGB;have HB:=aa hB;have hk9:k<=301:=by have:=HLEN.ae;omega
  clear Zb hRW hLS FB hGB hB;by_cases hlt:k<zs.length
  ·obtain⟨b,off,rfl,ly,hcell,uw⟩:=(HFN.ae.below HB.ae).at_ hlt;have Cv:=aa (uw.more HB.ae.size);have Si:=aa (ajL.ae zs[k] (getElem_mem hlt));have axi:=aa (show RV w w.heap.size zs[k].A zs[k].l from by obtain⟨_,_,_,_,_,h⟩:=HFN.ae.at_ hlt;exact h);have V3:=aa (Ew (cols:=over) (ts:=items++order) hlt).2;have Az:=aa (XS (items:=items) (order:=order) (over:=over) hlt);generalize zs[k]=r at*;generalize ee over (items++order) (zs.take k)=He at*;generalize xZ items order over (zs.take k)=ls at*;obtain⟨res,hres⟩:∃res,res=bA over r.l (items++order):=⟨_,rfl⟩;rw[<-hres]at V3;have kt:=aa hres.symm;have oC:=aa (ox.ae.later HB.ae);obtain⟨E,hE⟩:∃E,E=yi++yo:=⟨_,rfl⟩;have rz:=aa hE;obtain⟨B0,hB0⟩:∃B0,B0=wr.heap.size:=⟨_,rfl⟩;have CQ:=aa hB0;clear ly uw hres hE hB0;go_upto_region 20 with fail;clear hcell;refine bD 17 (akq gp IA gn ic DA no dc OA over.length oc r.A r.l.length r.c E B0 res) (SK _ _ _ _ _ _ _ _ _ _ _ _ _ _ _ _) Taa Taa Taa ?_ ?_
   ·simp only[take_succ_cons,take_zero];refine⟨Zaa,Zaa,Zaa,?_,Zaa,Zaa,Zaa,?_,?_,?_,Zaa,Zaa,?_,?_,?_,?_,?_,trivial⟩
    ·intro ρ W4 hc hL hr;have h0:_=_:=hr.1;have c0:=(oC.ae.later hL).c13;exact Zb5
    ·intro ρ W4 hc hL hr;have h0:_=_:=hr.1;have c0:=(oC.ae.later hL).c15;exact aq (w':=W4) (by simp[go_sem,h0,c0,<-HNO.ae];done) ⟨aj.refl _,rfl⟩
    intro ρ W4 hc hL hr;have h0:_=_:=hr.1;have h1:_=_:=hr.2.1;exact aq (v:=aL W4.heap.size 2 2) (w':=W4.alloc (.cells #[.slice IA gn ic,.slice DA no dc] 23)) TaD ⟨ah _ _,_,rfl,aB.new _ _ _⟩
    ·intro ρ W4 hc hL hr;obtain⟨gB0,h0,cL⟩:∃gB:Nat,ρ (.tmp 94)=aL gB 2 2/\aB W4 gB 23 #[.slice IA gn ic,.slice DA no dc]:=hr.1;have e1:=hc.func 35;refine bu (f:=35) (args:= #[aL gB0 2 2]) (w':=W4) TaE ?_;refine(vC (some ⟨gB0,0,none⟩) 2 [⟨IA,ic,yi⟩,⟨DA,dc,yo⟩] W4 Tad (by simpa [mh] using Wv.ae) ?_).mono ?_
     ·refine⟨gB0,0,rfl,cL.lt,λ Ly x hX=>?_⟩
      match Ly,hX with
      |0,hX=>simp at hX;subst hX;refine⟨?_,(oC.ae.later hL).ri⟩;exact Zgs
      |1,hX=>simp at hX;subst hX;refine⟨?_,(oC.ae.later hL).ro⟩;open zhN in exact Zf5
      |n+2,hX=>simp at hX
     exact Zep
    ·intro ρ W4 hc hL hr;obtain⟨v70,h0,cL⟩:∃v7:Value,ρ (.tmp 95)=v7/\vO W4 B0 v7 E:=hr.1;have h1:_=_:=hr.2.1;have h2:_=_:=hr.2.2.1;obtain⟨EA,ec,he,Er⟩:=sW (show aH bH 46 7 W4 B0 v70 E from cL);rw[rz.ae]at he Er;subst he;have e1:=hc.func 34;refine bu (f:=34) (args:= #[.slice EA (yi++yo).length ec,.slice OA over.length oc,.slice r.A r.l.length r.c]) (w':=W4) (by simp[go_sem,e1,h0,h1,h2];done) ?_;refine(Ia over OA oc r.l r.A r.c (items++order) (yi++yo) EA ec W4 S0.ae (by have:=Si.ae.1;omega) Si.ae.2 aen.ae (Tr.all_append (oC.ae.later hL).ti (oC.ae.later hL).eP) MY.ae Er (oC.ae.later hL).rc (Cv.ae.later hL)).mono ?_;exact Zc6
    intro ρ W4 hc hL hr;obtain⟨XF,XG,h0,cL⟩:∃x0 x1:Value,ρ (.tmp 98)=.tuple #[x0,x1]/\oB res W4 B0 x0 x1:=hr.1;exact Zg2;intro ρ W4 hc hL hr;obtain⟨XF,XG,h0,cL⟩:∃x0 x1:Value,ρ (.tmp 85)=.tuple #[x0,x1]/\oB res W4 B0 x0 x1:=hr.1;exact Zdt;intro ρ W4 hc hL hr;obtain⟨XF,XG,h0,cL⟩:∃x0 x1:Value,ρ (.tmp 85)=.tuple #[x0,x1]/\oB res W4 B0 x0 x1:=hr.1;exact Zha;intro ρ W4 hc hL hr;obtain⟨XF,XG,h0,cL⟩:∃x0 x1:Value,ρ (.tmp 99)=x0/\oB res W4 B0 x0 x1:=hr.1;exact Zdt
   intro W5 hL;simp only[Uab];rintro a0-a1-a2-a3-a4-a5-a6-a7-a8-a9-Hc-S1-a12-a13-a14-_ rfl a16 ⟨aBf,aBg,rfl,aho⟩;simp only[bw,Act.put,Uac];have ux:=aa (Below.trans HB.ae (hL.mono HB.ae.size));have BA:=aa (xO.ae.later hL);have Sv:=aa (LJ.ae.later hL);have arj:=aa (show∀x∈dN,js W5 x.1/\cK W5 x.2.A x.2.l/\x.1.l.length<=1000/\x.2.l.length=order.length from λ x hX=>by obtain⟨f1,f2,q3⟩:=Ke.ae x hX;exact⟨f1.later hL,f2.later hL,q3⟩);have axj:=aa (Cv.ae.later hL);have HWB:=aa aho;have HBL:=aa (show w.heap.size<=B0 by rw[CQ.ae];exact HB.ae.size);clear HB xO LJ Ke hL aho Cv oC CQ;go_wp2_with fail;refine(xq gb He (od res) _ BA.ae).mono ?_;rintro e w5 ⟨rfl,JO,Kv⟩;have Sx:=aa JO;have wu:=aa (dz ux.ae Kv (by rw[nD.ae];exact aE));have Bv:=aa (Sv.ae.grown Kv (Sv.ae.other BA.ae Tab));have fX:∀{A:xP}{l:w_},cK W5 A l->cK w5 A l:=λ h=>h.keep Kv.size λ b cur hc=>Kv.block b hc.lt λ e=>by injection e with e;subst e;exact lJ hc BA.ae Tab rfl
   have akt:=aa (show∀x∈dN,js w5 x.1/\cK w5 x.2.A x.2.l/\x.1.l.length<=1000/\x.2.l.length=order.length from λ x hX=>by obtain⟨f1,f2,q3⟩:=arj.ae x hX;exact⟨f1.map fX,fX f2,q3⟩);have BW:=aa (show∀l,res=.ok l->aH aX 44 3 w5 B0 a16 l from λ l Lw=>by have h1:=HWB.ae;rw[Lw]at h1;exact h1.2.grown Kv (h1.2.other BA.ae Tab))
   clear JO Kv ux BA Sv arj HWB fX axj;cases res with
   |error er=>
     have hne:=Iw kt.ae;have t1:(od (.error er)==0)=false:=by show(er==0)=false;simp[hne]
     have UK:=aa V3.ae;have zK:=aa (show vu (EN items order over r.l)=none by unfold EN;rw[kt.ae];rfl);clear hne BW;go_wp2_with fail;go_roundw
     case rel=>
      refine⟨k+1,dN,hlt,by go_num,Bv.ae,akt.ae,?_,Nat.le_succ_of_le Bh.ae,?_,wu.ae⟩;rw[Az.ae,zK.ae];simpa using Ae.ae;rw[UK.ae];exact Sx.ae
     case measure=>exact Za2
   |ok l=>have UK:=aa (show ee over (items++order) (zs.take (k+1))=jO He 0 from V3.ae);have zK:=aa (show vu (EN items order over r.l)=some ⟨if items=[] then r.l else l.take items.length,l.drop items.length⟩ by unfold EN;rw[kt.ae];rfl);have hlen:=Ev kt.ae;open zin in exact Zhi
  have fX:k=zs.length:=by omega
  subst fX;have HTT:=aa (show zs.take zs.length=zs from take_length);rw[HTT.ae]at Ae xO;obtain⟨LA,lc,hlv,_⟩:=LJ.ae.reads;subst hlv;go_wp2_with fail;refine Kh.ae _ _ ?_;clear Kh;refine wp_seq_k λ K3 hK3=>?_;have Ef:=aa hK3;clear hK3;have d0:=xO.ae.cell 0;simp only[getElem?_toArray,getElem?_cons_zero]at d0;obtain⟨le,hle⟩:∃le,le=ee over (items++order) zs:=⟨_,rfl⟩;rw[<-hle]at d0;have aeN:=aa hle;clear hle;by_cases hz:le=0
  ·have t1:(le != 0)=false:=by simp[hz]
   have HZ:=aa (show ee over (items++order) zs=0 by rw[<-aeN.ae];exact hz);clear hz;go_wp2_with fail;exact Ef.ae _ _ (akn.ae HZ.ae _ _ LA lc dN rfl rfl rfl rfl rfl HB.ae LJ.ae Ke.ae Ae.ae Bh.ae)
  have t1:(le != 0)=true:=by simp[hz]
  have HZ:=aa (show ee over (items++order) zs≠0 by rw[<-aeN.ae];exact hz);have fE:aB wr g6 33 #[az,az,af 0]:=pE.ae.later HB.ae;have SJ:=aa fE;have HK:=aa (show aB wr gb 84 #[af le] by rw[aeN.ae];exact xO.ae);clear hz fE;go_upto_region 28 with fail;clear d0;refine bD 4 (aks gb le) (SM _ _) Taa Taa Taa ?_ ?_
  ·simp only[take_succ_cons,take_zero];refine⟨Zg5,Zaa,Zbs,?_,trivial⟩
   ·intro ρ W4 hc hL hr;have h0:_=_:=hr.1;have h1:_=_:=hr.2.1;have Xz:=SJ.ae.later hL;open zdJ in exact ZbY
  intro W6 hL;simp only[Uab];rintro _ rfl _ rfl _ rfl;simp only[bw,Act.put,Uac];have fE:aB W6 g6 33 #[az,az,af 0]:=SJ.ae.later hL;have bJ:w.grownBy W6 (some g6):=aQ (Below.trans HB.ae (hL.mono HB.ae.size));go_wp2_with fail;refine HE.ae HZ.ae _ _ rfl rfl ?_ fE bJ;rw[<-aeN.ae];rfl):=h
def ziD.Kcw(h:p:=by obtain⟨gn,E4⟩:∃gn,gn=yi.length:=⟨_,rfl⟩;obtain⟨no,hno⟩:∃no,no=yo.length:=⟨_,rfl⟩;have iT:=aa E4;have HNO:=aa hno;have hyi:=dZ Su.ti;have hyo:=dZ Su.eP;have HYI:=aa (show items.length=gn by rw[hyi,E4]);have HYO:=aa (show order.length=no by rw[hyo,hno]);have Wv:=aa (show yi.length+yo.length<=1000000 by omega);have MY:=aa (show(yi++yo).length<=1599289640356 by rw[length_append];omega);clear akm hE hO Su KS Vd hJ Pk Il Ve Pz lQ fE E4 hno hyi hyo;simp only[eI,eC,f11,Option.getD_some];refine wp_seq_k λ K0 hK=>?_;have Fl:=aa hK;clear hK;go_wp2_with fail;refine Fl.ae _ _ ?_;clear Fl;have b1:=ah w (.cells #[af 0] 84);have k1:=aB.new w 84 #[af 0];have eZ:=aa b1;have V2:=aa k1;clear b1 k1;obtain⟨gb,Jk⟩:∃gb,gb=w.heap.size:=⟨_,rfl⟩;have nD:=aa Jk;rw[<-Jk]at V2⊢;generalize w.alloc (.cells #[af 0] 84)=W1 at*;open zgt in exact ZeQ):=h
theorem XT(w0:t_)(gp g3 g6:Nat)(items order:vI)(over:List aZ)(yi yo:v_)(IA:xP)(ic:Nat)(DA:xP)(dc:Nat)(OA:xP)(oc:Nat)(zs:List aK)(EA0:xP)(ec0:Nat)(T:x_)(hT:T.size=183)
  (h3:T.getD 3 undef=aw g3) (h6:T.getD 6 undef=aw g6) (h8:T.getD 8 undef=aw gp) (h10:T.getD 10 undef=.slice EA0 zs.length ec0) (h11:T.getD 11 undef=.slice OA over.length oc) (d:List Deferred) (w:t_) (Q:y_)
  (Su:OJ w gp items order over yi yo IA ic DA dc OA) (KS:Tr.cO (items++order)) (Vd:items.length<=100000) (hJ:order.length<=1000000-100000) (Pk:over.length<=140737488355328) (Il:items≠[]->items.length<=1000)
  (Ve:RR w w.heap.size EA0 zs) (Pz:zs.length<=301) (lQ:∀r∈zs,r.l.length<=1000/\∀v∈r.l,v.Ok) (fE:aB w g6 33 #[az,az,af 0])
  (hE:ee over (items++order) zs≠0->∀a W,a.defers=d->a.tmps.getD 6 undef=aw g6->a.tmps.getD 7 undef=af (ee over (items++order) zs)->aB W g6 33 #[az,az,af 0]->w.grownBy W (some g6)->Q .ret a W)
  (hO:ee over (items++order) zs=0->∀(T':x_) W LA lc (dN:List (aK×aK)),T'.size=183->T'.getD 3 undef=aw g3->T'.getD 6 undef=aw g6->T'.getD 8 undef=aw gp->T'.getD 13 undef=.slice LA dN.length lc->ai w W->aH fg 91 2 W w.heap.size (.slice LA dN.length lc) dN->(∀x∈dN,js W x.1/\cK W x.2.A x.2.l/\x.1.l.length<=1000/\x.2.l.length=order.length)->dN.map OH=xZ items order over zs->dN.length<=zs.length->(eC eI 12).wp prog Q {tmps:=T',defers:=d} W):
  (eC eI 8).wp prog Q {tmps:=T,defers:=d} w:=by
 obtain⟨f,rfl⟩:=zN T hT;have h3:f 3=_:=h3;have h6:f 6=_:=h6;have h8:f 8=_:=h8;have h10:f 10=_:=h10;have h11:f 11=_:=h11;simp only[Zg,h3,h6,h8,h10,h11];clear h3 h6 h8 h10 h11;clear h3 h6 h8 h10 h11 hT;have akm:=λ h0 (T':x_) W LA lc dN a0 a1 a2 a3 a4 a5 a6 a7 a8 a9=>hO h0 T' W LA lc dN a0 a1 a2 a3 a4 a5 a6 a7 a8 a9;simp only[eI,eC,f11,Option.getD_some]at akm;have akn:=aa akm;open ziD in exact ZhU
structure aag (t:Tr) (s:dE) (r:uC (Tr×Int×dE)):Prop where
 err:∀e,r=.error e->e≠0
 ok:∀y k s',r=.ok (y,k,s')->t.ok->y.ok
 len:∀y k s',r=.ok (y,k,s')->s'.aG.length+s'.aD.length<=s.aG.length+s.aD.length+2*t.nodes
 aok:∀y k s',r=.ok (y,k,s')->t.ok->Tr.cO s.aD->Tr.cO s'.aD
theorem mr(g:Bool)(aG:vI)(cols:List aZ)(t:Tr)(s:dE):aag t s (pZ g aG cols t s):=by
 unfold pZ;split
 ·split
  ·rename_i h1 h2;exact Zfl
  refine⟨λ e h=>Tae,λ y k s' h ht=>?_,λ y k s' h=>?_,λ y k s' h _ ha=>?_⟩;all_goals (injection h with h;injection h with h1 h2;injection h2 with h2 h3)
  rw[<-h1];exact ht;rw[<-h3];omega;rw[<-h3];exact ha
 have hf:=jd aG cols t s;cases hr:Tr.turn aG cols t s with
 |error e=>dsimp only;exact⟨λ e2 h=>by injection h with h;rw[<-h];exact hf.err _ hr,λ _ _ _ h=>Tae,λ _ _ _ h=>Tae,λ _ _ _ h=>Tae⟩
 |ok p=>
   obtain⟨y,s'⟩:=p;dsimp only;split;rename_i h2;exact Zfl;refine⟨λ e h=>Tae,λ y2 k s2 h ht=>?_,λ y2 k s2 h=>?_,λ y2 k s2 h ht ha=>?_⟩;all_goals (injection h with h;injection h with h1 h2;injection h2 with h2 h3)
   rw[<-h1];exact hf.ok _ _ hr ht;rw[<-h3];exact hf.len _ _ hr;rw[<-h3];exact hf.aok _ _ hr ht ha
def uO(l:vI):uC (vI×dE)->uC (vI×dE)
 |.error e=>.error e
 |.ok (ys,s)=>.ok (l++ys,s)
theorem IG(x:uC (vI×dE)):uO [] x=x:=by exact Zh4
theorem EO(l:vI)(y:Tr)(x:uC (vI×dE)):uO l (match x with|.error e=>.error e|.ok (ys,s)=>.ok (y::ys,s))=uO (l++[y]) x:=by
 cases x with
 |error e=>rfl
 |ok p=>obtain⟨ys,s⟩:=p;show Except.ok (l++y::ys,s)=Except.ok ((l++[y])++ys,s);rw[append_assoc];rfl
variable{ts:vI}
theorem vR(h:k<ts.length):Tr.aP (ts.drop k)=ts[k].nodes+Tr.aP (ts.drop (k+1)):=by rw[drop_eq_getElem_cons h,gK,gK,map_cons,sum_cons]
def rG(a:Act)(d:List Deferred)(g4 g5:Nat):Prop:=a.defers=d/\a.tmps.getD 4 undef=aw g4/\a.tmps.getD 5 undef=aw g5
def yj(w0:t_)(g4 g5 D:Nat)(w:t_):Prop:=ai w0 w/\w0.heap.size<=g4/\w0.heap.size<=g5/\g4≠g5/\g4≠D/\g5≠D/\aB w g4 72 #[.pointer none]/\aB w g5 34 #[af 0]/\w.heap[D]?=some (.deferred (some []))
def jL(w:t_)(g4 g5:Nat)(er:Int):t_:=(w.setCell ⟨g4,0,none⟩ (.pointer none)).setCell ⟨g5,0,none⟩ (af er)
def jT(w:t_)(g4 g5 gp:Nat):t_:=(w.setCell ⟨g4,0,none⟩ (aw gp)).setCell ⟨g5,0,none⟩ (af 0)
variable{w0:t_}{g2 g4 g5 D:Nat}{qc:x_}{R:Nat->Value}
theorem PlF.aah(h:PlF w0 gp g2 qc g4 g5 D R w):yj w0 g4 g5 D w:=⟨h.base,h.new.1,h.new.2.1,h.new.2.2.1,h.new.2.2.2.1,h.new.2.2.2.2,h.z4,h.z5,h.dd⟩
theorem yj.later(h:yj w0 g4 g5 D w)(hb:ai w w'):yj w0 g4 g5 D w':=by obtain⟨h1,h2,h3,h4,h5,h6,h7,h8,h9⟩:=h;refine⟨Below.trans h1 (hb.mono h1.size),h2,h3,h4,h5,h6,h7.later hb,h8.later hb,(hb.block D ?_).trans h9⟩;rcases gR D w.heap.size with h|h;exact h;rw[Array.getElem?_eq_none h]at h9;cases h9
variable{S:Nat->Prop}{y:Ex}
theorem np{t:Tr}(h:Tr.aO w S [t] [y]):t.at_ w S y:=by unfold Tr.aO at h;obtain⟨y2,ys,e,h1,_⟩:=h;injection e with e _;rw[e];exact h1
variable{u u' v':Value}{ya:v_}{hd:List aZ}{yh:v_}{th:vI}
theorem cW.err{c:PC}{r:Rest}{v:Value}{s:dE}{ti eP:vI}(h:cW c w0 gp g2 qc g4 g5 D r w u v ya s hd yi yh yo ti th eP)(hs:ik gp w u v w' u' v'):yj w0 g4 g5 D w':=by refine⟨Below.trans h.f.base (hs.low h.f.base.size h.f.low (λ q hq=>(h.f.rows 0 WC q hq).1) (λ q hq=>(h.f.rows 1 WC q hq).1)),h.f.new.1,h.f.new.2.1,h.f.new.2.2.1,h.f.new.2.2.2.1,h.f.new.2.2.2.2,hs.blk h.f.z4 (h.kp2 h.f.k4),hs.blk h.f.z5 (h.kp2 h.f.k5),(hs.block D (h.kp2 h.f.kD)).trans h.f.dd⟩
def zbW.Kak(h:p:=by go_wp2_with fail;exact HE.ae er _ _ (ajL.ae.symm.trans pC.ae) oD.ae ⟨rfl,rfl,rfl⟩ HW.ae):=h
def zdC.KaG(h:p:=by simp[go_sem,h,z0,z1,x2,x3,x4,x5,x6,bH]):=h
def zid.Kcm(h:p:=by have HP8:=aa (tZ.ae.apY (by rw[Xy.ae]at BD⊢;exact BD) (np IH.ae));exact ZcG):=h
def zfs.Kbh(h:p:=by
 obtain⟨RA,rc,uw,_⟩:=tZ.ae.o5.reads;have Bt:=aa tZ.ae.o5;have HL7:=aa (show yh.length<=1000000 by have:=HFN.ae;have:=rL.ae;have:=pE.ae;omega);have Bv:=aa Xz;clear Xz;dsimp only at uw Bt;subst uw;obtain⟨r1,hr1⟩:∃r1:Rest,r1= {r with o:=Value.slice RA yh.length rc}:=⟨_,rfl⟩;have Xy:=aa hr1;rw[<-hr1]at tZ IH;clear hr1;go_wp2_with fail;refine Im (gp:=gp) (k:=15) (B:=w0.heap.size) (gx:=gY) (cs:=c.cells r1 u' v') (r:=Value.slice RA yh.length rc) (ys:=yh) (y:=Kx) (s0:=6) (s1:=28) (d0:=239) (d1:=240) (d2:=241) (d3:=242) (d4:=243) (d5:=244) (d6:=245) (d7:=246) (d8:=247) (d10:=248) (d11:=249) Taa Taa Taa rfl rfl ?_ ?_ ?_ ?_ ?_ ?_ ?_ ?_ ?_ ?_ ?_ ?_ ?_ ?_ tZ.ae.f.base.size tZ.ae.blk Bt.ae HL7.ae PD.ae Vg.ae.1 Vg.ae.2 ?_;exact ZeM;exact ZeM;exact ZeM
 ·intro ρ w h hc;simp[go_sem,h,hc]
 intro ρ w h hb;open zdC in exact ZbI
 exact ZeM
 ·intro ρ w hc;simp[go_sem,hc.const,bH,xN]
 exact ZeU;exact ZhH;rfl;exact ZeM;exact ZeM
 ·intro ρ w Lw n1 c1 h1 h2 hc hf;simp[go_sem,h1,h2,hc,hf]
 rw[Xy.ae];rfl
 open zid in exact Zhf):=h
def zbq.Kae(h:p:=by
 clear k1;go_wp2_with fail;clear z0 z1 x2 x3 x4 x5 x6;refine(Ek c w0 gp {r with o:=rv} t y s1 u1 v1 KL W2 aen.ae lq.ae yE.ae ry.ae.ps TaQ).mono ?_;intro e w6 hp;have wA:=aa (mr c.aJ c.aG c.cols t s1);cases hr:pZ c.aJ c.aG c.cols t s1 with
 |error er=>
   have kF:=wh.ae;rw[hr]at hp wA kF;obtain⟨Kx,ty,u',v',rfl,hst⟩:=hp;have her:=wA.ae.err _ rfl;have yF:X=.error er:=by rw[vK.ae,kF];rfl
   have pC:=aa yF;have oD:=aa her;have t1:(er != 0)=true:=by simp[her]
   have bg:=ah w6 (.cells (ay Kx) 46);have HW:=aa ((ry.ae.err hst).later bg);clear yF hr her hst kF wA wh ry bg;go_upto_region 50 with fail;generalize w6.alloc (.cells (ay Kx) 46)=WD at*;obtain⟨_,_,_,vS,_,_,b4,b5,_⟩:=HW.ae;open zbW in exact ZaF
 |ok p=>
   obtain⟨t2,ty,s2⟩:=p;have kF:=wh.ae;rw[hr]at hp wA kF;obtain⟨Kx,u',v',T7,rfl,vJ,qK,hst⟩:=hp;have tu:=ry.ae.call hst qK;have XW:=ry.ae.tree hst qK vJ;have bg:=ah w6 (.cells (ay Kx) 46);have Zh:=aB.new w6 46 (ay Kx);have tZ:=aa (tu.later bg);have IH:=aa ((Eo.later (w0:=w0) (gp:=gp) (R:=PR u' v' {r with o:=rv}) bg).trees (Tr.gw XW));have Vg:=aa (show w6.heap.size≠gp/\rv.ownBlock≠some w6.heap.size from⟨by have:=tu.f.lt;omega,λ e=>by have:=(tu.f.rows 5 WC _ e).2.1;omega⟩);have EP:=aa (wA.ae.len _ _ _ rfl);have Gc:=aa (show X=uO (eP++[t2]) (eF c.aJ c.aG c.cols (q.ord.drop (k+1)) s2) by rw[vK.ae,kF];exact EO eP t2 _)
   have Xz:=tu.t5.length;clear hr kF hst qK vJ tu XW bg wA wh vK ry;go_upto_region 50 with fail;open zfs in exact ZdB):=h
def zgW.KbQ(h:p:=by
 rw[hn,<-fE]at z6;clear hE Su KS Vd hJ Pk Il Ve Pz lQ hP hR HX hn fE;simp only[bK,eC,f28,Option.getD_some];go_wp2_with fail;clear z6;go_loopw [224] (λ i wr=>∃(k:Nat) (rv u1 v1:Value) (KL yh:v_) (s1:dE) (eP:vI),k<=zs.length/\i=af k/\cW c w0 gp g2 (ft q L) g4 g5 D {r with o:=rv} wr u1 v1 KL s1 hd yi Ly yh ti th eP/\X=uO eP (eF c.aJ c.aG c.cols (q.ord.drop k) s1)/\s1.aG.length+s1.aD.length+2*Tr.aP ((q.ord.map (·.1)).drop k)<=1000000/\eP.length=k) (λ i _=>zs.length-(intOf i).toNat);case atStart=>exact⟨0,r.o,u,v,ya,[],s,[],gE,rfl,iJ.ae,by rw[drop_zero,IG];exact ajL.ae,by rw[drop_zero];exact HLEN.ae,rfl⟩
 case round=>
  clear iJ;obtain⟨k,rv,u1,v1,KL,yh,s1,eP,hk,rfl,hP,Vf,Pz,UQ⟩:=hrel;have vK:=aa Vf;have Az:=aa Pz;have iJ:=aa hP;have rL:=aa UQ;clear Vf Pz hP UQ;by_cases hlt:k<zs.length
  ·have fW:k<q.ord.length:=by rw[<-pE.ae];exact hlt
   obtain⟨b,off,hA,Dx,hcell⟩:∃b off,L.o.A=some ⟨b,off,none⟩/\b<w0.heap.size/\cC w0 b (off+k*8) zs[k].1/\w0.cell? ⟨b,off+k*8+7,none⟩=some zs[k].2:=by exact Zin
   have hb8:zs[k].2=.bool (q.ord[k]'fW).2:=by have h1:=congrArg (λ l=>l[k]?) S0.ae;simp only[getElem?_map,getElem?_eq_getElem hlt,getElem?_eq_getElem fW,Option.map_some]at h1;injection h1
   have sR:(q.ord[k]'fW).1.at_ w0 (Old w0) zs[k].1:=by
    have hl2:k <((q.ord.map λ y=>(y.1,Value.bool y.2)).map (·.1)).length:=by simpa using fW
    obtain⟨Kx,h1,h2⟩:=qJ hl2 YZ.ae;exact ZfU
   have gL:(q.ord[k]'fW).1.ok:=dP.1 HIL.ae _ (mem_map_of_mem (getElem_mem fW));have Po:Tr.aP ((q.ord.map (·.1)).drop k)=(q.ord[k]'fW).1.nodes+Tr.aP ((q.ord.map (·.1)).drop (k+1)):=by have h1:=vR (ts:=q.ord.map (·.1)) (k:=k) (by simpa using fW);simpa using h1
   have hdr:eF c.aJ c.aG c.cols (q.ord.drop k) s1=(match pZ c.aJ c.aG c.cols (q.ord[k]'fW).1 s1 with
     |.error e=>.error e
     |.ok (Kx,_,s')=>match eF c.aJ c.aG c.cols (q.ord.drop (k+1)) s' with
       |.error e=>.error e
       |.ok (ys,MP)=>.ok (Kx::ys,MP)):=by
    rw[drop_eq_getElem_cons fW];obtain⟨t,bb⟩:=q.ord[k];rfl
   rw[hb8]at hcell;generalize zs[k].1=y at*;generalize (q.ord[k]'fW).2=b8 at*;generalize (q.ord[k]'fW).1=t at*;obtain⟨hex,h7⟩:=hcell;have ja:=hex.keep (λ o=>iJ.ae.f.base.cell (p:=⟨b,o,none⟩) Dx);have h72:=(iJ.ae.f.base.cell (p:=⟨b,off+k*8+7,none⟩) Dx).trans h7;unfold cC at ja;have yE:=aa sR;have lq:=aa gL;have HND:=aa Po;have wh:=aa hdr;have HAA:=aa hA;rw[hA];clear hex h7 sR gL Po hdr hA Dx hb8 fW;go_upto_region 49 with fail;clear ja h72;have k1:=aB.new wr 117 #[ag y.op,ag y.v.k,af y.v.n,.string y.v.s,.string y.name,af y.width,.slice y.A y.n y.c,.bool b8];have Oe:=ah wr (.cells #[ag y.op,ag y.v.k,af y.v.n,.string y.v.s,.string y.name,af y.width,.slice y.A y.n y.c,.bool b8] 117);generalize wr.alloc (.cells #[ag y.op,ag y.v.k,af y.v.n,.string y.v.s,.string y.name,af y.width,.slice y.A y.n y.c,.bool b8] 117)=W2 at*;have ry:=aa (iJ.ae.later Oe);generalize wr.heap.size=g12 at*;clear iJ Oe;open zbq in exact Zay
  have yz:k=zs.length:=by omega
  have hXo:X=.ok (eP,s1):=by rw[vK.ae,yz,pE.ae,drop_length];show Except.ok (eP++[],s1)=_;rw[append_nil]
  have HXO:=aa hXo;clear hXo;subst yz;have HW:=aa iJ.ae.f.aah;obtain⟨_,_,_,vS,_,_,b4,b5,_⟩:=HW.ae;have c4:=b4.cell 0;have c5:=(b5.far (p:=⟨g4,0,none⟩) (Ne.symm vS) (aw gp)).cell 0;have f4:=b4.frozen 0;have f5:=(b5.far (p:=⟨g4,0,none⟩) (Ne.symm vS) (aw gp)).frozen 0;simp only[getElem?_toArray,getElem?_cons_zero]at c4 c5;clear b4 b5 vS;go_wp2_with fail;exact ox.ae _ _ _ u1 v1 KL s1 yh eP (ajL.ae.symm.trans HXO.ae) ⟨rfl,rfl,rfl⟩ iJ.ae):=h
def ziE.Kcw(h:p:=by have iJ:=aa hP;have hR:=hP.f.z2;unfold ft at hR;open zgW in exact Ze6):=h
def zeW.Ka4(h:p:=by
 obtain⟨hn,zs,hJ,Pk,Il⟩:=Tx;rw[length_map]at hn;have fE:zs.length=q.ord.length:=by have:=congrArg List.length Pk;simpa using this
 have HX:=aa (show∃X,X=eF c.aJ c.aG c.cols q.ord s from⟨_,rfl⟩);obtain⟨X,lQ⟩:=HX.ae;open ziE in exact ZhU):=h
theorem XV(c:PC)(w0:t_)(gp g2 g4 g5 D:Nat)(q:Qy)(L:QL)(r:Rest)(u v:Value)(ya:v_)(s:dE)(hd:List aZ)(yi Ly:v_)(ti th:vI)(T:x_)(hT:T.size=252)
  (h2:T.getD 2 undef=aw g2) (h4:T.getD 4 undef=aw g4) (h5:T.getD 5 undef=aw g5) (h6:T.getD 6 undef=aw gp) (d:List Deferred) (w:t_) (Q:y_)
  (KS:c.Ok w0) (Vd:Tr.cO (q.ord.map (·.1))) (Tx:fh w0 (q.ord.map λ y=>(y.1,.bool y.2)) L.o.A L.o.n) (Ve:q.ord.length<=1000000) (Pz:s.aG.length+s.aD.length+2*Tr.aP (q.ord.map (·.1))<=1000000)
  (hP:cW c w0 gp g2 (ft q L) g4 g5 D r w u v ya s hd yi Ly [] ti th [])
  (hE:∀er a W,eF c.aJ c.aG c.cols q.ord s=.error er->er≠0->rG a d g4 g5->yj w0 g4 g5 D W->Q .ret a (jL W g4 g5 er))
  (Su:∀a W r' u' v' rE s' yh eP,eF c.aJ c.aG c.cols q.ord s=.ok (eP,s')->rG a d g4 g5->cW c w0 gp g2 (ft q L) g4 g5 D r' W u' v' rE s' hd yi Ly yh ti th eP->Q .ret a (jT W g4 g5 gp)):
  (eC bK 9).wp prog Q {tmps:=T,defers:=d} w:=by
 open zeW in exact ZcS
variable{x x':uC (vI×dE)}
theorem SN(l:vI)(y:Tr)(h:x'=(match x with|.error e=>.error e|.ok (ys,s)=>.ok (y::ys,s))):uO l x'=uO (l++[y]) x:=by rw[h];exact EO l y x
def zbX.Kak(h:p:=by go_wp2_with fail;exact HE.ae er _ _ (.inl (HJ.ae.symm.trans pC.ae)) oD.ae ⟨rfl,rfl,rfl⟩ HW2.ae):=h
def zbY.Kak(h:p:=by go_wp2_with fail;exact HE.ae 40 _ _ (.inl (HJ.ae.symm.trans pC.ae)) Tab ⟨rfl,rfl,rfl⟩ HW2.ae):=h
def zdD.KaG(h:p:=by simp[go_sem,h,z0,z1,x2,x3,x4,x5,x6,bH]):=h
def zfq.Kbg(h:p:=by go_upto_region 41 with fail;generalize w6.alloc (.cells (ay Kx) 46)=WD at*;go_wp2_with fail;refine(vh ty er WD).mono ?_;rintro e vy ⟨rfl,Lf⟩;rw[CU oD.ae];have HW2:=aa (HW.ae.later Lf);clear HW Lf;obtain⟨_,_,_,vS,_,_,b4,b5,_⟩:=HW2.ae;open zbX in exact ZaF):=h
def zie.Kcm(h:p:=by have HP8:=aa (tZ.ae.apX (by rw[Xy.ae]at BD⊢;exact BD) (np IH.ae));exact ZcG):=h
def zft.Kbh(h:p:=by
 have Bv:=aa Xz;clear Xz;go_wp2_with fail;refine(vh ty 0 WD).mono ?_;rintro e vy ⟨rfl,Lf⟩;rw[Hb];cases hgo:ck ty 1 with
 |false=>
   rw[if_pos rfl];have pC:=aa (show X=.error 40 by rw[vK.ae,Kd.ae];show uO eP (if ck ty 1=false then _ else _)=_;rw[if_pos hgo];rfl)
   have HW2:=aa (tZ.ae.f.aah.later Lf);clear Lf tZ IH PD hgo Kd;obtain⟨_,_,_,vS,_,_,b4,b5,_⟩:=HW2.ae;open zbY in exact ZaF
 |true=>
   rw[if_neg Tab];have Gc:=aa (show X=uO (eP++[t2]) (dt c.aJ c.aG c.cols (q.fE.drop (k+1)) s2) by rw[vK.ae,Kd.ae];refine SN eP t2 ?_;show(if ck ty 1=false then _ else _)=_;rw[if_neg (by rw[hgo];decide)])
   have HPA:=aa (tZ.ae.later Lf);have aru:=aa ((Eo.later (w0:=w0) (gp:=gp) (R:=PR u' v' {r with j:=rv}) Lf).trees IH.ae);have HYA:=aa (PD.ae.later Lf);clear tZ IH PD Lf vK Kd hgo;have tZ:=HPA;have IH:=aru;have PD:=HYA;clear HPA aru HYA;obtain⟨RA,rc,uw,_⟩:=tZ.ae.o4.reads;have Bt:=aa tZ.ae.o4;have HL7:=aa (show yh.length<=1000000 by have:=HFN.ae;have:=rL.ae;have:=pE.ae;have:=Bv.ae;omega);dsimp only at uw Bt;subst uw;obtain⟨r1,hr1⟩:∃r1:Rest,r1= {r with j:=Value.slice RA yh.length rc}:=⟨_,rfl⟩;have Xy:=aa hr1;rw[<-hr1]at tZ IH;clear hr1;go_wp2_with fail;refine Im (gp:=gp) (k:=14) (B:=w0.heap.size) (gx:=gY) (cs:=c.cells r1 u' v') (r:=Value.slice RA yh.length rc) (ys:=yh) (y:=Kx) (s0:=6) (s1:=22) (d0:=209) (d1:=210) (d2:=211) (d3:=212) (d4:=213) (d5:=214) (d6:=215) (d7:=216) (d8:=217) (d10:=218) (d11:=219) Taa Taa Taa rfl rfl ?_ ?_ ?_ ?_ ?_ ?_ ?_ ?_ ?_ ?_ ?_ ?_ ?_ ?_ tZ.ae.f.base.size tZ.ae.blk Bt.ae HL7.ae PD.ae Vg.ae.1 Vg.ae.2 ?_;exact ZeM;exact ZeM;exact ZeM
   ·intro ρ w h hc;simp[go_sem,h,hc]
   intro ρ w h hb;open zdD in exact ZbI
   exact ZeM
   ·intro ρ w hc;simp[go_sem,hc.const,bH,xN]
   exact ZeU;exact ZhH;rfl;exact ZeM;exact ZeM
   ·intro ρ w Lw n1 c1 h1 h2 hc hf;simp[go_sem,h1,h2,hc,hf]
   rw[Xy.ae];rfl
   open zie in exact Zhf):=h
def zbr.Kae(h:p:=by
 clear k1;go_wp2_with fail;clear z0 z1 x2 x3 x4 x5 x6;refine(Ek c w0 gp {r with j:=rv} t y s1 u1 v1 KL W2 iT.ae lq.ae yE.ae ry.ae.ps TaQ).mono ?_;intro e w6 hp;have wA:=aa (mr c.aJ c.aG c.cols t s1);cases hr:pZ c.aJ c.aG c.cols t s1 with
 |error er=>
   open zfq in exact ZdA
 |ok p=>obtain⟨t2,ty,s2⟩:=p;have kF:=wh.ae;rw[hr]at hp wA kF;obtain⟨Kx,u',v',T7,rfl,vJ,qK,hst⟩:=hp;have tu:=ry.ae.call hst qK;have XW:=ry.ae.tree hst qK vJ;have bg:=ah w6 (.cells (ay Kx) 46);have Zh:=aB.new w6 46 (ay Kx);have tZ:=aa (tu.later bg);have IH:=aa ((Eo.later (w0:=w0) (gp:=gp) (R:=PR u' v' {r with j:=rv}) bg).trees (Tr.gw XW));have Vg:=aa (show w6.heap.size≠gp/\rv.ownBlock≠some w6.heap.size from⟨by have:=tu.f.lt;omega,λ e=>by have:=(tu.f.rows 4 WC _ e).2.1;omega⟩);have EP:=aa (wA.ae.len _ _ _ rfl);have Kd:=aa kF;have Xz:=tu.t4.length;clear hr kF hst qK vJ tu XW bg wA wh ry;go_upto_region 41 with fail;open zft in exact ZdB):=h
def zfx.Kbi(h:p:=by clear iJ Oe;open zbr in exact Zay):=h
def zcM.Kav(h:p:=by
 have iJ:=aa Il;have b2:=Il.f.z2;unfold ft at b2;have c5:=b2.cell 5;simp only[Uaa]at c5;rw[hn,<-Pk]at c5;clear hE Bi Ui qT hfn hz hS hw hl hh M7 hJ Il b2 hn Pk;simp only[bK,eC,f28,Option.getD_some];go_wp2_with fail;clear c5;go_loopw [192] (λ i wr=>∃(k:Nat) (rv u1 v1:Value) (KL yh:v_) (s1:dE) (eP:vI),k<=zs.length/\i=af k/\cW c w0 gp g2 (ft q L) g4 g5 D {r with j:=rv} wr u1 v1 KL s1 hd yi yh [] ti eP []/\X=uO eP (dt c.aJ c.aG c.cols (q.fE.drop k) s1)/\s1.aG.length+s1.aD.length+2*Tr.aP (q.fE.drop k)+2*Tr.aP (q.ord.map (·.1))<=1000000/\eP.length=k) (λ i _=>zs.length-(intOf i).toNat);case atStart=>exact⟨0,r.j,u,v,ya,[],s,[],gE,rfl,iJ.ae,by rw[drop_zero,IG];exact HJ.ae,by rw[drop_zero];exact A2.ae,rfl⟩
 case round=>
  rename_i K hK;clear iJ;obtain⟨k,rv,u1,v1,KL,yh,s1,eP,hk,rfl,Il,Vf,M7,UQ⟩:=hrel;have vK:=aa Vf;have Az:=aa M7;have iJ:=aa Il;have rL:=aa UQ;clear Vf M7 Il UQ;by_cases hlt:k<zs.length
  ·have fW:k<q.fE.length:=by rw[<-pE.ae];exact hlt
   obtain⟨b,off,hA,Dx,hex⟩:∃b off,L.h.A=some ⟨b,off,none⟩/\b<w0.heap.size/\cC w0 b (off+k*7) zs[k]:=by exact Zin
   have sR:(q.fE[k]'fW).at_ w0 (Old w0) zs[k]:=by obtain⟨Kx,h1,h2⟩:=qJ fW HL.ae;rw[getElem?_eq_getElem hlt]at h1;injection h1 with h1;rw[h1];exact h2
   have gL:(q.fE[k]'fW).ok:=dP.1 Nj.ae _ (getElem_mem fW);have Po:Tr.aP (q.fE.drop k)=(q.fE[k]'fW).nodes+Tr.aP (q.fE.drop (k+1)):=vR fW;have hdr:dt c.aJ c.aG c.cols (q.fE.drop k) s1=(match pZ c.aJ c.aG c.cols (q.fE[k]'fW) s1 with
     |.error e=>.error e
     |.ok (Kx,k2,s')=>if ck k2 1=false then .error 40 else match dt c.aJ c.aG c.cols (q.fE.drop (k+1)) s' with
       |.error e=>.error e
       |.ok (ys,MP)=>.ok (Kx::ys,MP)):=by
    rw[drop_eq_getElem_cons fW];rfl
   generalize zs[k]=y at*;generalize (q.fE[k]'fW)=t at*;have ja:=hex.keep (λ o=>iJ.ae.f.base.cell (p:=⟨b,o,none⟩) Dx);unfold cC at ja;have yE:=aa sR;have lq:=aa gL;have HND:=aa Po;have wh:=aa hdr;have HAA:=aa hA;rw[hA];clear hex sR gL Po hdr hA Dx fW;go_upto_region 40 with fail;open zfx in exact ZdE
  have yz:k=zs.length:=by omega
  have HXO:=aa (show X=.ok (eP,s1) by rw[vK.ae,yz,pE.ae,drop_length];show Except.ok (eP++[],s1)=_;rw[append_nil])
  subst yz;have key:∀T:x_,T.size=252->T.getD 2 undef=aw g2->T.getD 4 undef=aw g4->T.getD 5 undef=aw g5->T.getD 6 undef=aw gp->(eC bK 9).wp prog Q {tmps:=T,defers:=d} wr:=λ T hT h2 h4 h5 h6=>
   XV c w0 gp g2 g4 g5 D q L {r with j:=rv} u1 v1 KL s1 hd yi yh ti eP T hT h2 h4 h5 h6 d wr Q iT.ae HK.ae HS.ae A1.ae (by have:=Az.ae;omega) iJ.ae
    (λ er a W he hne ha LE=>HE.ae er a W (.inr ⟨eP,s1,HJ.ae.symm.trans HXO.ae,he⟩) hne ha LE)
    (λ a W r' u' v' rE s' yo Ly he ha hp=>ox.ae a W r' u' v' rE s1 s' yh yo eP Ly (HJ.ae.symm.trans HXO.ae) he ha hp)
  exact Zcr):=h
def zeX.Ka4(h:p:=by obtain⟨hn,zs,hw,hl⟩:=hih;have Pk:zs.length=q.fE.length:=hl.length;obtain⟨X,hJ⟩:∃X,X=dt c.aJ c.aG c.cols q.fE s:=⟨_,rfl⟩;have HE:=aa hE;open zcM in exact Zbf):=h
theorem SP(c:PC)(w0:t_)(gp g2 g4 g5 D:Nat)(q:Qy)(L:QL)(r:Rest)(u v:Value)(ya:v_)(s:dE)(hd:List aZ)(yi:v_)(ti:vI)(T:x_)(hT:T.size=252)
  (h2:T.getD 2 undef=aw g2) (h4:T.getD 4 undef=aw g4) (h5:T.getD 5 undef=aw g5) (h6:T.getD 6 undef=aw gp) (d:List Deferred) (w:t_) (Q:y_)
  (Ui:c.Ok w0) (qT:Tr.cO q.fE) (hih:ib w0 q.fE L.h.A L.h.n) (hfn:q.fE.length<=1000000) (hz:Tr.cO (q.ord.map (·.1))) (hS:fh w0 (q.ord.map λ y=>(y.1,.bool y.2)) L.o.A L.o.n) (hh:q.ord.length<=1000000) (M7:s.aG.length+s.aD.length+2*Tr.aP q.fE+2*Tr.aP (q.ord.map (·.1))<=1000000)
  (Il:cW c w0 gp g2 (ft q L) g4 g5 D r w u v ya s hd yi [] [] ti [] [])
  (hE:∀er a W,(dt c.aJ c.aG c.cols q.fE s=.error er\/∃eP s',dt c.aJ c.aG c.cols q.fE s=.ok (eP,s')/\eF c.aJ c.aG c.cols q.ord s'=.error er)->er≠0->rG a d g4 g5->yj w0 g4 g5 D W->Q .ret a (jL W g4 g5 er))
  (Bi:∀a W r' u' v' rE s1 s' yh yo eP Ly,dt c.aJ c.aG c.cols q.fE s=.ok (eP,s1)->eF c.aJ c.aG c.cols q.ord s1=.ok (Ly,s')->rG a d g4 g5->cW c w0 gp g2 (ft q L) g4 g5 D r' W u' v' rE s' hd yi yh yo ti eP Ly->Q .ret a (jT W g4 g5 gp)):
  (eC bK 8).wp prog Q {tmps:=T,defers:=d} w:=by
 open zeX in exact ZcS
structure Lg (gp B:Nat) (W:t_) (cs:x_) (ri rh:Value) (yi:v_) (y:Ex) (hd:List aZ) (Gd:aZ) (s5 s7 s8 Ge Vh:Option Value) (s21:Bool) (w:t_):Prop where
 e5:∀x,s5=some x->x=ri
 e8:s8.isSome=true->s5.isSome=true/\s7.isSome=true
 XO:s21=true->s8.isSome=true
 e18:Vh.isSome=true->Ge.isSome=true
 z7:s8=none->∀x,s7=some x->∃g,x=aL g 1 1/\aB w g 46 (bH y).toArray
 z17:Vh=none->∀x,Ge=some x->∃g,x=aL g 1 1/\aB w g 113 (aU Gd).toArray
 items:aH bH 46 7 w B (s8.getD ri) (yi++if s8.isSome=true then [y] else [])
 head:aH aU 113 2 w B (Vh.getD rh) (hd++if Vh.isSome=true then [Gd] else [])
 mvi:Mv W ri (s8.getD ri)
 mvh:Mv W rh (Vh.getD rh)
 blk:aB w gp 81 (if s21=true then cs.setIfInBounds 13 (s8.getD ri)else cs)
 far:∀b,b<W.heap.size->b≠gp->ri.ownBlock≠some b->rh.ownBlock≠some b->w.heap[b]?=W.heap[b]?
 os:w.os=W.os
 tape:w.tape=W.tape
 output:w.output=W.output
 size:W.heap.size<=w.heap.size
section
variable{gp B:Nat}{W w w':t_}{cs:x_}{ri rh:Value}{yi:v_}{y:Ex}{hd:List aZ}{Gd:aZ}{s5 s7 s8 Ge Vh:Option Value}{s21:Bool}
theorem Lg.later(h:Lg gp B W cs ri rh yi y hd Gd s5 s7 s8 Ge Vh s21 w)(hb:ai w w'):Lg gp B W cs ri rh yi y hd Gd s5 s7 s8 Ge Vh s21 w':=
 ⟨h.e5,h.e8,h.XO,h.e18,λ h1 x hx=>by obtain⟨g,k1,k2⟩:=h.z7 h1 x hx;exact⟨g,k1,k2.later hb⟩,λ h1 x hx=>by obtain⟨g,k1,k2⟩:=h.z17 h1 x hx;exact⟨g,k1,k2.later hb⟩,h.items.later hb,h.head.later hb,h.mvi,h.mvh,h.blk.later hb,λ b h1 h2 h3 h4=>(hb.block b (eS h1 h.size)).trans (h.far b h1 h2 h3 h4),hb.os.trans h.os,hb.tape.trans h.tape,hb.output.trans h.output,fK h.size hb.size⟩
theorem Lg.axx(h:Lg gp B W cs ri rh yi y hd Gd s5 s7 none Ge Vh false w)(h5:s5.isSome=true)(h7:s7.isSome=true){a:Value}(ho:aH bH 46 7 w' B a (yi++[y]))(hg:w.grownBy w' ri.ownBlock)(hm:Mv w ri a):Lg gp B W cs ri rh yi y hd Gd s5 s7 (some a) Ge Vh false w':=by
 have hi:aH bH 46 7 w B ri yi:=by simpa using h.items
 refine⟨h.e5,λ _=>⟨h5,h7⟩,λ _=>rfl,h.e18,(λ e=>by cases e),λ h1 x hx=>by obtain⟨g,k1,k2⟩:=h.z17 h1 x hx;exact⟨g,k1,dG k2 hi Tab hg⟩,ho,h.head.past hi Tab hg,hm.later h.size,h.mvh,dG h.blk hi Tab hg,λ b h1 h2 h3 h4=>(hg.block b (eS h1 h.size) (Ne.symm h3)).trans (h.far b h1 h2 h3 h4),hg.os.trans h.os,hg.tape.trans h.tape,hg.output.trans h.output,fK h.size hg.size⟩
theorem Lg.arv(h:Lg gp B W cs ri rh yi y hd Gd s5 s7 s8 Ge none s21 w)(h8:s8.isSome=true)(h17:Ge.isSome=true){a:Value}(ho:aH aU 113 2 w' B a (hd++[Gd]))(hg:w.grownBy w' rh.ownBlock)(hm:Mv w rh a):Lg gp B W cs ri rh yi y hd Gd s5 s7 s8 Ge (some a) s21 w':=by
 have hi:aH aU 113 2 w B rh hd:=by simpa using h.head
 refine⟨h.e5,h.e8,h.XO,λ _=>h17,λ e=>by(rw[e]at h8;cases h8),(λ e=>by cases e),h.items.past hi Tab hg,ho,h.mvi,hm.later h.size,dG h.blk hi Tab hg,λ b h1 h2 h3 h4=>(hg.block b (eS h1 h.size) (Ne.symm h4)).trans (h.far b h1 h2 h3 h4),hg.os.trans h.os,hg.tape.trans h.tape,hg.output.trans h.output,fK h.size hg.size⟩
theorem Lg.arw(h:Lg gp B W cs ri rh yi y hd Gd s5 s7 s8 Ge Vh false w)(h8:s8.isSome=true):Lg gp B W cs ri rh yi y hd Gd s5 s7 s8 Ge Vh true (w.setCell ⟨gp,13,none⟩ (s8.getD ri)):=by
 have hk:aB w gp 81 cs:=h.blk;have hn8:s8≠none:=λ e=>by rw[e]at h8;cases h8
 have hf:=λ b (hb:b≠gp)=>Below.heap_setCell w ⟨gp,13,none⟩ (s8.getD ri) b hb;have hz:∀{g:Nat}{t:TypeId}{c:x_},aB w g t c->t≠81->g≠gp:=λ k1 k2 e=>by subst e;have:=k1.symm.trans hk;injection this with this;injection this with _ this _;exact k2 this
 refine⟨h.e5,h.e8,λ _=>h8,h.e18,λ e=>absurd e hn8,λ h1 x hx=>by obtain⟨g,k1,k2⟩:=h.z17 h1 x hx;exact⟨g,k1,(hf g (hz k2 Tab)).trans k2⟩,h.items.keep λ g hg2=>hf g λ e=>h.items.other hk Tab Tal,h.head.keep λ g hg2=>hf g λ e=>h.head.other hk Tab Tal,h.mvi,h.mvh,hk.aW 13 _,λ b h1 h2 h3 h4=>(hf b h2).trans (h.far b h1 h2 h3 h4),h.os,h.tape,h.output,by rw[World.size_setCell];exact h.size⟩
end
def rM(gp B:Nat)(W:t_)(cs:x_)(ri rh:Value)(yi:v_)(y:Ex)(hd:List aZ)(Gd:aZ)(σ:Nat->Option Value)(w:t_):Prop:=Lg gp B W cs ri rh yi y hd Gd (σ 5) (σ 7) (σ 8) (σ 17) (σ 18) (σ 21).isSome w
variable{B:Nat}{W:t_}{cs:x_}{rh:Value}{Gd:aZ}{s5 s7 s8 Ge Vh:Option Value}{s21:Bool}
theorem Lg.c12{ri:Value}(h:Lg gp B W cs ri rh yi y hd Gd s5 s7 s8 Ge Vh s21 w)(hch:cs[12]?=some rh):w.cell? ⟨gp,12,none⟩=some rh:=by
 rw[h.blk.cell];cases s21 with
 |false=>exact hch
 |true=>rw[if_pos rfl,Array.getElem?_setIfInBounds_ne WC];exact hch
variable{P:Program}{ρ:Operand->Value}{T:Value->t_->Prop}
theorem SQ{o:Oper}(h:(execOp ρ o).run P w=.ok .skip w')(ht:T undef w'):uj P o ρ w T:=by unfold uj;rw[h];exact ht
def tx(n:Nat):Code->Option Code
 |.region id ops b=>if id=n then some (.region id ops b)else none
 |.seq a b=>match tx n a with|some c=>some c|none=>tx n b
 |.cond _ a b=>match tx n a with|some c=>some c|none=>tx n b
 |.block _ c=>tx n c
 |.loop c=>tx n c
 |_=>none
noncomputable def ES:Code:=(tx 35 (eC bK 7)).getD .skip
def lbU(gp:Nat)(rh:Value)(y:Ex)(nm:u_)(ty:Int)(g16:Nat):Nat->Value:=λ i=>if i=0 then(aw gp)else if i=1 then(aw gp)else if i=2 then(aw gp)else if i=3 then(aw gp)else if i=4 then(aY gp 13)else if i=6 then(.agg (bH y).toArray)else if i=9 then(aw gp)else if i=10 then(aw gp)else if i=11 then(aY gp 12)else if i=12 then(rh)else if i=13 then(aY g16 7)else if i=14 then(.string nm)else if i=15 then(ag ty)else if i=16 then(.agg (aU ⟨nm,ty⟩).toArray)else if i=19 then(aw gp)else if i=20 then(aY gp 13)else undef
section
variable{gp B gY g16:Nat}{W:t_}{cs:x_}{ri rh:Value}{yi:v_}{y:Ex}{hd:List aZ}{nm:u_}{ty:Int}{Q:y_}{T:x_}{d:List Deferred}
def zdA.KaG(h:p:=by show(execOp ρ _).run prog Fu=.ok (.value (.agg (bH y).toArray)) Fu;simp[go_sem,r0,z0,z1,x2,x3,x4,x5,x6,bH]):=h
theorem ET(hT:T.size=252)(es0:T.getD 6 undef=aw gp)(es1:T.getD 17 undef=aw gY)(es2:T.getD 16 undef=aw g16)(es3:T.getD 18 undef=ag ty)
  (Pp:cs[13]?=some ri) (hch:cs[12]?=some rh) (hB:B<=W.heap.size) (hblk:aB W gp 81 cs) (hoi:aH bH 46 7 W B ri yi) (hoh:aH aU 113 2 W B rh hd) (Pk:yi.length<=1000000) (hlh:hd.length<=1000000)
  (Zh:aB W gY 46 (bH y).toArray) (hY1:gY≠gp) (hY2:ri.ownBlock≠some gY) (hY3:rh.ownBlock≠some gY) (hn:W.cell? ⟨g16,7,none⟩=some (.string nm)) (hN0:g16<W.heap.size) (hN1:g16≠gp) (hN2:ri.ownBlock≠some g16) (hN3:rh.ownBlock≠some g16)
  (mO:∀aeP aeQ z167 z168 aeR aeS z171 aeT z173 aeU z175 aeV aeW aeX aeY aeZ afa z182 z183 afb afc afd afe Fu a b s7 Ge,Lg gp B W cs ri rh yi y hd ⟨nm,ty⟩ (some ri) s7 (some a) Ge (some b) true Fu->Q .normal {tmps:=(((((((((((((((((((((((T.setIfInBounds 165 aeP).setIfInBounds 166 aeQ).setIfInBounds 167 z167).setIfInBounds 168 z168).setIfInBounds 169 aeR).setIfInBounds 170 aeS).setIfInBounds 171 z171).setIfInBounds 172 aeT).setIfInBounds 173 z173).setIfInBounds 174 aeU).setIfInBounds 175 z175).setIfInBounds 176 aeV).setIfInBounds 177 aeW).setIfInBounds 178 aeX).setIfInBounds 179 aeY).setIfInBounds 180 aeZ).setIfInBounds 181 afa).setIfInBounds 182 z182).setIfInBounds 183 z183).setIfInBounds 184 afb).setIfInBounds 185 afc).setIfInBounds 186 afd).setIfInBounds 187 afe),defers:=d} (Fu.setCell ⟨gp,12,none⟩ b)):
  ES.wp prog Q {tmps:=T,defers:=d} W:=by
 obtain⟨f,rfl⟩:=lM T hT;have es0:f 6=_:=es0;have es1:f 17=_:=es1;have es2:f 16=_:=es2;have es3:f 18=_:=es3;unfold ES;simp only[bK,eC,f28,Option.getD_some,tx,Nat.reduceEqDiff,if_true,if_false];refine kU _ _ (take_append_drop 22 _).symm (lbU gp rh y nm ty g16) [5,7,8,17,18,21] (rM gp B W cs ri rh yi y hd ⟨nm,ty⟩) (λ σ Fu h=>Lg.later h cX.drew) ⟨(λ x e=>by cases e),(λ e=>by cases e),(λ e=>by cases e),(λ e=>by cases e),(λ _ x e=>by cases e),(λ _ x e=>by cases e),by simpa using hoi,by simpa using hoh,Mv.refl _ _,Mv.refl _ _,hblk,λ _ _ _ _ _=>rfl,rfl,rfl,rfl,aE⟩ Taa Taa Taa Taa ?_ ?_
 ·simp only[take_succ_cons,take_zero];refine⟨Zcy,Zcy,Zcy,?_,?_,?_,?_,?_,?_,Zcy,?_,?_,?_,?_,?_,?_,?_,?_,?_,?_,?_,?_,trivial⟩
  ·intro ρ Fu σ hc hG hr he hno;have r0:ρ (.tmp 167)=aw gp:=hr.1;exact Za6
  intro ρ Fu σ hc hG hr he hno;have r0:ρ (.tmp 168)=aw gp:=hr.1;exact Zfr
  ·intro ρ Fu σ hc hG hr he hno;have r0:ρ (.tmp 169)=aY gp 13:=hr.1;refine⟨rfl,?_⟩;unfold rM at hG;rw[if_pos Tab];have kW:=hno Tab
   have h8n:σ 8=none:=by
    cases h:σ 8 with
    |none=>rfl
    |some a=>have:=(hG.e8 (by rw[h];rfl)).1;rw[kW]at this;cases this
   have aff:(σ 21).isSome=false:=by
    cases h:(σ 21).isSome with
    |false=>rfl
    |true=>have:=hG.XO h;rw[h8n]at this;cases this
   have hb:=hG.blk;rw[aff]at hb;have hb:aB Fu gp 81 cs:=hb;have c13:=(hb.cell 13).trans Pp;refine aq (v:=ri) (w':=Fu) (by simp[go_sem,r0,c13]) ?_;show rM _ _ _ _ _ _ _ _ _ _ _ _;unfold rM;simp only[jr,Nat.reduceEqDiff,if_true,if_false];exact⟨λ x e=>by injection e with e;exact e.symm,λ e=>⟨rfl,(hG.e8 e).2⟩,hG.XO,hG.e18,hG.z7,hG.z17,hG.items,hG.head,hG.mvi,hG.mvh,hG.blk,hG.far,hG.os,hG.tape,hG.output,hG.size⟩
  intro ρ Fu σ hc hG hr he hno;have r0:ρ (.tmp 17)=aw gY:=(show ρ (.tmp 17)=f 17 from hr.1).trans es1;refine⟨rfl,?_⟩;unfold rM at hG;rw[if_neg Tab];have hb:aB Fu gY 46 (bH y).toArray:=(hG.far gY Zh.lt hY1 hY2 hY3).trans Zh;open zdA in exact ZbI
  ·intro ρ Fu σ hc hG hr he hno;have r0:ρ (.tmp 171)=.agg (bH y).toArray:=hr.1;refine⟨rfl,?_⟩;unfold rM at hG;rw[if_pos Tab];have kW:=hno Tab;refine aq (v:=aL Fu.heap.size 1 1) (w':=Fu.alloc (.cells (bH y).toArray 46)) (by simp[go_sem,r0,bH]) ?_;show rM _ _ _ _ _ _ _ _ _ _ _ _;unfold rM;simp only[jr,Nat.reduceEqDiff,if_true,if_false];have hA:=hG.later (ah Fu (.cells (bH y).toArray 46));exact⟨hA.e5,λ e=>⟨(hA.e8 e).1,rfl⟩,hA.XO,hA.e18,λ _ x e=>by injection e with e;exact⟨Fu.heap.size,e.symm,aB.new Fu _ _⟩,hA.z17,hA.items,hA.head,hA.mvi,hA.mvh,hA.blk,hA.far,hA.os,hA.tape,hA.output,hA.size⟩
  ·intro ρ Fu σ hc hG hr he hno;have r0:σ 5=some (ρ (.tmp 170)):=hr.1;have r1:σ 7=some (ρ (.tmp 172)):=hr.2.1;refine⟨rfl,?_⟩;unfold rM at hG;rw[if_pos Tab];have kW:=hno Tab;have h5s:=he 5 (cM.1 Taa) Tab;have h7s:=he 7 (cM.1 Taa) Tab;rw[kW]at hG
   have aff:(σ 21).isSome=false:=by
    cases h:(σ 21).isSome with
    |false=>rfl
    |true=>have:=hG.XO h;cases this
   rw[aff]at hG;obtain⟨Kx,hz1,hz2⟩:=hG.z7 rfl _ r1;have q0:=hG.e5 _ r0;have aky:aH bH 46 7 Fu B ri yi:=by simpa using hG.items
   obtain⟨v',w',hrun,ho,zT,FM⟩:=fc (P:=prog) (w:=Fu) 23 23 _ 88 underlying23 gh rfl WC (λ _=>rfl) (y:=y) TaF aky Kx hz2 WC WC (fK hB hG.size);refine aq (v:=v') (w':=w') (by simp only[execOp,resolve,invoke,builtin,Sem.run_bind,Sem.run_pure,Result.andThen_ok,map_toArray,map_cons,map_nil,q0,hz1,hrun]) ?_;show rM _ _ _ _ _ _ _ _ _ _ _ _;unfold rM;simp only[jr,Nat.reduceEqDiff,if_true,if_false,aff];exact hG.axx h5s h7s ho zT.grown FM
  intro ρ Fu σ hc hG hr he hno;have r0:ρ (.tmp 174)=aw gp:=hr.1;exact Za6
  ·intro ρ Fu σ hc hG hr he hno;have r0:ρ (.tmp 175)=aw gp:=hr.1;refine⟨rfl,?_⟩;unfold rM at hG;rw[if_neg Tab];show(execOp ρ _).run prog Fu=.ok (.value (aY gp 12)) Fu;simp[go_sem,r0]
  ·intro ρ Fu σ hc hG hr he hno;have r0:ρ (.tmp 176)=aY gp 12:=hr.1;refine⟨rfl,?_⟩;unfold rM at hG;rw[if_neg Tab];have c12:=hG.c12 hch;show(execOp ρ _).run prog Fu=.ok (.value (rh)) Fu;simp[go_sem,r0,c12]
  ·intro ρ Fu σ hc hG hr he hno;have r0:ρ (.tmp 16)=aw g16:=(show ρ (.tmp 16)=f 16 from hr.1).trans es2;refine⟨rfl,?_⟩;unfold rM at hG;rw[if_neg Tab];show(execOp ρ _).run prog Fu=.ok (.value (aY g16 7)) Fu;simp[go_sem,r0]
  ·intro ρ Fu σ hc hG hr he hno;have r0:ρ (.tmp 178)=aY g16 7:=hr.1;refine⟨rfl,?_⟩;unfold rM at hG;rw[if_neg Tab];have cn:=(bI (hG.far g16 hN0 hN1 hN2 hN3) 7).trans hn;show(execOp ρ _).run prog Fu=.ok (.value (.string nm)) Fu;simp[go_sem,r0,cn]
  ·intro ρ Fu σ hc hG hr he hno;have r0:ρ (.tmp 18)=ag ty:=(show ρ (.tmp 18)=f 18 from hr.1).trans es3;refine⟨rfl,?_⟩;unfold rM at hG;rw[if_neg Tab];show(execOp ρ _).run prog Fu=.ok (.value (ag ty)) Fu;simp[go_sem,r0]
  ·intro ρ Fu σ hc hG hr he hno;have r0:ρ (.tmp 179)=.string nm:=hr.1;have r1:ρ (.tmp 180)=ag ty:=hr.2.1;refine⟨rfl,?_⟩;unfold rM at hG;rw[if_neg Tab];show(execOp ρ _).run prog Fu=.ok (.value (.agg (aU ⟨nm,ty⟩).toArray)) Fu;simp[go_sem,r0,r1,aU]
  ·intro ρ Fu σ hc hG hr he hno;have r0:ρ (.tmp 181)=.agg (aU ⟨nm,ty⟩).toArray:=hr.1;refine⟨rfl,?_⟩;unfold rM at hG;rw[if_pos Tab];have kW:=hno Tab;refine aq (v:=aL Fu.heap.size 1 1) (w':=Fu.alloc (.cells (aU ⟨nm,ty⟩).toArray 113)) (by simp[go_sem,r0,aU]) ?_;show rM _ _ _ _ _ _ _ _ _ _ _ _;unfold rM;simp only[jr,Nat.reduceEqDiff,if_true,if_false];have hA:=hG.later (ah Fu (.cells (aU ⟨nm,ty⟩).toArray 113));exact⟨hA.e5,hA.e8,hA.XO,λ _=>rfl,hA.z7,λ _ x e=>by injection e with e;exact⟨Fu.heap.size,e.symm,aB.new Fu _ _⟩,hA.items,hA.head,hA.mvi,hA.mvh,hA.blk,hA.far,hA.os,hA.tape,hA.output,hA.size⟩
  ·intro ρ Fu σ hc hG hr he hno;have r0:ρ (.tmp 177)=rh:=hr.1;have r1:σ 17=some (ρ (.tmp 182)):=hr.2.1;refine⟨rfl,?_⟩;unfold rM at hG;rw[if_pos Tab];have kW:=hno Tab;have h8s:=he 8 (cM.1 Taa) Tab;have axA:=he 17 (cM.1 Taa) Tab;rw[kW]at hG;obtain⟨Kx,hz1,hz2⟩:=hG.z17 rfl _ r1;have aky:aH aU 113 2 Fu B rh hd:=by simpa using hG.head
   obtain⟨v',w',hrun,ho,zT,FM⟩:=fc (P:=prog) (w:=Fu) 28 28 _ 24 underlying28 sM rfl WC (λ _=>rfl) (y:=⟨nm,ty⟩) Ta3 aky Kx hz2 WC WC (fK hB hG.size);refine aq (v:=v') (w':=w') (by simp only[execOp,resolve,invoke,builtin,Sem.run_bind,Sem.run_pure,Result.andThen_ok,map_toArray,map_cons,map_nil,r0,hz1,hrun]) ?_;show rM _ _ _ _ _ _ _ _ _ _ _ _;unfold rM;simp only[jr,Nat.reduceEqDiff,if_true,if_false];exact hG.arv h8s axA ho zT.grown FM
  intro ρ Fu σ hc hG hr he hno;have r0:ρ (.tmp 165)=aw gp:=hr.1;exact Za6;intro ρ Fu σ hc hG hr he hno;have r0:ρ (.tmp 184)=aw gp:=hr.1;exact Zfr;intro ρ Fu σ hc hG hr he hno;have r0:ρ (.tmp 185)=aY gp 13:=hr.1;have r1:σ 8=some (ρ (.tmp 173)):=hr.2.1;refine⟨rfl,?_⟩;unfold rM at hG;rw[if_pos Tab];have kW:=hno Tab;have h8s:=he 8 (cM.1 Taa) Tab;obtain⟨a,ha⟩:=Option.isSome_iff_exists.1 h8s;rw[kW]at hG;rw[ha]at r1;injection r1 with r1;have kJ:aB Fu gp 81 cs:=hG.blk;have hit:=hG.items;rw[ha]at hit;obtain⟨q,c,e1,_,_⟩:=hit.block Tad;have e1:a=aL q _ c:=e1;have q1:=r1.symm.trans e1;have c13:=(kJ.cell 13).trans Pp;have f13:=kJ.frozen 13;have hp:=Lg.arw hG h8s;rw[ha,e1]at hp;refine SQ (w':=Fu.setCell ⟨gp,13,none⟩ (aL q (yi++if (some a).isSome=true then [y] else []).length c)) (by simp[go_sem,r0,q1,c13,f13]) ?_;show rM _ _ _ _ _ _ _ _ _ _ _ _;unfold rM;simp only[jr,Nat.reduceEqDiff,if_true,if_false,Option.isSome_some];rw[ha,e1];exact hp
 intro σ Fu hM hG;simp only[Uab];obtain⟨a,ha⟩:=Option.isSome_iff_exists.1 (hM 8 Tab);obtain⟨b,hb⟩:=Option.isSome_iff_exists.1 (hM 18 Tab);have h21:=hM 21 Tab;unfold rM at hG;obtain⟨x5,h5⟩:=Option.isSome_iff_exists.1 (hM 5 Tab);have h5e:=hG.e5 _ h5;rw[ha,hb,h21,h5,h5e]at hG;intro a0 q0 a1 q1 a2 q2 a3 q3 a4 q4 a5 q5 a6 q6 a7 q7 a8 q8 a9 q9 Hc Wm S1 q11 a12 q12 a13 q13 a14 q14 a15 q15 a16 q16 a17 q17 a18 q18 a19 q19 a20 q20;have e1:a1=aw gp:=q1;have e18:σ 18=some a18:=q18;rw[hb]at e18;injection e18 with e18;clear q0 q1 q2 q3 q4 q5 q6 q7 q8 q9 Wm q11 q12 q13 q14 q15 q16 q17 q18 q19 q20;subst e1 e18;have hhd:=hG.head;obtain⟨qq,cc,hqq,_,_⟩:=hhd.block Tad;have hqq:b=aL qq _ cc:=hqq;have c12:=hG.c12 hch;have f12:=hG.blk.frozen 12;simp only[bU,bw,Act.put,Uac];simp only[bU,Uac]at mO;have HF:=aa mO;have HG:=aa hG;clear mO hG hhd;obtain⟨n9,hn9⟩:∃n9,n9=(hd++if (some b).isSome=true then [(⟨nm,ty⟩:aZ)] else []).length:=⟨_,rfl⟩;rw[<-hn9]at hqq;clear hn9;subst hqq;go_wp2_with fail;refine HF.ae _ _ _ _ _ _ _ _ _ _ _ _ _ _ _ _ _ _ _ _ _ _ _ _ _ _ _ _ HG.ae
end
end Go.Proofs.YtndgjggokjickaaGreatDoor
