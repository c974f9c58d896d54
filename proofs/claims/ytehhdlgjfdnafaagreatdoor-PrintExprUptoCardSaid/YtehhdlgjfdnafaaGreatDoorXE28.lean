/- Parts of the proof. -/
import Derived.Test.YtehhdlgjfdnafaaGreatDoorXE22
namespace Go.Proofs.YtehhdlgjfdnafaaGreatDoor
open List
variable{p:Prop}
set_option maxHeartbeats 90000000
set_option maxRecDepth 100000
set_option linter.unusedVariables false
set_option linter.unusedSimpArgs false
def wW (s:aT):Wd:=⟨1,s,0⟩
def sW (s:aT):Wd:=⟨4,s,0⟩
def Lx (P:aT->Prop)(a:aT)(ws:aF):Prop:=∀y,P y->∃ps:List (Wd×Nat),(∀ps2 q,Ki y ps2 q->Ki (a++y) (ps++ps2) q)/\ps.map (·.1)=ws
def GY (_:aT):Prop:=True
def kN (y:aT):Prop:=∀c,y.head?=some c->c=32\/c=40\/c=41\/c=44
def Ko (y:aT):Prop:=∃r,y=32::r
variable{P Q:aT->Prop}{a b:aT}{u v:aF}
theorem Lx.app(h:Lx P a u)(k:Lx Q b v)(QM:∀y,Q y->P (b++y)):Lx Q (a++b) (u++v):=by intro y hy;obtain⟨p1,r1,m1⟩:=k y hy;obtain⟨p2,r2,m2⟩:=h (b++y) (QM y hy);refine⟨p2++p1,λ ps2 q hr=>?_,by simp[m1,m2]⟩;rw[append_assoc,append_assoc];exact r2 _ _ (r1 _ _ hr)
theorem Lx.weak(h:Lx P a u)(QM:∀y,Q y->P y):Lx Q a u:=λ y hy=>h y (QM y hy)
theorem Lx.any(h:Lx GY a u)(k:Lx Q b v):Lx Q (a++b) (u++v):=h.app k λ _ _=>trivial
variable{c:UInt8}
theorem Lx.stop(h:Lx kN a u)(hc:c=32\/c=40\/c=41\/c=44)(k:Lx Q (c::b) v):Lx Q (a++c::b) (u++v):=
 h.app k λ y _ d hd=>by simp only[cons_append,head?_cons,Option.some.injEq] at hd;subst hd;exact hc
theorem Lx.blank(h:Lx Ko a u)(k:Lx Q (32::b) v):Lx Q (a++32::b) (u++v):=
 h.app k λ y _=>⟨b++y,rfl⟩
theorem O3 (P:aT->Prop):Lx P [] []:=λ y _=>⟨[],λ ps2 q hr=>hr,rfl⟩
theorem gH:Lx GY [32] []:=λ y _=>⟨[],λ ps2 q hr=>Ki.start hr (by show bG false (32::y)=bG false y;simp[bG,cG]),rfl⟩
variable{w:Wd}
theorem Ae(h:∀y,P y->dF (a++y)=.ok (w,y)/\bG false (a++y)=a++y)(h0:a≠ []):Lx P a [w]:=λ y hy=>by
 obtain⟨h1,h2⟩:=h y hy
 match a,h0 with
 | c::r,_=>exact⟨[(w,((c::r)++y).length)],λ ps2 q hr=>Ki.step h2 h1 hr,rfl⟩
variable{y:aT}
theorem Af(h:kN y)(p:UInt8->Bool)(h1:p 32=false)(h2:p 40=false)(h3:p 41=false)(h4:p 44=false):y.head?.any p=false:=by
 cases y with
 | nil=>rfl
 | cons c r=>rcases h c rfl with rfl | rfl | rfl | rfl <;> simpa
variable{d:UInt8}{s:aT}
theorem Mu{l:aT}(hd:bB d=true)(hw:∀x∈d::l,cj x=true)(Sj:(d::l).map nY=s)(hlen:(d::l).length<=32):Lx kN (d::l) [wW s]:=
 Ae (λ y hy=>by
  obtain⟨t1,t2⟩:=CZ (p:=cj) (b:=d::l) (x:=y) hw (Af hy cj Tac Tac Tac Tac)
  refine⟨?_,EK hd⟩
  rw[cons_append] at t1 t2 ⊢
  simp only[dF,if_pos hd]
  rw[t1,t2,if_pos hlen,Sj]
  rfl) Tae
def kwB (t s:aT):Bool:=match t with
 | []=>false
 | d::l=>bB d &&(d::l).all cj &&(d::l).map nY==s && decide ((d::l).length<=32)
theorem pz{t:aT}(h:kwB t s=true):Lx kN t [wW s]:=by
 match t,h with
 | d::l,h=>simp only[kwB,Bool.and_eq_true,beq_iff_eq,decide_eq_true_eq,all_eq_true] at h;exact Mu h.1.1.1 h.1.1.2 h.1.2 h.2
theorem Oz(h:wF c=false):nY c=c:=by unfold nY;rw[h];rfl
theorem Mv(h:pg s=true):Lx kN s [wW s]:=by
 match s,h with
 | c::r,h=>
   simp only[pg,Bool.and_eq_true,decide_eq_true_eq,Bool.not_eq_true'] at h;obtain⟨⟨⟨h1,h2⟩,h3⟩,h4⟩:=h;have hall:∀x∈c::r,wF x=false/\cj x=true:=λ x hx=>by have:=List.all_eq_true.1 h4 x hx;simpa using this
   have hc:bB c=true:=by have:=(hall c mem_cons_self).2;simpa [cj,h3] using this
   refine Mu hc (λ x hx=>(hall x hx).2) ?_ h1;have:(c::r).map nY=(c::r).map id:=map_congr_left λ x hx=>Oz (hall x hx).1
   rw[this,map_id]
theorem Xi:∀n:Nat,Lib.decDigits n=Gb n:=λ n=>by
 induction n using Nat.strongRecOn with
 | _ n ih=>
   rw[Lib.decDigits,Gb];split
   ·rfl
   ·rw[ih (n / 10) Taa]
variable{n:Int}
theorem Sr(h0:0<=n)(h1:n<=9223372036854775807):Lx kN (Lib.itoa n) [⟨2,[],n⟩]:=by
 obtain⟨k,rfl⟩:=Int.eq_ofNat_of_zero_le h0;have hi:Lib.itoa (k:Int)=Gb k:=by unfold Lib.itoa;rw[if_neg Taa,Xi];rfl
 rw[hi];obtain⟨e1,e2,e3,_,_⟩:=GX k;have hn:=Xh (n:=k) Taa;refine Ae (λ y hy=>?_) e3;obtain⟨t1,t2⟩:=CZ (p:=aH) (b:=Gb k) (x:=y) e2 (Af hy aH Tac Tac Tac Tac)
 cases hd:Gb k with
 | nil=>exact absurd hd e3
 | cons c r=>
   rw[hd] at t1 t2 e1 e2 hn;have hc:aH c=true:=e2 c Tae
   have hl:bB c=false:=by
    cases hlt:bB c
    ·rfl
    ·rw[EJ hlt] at hc;cases hc
   refine⟨?_,?_⟩
   ·rw[cons_append] at t1 t2 ⊢;simp only[dF,hl,hc,if_true];rw[t1,t2,hn,e1];rw[Af hy bB Tac Tac Tac Tac];rfl
   ·rw[cons_append];refine qm ?_ ?_
    ·cases hb:cG c
     ·rfl
     ·rcases rQ hb with rfl | rfl | rfl | rfl <;> cases hc
    ·rintro rfl;cases hc
theorem Mw:∀s:aT,FZ s=Cl s
 | []=>rfl
 | c::r=>by simp only[FZ,Cl,Mw r]
theorem Xj (s:aT):Lx kN (39::(FZ s++ [39])) [⟨3,s,0⟩]:=by
 rw[Mw];refine Ae (λ y hy=>⟨?_,?_⟩) Tae
 ·have ahC:y.head?≠some 39:=λ e=>by rcases hy 39 e with h | h | h | h <;> cases h
  have:=Ad ahC s [];show dF (39::((Cl s++ [39])++y))=_;rw[append_assoc];show dF (39::(Cl s++39::y))=_;simp only[dF];rw[if_neg Tac,if_neg Tac,if_pos trivial]
  cases ht:fJ (Cl s++39::y)with
  | none=>rw[ht] at this;simp[more] at this
  | some x=>obtain⟨t,rest⟩:=x;rw[ht] at this;simp[more] at this;obtain⟨rfl,rfl⟩:=this;rfl
 ·exact qm Tac Tac
theorem vy(hc:c=40\/c=41\/c=44\/c=42):Lx GY [c] [sW [c]]:=by
 refine Ae (λ y _=>⟨?_,?_⟩) Tae
 ·rcases hc with rfl | rfl | rfl | rfl <;> rfl
 ·rcases hc with rfl | rfl | rfl | rfl <;> exact qm Tac Tac
theorem Mx(hs:s∈signs):Lx Ko s [sW s]:=by
 have h:=List.all_eq_true.1 Kn s hs
 match s,h with
 | c::l,h=>
   simp only[Bool.and_eq_true,Bool.not_eq_true',beq_eq_false_iff_ne,ne_eq] at h;obtain⟨⟨⟨h1,h2⟩,h3⟩,h4⟩:=h;refine Ae (λ y hy=>?_) Tae;obtain⟨r,rfl⟩:=hy;have Zi:=Sc hs (x:=32::r) (.inr ⟨32,r,rfl,rfl⟩);refine⟨?_,?_⟩
   ·rw[cons_append] at Zi ⊢;simp only[dF,h1,h2,if_neg h3];rw[Zi];simp[sW]
   ·rw[cons_append];by_cases Oy:c=45
    ·subst Oy;rcases Sd hs with ⟨d,hd⟩|⟨d,e,hd⟩
     ·injection hd with _ hd;subst hd;rfl
     ·exfalso;injection hd with hd1 wy;subst hd1 wy;revert hs;simp[signs]
    ·exact qm h4 Oy
def OA (v:Val):Wd:=if v.k=0 then wW bE else if v.k=1 then(if v.n=1 then wW dZ else wW dI)else if v.k=2 then⟨2,[],v.n⟩else⟨3,v.s.data.toList,0⟩
def cU:List aF->aF
 | []=> []
 | x::l=>x++(match l with | []=> [] | y::r=>sW [44]::cU (y::r))
theorem pA (x:aF):cU [x]=x:=by simp[cU]
theorem uq (x y:aF)(l:List aF):cU (x::y::l)=x++sW [44]::cU (y::l):=by rw[cU]
def fj (a:Int×aF):aF:=if ix a.1 then [sW [40]]++(a.2++ [sW [41]])else a.2
def vz (op:Int):Wd:=if op=16 then wW GH else if op=17 then wW RP else sW (oO op)
def wX (op width:Int):aF:=[wW (mL op).1,sW [40]]++(if op=20 then [⟨2,[],width⟩,sW [44]] else [])
def Ag (op:Int)(v:Val)(name:ByteArray)(width:Int)(l:List (Int×aF)):aF:=
 if op=1 then [OA v]
 else if op=2 then [wW name.data.toList]
 else if op=21 then [wW vo,sW [40],sW [42],sW [41]]
 else if cT op then match l with
  | [x,y]=>fj x++([vz op]++fj y)
  | _=> []
 else if op=3 then match l with
  | [x]=> [sW [45]]++fj x
  | _=> []
 else if op=4 then match l with
  | [x]=> [wW dT]++fj x
  | _=> []
 else if op=18 then match l with
  | [x]=>fj x++ [wW kH,wW bE]
  | _=> []
 else if op=19 then match l with
  | [x]=>fj x++ [wW kH,wW dT,wW bE]
  | _=> []
 else wX op width++(cU (l.map (·.2))++ [sW [41]])
mutual
def Tr.words:Tr->aF
 | .mk op v name width args=>Ag op v name width (Tr.ur args)
def Tr.ur:List Tr->List (Int×aF)
 | []=> []
 | t::ts=>(t.op,t.words)::Tr.ur ts
end
theorem Ah:∀ts:List Tr,Tr.ur ts=ts.map λ t=>(t.op,t.words)
 | []=>rfl
 | t::ts=>by simp[Tr.ur,Ah ts]
theorem cH{o p:Option aT} (h:aq o p=some a):∃x y,o=some x/\p=some y/\a=x++y:=by cases o <;> cases p <;> simp[aq] at h;exact⟨_,_,rfl,rfl,h.symm⟩
theorem kY{b:Bool} (h:bc b=some a):b=true/\a=[]:=by cases b <;> simp[bc] at h;exact⟨rfl,h⟩
def uR (o:Option aT)(ws:aF):Prop:=∀t,o=some t->Lx kN t ws
variable{op:Int}{ws:aF}
theorem wY{o:Option aT} (h:uR o ws):uR (jt (op,o)) (fj (op,ws)):=by
 intro t ht;unfold jt fj at*;dsimp only at ht ⊢;by_cases hl:ix op=true;rotate_left
 ·rw[if_neg hl] at ht ⊢;exact h t ht
 ·rw[if_pos hl] at ht ⊢;obtain⟨x,y0,hx,hy0,rfl⟩:=cH ht;obtain⟨y,z,hy,hz,rfl⟩:=cH hy0;cases hx;cases hz;exact(vy (.inl rfl)).any ((h y hy).stop (.inr (.inr (.inl rfl))) ((vy (.inr (.inl rfl))).weak λ _ _=>trivial))
theorem My:∀ {l:List (Option aT)} {m:List aF},fS uR l m->uR (dE l) (cU m)
 | [],[],_,t,ht=>by cases ht;exact O3 _
 | [o],[w],h,t,ht=>by
   cases h with
   | cons a _=>rw[na] at ht;rw[pA];exact a t ht
 | o::p::l,w::x::m,h,t,ht=>by
   cases h with
   | cons a b=>rw[nA] at ht;rw[uq];obtain⟨y,z0,hy,hz0,rfl⟩:=cH ht;obtain⟨c,z,hc,hz,rfl⟩:=cH hz0;cases hc;have ih:=My b z hz;exact(a y hy).stop (.inr (.inr (.inr rfl))) ((vy (.inr (.inr (.inl rfl)))).any (gH.any ih))
 | [_],_::_::_,h,_,_=>by cases h with | cons _ b=>cases b
 | _::_::_,[_],h,_,_=>by cases h with | cons _ b=>cases b
 | [],_::_,h,_,_=>by cases h
 | _::_,[],h,_,_=>by cases h
theorem O4{v:Val}(hg:good v=true)(hn:v.k≠2\/0<=v.n)(hv:v.n<=9223372036854775807):Lx kN (lX v) [OA v]:=by
 unfold lX OA;rw[if_pos hg];by_cases h0:v.k=0
 ·rw[if_pos h0,if_pos h0];exact pz Tac
 rw[if_neg h0,if_neg h0];by_cases h1:v.k=1
 ·rw[if_pos h1,if_pos h1];split
  ·exact pz Tac
  ·exact pz Tac
 rw[if_neg h1,if_neg h1];by_cases h2:v.k=2
 ·rw[if_pos h2,if_pos h2];exact Sr (hn.resolve_left λ h=>h h2) hv
 ·rw[if_neg h2,if_neg h2];exact Xj _
theorem O5(h:cT op=true):Lx Ko (oO op) [vz op]:=by
 unfold cT at h;simp only[Bool.and_eq_true,decide_eq_true_eq] at h;obtain rfl | rfl | rfl | rfl | rfl | rfl | rfl | rfl | rfl | rfl | rfl | rfl | rfl:op=5\/op=6\/op=7\/op=8\/op=9\/op=10\/op=11\/op=12\/op=13\/op=14\/op=15\/op=16\/op=17:=by omega
 case inr.inr.inr.inr.inr.inr.inr.inr.inr.inr.inr.inl=>exact(pz Tac).weak λ y ⟨r,hr⟩ c hc=>by subst hr;injection hc with hc;exact .inl hc.symm
 case inr.inr.inr.inr.inr.inr.inr.inr.inr.inr.inr.inr=>exact(pz Tac).weak λ y ⟨r,hr⟩ c hc=>by subst hr;injection hc with hc;exact .inl hc.symm
 all_goals exact Mx Tac
theorem acr(h:jV op=true):Lx kN (mL op).1 [wW (mL op).1]:=by
 unfold jV at h;simp only[Bool.or_eq_true,Bool.and_eq_true,decide_eq_true_eq,beq_iff_eq] at h;obtain rfl | rfl | rfl | rfl | rfl | rfl | rfl | rfl:op=20\/op=22\/op=23\/op=24\/op=25\/op=26\/op=27\/op=28:=by omega
 all_goals exact pz Tac
variable{f:Int×Option aT->Int×Option aT->Option aT}{g:Int×aF->Int×aF->aF}
theorem O6(hfg:∀x o w y p u,uR o w->uR p u->uR (f (x,o) (y,p)) (g (x,w) (y,u))):∀ {l:List (Int×Option aT)} {m:List (Int×aF)},fS (λ a b=>a.1=b.1/\uR a.2 b.2) l m->uR (match l with | [x,y]=>f x y | _=>none) (match m with | [x,y]=>g x y | _=> [])
 | [(x,o),(y,p)],_,.cons (y:=(x',w)) h1 (.cons (y:=(y',u)) h2 .nil),t,ht=>by obtain⟨e1,h1⟩:=h1;obtain⟨e2,h2⟩:=h2;dsimp only at e1 h1 e2 h2;subst e1 e2;exact hfg _ _ _ _ _ _ h1 h2 t ht
 | [],_,_,t,ht=>by cases ht
 | [_],_,_,t,ht=>by cases ht
 | _::_::_::_,_,_,t,ht=>by cases ht
theorem Mz{f:Int×Option aT->Option aT} {g:Int×aF->aF}(hfg:∀x o w,uR o w->uR (f (x,o)) (g (x,w))):∀ {l:List (Int×Option aT)} {m:List (Int×aF)},fS (λ a b=>a.1=b.1/\uR a.2 b.2) l m->uR (match l with | [x]=>f x | _=>none) (match m with | [x]=>g x | _=> [])
 | [(x,o)],_,.cons (y:=(x',w)) h1 .nil,t,ht=>by obtain⟨e1,h1⟩:=h1;dsimp only at e1 h1;subst e1;exact hfg _ _ _ h1 t ht
 | [],_,_,t,ht=>by cases ht
 | _::_::_,_,_,t,ht=>by cases ht
theorem ahE (op:Int)(v:Val)(name:ByteArray)(width:Int)(l:List (Int×Option aT))(m:List (Int×aF))(hlm:fS (λ a b=>a.1=b.1/\uR a.2 b.2) l m)(hw:width<=9223372036854775807)(hv:v.n<=9223372036854775807):uR (nC op v name width l) (Ag op v name width m):=by
 have kn:Lx kN [78,85,76,76] [wW bE]:=pz Tac;unfold nC Ag;by_cases h1:op=1
 ·rw[if_pos h1,if_pos h1];intro a ha;obtain⟨x,y,hx,hy,rfl⟩:=cH ha;obtain⟨hb,rfl⟩:=kY hx;cases hy;simp only[Bool.and_eq_true,Bool.or_eq_true,decide_eq_true_eq,bne_iff_ne] at hb;exact O4 hb.2.2.2.1 hb.2.2.2.2 hv
 rw[if_neg h1,if_neg h1];by_cases h2:op=2
 ·rw[if_pos h2,if_pos h2];intro a ha;obtain⟨x,y,hx,hy,rfl⟩:=cH ha;obtain⟨_,rfl⟩:=kY hx;unfold cS at hy;obtain⟨x2,y2,hx2,OB,rfl⟩:=cH hy;obtain⟨hb2,rfl⟩:=kY hx2;cases OB;exact Mv hb2
 rw[if_neg h2,if_neg h2];by_cases Xk:op=21
 ·rw[if_pos Xk,if_pos Xk];intro a ha;obtain⟨x,y,hx,hy,rfl⟩:=cH ha;obtain⟨_,rfl⟩:=kY hx;cases hy;exact((pz (t:=[99,111,117,110,116]) (s:=vo) Tac).stop (b:=[42,41]) (c:=40) (.inr (.inl rfl)) ((vy (c:=40) (.inl rfl)).any ((vy (c:=42) (.inr (.inr (.inr rfl)))).any ((vy (c:=41) (.inr (.inl rfl))).weak (Q:=kN) λ _ _=>trivial))))
 rw[if_neg Xk,if_neg Xk];by_cases h3:cT op=true
 ·rw[if_pos h3,if_pos h3];refine O6 (f:=λ x y=>if bu v name width then aq (jt x) (aq (some (32::(oO op++ [32]))) (jt y))else none) (g:=λ x y=>fj x++([vz op]++fj y)) (λ x o w y p u k1 k2 t ht=>?_) hlm;split at ht
  ·obtain⟨a1,a2,e1,e2,rfl⟩:=cH ht;obtain⟨a3,a4,e3,e4,rfl⟩:=cH e2;cases e3;have:=(wY (op:=x) k1 a1 e1).stop (.inl rfl) (gH.any ((O5 h3).blank (gH.any (wY (op:=y) k2 a4 e4))));exact Zep
  ·cases ht
 rw[if_neg h3,if_neg h3];by_cases h4:op=3
 ·rw[if_pos h4,if_pos h4];refine Mz (f:=λ x=>if bu v name width then aq (some [45,32]) (jt x)else none) (g:=λ x=> [sW [45]]++fj x) (λ x o w h t ht=>?_) hlm;split at ht
  ·obtain⟨a1,a2,e1,e2,rfl⟩:=cH ht;cases e1;have:=(Mx (s:=[45]) Tac).blank (gH.any (wY (op:=x) h a2 e2));exact Zep
  ·cases ht
 rw[if_neg h4,if_neg h4];by_cases h5:op=4
 ·rw[if_pos h5,if_pos h5];refine Mz (f:=λ x=>if bu v name width then aq (some [78,79,84,32]) (jt x)else none) (g:=λ x=> [wW dT]++fj x) (λ x o w h t ht=>?_) hlm;split at ht
  ·obtain⟨a1,a2,e1,e2,rfl⟩:=cH ht;cases e1;have:=(pz (t:=[78,79,84]) (s:=dT) Tac).stop (.inl rfl) (gH.any (wY (op:=x) h a2 e2));exact Zep
  ·cases ht
 rw[if_neg h5,if_neg h5];by_cases Oo:op=18
 ·rw[if_pos Oo,if_pos Oo];refine Mz (f:=λ x=>if bu v name width then aq (jt x) (some [32,73,83,32,78,85,76,76])else none) (g:=λ x=>fj x++ [wW kH,wW bE]) (λ x o w h t ht=>?_) hlm;split at ht
  ·obtain⟨a1,a2,e1,e2,rfl⟩:=cH ht;cases e2;have:=(wY (op:=x) h a1 e1).stop (.inl rfl) (gH.any ((pz (t:=[73,83]) (s:=kH) Tac).stop (.inl rfl) (gH.any kn)));exact Zep
  ·cases ht
 rw[if_neg Oo,if_neg Oo];by_cases Oq:op=19
 ·rw[if_pos Oq,if_pos Oq];refine Mz (f:=λ x=>if bu v name width then aq (jt x) (some [32,73,83,32,78,79,84,32,78,85,76,76])else none) (g:=λ x=>fj x++ [wW kH,wW dT,wW bE]) (λ x o w h t ht=>?_) hlm;split at ht
  ·obtain⟨a1,a2,e1,e2,rfl⟩:=cH ht;cases e2;have:=(wY (op:=x) h a1 e1).stop (.inl rfl) (gH.any ((pz (t:=[73,83]) (s:=kH) Tac).stop (.inl rfl) (gH.any ((pz (t:=[78,79,84]) (s:=dT) Tac).stop (.inl rfl) (gH.any kn)))));exact Zep
  ·cases ht
 rw[if_neg Oq,if_neg Oq];intro a ha;by_cases hf:(jV op && l.length==(mL op).2)=true
 ·rw[if_pos hf] at ha;simp only[Bool.and_eq_true] at hf;obtain⟨a1,b1,e1,f1,rfl⟩:=cH ha;obtain⟨_,rfl⟩:=kY e1;obtain⟨a2,b2,e2,f2,rfl⟩:=cH f1;cases e2;obtain⟨a3,b3,e3,f3,rfl⟩:=cH f2;obtain⟨a4,b4,e4,f4,rfl⟩:=cH f3;cases f4
  have hj:fS uR (l.map (·.2)) (m.map (·.2)):=by
   clear ha e4 f1 f2 f3 hf
   induction hlm with
   | nil=>exact .nil
   | cons p _ ih=>exact .cons p.2 ih
  have k4:=(My hj a4 e4).stop (b:=[]) (c:=41) (.inr (.inr (.inl rfl))) ((vy (c:=41) (.inr (.inl rfl))).weak (Q:=kN) λ _ _=>trivial);have k1:=λ {b:aT} {u:aF} (k:Lx kN b u)=>(acr hf.1).stop (c:=40) (.inr (.inl rfl)) ((vy (c:=40) (.inl rfl)).any k)
  unfold wX;by_cases Kq:op=20
  ·rw[if_pos Kq] at e3 ⊢;obtain⟨c1,c2,g1,g2,rfl⟩:=cH e3;cases g2;unfold vq at g1;obtain⟨d1,d2,i1,i2,rfl⟩:=cH g1;obtain⟨j1,rfl⟩:=kY i1;cases i2;have:=k1 ((Sr (of_decide_eq_true j1) hw).stop (.inr (.inr (.inr rfl))) ((vy (c:=44) (.inr (.inr (.inl rfl)))).any (gH.any k4)));exact Zep
  ·rw[if_neg Kq] at e3 ⊢;cases e3;have:=k1 k4;exact Zep
 ·rw[if_neg hf] at ha;cases ha
mutual
theorem Tr.lex:∀t:Tr,t.fine->uR t.out t.words
 | .mk op v name width args,h=>by unfold Tr.fine at h;unfold Tr.out Tr.words;exact ahE op v name width _ _ (Tr.acs args h.2) h.1.2.2.2.2 h.1.1.2
theorem Tr.acs:∀ts:List Tr,Tr.rP ts->fS (λ a b=>a.1=b.1/\uR a.2 b.2) (Tr.outs ts) (Tr.ur ts)
 | [],_=> .nil
 | t::ts,h=>by unfold Tr.rP at h;unfold Tr.outs Tr.ur;exact .cons ⟨rfl,Tr.lex t h.1⟩ (Tr.acs ts h.2)
end
def acw (b:aT):Prop:=∀y,kN y->kN (b++y)
theorem O9(hc:c=32\/c=40\/c=41\/c=44):acw (c::b):=λ y _ d hd=>by simp only[cons_append,head?_cons,Option.some.injEq] at hd;subst hd;exact hc
def LxQ (o:Option aT)(ws:aF):Prop:=∀t,o=some t->Lx kN t ws/\acw t
theorem uR.add{o p:Option aT} (h:uR o u)(k:LxQ p v):uR (aq o p) (u++v):=λ t ht=>by obtain⟨x,y,hx,hy,rfl⟩:=cH ht;obtain⟨k1,k2⟩:=k y hy;exact(h x hx).app k1 k2
theorem uR.pre{c:aT} {p:Option aT} (h:Lx GY c u)(k:uR p v):uR (aq (some c) p) (u++v):=λ t ht=>by obtain⟨x,y,hx,hy,rfl⟩:=cH ht;cases hx;exact h.any (k y hy)
theorem LxQ.pre{p:Option aT} (hc:c=32\/c=40\/c=41\/c=44)(h:Lx GY (c::b) u)(k:uR p v):LxQ (aq (some (c::b)) p) (u++v):=λ t ht=>by have:=(uR.pre h k) t ht;obtain⟨x,y,hx,hy,rfl⟩:=cH ht;cases hx;exact⟨this,O9 hc⟩
theorem SF (s:ByteArray):uR (cS s) [wW s.data.toList]:=λ t ht=>by unfold cS at ht;obtain⟨x,y,hx,hy,rfl⟩:=cH ht;obtain⟨hb,rfl⟩:=kY hx;cases hy;exact Mv hb
theorem Zs{t:aT}(h:kwB t s=true):Lx GY (t++ [32]) [wW s]:=by have:=(pz h).app gH (λ y _ c hc=>by cases hc;exact .inl rfl);exact Zep
theorem ahF(h:Lx GY a u):Lx GY (32::a) u:=by simpa using gH.any h
variable{t:Tr}
theorem Ar(h:t.fine):uR t.whole t.words:=λ a ha=>by
 unfold Tr.whole at ha;split at ha
 ·cases ha
 ·exact Tr.lex t h a ha
def xU (x:Tr×ByteArray):aF:=x.1.words++(if x.2.toList=[] then [] else [wW lZ]++ [wW x.2.data.toList])
def uu (x:Tr×Bool):aF:=x.1.words++(if x.2 then [wW mo] else [])
def fP (s:aT)(l:List Tr):aF:=match l with
 | []=> []
 | t::_=> [wW s]++t.words
def rS (lead:aF)(l:List aF):aF:=if l.length=0 then [] else lead++cU l
def xd (l:List Int):aF:=match l with
 | []=> []
 | n::_=> [wW jf]++ [⟨2,[],n⟩]
def SG (q:Qu):aF:=fP cV q.aP++(rS ([wW iE]++ [wW mJ]) (q.group.map Tr.words)++(fP lY q.having++(rS ([wW iF]++ [wW mJ]) (q.order.map uu)++xd q.aQ)))
def mv (q:Qu):aF:=[wW cA]++((if q.items.length=0 then [sW [42]] else cU (q.items.map xU))++([wW bZ]++((if q.only then [wW js] else [])++([wW q.aN.data.toList]++SG q))))
def Zt (t:Int):aT:=if t=1 then uk else if t=2 then zS else wK
def Kz (c:ByteArray×Int):aF:=[wW c.1.data.toList]++ [wW (Zt c.2)]
def EY (x:ByteArray×Tr):aF:=[wW x.1.data.toList]++([sW [61]]++x.2.words)
def Hi (l:List Tr):aF:=[sW [40]]++(cU (l.map Tr.words)++ [sW [41]])
def vH (k:Int):aT:=if k=9 then bO else if k=10 then bJ else fT
def oQ (k:Int):aT:=if k=1 then cm else if k=2 then dc else gR
def nL (k:Int):aT:=if k=9 then bO else if k=10 then bJ else if k=11 then dn else eo
def nW (n:Int):Wd:=⟨2,[],n⟩
def Au (v:Val):aF:=if v.k=0 then [wW bE] else if v.n < 0 then [sW [45],nW (-v.n)] else [nW v.n]
def Av (s:St):aF:=
 if s.kind=1 then [wW eN]++ [wW cm]++([wW s.name.data.toList]++([sW [40]]++(cU (s.aY.map Kz)++([sW [41]]++ [wW kR]++([wW s.time.data.toList]++([wW cd]++([nW s.every]++(if s.space.toList=[] then [] else [wW jD]++([wW s.space.data.toList]++([wW eP]++ [nW s.parts]))))))))))
 else if s.kind=3 then [wW eN]++ [wW gR]++([wW s.name.data.toList]++([wW (vH s.what)]++([wW s.cI.data.toList]++((if s.what=9 then [wW bZ]++([nW s.a]++([wW Cb]++ [nW s.b]))else [wW fq]++ [nW s.a])++([wW cd]++ [nW s.every])))))
 else if s.kind=2 then [wW eN]++ [wW dc]++([wW s.name.data.toList]++([wW lZ]++mv s.query))
 else if s.kind=4 then [wW fT]++ [wW (oQ s.what)]++ [wW s.name.data.toList]
 else if s.kind=5 then [wW gD]++ [wW eP]++([wW s.name.data.toList]++([wW iQ]++cU (s.rows.map Hi)))
 else if s.kind=6 then [wW gF]++([wW s.name.data.toList]++([wW rL]++(cU (s.bF.map EY)++fP cV s.aP)))
 else if s.kind=7 then [wW fL]++ [wW bZ]++([wW s.name.data.toList]++fP cV s.aP)
 else if s.kind=8 then mv s.query
 else [wW kQ]++ [wW (nL s.kind)]++ [sW [40]]++([wW s.name.data.toList]++([sW [44]]++((if s.kind=9 then Au s.aN++ [sW [44]] else [])++(Au s.dH++ [sW [41]]))))
theorem aD (a b:Option aT):(aq a b).isSome=(a.isSome && b.isSome):=by cases a <;> cases b <;> rfl
theorem aV (b:Bool):(bc b).isSome=b:=by cases b <;> rfl
theorem wR:∀l:List (Option aT),(dE l).isSome=l.all (·.isSome)
 | []=>rfl
 | [o]=>by rw[na];simp
 | o::p::l=>by rw[nA,aD,aD,wR (p::l)];simp
theorem gG (l:List (Option aT))(h:(dt l).isSome=true):∀o∈l,o.isSome=true:=by unfold dt at h;rw[aD,wR,Bool.and_eq_true,all_eq_true] at h;exact h.2
theorem kW(h:t.whole.isSome=true):t.depth<=32:=by
 unfold Tr.whole at h;split at h
 ·cases h
 ·omega
theorem GL{l:List Tr}(h:(dt (l.map Tr.whole)).isSome=true):∀t∈l,t.depth<=32:=λ t ht=>kW (gG _ h _ (List.mem_map.2 ⟨t,ht,rfl⟩))
variable{word:aT}
theorem ow{l:List Tr}(h:(eQ word l).isSome=true):∀t∈l,t.depth<=32:=by
 unfold eQ at h;rw[aD,aV,Bool.and_eq_true,decide_eq_true_eq] at h;intro t ht
 match l,h,ht with
 | [u],h,ht=>simp only[mem_singleton] at ht;subst ht;have:=h.2;rw[aD,Bool.and_eq_true] at this;exact kW this.2
variable{lead:aT}
theorem wT{l:List (Option aT)}(h:(jm lead l).isSome=true):∀o∈l,o.isSome=true:=by
 unfold jm at h;split at h
 ·rename_i e;intro o ho;rw[List.length_eq_zero_iff.1 e] at ho;cases ho
 ·rw[aD,Bool.and_eq_true] at h;exact gG _ h.2
variable{q:Qu}
theorem zX(h:(jG q).isSome=true):∀t∈q.exprs,t.depth<=32:=by
 unfold jG at h;simp only[aD,Bool.and_eq_true] at h;obtain⟨-,hi, -, -, -,hw,hg,hh,ho, -⟩:=h;unfold Qu.exprs;intro t ht;simp only[mem_append,mem_map] at ht;rcases ht with (((⟨x,hx,rfl⟩| ht)| ht)| ht)|⟨x,hx,rfl⟩
 ·have h0:¬q.items.length=0:=by intro e;rw[List.length_eq_zero_iff.1 e] at hx;cases hx
  rw[if_neg h0] at hi;have:=gG _ hi _ (List.mem_map.2 ⟨x,hx,rfl⟩);unfold ou at this;rw[aD,Bool.and_eq_true] at this;exact kW this.1
 ·exact ow hw t ht
 ·exact kW (wT hg _ (List.mem_map.2 ⟨t,ht,rfl⟩))
 ·exact ow hh t ht
 ·have:=wT ho _ (List.mem_map.2 ⟨x,hx,rfl⟩);unfold kr at this;rw[aD,Bool.and_eq_true] at this;exact kW this.1
theorem Oi(h:WW q=true):q.exprs=[]:=by unfold WW at h;simp only[Bool.and_eq_true,decide_eq_true_eq] at h;have h:=h.1;unfold Qu.exprs;have e1:q.items=[]:=List.length_eq_zero_iff.1 Taa;have e2:q.aP=[]:=List.length_eq_zero_iff.1 Taa;have e3:q.group=[]:=List.length_eq_zero_iff.1 Taa;have e4:q.having=[]:=List.length_eq_zero_iff.1 Taa;have e5:q.order=[]:=List.length_eq_zero_iff.1 Taa;rw[e1,e2,e3,e4,e5];rfl
variable{j e:Bool}
theorem gX{s:St} {c q w r u h t:Bool}(hl:dv s c q j w e r u h t=true)(hq:q=true->∀x∈s.query.exprs,x.depth<=32)(hr:r=true->∀l∈s.rows,∀x∈l,x.depth<=32)(hu:u=true->∀x∈s.bF,x.2.depth<=32)(hh:h=true->∀x∈s.aP,x.depth<=32):∀x∈s.exprs,x.depth<=32:=by
 unfold dv at hl;simp only[Bool.and_eq_true,Bool.or_eq_true,beq_iff_eq] at hl;obtain⟨⟨⟨⟨⟨⟨⟨⟨-, -⟩,l1⟩, -⟩, -⟩,l2⟩,l3⟩,l4⟩, -⟩:=hl;intro x hx;unfold St.exprs at hx;simp only[mem_append,mem_map,mem_flatten] at hx;rcases hx with ((⟨l,hl,hx⟩|⟨y,hy,rfl⟩)| hx)| hx
 ·rcases l2 with l2 | l2
  ·exact hr l2 l hl x hx
  ·rw[List.length_eq_zero_iff.1 l2] at hl;cases hl
 ·rcases l3 with l3 | l3
  ·exact hu l3 y hy
  ·rw[List.length_eq_zero_iff.1 l3] at hy;cases hy
 ·rcases l4 with l4 | l4
  ·exact hh l4 x hx
  ·rw[List.length_eq_zero_iff.1 l4] at hx;cases hx
 ·rcases l1 with l1 | l1
  ·exact hq l1 x hx
  ·rw[Oi l1] at hx;cases hx
theorem Oj{s:St}(h:(cB s).isSome=true):∀x∈s.exprs,x.depth<=32:=by
 unfold cB at h;have no:∀ {P:Prop},false=true->P:=λ e=>by cases e
 split at h
 ·unfold oP at h;exact ZeH
 split at h
 ·unfold Ce at h;exact ZeH
 split at h
 ·simp only[aD,aV,Bool.and_eq_true] at h;exact gX h.1 (λ _=>zX h.2.2.2.2) no no no
 split at h
 ·simp only[aD,aV,Bool.and_eq_true] at h;exact gX h.1.2 no no no no
 split at h
 ·simp only[aD,aV,Bool.and_eq_true] at h;refine gX h.1 no (λ _ l hl=>?_) no no;have:=gG _ h.2.2.2.2 _ (List.mem_map.2 ⟨l,hl,rfl⟩);unfold Cc at this;simp only[aD,Bool.and_eq_true] at this;exact GL this.2.1
 split at h
 ·simp only[aD,aV,Bool.and_eq_true] at h;refine gX h.1 no no (λ _ x hx=>?_) (λ _=>ow h.2.2.2.2.2);have:=gG _ h.2.2.2.2.1 _ (List.mem_map.2 ⟨x,hx,rfl⟩);unfold EE at this;simp only[aD,Bool.and_eq_true] at this;exact kW this.2.2
 split at h
 ·simp only[aD,aV,Bool.and_eq_true] at h;exact gX h.1 no no no (λ _=>ow h.2.2.2)
 split at h
 ·simp only[aD,aV,Bool.and_eq_true] at h;exact gX h.1.1 (λ _=>zX h.2) no no no
 split at h
 ·exact ZeH
 ·cases h
theorem Jx{s:ByteArray}(h:s.toList=[]):s=ByteArray.empty:=by exact Zgm
theorem xc{v:Val}(h:nB v=true):v=bU:=by obtain⟨k,n,s⟩:=v;unfold nB at h;simp only[Bool.and_eq_true,beq_iff_eq] at h;obtain⟨h1,h2,h3⟩:=h;subst h1 h2;rw[Jx h3];rfl
variable{name:ByteArray}{width:Int}
theorem pI{v:Val}  (h:bu v name width=true):v=bU/\name=ByteArray.empty/\width=0:=by unfold bu at h;simp only[Bool.and_eq_true,beq_iff_eq] at h;exact⟨xc h.1,Jx h.2.1,h.2.2⟩
structure Ends (k:Nat) (r:aF):Prop where
 o:ar bp r=false
 e5:k<=5->eE (opsL 5) r=none
 e4:k<=4->eE (opsL 4) r=none
 e3:k<=3->eE (opsL 3) r=none/\ar kH r=false
 e1:k<=1->eE (opsL 1) r=none
 e0:k<=0->eE (opsL 0) r=none
variable{k:Nat}{r:aF}
theorem Ends.up{j:Nat} (h:Ends k r)(hk:k<=j):Ends j r:=⟨h.o,λ e=>h.e5 Taa,λ e=>h.e4 Taa,λ e=>h.e3 Taa,λ e=>h.e1 Taa,λ e=>h.e0 Taa⟩
structure tR (h:Wd):Prop where
 O7:fW dT h=false
 minus:fW dr h=false
 star:fW eK h=false
variable{below:Ps Tr}{l:aF}{x:Tr}
theorem jQ(hb:cC below)(lv:Nat)  (h:below l=.ok (x,r))(he:eE (opsL lv) r=none):jM below lv l=.ok (x,r):=by rw[ES,ag h,pH hb,he]
variable{same:Ps Tr}
theorem EU{s:List UInt8}    (hs:ar s l=false)(h:below l=.ok (x,r)):GI s op same below l=.ok (x,r):=by unfold GI;rw[bK];simp only[hs];exact h
theorem He(h:below l=.ok (x,r))(hi:ar kH r=false)(he:eE (opsL 3) r=none):qW below l=.ok (x,r):=by unfold qW;rw[ag h,bK];simp only[hi];unfold wO;simp[he]
variable{h:Wd}{tl:aF}
theorem acu(hA:tR h)(hE:Ends k r)(hx:aO (k+1) (h::tl)=.ok (x,r))(hk:k<=6):aO k (h::tl)=.ok (x,r):=by
 match k,hk with
 | 0,_=>rw[yZ];exact jQ (bR 1) 0 hx (hE.e0 (Nat.le_refl _))
 | 1,_=>rw[za];exact jQ (bR 2) 1 hx (hE.e1 (Nat.le_refl _))
 | 2,_=>rw[zb];exact EU hA.O7 hx
 | 3,_=>exact ZgE
 | 4,_=>rw[ze];exact jQ (bR 5) 4 hx (hE.e4 (Nat.le_refl _))
 | 5,_=>rw[zf];exact jQ (bR 6) 5 hx (hE.e5 (Nat.le_refl _))
 | 6,_=>rw[EP];exact EU hA.minus hx
theorem EW(hA:tR h) (hE:Ends k r):∀d,k+d<=7->aO (k+d) (h::tl)=.ok (x,r)->aO k (h::tl)=.ok (x,r)
 | 0,_,hx=>hx
 | d+1,hd,hx=>EW hA hE d Taa (acu hA (hE.up Taa) hx Taa)
theorem nK(hE:Ends 0 r) (hk:k<=6)(hn:2 < k->ar dT l=false)(hx:aO k l=.ok (x,r)):aO 0 l=.ok (x,r):=by
 have go:∀j,j < k->aO (j+1) l=.ok (x,r)->aO j l=.ok (x,r):=by
  intro j hj hx;have hE:=hE.up (Nat.zero_le j)
  match j,hj,hE with
  | 0,_,hE=>rw[yZ];exact jQ (bR 1) 0 hx (hE.e0 (Nat.le_refl _))
  | 1,_,hE=>rw[za];exact jQ (bR 2) 1 hx (hE.e1 (Nat.le_refl _))
  | 2,hj,hE=>rw[zb];exact EU (hn hj) hx
  | 3,_,hE=>exact ZgE
  | 4,_,hE=>rw[ze];exact jQ (bR 5) 4 hx (hE.e4 (Nat.le_refl _))
  | 5,_,hE=>rw[zf];exact jQ (bR 6) 5 hx (hE.e5 (Nat.le_refl _))
  | j+6,hj,_=>omega
 have all:∀d,d<=k->aO (k - d) l=.ok (x,r):=by
  intro d
  induction d with
  | zero=>intro _;exact hx
  | succ d ih=>intro hd;have:=ih Taa;refine go _ Taa ?_;rw[show k - (d+1)+1=k - d by omega];exact this
 have:=all k (Nat.le_refl _);rwa [Nat.sub_self] at this
structure Rd (t:Tr):Prop where
 top:∀r,Ends 0 r->aO 0 (t.words++r)=.ok (t,r)
 arg:∀r,ar bp r=false->aO 7 (fj (t.op,t.words)++r)=.ok (t,r)
 ah:∃h tl,fj (t.op,t.words)=h::tl/\tR h
 th:∃h tl,t.words=h::tl/\fW eK h=false
theorem qu (r:aF)(k:Nat):Ends k (sW [41]::r):=⟨rfl,λ _=>rfl,λ _=>rfl,λ _=>⟨rfl,rfl⟩,λ _=>rfl,λ _=>rfl⟩
theorem bX{s:List UInt8} {t:Wd} (h:fW s t=true):must s (t::r)=.ok ((),r):=by unfold must;rw[if_pos (show ar s (t::r)=true from h)];rfl
theorem Rd.rR(hl:ix t.op=true)(top:∀r,Ends 0 r->aO 0 (t.words++r)=.ok (t,r))(th:∃h tl,t.words=h::tl/\fW eK h=false):Rd t:=by
 have ea:fj (t.op,t.words)=sW [40]::(t.words++ [sW [41]]):=by unfold fj;rw[if_pos hl];rfl
 refine⟨top,λ r hr=>?_,⟨_,_,ea,⟨rfl,rfl,rfl⟩⟩,th⟩;rw[ea,vD];show ek (aO 0) (sW [40]::((t.words++ [sW [41]])++r))=_;have e:(t.words++ [sW [41]])++r=t.words++(sW [41]::r):=by simp
 rw[e];unfold ek;dsimp only;rw[if_neg Tac,if_neg Tac,if_neg Tac,if_neg Tac,if_neg Tac,if_pos Tac];rw[ag (top _ (qu r 0)),ag (bX Tac)];rfl
theorem Rd.zg(hl:ix t.op=false)(Zr:∀r,ar bp r=false->aO 7 (t.words++r)=.ok (t,r))(hh:∃h tl,t.words=h::tl/\tR h):Rd t:=by
 have ea:fj (t.op,t.words)=t.words:=by unfold fj;simp[hl]
 obtain⟨h,tl,e,hA⟩:=hh;refine⟨λ r hr=>?_,λ r hr=>by rw[ea];exact Zr r hr,⟨h,tl,by rw[ea];exact e,hA⟩,⟨h,tl,e,hA.star⟩⟩;have:=Zr r hr.o;rw[e] at this ⊢;exact EW hA hr 7 Taa this
theorem Rd.at_(h:Rd t) (hk:k<=7) (hE:Ends k r):aO k (fj (t.op,t.words)++r)=.ok (t,r):=by obtain⟨d,tl,e,hA⟩:=h.ah;have:=h.arg r hE.o;rw[e] at this ⊢;refine EW (x:=t) hA hE (7 - k) Taa ?_;rw[show k+(7 - k)=7 by omega];exact this
variable{lv:Nat}{A B:aF}
theorem Sx{a b:Tr}   {o:Int}(hlv:lv+1<=7)(ha:aO (lv+1) (A++w::(B++r))=.ok (a,w::(B++r)))(ho:eE (opsL lv) (w::(B++r))=some o)(hb:aO (lv+1) (B++r)=.ok (b,r))(hr:eE (opsL lv) r=none):
  jM (aO (lv+1)) lv (A++w::(B++r))=.ok (mB o [a,b],r):=by rw[ES,ag ha,pH (bR _),ho];show(aO (lv+1)>>= λ y=>Hd (aO (lv+1)) lv (mB o [a,y])) (B++r)=_;rw[ag hb,pH (bR _),hr]
def EX (op:Int):Nat:=if op=17 then 0 else if op=16 then 1 else if op<=6 then 4 else if op<=9 then 5 else 3
theorem Sy(h:cT op=true)(r:aF):Ends (EX op+1) (vz op::r)/\eE (opsL (EX op)) (vz op::r)=some op:=by
 unfold cT at h;simp only[Bool.and_eq_true,decide_eq_true_eq] at h;obtain rfl | rfl | rfl | rfl | rfl | rfl | rfl | rfl | rfl | rfl | rfl | rfl | rfl:op=5\/op=6\/op=7\/op=8\/op=9\/op=10\/op=11\/op=12\/op=13\/op=14\/op=15\/op=16\/op=17:=by omega
 all_goals
  refine⟨⟨rfl,λ e=>?_,λ e=>?_,λ e=>?_,λ e=>?_,λ e=>?_⟩,rfl⟩;all_goals first | rfl | exact⟨rfl,rfl⟩| exact absurd e Tac
theorem Sz{a:Tr}   {o:Int}(h:eE (opsL 3) (w::l)=some o):wO below a (w::l)=(below >>= λ y=>(pure (mB o [a,y]):Ps Tr)) l:=by show(match eE (opsL 3) (w::l)with | none=>(Except.ok (a,w::l):Except Nat (Tr×aF))| some o=>(below >>= λ y=>(pure (mB o [a,y]):Ps Tr)) l)=_;rw[h]
theorem SA(h:cT op=true) {a b:Tr}(ha:Rd a)(hb:Rd b):∀r,Ends 0 r->aO 0 ((fj (a.op,a.words)++([vz op]++fj (b.op,b.words)))++r)=.ok (mB op [a,b],r):=by
 intro r hr;have e:(fj (a.op,a.words)++([vz op]++fj (b.op,b.words)))++r=fj (a.op,a.words)++vz op::(fj (b.op,b.words)++r):=by simp
 rw[e];obtain⟨t1,t2⟩:=Sy h (fj (b.op,b.words)++r);have hd:ar dT (fj (a.op,a.words)++vz op::(fj (b.op,b.words)++r))=false:=by obtain⟨d,tl,e,hA⟩:=ha.ah;rw[e];exact hA.O7
 have hlv:EX op=0\/EX op=1\/EX op=3\/EX op=4\/EX op=5:=by
  unfold EX;split
  ·simp
  split
  ·simp
  split
  ·simp
  split <;> simp
 have left:∀lv,lv=0\/lv=1\/lv=4\/lv=5->EX op=lv->jM (aO (lv+1)) lv (fj (a.op,a.words)++vz op::(fj (b.op,b.words)++r))=.ok (mB op [a,b],r):=by
  intro lv hl e;rw[e] at t1 t2;have h7:lv+1<=7:=by omega
  have hr2:eE (opsL lv) r=none:=by
   rcases hl with rfl | rfl | rfl | rfl
   ·exact hr.e0 Taa
   ·exact hr.e1 Taa
   ·exact hr.e4 Taa
   ·exact hr.e5 Taa
  exact Sx h7 (ha.at_ h7 t1) t2 (hb.at_ h7 (hr.up (Nat.zero_le _))) hr2
 rcases hlv with hl | hl | hl | hl | hl
 ·exact yZ▸left 0 Tae hl
 ·exact nK hr (k:=1) Taa (λ h=>absurd h Taa) (za▸left 1 Tae hl)
 ·refine nK hr (k:=3) Taa (λ _=>hd) ?_;rw[hl] at t1 t2;rw[vC];unfold qW;rw[ag (ha.at_ Taa t1),bK]
  have hi:ar kH (vz op::(fj (b.op,b.words)++r))=false:=by
   cases hi:ar kH (vz op::(fj (b.op,b.words)++r))
   ·rfl
   ·exfalso;unfold cT at h;simp only[Bool.and_eq_true,decide_eq_true_eq] at h;obtain rfl | rfl | rfl | rfl | rfl | rfl | rfl | rfl | rfl | rfl | rfl | rfl | rfl:op=5\/op=6\/op=7\/op=8\/op=9\/op=10\/op=11\/op=12\/op=13\/op=14\/op=15\/op=16\/op=17:=by omega
    all_goals cases hi
  simp only[hi];show wO (aO 4) a (vz op::(fj (b.op,b.words)++r))=_;rw[Sz t2,ag (hb.at_ Taa (hr.up (Nat.zero_le _)))];rfl
 ·exact nK hr (k:=4) Taa (λ _=>hd) (ze▸left 4 Tae hl)
 ·exact nK hr (k:=5) Taa (λ _=>hd) (zf▸left 5 Tae hl)
theorem MB{s:List UInt8}     (hs:fW s w=true)(h:same l=.ok (x,r)):GI s op same below (w::l)=.ok (mB op [x],r):=by unfold GI;rw[bK];have e:ar s (w::l)=true:=hs;simp only[e,if_true,tail_cons];rw[ag h];rfl
theorem OM{a:Tr}(ha:Rd a):∀r,Ends 0 r->aO 0 (([sW [45]]++fj (a.op,a.words))++r)=.ok (mB 3 [a],r):=by intro r hr;refine nK hr (k:=6) Taa (λ _=>rfl) ?_;rw[EP];exact MB rfl (ha.at_ Taa (hr.up (Nat.zero_le _)))
theorem SB{a:Tr}(ha:Rd a):∀r,Ends 0 r->aO 0 (([wW dT]++fj (a.op,a.words))++r)=.ok (mB 4 [a],r):=by intro r hr;refine nK hr (k:=2) Taa (λ h=>absurd h Taa) ?_;rw[zb];exact MB rfl (ha.at_ Taa (hr.up (Nat.zero_le _)))
theorem Dj{a:Tr}(ha:Rd a)(n:Bool):∀r,Ends 0 r->aO 0 ((fj (a.op,a.words)++(wW kH::((if n then [wW dT] else [])++ [wW bE])))++r)=.ok (mB (if n then 19 else 18) [a],r):=by
 intro r hr;have e:(fj (a.op,a.words)++(wW kH::((if n then [wW dT] else [])++ [wW bE])))++r=fj (a.op,a.words)++wW kH::(((if n then [wW dT] else [])++ [wW bE])++r):=by simp
 rw[e];refine nK hr (k:=3) Taa (λ _=>?_) ?_
 ·obtain⟨d,tl,e,hA⟩:=ha.ah;rw[e];exact hA.O7
 ·rw[vC];unfold qW;have hE:Ends 4 (wW kH::(((if n then [wW dT] else [])++ [wW bE])++r)):=⟨rfl,λ _=>rfl,λ _=>rfl,λ e=>absurd e Tac,λ e=>absurd e Tac,λ e=>absurd e Tac⟩;rw[ag (ha.at_ Taa hE),bK];have hi:ar kH (wW kH::(((if n then [wW dT] else [])++ [wW bE])++r))=true:=rfl;simp only[hi,if_true,tail_cons];cases n
  ·rfl
  ·rfl
theorem SC{v:Val}(hg:good v=true)(hn:v.k≠2\/0<=v.n):(∀r,ar bp r=false->aO 7 ([OA v]++r)=.ok (oM v,r))/\tR (OA v):=by
 obtain⟨k,n,s⟩:=v;unfold good at hg;dsimp only at hg hn;unfold OA;dsimp only;have Zr:∀(w:Wd) (x:Tr),(∀r,ek (aO 0) (w::r)=.ok (x,r))->∀r,ar bp r=false->aO 7 ([w]++r)=.ok (x,r):=λ w x h r _=>by rw[vD];exact h r
 by_cases h0:k=0
 ·rw[if_pos h0] at hg ⊢;simp only[Bool.and_eq_true,beq_iff_eq,qc] at hg;obtain⟨h1,h2⟩:=hg;subst h0 h1;rw[Jx h2];exact Zdw
 rw[if_neg h0] at hg ⊢;by_cases h1:k=1
 ·rw[if_pos h1] at hg ⊢;simp only[Bool.and_eq_true,Bool.or_eq_true,beq_iff_eq,qc] at hg;obtain⟨h2,h3⟩:=hg;subst h1;rw[Jx h2];rcases h3 with rfl | rfl
  ·exact Zdw
  ·exact Zdw
 rw[if_neg h1] at hg ⊢;by_cases h2:k=2
 ·rw[if_pos h2] at hg ⊢;simp only[beq_iff_eq,qc] at hg;subst h2;rw[Jx hg];exact Zdw
 rw[if_neg h2] at hg ⊢;by_cases h3:k=3
 ·rw[if_pos h3] at hg;simp only[beq_iff_eq] at hg;subst h3 hg;exact Zdw
 ·rw[if_neg h3] at hg;cases hg
theorem Dk(hr:jT s=false)(h40:s≠bp)(r:aF):ek (aO 0) (wW s::r)=kT (aO 0) (wW s::r):=by
 have no:∀w:List UInt8,jT w=true\/w=bp->fW w (wW s)=false:=by
  intro w hw;cases h:fW w (wW s)
  ·rfl
  ·exfalso;unfold fW wW at h;simp only[Bool.and_eq_true,beq_iff_eq] at h;rcases hw with hw | hw
   ·rw[h.2,hw] at hr;cases hr
   ·exact h40 (h.2.trans hw)
 unfold ek;dsimp only;rw[no dZ (.inl Tac),no dI (.inl Tac),no bE (.inl Tac),no bp (.inr rfl)];rfl
theorem Hf(hr:jT s=false)(r:aF):ct (wW s::r)=.ok (⟨s.toArray⟩,r):=by unfold ct;dsimp only[wW];rw[if_pos ⟨rfl,hr⟩]
theorem Ap(h:pg s=true):jT s=false/\s≠bp/\s≠dr/\s≠eK:=by
 match s,h with
 | c::r,h=>
   simp only[pg,Bool.and_eq_true,decide_eq_true_eq,Bool.not_eq_true'] at h;obtain⟨⟨⟨h1,h2⟩,h3⟩,h4⟩:=h;have hc:cj c=true:=by have:=List.all_eq_true.1 h4 c mem_cons_self;simp only[Bool.and_eq_true] at this;exact this.2
   refine⟨h2,?_,?_,?_⟩<;>
   ·intro e;injection e with e _;rw[e] at hc;revert hc;decide
theorem Kw(hr:jT s=false)(h1:s≠dr)(h2:s≠eK):tR (wW s):=by
 refine⟨?_,?_,?_⟩
 ·cases h:fW dT (wW s)
  ·rfl
  ·unfold fW wW at h;simp only[Bool.and_eq_true,beq_iff_eq] at h;rw[h.2] at hr;revert hr;decide
 ·cases h:fW dr (wW s)
  ·rfl
  ·unfold fW wW at h;simp only[Bool.and_eq_true,beq_iff_eq] at h;exact absurd h.2 h1
 ·cases h:fW eK (wW s)
  ·rfl
  ·unfold fW wW at h;simp only[Bool.and_eq_true,beq_iff_eq] at h;exact absurd h.2 h2
variable{whole:Ps Tr}
theorem Hg(hr:jT s=false)(r:aF):kT whole (wW s::r)=(if ar bp r then(match kL ⟨s.toArray⟩with
 | none=> .error r.length
 | some op=>po whole op r.tail)else .ok (ui ⟨s.toArray⟩,r)):=ag (Hf hr r)
theorem SD(h:pg name.data.toList=true):(∀r,ar bp r=false->aO 7 ([wW name.data.toList]++r)=.ok (ui name,r))/\tR (wW name.data.toList):=by obtain⟨h1,h2,h3,h4⟩:=Ap h;refine⟨λ r hr=>?_,Kw h1 h3 h4⟩;rw[vD];show ek (aO 0) (wW name.data.toList::r)=_;rw[Dk h1 h2,Hg h1,hr];rfl
theorem Hh(hr:jT s=false)(h2:s≠bp)(hf:kL ⟨s.toArray⟩=some op)(h:po (aO 0) op l=.ok (x,r)):aO 7 (wW s::sW [40]::l)=.ok (x,r):=by rw[vD,Dk hr h2,Hg hr,if_pos (show ar bp (sW [40]::l)=true from rfl),hf];exact h
theorem Dl:(∀r,ar bp r=false->aO 7 ([wW vo,sW [40],sW [42],sW [41]]++r)=.ok (mB 21 [],r))/\tR (wW vo):=
 ⟨λ r _=>Hh (op:=22) Tac Tac Tac rfl,⟨rfl,rfl,rfl⟩⟩
variable{xs:List Tr}
theorem OO(hx:(op=27\/op=28)/\(∃a b,xs=[a,b]/\Rd a/\Rd b)\/(¬(op=27\/op=28)/\∃a,xs=[a]/\Rd a))(hw:op≠20->width=0)(r:aF):
  qL (aO 0) op (((if op=20 then [⟨2,[],width⟩,sW [44]] else [])++(cU (xs.map Tr.words)++ [sW [41]]))++r)=.ok (.mk op bU ByteArray.empty width xs,r):=by
 unfold qL
 have e1:∀l:aF,um op ((if op=20 then [⟨2,[],width⟩,sW [44]] else [])++l)=.ok (width,l):=by
  intro l;unfold um;by_cases Kq:op=20
  ·rw[if_pos Kq,if_pos Kq];rfl
  ·rw[if_neg Kq,if_neg Kq,hw Kq];rfl
 have O8:∀l:aF,Ends 0 (sW [44]::l):=λ l=>⟨rfl,λ _=>rfl,λ _=>rfl,λ _=>⟨rfl,rfl⟩,λ _=>rfl,λ _=>rfl⟩
 rw[append_assoc,ag (e1 _)];rcases hx with ⟨h2,a,b,rfl,ha,hb⟩|⟨h2,a,rfl,ha⟩
 ·have e:(cU ([a,b].map Tr.words)++ [sW [41]])++r=a.words++(sW [44]::(b.words++(sW [41]::r))):=by simp only[map_cons,map_nil,uq,pA];simp
  rw[e,ag (ha.top _ (O8 _))];unfold qj;rw[if_pos h2,ag (p:=(must bg >>= λ _=>aO 0 >>= λ y=>(pure [y]:Ps (List Tr)))) (x:=[b]) (r:=sW [41]::r) (by rw[ag (bX rfl),ag (hb.top _ (qu r 0))];rfl),ag (bX rfl)];rfl
 ·have e:(cU ([a].map Tr.words)++ [sW [41]])++r=a.words++(sW [41]::r):=by simp only[map_cons,map_nil,pA];simp
  rw[e,ag (ha.top _ (qu r 0))];unfold qj;rw[if_neg h2,ag (p:=(pure []:Ps (List Tr))) (x:=[]) (r:=sW [41]::r) rfl,ag (bX rfl)];rfl
theorem zhE.Kcw(h:p:=by
 have hs:jT (mL op).1=false/\(mL op).1≠bp/\kL ⟨(mL op).1.toArray⟩=some op/\tR (wW (mL op).1):=by rcases tV with rfl | rfl | rfl | rfl | rfl | rfl | rfl | rfl <;> exact⟨by decide,by decide,by decide,⟨rfl,rfl,rfl⟩⟩
 obtain⟨h1,h2,h3,h4⟩:=hs;refine⟨λ r=>?_,_,_,rfl,h4⟩;have ea:=OO hx hw r;have e:(wX op width++(cU (xs.map Tr.words)++ [sW [41]]))++r=wW (mL op).1::sW [40]::(((if op=20 then [⟨2,[],width⟩,sW [44]] else [])++(cU (xs.map Tr.words)++ [sW [41]]))++r):=by unfold wX;simp
 rw[e];refine Hh h1 h2 h3 ?_;unfold po;by_cases Xn:op=22
 ·rw[if_pos Xn];subst Xn;unfold countP;rw[bK];rcases hx with ⟨h,_⟩|⟨_,a,rfl,ha⟩
  ·exact absurd h Tac
  ·have hst:ar eK (((if (22:Int)=20 then [⟨2,[],width⟩,sW [44]] else [])++(cU ([a].map Tr.words)++ [sW [41]]))++r)=false:=by rw[if_neg Tac];simp only[map_cons,map_nil,pA,nil_append];obtain⟨h,tl,e,hst⟩:=ha.th;rw[e];exact hst
   simp only[hst];exact ea
 ·rw[if_neg Xn];exact ea):p:=h
theorem Xm(hf:jV op=true)(hx:(op=27\/op=28)/\(∃a b,xs=[a,b]/\Rd a/\Rd b)\/(¬(op=27\/op=28)/\∃a,xs=[a]/\Rd a))(hw:op≠20->width=0):
  (∀r,aO 7 ((wX op width++(cU (xs.map Tr.words)++ [sW [41]]))++r)=.ok (.mk op bU ByteArray.empty width xs,r))/\∃h tl,wX op width++(cU (xs.map Tr.words)++ [sW [41]])=h::tl/\tR h:=by
 open zhE in exact Zgj
theorem pJ{o:Option aT}(h:(jt (op,o)).isSome=true):o.isSome=true:=by
 unfold jt at h;dsimp only at h;split at h
 ·rw[aD,aD,Bool.and_eq_true,Bool.and_eq_true] at h;exact h.2.1
 ·exact h
theorem Aq{a:Tr}(ha:Rd a)(l:aF):∃h tl,fj (a.op,a.words)++l=h::tl/\fW eK h=false:=by obtain⟨h,tl,e,hA⟩:=ha.ah;exact⟨h,tl++l,by rw[e];rfl,hA.star⟩
theorem zhF.Kcw(h:p:=by
 have one:∀xs:List Tr,xs.length=1->∃a,xs=[a]:=λ xs h=>List.length_eq_one_iff.1 h
 have two:∀xs:List Tr,xs.length=2->∃a b,xs=[a,b]:=λ xs h=>by
  match xs,h with
  | [a,b],_=>exact⟨a,b,rfl⟩
 have hx:(op=27\/op=28)/\(∃a b,args=[a,b]/\Rd a/\Rd b)\/(¬(op=27\/op=28)/\∃a,args=[a]/\Rd a):=by
  by_cases h2:op=27\/op=28
  ·left;have:args.length=2:=by rw[hlen];rcases h2 with rfl | rfl <;> rfl
   obtain⟨a,b,rfl⟩:=two args this;exact⟨h2,a,b,rfl,SE a Tae,SE b Tae⟩
  ·right;have:args.length=1:=by rw[hlen];rcases tV with rfl | rfl | rfl | rfl | rfl | rfl | rfl | rfl;all_goals first | rfl | exact absurd Tac h2
   obtain⟨a,rfl⟩:=one args this;exact⟨h2,a,rfl,SE a Tae⟩
 obtain⟨k1,k2⟩:=Xm (width:=width) hf hx (λ h=>b3.resolve_left h);have ew:(args.map λ t=>(t.op,t.words)).map (·.2)=args.map Tr.words:=by simp
 rw[ew] at hwd;rw[xc b1,Jx b2] at hwd Dm ⊢;exact .zg (Dm _ Ky) (λ r _=>by rw[hwd];exact k1 r) (by rw[hwd];exact k2)):p:=h
theorem acv (op:Int)(v:Val)(name:ByteArray)(width:Int)(args:List Tr)(hall:∀t∈args,t.out.isSome=true->Rd t)(ho:(nC op v name width (Tr.outs args)).isSome=true):Rd (.mk op v name width args):=by
 have hop:(Tr.mk op v name width args).op=op:=rfl;have hwd:(Tr.mk op v name width args).words=Ag op v name width (Tr.ur args):=by rw[Tr.words]
 have Dm:∀b,ix op=b->ix (Tr.mk op v name width args).op=b:=λ b h=>h
 rw[zW] at ho;rw[Ah] at hwd;unfold nC at ho;unfold Ag at hwd;have nol:¬cT op=true->¬op=3->¬op=4->¬op=18->¬op=19->ix op=false:=by intro a b c d e;unfold ix;simp[a,b,c,d,e]
 by_cases h1:op=1
 ·rw[if_pos h1] at ho hwd;rw[aD,aV,Bool.and_eq_true] at ho;have hb:=ho.1;simp only[Bool.and_eq_true,Bool.or_eq_true,decide_eq_true_eq,bne_iff_ne,beq_iff_eq,length_map,ne_eq] at hb;obtain⟨b1,b2,b3,b4,b5⟩:=hb;obtain⟨l1,l2⟩:=SC b4 b5;have e:Tr.mk op v name width args=oM v:=by rw[List.length_eq_zero_iff.1 b1,Jx b2,b3,h1];rfl
  have Ky:ix op=false:=nol (by rw[h1];decide) Taa Taa Taa Taa;exact Zgt
 rw[if_neg h1] at ho hwd;by_cases h2:op=2
 ·rw[if_pos h2] at ho hwd;unfold cS at ho;simp only[aD,aV,Bool.and_eq_true] at ho;obtain⟨hb,hn,_⟩:=ho;simp only[Bool.and_eq_true,beq_iff_eq,length_map] at hb;obtain⟨b1,b2,b3⟩:=hb;obtain⟨l1,l2⟩:=SD hn;have e:Tr.mk op v name width args=ui name:=by rw[List.length_eq_zero_iff.1 b1,xc b2,b3,h2];rfl
  have Ky:ix op=false:=nol (by rw[h2];decide) Taa Taa Taa Taa;exact Zgt
 rw[if_neg h2] at ho hwd;by_cases Xk:op=21
 ·rw[if_pos Xk] at ho hwd;rw[aD,aV,Bool.and_eq_true] at ho;have hb:=ho.1;simp only[Bool.and_eq_true,beq_iff_eq,length_map] at hb;obtain⟨b1,b2⟩:=hb;obtain⟨p1,p2,p3⟩:=pI b2;have e:Tr.mk op v name width args=mB 21 []:=by rw[List.length_eq_zero_iff.1 b1,p1,p2,p3,Xk];rfl
  have Ky:ix op=false:=nol (by rw[Xk];decide) Taa Taa Taa Taa;exact .zg (Dm _ Ky) (λ r hr=>by rw[hwd,e];exact Dl.1 r hr) ⟨_,_,hwd,Dl.2⟩
 rw[if_neg Xk] at ho hwd;by_cases h3:cT op=true
 ·rw[if_pos h3] at ho hwd
  match args,hall,ho,hwd,hop,Dm with
  | [a,b],hall,ho,hwd,hop,Dm=>
    replace ho:(if bu v name width then aq (jt (a.op,a.out)) (aq (some (32::(oO op++ [32]))) (jt (b.op,b.out)))else none).isSome=true:=ho;replace hwd:(Tr.mk op v name width [a,b]).words=fj (a.op,a.words)++([vz op]++fj (b.op,b.words)):=hwd;split at ho
    ·rename_i hp;obtain⟨p1,p2,p3⟩:=pI hp;rw[aD,aD,Bool.and_eq_true,Bool.and_eq_true] at ho;have ra:=hall a Tae (pJ ho.1);have rb:=hall b Tae (pJ ho.2.2);subst p1 p2 p3;exact .rR (Dm _ (by unfold ix;simp[h3])) (λ r hr=>by rw[hwd];exact SA h3 ra rb r hr) Ta7
    ·cases ho
  | [],_,ho,_,_,_=>cases ho
  | [_],_,ho,_,_,_=>cases ho
  | _::_::_::_,_,ho,_,_,_=>cases ho
 rw[if_neg h3] at ho hwd;by_cases h4:op=3
 ·rw[if_pos h4] at ho hwd
  match args,hall,ho,hwd,hop,Dm with
  | [a],hall,ho,hwd,hop,Dm=>
    replace ho:(if bu v name width then aq (some [45,32]) (jt (a.op,a.out))else none).isSome=true:=ho;replace hwd:(Tr.mk op v name width [a]).words=[sW [45]]++fj (a.op,a.words):=hwd;split at ho
    ·rename_i hp;obtain⟨p1,p2,p3⟩:=pI hp;rw[aD,Bool.and_eq_true] at ho;have ra:=hall a Tae (pJ ho.2);subst p1 p2 p3 h4;exact .rR (Dm _ Tac) (λ r hr=>by rw[hwd];exact OM ra r hr) (by rw[hwd];exact⟨_,_,rfl,rfl⟩)
    ·cases ho
  | [],_,ho,_,_,_=>cases ho
  | _::_::_,_,ho,_,_,_=>cases ho
 rw[if_neg h4] at ho hwd;by_cases h5:op=4
 ·rw[if_pos h5] at ho hwd
  match args,hall,ho,hwd,hop,Dm with
  | [a],hall,ho,hwd,hop,Dm=>
    replace ho:(if bu v name width then aq (some [78,79,84,32]) (jt (a.op,a.out))else none).isSome=true:=ho;replace hwd:(Tr.mk op v name width [a]).words=[wW dT]++fj (a.op,a.words):=hwd;split at ho
    ·rename_i hp;obtain⟨p1,p2,p3⟩:=pI hp;rw[aD,Bool.and_eq_true] at ho;have ra:=hall a Tae (pJ ho.2);subst p1 p2 p3 h5;exact .rR (Dm _ Tac) (λ r hr=>by rw[hwd];exact SB ra r hr) (by rw[hwd];exact⟨_,_,rfl,rfl⟩)
    ·cases ho
  | [],_,ho,_,_,_=>cases ho
  | _::_::_,_,ho,_,_,_=>cases ho
 rw[if_neg h5] at ho hwd;by_cases Oo:op=18
 ·rw[if_pos Oo] at ho hwd
  match args,hall,ho,hwd,hop,Dm with
  | [a],hall,ho,hwd,hop,Dm=>
    replace ho:(if bu v name width then aq (jt (a.op,a.out)) (some [32,73,83,32,78,85,76,76])else none).isSome=true:=ho;replace hwd:(Tr.mk op v name width [a]).words=fj (a.op,a.words)++ [wW kH,wW bE]:=hwd;split at ho
    ·rename_i hp;obtain⟨p1,p2,p3⟩:=pI hp;rw[aD,Bool.and_eq_true] at ho;have ra:=hall a Tae (pJ ho.1);subst p1 p2 p3 Oo;exact .rR (Dm _ Tac) (λ r hr=>by rw[hwd];exact Dj ra false r hr) Ta7
    ·cases ho
  | [],_,ho,_,_,_=>cases ho
  | _::_::_,_,ho,_,_,_=>cases ho
 rw[if_neg Oo] at ho hwd;by_cases Oq:op=19
 ·rw[if_pos Oq] at ho hwd
  match args,hall,ho,hwd,hop,Dm with
  | [a],hall,ho,hwd,hop,Dm=>
    replace ho:(if bu v name width then aq (jt (a.op,a.out)) (some [32,73,83,32,78,79,84,32,78,85,76,76])else none).isSome=true:=ho;replace hwd:(Tr.mk op v name width [a]).words=fj (a.op,a.words)++ [wW kH,wW dT,wW bE]:=hwd;split at ho
    ·rename_i hp;obtain⟨p1,p2,p3⟩:=pI hp;rw[aD,Bool.and_eq_true] at ho;have ra:=hall a Tae (pJ ho.1);subst p1 p2 p3 Oq;exact .rR (Dm _ Tac) (λ r hr=>by rw[hwd];exact Dj ra true r hr) Ta7
    ·cases ho
  | [],_,ho,_,_,_=>cases ho
  | _::_::_,_,ho,_,_,_=>cases ho
 rw[if_neg Oq] at ho hwd;have Ky:ix op=false:=nol h3 h4 h5 Oo Oq;by_cases hf:(jV op &&(args.map λ t=>(t.op,t.out)).length==(mL op).2)=true
 ·rw[if_pos hf] at ho;simp only[Bool.and_eq_true,beq_iff_eq,length_map] at hf;obtain⟨hf,hlen⟩:=hf;simp only[aD,aV,wR,Bool.and_eq_true,all_eq_true] at ho;obtain⟨hb,_,_,hj,_⟩:=ho;have SE:∀t∈args,Rd t:=λ t ht=>hall t ht (hj _ (by simp only[mem_map];exact⟨_,⟨t,ht,rfl⟩,rfl⟩))
  simp only[Bool.or_eq_true,beq_iff_eq] at hb;obtain⟨b1,b2,b3⟩:=hb;open zhF in exact Zgj
 ·rw[if_neg hf] at ho;cases ho
mutual
theorem Tr.read:∀t:Tr,t.out.isSome=true->Rd t
 | .mk op v name width args,h=>by unfold Tr.out at h;exact acv op v name width args (λ t ht=>Tr.reads args t ht) h
theorem Tr.reads:∀ts:List Tr,∀t∈ts,t.out.isSome=true->Rd t
 | t::ts,u,hu,h=>by
   rcases List.mem_cons.1 hu with e | hu
   ·rw[e] at h ⊢;exact Tr.read t h
   ·exact Tr.reads ts u hu h
end
end Go.Proofs.YtehhdlgjfdnafaaGreatDoor
