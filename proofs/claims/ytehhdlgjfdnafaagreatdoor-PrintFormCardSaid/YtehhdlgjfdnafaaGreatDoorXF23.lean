/- Parts of the proof. -/
import Derived.Test.YtehhdlgjfdnafaaGreatDoorXF22
namespace Go.Proofs.YtehhdlgjfdnafaaGreatDoor
open List
variable{p:Prop}
set_option maxHeartbeats 90000000
set_option maxRecDepth 100000
set_option linter.unusedVariables false
set_option linter.unusedSimpArgs false
def wW (s:aX):Wd:=⟨1,s,0⟩
def sW (s:aX):Wd:=⟨4,s,0⟩
def Lx (P:aX->Prop)(a:aX)(ws:aK):Prop:=∀y,P y->∃ps:List (Wd×Nat),(∀ps2 q,VL y ps2 q->VL (a++y) (ps++ps2) q)/\ps.map (·.1)=ws
def vY (_:aX):Prop:=True
def lJ (y:aX):Prop:=∀c,y.head?=some c->c=32\/c=40\/c=41\/c=44
def Qt (y:aX):Prop:=∃r,y=32::r
variable{P Q:aX->Prop}{u v:aK}
theorem Lx.app{a b:aX} (h:Lx P a u)(k:Lx Q b v)(WX:∀y,Q y->P (b++y)):Lx Q (a++b) (u++v):=by intro y hy;obtain⟨p1,r1,m1⟩:=k y hy;obtain⟨p2,r2,m2⟩:=h (b++y) (WX y hy);refine⟨p2++p1,λ ps2 q hr=>?_,by simp[m1,m2]⟩;rw[append_assoc,append_assoc];exact r2 _ _ (r1 _ _ hr)
theorem Lx.weak{a:aX} (h:Lx P a u)(WX:∀y,Q y->P y):Lx Q a u:=λ y hy=>h y (WX y hy)
theorem Lx.any{a b:aX} (h:Lx vY a u)(k:Lx Q b v):Lx Q (a++b) (u++v):=h.app k λ _ _=>trivial
variable{c:UInt8}
theorem Lx.stop{a b:aX}  (h:Lx lJ a u)(hc:c=32\/c=40\/c=41\/c=44)(k:Lx Q (c::b) v):Lx Q (a++c::b) (u++v):=
 h.app k λ y _ d hd=>by simp only[cons_append,head?_cons,Option.some.injEq] at hd;subst hd;exact hc
theorem Lx.blank{a b:aX} (h:Lx Qt a u)(k:Lx Q (32::b) v):Lx Q (a++32::b) (u++v):=
 h.app k λ y _=>⟨b++y,rfl⟩
theorem JV (P:aX->Prop):Lx P [] []:=λ y _=>⟨[],λ ps2 q hr=>hr,rfl⟩
theorem eY:Lx vY [32] []:=λ y _=>⟨[],λ ps2 q hr=>VL.start hr (by show bU false (32::y)=bU false y;simp[bU,cZ]),rfl⟩
variable{w:Wd}
theorem Ai{a:aX} (h:∀y,P y->dG (a++y)=.ok (w,y)/\bU false (a++y)=a++y)(h0:a≠ []):Lx P a [w]:=λ y hy=>by
 obtain⟨h1,h2⟩:=h y hy
 match a,h0 with
 | c::r,_=>exact⟨[(w,((c::r)++y).length)],λ ps2 q hr=>VL.step h2 h1 hr,rfl⟩
variable{y:aX}
theorem Ek(h:lJ y)(p:UInt8->Bool)(h1:p 32=false)(h2:p 40=false)(h3:p 41=false)(h4:p 44=false):y.head?.any p=false:=by
 cases y with
 | nil=>rfl
 | cons c r=>rcases h c rfl with rfl | rfl | rfl | rfl <;> simpa
variable{d:UInt8}{s:aX}
theorem Sc{l:aX}(hd:bH d=true)(hw:∀x∈d::l,cq x=true)(Yq:(d::l).map kN=s)(hlen:(d::l).length<=32):Lx lJ (d::l) [wW s]:=
 Ai (λ y hy=>by
  obtain⟨t1,t2⟩:=Hf (p:=cq) (b:=d::l) (x:=y) hw (Ek hy cq Tab Tab Tab Tab)
  refine⟨?_,JU hd⟩
  rw[cons_append] at t1 t2 ⊢
  simp only[dG,if_pos hd]
  rw[t1,t2,if_pos hlen,Yq]
  rfl) Tad
def kwB (t s:aX):Bool:=match t with
 | []=>false
 | d::l=>bH d &&(d::l).all cq &&(d::l).map kN==s && decide ((d::l).length<=32)
theorem nQ{t:aX}(h:kwB t s=true):Lx lJ t [wW s]:=by
 match t,h with
 | d::l,h=>simp only[kwB,Bool.and_eq_true,beq_iff_eq,decide_eq_true_eq,all_eq_true] at h;exact Sc h.1.1.1 h.1.1.2 h.1.2 h.2
theorem VM(h:wF c=false):kN c=c:=by unfold kN;rw[h];rfl
theorem Sd(h:jd s=true):Lx lJ s [wW s]:=by
 match s,h with
 | c::r,h=>
   simp only[jd,Bool.and_eq_true,decide_eq_true_eq,Bool.not_eq_true'] at h;obtain⟨⟨⟨h1,h2⟩,h3⟩,h4⟩:=h;have hall:∀x∈c::r,wF x=false/\cq x=true:=λ x hx=>by have:=List.all_eq_true.1 h4 x hx;simpa using this
   have hc:bH c=true:=by have:=(hall c mem_cons_self).2;simpa [cq,h3] using this
   refine Sc hc (λ x hx=>(hall x hx).2) ?_ h1;have:(c::r).map kN=(c::r).map id:=map_congr_left λ x hx=>VM (hall x hx).1
   rw[this,map_id]
theorem JW:∀n:Nat,Lib.decDigits n=Fe n:=λ n=>by
 induction n using Nat.strongRecOn with
 | _ n ih=>
   rw[Lib.decDigits,Fe];split
   ·rfl
   ·rw[ih (n / 10) Taa]
variable{n:Int}
theorem Em(h0:0<=n)(h1:n<=9223372036854775807):Lx lJ (Lib.itoa n) [⟨2,[],n⟩]:=by
 obtain⟨k,rfl⟩:=Int.eq_ofNat_of_zero_le h0;have hi:Lib.itoa (k:Int)=Fe k:=by unfold Lib.itoa;rw[if_neg Taa,JW];rfl
 rw[hi];obtain⟨e1,e2,e3,_,_⟩:=Ei k;have hn:=acb (n:=k) Taa;refine Ai (λ y hy=>?_) e3;obtain⟨t1,t2⟩:=Hf (p:=aL) (b:=Fe k) (x:=y) e2 (Ek hy aL Tab Tab Tab Tab)
 cases hd:Fe k with
 | nil=>exact absurd hd e3
 | cons c r=>
   rw[hd] at t1 t2 e1 e2 hn;have hc:aL c=true:=e2 c Tad
   have hl:bH c=false:=by
    cases hlt:bH c
    ·rfl
    ·rw[JT hlt] at hc;cases hc
   refine⟨?_,?_⟩
   ·rw[cons_append] at t1 t2 ⊢;simp only[dG,hl,hc,if_true];rw[t1,t2,hn,e1];rw[Ek hy bH Tab Tab Tab Tab];rfl
   ·rw[cons_append];refine sG ?_ ?_
    ·cases hb:cZ c
     ·rfl
     ·rcases uz hb with rfl | rfl | rfl | rfl <;> cases hc
    ·rintro rfl;cases hc
theorem Sg:∀s:aX,Kw s=FL s
 | []=>rfl
 | c::r=>by simp only[Kw,FL,Sg r]
theorem ace (s:aX):Lx lJ (39::(Kw s++ [39])) [⟨3,s,0⟩]:=by
 rw[Sg];refine Ai (λ y hy=>⟨?_,?_⟩) Tad
 ·have asv:y.head?≠some 39:=λ e=>by rcases hy 39 e with h | h | h | h <;> cases h
  have:=Ej asv s [];show dG (39::((FL s++ [39])++y))=_;rw[append_assoc];show dG (39::(FL s++39::y))=_;simp only[dG];rw[if_neg Tab,if_neg Tab,if_pos trivial]
  cases ht:fw (FL s++39::y)with
  | none=>rw[ht] at this;simp[more] at this
  | some x=>obtain⟨t,rest⟩:=x;rw[ht] at this;simp[more] at this;obtain⟨rfl,rfl⟩:=this;rfl
 ·exact sG Tab Tab
theorem rA(hc:c=40\/c=41\/c=44\/c=42):Lx vY [c] [sW [c]]:=by
 refine Ai (λ y _=>⟨?_,?_⟩) Tad
 ·rcases hc with rfl | rfl | rfl | rfl <;> rfl
 ·rcases hc with rfl | rfl | rfl | rfl <;> exact sG Tab Tab
theorem JX(hs:s∈signs):Lx Qt s [sW s]:=by
 have h:=List.all_eq_true.1 Qs s hs
 match s,h with
 | c::l,h=>
   simp only[Bool.and_eq_true,Bool.not_eq_true',beq_eq_false_iff_ne,ne_eq] at h;obtain⟨⟨⟨h1,h2⟩,h3⟩,h4⟩:=h;refine Ai (λ y hy=>?_) Tad;obtain⟨r,rfl⟩:=hy;have hsg:=K8 hs (x:=32::r) (.inr ⟨32,r,rfl,rfl⟩);refine⟨?_,?_⟩
   ·rw[cons_append] at hsg ⊢;simp only[dG,h1,h2,if_neg h3];rw[hsg];simp[sW]
   ·rw[cons_append];by_cases OO:c=45
    ·subst OO;rcases K9 hs with ⟨d,hd⟩|⟨d,e,hd⟩
     ·injection hd with _ hd;subst hd;rfl
     ·exfalso;injection hd with hd1 zr;subst hd1 zr;revert hs;simp[signs]
    ·exact sG h4 OO
def VN (v:Val):Wd:=if v.k=0 then wW bT else if v.k=1 then(if v.n=1 then wW eK else wW eh)else if v.k=2 then⟨2,[],v.n⟩else⟨3,v.s.data.toList,0⟩
def dA:List aK->aK
 | []=> []
 | x::l=>x++(match l with | []=> [] | y::r=>sW [44]::dA (y::r))
theorem rB (x:aK):dA [x]=x:=by simp[dA]
theorem xt (x y:aK)(l:List aK):dA (x::y::l)=x++sW [44]::dA (y::l):=by rw[dA]
def fS (a:Int×aK):aK:=if jm a.1 then [sW [40]]++(a.2++ [sW [41]])else a.2
def yK (op:Int):Wd:=if op=16 then wW La else if op=17 then wW XU else sW (qI op)
def Aj (op width:Int):aK:=[wW (nS op).1,sW [40]]++(if op=20 then [⟨2,[],width⟩,sW [44]] else [])
def En (op:Int)(v:Val)(name:ByteArray)(width:Int)(l:List (Int×aK)):aK:=
 if op=1 then [VN v]
 else if op=2 then [wW name.data.toList]
 else if op=21 then [wW xN,sW [40],sW [42],sW [41]]
 else if cL op then match l with
  | [x,y]=>fS x++([yK op]++fS y)
  | _=> []
 else if op=3 then match l with
  | [x]=> [sW [45]]++fS x
  | _=> []
 else if op=4 then match l with
  | [x]=> [wW eC]++fS x
  | _=> []
 else if op=18 then match l with
  | [x]=>fS x++ [wW mz,wW bT]
  | _=> []
 else if op=19 then match l with
  | [x]=>fS x++ [wW mz,wW eC,wW bT]
  | _=> []
 else Aj op width++(dA (l.map (·.2))++ [sW [41]])
mutual
def Tr.words:Tr->aK
 | .mk op v name width args=>En op v name width (Tr.xu args)
def Tr.xu:List Tr->List (Int×aK)
 | []=> []
 | t::ts=>(t.op,t.words)::Tr.xu ts
end
theorem Eo:∀ts:List Tr,Tr.xu ts=ts.map λ t=>(t.op,t.words)
 | []=>rfl
 | t::ts=>by simp[Tr.xu,Eo ts]
theorem cj{o p:Option aX} {a:aX}(h:aq o p=some a):∃x y,o=some x/\p=some y/\a=x++y:=by cases o <;> cases p <;> simp[aq] at h;exact⟨_,_,rfl,rfl,h.symm⟩
theorem et{b:Bool} {a:aX}(h:bl b=some a):b=true/\a=[]:=by cases b <;> simp[bl] at h;exact⟨rfl,h⟩
def jY (o:Option aX)(ws:aK):Prop:=∀t,o=some t->Lx lJ t ws
variable{op:Int}{ws:aK}
theorem Ak{o:Option aX} (h:jY o ws):jY (jF (op,o)) (fS (op,ws)):=by
 intro t ht;unfold jF fS at*;dsimp only at ht ⊢;by_cases hl:jm op=true;rotate_left
 ·rw[if_neg hl] at ht ⊢;exact h t ht
 ·rw[if_pos hl] at ht ⊢;obtain⟨x,y0,hx,hy0,rfl⟩:=cj ht;obtain⟨y,z,hy,hz,rfl⟩:=cj hy0;cases hx;cases hz;exact(rA (.inl rfl)).any ((h y hy).stop (.inr (.inr (.inl rfl))) ((rA (.inr (.inl rfl))).weak λ _ _=>trivial))
theorem JY:∀ {l:List (Option aX)} {m:List aK},iK jY l m->jY (dV l) (dA m)
 | [],[],_,t,ht=>by cases ht;exact JV _
 | [o],[w],h,t,ht=>by
   cases h with
   | cons a _=>rw[jT] at ht;rw[rB];exact a t ht
 | o::p::l,w::x::m,h,t,ht=>by
   cases h with
   | cons a b=>rw[kW] at ht;rw[xt];obtain⟨y,z0,hy,hz0,rfl⟩:=cj ht;obtain⟨c,z,hc,hz,rfl⟩:=cj hz0;cases hc;have ih:=JY b z hz;exact(a y hy).stop (.inr (.inr (.inr rfl))) ((rA (.inr (.inr (.inl rfl)))).any (eY.any ih))
 | [_],_::_::_,h,_,_=>by cases h with | cons _ b=>cases b
 | _::_::_,[_],h,_,_=>by cases h with | cons _ b=>cases b
 | [],_::_,h,_,_=>by cases h
 | _::_,[],h,_,_=>by cases h
theorem ahu{v:Val}(hg:good v=true)(hn:v.k≠2\/0<=v.n)(hv:v.n<=9223372036854775807):Lx lJ (mG v) [VN v]:=by
 unfold mG VN;rw[if_pos hg];by_cases h0:v.k=0
 ·rw[if_pos h0,if_pos h0];exact nQ Tab
 rw[if_neg h0,if_neg h0];by_cases h1:v.k=1
 ·rw[if_pos h1,if_pos h1];split
  ·exact nQ Tab
  ·exact nQ Tab
 rw[if_neg h1,if_neg h1];by_cases h2:v.k=2
 ·rw[if_pos h2,if_pos h2];exact Em (hn.resolve_left λ h=>h h2) hv
 ·rw[if_neg h2,if_neg h2];exact ace _
theorem ahv(h:cL op=true):Lx Qt (qI op) [yK op]:=by
 unfold cL at h;simp only[Bool.and_eq_true,decide_eq_true_eq] at h;obtain rfl | rfl | rfl | rfl | rfl | rfl | rfl | rfl | rfl | rfl | rfl | rfl | rfl:op=5\/op=6\/op=7\/op=8\/op=9\/op=10\/op=11\/op=12\/op=13\/op=14\/op=15\/op=16\/op=17:=by omega
 case inr.inr.inr.inr.inr.inr.inr.inr.inr.inr.inr.inl=>exact(nQ Tab).weak λ y ⟨r,hr⟩ c hc=>by subst hr;injection hc with hc;exact .inl hc.symm
 case inr.inr.inr.inr.inr.inr.inr.inr.inr.inr.inr.inr=>exact(nQ Tab).weak λ y ⟨r,hr⟩ c hc=>by subst hr;injection hc with hc;exact .inl hc.symm
 all_goals exact JX Tab
theorem anf(h:ko op=true):Lx lJ (nS op).1 [wW (nS op).1]:=by
 unfold ko at h;simp only[Bool.or_eq_true,Bool.and_eq_true,decide_eq_true_eq,beq_iff_eq] at h;obtain rfl | rfl | rfl | rfl | rfl | rfl | rfl | rfl:op=20\/op=22\/op=23\/op=24\/op=25\/op=26\/op=27\/op=28:=by omega
 all_goals exact nQ Tab
variable{f:Int×Option aX->Int×Option aX->Option aX}{g:Int×aK->Int×aK->aK}
theorem ahw(hfg:∀x o w y p u,jY o w->jY p u->jY (f (x,o) (y,p)) (g (x,w) (y,u))):∀ {l:List (Int×Option aX)} {m:List (Int×aK)},iK (λ a b=>a.1=b.1/\jY a.2 b.2) l m->jY (match l with | [x,y]=>f x y | _=>none) (match m with | [x,y]=>g x y | _=> [])
 | [(x,o),(y,p)],_,.cons (y:=(x',w)) h1 (.cons (y:=(y',u)) h2 .nil),t,ht=>by obtain⟨e1,h1⟩:=h1;obtain⟨e2,h2⟩:=h2;dsimp only at e1 h1 e2 h2;subst e1 e2;exact hfg _ _ _ _ _ _ h1 h2 t ht
 | [],_,_,t,ht=>by cases ht
 | [_],_,_,t,ht=>by cases ht
 | _::_::_::_,_,_,t,ht=>by cases ht
theorem Sh{f:Int×Option aX->Option aX} {g:Int×aK->aK}(hfg:∀x o w,jY o w->jY (f (x,o)) (g (x,w))):∀ {l:List (Int×Option aX)} {m:List (Int×aK)},iK (λ a b=>a.1=b.1/\jY a.2 b.2) l m->jY (match l with | [x]=>f x | _=>none) (match m with | [x]=>g x | _=> [])
 | [(x,o)],_,.cons (y:=(x',w)) h1 .nil,t,ht=>by obtain⟨e1,h1⟩:=h1;dsimp only at e1 h1;subst e1;exact hfg _ _ _ h1 t ht
 | [],_,_,t,ht=>by cases ht
 | _::_::_,_,_,t,ht=>by cases ht
theorem asx (op:Int)(v:Val)(name:ByteArray)(width:Int)(l:List (Int×Option aX))(m:List (Int×aK))(hlm:iK (λ a b=>a.1=b.1/\jY a.2 b.2) l m)(hw:width<=9223372036854775807)(hv:v.n<=9223372036854775807):jY (kY op v name width l) (En op v name width m):=by
 have kn:Lx lJ [78,85,76,76] [wW bT]:=nQ Tab;unfold kY En;by_cases h1:op=1
 ·rw[if_pos h1,if_pos h1];intro a ha;obtain⟨x,y,hx,hy,rfl⟩:=cj ha;obtain⟨hb,rfl⟩:=et hx;cases hy;simp only[Bool.and_eq_true,Bool.or_eq_true,decide_eq_true_eq,bne_iff_ne] at hb;exact ahu hb.2.2.2.1 hb.2.2.2.2 hv
 rw[if_neg h1,if_neg h1];by_cases h2:op=2
 ·rw[if_pos h2,if_pos h2];intro a ha;obtain⟨x,y,hx,hy,rfl⟩:=cj ha;obtain⟨_,rfl⟩:=et hx;unfold dz at hy;obtain⟨x2,y2,hx2,Pw,rfl⟩:=cj hy;obtain⟨hb2,rfl⟩:=et hx2;cases Pw;exact Sd hb2
 rw[if_neg h2,if_neg h2];by_cases h21:op=21
 ·rw[if_pos h21,if_pos h21];intro a ha;obtain⟨x,y,hx,hy,rfl⟩:=cj ha;obtain⟨_,rfl⟩:=et hx;cases hy;exact((nQ (t:=[99,111,117,110,116]) (s:=xN) Tab).stop (b:=[42,41]) (c:=40) (.inr (.inl rfl)) ((rA (c:=40) (.inl rfl)).any ((rA (c:=42) (.inr (.inr (.inr rfl)))).any ((rA (c:=41) (.inr (.inl rfl))).weak (Q:=lJ) λ _ _=>trivial))))
 rw[if_neg h21,if_neg h21];by_cases h3:cL op=true
 ·rw[if_pos h3,if_pos h3];refine ahw (f:=λ x y=>if bJ v name width then aq (jF x) (aq (some (32::(qI op++ [32]))) (jF y))else none) (g:=λ x y=>fS x++([yK op]++fS y)) (λ x o w y p u k1 k2 t ht=>?_) hlm;split at ht
  ·obtain⟨a1,a2,e1,e2,rfl⟩:=cj ht;obtain⟨a3,a4,e3,e4,rfl⟩:=cj e2;cases e3;have:=(Ak (op:=x) k1 a1 e1).stop (.inl rfl) (eY.any ((ahv h3).blank (eY.any (Ak (op:=y) k2 a4 e4))));exact Zdt
  ·cases ht
 rw[if_neg h3,if_neg h3];by_cases h4:op=3
 ·rw[if_pos h4,if_pos h4];refine Sh (f:=λ x=>if bJ v name width then aq (some [45,32]) (jF x)else none) (g:=λ x=> [sW [45]]++fS x) (λ x o w h t ht=>?_) hlm;split at ht
  ·obtain⟨a1,a2,e1,e2,rfl⟩:=cj ht;cases e1;have:=(JX (s:=[45]) Tab).blank (eY.any (Ak (op:=x) h a2 e2));exact Zdt
  ·cases ht
 rw[if_neg h4,if_neg h4];by_cases h5:op=4
 ·rw[if_pos h5,if_pos h5];refine Sh (f:=λ x=>if bJ v name width then aq (some [78,79,84,32]) (jF x)else none) (g:=λ x=> [wW eC]++fS x) (λ x o w h t ht=>?_) hlm;split at ht
  ·obtain⟨a1,a2,e1,e2,rfl⟩:=cj ht;cases e1;have:=(nQ (t:=[78,79,84]) (s:=eC) Tab).stop (.inl rfl) (eY.any (Ak (op:=x) h a2 e2));exact Zdt
  ·cases ht
 rw[if_neg h5,if_neg h5];by_cases TD:op=18
 ·rw[if_pos TD,if_pos TD];refine Sh (f:=λ x=>if bJ v name width then aq (jF x) (some [32,73,83,32,78,85,76,76])else none) (g:=λ x=>fS x++ [wW mz,wW bT]) (λ x o w h t ht=>?_) hlm;split at ht
  ·obtain⟨a1,a2,e1,e2,rfl⟩:=cj ht;cases e2;have:=(Ak (op:=x) h a1 e1).stop (.inl rfl) (eY.any ((nQ (t:=[73,83]) (s:=mz) Tab).stop (.inl rfl) (eY.any kn)));exact Zdt
  ·cases ht
 rw[if_neg TD,if_neg TD];by_cases TE:op=19
 ·rw[if_pos TE,if_pos TE];refine Sh (f:=λ x=>if bJ v name width then aq (jF x) (some [32,73,83,32,78,79,84,32,78,85,76,76])else none) (g:=λ x=>fS x++ [wW mz,wW eC,wW bT]) (λ x o w h t ht=>?_) hlm;split at ht
  ·obtain⟨a1,a2,e1,e2,rfl⟩:=cj ht;cases e2;have:=(Ak (op:=x) h a1 e1).stop (.inl rfl) (eY.any ((nQ (t:=[73,83]) (s:=mz) Tab).stop (.inl rfl) (eY.any ((nQ (t:=[78,79,84]) (s:=eC) Tab).stop (.inl rfl) (eY.any kn)))));exact Zdt
  ·cases ht
 rw[if_neg TE,if_neg TE];intro a ha;by_cases hf:(ko op && l.length==(nS op).2)=true
 ·rw[if_pos hf] at ha;simp only[Bool.and_eq_true] at hf;obtain⟨a1,b1,e1,f1,rfl⟩:=cj ha;obtain⟨_,rfl⟩:=et e1;obtain⟨a2,b2,e2,f2,rfl⟩:=cj f1;cases e2;obtain⟨a3,b3,e3,f3,rfl⟩:=cj f2;obtain⟨a4,b4,e4,f4,rfl⟩:=cj f3;cases f4
  have hj:iK jY (l.map (·.2)) (m.map (·.2)):=by
   clear ha e4 f1 f2 f3 hf
   induction hlm with
   | nil=>exact .nil
   | cons p _ ih=>exact .cons p.2 ih
  have k4:=(JY hj a4 e4).stop (b:=[]) (c:=41) (.inr (.inr (.inl rfl))) ((rA (c:=41) (.inr (.inl rfl))).weak (Q:=lJ) λ _ _=>trivial);have k1:=λ {b:aX} {u:aK} (k:Lx lJ b u)=>(anf hf.1).stop (c:=40) (.inr (.inl rfl)) ((rA (c:=40) (.inl rfl)).any k)
  unfold Aj;by_cases Mj:op=20
  ·rw[if_pos Mj] at e3 ⊢;obtain⟨c1,c2,g1,g2,rfl⟩:=cj e3;cases g2;unfold se at g1;obtain⟨d1,d2,i1,i2,rfl⟩:=cj g1;obtain⟨j1,rfl⟩:=et i1;cases i2;have:=k1 ((Em (of_decide_eq_true j1) hw).stop (.inr (.inr (.inr rfl))) ((rA (c:=44) (.inr (.inr (.inl rfl)))).any (eY.any k4)));exact Zdt
  ·rw[if_neg Mj] at e3 ⊢;cases e3;have:=k1 k4;exact Zdt
 ·rw[if_neg hf] at ha;cases ha
mutual
theorem Tr.lex:∀t:Tr,t.fine->jY t.out t.words
 | .mk op v name width args,h=>by unfold Tr.fine at h;unfold Tr.out Tr.words;exact asx op v name width _ _ (Tr.ang args h.2) h.1.2.2.2.2 h.1.1.2
theorem Tr.ang:∀ts:List Tr,Tr.sU ts->iK (λ a b=>a.1=b.1/\jY a.2 b.2) (Tr.outs ts) (Tr.xu ts)
 | [],_=> .nil
 | t::ts,h=>by unfold Tr.sU at h;unfold Tr.outs Tr.xu;exact .cons ⟨rfl,Tr.lex t h.1⟩ (Tr.ang ts h.2)
end
def Qw (b:aX):Prop:=∀y,lJ y->lJ (b++y)
theorem MR:Qw []:=λ _ h=>h
theorem Kc{b:aX}(hc:c=32\/c=40\/c=41\/c=44):Qw (c::b):=λ y _ d hd=>by simp only[cons_append,head?_cons,Option.some.injEq] at hd;subst hd;exact hc
theorem Qw.app{a b:aX}(h:Qw a)(k:Qw b):Qw (a++b):=λ y hy=>by rw[append_assoc];exact h _ (k y hy)
def rE (o:Option aX)(ws:aK):Prop:=∀t,o=some t->Lx lJ t ws/\Qw t
theorem jY.add{o p:Option aX} (h:jY o u)(k:rE p v):jY (aq o p) (u++v):=λ t ht=>by obtain⟨x,y,hx,hy,rfl⟩:=cj ht;obtain⟨k1,k2⟩:=k y hy;exact(h x hx).app k1 k2
theorem rE.add{o p:Option aX} (h:rE o u)(k:rE p v):rE (aq o p) (u++v):=λ t ht=>by obtain⟨x,y,hx,hy,rfl⟩:=cj ht;obtain⟨k1,k2⟩:=k y hy;exact⟨((h x hx).1).app k1 k2,(h x hx).2.app k2⟩
theorem jY.pre{c:aX} {p:Option aX} (h:Lx vY c u)(k:jY p v):jY (aq (some c) p) (u++v):=λ t ht=>by obtain⟨x,y,hx,hy,rfl⟩:=cj ht;cases hx;exact h.any (k y hy)
theorem rE.pre{b:aX} {p:Option aX} (hc:c=32\/c=40\/c=41\/c=44)(h:Lx vY (c::b) u)(k:jY p v):rE (aq (some (c::b)) p) (u++v):=λ t ht=>by have:=(jY.pre h k) t ht;obtain⟨x,y,hx,hy,rfl⟩:=cj ht;cases hx;exact⟨this,Kc hc⟩
theorem yL:rE (some []) []:=λ t ht=>by cases ht;exact⟨JV _,MR⟩
theorem jY.must{b:Bool} {p:Option aX} (k:jY p v):jY (aq (bl b) p) v:=λ t ht=>by obtain⟨x,y,hx,hy,rfl⟩:=cj ht;obtain⟨_,rfl⟩:=et hx;exact k y hy
theorem rE.must{b:Bool} {p:Option aX} (k:rE p v):rE (aq (bl b) p) v:=λ t ht=>by obtain⟨x,y,hx,hy,rfl⟩:=cj ht;obtain⟨_,rfl⟩:=et hx;exact k y hy
theorem M6 (b:Bool):rE (bl b) []:=λ t ht=>by obtain⟨_,rfl⟩:=et ht;exact⟨JV _,MR⟩
theorem fT (s:ByteArray):jY (dz s) [wW s.data.toList]:=λ t ht=>by unfold dz at ht;obtain⟨x,y,hx,hy,rfl⟩:=cj ht;obtain⟨hb,rfl⟩:=et hx;cases hy;exact Sd hb
theorem sI(h1:n<=9223372036854775807):jY (se n) [⟨2,[],n⟩]:=λ t ht=>by unfold se at ht;obtain⟨x,y,hx,hy,rfl⟩:=cj ht;obtain⟨hb,rfl⟩:=et hx;cases hy;exact Em (of_decide_eq_true hb) h1
theorem iQ{t:aX}(h:kwB t s=true):Lx vY (t++ [32]) [wW s]:=by have:=(nQ h).app eY (λ y _ c hc=>by cases hc;exact .inl rfl);exact Zdt
theorem sJ{a:aX} (h:Lx vY a u):Lx vY (32::a) u:=by simpa using eY.any h
theorem Lx.two{a b:aX} (h:Lx vY a u)(k:Lx vY b v):Lx vY (a++b) (u++v):=h.any k
theorem Kd:Lx vY [40] [sW [40]]:=rA (.inl rfl)
theorem MT:Lx vY [41] [sW [41]]:=rA (.inr (.inl rfl))
theorem MU:Lx vY [44,32] [sW [44]]:=by simpa using(rA (c:=44) (.inr (.inr (.inl rfl)))).any eY
theorem ach(hs:s∈signs):Lx vY (s++ [32]) [sW s]:=(JX hs).app eY (λ y _=>⟨y,rfl⟩)
theorem Am:rE (some [41]) [sW [41]]:=λ t ht=>by cases ht;exact⟨MT.weak λ _ _=>trivial,Kc (.inr (.inr (.inl rfl)))⟩
variable{t:Tr}
theorem rF(h:t.fine):jY t.whole t.words:=λ a ha=>by
 unfold Tr.whole at ha;split at ha
 ·cases ha
 ·exact Tr.lex t h a ha
variable{m:List aK}
theorem vJ{l:List (Option aX)} (h:iK jY l m):jY (dL l) (dA m):=by unfold dL;exact(JY h).must
variable{α:Type}
theorem all_map{f:α->Option aX} {g:α->aK}:∀ {l:List α},(∀x∈l,jY (f x) (g x))->iK jY (l.map f) (l.map g)
 | [],_=> .nil
 | x::l,h=> .cons (h x Tad) (all_map λ y hy=>h y (by simp[hy]))
def yM (x:Tr×ByteArray):aK:=x.1.words++(if x.2.toList=[] then [] else [wW mA]++ [wW x.2.data.toList])
def sK (x:Tr×Bool):aK:=x.1.words++(if x.2 then [wW mJ] else [])
def fV (s:aX)(l:List Tr):aK:=match l with
 | []=> []
 | t::_=> [wW s]++t.words
def tj (lead:aK)(l:List aK):aK:=if l.length=0 then [] else lead++dA l
def xw (l:List Int):aK:=match l with
 | []=> []
 | n::_=> [wW ju]++ [⟨2,[],n⟩]
def Sj (q:Qu):aK:=fV dB q.aS++(tj ([wW iR]++ [wW nB]) (q.group.map Tr.words)++(fV nC q.having++(tj ([wW iT]++ [wW nB]) (q.order.map sK)++xw q.aN)))
def mq (q:Qu):aK:=[wW dw]++((if q.items.length=0 then [sW [42]] else dA (q.items.map yM))++([wW cD]++((if q.only then [wW jD] else [])++([wW q.aP.data.toList]++Sj q))))
theorem aci{x:Tr×ByteArray}(h:x.1.fine):jY (nZ x) (yM x):=by
 unfold nZ yM;refine(rF h).add ?_;split
 ·exact yL
 ·exact rE.pre (.inl rfl) (sJ (iQ (t:=[65,83]) (s:=mA) Tab)) (fT _)
theorem M7{x:Tr×Bool}(h:x.1.fine):jY (jn x) (sK x):=by
 unfold jn sK;refine(rF h).add ?_;cases x.2
 ·exact yL
 ·intro t ht;cases ht;exact⟨eY.any (nQ (t:=[68,69,83,67]) (s:=mJ) Tab),Kc (.inl rfl)⟩
variable{word:aX}
theorem vK(hk:kwB word s=true) {l:List Tr}(h:∀t∈l,t.fine):rE (dX word l) (fV s l):=by
 unfold dX fV;refine rE.must ?_
 match l,h with
 | [],_=>exact yL
 | t::r,h=>exact rE.pre (.inl rfl) (sJ (iQ hk)) (rF (h t Tad))
theorem Sk{a b t:aX}(ha:kwB a s=true)(hb:kwB b t=true) {l:List (Option aX)} (h:iK jY l m):rE (ix (32::(a++32::(b++ [32]))) l) (tj ([wW s]++ [wW t]) m):=by
 unfold ix tj;rw[h.len];split
 ·exact yL
 ·refine rE.pre (.inl rfl) (sJ ?_) (vJ h);have:=(iQ ha).two (iQ hb);exact Zdt
theorem M8{l:List Int}(h:∀n∈l,n<=9223372036854775807):rE (wR l) (xw l):=by
 unfold wR xw;refine rE.must ?_
 match l,h with
 | [],_=>exact yL
 | n::r,h=>exact rE.pre (.inl rfl) (sJ (iQ (t:=[76,73,77,73,84]) (s:=ju) Tab)) (sI (h n Tad))
variable{q:Qu}
theorem M9(hi:∀x∈q.items,x.1.fine)(ho:∀x∈q.order,x.1.fine)(hw:∀t∈q.aS,t.fine)(hg:∀t∈q.group,t.fine)(hh:∀t∈q.having,t.fine)(hl:∀n∈q.aN,n<=9223372036854775807):jY (iU q) (mq q):=by
 unfold iU mq;refine jY.pre (iQ (t:=[83,69,76,69,67,84]) (s:=dw) Tab) (jY.add ?_ (rE.pre (.inl rfl) (sJ (iQ (t:=[70,82,79,77]) (s:=cD) Tab)) ?_))
 ·split
  ·intro t ht;cases ht;exact(rA (c:=42) (.inr (.inr (.inr rfl)))).weak λ _ _=>trivial
  ·exact vJ (all_map λ x hx=>aci (hi x hx))
 ·have rest:jY (aq (dz q.aP) (aq (dX [87,72,69,82,69] q.aS) (aq (ix [32,71,82,79,85,80,32,66,89,32] (q.group.map Tr.whole)) (aq (dX [72,65,86,73,78,71] q.having) (aq (ix [32,79,82,68,69,82,32,66,89,32] (q.order.map jn)) (wR q.aN)))))) ([wW q.aP.data.toList]++Sj q):=by refine(fT _).add ?_;unfold Sj;refine(vK Tab hw).add ?_;refine(Sk (a:=[71,82,79,85,80]) (b:=[66,89]) (s:=iR) (t:=nB) Tab Tab (all_map λ x hx=>rF (hg x hx))).add ?_;refine(vK Tab hh).add ?_;exact(Sk (a:=[79,82,68,69,82]) (b:=[66,89]) (s:=iT) (t:=nB) Tab Tab (all_map λ x hx=>M7 (ho x hx))).add (M8 hl)
  cases q.only
  ·exact jY.pre (JV _) rest
  ·exact jY.pre (iQ (t:=[79,78,76,89]) (s:=jD) Tab) rest
def N0 (t:Int):aX:=if t=1 then wP else if t=2 then CQ else zE
def Ke (c:ByteArray×Int):aK:=[wW c.1.data.toList]++ [wW (N0 c.2)]
def DR (x:ByteArray×Tr):aK:=[wW x.1.data.toList]++([sW [61]]++x.2.words)
def FM (l:List Tr):aK:=[sW [40]]++(dA (l.map Tr.words)++ [sW [41]])
def xx (k:Int):aX:=if k=9 then bV else if k=10 then bQ else gu
def nX (k:Int):aX:=if k=1 then cG else if k=2 then dH else iM
def mW (k:Int):aX:=if k=9 then bV else if k=10 then bQ else if k=11 then df else eP
def nW (n:Int):Wd:=⟨2,[],n⟩
def Ao (v:Val):aK:=if v.k=0 then [wW bT] else if v.n < 0 then [sW [45],nW (-v.n)] else [nW v.n]
theorem ahz (c:ByteArray×Int):jY (Bw c) (Ke c):=by
 unfold Bw Ke;refine(fT _).add ?_;intro t ht;obtain⟨x,y,hx,hy,rfl⟩:=cj ht;obtain⟨hb,rfl⟩:=et hx;cases hy;simp only[Bool.and_eq_true,decide_eq_true_eq] at hb;refine⟨eY.any ?_,Kc (.inl rfl)⟩;have:c.2=1\/c.2=2\/c.2=3:=by omega
 unfold N0;rcases this with e | e | e <;> rw[e] <;> exact nQ Tab
theorem ahA{x:ByteArray×Tr}(h:x.2.fine):jY (Bz x) (DR x):=by unfold Bz DR;exact(fT _).add (rE.pre (.inl rfl) (sJ (ach (s:=[61]) Tab)) (rF h))
theorem ahB{l:List Tr}(h:∀t∈l,t.fine):jY (zH l) (FM l):=by unfold zH FM;exact jY.pre Kd ((vJ (all_map λ x hx=>rF (h x hx))).add Am)
variable{k:Nat}
theorem ahC(h:k<=9223372036854775807):Lx lJ (45::Fe k) [sW [45],nW k]:=by
 have hi:Lib.itoa (k:Int)=Fe k:=by unfold Lib.itoa;rw[if_neg Taa,JW];rfl
 have hn:=Em (n:=(k:Int)) Taa Taa;rw[hi] at hn
 have hs:Lx (λ y=>∃c r,y=c::r/\aL c=true) [45] [sW [45]]:=by
  refine Ai (λ y hy=>?_) Tad;obtain⟨c,r,rfl,hc⟩:=hy;have OO:c≠45:=by rintro rfl;cases hc
  refine⟨?_,?_⟩
  ·show dG (45::c::r)=_;have e:gp signs (45::c::r)=some [45]:=rfl;simp only[dG];rw[if_neg Tab,if_neg Tab,if_neg Tab,e];rfl
  ·show bU false (45::c::r)=_;rw[bU,if_neg Tab,if_neg (by rintro⟨_,h⟩;injection h with h;exact OO h)];rfl
 refine hs.app hn λ y _=>?_
 obtain⟨_,e2,e3,_,_⟩:=Ei k
 cases hd:Fe k with
 | nil=>exact absurd hd e3
 | cons c r=>exact⟨c,r++y,rfl,e2 c (by rw[hd];simp)⟩
theorem Qx{v:Val}(hv:v.Ok):jY (vS v) (Ao v):=λ t ht=>by
 unfold vS at ht;obtain⟨x,y,hx,hy,rfl⟩:=cj ht;obtain⟨hb,rfl⟩:=et hx;obtain⟨x2,y2,hx2,Pw,rfl⟩:=cj hy;obtain⟨hg,rfl⟩:=et hx2;cases Pw;simp only[Bool.or_eq_true,Bool.and_eq_true,beq_iff_eq,decide_eq_true_eq] at hb;unfold Ao mG;show Lx lJ (if good v then _ else _) _;rw[if_pos hg];by_cases h0:v.k=0
 ·rw[if_pos h0,if_pos h0];exact nQ Tab
 ·rw[if_neg h0,if_neg h0];obtain⟨h2,hn⟩:=hb.resolve_left h0;rw[if_neg Taa,if_pos h2];have h1:=hv.2;by_cases xc:v.n < 0
  ·rw[if_pos xc];have e:Lib.itoa v.n=45::Fe v.n.natAbs:=by unfold Lib.itoa;rw[if_pos xc,JW]
   have e2: -v.n=(v.n.natAbs:Int):=by omega
   rw[e,e2];exact ahC Taa
  ·rw[if_neg xc];exact Em Taa h1
def Es (s:St):aK:=
 if s.kind=1 then [wW fA]++ [wW cG]++([wW s.name.data.toList]++([sW [40]]++(dA (s.bg.map Ke)++([sW [41]]++ [wW lY]++([wW s.time.data.toList]++([wW cx]++([nW s.every]++(if s.space.toList=[] then [] else [wW jR]++([wW s.space.data.toList]++([wW fp]++ [nW s.parts]))))))))))
 else if s.kind=3 then [wW fA]++ [wW iM]++([wW s.name.data.toList]++([wW (xx s.what)]++([wW s.cM.data.toList]++((if s.what=9 then [wW cD]++([nW s.a]++([wW CR]++ [nW s.b]))else [wW fg]++ [nW s.a])++([wW cx]++ [nW s.every])))))
 else if s.kind=2 then [wW fA]++ [wW dH]++([wW s.name.data.toList]++([wW mA]++mq s.query))
 else if s.kind=4 then [wW gu]++ [wW (nX s.what)]++ [wW s.name.data.toList]
 else if s.kind=5 then [wW iw]++ [wW fp]++([wW s.name.data.toList]++([wW jf]++dA (s.rows.map FM)))
 else if s.kind=6 then [wW gJ]++([wW s.name.data.toList]++([wW sT]++(dA (s.bF.map DR)++fV dB s.aS)))
 else if s.kind=7 then [wW gK]++ [wW cD]++([wW s.name.data.toList]++fV dB s.aS)
 else if s.kind=8 then mq s.query
 else [wW lX]++ [wW (mW s.kind)]++ [sW [40]]++([wW s.name.data.toList]++([sW [44]]++((if s.kind=9 then Ao s.aP++ [sW [44]] else [])++(Ao s.dx++ [sW [41]]))))
structure St.Lxs (s:St):Prop where
 every:s.every<=9223372036854775807
 parts:s.parts<=9223372036854775807
 a:s.a<=9223372036854775807
 b:s.b<=9223372036854775807
 aP:s.aP.Ok
 dx:s.dx.Ok
 trees:∀t∈s.exprs,t.fine
 aN:∀n∈s.query.aN,n<=9223372036854775807
theorem St.Lxs.query{s:St}(h:s.Lxs):jY (iU s.query) (mq s.query):=by
 have hm:∀t∈s.query.exprs,t.fine:=λ t ht=>h.trees t Tax
 unfold Qu.exprs at hm;simp only[mem_append,mem_map] at hm;exact M9 (λ x hx=>hm _ (.inl (.inl (.inl (.inl ⟨x,hx,rfl⟩))))) (λ x hx=>hm _ (.inr ⟨x,hx,rfl⟩)) (λ t ht=>hm _ (.inl (.inl (.inl (.inr ht))))) (λ t ht=>hm _ (.inl (.inl (.inr ht)))) (λ t ht=>hm _ (.inl (.inr ht))) h.aN
theorem acj{s:St}(h:s.Lxs):jY (ct s) (Es s):=by
 have hq:=h.query;have ht:=h.trees;unfold St.exprs at ht;simp only[mem_append,mem_map,mem_flatten] at ht;have hw:∀t∈s.aS,t.fine:=λ t h=>ht _ (.inl (.inr h))
 have hs:∀x∈s.bF,x.2.fine:=λ x hx=>ht _ (.inl (.inl (.inr ⟨x,hx,rfl⟩)))
 have hr:∀l∈s.rows,∀t∈l,t.fine:=λ l hl t h=>ht _ (.inl (.inl (.inl ⟨l,hl,h⟩)))
 have two:∀ {a b s t:aX},kwB a s=true->kwB b t=true->Lx vY (a++32::(b++ [32])) ([wW s]++ [wW t]):=λ ha hb=>by have:=(iQ ha).two (iQ hb);simpa using this
 unfold ct Es;by_cases h1:s.kind=1
 ·rw[if_pos h1,if_pos h1];unfold nU;refine jY.must (jY.pre (two (a:=[67,82,69,65,84,69]) (b:=[84,65,66,76,69]) Tab Tab) ((fT _).add (rE.pre (.inl rfl) (sJ Kd) ((vJ (all_map λ c _=>ahz c)).add (rE.pre (.inr (.inr (.inl rfl))) ?_ ((fT _).add (rE.pre (.inl rfl) (sJ (iQ (t:=[69,86,69,82,89]) (s:=cx) Tab)) ((sI h.every).add ?_))))))))
  ·have:=MT.two (sJ (iQ (t:=[84,73,77,69]) (s:=lY) Tab));exact Zdt
  ·split
   ·exact M6 _
   ·exact rE.pre (.inl rfl) (sJ (iQ (t:=[83,80,65,67,69]) (s:=jR) Tab)) ((fT _).add (rE.pre (.inl rfl) (sJ (iQ (t:=[73,78,84,79]) (s:=fp) Tab)) (sI h.parts)))
 rw[if_neg h1,if_neg h1];by_cases h3:s.kind=3
 ·rw[if_pos h3,if_pos h3];unfold BA;refine jY.must (jY.pre (two (a:=[67,82,69,65,84,69]) (b:=[74,79,66]) Tab Tab) ((fT _).add ?_));intro t ht;obtain⟨x,y,hx,hy,rfl⟩:=cj ht;obtain⟨hb,rfl⟩:=et hx
  have hj:s.what=9\/s.what=10\/s.what=12:=by
   unfold xO at hb;by_cases e:s.what=9
   ·exact .inl e
   by_cases e2:s.what=10
   ·exact .inr (.inl e2)
   by_cases e3:s.what=12
   ·exact .inr (.inr e3)
   ·simp[e,e2,e3] at hb
  have every:=rE.pre (.inl rfl) (sJ (iQ (t:=[69,86,69,82,89]) (s:=cx) Tab)) (sI h.every);have aft:rE (aq (bl (s.b==0)) (aq (some [32,65,70,84,69,82,32]) (se s.a))) ([wW fg]++ [nW s.a]):=rE.must (rE.pre (.inl rfl) (sJ (iQ (t:=[65,70,84,69,82]) (s:=fg) Tab)) (sI h.a));refine rE.pre (.inl rfl) (sJ (iQ ?_)) ((fT _).add (rE.add ?_ every)) y hy
  ·unfold xO xx;rcases hj with e | e | e <;> rw[e] <;> decide
  ·by_cases e:s.what=9
   ·rw[if_pos e,if_pos e];exact rE.pre (.inl rfl) (sJ (iQ (t:=[70,82,79,77]) (s:=cD) Tab)) ((sI h.a).add (rE.pre (.inl rfl) (sJ (iQ (t:=[84,79]) (s:=CR) Tab)) (sI h.b)))
   ·rw[if_neg e,if_neg e];exact aft
 rw[if_neg h3,if_neg h3];by_cases h2:s.kind=2
 ·rw[if_pos h2,if_pos h2];exact jY.must (jY.pre (two (a:=[67,82,69,65,84,69]) (b:=[86,73,69,87]) Tab Tab) ((fT _).add (rE.pre (.inl rfl) (sJ (iQ (t:=[65,83]) (s:=mA) Tab)) hq)))
 rw[if_neg h2,if_neg h2];by_cases h4:s.kind=4
 ·rw[if_pos h4,if_pos h4];intro t ht;obtain⟨x,y,hx,hy,rfl⟩:=cj ht;obtain⟨hb,rfl⟩:=et hx;simp only[Bool.and_eq_true] at hb
  have hj:s.what=1\/s.what=2\/s.what=3:=by
   have hb:=hb.1;unfold oa at hb;by_cases e:s.what=1
   ·exact .inl e
   by_cases e2:s.what=2
   ·exact .inr (.inl e2)
   by_cases e3:s.what=3
   ·exact .inr (.inr e3)
   ·simp[e,e2,e3] at hb
  refine jY.pre ?_ (fT _) y hy;have:=(iQ (t:=[68,82,79,80]) (s:=gu) Tab).two (iQ (t:=oa s.what) (s:=nX s.what) (by unfold oa nX;rcases hj with e | e | e <;> rw[e] <;> decide));exact Zdt
 rw[if_neg h4,if_neg h4];by_cases h5:s.kind=5
 ·rw[if_pos h5,if_pos h5];exact jY.must (jY.pre (two (a:=[73,78,83,69,82,84]) (b:=[73,78,84,79]) Tab Tab) ((fT _).add (rE.pre (.inl rfl) (sJ (iQ (t:=[86,65,76,85,69,83]) (s:=jf) Tab)) (vJ (all_map λ l hl=>ahB (hr l hl))))))
 rw[if_neg h5,if_neg h5];by_cases h6:s.kind=6
 ·rw[if_pos h6,if_pos h6];exact jY.must (jY.pre (iQ (t:=[85,80,68,65,84,69]) (s:=gJ) Tab) ((fT _).add (rE.pre (.inl rfl) (sJ (iQ (t:=[83,69,84]) (s:=sT) Tab)) ((vJ (all_map λ x hx=>ahA (hs x hx))).add (vK Tab hw)))))
 rw[if_neg h6,if_neg h6];by_cases h7:s.kind=7
 ·rw[if_pos h7,if_pos h7];exact jY.must (jY.pre (two (a:=[68,69,76,69,84,69]) (b:=[70,82,79,77]) Tab Tab) ((fT _).add (vK Tab hw)))
 rw[if_neg h7,if_neg h7];by_cases h8:s.kind=8
 ·rw[if_pos h8,if_pos h8];exact jY.must hq
 rw[if_neg h8,if_neg h8];by_cases h9:9<=s.kind/\s.kind<=12
 ·rw[if_pos h9];refine jY.must (jY.pre ?_ ((fT _).add (rE.pre (.inr (.inr (.inr rfl))) MU ?_)))
  ·have hk:kwB (XY s.kind) (mW s.kind)=true:=by
    have:s.kind=9\/s.kind=10\/s.kind=11\/s.kind=12:=by omega
    unfold XY mW;rcases this with e | e | e | e <;> rw[e] <;> decide
   have:=(iQ (t:=[67,65,76,76]) (s:=lX) Tab).any ((nQ hk).app Kd λ y _ c hc=>by cases hc;exact .inr (.inl rfl));exact Zdt
  ·split
   ·intro t ht;obtain⟨x,y,hx,hy,rfl⟩:=cj ht;obtain⟨x1,x2,hx1,hx2,rfl⟩:=cj hx;cases hx2;have k1:=Qx h.aP x1 hx1;have k2:=((Qx h.dx).add Am) y hy;have:=k1.stop (.inr (.inr (.inr rfl))) (MU.any k2);exact Zdt
   ·exact jY.must ((Qx h.dx).add Am)
 ·rw[if_neg h9];intro t ht;cases ht
theorem aJ (a b:Option aX):(aq a b).isSome=(a.isSome && b.isSome):=by cases a <;> cases b <;> rfl
theorem bj (b:Bool):(bl b).isSome=b:=by cases b <;> rfl
theorem Ag:∀l:List (Option aX),(dV l).isSome=l.all (·.isSome)
 | []=>rfl
 | [o]=>by rw[jT];simp
 | o::p::l=>by rw[kW,aJ,aJ,Ag (p::l)];simp
theorem iH (l:List (Option aX))(h:(dL l).isSome=true):∀o∈l,o.isSome=true:=by unfold dL at h;rw[aJ,Ag,Bool.and_eq_true,all_eq_true] at h;exact h.2
theorem mV(h:t.whole.isSome=true):t.depth<=32:=by
 unfold Tr.whole at h;split at h
 ·cases h
 ·omega
theorem MK{l:List Tr}(h:(dL (l.map Tr.whole)).isSome=true):∀t∈l,t.depth<=32:=λ t ht=>mV (iH _ h _ (List.mem_map.2 ⟨t,ht,rfl⟩))
theorem qz{l:List Tr}(h:(dX word l).isSome=true):∀t∈l,t.depth<=32:=by
 unfold dX at h;rw[aJ,bj,Bool.and_eq_true,decide_eq_true_eq] at h;intro t ht
 match l,h,ht with
 | [u],h,ht=>simp only[mem_singleton] at ht;subst ht;have:=h.2;rw[aJ,Bool.and_eq_true] at this;exact mV this.2
variable{lead:aX}
theorem Ah{l:List (Option aX)}(h:(ix lead l).isSome=true):∀o∈l,o.isSome=true:=by
 unfold ix at h;split at h
 ·rename_i e;intro o ho;rw[List.length_eq_zero_iff.1 e] at ho;cases ho
 ·rw[aJ,Bool.and_eq_true] at h;exact iH _ h.2
theorem Eh(h:(iU q).isSome=true):∀t∈q.exprs,t.depth<=32:=by
 unfold iU at h;simp only[aJ,Bool.and_eq_true] at h;obtain⟨-,hi, -, -, -,hw,hg,hh,ho, -⟩:=h;unfold Qu.exprs;intro t ht;simp only[mem_append,mem_map] at ht;rcases ht with (((⟨x,hx,rfl⟩| ht)| ht)| ht)|⟨x,hx,rfl⟩
 ·have h0:¬q.items.length=0:=by intro e;rw[List.length_eq_zero_iff.1 e] at hx;cases hx
  rw[if_neg h0] at hi;have:=iH _ hi _ (List.mem_map.2 ⟨x,hx,rfl⟩);unfold nZ at this;rw[aJ,Bool.and_eq_true] at this;exact mV this.1
 ·exact qz hw t ht
 ·exact mV (Ah hg _ (List.mem_map.2 ⟨t,ht,rfl⟩))
 ·exact qz hh t ht
 ·have:=Ah ho _ (List.mem_map.2 ⟨x,hx,rfl⟩);unfold jn at this;rw[aJ,Bool.and_eq_true] at this;exact mV this.1
theorem VJ(h:Gj q=true):q.exprs=[]:=by unfold Gj at h;simp only[Bool.and_eq_true,decide_eq_true_eq] at h;have h:=h.1;unfold Qu.exprs;have e1:q.items=[]:=List.length_eq_zero_iff.1 Taa;have e2:q.aS=[]:=List.length_eq_zero_iff.1 Taa;have e3:q.group=[]:=List.length_eq_zero_iff.1 Taa;have e4:q.having=[]:=List.length_eq_zero_iff.1 Taa;have e5:q.order=[]:=List.length_eq_zero_iff.1 Taa;rw[e1,e2,e3,e4,e5];rfl
variable{j e:Bool}
theorem jc{s:St} {c q w r u h t:Bool}(hl:cY s c q j w e r u h t=true)(hq:q=true->∀x∈s.query.exprs,x.depth<=32)(hr:r=true->∀l∈s.rows,∀x∈l,x.depth<=32)(hu:u=true->∀x∈s.bF,x.2.depth<=32)(hh:h=true->∀x∈s.aS,x.depth<=32):∀x∈s.exprs,x.depth<=32:=by
 unfold cY at hl;simp only[Bool.and_eq_true,Bool.or_eq_true,beq_iff_eq] at hl;obtain⟨⟨⟨⟨⟨⟨⟨⟨-, -⟩,l1⟩, -⟩, -⟩,l2⟩,l3⟩,l4⟩, -⟩:=hl;intro x hx;unfold St.exprs at hx;simp only[mem_append,mem_map,mem_flatten] at hx;rcases hx with ((⟨l,hl,hx⟩|⟨y,hy,rfl⟩)| hx)| hx
 ·rcases l2 with l2 | l2
  ·exact hr l2 l hl x hx
  ·rw[List.length_eq_zero_iff.1 l2] at hl;cases hl
 ·rcases l3 with l3 | l3
  ·exact hu l3 y hy
  ·rw[List.length_eq_zero_iff.1 l3] at hy;cases hy
 ·rcases l4 with l4 | l4
  ·exact hh l4 x hx
  ·rw[List.length_eq_zero_iff.1 l4] at hx;cases hx
 ·rcases l1 with l1 | l1
  ·exact hq l1 x hx
  ·rw[VJ l1] at hx;cases hx
theorem VK{s:St}(h:(ct s).isSome=true):∀x∈s.exprs,x.depth<=32:=by
 unfold ct at h;have no:∀ {P:Prop},false=true->P:=λ e=>by cases e
 split at h
 ·unfold nU at h;exact ZeM
 split at h
 ·unfold BA at h;exact ZeM
 split at h
 ·simp only[aJ,bj,Bool.and_eq_true] at h;exact jc h.1 (λ _=>Eh h.2.2.2.2) no no no
 split at h
 ·simp only[aJ,bj,Bool.and_eq_true] at h;exact jc h.1.2 no no no no
 split at h
 ·simp only[aJ,bj,Bool.and_eq_true] at h;refine jc h.1 no (λ _ l hl=>?_) no no;have:=iH _ h.2.2.2.2 _ (List.mem_map.2 ⟨l,hl,rfl⟩);unfold zH at this;simp only[aJ,Bool.and_eq_true] at this;exact MK this.2.1
 split at h
 ·simp only[aJ,bj,Bool.and_eq_true] at h;refine jc h.1 no no (λ _ x hx=>?_) (λ _=>qz h.2.2.2.2.2);have:=iH _ h.2.2.2.2.1 _ (List.mem_map.2 ⟨x,hx,rfl⟩);unfold Bz at this;simp only[aJ,Bool.and_eq_true] at this;exact mV this.2.2
 split at h
 ·simp only[aJ,bj,Bool.and_eq_true] at h;exact jc h.1 no no no (λ _=>qz h.2.2.2)
 split at h
 ·simp only[aJ,bj,Bool.and_eq_true] at h;exact jc h.1.1 (λ _=>Eh h.2) no no no
 split at h
 ·exact ZeM
 ·cases h
theorem MM{s:ByteArray}(h:s.toList=[]):s=ByteArray.empty:=by exact Zgv
theorem Al{v:Val}(h:kX v=true):v=aV:=by obtain⟨k,n,s⟩:=v;unfold kX at h;simp only[Bool.and_eq_true,beq_iff_eq] at h;obtain⟨h1,h2,h3⟩:=h;subst h1 h2;rw[MM h3];rfl
variable{name:ByteArray}{width:Int}
theorem rC{v:Val}  (h:bJ v name width=true):v=aV/\name=ByteArray.empty/\width=0:=by unfold bJ at h;simp only[Bool.and_eq_true,beq_iff_eq] at h;exact⟨Al h.1,MM h.2.1,h.2.2⟩
structure Ends (k:Nat) (r:aK):Prop where
 o:ar bG r=false
 e5:k<=5->eB (opsL 5) r=none
 e4:k<=4->eB (opsL 4) r=none
 e3:k<=3->eB (opsL 3) r=none/\ar mz r=false
 e1:k<=1->eB (opsL 1) r=none
 e0:k<=0->eB (opsL 0) r=none
variable{r:aK}
theorem Ends.up{j:Nat} (h:Ends k r)(hk:k<=j):Ends j r:=⟨h.o,λ e=>h.e5 Taa,λ e=>h.e4 Taa,λ e=>h.e3 Taa,λ e=>h.e1 Taa,λ e=>h.e0 Taa⟩
structure wz (h:Wd):Prop where
 ahx:gV eC h=false
 minus:gV dP h=false
 star:gV fq h=false
variable{below:Ps Tr}{l:aK}{x:Tr}
theorem lK(hb:cU below)(lv:Nat)  (h:below l=.ok (x,r))(he:eB (opsL lv) r=none):jZ below lv l=.ok (x,r):=by rw[Jj,ag h,ri hb,he]
variable{same:Ps Tr}
theorem JZ{s:List UInt8}    (hs:ar s l=false)(h:below l=.ok (x,r)):IQ s op same below l=.ok (x,r):=by unfold IQ;rw[cg];simp only[hs];exact h
theorem MN(h:below l=.ok (x,r))(hi:ar mz r=false)(he:eB (opsL 3) r=none):qU below l=.ok (x,r):=by unfold qU;rw[ag h,cg];simp only[hi];unfold wQ;simp[he]
variable{h:Wd}{tl:aK}
theorem anh(hA:wz h)(hE:Ends k r)(hx:aW (k+1) (h::tl)=.ok (x,r))(hk:k<=6):aW k (h::tl)=.ok (x,r):=by
 match k,hk with
 | 0,_=>rw[BZ];exact lK (cw 1) 0 hx (hE.e0 (Nat.le_refl _))
 | 1,_=>rw[Ca];exact lK (cw 2) 1 hx (hE.e1 (Nat.le_refl _))
 | 2,_=>rw[Cb];exact JZ hA.ahx hx
 | 3,_=>exact ZgM
 | 4,_=>rw[Cc];exact lK (cw 5) 4 hx (hE.e4 (Nat.le_refl _))
 | 5,_=>rw[Ce];exact lK (cw 6) 5 hx (hE.e5 (Nat.le_refl _))
 | 6,_=>rw[Jh];exact JZ hA.minus hx
theorem Ka(hA:wz h) (hE:Ends k r):∀d,k+d<=7->aW (k+d) (h::tl)=.ok (x,r)->aW k (h::tl)=.ok (x,r)
 | 0,_,hx=>hx
 | d+1,hd,hx=>Ka hA hE d Taa (anh hA (hE.up Taa) hx Taa)
theorem pI(hE:Ends 0 r) (hk:k<=6)(hn:2 < k->ar eC l=false)(hx:aW k l=.ok (x,r)):aW 0 l=.ok (x,r):=by
 have go:∀j,j < k->aW (j+1) l=.ok (x,r)->aW j l=.ok (x,r):=by
  intro j hj hx;have hE:=hE.up (Nat.zero_le j)
  match j,hj,hE with
  | 0,_,hE=>rw[BZ];exact lK (cw 1) 0 hx (hE.e0 (Nat.le_refl _))
  | 1,_,hE=>rw[Ca];exact lK (cw 2) 1 hx (hE.e1 (Nat.le_refl _))
  | 2,hj,hE=>rw[Cb];exact JZ (hn hj) hx
  | 3,_,hE=>exact ZgM
  | 4,_,hE=>rw[Cc];exact lK (cw 5) 4 hx (hE.e4 (Nat.le_refl _))
  | 5,_,hE=>rw[Ce];exact lK (cw 6) 5 hx (hE.e5 (Nat.le_refl _))
  | j+6,hj,_=>omega
 have all:∀d,d<=k->aW (k - d) l=.ok (x,r):=by
  intro d
  induction d with
  | zero=>intro _;exact hx
  | succ d ih=>intro hd;have:=ih Taa;refine go _ Taa ?_;rw[show k - (d+1)+1=k - d by omega];exact this
 have:=all k (Nat.le_refl _);rwa [Nat.sub_self] at this
structure Rd (t:Tr):Prop where
 top:∀r,Ends 0 r->aW 0 (t.words++r)=.ok (t,r)
 arg:∀r,ar bG r=false->aW 7 (fS (t.op,t.words)++r)=.ok (t,r)
 ah:∃h tl,fS (t.op,t.words)=h::tl/\wz h
 th:∃h tl,t.words=h::tl/\gV fq h=false
theorem sH (r:aK)(k:Nat):Ends k (sW [41]::r):=⟨rfl,λ _=>rfl,λ _=>rfl,λ _=>⟨rfl,rfl⟩,λ _=>rfl,λ _=>rfl⟩
theorem cB{s:List UInt8} {t:Wd} (h:gV s t=true):must s (t::r)=.ok ((),r):=by unfold must;rw[if_pos (show ar s (t::r)=true from h)];rfl
theorem Rd.uA(hl:jm t.op=true)(top:∀r,Ends 0 r->aW 0 (t.words++r)=.ok (t,r))(th:∃h tl,t.words=h::tl/\gV fq h=false):Rd t:=by
 have ea:fS (t.op,t.words)=sW [40]::(t.words++ [sW [41]]):=by unfold fS;rw[if_pos hl];rfl
 refine⟨top,λ r hr=>?_,⟨_,_,ea,⟨rfl,rfl,rfl⟩⟩,th⟩;rw[ea,yf];show dZ (aW 0) (sW [40]::((t.words++ [sW [41]])++r))=_;have e:(t.words++ [sW [41]])++r=t.words++(sW [41]::r):=by simp
 rw[e];unfold dZ;dsimp only;rw[if_neg Tab,if_neg Tab,if_neg Tab,if_neg Tab,if_neg Tab,if_pos Tab];rw[ag (top _ (sH r 0)),ag (cB Tab)];rfl
theorem Rd.Cn(hl:jm t.op=false)(at7:∀r,ar bG r=false->aW 7 (t.words++r)=.ok (t,r))(hh:∃h tl,t.words=h::tl/\wz h):Rd t:=by
 have ea:fS (t.op,t.words)=t.words:=by unfold fS;simp[hl]
 obtain⟨h,tl,e,hA⟩:=hh;refine⟨λ r hr=>?_,λ r hr=>by rw[ea];exact at7 r hr,⟨h,tl,by rw[ea];exact e,hA⟩,⟨h,tl,e,hA.star⟩⟩;have:=at7 r hr.o;rw[e] at this ⊢;exact Ka hA hr 7 Taa this
theorem Rd.at_(h:Rd t) (hk:k<=7) (hE:Ends k r):aW k (fS (t.op,t.words)++r)=.ok (t,r):=by obtain⟨d,tl,e,hA⟩:=h.ah;have:=h.arg r hE.o;rw[e] at this ⊢;refine Ka (x:=t) hA hE (7 - k) Taa ?_;rw[show k+(7 - k)=7 by omega];exact this
variable{lv:Nat}{A B:aK}
theorem L5{a b:Tr}   {o:Int}(hlv:lv+1<=7)(ha:aW (lv+1) (A++w::(B++r))=.ok (a,w::(B++r)))(ho:eB (opsL lv) (w::(B++r))=some o)(hb:aW (lv+1) (B++r)=.ok (b,r))(hr:eB (opsL lv) r=none):
  jZ (aW (lv+1)) lv (A++w::(B++r))=.ok (lO o [a,b],r):=by rw[Jj,ag ha,ri (cw _),ho];show(aW (lv+1)>>= λ y=>Lm (aW (lv+1)) lv (lO o [a,y])) (B++r)=_;rw[ag hb,ri (cw _),hr]
def Kb (op:Int):Nat:=if op=17 then 0 else if op=16 then 1 else if op<=6 then 4 else if op<=9 then 5 else 3
theorem L6(h:cL op=true)(r:aK):Ends (Kb op+1) (yK op::r)/\eB (opsL (Kb op)) (yK op::r)=some op:=by
 unfold cL at h;simp only[Bool.and_eq_true,decide_eq_true_eq] at h;obtain rfl | rfl | rfl | rfl | rfl | rfl | rfl | rfl | rfl | rfl | rfl | rfl | rfl:op=5\/op=6\/op=7\/op=8\/op=9\/op=10\/op=11\/op=12\/op=13\/op=14\/op=15\/op=16\/op=17:=by omega
 all_goals
  refine⟨⟨rfl,λ e=>?_,λ e=>?_,λ e=>?_,λ e=>?_,λ e=>?_⟩,rfl⟩;all_goals first | rfl | exact⟨rfl,rfl⟩| exact absurd e Tab
theorem L8{a:Tr}   {o:Int}(h:eB (opsL 3) (w::l)=some o):wQ below a (w::l)=(below >>= λ y=>(pure (lO o [a,y]):Ps Tr)) l:=by show(match eB (opsL 3) (w::l)with | none=>(Except.ok (a,w::l):Except Nat (Tr×aK))| some o=>(below >>= λ y=>(pure (lO o [a,y]):Ps Tr)) l)=_;rw[h]
theorem L9(h:cL op=true) {a b:Tr}(ha:Rd a)(hb:Rd b):∀r,Ends 0 r->aW 0 ((fS (a.op,a.words)++([yK op]++fS (b.op,b.words)))++r)=.ok (lO op [a,b],r):=by
 intro r hr;have e:(fS (a.op,a.words)++([yK op]++fS (b.op,b.words)))++r=fS (a.op,a.words)++yK op::(fS (b.op,b.words)++r):=by simp
 rw[e];obtain⟨t1,t2⟩:=L6 h (fS (b.op,b.words)++r);have hd:ar eC (fS (a.op,a.words)++yK op::(fS (b.op,b.words)++r))=false:=by obtain⟨d,tl,e,hA⟩:=ha.ah;rw[e];exact hA.ahx
 have hlv:Kb op=0\/Kb op=1\/Kb op=3\/Kb op=4\/Kb op=5:=by
  unfold Kb;split
  ·simp
  split
  ·simp
  split
  ·simp
  split <;> simp
 have left:∀lv,lv=0\/lv=1\/lv=4\/lv=5->Kb op=lv->jZ (aW (lv+1)) lv (fS (a.op,a.words)++yK op::(fS (b.op,b.words)++r))=.ok (lO op [a,b],r):=by
  intro lv hl e;rw[e] at t1 t2;have h7:lv+1<=7:=by omega
  have hr2:eB (opsL lv) r=none:=by
   rcases hl with rfl | rfl | rfl | rfl
   ·exact hr.e0 Taa
   ·exact hr.e1 Taa
   ·exact hr.e4 Taa
   ·exact hr.e5 Taa
  exact L5 h7 (ha.at_ h7 t1) t2 (hb.at_ h7 (hr.up (Nat.zero_le _))) hr2
 rcases hlv with hl | hl | hl | hl | hl
 ·exact BZ▸left 0 Tad hl
 ·exact pI hr (k:=1) Taa (λ h=>absurd h Taa) (Ca▸left 1 Tad hl)
 ·refine pI hr (k:=3) Taa (λ _=>hd) ?_;rw[hl] at t1 t2;rw[ye];unfold qU;rw[ag (ha.at_ Taa t1),cg]
  have hi:ar mz (yK op::(fS (b.op,b.words)++r))=false:=by
   cases hi:ar mz (yK op::(fS (b.op,b.words)++r))
   ·rfl
   ·exfalso;unfold cL at h;simp only[Bool.and_eq_true,decide_eq_true_eq] at h;obtain rfl | rfl | rfl | rfl | rfl | rfl | rfl | rfl | rfl | rfl | rfl | rfl | rfl:op=5\/op=6\/op=7\/op=8\/op=9\/op=10\/op=11\/op=12\/op=13\/op=14\/op=15\/op=16\/op=17:=by omega
    all_goals cases hi
  simp only[hi];show wQ (aW 4) a (yK op::(fS (b.op,b.words)++r))=_;rw[L8 t2,ag (hb.at_ Taa (hr.up (Nat.zero_le _)))];rfl
 ·exact pI hr (k:=4) Taa (λ _=>hd) (Cc▸left 4 Tad hl)
 ·exact pI hr (k:=5) Taa (λ _=>hd) (Ce▸left 5 Tad hl)
theorem Si{s:List UInt8}     (hs:gV s w=true)(h:same l=.ok (x,r)):IQ s op same below (w::l)=.ok (lO op [x],r):=by unfold IQ;rw[cg];have e:ar s (w::l)=true:=hs;simp only[e,if_true,tail_cons];rw[ag h];rfl
theorem VO{a:Tr}(ha:Rd a):∀r,Ends 0 r->aW 0 (([sW [45]]++fS (a.op,a.words))++r)=.ok (lO 3 [a],r):=by intro r hr;refine pI hr (k:=6) Taa (λ _=>rfl) ?_;rw[Jh];exact Si rfl (ha.at_ Taa (hr.up (Nat.zero_le _)))
theorem M0{a:Tr}(ha:Rd a):∀r,Ends 0 r->aW 0 (([wW eC]++fS (a.op,a.words))++r)=.ok (lO 4 [a],r):=by intro r hr;refine pI hr (k:=2) Taa (λ h=>absurd h Taa) ?_;rw[Cb];exact Si rfl (ha.at_ Taa (hr.up (Nat.zero_le _)))
theorem Hh{a:Tr}(ha:Rd a)(n:Bool):∀r,Ends 0 r->aW 0 ((fS (a.op,a.words)++(wW mz::((if n then [wW eC] else [])++ [wW bT])))++r)=.ok (lO (if n then 19 else 18) [a],r):=by
 intro r hr;have e:(fS (a.op,a.words)++(wW mz::((if n then [wW eC] else [])++ [wW bT])))++r=fS (a.op,a.words)++wW mz::(((if n then [wW eC] else [])++ [wW bT])++r):=by simp
 rw[e];refine pI hr (k:=3) Taa (λ _=>?_) ?_
 ·obtain⟨d,tl,e,hA⟩:=ha.ah;rw[e];exact hA.ahx
 ·rw[ye];unfold qU;have hE:Ends 4 (wW mz::(((if n then [wW eC] else [])++ [wW bT])++r)):=⟨rfl,λ _=>rfl,λ _=>rfl,λ e=>absurd e Tab,λ e=>absurd e Tab,λ e=>absurd e Tab⟩;rw[ag (ha.at_ Taa hE),cg];have hi:ar mz (wW mz::(((if n then [wW eC] else [])++ [wW bT])++r))=true:=rfl;simp only[hi,if_true,tail_cons];cases n
  ·rfl
  ·rfl
theorem M3{v:Val}(hg:good v=true)(hn:v.k≠2\/0<=v.n):(∀r,ar bG r=false->aW 7 ([VN v]++r)=.ok (mI v,r))/\wz (VN v):=by
 obtain⟨k,n,s⟩:=v;unfold good at hg;dsimp only at hg hn;unfold VN;dsimp only;have at7:∀(w:Wd) (x:Tr),(∀r,dZ (aW 0) (w::r)=.ok (x,r))->∀r,ar bG r=false->aW 7 ([w]++r)=.ok (x,r):=λ w x h r _=>by rw[yf];exact h r
 by_cases h0:k=0
 ·rw[if_pos h0] at hg ⊢;simp only[Bool.and_eq_true,beq_iff_eq,kQ] at hg;obtain⟨h1,h2⟩:=hg;subst h0 h1;rw[MM h2];exact ZdA
 rw[if_neg h0] at hg ⊢;by_cases h1:k=1
 ·rw[if_pos h1] at hg ⊢;simp only[Bool.and_eq_true,Bool.or_eq_true,beq_iff_eq,kQ] at hg;obtain⟨h2,h3⟩:=hg;subst h1;rw[MM h2];rcases h3 with rfl | rfl
  ·exact ZdA
  ·exact ZdA
 rw[if_neg h1] at hg ⊢;by_cases h2:k=2
 ·rw[if_pos h2] at hg ⊢;simp only[beq_iff_eq,kQ] at hg;subst h2;rw[MM hg];exact ZdA
 rw[if_neg h2] at hg ⊢;by_cases h3:k=3
 ·rw[if_pos h3] at hg;simp only[beq_iff_eq] at hg;subst h3 hg;exact ZdA
 ·rw[if_neg h3] at hg;cases hg
theorem Hi(hr:kP s=false)(h40:s≠bG)(r:aK):dZ (aW 0) (wW s::r)=kU (aW 0) (wW s::r):=by
 have no:∀w:List UInt8,kP w=true\/w=bG->gV w (wW s)=false:=by
  intro w hw;cases h:gV w (wW s)
  ·rfl
  ·exfalso;unfold gV wW at h;simp only[Bool.and_eq_true,beq_iff_eq] at h;rcases hw with hw | hw
   ·rw[h.2,hw] at hr;cases hr
   ·exact h40 (h.2.trans hw)
 unfold dZ;dsimp only;rw[no eK (.inl Tab),no eh (.inl Tab),no bT (.inl Tab),no bG (.inr rfl)];rfl
theorem MO(hr:kP s=false)(r:aK):cC (wW s::r)=.ok (⟨s.toArray⟩,r):=by unfold cC;dsimp only[wW];rw[if_pos ⟨rfl,hr⟩]
theorem Ep(h:jd s=true):kP s=false/\s≠bG/\s≠dP/\s≠fq:=by
 match s,h with
 | c::r,h=>
   simp only[jd,Bool.and_eq_true,decide_eq_true_eq,Bool.not_eq_true'] at h;obtain⟨⟨⟨h1,h2⟩,h3⟩,h4⟩:=h;have hc:cq c=true:=by have:=List.all_eq_true.1 h4 c mem_cons_self;simp only[Bool.and_eq_true] at this;exact this.2
   refine⟨h2,?_,?_,?_⟩<;>
   ·intro e;injection e with e _;rw[e] at hc;revert hc;decide
theorem Qv(hr:kP s=false)(h1:s≠dP)(h2:s≠fq):wz (wW s):=by
 refine⟨?_,?_,?_⟩
 ·cases h:gV eC (wW s)
  ·rfl
  ·unfold gV wW at h;simp only[Bool.and_eq_true,beq_iff_eq] at h;rw[h.2] at hr;revert hr;decide
 ·cases h:gV dP (wW s)
  ·rfl
  ·unfold gV wW at h;simp only[Bool.and_eq_true,beq_iff_eq] at h;exact absurd h.2 h1
 ·cases h:gV fq (wW s)
  ·rfl
  ·unfold gV wW at h;simp only[Bool.and_eq_true,beq_iff_eq] at h;exact absurd h.2 h2
variable{whole:Ps Tr}
theorem MP(hr:kP s=false)(r:aK):kU whole (wW s::r)=(if ar bG r then(match lB ⟨s.toArray⟩with
 | none=> .error r.length
 | some op=>ou whole op r.tail)else .ok (rV ⟨s.toArray⟩,r)):=ag (MO hr r)
theorem M4(h:jd name.data.toList=true):(∀r,ar bG r=false->aW 7 ([wW name.data.toList]++r)=.ok (rV name,r))/\wz (wW name.data.toList):=by obtain⟨h1,h2,h3,h4⟩:=Ep h;refine⟨λ r hr=>?_,Qv h1 h3 h4⟩;rw[yf];show dZ (aW 0) (wW name.data.toList::r)=_;rw[Hi h1 h2,MP h1,hr];rfl
theorem MQ(hr:kP s=false)(h2:s≠bG)(hf:lB ⟨s.toArray⟩=some op)(h:ou (aW 0) op l=.ok (x,r)):aW 7 (wW s::sW [40]::l)=.ok (x,r):=by rw[yf,Hi hr h2,MP hr,if_pos (show ar bG (sW [40]::l)=true from rfl),hf];exact h
theorem Hj:(∀r,ar bG r=false->aW 7 ([wW xN,sW [40],sW [42],sW [41]]++r)=.ok (lO 21 [],r))/\wz (wW xN):=
 ⟨λ r _=>MQ (op:=22) Tab Tab Tab rfl,⟨rfl,rfl,rfl⟩⟩
variable{xs:List Tr}
theorem VP(hx:(op=27\/op=28)/\(∃a b,xs=[a,b]/\Rd a/\Rd b)\/(¬(op=27\/op=28)/\∃a,xs=[a]/\Rd a))(hw:op≠20->width=0)(r:aK):
  nY (aW 0) op (((if op=20 then [⟨2,[],width⟩,sW [44]] else [])++(dA (xs.map Tr.words)++ [sW [41]]))++r)=.ok (.mk op aV ByteArray.empty width xs,r):=by
 unfold nY
 have e1:∀l:aK,rY op ((if op=20 then [⟨2,[],width⟩,sW [44]] else [])++l)=.ok (width,l):=by
  intro l;unfold rY;by_cases Mj:op=20
  ·rw[if_pos Mj,if_pos Mj];rfl
  ·rw[if_neg Mj,if_neg Mj,hw Mj];rfl
 have ahy:∀l:aK,Ends 0 (sW [44]::l):=λ l=>⟨rfl,λ _=>rfl,λ _=>rfl,λ _=>⟨rfl,rfl⟩,λ _=>rfl,λ _=>rfl⟩
 rw[append_assoc,ag (e1 _)];rcases hx with ⟨h2,a,b,rfl,ha,hb⟩|⟨h2,a,rfl,ha⟩
 ·have e:(dA ([a,b].map Tr.words)++ [sW [41]])++r=a.words++(sW [44]::(b.words++(sW [41]::r))):=by simp only[map_cons,map_nil,xt,rB];simp
  rw[e,ag (ha.top _ (ahy _))];unfold ot;rw[if_pos h2,ag (p:=(must bt >>= λ _=>aW 0 >>= λ y=>(pure [y]:Ps (List Tr)))) (x:=[b]) (r:=sW [41]::r) (by rw[ag (cB rfl),ag (hb.top _ (sH r 0))];rfl),ag (cB rfl)];rfl
 ·have e:(dA ([a].map Tr.words)++ [sW [41]])++r=a.words++(sW [41]::r):=by simp only[map_cons,map_nil,rB];simp
  rw[e,ag (ha.top _ (sH r 0))];unfold ot;rw[if_neg h2,ag (p:=(pure []:Ps (List Tr))) (x:=[]) (r:=sW [41]::r) rfl,ag (cB rfl)];rfl
theorem zhS.KcB(h:p:=by
 have hs:kP (nS op).1=false/\(nS op).1≠bG/\lB ⟨(nS op).1.toArray⟩=some op/\wz (wW (nS op).1):=by rcases wB with rfl | rfl | rfl | rfl | rfl | rfl | rfl | rfl <;> exact⟨by decide,by decide,by decide,⟨rfl,rfl,rfl⟩⟩
 obtain⟨h1,h2,h3,h4⟩:=hs;refine⟨λ r=>?_,_,_,rfl,h4⟩;have ea:=VP hx hw r;have e:(Aj op width++(dA (xs.map Tr.words)++ [sW [41]]))++r=wW (nS op).1::sW [40]::(((if op=20 then [⟨2,[],width⟩,sW [44]] else [])++(dA (xs.map Tr.words)++ [sW [41]]))++r):=by unfold Aj;simp
 rw[e];refine MQ h1 h2 h3 ?_;unfold ou;by_cases h22:op=22
 ·rw[if_pos h22];subst h22;unfold countP;rw[cg];rcases hx with ⟨h,_⟩|⟨_,a,rfl,ha⟩
  ·exact absurd h Tab
  ·have hst:ar fq (((if (22:Int)=20 then [⟨2,[],width⟩,sW [44]] else [])++(dA ([a].map Tr.words)++ [sW [41]]))++r)=false:=by rw[if_neg Tab];simp only[map_cons,map_nil,rB,nil_append];obtain⟨h,tl,e,hst⟩:=ha.th;rw[e];exact hst
   simp only[hst];exact ea
 ·rw[if_neg h22];exact ea):p:=h
theorem acg(hf:ko op=true)(hx:(op=27\/op=28)/\(∃a b,xs=[a,b]/\Rd a/\Rd b)\/(¬(op=27\/op=28)/\∃a,xs=[a]/\Rd a))(hw:op≠20->width=0):
  (∀r,aW 7 ((Aj op width++(dA (xs.map Tr.words)++ [sW [41]]))++r)=.ok (.mk op aV ByteArray.empty width xs,r))/\∃h tl,Aj op width++(dA (xs.map Tr.words)++ [sW [41]])=h::tl/\wz h:=by
 open zhS in exact Zgr
theorem rD{o:Option aX}(h:(jF (op,o)).isSome=true):o.isSome=true:=by
 unfold jF at h;dsimp only at h;split at h
 ·rw[aJ,aJ,Bool.and_eq_true,Bool.and_eq_true] at h;exact h.2.1
 ·exact h
theorem Er{a:Tr}(ha:Rd a)(l:aK):∃h tl,fS (a.op,a.words)++l=h::tl/\gV fq h=false:=by obtain⟨h,tl,e,hA⟩:=ha.ah;exact⟨h,tl++l,by rw[e];rfl,hA.star⟩
theorem zhT.KcB(h:p:=by
 have one:∀xs:List Tr,xs.length=1->∃a,xs=[a]:=λ xs h=>List.length_eq_one_iff.1 h
 have two:∀xs:List Tr,xs.length=2->∃a b,xs=[a,b]:=λ xs h=>by
  match xs,h with
  | [a,b],_=>exact⟨a,b,rfl⟩
 have hx:(op=27\/op=28)/\(∃a b,args=[a,b]/\Rd a/\Rd b)\/(¬(op=27\/op=28)/\∃a,args=[a]/\Rd a):=by
  by_cases h2:op=27\/op=28
  ·left;have:args.length=2:=by rw[hlen];rcases h2 with rfl | rfl <;> rfl
   obtain⟨a,b,rfl⟩:=two args this;exact⟨h2,a,b,rfl,M5 a Tad,M5 b Tad⟩
  ·right;have:args.length=1:=by rw[hlen];rcases wB with rfl | rfl | rfl | rfl | rfl | rfl | rfl | rfl;all_goals first | rfl | exact absurd Tab h2
   obtain⟨a,rfl⟩:=one args this;exact⟨h2,a,rfl,M5 a Tad⟩
 obtain⟨k1,k2⟩:=acg (width:=width) hf hx (λ h=>b3.resolve_left h);have ew:(args.map λ t=>(t.op,t.words)).map (·.2)=args.map Tr.words:=by simp
 rw[ew] at hwd;rw[Al b1,MM b2] at hwd Hk ⊢;exact .Cn (Hk _ PZ) (λ r _=>by rw[hwd];exact k1 r) (by rw[hwd];exact k2)):p:=h
theorem ani (op:Int)(v:Val)(name:ByteArray)(width:Int)(args:List Tr)(hall:∀t∈args,t.out.isSome=true->Rd t)(ho:(kY op v name width (Tr.outs args)).isSome=true):Rd (.mk op v name width args):=by
 have hop:(Tr.mk op v name width args).op=op:=rfl;have hwd:(Tr.mk op v name width args).words=En op v name width (Tr.xu args):=by rw[Tr.words]
 have Hk:∀b,jm op=b->jm (Tr.mk op v name width args).op=b:=λ b h=>h
 rw[nG] at ho;rw[Eo] at hwd;unfold kY at ho;unfold En at hwd;have nol:¬cL op=true->¬op=3->¬op=4->¬op=18->¬op=19->jm op=false:=by intro a b c d e;unfold jm;simp[a,b,c,d,e]
 by_cases h1:op=1
 ·rw[if_pos h1] at ho hwd;rw[aJ,bj,Bool.and_eq_true] at ho;have hb:=ho.1;simp only[Bool.and_eq_true,Bool.or_eq_true,decide_eq_true_eq,bne_iff_ne,beq_iff_eq,length_map,ne_eq] at hb;obtain⟨b1,b2,b3,b4,b5⟩:=hb;obtain⟨l1,l2⟩:=M3 b4 b5;have e:Tr.mk op v name width args=mI v:=by rw[List.length_eq_zero_iff.1 b1,MM b2,b3,h1];rfl
  have PZ:jm op=false:=nol (by rw[h1];decide) Taa Taa Taa Taa;exact ZgC
 rw[if_neg h1] at ho hwd;by_cases h2:op=2
 ·rw[if_pos h2] at ho hwd;unfold dz at ho;simp only[aJ,bj,Bool.and_eq_true] at ho;obtain⟨hb,hn,_⟩:=ho;simp only[Bool.and_eq_true,beq_iff_eq,length_map] at hb;obtain⟨b1,b2,b3⟩:=hb;obtain⟨l1,l2⟩:=M4 hn;have e:Tr.mk op v name width args=rV name:=by rw[List.length_eq_zero_iff.1 b1,Al b2,b3,h2];rfl
  have PZ:jm op=false:=nol (by rw[h2];decide) Taa Taa Taa Taa;exact ZgC
 rw[if_neg h2] at ho hwd;by_cases h21:op=21
 ·rw[if_pos h21] at ho hwd;rw[aJ,bj,Bool.and_eq_true] at ho;have hb:=ho.1;simp only[Bool.and_eq_true,beq_iff_eq,length_map] at hb;obtain⟨b1,b2⟩:=hb;obtain⟨p1,p2,p3⟩:=rC b2;have e:Tr.mk op v name width args=lO 21 []:=by rw[List.length_eq_zero_iff.1 b1,p1,p2,p3,h21];rfl
  have PZ:jm op=false:=nol (by rw[h21];decide) Taa Taa Taa Taa;exact .Cn (Hk _ PZ) (λ r hr=>by rw[hwd,e];exact Hj.1 r hr) ⟨_,_,hwd,Hj.2⟩
 rw[if_neg h21] at ho hwd;by_cases h3:cL op=true
 ·rw[if_pos h3] at ho hwd
  match args,hall,ho,hwd,hop,Hk with
  | [a,b],hall,ho,hwd,hop,Hk=>
    replace ho:(if bJ v name width then aq (jF (a.op,a.out)) (aq (some (32::(qI op++ [32]))) (jF (b.op,b.out)))else none).isSome=true:=ho;replace hwd:(Tr.mk op v name width [a,b]).words=fS (a.op,a.words)++([yK op]++fS (b.op,b.words)):=hwd;split at ho
    ·rename_i hp;obtain⟨p1,p2,p3⟩:=rC hp;rw[aJ,aJ,Bool.and_eq_true,Bool.and_eq_true] at ho;have ra:=hall a Tad (rD ho.1);have rb:=hall b Tad (rD ho.2.2);subst p1 p2 p3;exact .uA (Hk _ (by unfold jm;simp[h3])) (λ r hr=>by rw[hwd];exact L9 h3 ra rb r hr) Tbb
    ·cases ho
  | [],_,ho,_,_,_=>cases ho
  | [_],_,ho,_,_,_=>cases ho
  | _::_::_::_,_,ho,_,_,_=>cases ho
 rw[if_neg h3] at ho hwd;by_cases h4:op=3
 ·rw[if_pos h4] at ho hwd
  match args,hall,ho,hwd,hop,Hk with
  | [a],hall,ho,hwd,hop,Hk=>
    replace ho:(if bJ v name width then aq (some [45,32]) (jF (a.op,a.out))else none).isSome=true:=ho;replace hwd:(Tr.mk op v name width [a]).words=[sW [45]]++fS (a.op,a.words):=hwd;split at ho
    ·rename_i hp;obtain⟨p1,p2,p3⟩:=rC hp;rw[aJ,Bool.and_eq_true] at ho;have ra:=hall a Tad (rD ho.2);subst p1 p2 p3 h4;exact .uA (Hk _ Tab) (λ r hr=>by rw[hwd];exact VO ra r hr) (by rw[hwd];exact⟨_,_,rfl,rfl⟩)
    ·cases ho
  | [],_,ho,_,_,_=>cases ho
  | _::_::_,_,ho,_,_,_=>cases ho
 rw[if_neg h4] at ho hwd;by_cases h5:op=4
 ·rw[if_pos h5] at ho hwd
  match args,hall,ho,hwd,hop,Hk with
  | [a],hall,ho,hwd,hop,Hk=>
    replace ho:(if bJ v name width then aq (some [78,79,84,32]) (jF (a.op,a.out))else none).isSome=true:=ho;replace hwd:(Tr.mk op v name width [a]).words=[wW eC]++fS (a.op,a.words):=hwd;split at ho
    ·rename_i hp;obtain⟨p1,p2,p3⟩:=rC hp;rw[aJ,Bool.and_eq_true] at ho;have ra:=hall a Tad (rD ho.2);subst p1 p2 p3 h5;exact .uA (Hk _ Tab) (λ r hr=>by rw[hwd];exact M0 ra r hr) (by rw[hwd];exact⟨_,_,rfl,rfl⟩)
    ·cases ho
  | [],_,ho,_,_,_=>cases ho
  | _::_::_,_,ho,_,_,_=>cases ho
 rw[if_neg h5] at ho hwd;by_cases TD:op=18
 ·rw[if_pos TD] at ho hwd
  match args,hall,ho,hwd,hop,Hk with
  | [a],hall,ho,hwd,hop,Hk=>
    replace ho:(if bJ v name width then aq (jF (a.op,a.out)) (some [32,73,83,32,78,85,76,76])else none).isSome=true:=ho;replace hwd:(Tr.mk op v name width [a]).words=fS (a.op,a.words)++ [wW mz,wW bT]:=hwd;split at ho
    ·rename_i hp;obtain⟨p1,p2,p3⟩:=rC hp;rw[aJ,Bool.and_eq_true] at ho;have ra:=hall a Tad (rD ho.1);subst p1 p2 p3 TD;exact .uA (Hk _ Tab) (λ r hr=>by rw[hwd];exact Hh ra false r hr) Tbb
    ·cases ho
  | [],_,ho,_,_,_=>cases ho
  | _::_::_,_,ho,_,_,_=>cases ho
 rw[if_neg TD] at ho hwd;by_cases TE:op=19
 ·rw[if_pos TE] at ho hwd
  match args,hall,ho,hwd,hop,Hk with
  | [a],hall,ho,hwd,hop,Hk=>
    replace ho:(if bJ v name width then aq (jF (a.op,a.out)) (some [32,73,83,32,78,79,84,32,78,85,76,76])else none).isSome=true:=ho;replace hwd:(Tr.mk op v name width [a]).words=fS (a.op,a.words)++ [wW mz,wW eC,wW bT]:=hwd;split at ho
    ·rename_i hp;obtain⟨p1,p2,p3⟩:=rC hp;rw[aJ,Bool.and_eq_true] at ho;have ra:=hall a Tad (rD ho.1);subst p1 p2 p3 TE;exact .uA (Hk _ Tab) (λ r hr=>by rw[hwd];exact Hh ra true r hr) Tbb
    ·cases ho
  | [],_,ho,_,_,_=>cases ho
  | _::_::_,_,ho,_,_,_=>cases ho
 rw[if_neg TE] at ho hwd;have PZ:jm op=false:=nol h3 h4 h5 TD TE;by_cases hf:(ko op &&(args.map λ t=>(t.op,t.out)).length==(nS op).2)=true
 ·rw[if_pos hf] at ho;simp only[Bool.and_eq_true,beq_iff_eq,length_map] at hf;obtain⟨hf,hlen⟩:=hf;simp only[aJ,bj,Ag,Bool.and_eq_true,all_eq_true] at ho;obtain⟨hb,_,_,hj,_⟩:=ho;have M5:∀t∈args,Rd t:=λ t ht=>hall t ht (hj _ (by simp only[mem_map];exact⟨_,⟨t,ht,rfl⟩,rfl⟩))
  simp only[Bool.or_eq_true,beq_iff_eq] at hb;obtain⟨b1,b2,b3⟩:=hb;open zhT in exact Zgr
 ·rw[if_neg hf] at ho;cases ho
mutual
theorem Tr.read:∀t:Tr,t.out.isSome=true->Rd t
 | .mk op v name width args,h=>by unfold Tr.out at h;exact ani op v name width args (λ t ht=>Tr.reads args t ht) h
theorem Tr.reads:∀ts:List Tr,∀t∈ts,t.out.isSome=true->Rd t
 | t::ts,u,hu,h=>by
   rcases List.mem_cons.1 hu with e | hu
   ·rw[e] at h ⊢;exact Tr.read t h
   ·exact Tr.reads ts u hu h
end
end Go.Proofs.YtehhdlgjfdnafaaGreatDoor
