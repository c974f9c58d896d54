/- Parts of the proof. -/
import Derived.Test.YtehhdlgjfdnafaaGreatDoorXB22
namespace Go.Proofs.YtehhdlgjfdnafaaGreatDoor
open List
variable{p:Prop}
set_option maxHeartbeats 90000000
set_option maxRecDepth 100000
set_option linter.unusedVariables false
set_option linter.unusedSimpArgs false
def wW (s:aV):Wd:=⟨1,s,0⟩
def sW (s:aV):Wd:=⟨4,s,0⟩
def Lx (P:aV->Prop)(a:aV)(ws:aI):Prop:=∀y,P y->∃ps:List (Wd×Nat),(∀ps2 q,Vd y ps2 q->Vd (a++y) (ps++ps2) q)/\ps.map (·.1)=ws
def vq (_:aV):Prop:=True
def kL (y:aV):Prop:=∀c,y.head?=some c->c=32\/c=40\/c=41\/c=44
def PI (y:aV):Prop:=∃r,y=32::r
variable{P Q:aV->Prop}{u v:aI}
theorem Lx.app{a b:aV} (h:Lx P a u)(k:Lx Q b v)(VO:∀y,Q y->P (b++y)):Lx Q (a++b) (u++v):=by intro y hy;obtain⟨p1,r1,m1⟩:=k y hy;obtain⟨p2,r2,m2⟩:=h (b++y) (VO y hy);refine⟨p2++p1,λ ps2 q hr=>?_,by simp[m1,m2]⟩;rw[append_assoc,append_assoc];exact r2 _ _ (r1 _ _ hr)
theorem Lx.weak{a:aV} (h:Lx P a u)(VO:∀y,Q y->P y):Lx Q a u:=λ y hy=>h y (VO y hy)
theorem Lx.any{a b:aV} (h:Lx vq a u)(k:Lx Q b v):Lx Q (a++b) (u++v):=h.app k λ _ _=>trivial
variable{c:UInt8}
theorem Lx.stop{a b:aV}  (h:Lx kL a u)(hc:c=32\/c=40\/c=41\/c=44)(k:Lx Q (c::b) v):Lx Q (a++c::b) (u++v):=
 h.app k λ y _ d hd=>by simp only[cons_append,head?_cons,Option.some.injEq] at hd;subst hd;exact hc
theorem Lx.blank{a b:aV} (h:Lx PI a u)(k:Lx Q (32::b) v):Lx Q (a++32::b) (u++v):=
 h.app k λ y _=>⟨b++y,rfl⟩
theorem Ji (P:aV->Prop):Lx P [] []:=λ y _=>⟨[],λ ps2 q hr=>hr,rfl⟩
theorem eO:Lx vq [32] []:=λ y _=>⟨[],λ ps2 q hr=>Vd.start hr (by show bM false (32::y)=bM false y;simp[bM,cO]),rfl⟩
variable{w:Wd}
theorem zJ{a:aV} (h:∀y,P y->dH (a++y)=.ok (w,y)/\bM false (a++y)=a++y)(h0:a≠ []):Lx P a [w]:=λ y hy=>by
 obtain⟨h1,h2⟩:=h y hy
 match a,h0 with
 | c::r,_=>exact⟨[(w,((c::r)++y).length)],λ ps2 q hr=>Vd.step h2 h1 hr,rfl⟩
variable{y:aV}
theorem DB(h:kL y)(p:UInt8->Bool)(h1:p 32=false)(h2:p 40=false)(h3:p 41=false)(h4:p 44=false):y.head?.any p=false:=by
 cases y with
 | nil=>rfl
 | cons c r=>rcases h c rfl with rfl | rfl | rfl | rfl <;> simpa
variable{d:UInt8}{s:aV}
theorem Rm{l:aV}(hd:bJ d=true)(hw:∀x∈d::l,cx x=true)(Xt:(d::l).map oU=s)(hlen:(d::l).length<=32):Lx kL (d::l) [wW s]:=
 zJ (λ y hy=>by
  obtain⟨t1,t2⟩:=Gk (p:=cx) (b:=d::l) (x:=y) hw (DB hy cx Tab Tab Tab Tab)
  refine⟨?_,Jh hd⟩
  rw[cons_append] at t1 t2 ⊢
  simp only[dH,if_pos hd]
  rw[t1,t2,if_pos hlen,Xt]
  rfl) Tae
def kwB (t s:aV):Bool:=match t with
 | []=>false
 | d::l=>bJ d &&(d::l).all cx &&(d::l).map oU==s && decide ((d::l).length<=32)
theorem nc{t:aV}(h:kwB t s=true):Lx kL t [wW s]:=by
 match t,h with
 | d::l,h=>simp only[kwB,Bool.and_eq_true,beq_iff_eq,decide_eq_true_eq,all_eq_true] at h;exact Rm h.1.1.1 h.1.1.2 h.1.2 h.2
theorem Ve(h:yO c=false):oU c=c:=by unfold oU;rw[h];rfl
theorem Rn(h:pR s=true):Lx kL s [wW s]:=by
 match s,h with
 | c::r,h=>
   simp only[pR,Bool.and_eq_true,decide_eq_true_eq,Bool.not_eq_true'] at h;obtain⟨⟨⟨h1,h2⟩,h3⟩,h4⟩:=h;have hall:∀x∈c::r,yO x=false/\cx x=true:=λ x hx=>by have:=List.all_eq_true.1 h4 x hx;simpa using this
   have hc:bJ c=true:=by have:=(hall c mem_cons_self).2;simpa [cx,h3] using this
   refine Rm hc (λ x hx=>(hall x hx).2) ?_ h1;have:(c::r).map oU=(c::r).map id:=map_congr_left λ x hx=>Ve (hall x hx).1
   rw[this,map_id]
theorem Jj:∀n:Nat,Lib.decDigits n=Em n:=λ n=>by
 induction n using Nat.strongRecOn with
 | _ n ih=>
   rw[Lib.decDigits,Em];split
   ·rfl
   ·rw[ih (n / 10) Taa]
variable{n:Int}
theorem DC(h0:0<=n)(h1:n<=9223372036854775807):Lx kL (Lib.itoa n) [⟨2,[],n⟩]:=by
 obtain⟨k,rfl⟩:=Int.eq_ofNat_of_zero_le h0;have hi:Lib.itoa (k:Int)=Em k:=by unfold Lib.itoa;rw[if_neg Taa,Jj];rfl
 rw[hi];obtain⟨e1,e2,e3,_,_⟩:=Dz k;have hn:=aaV (n:=k) Taa;refine zJ (λ y hy=>?_) e3;obtain⟨t1,t2⟩:=Gk (p:=aL) (b:=Em k) (x:=y) e2 (DB hy aL Tab Tab Tab Tab)
 cases hd:Em k with
 | nil=>exact absurd hd e3
 | cons c r=>
   rw[hd] at t1 t2 e1 e2 hn;have hc:aL c=true:=e2 c Tae
   have hl:bJ c=false:=by
    cases hlt:bJ c
    ·rfl
    ·rw[Jg hlt] at hc;cases hc
   refine⟨?_,?_⟩
   ·rw[cons_append] at t1 t2 ⊢;simp only[dH,hl,hc,if_true];rw[t1,t2,hn,e1];rw[DB hy bJ Tab Tab Tab Tab];rfl
   ·rw[cons_append];refine rK ?_ ?_
    ·cases hb:cO c
     ·rfl
     ·rcases tT hb with rfl | rfl | rfl | rfl <;> cases hc
    ·rintro rfl;cases hc
theorem Ro:∀s:aV,JI s=ET s
 | []=>rfl
 | c::r=>by simp only[JI,ET,Ro r]
theorem aaX (s:aV):Lx kL (39::(JI s++ [39])) [⟨3,s,0⟩]:=by
 rw[Ro];refine zJ (λ y hy=>⟨?_,?_⟩) Tae
 ·have aqY:y.head?≠some 39:=λ e=>by rcases hy 39 e with h | h | h | h <;> cases h
  have:=DA aqY s [];show dH (39::((ET s++ [39])++y))=_;rw[append_assoc];show dH (39::(ET s++39::y))=_;simp only[dH];rw[if_neg Tab,if_neg Tab,if_pos trivial]
  cases ht:gu (ET s++39::y)with
  | none=>rw[ht] at this;simp[more] at this
  | some x=>obtain⟨t,rest⟩:=x;rw[ht] at this;simp[more] at this;obtain⟨rfl,rfl⟩:=this;rfl
 ·exact rK Tab Tab
theorem qH(hc:c=40\/c=41\/c=44\/c=42):Lx vq [c] [sW [c]]:=by
 refine zJ (λ y _=>⟨?_,?_⟩) Tae
 ·rcases hc with rfl | rfl | rfl | rfl <;> rfl
 ·rcases hc with rfl | rfl | rfl | rfl <;> exact rK Tab Tab
theorem Jk(hs:s∈signs):Lx PI s [sW s]:=by
 have h:=List.all_eq_true.1 PH s hs
 match s,h with
 | c::l,h=>
   simp only[Bool.and_eq_true,Bool.not_eq_true',beq_eq_false_iff_ne,ne_eq] at h;obtain⟨⟨⟨h1,h2⟩,h3⟩,h4⟩:=h;refine zJ (λ y hy=>?_) Tae;obtain⟨r,rfl⟩:=hy;have hsg:=E3 hs (x:=32::r) (.inr ⟨32,r,rfl,rfl⟩);refine⟨?_,?_⟩
   ·rw[cons_append] at hsg ⊢;simp only[dH,h1,h2,if_neg h3];rw[hsg];simp[sW]
   ·rw[cons_append];by_cases NQ:c=45
    ·subst NQ;rcases E4 hs with ⟨d,hd⟩|⟨d,e,hd⟩
     ·injection hd with _ hd;subst hd;rfl
     ·exfalso;injection hd with hd1 yJ;subst hd1 yJ;revert hs;simp[signs]
    ·exact rK h4 NQ
def Vf (v:Val):Wd:=if v.k=0 then wW bK else if v.k=1 then(if v.n=1 then wW eu else wW dP)else if v.k=2 then⟨2,[],v.n⟩else⟨3,v.s.data.toList,0⟩
def df:List aI->aI
 | []=> []
 | x::l=>x++(match l with | []=> [] | y::r=>sW [44]::df (y::r))
theorem qI (x:aI):df [x]=x:=by simp[df]
theorem wI (x y:aI)(l:List aI):df (x::y::l)=x++sW [44]::df (y::l):=by rw[df]
def fN (a:Int×aI):aI:=if iY a.1 then [sW [40]]++(a.2++ [sW [41]])else a.2
def xU (op:Int):Wd:=if op=16 then wW Km else if op=17 then wW WX else sW (pH op)
def zK (op width:Int):aI:=[wW (nB op).1,sW [40]]++(if op=20 then [⟨2,[],width⟩,sW [44]] else [])
def DD (op:Int)(v:Val)(name:ByteArray)(width:Int)(l:List (Int×aI)):aI:=
 if op=1 then [Vf v]
 else if op=2 then [wW name.data.toList]
 else if op=21 then [wW xg,sW [40],sW [42],sW [41]]
 else if dc op then match l with
  | [x,y]=>fN x++([xU op]++fN y)
  | _=> []
 else if op=3 then match l with
  | [x]=> [sW [45]]++fN x
  | _=> []
 else if op=4 then match l with
  | [x]=> [wW ei]++fN x
  | _=> []
 else if op=18 then match l with
  | [x]=>fN x++ [wW lQ,wW bK]
  | _=> []
 else if op=19 then match l with
  | [x]=>fN x++ [wW lQ,wW ei,wW bK]
  | _=> []
 else zK op width++(df (l.map (·.2))++ [sW [41]])
mutual
def Tr.words:Tr->aI
 | .mk op v name width args=>DD op v name width (Tr.wJ args)
def Tr.wJ:List Tr->List (Int×aI)
 | []=> []
 | t::ts=>(t.op,t.words)::Tr.wJ ts
end
theorem DF:∀ts:List Tr,Tr.wJ ts=ts.map λ t=>(t.op,t.words)
 | []=>rfl
 | t::ts=>by simp[Tr.wJ,DF ts]
theorem bT{o p:Option aV} {a:aV}(h:aq o p=some a):∃x y,o=some x/\p=some y/\a=x++y:=by cases o <;> cases p <;> simp[aq] at h;exact⟨_,_,rfl,rfl,h.symm⟩
theorem dV{b:Bool} {a:aV}(h:bg b=some a):b=true/\a=[]:=by cases b <;> simp[bg] at h;exact⟨rfl,h⟩
def jJ (o:Option aV)(ws:aI):Prop:=∀t,o=some t->Lx kL t ws
variable{op:Int}{ws:aI}
theorem zL{o:Option aV} (h:jJ o ws):jJ (jO (op,o)) (fN (op,ws)):=by
 intro t ht;unfold jO fN at*;dsimp only at ht ⊢;by_cases hl:iY op=true;rotate_left
 ·rw[if_neg hl] at ht ⊢;exact h t ht
 ·rw[if_pos hl] at ht ⊢;obtain⟨x,y0,hx,hy0,rfl⟩:=bT ht;obtain⟨y,z,hy,hz,rfl⟩:=bT hy0;cases hx;cases hz;exact(qH (.inl rfl)).any ((h y hy).stop (.inr (.inr (.inl rfl))) ((qH (.inr (.inl rfl))).weak λ _ _=>trivial))
theorem Jl:∀ {l:List (Option aV)} {m:List aI},fE jJ l m->jJ (dM l) (df m)
 | [],[],_,t,ht=>by cases ht;exact Ji _
 | [o],[w],h,t,ht=>by
   cases h with
   | cons a _=>rw[pX] at ht;rw[qI];exact a t ht
 | o::p::l,w::x::m,h,t,ht=>by
   cases h with
   | cons a b=>rw[oa] at ht;rw[wI];obtain⟨y,z0,hy,hz0,rfl⟩:=bT ht;obtain⟨c,z,hc,hz,rfl⟩:=bT hz0;cases hc;have ih:=Jl b z hz;exact(a y hy).stop (.inr (.inr (.inr rfl))) ((qH (.inr (.inr (.inl rfl)))).any (eO.any ih))
 | [_],_::_::_,h,_,_=>by cases h with | cons _ b=>cases b
 | _::_::_,[_],h,_,_=>by cases h with | cons _ b=>cases b
 | [],_::_,h,_,_=>by cases h
 | _::_,[],h,_,_=>by cases h
theorem agb{v:Val}(hg:good v=true)(hn:v.k≠2\/0<=v.n)(hv:v.n<=9223372036854775807):Lx kL (lV v) [Vf v]:=by
 unfold lV Vf;rw[if_pos hg];by_cases h0:v.k=0
 ·rw[if_pos h0,if_pos h0];exact nc Tab
 rw[if_neg h0,if_neg h0];by_cases h1:v.k=1
 ·rw[if_pos h1,if_pos h1];split
  ·exact nc Tab
  ·exact nc Tab
 rw[if_neg h1,if_neg h1];by_cases h2:v.k=2
 ·rw[if_pos h2,if_pos h2];exact DC (hn.resolve_left λ h=>h h2) hv
 ·rw[if_neg h2,if_neg h2];exact aaX _
theorem agc(h:dc op=true):Lx PI (pH op) [xU op]:=by
 unfold dc at h;simp only[Bool.and_eq_true,decide_eq_true_eq] at h;obtain rfl | rfl | rfl | rfl | rfl | rfl | rfl | rfl | rfl | rfl | rfl | rfl | rfl:op=5\/op=6\/op=7\/op=8\/op=9\/op=10\/op=11\/op=12\/op=13\/op=14\/op=15\/op=16\/op=17:=by omega
 case inr.inr.inr.inr.inr.inr.inr.inr.inr.inr.inr.inl=>exact(nc Tab).weak λ y ⟨r,hr⟩ c hc=>by subst hr;injection hc with hc;exact .inl hc.symm
 case inr.inr.inr.inr.inr.inr.inr.inr.inr.inr.inr.inr=>exact(nc Tab).weak λ y ⟨r,hr⟩ c hc=>by subst hr;injection hc with hc;exact .inl hc.symm
 all_goals exact Jk Tab
theorem alN(h:kQ op=true):Lx kL (nB op).1 [wW (nB op).1]:=by
 unfold kQ at h;simp only[Bool.or_eq_true,Bool.and_eq_true,decide_eq_true_eq,beq_iff_eq] at h;obtain rfl | rfl | rfl | rfl | rfl | rfl | rfl | rfl:op=20\/op=22\/op=23\/op=24\/op=25\/op=26\/op=27\/op=28:=by omega
 all_goals exact nc Tab
variable{f:Int×Option aV->Int×Option aV->Option aV}{g:Int×aI->Int×aI->aI}
theorem agd(hfg:∀x o w y p u,jJ o w->jJ p u->jJ (f (x,o) (y,p)) (g (x,w) (y,u))):∀ {l:List (Int×Option aV)} {m:List (Int×aI)},fE (λ a b=>a.1=b.1/\jJ a.2 b.2) l m->jJ (match l with | [x,y]=>f x y | _=>none) (match m with | [x,y]=>g x y | _=> [])
 | [(x,o),(y,p)],_,.cons (y:=(x',w)) h1 (.cons (y:=(y',u)) h2 .nil),t,ht=>by obtain⟨e1,h1⟩:=h1;obtain⟨e2,h2⟩:=h2;dsimp only at e1 h1 e2 h2;subst e1 e2;exact hfg _ _ _ _ _ _ h1 h2 t ht
 | [],_,_,t,ht=>by cases ht
 | [_],_,_,t,ht=>by cases ht
 | _::_::_::_,_,_,t,ht=>by cases ht
theorem Rp{f:Int×Option aV->Option aV} {g:Int×aI->aI}(hfg:∀x o w,jJ o w->jJ (f (x,o)) (g (x,w))):∀ {l:List (Int×Option aV)} {m:List (Int×aI)},fE (λ a b=>a.1=b.1/\jJ a.2 b.2) l m->jJ (match l with | [x]=>f x | _=>none) (match m with | [x]=>g x | _=> [])
 | [(x,o)],_,.cons (y:=(x',w)) h1 .nil,t,ht=>by obtain⟨e1,h1⟩:=h1;dsimp only at e1 h1;subst e1;exact hfg _ _ _ h1 t ht
 | [],_,_,t,ht=>by cases ht
 | _::_::_,_,_,t,ht=>by cases ht
theorem ara (op:Int)(v:Val)(name:ByteArray)(width:Int)(l:List (Int×Option aV))(m:List (Int×aI))(hlm:fE (λ a b=>a.1=b.1/\jJ a.2 b.2) l m)(hw:width<=9223372036854775807)(hv:v.n<=9223372036854775807):jJ (od op v name width l) (DD op v name width m):=by
 have kn:Lx kL [78,85,76,76] [wW bK]:=nc Tab;unfold od DD;by_cases h1:op=1
 ·rw[if_pos h1,if_pos h1];intro a ha;obtain⟨x,y,hx,hy,rfl⟩:=bT ha;obtain⟨hb,rfl⟩:=dV hx;cases hy;simp only[Bool.and_eq_true,Bool.or_eq_true,decide_eq_true_eq,bne_iff_ne] at hb;exact agb hb.2.2.2.1 hb.2.2.2.2 hv
 rw[if_neg h1,if_neg h1];by_cases h2:op=2
 ·rw[if_pos h2,if_pos h2];intro a ha;obtain⟨x,y,hx,hy,rfl⟩:=bT ha;obtain⟨_,rfl⟩:=dV hx;unfold dx at hy;obtain⟨x2,y2,hx2,OE,rfl⟩:=bT hy;obtain⟨hb2,rfl⟩:=dV hx2;cases OE;exact Rn hb2
 rw[if_neg h2,if_neg h2];by_cases h21:op=21
 ·rw[if_pos h21,if_pos h21];intro a ha;obtain⟨x,y,hx,hy,rfl⟩:=bT ha;obtain⟨_,rfl⟩:=dV hx;cases hy;exact((nc (t:=[99,111,117,110,116]) (s:=xg) Tab).stop (b:=[42,41]) (c:=40) (.inr (.inl rfl)) ((qH (c:=40) (.inl rfl)).any ((qH (c:=42) (.inr (.inr (.inr rfl)))).any ((qH (c:=41) (.inr (.inl rfl))).weak (Q:=kL) λ _ _=>trivial))))
 rw[if_neg h21,if_neg h21];by_cases h3:dc op=true
 ·rw[if_pos h3,if_pos h3];refine agd (f:=λ x y=>if bF v name width then aq (jO x) (aq (some (32::(pH op++ [32]))) (jO y))else none) (g:=λ x y=>fN x++([xU op]++fN y)) (λ x o w y p u k1 k2 t ht=>?_) hlm;split at ht
  ·obtain⟨a1,a2,e1,e2,rfl⟩:=bT ht;obtain⟨a3,a4,e3,e4,rfl⟩:=bT e2;cases e3;have:=(zL (op:=x) k1 a1 e1).stop (.inl rfl) (eO.any ((agc h3).blank (eO.any (zL (op:=y) k2 a4 e4))));exact Zd5
  ·cases ht
 rw[if_neg h3,if_neg h3];by_cases h4:op=3
 ·rw[if_pos h4,if_pos h4];refine Rp (f:=λ x=>if bF v name width then aq (some [45,32]) (jO x)else none) (g:=λ x=> [sW [45]]++fN x) (λ x o w h t ht=>?_) hlm;split at ht
  ·obtain⟨a1,a2,e1,e2,rfl⟩:=bT ht;cases e1;have:=(Jk (s:=[45]) Tab).blank (eO.any (zL (op:=x) h a2 e2));exact Zd5
  ·cases ht
 rw[if_neg h4,if_neg h4];by_cases h5:op=4
 ·rw[if_pos h5,if_pos h5];refine Rp (f:=λ x=>if bF v name width then aq (some [78,79,84,32]) (jO x)else none) (g:=λ x=> [wW ei]++fN x) (λ x o w h t ht=>?_) hlm;split at ht
  ·obtain⟨a1,a2,e1,e2,rfl⟩:=bT ht;cases e1;have:=(nc (t:=[78,79,84]) (s:=ei) Tab).stop (.inl rfl) (eO.any (zL (op:=x) h a2 e2));exact Zd5
  ·cases ht
 rw[if_neg h5,if_neg h5];by_cases SJ:op=18
 ·rw[if_pos SJ,if_pos SJ];refine Rp (f:=λ x=>if bF v name width then aq (jO x) (some [32,73,83,32,78,85,76,76])else none) (g:=λ x=>fN x++ [wW lQ,wW bK]) (λ x o w h t ht=>?_) hlm;split at ht
  ·obtain⟨a1,a2,e1,e2,rfl⟩:=bT ht;cases e2;have:=(zL (op:=x) h a1 e1).stop (.inl rfl) (eO.any ((nc (t:=[73,83]) (s:=lQ) Tab).stop (.inl rfl) (eO.any kn)));exact Zd5
  ·cases ht
 rw[if_neg SJ,if_neg SJ];by_cases SK:op=19
 ·rw[if_pos SK,if_pos SK];refine Rp (f:=λ x=>if bF v name width then aq (jO x) (some [32,73,83,32,78,79,84,32,78,85,76,76])else none) (g:=λ x=>fN x++ [wW lQ,wW ei,wW bK]) (λ x o w h t ht=>?_) hlm;split at ht
  ·obtain⟨a1,a2,e1,e2,rfl⟩:=bT ht;cases e2;have:=(zL (op:=x) h a1 e1).stop (.inl rfl) (eO.any ((nc (t:=[73,83]) (s:=lQ) Tab).stop (.inl rfl) (eO.any ((nc (t:=[78,79,84]) (s:=ei) Tab).stop (.inl rfl) (eO.any kn)))));exact Zd5
  ·cases ht
 rw[if_neg SK,if_neg SK];intro a ha;by_cases hf:(kQ op && l.length==(nB op).2)=true
 ·rw[if_pos hf] at ha;simp only[Bool.and_eq_true] at hf;obtain⟨a1,b1,e1,f1,rfl⟩:=bT ha;obtain⟨_,rfl⟩:=dV e1;obtain⟨a2,b2,e2,f2,rfl⟩:=bT f1;cases e2;obtain⟨a3,b3,e3,f3,rfl⟩:=bT f2;obtain⟨a4,b4,e4,f4,rfl⟩:=bT f3;cases f4
  have hj:fE jJ (l.map (·.2)) (m.map (·.2)):=by
   clear ha e4 f1 f2 f3 hf
   induction hlm with
   | nil=>exact .nil
   | cons p _ ih=>exact .cons p.2 ih
  have k4:=(Jl hj a4 e4).stop (b:=[]) (c:=41) (.inr (.inr (.inl rfl))) ((qH (c:=41) (.inr (.inl rfl))).weak (Q:=kL) λ _ _=>trivial);have k1:=λ {b:aV} {u:aI} (k:Lx kL b u)=>(alN hf.1).stop (c:=40) (.inr (.inl rfl)) ((qH (c:=40) (.inl rfl)).any k)
  unfold zK;by_cases Pc:op=20
  ·rw[if_pos Pc] at e3 ⊢;obtain⟨c1,c2,g1,g2,rfl⟩:=bT e3;cases g2;unfold tj at g1;obtain⟨d1,d2,i1,i2,rfl⟩:=bT g1;obtain⟨j1,rfl⟩:=dV i1;cases i2;have:=k1 ((DC (of_decide_eq_true j1) hw).stop (.inr (.inr (.inr rfl))) ((qH (c:=44) (.inr (.inr (.inl rfl)))).any (eO.any k4)));exact Zd5
  ·rw[if_neg Pc] at e3 ⊢;cases e3;have:=k1 k4;exact Zd5
 ·rw[if_neg hf] at ha;cases ha
mutual
theorem Tr.lex:∀t:Tr,t.fine->jJ t.out t.words
 | .mk op v name width args,h=>by unfold Tr.fine at h;unfold Tr.out Tr.words;exact ara op v name width _ _ (Tr.alO args h.2) h.1.2.2.2.2 h.1.1.2
theorem Tr.alO:∀ts:List Tr,Tr.tx ts->fE (λ a b=>a.1=b.1/\jJ a.2 b.2) (Tr.outs ts) (Tr.wJ ts)
 | [],_=> .nil
 | t::ts,h=>by unfold Tr.tx at h;unfold Tr.outs Tr.wJ;exact .cons ⟨rfl,Tr.lex t h.1⟩ (Tr.alO ts h.2)
end
def PK (b:aV):Prop:=∀y,kL y->kL (b++y)
theorem Mh:PK []:=λ _ h=>h
theorem Jp{b:aV}(hc:c=32\/c=40\/c=41\/c=44):PK (c::b):=λ y _ d hd=>by simp only[cons_append,head?_cons,Option.some.injEq] at hd;subst hd;exact hc
theorem PK.app{a b:aV}(h:PK a)(k:PK b):PK (a++b):=λ y hy=>by rw[append_assoc];exact h _ (k y hy)
def qL (o:Option aV)(ws:aI):Prop:=∀t,o=some t->Lx kL t ws/\PK t
theorem jJ.add{o p:Option aV} (h:jJ o u)(k:qL p v):jJ (aq o p) (u++v):=λ t ht=>by obtain⟨x,y,hx,hy,rfl⟩:=bT ht;obtain⟨k1,k2⟩:=k y hy;exact(h x hx).app k1 k2
theorem qL.add{o p:Option aV} (h:qL o u)(k:qL p v):qL (aq o p) (u++v):=λ t ht=>by obtain⟨x,y,hx,hy,rfl⟩:=bT ht;obtain⟨k1,k2⟩:=k y hy;exact⟨((h x hx).1).app k1 k2,(h x hx).2.app k2⟩
theorem jJ.pre{c:aV} {p:Option aV} (h:Lx vq c u)(k:jJ p v):jJ (aq (some c) p) (u++v):=λ t ht=>by obtain⟨x,y,hx,hy,rfl⟩:=bT ht;cases hx;exact h.any (k y hy)
theorem qL.pre{b:aV} {p:Option aV} (hc:c=32\/c=40\/c=41\/c=44)(h:Lx vq (c::b) u)(k:jJ p v):qL (aq (some (c::b)) p) (u++v):=λ t ht=>by have:=(jJ.pre h k) t ht;obtain⟨x,y,hx,hy,rfl⟩:=bT ht;cases hx;exact⟨this,Jp hc⟩
theorem xV:qL (some []) []:=λ t ht=>by cases ht;exact⟨Ji _,Mh⟩
theorem jJ.must{b:Bool} {p:Option aV} (k:jJ p v):jJ (aq (bg b) p) v:=λ t ht=>by obtain⟨x,y,hx,hy,rfl⟩:=bT ht;obtain⟨_,rfl⟩:=dV hx;exact k y hy
theorem qL.must{b:Bool} {p:Option aV} (k:qL p v):qL (aq (bg b) p) v:=λ t ht=>by obtain⟨x,y,hx,hy,rfl⟩:=bT ht;obtain⟨_,rfl⟩:=dV hx;exact k y hy
theorem F8 (b:Bool):qL (bg b) []:=λ t ht=>by obtain⟨_,rfl⟩:=dV ht;exact⟨Ji _,Mh⟩
theorem fO (s:ByteArray):jJ (dx s) [wW s.data.toList]:=λ t ht=>by unfold dx at ht;obtain⟨x,y,hx,hy,rfl⟩:=bT ht;obtain⟨hb,rfl⟩:=dV hx;cases hy;exact Rn hb
theorem rM(h1:n<=9223372036854775807):jJ (tj n) [⟨2,[],n⟩]:=λ t ht=>by unfold tj at ht;obtain⟨x,y,hx,hy,rfl⟩:=bT ht;obtain⟨hb,rfl⟩:=dV hx;cases hy;exact DC (of_decide_eq_true hb) h1
theorem iy{t:aV}(h:kwB t s=true):Lx vq (t++ [32]) [wW s]:=by have:=(nc h).app eO (λ y _ c hc=>by cases hc;exact .inl rfl);exact Zd5
theorem rN{a:aV} (h:Lx vq a u):Lx vq (32::a) u:=by simpa using eO.any h
theorem Lx.two{a b:aV} (h:Lx vq a u)(k:Lx vq b v):Lx vq (a++b) (u++v):=h.any k
theorem Jq:Lx vq [40] [sW [40]]:=qH (.inl rfl)
theorem Mi:Lx vq [41] [sW [41]]:=qH (.inr (.inl rfl))
theorem Mj:Lx vq [44,32] [sW [44]]:=by simpa using(qH (c:=44) (.inr (.inr (.inl rfl)))).any eO
theorem aba(hs:s∈signs):Lx vq (s++ [32]) [sW s]:=(Jk hs).app eO (λ y _=>⟨y,rfl⟩)
theorem zN:qL (some [41]) [sW [41]]:=λ t ht=>by cases ht;exact⟨Mi.weak λ _ _=>trivial,Jp (.inr (.inr (.inl rfl)))⟩
variable{t:Tr}
theorem qM(h:t.fine):jJ t.whole t.words:=λ a ha=>by
 unfold Tr.whole at ha;split at ha
 ·cases ha
 ·exact Tr.lex t h a ha
variable{m:List aI}
theorem uW{l:List (Option aV)} (h:fE jJ l m):jJ (dC l) (df m):=by unfold dC;exact(Jl h).must
variable{α:Type}
theorem all_map{f:α->Option aV} {g:α->aI}:∀ {l:List α},(∀x∈l,jJ (f x) (g x))->fE jJ (l.map f) (l.map g)
 | [],_=> .nil
 | x::l,h=> .cons (h x Tae) (all_map λ y hy=>h y (by simp[hy]))
def xW (x:Tr×ByteArray):aI:=x.1.words++(if x.2.toList=[] then [] else [wW lR]++ [wW x.2.data.toList])
def rO (x:Tr×Bool):aI:=x.1.words++(if x.2 then [wW lZ] else [])
def fP (s:aV)(l:List Tr):aI:=match l with
 | []=> []
 | t::_=> [wW s]++t.words
def rZ (lead:aI)(l:List aI):aI:=if l.length=0 then [] else lead++df l
def wK (l:List Int):aI:=match l with
 | []=> []
 | n::_=> [wW jd]++ [⟨2,[],n⟩]
def Rs (q:Qu):aI:=fP dh q.aR++(rZ ([wW iz]++ [wW mO]) (q.group.map Tr.words)++(fP mP q.having++(rZ ([wW iB]++ [wW mO]) (q.order.map rO)++wK q.aG)))
def lL (q:Qu):aI:=[wW cX]++((if q.items.length=0 then [sW [42]] else df (q.items.map xW))++([wW cu]++((if q.only then [wW jo] else [])++([wW q.aK.data.toList]++Rs q))))
theorem abb{x:Tr×ByteArray}(h:x.1.fine):jJ (pd x) (xW x):=by
 unfold pd xW;refine(qM h).add ?_;split
 ·exact xV
 ·exact qL.pre (.inl rfl) (rN (iy (t:=[65,83]) (s:=lR) Tab)) (fO _)
theorem F9{x:Tr×Bool}(h:x.1.fine):jJ (jq x) (rO x):=by
 unfold jq rO;refine(qM h).add ?_;cases x.2
 ·exact xV
 ·intro t ht;cases ht;exact⟨eO.any (nc (t:=[68,69,83,67]) (s:=lZ) Tab),Jp (.inl rfl)⟩
variable{word:aV}
theorem uX(hk:kwB word s=true) {l:List Tr}(h:∀t∈l,t.fine):qL (eh word l) (fP s l):=by
 unfold eh fP;refine qL.must ?_
 match l,h with
 | [],_=>exact xV
 | t::r,h=>exact qL.pre (.inl rfl) (rN (iy hk)) (qM (h t Tae))
theorem Rt{a b t:aV}(ha:kwB a s=true)(hb:kwB b t=true) {l:List (Option aV)} (h:fE jJ l m):qL (iP (32::(a++32::(b++ [32]))) l) (rZ ([wW s]++ [wW t]) m):=by
 unfold iP rZ;rw[h.len];split
 ·exact xV
 ·refine qL.pre (.inl rfl) (rN ?_) (uW h);have:=(iy ha).two (iy hb);exact Zd5
theorem G0{l:List Int}(h:∀n∈l,n<=9223372036854775807):qL (za l) (wK l):=by
 unfold za wK;refine qL.must ?_
 match l,h with
 | [],_=>exact xV
 | n::r,h=>exact qL.pre (.inl rfl) (rN (iy (t:=[76,73,77,73,84]) (s:=jd) Tab)) (rM (h n Tae))
variable{q:Qu}
theorem G1(hi:∀x∈q.items,x.1.fine)(ho:∀x∈q.order,x.1.fine)(hw:∀t∈q.aR,t.fine)(hg:∀t∈q.group,t.fine)(hh:∀t∈q.having,t.fine)(hl:∀n∈q.aG,n<=9223372036854775807):jJ (jr q) (lL q):=by
 unfold jr lL;refine jJ.pre (iy (t:=[83,69,76,69,67,84]) (s:=cX) Tab) (jJ.add ?_ (qL.pre (.inl rfl) (rN (iy (t:=[70,82,79,77]) (s:=cu) Tab)) ?_))
 ·split
  ·intro t ht;cases ht;exact(qH (c:=42) (.inr (.inr (.inr rfl)))).weak λ _ _=>trivial
  ·exact uW (all_map λ x hx=>abb (hi x hx))
 ·have rest:jJ (aq (dx q.aK) (aq (eh [87,72,69,82,69] q.aR) (aq (iP [32,71,82,79,85,80,32,66,89,32] (q.group.map Tr.whole)) (aq (eh [72,65,86,73,78,71] q.having) (aq (iP [32,79,82,68,69,82,32,66,89,32] (q.order.map jq)) (za q.aG)))))) ([wW q.aK.data.toList]++Rs q):=by refine(fO _).add ?_;unfold Rs;refine(uX Tab hw).add ?_;refine(Rt (a:=[71,82,79,85,80]) (b:=[66,89]) (s:=iz) (t:=mO) Tab Tab (all_map λ x hx=>qM (hg x hx))).add ?_;refine(uX Tab hh).add ?_;exact(Rt (a:=[79,82,68,69,82]) (b:=[66,89]) (s:=iB) (t:=mO) Tab Tab (all_map λ x hx=>F9 (ho x hx))).add (G0 hl)
  cases q.only
  ·exact jJ.pre (Ji _) rest
  ·exact jJ.pre (iy (t:=[79,78,76,89]) (s:=jo) Tab) rest
def G5 (t:Int):aV:=if t=1 then vO else if t=2 then Ch else yT
def Jr (c:ByteArray×Int):aI:=[wW c.1.data.toList]++ [wW (G5 c.2)]
def Dg (x:ByteArray×Tr):aI:=[wW x.1.data.toList]++([sW [61]]++x.2.words)
def EU (l:List Tr):aI:=[sW [40]]++(df (l.map Tr.words)++ [sW [41]])
def wL (k:Int):aV:=if k=9 then bZ else if k=10 then bP else fY
def nk (k:Int):aV:=if k=1 then cz else if k=2 then dt else iu
def mv (k:Int):aV:=if k=9 then bZ else if k=10 then bP else if k=11 then dA else eF
def nW (n:Int):Wd:=⟨2,[],n⟩
def zO (v:Val):aI:=if v.k=0 then [wW bK] else if v.n < 0 then [sW [45],nW (-v.n)] else [nW v.n]
theorem agh (c:ByteArray×Int):jJ (Eu c) (Jr c):=by
 unfold Eu Jr;refine(fO _).add ?_;intro t ht;obtain⟨x,y,hx,hy,rfl⟩:=bT ht;obtain⟨hb,rfl⟩:=dV hx;cases hy;simp only[Bool.and_eq_true,decide_eq_true_eq] at hb;refine⟨eO.any ?_,Jp (.inl rfl)⟩;have:c.2=1\/c.2=2\/c.2=3:=by omega
 unfold G5;rcases this with e | e | e <;> rw[e] <;> exact nc Tab
theorem agi{x:ByteArray×Tr}(h:x.2.fine):jJ (Cn x) (Dg x):=by unfold Cn Dg;exact(fO _).add (qL.pre (.inl rfl) (rN (aba (s:=[61]) Tab)) (qM h))
theorem agj{l:List Tr}(h:∀t∈l,t.fine):jJ (AE l) (EU l):=by unfold AE EU;exact jJ.pre Jq ((uW (all_map λ x hx=>qM (h x hx))).add zN)
variable{k:Nat}
theorem agk(h:k<=9223372036854775807):Lx kL (45::Em k) [sW [45],nW k]:=by
 have hi:Lib.itoa (k:Int)=Em k:=by unfold Lib.itoa;rw[if_neg Taa,Jj];rfl
 have hn:=DC (n:=(k:Int)) Taa Taa;rw[hi] at hn
 have hs:Lx (λ y=>∃c r,y=c::r/\aL c=true) [45] [sW [45]]:=by
  refine zJ (λ y hy=>?_) Tae;obtain⟨c,r,rfl,hc⟩:=hy;have NQ:c≠45:=by rintro rfl;cases hc
  refine⟨?_,?_⟩
  ·show dH (45::c::r)=_;have e:gV signs (45::c::r)=some [45]:=rfl;simp only[dH];rw[if_neg Tab,if_neg Tab,if_neg Tab,e];rfl
  ·show bM false (45::c::r)=_;rw[bM,if_neg Tab,if_neg (by rintro⟨_,h⟩;injection h with h;exact NQ h)];rfl
 refine hs.app hn λ y _=>?_
 obtain⟨_,e2,e3,_,_⟩:=Dz k
 cases hd:Em k with
 | nil=>exact absurd hd e3
 | cons c r=>exact⟨c,r++y,rfl,e2 c (by rw[hd];simp)⟩
theorem PL{v:Val}(hv:v.Ok):jJ (xi v) (zO v):=λ t ht=>by
 unfold xi at ht;obtain⟨x,y,hx,hy,rfl⟩:=bT ht;obtain⟨hb,rfl⟩:=dV hx;obtain⟨x2,y2,hx2,OE,rfl⟩:=bT hy;obtain⟨hg,rfl⟩:=dV hx2;cases OE;simp only[Bool.or_eq_true,Bool.and_eq_true,beq_iff_eq,decide_eq_true_eq] at hb;unfold zO lV;show Lx kL (if good v then _ else _) _;rw[if_pos hg];by_cases h0:v.k=0
 ·rw[if_pos h0,if_pos h0];exact nc Tab
 ·rw[if_neg h0,if_neg h0];obtain⟨h2,hn⟩:=hb.resolve_left h0;rw[if_neg Taa,if_pos h2];have h1:=hv.2;by_cases vX:v.n < 0
  ·rw[if_pos vX];have e:Lib.itoa v.n=45::Em v.n.natAbs:=by unfold Lib.itoa;rw[if_pos vX,Jj]
   have e2: -v.n=(v.n.natAbs:Int):=by omega
   rw[e,e2];exact agk Taa
  ·rw[if_neg vX];exact DC Taa h1
def DJ (s:St):aI:=
 if s.kind=1 then [wW fj]++ [wW cz]++([wW s.name.data.toList]++([sW [40]]++(df (s.aJ.map Jr)++([sW [41]]++ [wW lp]++([wW s.time.data.toList]++([wW cj]++([nW s.every]++(if s.space.toList=[] then [] else [wW jD]++([wW s.space.data.toList]++([wW fc]++ [nW s.parts]))))))))))
 else if s.kind=3 then [wW fj]++ [wW iu]++([wW s.name.data.toList]++([wW (wL s.what)]++([wW s.cr.data.toList]++((if s.what=9 then [wW cu]++([nW s.a]++([wW Ci]++ [nW s.b]))else [wW eV]++ [nW s.a])++([wW cj]++ [nW s.every])))))
 else if s.kind=2 then [wW fj]++ [wW dt]++([wW s.name.data.toList]++([wW lR]++lL s.query))
 else if s.kind=4 then [wW fY]++ [wW (nk s.what)]++ [wW s.name.data.toList]
 else if s.kind=5 then [wW gY]++ [wW fc]++([wW s.name.data.toList]++([wW iO]++df (s.rows.map EU)))
 else if s.kind=6 then [wW gw]++([wW s.name.data.toList]++([wW rS]++(df (s.aS.map Dg)++fP dh s.aR)))
 else if s.kind=7 then [wW gy]++ [wW cu]++([wW s.name.data.toList]++fP dh s.aR)
 else if s.kind=8 then lL s.query
 else [wW ll]++ [wW (mv s.kind)]++ [sW [40]]++([wW s.name.data.toList]++([sW [44]]++((if s.kind=9 then zO s.aK++ [sW [44]] else [])++(zO s.cP++ [sW [41]]))))
structure St.Lxs (s:St):Prop where
 every:s.every<=9223372036854775807
 parts:s.parts<=9223372036854775807
 a:s.a<=9223372036854775807
 b:s.b<=9223372036854775807
 aK:s.aK.Ok
 cP:s.cP.Ok
 trees:∀t∈s.exprs,t.fine
 aG:∀n∈s.query.aG,n<=9223372036854775807
theorem St.Lxs.query{s:St}(h:s.Lxs):jJ (jr s.query) (lL s.query):=by
 have hm:∀t∈s.query.exprs,t.fine:=λ t ht=>h.trees t (by unfold St.exprs;simp only[mem_append];exact .inr ht)
 unfold Qu.exprs at hm;simp only[mem_append,mem_map] at hm;exact G1 (λ x hx=>hm _ (.inl (.inl (.inl (.inl ⟨x,hx,rfl⟩))))) (λ x hx=>hm _ (.inr ⟨x,hx,rfl⟩)) (λ t ht=>hm _ (.inl (.inl (.inl (.inr ht))))) (λ t ht=>hm _ (.inl (.inl (.inr ht)))) (λ t ht=>hm _ (.inl (.inr ht))) h.aG
theorem abc{s:St}(h:s.Lxs):jJ (cF s) (DJ s):=by
 have hq:=h.query;have ht:=h.trees;unfold St.exprs at ht;simp only[mem_append,mem_map,mem_flatten] at ht;have hw:∀t∈s.aR,t.fine:=λ t h=>ht _ (.inl (.inr h))
 have hs:∀x∈s.aS,x.2.fine:=λ x hx=>ht _ (.inl (.inl (.inr ⟨x,hx,rfl⟩)))
 have hr:∀l∈s.rows,∀t∈l,t.fine:=λ l hl t h=>ht _ (.inl (.inl (.inl ⟨l,hl,h⟩)))
 have two:∀ {a b s t:aV},kwB a s=true->kwB b t=true->Lx vq (a++32::(b++ [32])) ([wW s]++ [wW t]):=λ ha hb=>by have:=(iy ha).two (iy hb);simpa using this
 unfold cF DJ;by_cases h1:s.kind=1
 ·rw[if_pos h1,if_pos h1];unfold og;refine jJ.must (jJ.pre (two (a:=[67,82,69,65,84,69]) (b:=[84,65,66,76,69]) Tab Tab) ((fO _).add (qL.pre (.inl rfl) (rN Jq) ((uW (all_map λ c _=>agh c)).add (qL.pre (.inr (.inr (.inl rfl))) ?_ ((fO _).add (qL.pre (.inl rfl) (rN (iy (t:=[69,86,69,82,89]) (s:=cj) Tab)) ((rM h.every).add ?_))))))))
  ·have:=Mi.two (rN (iy (t:=[84,73,77,69]) (s:=lp) Tab));exact Zd5
  ·split
   ·exact F8 _
   ·exact qL.pre (.inl rfl) (rN (iy (t:=[83,80,65,67,69]) (s:=jD) Tab)) ((fO _).add (qL.pre (.inl rfl) (rN (iy (t:=[73,78,84,79]) (s:=fc) Tab)) (rM h.parts)))
 rw[if_neg h1,if_neg h1];by_cases h3:s.kind=3
 ·rw[if_pos h3,if_pos h3];unfold Co;refine jJ.must (jJ.pre (two (a:=[67,82,69,65,84,69]) (b:=[74,79,66]) Tab Tab) ((fO _).add ?_));intro t ht;obtain⟨x,y,hx,hy,rfl⟩:=bT ht;obtain⟨hb,rfl⟩:=dV hx
  have hj:s.what=9\/s.what=10\/s.what=12:=by
   unfold xj at hb;by_cases e:s.what=9
   ·exact .inl e
   by_cases e2:s.what=10
   ·exact .inr (.inl e2)
   by_cases e3:s.what=12
   ·exact .inr (.inr e3)
   ·simp[e,e2,e3] at hb
  have every:=qL.pre (.inl rfl) (rN (iy (t:=[69,86,69,82,89]) (s:=cj) Tab)) (rM h.every);have aft:qL (aq (bg (s.b==0)) (aq (some [32,65,70,84,69,82,32]) (tj s.a))) ([wW eV]++ [nW s.a]):=qL.must (qL.pre (.inl rfl) (rN (iy (t:=[65,70,84,69,82]) (s:=eV) Tab)) (rM h.a));refine qL.pre (.inl rfl) (rN (iy ?_)) ((fO _).add (qL.add ?_ every)) y hy
  ·unfold xj wL;rcases hj with e | e | e <;> rw[e] <;> decide
  ·by_cases e:s.what=9
   ·rw[if_pos e,if_pos e];exact qL.pre (.inl rfl) (rN (iy (t:=[70,82,79,77]) (s:=cu) Tab)) ((rM h.a).add (qL.pre (.inl rfl) (rN (iy (t:=[84,79]) (s:=Ci) Tab)) (rM h.b)))
   ·rw[if_neg e,if_neg e];exact aft
 rw[if_neg h3,if_neg h3];by_cases h2:s.kind=2
 ·rw[if_pos h2,if_pos h2];exact jJ.must (jJ.pre (two (a:=[67,82,69,65,84,69]) (b:=[86,73,69,87]) Tab Tab) ((fO _).add (qL.pre (.inl rfl) (rN (iy (t:=[65,83]) (s:=lR) Tab)) hq)))
 rw[if_neg h2,if_neg h2];by_cases h4:s.kind=4
 ·rw[if_pos h4,if_pos h4];intro t ht;obtain⟨x,y,hx,hy,rfl⟩:=bT ht;obtain⟨hb,rfl⟩:=dV hx;simp only[Bool.and_eq_true] at hb
  have hj:s.what=1\/s.what=2\/s.what=3:=by
   have hb:=hb.1;unfold pY at hb;by_cases e:s.what=1
   ·exact .inl e
   by_cases e2:s.what=2
   ·exact .inr (.inl e2)
   by_cases e3:s.what=3
   ·exact .inr (.inr e3)
   ·simp[e,e2,e3] at hb
  refine jJ.pre ?_ (fO _) y hy;have:=(iy (t:=[68,82,79,80]) (s:=fY) Tab).two (iy (t:=pY s.what) (s:=nk s.what) (by unfold pY nk;rcases hj with e | e | e <;> rw[e] <;> decide));exact Zd5
 rw[if_neg h4,if_neg h4];by_cases h5:s.kind=5
 ·rw[if_pos h5,if_pos h5];exact jJ.must (jJ.pre (two (a:=[73,78,83,69,82,84]) (b:=[73,78,84,79]) Tab Tab) ((fO _).add (qL.pre (.inl rfl) (rN (iy (t:=[86,65,76,85,69,83]) (s:=iO) Tab)) (uW (all_map λ l hl=>agj (hr l hl))))))
 rw[if_neg h5,if_neg h5];by_cases h6:s.kind=6
 ·rw[if_pos h6,if_pos h6];exact jJ.must (jJ.pre (iy (t:=[85,80,68,65,84,69]) (s:=gw) Tab) ((fO _).add (qL.pre (.inl rfl) (rN (iy (t:=[83,69,84]) (s:=rS) Tab)) ((uW (all_map λ x hx=>agi (hs x hx))).add (uX Tab hw)))))
 rw[if_neg h6,if_neg h6];by_cases h7:s.kind=7
 ·rw[if_pos h7,if_pos h7];exact jJ.must (jJ.pre (two (a:=[68,69,76,69,84,69]) (b:=[70,82,79,77]) Tab Tab) ((fO _).add (uX Tab hw)))
 rw[if_neg h7,if_neg h7];by_cases h8:s.kind=8
 ·rw[if_pos h8,if_pos h8];exact jJ.must hq
 rw[if_neg h8,if_neg h8];by_cases h9:9<=s.kind/\s.kind<=12
 ·rw[if_pos h9];refine jJ.must (jJ.pre ?_ ((fO _).add (qL.pre (.inr (.inr (.inr rfl))) Mj ?_)))
  ·have hk:kwB (Xa s.kind) (mv s.kind)=true:=by
    have:s.kind=9\/s.kind=10\/s.kind=11\/s.kind=12:=by omega
    unfold Xa mv;rcases this with e | e | e | e <;> rw[e] <;> decide
   have:=(iy (t:=[67,65,76,76]) (s:=ll) Tab).any ((nc hk).app Jq λ y _ c hc=>by cases hc;exact .inr (.inl rfl));exact Zd5
  ·split
   ·intro t ht;obtain⟨x,y,hx,hy,rfl⟩:=bT ht;obtain⟨x1,x2,hx1,hx2,rfl⟩:=bT hx;cases hx2;have k1:=PL h.aK x1 hx1;have k2:=((PL h.cP).add zN) y hy;have:=k1.stop (.inr (.inr (.inr rfl))) (Mj.any k2);exact Zd5
   ·exact jJ.must ((PL h.cP).add zN)
 ·rw[if_neg h9];intro t ht;cases ht
theorem aH (a b:Option aV):(aq a b).isSome=(a.isSome && b.isSome):=by cases a <;> cases b <;> rfl
theorem aZ (b:Bool):(bg b).isSome=b:=by cases b <;> rfl
theorem zH:∀l:List (Option aV),(dM l).isSome=l.all (·.isSome)
 | []=>rfl
 | [o]=>by rw[pX];simp
 | o::p::l=>by rw[oa,aH,aH,zH (p::l)];simp
theorem ik (l:List (Option aV))(h:(dC l).isSome=true):∀o∈l,o.isSome=true:=by unfold dC at h;rw[aH,zH,Bool.and_eq_true,all_eq_true] at h;exact h.2
theorem mr(h:t.whole.isSome=true):t.depth<=32:=by
 unfold Tr.whole at h;split at h
 ·cases h
 ·omega
theorem Mb{l:List Tr}(h:(dC (l.map Tr.whole)).isSome=true):∀t∈l,t.depth<=32:=λ t ht=>mr (ik _ h _ (List.mem_map.2 ⟨t,ht,rfl⟩))
theorem pA{l:List Tr}(h:(eh word l).isSome=true):∀t∈l,t.depth<=32:=by
 unfold eh at h;rw[aH,aZ,Bool.and_eq_true,decide_eq_true_eq] at h;intro t ht
 match l,h,ht with
 | [u],h,ht=>simp only[mem_singleton] at ht;subst ht;have:=h.2;rw[aH,Bool.and_eq_true] at this;exact mr this.2
variable{lead:aV}
theorem zI{l:List (Option aV)}(h:(iP lead l).isSome=true):∀o∈l,o.isSome=true:=by
 unfold iP at h;split at h
 ·rename_i e;intro o ho;rw[List.length_eq_zero_iff.1 e] at ho;cases ho
 ·rw[aH,Bool.and_eq_true] at h;exact ik _ h.2
theorem Dy(h:(jr q).isSome=true):∀t∈q.exprs,t.depth<=32:=by
 unfold jr at h;simp only[aH,Bool.and_eq_true] at h;obtain⟨-,hi, -, -, -,hw,hg,hh,ho, -⟩:=h;unfold Qu.exprs;intro t ht;simp only[mem_append,mem_map] at ht;rcases ht with (((⟨x,hx,rfl⟩| ht)| ht)| ht)|⟨x,hx,rfl⟩
 ·have h0:¬q.items.length=0:=by intro e;rw[List.length_eq_zero_iff.1 e] at hx;cases hx
  rw[if_neg h0] at hi;have:=ik _ hi _ (List.mem_map.2 ⟨x,hx,rfl⟩);unfold pd at this;rw[aH,Bool.and_eq_true] at this;exact mr this.1
 ·exact pA hw t ht
 ·exact mr (zI hg _ (List.mem_map.2 ⟨t,ht,rfl⟩))
 ·exact pA hh t ht
 ·have:=zI ho _ (List.mem_map.2 ⟨x,hx,rfl⟩);unfold jq at this;rw[aH,Bool.and_eq_true] at this;exact mr this.1
theorem Vb(h:R4 q=true):q.exprs=[]:=by unfold R4 at h;simp only[Bool.and_eq_true,decide_eq_true_eq] at h;have h:=h.1;unfold Qu.exprs;have e1:q.items=[]:=List.length_eq_zero_iff.1 Taa;have e2:q.aR=[]:=List.length_eq_zero_iff.1 Taa;have e3:q.group=[]:=List.length_eq_zero_iff.1 Taa;have e4:q.having=[]:=List.length_eq_zero_iff.1 Taa;have e5:q.order=[]:=List.length_eq_zero_iff.1 Taa;rw[e1,e2,e3,e4,e5];rfl
variable{j e:Bool}
theorem iL{s:St} {c q w r u h t:Bool}(hl:dJ s c q j w e r u h t=true)(hq:q=true->∀x∈s.query.exprs,x.depth<=32)(hr:r=true->∀l∈s.rows,∀x∈l,x.depth<=32)(hu:u=true->∀x∈s.aS,x.2.depth<=32)(hh:h=true->∀x∈s.aR,x.depth<=32):∀x∈s.exprs,x.depth<=32:=by
 unfold dJ at hl;simp only[Bool.and_eq_true,Bool.or_eq_true,beq_iff_eq] at hl;obtain⟨⟨⟨⟨⟨⟨⟨⟨-, -⟩,l1⟩, -⟩, -⟩,l2⟩,l3⟩,l4⟩, -⟩:=hl;intro x hx;unfold St.exprs at hx;simp only[mem_append,mem_map,mem_flatten] at hx;rcases hx with ((⟨l,hl,hx⟩|⟨y,hy,rfl⟩)| hx)| hx
 ·rcases l2 with l2 | l2
  ·exact hr l2 l hl x hx
  ·rw[List.length_eq_zero_iff.1 l2] at hl;cases hl
 ·rcases l3 with l3 | l3
  ·exact hu l3 y hy
  ·rw[List.length_eq_zero_iff.1 l3] at hy;cases hy
 ·rcases l4 with l4 | l4
  ·exact hh l4 x hx
  ·rw[List.length_eq_zero_iff.1 l4] at hx;cases hx
 ·rcases l1 with l1 | l1
  ·exact hq l1 x hx
  ·rw[Vb l1] at hx;cases hx
theorem Vc{s:St}(h:(cF s).isSome=true):∀x∈s.exprs,x.depth<=32:=by
 unfold cF at h;have no:∀ {P:Prop},false=true->P:=λ e=>by cases e
 split at h
 ·unfold og at h;exact ZeW
 split at h
 ·unfold Co at h;exact ZeW
 split at h
 ·simp only[aH,aZ,Bool.and_eq_true] at h;exact iL h.1 (λ _=>Dy h.2.2.2.2) no no no
 split at h
 ·simp only[aH,aZ,Bool.and_eq_true] at h;exact iL h.1.2 no no no no
 split at h
 ·simp only[aH,aZ,Bool.and_eq_true] at h;refine iL h.1 no (λ _ l hl=>?_) no no;have:=ik _ h.2.2.2.2 _ (List.mem_map.2 ⟨l,hl,rfl⟩);unfold AE at this;simp only[aH,Bool.and_eq_true] at this;exact Mb this.2.1
 split at h
 ·simp only[aH,aZ,Bool.and_eq_true] at h;refine iL h.1 no no (λ _ x hx=>?_) (λ _=>pA h.2.2.2.2.2);have:=ik _ h.2.2.2.2.1 _ (List.mem_map.2 ⟨x,hx,rfl⟩);unfold Cn at this;simp only[aH,Bool.and_eq_true] at this;exact mr this.2.2
 split at h
 ·simp only[aH,aZ,Bool.and_eq_true] at h;exact iL h.1 no no no (λ _=>pA h.2.2.2)
 split at h
 ·simp only[aH,aZ,Bool.and_eq_true] at h;exact iL h.1.1 (λ _=>Dy h.2) no no no
 split at h
 ·exact ZeW
 ·cases h
theorem MR{s:ByteArray}(h:s.toList=[]):s=ByteArray.empty:=by exact ZgE
theorem zM{v:Val}(h:oP v=true):v=ct:=by obtain⟨k,n,s⟩:=v;unfold oP at h;simp only[Bool.and_eq_true,beq_iff_eq] at h;obtain⟨h1,h2,h3⟩:=h;subst h1 h2;rw[MR h3];rfl
variable{name:ByteArray}{width:Int}
theorem qJ{v:Val}  (h:bF v name width=true):v=ct/\name=ByteArray.empty/\width=0:=by unfold bF at h;simp only[Bool.and_eq_true,beq_iff_eq] at h;exact⟨zM h.1,MR h.2.1,h.2.2⟩
structure Ends (k:Nat) (r:aI):Prop where
 o:ar bz r=false
 e5:k<=5->eR (opsL 5) r=none
 e4:k<=4->eR (opsL 4) r=none
 e3:k<=3->eR (opsL 3) r=none/\ar lQ r=false
 e1:k<=1->eR (opsL 1) r=none
 e0:k<=0->eR (opsL 0) r=none
variable{r:aI}
theorem Ends.up{j:Nat} (h:Ends k r)(hk:k<=j):Ends j r:=⟨h.o,λ e=>h.e5 Taa,λ e=>h.e4 Taa,λ e=>h.e3 Taa,λ e=>h.e1 Taa,λ e=>h.e0 Taa⟩
structure vA (h:Wd):Prop where
 age:gJ ei h=false
 minus:gJ dB h=false
 star:gJ fe h=false
variable{below:Ps Tr}{l:aI}{x:Tr}
theorem kM(hb:cK below)(lv:Nat)  (h:below l=.ok (x,r))(he:eR (opsL lv) r=none):kD below lv l=.ok (x,r):=by rw[Ik,ag h,qp hb,he]
variable{same:Ps Tr}
theorem Jm{s:List UInt8}    (hs:ar s l=false)(h:below l=.ok (x,r)):Kn s op same below l=.ok (x,r):=by unfold Kn;rw[bQ];simp only[hs];exact h
theorem Md(h:below l=.ok (x,r))(hi:ar lQ r=false)(he:eR (opsL 3) r=none):sj below l=.ok (x,r):=by unfold sj;rw[ag h,bQ];simp only[hi];unfold yX;simp[he]
variable{h:Wd}{tl:aI}
theorem alP(hA:vA h)(hE:Ends k r)(hx:aU (k+1) (h::tl)=.ok (x,r))(hk:k<=6):aU k (h::tl)=.ok (x,r):=by
 match k,hk with
 | 0,_=>rw[Bo];exact kM (cg 1) 0 hx (hE.e0 (Nat.le_refl _))
 | 1,_=>rw[Bp];exact kM (cg 2) 1 hx (hE.e1 (Nat.le_refl _))
 | 2,_=>rw[Bq];exact Jm hA.age hx
 | 3,_=>exact ZgW
 | 4,_=>rw[Br];exact kM (cg 5) 4 hx (hE.e4 (Nat.le_refl _))
 | 5,_=>rw[Bt];exact kM (cg 6) 5 hx (hE.e5 (Nat.le_refl _))
 | 6,_=>rw[Ii];exact Jm hA.minus hx
theorem Jn(hA:vA h) (hE:Ends k r):∀d,k+d<=7->aU (k+d) (h::tl)=.ok (x,r)->aU k (h::tl)=.ok (x,r)
 | 0,_,hx=>hx
 | d+1,hd,hx=>Jn hA hE d Taa (alP hA (hE.up Taa) hx Taa)
theorem oJ(hE:Ends 0 r) (hk:k<=6)(hn:2 < k->ar ei l=false)(hx:aU k l=.ok (x,r)):aU 0 l=.ok (x,r):=by
 have go:∀j,j < k->aU (j+1) l=.ok (x,r)->aU j l=.ok (x,r):=by
  intro j hj hx;have hE:=hE.up (Nat.zero_le j)
  match j,hj,hE with
  | 0,_,hE=>rw[Bo];exact kM (cg 1) 0 hx (hE.e0 (Nat.le_refl _))
  | 1,_,hE=>rw[Bp];exact kM (cg 2) 1 hx (hE.e1 (Nat.le_refl _))
  | 2,hj,hE=>rw[Bq];exact Jm (hn hj) hx
  | 3,_,hE=>exact ZgW
  | 4,_,hE=>rw[Br];exact kM (cg 5) 4 hx (hE.e4 (Nat.le_refl _))
  | 5,_,hE=>rw[Bt];exact kM (cg 6) 5 hx (hE.e5 (Nat.le_refl _))
  | j+6,hj,_=>omega
 have all:∀d,d<=k->aU (k - d) l=.ok (x,r):=by
  intro d
  induction d with
  | zero=>intro _;exact hx
  | succ d ih=>intro hd;have:=ih Taa;refine go _ Taa ?_;rw[show k - (d+1)+1=k - d by omega];exact this
 have:=all k (Nat.le_refl _);rwa [Nat.sub_self] at this
structure Rd (t:Tr):Prop where
 top:∀r,Ends 0 r->aU 0 (t.words++r)=.ok (t,r)
 arg:∀r,ar bz r=false->aU 7 (fN (t.op,t.words)++r)=.ok (t,r)
 ah:∃h tl,fN (t.op,t.words)=h::tl/\vA h
 th:∃h tl,t.words=h::tl/\gJ fe h=false
theorem rL (r:aI)(k:Nat):Ends k (sW [41]::r):=⟨rfl,λ _=>rfl,λ _=>rfl,λ _=>⟨rfl,rfl⟩,λ _=>rfl,λ _=>rfl⟩
theorem cq{s:List UInt8} {t:Wd} (h:gJ s t=true):must s (t::r)=.ok ((),r):=by unfold must;rw[if_pos (show ar s (t::r)=true from h)];rfl
theorem Rd.tU(hl:iY t.op=true)(top:∀r,Ends 0 r->aU 0 (t.words++r)=.ok (t,r))(th:∃h tl,t.words=h::tl/\gJ fe h=false):Rd t:=by
 have ea:fN (t.op,t.words)=sW [40]::(t.words++ [sW [41]]):=by unfold fN;rw[if_pos hl];rfl
 refine⟨top,λ r hr=>?_,⟨_,_,ea,⟨rfl,rfl,rfl⟩⟩,th⟩;rw[ea,xz];show eD (aU 0) (sW [40]::((t.words++ [sW [41]])++r))=_;have e:(t.words++ [sW [41]])++r=t.words++(sW [41]::r):=by simp
 rw[e];unfold eD;dsimp only;rw[if_neg Tab,if_neg Tab,if_neg Tab,if_neg Tab,if_neg Tab,if_pos Tab];rw[ag (top _ (rL r 0)),ag (cq Tab)];rfl
theorem Rd.BF(hl:iY t.op=false)(at7:∀r,ar bz r=false->aU 7 (t.words++r)=.ok (t,r))(hh:∃h tl,t.words=h::tl/\vA h):Rd t:=by
 have ea:fN (t.op,t.words)=t.words:=by unfold fN;simp[hl]
 obtain⟨h,tl,e,hA⟩:=hh;refine⟨λ r hr=>?_,λ r hr=>by rw[ea];exact at7 r hr,⟨h,tl,by rw[ea];exact e,hA⟩,⟨h,tl,e,hA.star⟩⟩;have:=at7 r hr.o;rw[e] at this ⊢;exact Jn hA hr 7 Taa this
theorem Rd.at_(h:Rd t) (hk:k<=7) (hE:Ends k r):aU k (fN (t.op,t.words)++r)=.ok (t,r):=by obtain⟨d,tl,e,hA⟩:=h.ah;have:=h.arg r hE.o;rw[e] at this ⊢;refine Jn (x:=t) hA hE (7 - k) Taa ?_;rw[show k+(7 - k)=7 by omega];exact this
variable{lv:Nat}{A B:aI}
theorem E8{a b:Tr}   {o:Int}(hlv:lv+1<=7)(ha:aU (lv+1) (A++w::(B++r))=.ok (a,w::(B++r)))(ho:eR (opsL lv) (w::(B++r))=some o)(hb:aU (lv+1) (B++r)=.ok (b,r))(hr:eR (opsL lv) r=none):
  kD (aU (lv+1)) lv (A++w::(B++r))=.ok (nr o [a,b],r):=by rw[Ik,ag ha,qp (cg _),ho];show(aU (lv+1)>>= λ y=>KB (aU (lv+1)) lv (nr o [a,y])) (B++r)=_;rw[ag hb,qp (cg _),hr]
def Jo (op:Int):Nat:=if op=17 then 0 else if op=16 then 1 else if op<=6 then 4 else if op<=9 then 5 else 3
theorem E9(h:dc op=true)(r:aI):Ends (Jo op+1) (xU op::r)/\eR (opsL (Jo op)) (xU op::r)=some op:=by
 unfold dc at h;simp only[Bool.and_eq_true,decide_eq_true_eq] at h;obtain rfl | rfl | rfl | rfl | rfl | rfl | rfl | rfl | rfl | rfl | rfl | rfl | rfl:op=5\/op=6\/op=7\/op=8\/op=9\/op=10\/op=11\/op=12\/op=13\/op=14\/op=15\/op=16\/op=17:=by omega
 all_goals
  refine⟨⟨rfl,λ e=>?_,λ e=>?_,λ e=>?_,λ e=>?_,λ e=>?_⟩,rfl⟩;all_goals first | rfl | exact⟨rfl,rfl⟩| exact absurd e Tab
theorem F0{a:Tr}   {o:Int}(h:eR (opsL 3) (w::l)=some o):yX below a (w::l)=(below >>= λ y=>(pure (nr o [a,y]):Ps Tr)) l:=by show(match eR (opsL 3) (w::l)with | none=>(Except.ok (a,w::l):Except Nat (Tr×aI))| some o=>(below >>= λ y=>(pure (nr o [a,y]):Ps Tr)) l)=_;rw[h]
theorem F3(h:dc op=true) {a b:Tr}(ha:Rd a)(hb:Rd b):∀r,Ends 0 r->aU 0 ((fN (a.op,a.words)++([xU op]++fN (b.op,b.words)))++r)=.ok (nr op [a,b],r):=by
 intro r hr;have e:(fN (a.op,a.words)++([xU op]++fN (b.op,b.words)))++r=fN (a.op,a.words)++xU op::(fN (b.op,b.words)++r):=by simp
 rw[e];obtain⟨t1,t2⟩:=E9 h (fN (b.op,b.words)++r);have hd:ar ei (fN (a.op,a.words)++xU op::(fN (b.op,b.words)++r))=false:=by obtain⟨d,tl,e,hA⟩:=ha.ah;rw[e];exact hA.age
 have hlv:Jo op=0\/Jo op=1\/Jo op=3\/Jo op=4\/Jo op=5:=by
  unfold Jo;split
  ·simp
  split
  ·simp
  split
  ·simp
  split <;> simp
 have left:∀lv,lv=0\/lv=1\/lv=4\/lv=5->Jo op=lv->kD (aU (lv+1)) lv (fN (a.op,a.words)++xU op::(fN (b.op,b.words)++r))=.ok (nr op [a,b],r):=by
  intro lv hl e;rw[e] at t1 t2;have h7:lv+1<=7:=by omega
  have hr2:eR (opsL lv) r=none:=by
   rcases hl with rfl | rfl | rfl | rfl
   ·exact hr.e0 Taa
   ·exact hr.e1 Taa
   ·exact hr.e4 Taa
   ·exact hr.e5 Taa
  exact E8 h7 (ha.at_ h7 t1) t2 (hb.at_ h7 (hr.up (Nat.zero_le _))) hr2
 rcases hlv with hl | hl | hl | hl | hl
 ·exact Bo▸left 0 Tae hl
 ·exact oJ hr (k:=1) Taa (λ h=>absurd h Taa) (Bp▸left 1 Tae hl)
 ·refine oJ hr (k:=3) Taa (λ _=>hd) ?_;rw[hl] at t1 t2;rw[xy];unfold sj;rw[ag (ha.at_ Taa t1),bQ]
  have hi:ar lQ (xU op::(fN (b.op,b.words)++r))=false:=by
   cases hi:ar lQ (xU op::(fN (b.op,b.words)++r))
   ·rfl
   ·exfalso;unfold dc at h;simp only[Bool.and_eq_true,decide_eq_true_eq] at h;obtain rfl | rfl | rfl | rfl | rfl | rfl | rfl | rfl | rfl | rfl | rfl | rfl | rfl:op=5\/op=6\/op=7\/op=8\/op=9\/op=10\/op=11\/op=12\/op=13\/op=14\/op=15\/op=16\/op=17:=by omega
    all_goals cases hi
  simp only[hi];show yX (aU 4) a (xU op::(fN (b.op,b.words)++r))=_;rw[F0 t2,ag (hb.at_ Taa (hr.up (Nat.zero_le _)))];rfl
 ·exact oJ hr (k:=4) Taa (λ _=>hd) (Br▸left 4 Tae hl)
 ·exact oJ hr (k:=5) Taa (λ _=>hd) (Bt▸left 5 Tae hl)
theorem Rq{s:List UInt8}     (hs:gJ s w=true)(h:same l=.ok (x,r)):Kn s op same below (w::l)=.ok (nr op [x],r):=by unfold Kn;rw[bQ];have e:ar s (w::l)=true:=hs;simp only[e,if_true,tail_cons];rw[ag h];rfl
theorem Vg{a:Tr}(ha:Rd a):∀r,Ends 0 r->aU 0 (([sW [45]]++fN (a.op,a.words))++r)=.ok (nr 3 [a],r):=by intro r hr;refine oJ hr (k:=6) Taa (λ _=>rfl) ?_;rw[Ii];exact Rq rfl (ha.at_ Taa (hr.up (Nat.zero_le _)))
theorem F4{a:Tr}(ha:Rd a):∀r,Ends 0 r->aU 0 (([wW ei]++fN (a.op,a.words))++r)=.ok (nr 4 [a],r):=by intro r hr;refine oJ hr (k:=2) Taa (λ h=>absurd h Taa) ?_;rw[Bq];exact Rq rfl (ha.at_ Taa (hr.up (Nat.zero_le _)))
theorem Gm{a:Tr}(ha:Rd a)(n:Bool):∀r,Ends 0 r->aU 0 ((fN (a.op,a.words)++(wW lQ::((if n then [wW ei] else [])++ [wW bK])))++r)=.ok (nr (if n then 19 else 18) [a],r):=by
 intro r hr;have e:(fN (a.op,a.words)++(wW lQ::((if n then [wW ei] else [])++ [wW bK])))++r=fN (a.op,a.words)++wW lQ::(((if n then [wW ei] else [])++ [wW bK])++r):=by simp
 rw[e];refine oJ hr (k:=3) Taa (λ _=>?_) ?_
 ·obtain⟨d,tl,e,hA⟩:=ha.ah;rw[e];exact hA.age
 ·rw[xy];unfold sj;have hE:Ends 4 (wW lQ::(((if n then [wW ei] else [])++ [wW bK])++r)):=⟨rfl,λ _=>rfl,λ _=>rfl,λ e=>absurd e Tab,λ e=>absurd e Tab,λ e=>absurd e Tab⟩;rw[ag (ha.at_ Taa hE),bQ];have hi:ar lQ (wW lQ::(((if n then [wW ei] else [])++ [wW bK])++r))=true:=rfl;simp only[hi,if_true,tail_cons];cases n
  ·rfl
  ·rfl
theorem F5{v:Val}(hg:good v=true)(hn:v.k≠2\/0<=v.n):(∀r,ar bz r=false->aU 7 ([Vf v]++r)=.ok (pG v,r))/\vA (Vf v):=by
 obtain⟨k,n,s⟩:=v;unfold good at hg;dsimp only at hg hn;unfold Vf;dsimp only;have at7:∀(w:Wd) (x:Tr),(∀r,eD (aU 0) (w::r)=.ok (x,r))->∀r,ar bz r=false->aU 7 ([w]++r)=.ok (x,r):=λ w x h r _=>by rw[xz];exact h r
 by_cases h0:k=0
 ·rw[if_pos h0] at hg ⊢;simp only[Bool.and_eq_true,beq_iff_eq,rk] at hg;obtain⟨h1,h2⟩:=hg;subst h0 h1;rw[MR h2];exact ZdJ
 rw[if_neg h0] at hg ⊢;by_cases h1:k=1
 ·rw[if_pos h1] at hg ⊢;simp only[Bool.and_eq_true,Bool.or_eq_true,beq_iff_eq,rk] at hg;obtain⟨h2,h3⟩:=hg;subst h1;rw[MR h2];rcases h3 with rfl | rfl
  ·exact ZdJ
  ·exact ZdJ
 rw[if_neg h1] at hg ⊢;by_cases h2:k=2
 ·rw[if_pos h2] at hg ⊢;simp only[beq_iff_eq,rk] at hg;subst h2;rw[MR hg];exact ZdJ
 rw[if_neg h2] at hg ⊢;by_cases h3:k=3
 ·rw[if_pos h3] at hg;simp only[beq_iff_eq] at hg;subst h3 hg;exact ZdJ
 ·rw[if_neg h3] at hg;cases hg
theorem Gn(hr:kO s=false)(h40:s≠bz)(r:aI):eD (aU 0) (wW s::r)=ma (aU 0) (wW s::r):=by
 have no:∀w:List UInt8,kO w=true\/w=bz->gJ w (wW s)=false:=by
  intro w hw;cases h:gJ w (wW s)
  ·rfl
  ·exfalso;unfold gJ wW at h;simp only[Bool.and_eq_true,beq_iff_eq] at h;rcases hw with hw | hw
   ·rw[h.2,hw] at hr;cases hr
   ·exact h40 (h.2.trans hw)
 unfold eD;dsimp only;rw[no eu (.inl Tab),no dP (.inl Tab),no bK (.inl Tab),no bz (.inr rfl)];rfl
theorem Me(hr:kO s=false)(r:aI):cD (wW s::r)=.ok (⟨s.toArray⟩,r):=by unfold cD;dsimp only[wW];rw[if_pos ⟨rfl,hr⟩]
theorem DG(h:pR s=true):kO s=false/\s≠bz/\s≠dB/\s≠fe:=by
 match s,h with
 | c::r,h=>
   simp only[pR,Bool.and_eq_true,decide_eq_true_eq,Bool.not_eq_true'] at h;obtain⟨⟨⟨h1,h2⟩,h3⟩,h4⟩:=h;have hc:cx c=true:=by have:=List.all_eq_true.1 h4 c mem_cons_self;simp only[Bool.and_eq_true] at this;exact this.2
   refine⟨h2,?_,?_,?_⟩<;>
   ·intro e;injection e with e _;rw[e] at hc;revert hc;decide
theorem PJ(hr:kO s=false)(h1:s≠dB)(h2:s≠fe):vA (wW s):=by
 refine⟨?_,?_,?_⟩
 ·cases h:gJ ei (wW s)
  ·rfl
  ·unfold gJ wW at h;simp only[Bool.and_eq_true,beq_iff_eq] at h;rw[h.2] at hr;revert hr;decide
 ·cases h:gJ dB (wW s)
  ·rfl
  ·unfold gJ wW at h;simp only[Bool.and_eq_true,beq_iff_eq] at h;exact absurd h.2 h1
 ·cases h:gJ fe (wW s)
  ·rfl
  ·unfold gJ wW at h;simp only[Bool.and_eq_true,beq_iff_eq] at h;exact absurd h.2 h2
variable{whole:Ps Tr}
theorem Mf(hr:kO s=false)(r:aI):ma whole (wW s::r)=(if ar bz r then(match lW ⟨s.toArray⟩with
 | none=> .error r.length
 | some op=>pV whole op r.tail)else .ok (vN ⟨s.toArray⟩,r)):=ag (Me hr r)
theorem F6(h:pR name.data.toList=true):(∀r,ar bz r=false->aU 7 ([wW name.data.toList]++r)=.ok (vN name,r))/\vA (wW name.data.toList):=by obtain⟨h1,h2,h3,h4⟩:=DG h;refine⟨λ r hr=>?_,PJ h1 h3 h4⟩;rw[xz];show eD (aU 0) (wW name.data.toList::r)=_;rw[Gn h1 h2,Mf h1,hr];rfl
theorem Mg(hr:kO s=false)(h2:s≠bz)(hf:lW ⟨s.toArray⟩=some op)(h:pV (aU 0) op l=.ok (x,r)):aU 7 (wW s::sW [40]::l)=.ok (x,r):=by rw[xz,Gn hr h2,Mf hr,if_pos (show ar bz (sW [40]::l)=true from rfl),hf];exact h
theorem Gp:(∀r,ar bz r=false->aU 7 ([wW xg,sW [40],sW [42],sW [41]]++r)=.ok (nr 21 [],r))/\vA (wW xg):=
 ⟨λ r _=>Mg (op:=22) Tab Tab Tab rfl,⟨rfl,rfl,rfl⟩⟩
variable{xs:List Tr}
theorem Vh(hx:(op=27\/op=28)/\(∃a b,xs=[a,b]/\Rd a/\Rd b)\/(¬(op=27\/op=28)/\∃a,xs=[a]/\Rd a))(hw:op≠20->width=0)(r:aI):
  rT (aU 0) op (((if op=20 then [⟨2,[],width⟩,sW [44]] else [])++(df (xs.map Tr.words)++ [sW [41]]))++r)=.ok (.mk op ct ByteArray.empty width xs,r):=by
 unfold rT
 have e1:∀l:aI,vP op ((if op=20 then [⟨2,[],width⟩,sW [44]] else [])++l)=.ok (width,l):=by
  intro l;unfold vP;by_cases Pc:op=20
  ·rw[if_pos Pc,if_pos Pc];rfl
  ·rw[if_neg Pc,if_neg Pc,hw Pc];rfl
 have agf:∀l:aI,Ends 0 (sW [44]::l):=λ l=>⟨rfl,λ _=>rfl,λ _=>rfl,λ _=>⟨rfl,rfl⟩,λ _=>rfl,λ _=>rfl⟩
 rw[append_assoc,ag (e1 _)];rcases hx with ⟨h2,a,b,rfl,ha,hb⟩|⟨h2,a,rfl,ha⟩
 ·have e:(df ([a,b].map Tr.words)++ [sW [41]])++r=a.words++(sW [44]::(b.words++(sW [41]::r))):=by simp only[map_cons,map_nil,wI,qI];simp
  rw[e,ag (ha.top _ (agf _))];unfold rv;rw[if_pos h2,ag (p:=(must bk >>= λ _=>aU 0 >>= λ y=>(pure [y]:Ps (List Tr)))) (x:=[b]) (r:=sW [41]::r) (by rw[ag (cq rfl),ag (hb.top _ (rL r 0))];rfl),ag (cq rfl)];rfl
 ·have e:(df ([a].map Tr.words)++ [sW [41]])++r=a.words++(sW [41]::r):=by simp only[map_cons,map_nil,qI];simp
  rw[e,ag (ha.top _ (rL r 0))];unfold rv;rw[if_neg h2,ag (p:=(pure []:Ps (List Tr))) (x:=[]) (r:=sW [41]::r) rfl,ag (cq rfl)];rfl
theorem zin.KcJ(h:p:=by
 have hs:kO (nB op).1=false/\(nB op).1≠bz/\lW ⟨(nB op).1.toArray⟩=some op/\vA (wW (nB op).1):=by rcases vB with rfl | rfl | rfl | rfl | rfl | rfl | rfl | rfl <;> exact⟨by decide,by decide,by decide,⟨rfl,rfl,rfl⟩⟩
 obtain⟨h1,h2,h3,h4⟩:=hs;refine⟨λ r=>?_,_,_,rfl,h4⟩;have ea:=Vh hx hw r;have e:(zK op width++(df (xs.map Tr.words)++ [sW [41]]))++r=wW (nB op).1::sW [40]::(((if op=20 then [⟨2,[],width⟩,sW [44]] else [])++(df (xs.map Tr.words)++ [sW [41]]))++r):=by unfold zK;simp
 rw[e];refine Mg h1 h2 h3 ?_;unfold pV;by_cases h22:op=22
 ·rw[if_pos h22];subst h22;unfold countP;rw[bQ];rcases hx with ⟨h,_⟩|⟨_,a,rfl,ha⟩
  ·exact absurd h Tab
  ·have hst:ar fe (((if (22:Int)=20 then [⟨2,[],width⟩,sW [44]] else [])++(df ([a].map Tr.words)++ [sW [41]]))++r)=false:=by rw[if_neg Tab];simp only[map_cons,map_nil,qI,nil_append];obtain⟨h,tl,e,hst⟩:=ha.th;rw[e];exact hst
   simp only[hst];exact ea
 ·rw[if_neg h22];exact ea):p:=h
theorem aaZ(hf:kQ op=true)(hx:(op=27\/op=28)/\(∃a b,xs=[a,b]/\Rd a/\Rd b)\/(¬(op=27\/op=28)/\∃a,xs=[a]/\Rd a))(hw:op≠20->width=0):
  (∀r,aU 7 ((zK op width++(df (xs.map Tr.words)++ [sW [41]]))++r)=.ok (.mk op ct ByteArray.empty width xs,r))/\∃h tl,zK op width++(df (xs.map Tr.words)++ [sW [41]])=h::tl/\vA h:=by
 open zin in exact ZgB
theorem qK{o:Option aV}(h:(jO (op,o)).isSome=true):o.isSome=true:=by
 unfold jO at h;dsimp only at h;split at h
 ·rw[aH,aH,Bool.and_eq_true,Bool.and_eq_true] at h;exact h.2.1
 ·exact h
theorem DI{a:Tr}(ha:Rd a)(l:aI):∃h tl,fN (a.op,a.words)++l=h::tl/\gJ fe h=false:=by obtain⟨h,tl,e,hA⟩:=ha.ah;exact⟨h,tl++l,by rw[e];rfl,hA.star⟩
theorem zio.KcJ(h:p:=by
 have one:∀xs:List Tr,xs.length=1->∃a,xs=[a]:=λ xs h=>List.length_eq_one_iff.1 h
 have two:∀xs:List Tr,xs.length=2->∃a b,xs=[a,b]:=λ xs h=>by
  match xs,h with
  | [a,b],_=>exact⟨a,b,rfl⟩
 have hx:(op=27\/op=28)/\(∃a b,args=[a,b]/\Rd a/\Rd b)\/(¬(op=27\/op=28)/\∃a,args=[a]/\Rd a):=by
  by_cases h2:op=27\/op=28
  ·left;have:args.length=2:=by rw[hlen];rcases h2 with rfl | rfl <;> rfl
   obtain⟨a,b,rfl⟩:=two args this;exact⟨h2,a,b,rfl,F7 a Tae,F7 b Tae⟩
  ·right;have:args.length=1:=by rw[hlen];rcases vB with rfl | rfl | rfl | rfl | rfl | rfl | rfl | rfl;all_goals first | rfl | exact absurd Tab h2
   obtain⟨a,rfl⟩:=one args this;exact⟨h2,a,rfl,F7 a Tae⟩
 obtain⟨k1,k2⟩:=aaZ (width:=width) hf hx (λ h=>b3.resolve_left h);have ew:(args.map λ t=>(t.op,t.words)).map (·.2)=args.map Tr.words:=by simp
 rw[ew] at hwd;rw[zM b1,MR b2] at hwd Gq ⊢;exact .BF (Gq _ Pm) (λ r _=>by rw[hwd];exact k1 r) (by rw[hwd];exact k2)):p:=h
theorem alQ (op:Int)(v:Val)(name:ByteArray)(width:Int)(args:List Tr)(hall:∀t∈args,t.out.isSome=true->Rd t)(ho:(od op v name width (Tr.outs args)).isSome=true):Rd (.mk op v name width args):=by
 have hop:(Tr.mk op v name width args).op=op:=rfl;have hwd:(Tr.mk op v name width args).words=DD op v name width (Tr.wJ args):=by rw[Tr.words]
 have Gq:∀b,iY op=b->iY (Tr.mk op v name width args).op=b:=λ b h=>h
 rw[Cm] at ho;rw[DF] at hwd;unfold od at ho;unfold DD at hwd;have nol:¬dc op=true->¬op=3->¬op=4->¬op=18->¬op=19->iY op=false:=by intro a b c d e;unfold iY;simp[a,b,c,d,e]
 by_cases h1:op=1
 ·rw[if_pos h1] at ho hwd;rw[aH,aZ,Bool.and_eq_true] at ho;have hb:=ho.1;simp only[Bool.and_eq_true,Bool.or_eq_true,decide_eq_true_eq,bne_iff_ne,beq_iff_eq,length_map,ne_eq] at hb;obtain⟨b1,b2,b3,b4,b5⟩:=hb;obtain⟨l1,l2⟩:=F5 b4 b5;have e:Tr.mk op v name width args=pG v:=by rw[List.length_eq_zero_iff.1 b1,MR b2,b3,h1];rfl
  have Pm:iY op=false:=nol (by rw[h1];decide) Taa Taa Taa Taa;exact ZgL
 rw[if_neg h1] at ho hwd;by_cases h2:op=2
 ·rw[if_pos h2] at ho hwd;unfold dx at ho;simp only[aH,aZ,Bool.and_eq_true] at ho;obtain⟨hb,hn,_⟩:=ho;simp only[Bool.and_eq_true,beq_iff_eq,length_map] at hb;obtain⟨b1,b2,b3⟩:=hb;obtain⟨l1,l2⟩:=F6 hn;have e:Tr.mk op v name width args=vN name:=by rw[List.length_eq_zero_iff.1 b1,zM b2,b3,h2];rfl
  have Pm:iY op=false:=nol (by rw[h2];decide) Taa Taa Taa Taa;exact ZgL
 rw[if_neg h2] at ho hwd;by_cases h21:op=21
 ·rw[if_pos h21] at ho hwd;rw[aH,aZ,Bool.and_eq_true] at ho;have hb:=ho.1;simp only[Bool.and_eq_true,beq_iff_eq,length_map] at hb;obtain⟨b1,b2⟩:=hb;obtain⟨p1,p2,p3⟩:=qJ b2;have e:Tr.mk op v name width args=nr 21 []:=by rw[List.length_eq_zero_iff.1 b1,p1,p2,p3,h21];rfl
  have Pm:iY op=false:=nol (by rw[h21];decide) Taa Taa Taa Taa;exact .BF (Gq _ Pm) (λ r hr=>by rw[hwd,e];exact Gp.1 r hr) ⟨_,_,hwd,Gp.2⟩
 rw[if_neg h21] at ho hwd;by_cases h3:dc op=true
 ·rw[if_pos h3] at ho hwd
  match args,hall,ho,hwd,hop,Gq with
  | [a,b],hall,ho,hwd,hop,Gq=>
    replace ho:(if bF v name width then aq (jO (a.op,a.out)) (aq (some (32::(pH op++ [32]))) (jO (b.op,b.out)))else none).isSome=true:=ho;replace hwd:(Tr.mk op v name width [a,b]).words=fN (a.op,a.words)++([xU op]++fN (b.op,b.words)):=hwd;split at ho
    ·rename_i hp;obtain⟨p1,p2,p3⟩:=qJ hp;rw[aH,aH,Bool.and_eq_true,Bool.and_eq_true] at ho;have ra:=hall a Tae (qK ho.1);have rb:=hall b Tae (qK ho.2.2);subst p1 p2 p3;exact .tU (Gq _ (by unfold iY;simp[h3])) (λ r hr=>by rw[hwd];exact F3 h3 ra rb r hr) Ta6
    ·cases ho
  | [],_,ho,_,_,_=>cases ho
  | [_],_,ho,_,_,_=>cases ho
  | _::_::_::_,_,ho,_,_,_=>cases ho
 rw[if_neg h3] at ho hwd;by_cases h4:op=3
 ·rw[if_pos h4] at ho hwd
  match args,hall,ho,hwd,hop,Gq with
  | [a],hall,ho,hwd,hop,Gq=>
    replace ho:(if bF v name width then aq (some [45,32]) (jO (a.op,a.out))else none).isSome=true:=ho;replace hwd:(Tr.mk op v name width [a]).words=[sW [45]]++fN (a.op,a.words):=hwd;split at ho
    ·rename_i hp;obtain⟨p1,p2,p3⟩:=qJ hp;rw[aH,Bool.and_eq_true] at ho;have ra:=hall a Tae (qK ho.2);subst p1 p2 p3 h4;exact .tU (Gq _ Tab) (λ r hr=>by rw[hwd];exact Vg ra r hr) (by rw[hwd];exact⟨_,_,rfl,rfl⟩)
    ·cases ho
  | [],_,ho,_,_,_=>cases ho
  | _::_::_,_,ho,_,_,_=>cases ho
 rw[if_neg h4] at ho hwd;by_cases h5:op=4
 ·rw[if_pos h5] at ho hwd
  match args,hall,ho,hwd,hop,Gq with
  | [a],hall,ho,hwd,hop,Gq=>
    replace ho:(if bF v name width then aq (some [78,79,84,32]) (jO (a.op,a.out))else none).isSome=true:=ho;replace hwd:(Tr.mk op v name width [a]).words=[wW ei]++fN (a.op,a.words):=hwd;split at ho
    ·rename_i hp;obtain⟨p1,p2,p3⟩:=qJ hp;rw[aH,Bool.and_eq_true] at ho;have ra:=hall a Tae (qK ho.2);subst p1 p2 p3 h5;exact .tU (Gq _ Tab) (λ r hr=>by rw[hwd];exact F4 ra r hr) (by rw[hwd];exact⟨_,_,rfl,rfl⟩)
    ·cases ho
  | [],_,ho,_,_,_=>cases ho
  | _::_::_,_,ho,_,_,_=>cases ho
 rw[if_neg h5] at ho hwd;by_cases SJ:op=18
 ·rw[if_pos SJ] at ho hwd
  match args,hall,ho,hwd,hop,Gq with
  | [a],hall,ho,hwd,hop,Gq=>
    replace ho:(if bF v name width then aq (jO (a.op,a.out)) (some [32,73,83,32,78,85,76,76])else none).isSome=true:=ho;replace hwd:(Tr.mk op v name width [a]).words=fN (a.op,a.words)++ [wW lQ,wW bK]:=hwd;split at ho
    ·rename_i hp;obtain⟨p1,p2,p3⟩:=qJ hp;rw[aH,Bool.and_eq_true] at ho;have ra:=hall a Tae (qK ho.1);subst p1 p2 p3 SJ;exact .tU (Gq _ Tab) (λ r hr=>by rw[hwd];exact Gm ra false r hr) Ta6
    ·cases ho
  | [],_,ho,_,_,_=>cases ho
  | _::_::_,_,ho,_,_,_=>cases ho
 rw[if_neg SJ] at ho hwd;by_cases SK:op=19
 ·rw[if_pos SK] at ho hwd
  match args,hall,ho,hwd,hop,Gq with
  | [a],hall,ho,hwd,hop,Gq=>
    replace ho:(if bF v name width then aq (jO (a.op,a.out)) (some [32,73,83,32,78,79,84,32,78,85,76,76])else none).isSome=true:=ho;replace hwd:(Tr.mk op v name width [a]).words=fN (a.op,a.words)++ [wW lQ,wW ei,wW bK]:=hwd;split at ho
    ·rename_i hp;obtain⟨p1,p2,p3⟩:=qJ hp;rw[aH,Bool.and_eq_true] at ho;have ra:=hall a Tae (qK ho.1);subst p1 p2 p3 SK;exact .tU (Gq _ Tab) (λ r hr=>by rw[hwd];exact Gm ra true r hr) Ta6
    ·cases ho
  | [],_,ho,_,_,_=>cases ho
  | _::_::_,_,ho,_,_,_=>cases ho
 rw[if_neg SK] at ho hwd;have Pm:iY op=false:=nol h3 h4 h5 SJ SK;by_cases hf:(kQ op &&(args.map λ t=>(t.op,t.out)).length==(nB op).2)=true
 ·rw[if_pos hf] at ho;simp only[Bool.and_eq_true,beq_iff_eq,length_map] at hf;obtain⟨hf,hlen⟩:=hf;simp only[aH,aZ,zH,Bool.and_eq_true,all_eq_true] at ho;obtain⟨hb,_,_,hj,_⟩:=ho;have F7:∀t∈args,Rd t:=λ t ht=>hall t ht (hj _ (by simp only[mem_map];exact⟨_,⟨t,ht,rfl⟩,rfl⟩))
  simp only[Bool.or_eq_true,beq_iff_eq] at hb;obtain⟨b1,b2,b3⟩:=hb;open zio in exact ZgB
 ·rw[if_neg hf] at ho;cases ho
mutual
theorem Tr.read:∀t:Tr,t.out.isSome=true->Rd t
 | .mk op v name width args,h=>by unfold Tr.out at h;exact alQ op v name width args (λ t ht=>Tr.reads args t ht) h
theorem Tr.reads:∀ts:List Tr,∀t∈ts,t.out.isSome=true->Rd t
 | t::ts,u,hu,h=>by
   rcases List.mem_cons.1 hu with e | hu
   ·rw[e] at h ⊢;exact Tr.read t h
   ·exact Tr.reads ts u hu h
end
end Go.Proofs.YtehhdlgjfdnafaaGreatDoor
