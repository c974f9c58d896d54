/- Parts of the proof. -/
import Derived.Test.YtehhdlgjfdnafaaGreatDoorXE28
namespace Go.Proofs.YtehhdlgjfdnafaaGreatDoor
open List
variable{p:Prop}
set_option maxHeartbeats 90000000
set_option maxRecDepth 100000
set_option linter.unusedVariables false
set_option linter.unusedSimpArgs false
def eT:Wd:=⟨0,[],0⟩
def Tl (ks:List aT)(r:aF):Prop:=∃t l,r=t::l/\(t=eT\/∃s∈ks,t=wW s)
variable{ks:List aT}
theorem kv{r:aF} {w:aT}(h:Tl ks r)(hw:w∉ks):ar w r=false:=by
 obtain⟨t,l,rfl,h |⟨s,hs,h⟩⟩:=h
 ·subst h;rfl
 ·subst h;cases e:ar w (wW s::l)
  ·rfl
  ·exfalso;have e:fW w (wW s)=true:=e;unfold fW wW at e;simp only[Bool.and_eq_true,beq_iff_eq] at e;exact hw (e.2▸hs)
theorem Dn:∀(ks:List (List UInt8×Int)) (r:aF),(∀x∈ks,ar x.1 r=false)->eE ks r=none
 | [],_,_=>rfl
 |(s,o)::ks,r,h=>by have h0:=h (s,o) Tae;dsimp only at h0;show(if ar s r=true then some o else eE ks r)=none;rw[if_neg (by rw[h0];decide)];exact Dn ks r λ x hx=>h x (by simp[hx])
def P0:List aT:=[bp,eK,yQ,sS,EA,dr,EB,M4,M5,M6,M7,M8,kH,GH,RP]
def EZ (ks:List aT):Bool:=ks.all λ s=> !P0.contains s
theorem mN{r:aF}(h:Tl ks r)(hk:EZ ks=true)(k:Nat):Ends k r:=by
 have no:∀w,w∈P0->ar w r=false:=λ w hw=>kv h λ hm=>by have:=List.all_eq_true.1 hk w hm;simp only[Bool.not_eq_true',contains_eq_mem,decide_eq_false_iff_not] at this;exact this hw
 have op:∀j,(∀x∈opsL j,x.1∈P0)->eE (opsL j) r=none:=λ j hj=>Dn _ _ λ x hx=>no x.1 (hj x hx)
 exact⟨no _ Tac,λ _=>op 5 Tac,λ _=>op 4 Tac,λ _=>⟨op 3 Tac,no _ Tac⟩,λ _=>op 1 Tac,λ _=>op 0 Tac⟩
theorem KA (l:aF):Tl [] (eT::l):=⟨eT,l,rfl,.inl rfl⟩
theorem Fa{s:aT}(h:s∈ks)(l:aF):Tl ks (wW s::l):=⟨_,l,rfl,.inr ⟨s,h,rfl⟩⟩
theorem Tl.more{r:aF}(h:Tl ks r)(s:aT):Tl (s::ks) r:=by
 obtain⟨t,l,e,h |⟨u,hu,h⟩⟩:=h
 ·exact⟨t,l,e,.inl h⟩
 ·exact⟨t,l,e,.inr ⟨u,mem_cons_of_mem _ hu,h⟩⟩
theorem qz (l:aF)(k:Nat):Ends k (sW [44]::l):=⟨rfl,λ _=>rfl,λ _=>rfl,λ _=>⟨rfl,rfl⟩,λ _=>rfl,λ _=>rfl⟩
theorem ky{t:Tr}(h:t.whole.isSome=true):Rd t:=Tr.read t (by
 unfold Tr.whole at h
 split at h
 ·cases h
 ·exact h)
variable{α:Type}
theorem Hj{s:aT} {t:Wd}(h:fW s t=true)  {f:Bool->Ps α} {r:aF}:(may s >>= f) (t::r)=f true r:=by rw[bK];exact if_pos h
def xV (l:List aF):aF:=match l with
 | []=> []
 | y::r=>sW [44]::cU (y::r)
theorem uv (x:aF)(l:List aF):cU (x::l)=x++xV l:=by
 cases l with
 | nil=>rw[pA];simp[xV]
 | cons y r=>rw[uq];rfl
variable{el:Ps α}{W:α->aF}{E:aF->Prop}
theorem Dp(hs:cC el)  (hE:∀l,E (sW [44]::l)) {r:aF}(hr:E r)(hc:ar bg r=false):∀(l acc:List α),(∀x∈l,∀r,E r->el (W x++r)=.ok (x,r))->vF el acc (xV (l.map W)++r)=.ok (acc++l,r)
 | [],acc,_=>by rw[vG hs,bK];show(if ar bg r=true then _ else(pure acc:Ps (List α)) r)=_;rw[if_neg (by rw[hc];decide),append_nil];rfl
 | x::l,acc,Fb=>by
   have ih:=Dp hs hE hr hc l (acc++ [x]) λ y hy=>Fb y (by simp[hy])
   have e:xV ((x::l).map W)++r=sW [44]::(W x++(xV (l.map W)++r)):=by rw[map_cons];show sW [44]::cU (W x::l.map W)++r=_;rw[uv];simp
   have he:E (xV (l.map W)++r):=by
    cases l with
    | nil=>exact hr
    | cons y l=>exact hE _
   rw[e,vG hs,Hj rfl,if_pos rfl,ag (Fb x Tae _ he),ih];simp
theorem nh(hs:cC el)  (hE:∀l,E (sW [44]::l)) {r:aF}(hr:E r)(hc:ar bg r=false) {l:List α}(hl:l≠ [])(Fb:∀x∈l,∀r,E r->el (W x++r)=.ok (x,r)):dC el (cU (l.map W)++r)=.ok (l,r):=by
 match l,hl with
 | x::l,_=>
   have he:E (xV (l.map W)++r):=by
    cases l with
    | nil=>exact hr
    | cons y l=>exact hE _
   rw[map_cons,uv,append_assoc,ET,ag (Fb x Tae _ he),Dp hs hE hr hc l [x] λ y hy=>Fb y (by simp[hy])];rfl
variable{x:α}{tl:aF}
theorem OP(W:α->aF)  {l:List α} {h:Wd} (e:W x=h::tl):∃t2,cU ((x::l).map W)=h::t2:=⟨tl++xV (l.map W),by rw[map_cons,uv,e];rfl⟩
theorem lj{t:Tr}(h:Rd t) {r:aF}(hr:Ends 0 r):ey (t.words++r)=.ok (t,r):=h.top r hr
variable{l:List Tr}
theorem Aw(hl:l≠ [])(h:∀t∈l,Rd t) {r:aF}(hr:Ends 0 r)(hc:ar bg r=false):dC ey (cU (l.map Tr.words)++r)=.ok (l,r):=
 nh jP (E:=Ends 0) (λ l=>qz l 0) hr hc hl λ t ht r hr=>lj (h t ht) hr
theorem acx (s:ByteArray):(⟨s.data.toList.toArray⟩:ByteArray)=s:=by obtain⟨⟨l⟩⟩:=s;rfl
theorem eh{s:ByteArray}(h:pg s.data.toList=true)(r:aF):ct (wW s.data.toList::r)=.ok (s,r):=by rw[Hf (Ap h).1,acx]
theorem pK (n:Int)(r:aF):mq (nW n::r)=.ok (n,r):=rfl
theorem lJ{s:aT} {t:Wd}(h:fW s t=true) (f:Bool->Ps α)(r:aF):(may s >>= f) (t::r)=f true r:=by rw[bK];exact if_pos h
theorem ll{s:aT} {r:aF}(h:ar s r=false) (f:Bool->Ps α):(may s >>= f) r=f false r:=by rw[bK];exact if_neg (by rw[h];decide)
theorem dm (s:aT):fW s (wW s)=true:=by unfold fW wW;simp
theorem SH{s:aT}(h:pg s=true) {w:aT}(hw:jT w=true)(r:aF):ar w (wW s::r)=false:=by
 cases e:ar w (wW s::r)
 ·rfl
 ·exfalso;have e:fW w (wW s)=true:=e;unfold fW wW at e;simp only[Bool.and_eq_true,beq_iff_eq] at e;have:=(Ap h).1;rw[e.2,hw] at this;cases this
theorem ei{s:ByteArray}(h:(cS s).isSome=true):pg s.data.toList=true:=by unfold cS at h;rw[aD,aV,Bool.and_eq_true] at h;exact h.1
theorem OQ{x:Tr×ByteArray}(h:(ou x).isSome=true) {r:aF}(hr:Ends 0 r)(ha:ar lZ r=false):nz (xU x++r)=.ok (x,r):=by
 obtain⟨t,nm⟩:=x;unfold ou at h;rw[aD,Bool.and_eq_true] at h;obtain⟨h1,h2⟩:=h;have rt:=ky h1;unfold xU nz;dsimp only at h2 ⊢;by_cases e:nm.toList=[]
 ·rw[if_pos e,append_nil,ag (lj rt hr),ll ha,Jx e];rfl
 ·rw[if_neg e] at h2 ⊢;rw[aD,Bool.and_eq_true] at h2;have hn:=ei h2.2;have e2:(t.words++([wW lZ]++ [wW nm.data.toList]))++r=t.words++(wW lZ::wW nm.data.toList::r):=by simp
  rw[e2,ag (lj rt (mN (Fa (ks:=[lZ]) Tae _) Tac 0)),lJ (dm _),if_pos rfl,ag (eh hn r)];rfl
theorem KB{x:Tr×Bool}(h:(kr x).isSome=true) {r:aF}(hr:Ends 0 r)(ha:ar mo r=false):km (uu x++r)=.ok (x,r):=by
 obtain⟨t,d⟩:=x;unfold kr at h;rw[aD,Bool.and_eq_true] at h;have rt:=ky h.1;unfold uu km;cases d
 ·simp only[Bool.false_eq_true,if_false,append_nil];rw[ag (lj rt hr),ll ha];rfl
 ·simp only[if_true,append_assoc,cons_append,nil_append];rw[ag (lj rt (mN (Fa (ks:=[mo]) Tae _) Tac 0)),lJ (dm _)];rfl
variable{word:aT}
theorem Hk(h:(eQ word l).isSome=true):l=[]\/∃t,l=[t]/\Rd t:=by
 unfold eQ at h;rw[aD,aV,Bool.and_eq_true,decide_eq_true_eq] at h
 match l,h with
 | [],_=>exact .inl rfl
 | [t],h=>have h2:=h.2;rw[aD,Bool.and_eq_true] at h2;exact .inr ⟨t,rfl,ky h2.2⟩
 | _::_::_,h=>have:=h.1;simp at this
theorem oz{w:aT} (h:(eQ word l).isSome=true)  {r:aF}(hr:Tl ks r)(hw:w∉ks)(hk:EZ ks=true):gj w (fP w l++r)=.ok (l,r):=by
 unfold gj;rcases Hk h with rfl |⟨t,rfl,rt⟩
 ·show(may w >>= _) r=_;rw[ll (kv hr hw)];rfl
 ·show(may w >>= _) (wW w::(t.words++r))=_;rw[lJ (dm _),if_pos rfl,ag (lj rt (mN hr hk 0))];rfl
theorem xf{w:aT}   {r:aF}(hr:Tl ks r):Tl (w::ks) (fP w l++r):=by
 cases l with
 | nil=>exact hr.more w
 | cons t l=>exact⟨_,_,rfl,.inr ⟨w,by simp,rfl⟩⟩
variable{a b:aT}
theorem MC{l:List aF}  {r:aF}(hr:Tl ks r):Tl (a::ks) (rS ([wW a]++ [wW b]) l++r):=by
 unfold rS;split
 ·exact hr.more a
 ·exact⟨_,_,rfl,.inr ⟨a,by simp,rfl⟩⟩
theorem SI{l:List Int}  {r:aF}(hr:Tl ks r):Tl (jf::ks) (xd l++r):=by
 cases l with
 | nil=>exact hr.more _
 | cons n l=>exact⟨_,_,rfl,.inr ⟨_,by simp,rfl⟩⟩
variable{lead:aT}{f:α->Option aT}
theorem Dq{l:List α}(h:(jm lead (l.map f)).isSome=true):∀x∈l,(f x).isSome=true:=λ x hx=>wT h _ (List.mem_map.2 ⟨x,hx,rfl⟩)
theorem KC(h:(jm lead (l.map Tr.whole)).isSome=true)  {r:aF}(hr:Tl ks r)(hw:iE∉ks)(hk:EZ ks=true)(hc:bg∉ks):ql (rS ([wW iE]++ [wW mJ]) (l.map Tr.words)++r)=.ok (l,r):=by
 unfold ql rS
 match l,h with
 | [],_=>show(may iE >>= _) r=_;rw[ll (kv hr hw)];rfl
 | t::l,h=>rw[if_neg Tae];show(may iE >>= _) (wW iE::wW mJ::(cU ((t::l).map Tr.words)++r))=_;rw[lJ (dm _),if_pos rfl,ag (bX (dm _))];exact Aw Tae (λ x hx=>ky (Dq h x hx)) (mN hr hk 0) (kv hr hc)
theorem Hl{l:List (Tr×Bool)}(h:(jm lead (l.map kr)).isSome=true)  {r:aF}(hr:Tl ks r)(hw:iF∉ks)(hk:EZ ks=true)(hc:bg∉ks)(hd:mo∉ks):mK (rS ([wW iF]++ [wW mJ]) (l.map uu)++r)=.ok (l,r):=by
 unfold mK rS
 match l,h with
 | [],_=>show(may iF >>= _) r=_;rw[ll (kv hr hw)];rfl
 | t::l,h=>rw[if_neg Tae];show(may iF >>= _) (wW iF::wW mJ::(cU ((t::l).map uu)++r))=_;rw[lJ (dm _),if_pos rfl,ag (bX (dm _))];exact nh ma (E:=λ r=>Ends 0 r/\ar mo r=false) (λ l=>⟨qz l 0,rfl⟩) ⟨mN hr hk 0,kv hr hd⟩ (kv hr hc) Tae λ x hx r hr=>KB (Dq h x hx) hr.1 hr.2
theorem KD{l:List Int}(h:(ED l).isSome=true)  {r:aF}(hr:Tl ks r)(hw:jf∉ks):rN (xd l++r)=.ok (l,r):=by
 unfold ED at h;rw[aD,aV,Bool.and_eq_true,decide_eq_true_eq] at h;unfold rN
 match l,h with
 | [],_=>show(may jf >>= _) r=_;rw[ll (kv hr hw)];rfl
 | [n],_=>show(may jf >>= _) (wW jf::nW n::r)=_;rw[lJ (dm _),if_pos rfl,ag (pK n r)];rfl
 | _::_::_,h=>have:=h.1;simp at this
theorem Ax{q:Qu}(h:(jG q).isSome=true) {r:aF}(hr:Tl [] r):cQ (mv q++r)=.ok (q,r):=by
 unfold jG at h;simp only[aD,Bool.and_eq_true] at h;obtain⟨-,hi, -, -,hn,hw,hg,hh,ho,hl⟩:=h;have hn:=ei hn;have T1:Tl [jf] (xd q.aQ++r):=SI hr;have T2:=MC (a:=iF) (b:=mJ) (l:=q.order.map uu) T1;have T3:=xf (w:=lY) (l:=q.having) T2;have T4:=MC (a:=iE) (b:=mJ) (l:=q.group.map Tr.words) T3;have T5:=xf (w:=cV) (l:=q.aP) T4;have e:mv q++r=wW cA::((if q.items.length=0 then [sW [42]] else cU (q.items.map xU))++(wW bZ::((if q.only then [wW js] else [])++(wW q.aN.data.toList::(fP cV q.aP++(rS ([wW iE]++ [wW mJ]) (q.group.map Tr.words)++(fP lY q.having++(rS ([wW iF]++ [wW mJ]) (q.order.map uu)++(xd q.aQ++r))))))))):=by unfold mv SG;simp only[append_assoc,cons_append,nil_append]
 rw[e];unfold cQ;rw[ag (bX (dm _))]
 have items:∀l,rM ((if q.items.length=0 then [sW [42]] else cU (q.items.map xU))++(wW bZ::l))=.ok (q.items,wW bZ::l):=by
  intro l;unfold rM
  match hq:q.items,hi with
  | [],_=>show(may eK >>= _) (sW [42]::(wW bZ::l))=_;rw[lJ rfl];rfl
  | x::xs,hi=>
    rw[if_neg Tae] at hi ⊢;have hsome:=λ y hy=>gG _ hi (ou y) (List.mem_map.2 ⟨y,hy,rfl⟩)
    have hx:=hsome x Tae;have rx:Rd x.1:=by unfold ou at hx;rw[aD,Bool.and_eq_true] at hx;exact ky hx.1
    obtain⟨d,tl,ed,hd⟩:=rx.th;obtain⟨t2,e2⟩:=OP xU (x:=x) (l:=xs) (h:=d) (tl:=tl++(if x.2.toList=[] then [] else [wW lZ]++ [wW x.2.data.toList])) (by unfold xU;rw[ed];rfl);rw[ll (by rw[e2];exact hd),if_neg Tac];have F:Tl [bZ] (wW bZ::l):=Fa Tae l;exact nh kZ (E:=λ r=>Ends 0 r/\ar lZ r=false) (λ l=>⟨qz l 0,rfl⟩) ⟨mN F Tac 0,kv F Tac⟩ (kv F Tac) Tae λ y hy r hr=>OQ (hsome y hy) hr.1 hr.2
 rw[ag (items _),ag (bX (dm _))]
 have only:∀(l:aF) {α:Type} (f:Bool->Ps α),(may js >>= f) ((if q.only then [wW js] else [])++(wW q.aN.data.toList::l))=f q.only (wW q.aN.data.toList::l):=by
  intro l α f;cases q.only
  ·exact ll (SH hn Tac l) f
  ·exact lJ (dm _) f _
 rw[only,ag (eh hn _),ag (oz hw T4 Tac Tac),ag (KC hg T3 Tac Tac Tac),ag (oz hh T2 Tac Tac),ag (Hl ho T1 Tac Tac Tac Tac),ag (KD hl hr Tae)];rfl
abbrev TB:=aT×Bool
def tb (x:TB):Option aT:=if x.2 then some x.1 else none
theorem P1{q:Qu}(h:WW q=true):q= {}:=by obtain⟨items,aN,only,aP,group,having,order,aQ⟩:=q;unfold WW at h;simp only[Bool.and_eq_true,decide_eq_true_eq,beq_iff_eq,Bool.not_eq_true'] at h;obtain⟨h1,h2,h3⟩:=h;have e1:items=[]:=List.length_eq_zero_iff.1 Taa;have e2:aP=[]:=List.length_eq_zero_iff.1 Taa;have e3:group=[]:=List.length_eq_zero_iff.1 Taa;have e4:having=[]:=List.length_eq_zero_iff.1 Taa;have e5:order=[]:=List.length_eq_zero_iff.1 Taa;have e6:aQ=[]:=List.length_eq_zero_iff.1 Taa;rw[e1,e2,e3,e4,e5,e6,Jx h2,h3]
structure acy (s:St) (c q j w e r u h t:Bool):Prop where
 c:c=true\/s.aY=[]/\s.time=ByteArray.empty/\s.space=ByteArray.empty/\s.parts=0
 e:e=true\/s.every=0
 q:q=true\/s.query= {}
 w:w=true\/s.what=0
 j:j=true\/s.cI=ByteArray.empty/\s.a=0/\s.b=0
 r:r=true\/s.rows=[]
 u:u=true\/s.bF=[]
 h:h=true\/s.aP=[]
 t:t=true\/s.aN=bU/\s.dH=bU
variable{s:St}
theorem dU{c q j w e r u h t:Bool}(hl:dv s c q j w e r u h t=true):acy s c q j w e r u h t:=by unfold dv at hl;simp only[Bool.and_eq_true,Bool.or_eq_true,beq_iff_eq] at hl;obtain⟨⟨⟨⟨⟨⟨⟨⟨l1,l2⟩,l3⟩,l4⟩,l5⟩,l6⟩,l7⟩,l8⟩,l9⟩:=hl;exact⟨l1.imp id λ x=>⟨List.length_eq_zero_iff.1 x.1.1.1,Jx x.1.1.2,Jx x.1.2,x.2⟩,l2,l3.imp id P1,l4,l5.imp id λ x=>⟨Jx x.1.1,x.1.2,x.2⟩,l6.imp id List.length_eq_zero_iff.1,l7.imp id List.length_eq_zero_iff.1,l8.imp id List.length_eq_zero_iff.1,l9.imp id λ x=>⟨xc x.1,xc x.2⟩⟩
theorem no{p:Prop}(h:false=true\/p):p:=h.resolve_left Tac
theorem P2 (l:aF):Tl [] (eT::l):=KA l
theorem P3{c:ByteArray×Int}(h:(GK c).isSome=true)(r:aF):gW (Kz c++r)=.ok (c,r):=by
 obtain⟨nm,t⟩:=c;unfold GK at h;simp only[aD,aV,Bool.and_eq_true,decide_eq_true_eq] at h;obtain⟨hn,⟨h1,h2⟩, -⟩:=h;unfold gW Kz;show(ct >>= _) (wW nm.data.toList::wW (Zt t)::r)=_;rw[ag (eh (ei hn) _)];have:t=1\/t=2\/t=3:=by omega
 rcases this with rfl | rfl | rfl <;> rfl
theorem P4{x:ByteArray×Tr}(h:(EE x).isSome=true) {r:aF}(hr:Ends 0 r):vp (EY x++r)=.ok (x,r):=by
 obtain⟨nm,t⟩:=x;unfold EE at h;simp only[aD,Bool.and_eq_true] at h;obtain⟨hn, -,ht⟩:=h;unfold vp EY;have e:([wW nm.data.toList]++([sW [61]]++t.words))++r=wW nm.data.toList::sW [61]::(t.words++r):=by simp
 dsimp only;rw[e,ag (eh (ei hn) _),ag (bX rfl),ag (lj (ky ht) hr)];rfl
theorem P5(h:(Cc l).isSome=true)(r:aF):rO (Hi l++r)=.ok (l,r):=by
 unfold Cc at h;simp only[aD,Bool.and_eq_true] at h;obtain⟨-,hl, -⟩:=h;have hne:l≠ []:=by rintro rfl;cases hl
 have e:Hi l++r=sW [40]::(cU (l.map Tr.words)++(sW [41]::r)):=by unfold Hi;simp
 unfold rO;rw[e,ag (bX rfl),ag (Aw hne (λ t ht=>ky (gG _ hl _ (List.mem_map.2 ⟨t,ht,rfl⟩))) (qu r 0) rfl),ag (bX rfl)];rfl
variable{v:Val}
theorem SJ(h:(yy v).isSome=true)(r:aF):tJ (Au v++r)=.ok (v,r):=by
 unfold yy at h;simp only[aD,aV,Bool.and_eq_true] at h;obtain⟨hb,hg, -⟩:=h;obtain⟨k,n,s⟩:=v;simp only[Bool.or_eq_true,Bool.and_eq_true,beq_iff_eq,decide_eq_true_eq] at hb;unfold good at hg;dsimp only at hb hg;unfold Au tJ;dsimp only;by_cases h0:k=0
 ·rw[if_pos h0] at hg ⊢;simp only[Bool.and_eq_true,beq_iff_eq,qc] at hg;rw[h0,hg.1,Jx hg.2];rfl
 ·obtain⟨h2,hn⟩:=hb.resolve_left h0;subst h2;rw[if_neg Taa,if_neg Taa,if_pos rfl] at hg;simp only[qc,beq_iff_eq] at hg;rw[if_neg Taa,Jx hg];by_cases Ay:n < 0
  ·rw[if_pos Ay];show(may bE >>= _) (sW [45]::nW (-n)::r)=_;rw[ll rfl,if_neg Tac];show(may dr >>= _) (sW [45]::nW (-n)::r)=_;rw[lJ rfl,ag (pK _ _)];show(Except.ok ((⟨2,if true=true then - -n else -n,ByteArray.empty⟩:Val),r):Except Nat (Val×aF))=_;rw[if_pos rfl,Int.neg_neg]
  ·rw[if_neg Ay];show(may bE >>= _) (nW n::r)=_;rw[ll rfl,if_neg Tac];show(may dr >>= _) (nW n::r)=_;rw[ll rfl,ag (pK _ _)];rfl
theorem Fc{l:List α}(h:(dt (l.map f)).isSome=true):l≠ []:=by rintro rfl;cases h
theorem sZ{l:List α}(h:(dt (l.map f)).isSome=true):l.length<=64:=by unfold dt at h;rw[aD,aV,Bool.and_eq_true,Bool.and_eq_true,length_map,decide_eq_true_eq,decide_eq_true_eq] at h;exact h.1.2
theorem OS (l:aF):jU [cm,dc,gR] (wW cm::l)=.ok (cm,l):=rfl
theorem SK (l:aF):jU [cm,dc,gR] (wW dc::l)=.ok (dc,l):=rfl
theorem Xo (l:aF):jU [cm,dc,gR] (wW gR::l)=.ok (gR,l):=rfl
theorem KE(hk:s.kind=1)(h:(oP s).isSome=true)(r:aF):lG ([wW cm]++([wW s.name.data.toList]++([sW [40]]++(cU (s.aY.map Kz)++([sW [41]]++ [wW kR]++([wW s.time.data.toList]++([wW cd]++([nW s.every]++(if s.space.toList=[] then [] else [wW jD]++([wW s.space.data.toList]++([wW eP]++ [nW s.parts]))))))))))++(eT::r))=.ok (s,eT::r):=by
 unfold oP at h;simp only[aD,aV,Bool.and_eq_true] at h;obtain⟨hl, -,hn, -,hc, -,ht, -,he,hsp⟩:=h;have li:=dU hl;have e:∀X:aF,[wW cm]++([wW s.name.data.toList]++([sW [40]]++(cU (s.aY.map Kz)++([sW [41]]++ [wW kR]++([wW s.time.data.toList]++([wW cd]++([nW s.every]++X)))))))++(eT::r)=wW cm::wW s.name.data.toList::sW [40]::(cU (s.aY.map Kz)++(sW [41]::wW kR::wW s.time.data.toList::wW cd::nW s.every::(X++(eT::r)))):=by intro X;simp
 rw[e];unfold lG;rw[ag (OS _),if_pos rfl];unfold EC
 have aY:dC gW (cU (s.aY.map Kz)++(sW [41]::wW kR::wW s.time.data.toList::wW cd::nW s.every::((if s.space.toList=[] then [] else [wW jD]++([wW s.space.data.toList]++([wW eP]++ [nW s.parts])))++(eT::r))))=.ok (s.aY,_):=
  nh mM (E:=λ _=>True) (λ _=>trivial) trivial rfl (Fc hc) λ x hx r _=>P3 (gG _ hc _ (List.mem_map.2 ⟨x,hx,rfl⟩)) r
 have sp:wP ((if s.space.toList=[] then [] else [wW jD]++([wW s.space.data.toList]++([wW eP]++ [nW s.parts])))++(eT::r))=.ok ((s.space,s.parts),eT::r):=by
  unfold wP;by_cases es:s.space.toList=[]
  ·rw[if_pos es] at hsp ⊢;rw[aV,beq_iff_eq] at hsp;show(may jD >>= _) (eT::r)=_;rw[ll rfl,hsp,Jx es];rfl
  ·rw[if_neg es] at hsp ⊢;simp only[aD,Bool.and_eq_true] at hsp;show(may jD >>= _) (wW jD::wW s.space.data.toList::wW eP::nW s.parts::(eT::r))=_;rw[lJ (dm _),if_pos rfl,ag (eh (ei hsp.2.1) _),ag (bX (dm _)),ag (pK _ _)];rfl
 rw[ag (eh (ei hn) _),ag (bX rfl),ag aY,ag (bX rfl),ag (bX (dm _)),ag (eh (ei ht) _),ag (bX (dm _)),ag (pK _ _),ag sp];obtain⟨kind,name,cs,time,every,space,parts,query,what,cI,a,b,rows,bF,aP,aN,dH⟩:=s;have l1:=no li.q;have l2:=no li.w;have l3:=no li.j;have l4:=no li.r;have l5:=no li.u;have l6:=no li.h;have l7:=no li.t;dsimp only at hk l1 l2 l3 l4 l5 l6 l7;obtain⟨m1,m2,m3⟩:=l3;obtain⟨m4,m5⟩:=l7;subst hk l1 l2 m1 m2 m3 l4 l5 l6 m4 m5;rfl
theorem SL(hk:s.kind=3)(h:(Ce s).isSome=true)(r:aF):lG ([wW gR]++([wW s.name.data.toList]++([wW (vH s.what)]++([wW s.cI.data.toList]++((if s.what=9 then [wW bZ]++([nW s.a]++([wW Cb]++ [nW s.b]))else [wW fq]++ [nW s.a])++([wW cd]++ [nW s.every])))))++(eT::r))=.ok (s,eT::r):=by
 unfold Ce at h;simp only[aD,aV,Bool.and_eq_true] at h;obtain⟨hl, -,hn,hj, -,ho,hab, -,he⟩:=h;have li:=dU hl
 have hw:s.what=9\/s.what=10\/s.what=12:=by
  unfold yz at hj;by_cases e:s.what=9
  ·exact .inl e
  by_cases e2:s.what=10
  ·exact .inr (.inl e2)
  by_cases e3:s.what=12
  ·exact .inr (.inr e3)
  ·simp[e,e2,e3] at hj
 have e:∀X:aF,[wW gR]++([wW s.name.data.toList]++([wW (vH s.what)]++([wW s.cI.data.toList]++(X++([wW cd]++ [nW s.every])))))++(eT::r)=wW gR::wW s.name.data.toList::wW (vH s.what)::wW s.cI.data.toList::(X++(wW cd::nW s.every::(eT::r))):=by intro X;simp
 rw[e];unfold lG;rw[ag (Xo _),if_neg Tac,if_neg Tac];unfold Oh;have any:∀l,jU [bO,bJ,fT] (wW (vH s.what)::l)=.ok (vH s.what,l):=by intro l;unfold vH;rcases hw with e | e | e <;> rw[e] <;> rfl
 have ab:zT (vH s.what) ((if s.what=9 then [wW bZ]++([nW s.a]++([wW Cb]++ [nW s.b]))else [wW fq]++ [nW s.a])++(wW cd::nW s.every::(eT::r)))=.ok ((s.a,s.b),wW cd::nW s.every::(eT::r)):=by
  unfold zT vH;by_cases e9:s.what=9
  ·rw[if_pos e9,if_pos rfl,if_pos e9];rfl
  ·rw[if_neg e9] at hab ⊢;rw[aD,aV,Bool.and_eq_true,beq_iff_eq] at hab;have hk2:¬(if s.what=10 then bJ else fT)=bO:=by split <;> decide
   rw[if_neg hk2,if_neg e9,hab.1];rfl
 rw[ag (eh (ei hn) _),ag (any _),ag (eh (ei ho) _),ag ab,ag (bX (dm _)),ag (pK _ _)];have SM:(if vH s.what=bO then(9:Int)else if vH s.what=bJ then 10 else 12)=s.what:=by unfold vH;rcases hw with e | e | e <;> rw[e] <;> rfl
 show(Except.ok (({ kind:=3,name:=s.name,what:=if vH s.what=bO then 9 else if vH s.what=bJ then 10 else 12,cI:=s.cI,a:=s.a,b:=s.b,every:=s.every }:St),eT::r):Except Nat (St×aF))=_;rw[SM];obtain⟨kind,name,cs,time,every,space,parts,query,what,cI,a,b,rows,bF,aP,aN,dH⟩:=s;have l0:=no li.c;have l1:=no li.q;have l4:=no li.r;have l5:=no li.u;have l6:=no li.h;have l7:=no li.t;dsimp only at hk l0 l1 l4 l5 l6 l7;obtain⟨m0,m1,m2,m3⟩:=l0;obtain⟨m4,m5⟩:=l7;subst hk l1 m0 m1 m2 m3 l4 l5 l6 m4 m5;rfl
theorem zdR.KaY(h:p:=by have l4:=no li.r;have l5:=no li.u;have l6:=no li.h;have l7:=no li.t;dsimp only at h2 l0 l1 l2 l3 l4 l5 l6 l7;obtain⟨m0,m1,m2,m3⟩:=l0;obtain⟨m6,m7,m8⟩:=l3;obtain⟨m4,m5⟩:=l7;subst h2 l1 l2 m0 m1 m2 m3 m6 m7 m8 l4 l5 l6 m4 m5;rfl):p:=h
theorem zdS.KaY(h:p:=by have l4:=no li.q;have l5:=no li.u;have l6:=no li.h;have l7:=no li.t;dsimp only at h5 l0 l1 l2 l3 l4 l5 l6 l7;obtain⟨m0,m1,m2,m3⟩:=l0;obtain⟨m6,m7,m8⟩:=l3;obtain⟨m4,m5⟩:=l7;subst h5 l1 l2 m0 m1 m2 m3 m6 m7 m8 l4 l5 l6 m4 m5;rfl):p:=h
theorem zdT.KaY(h:p:=by have l4:=no li.q;have l5:=no li.r;have l7:=no li.t;dsimp only at h6 l0 l1 l2 l3 l4 l5 l7;obtain⟨m0,m1,m2,m3⟩:=l0;obtain⟨m6,m7,m8⟩:=l3;obtain⟨m4,m5⟩:=l7;subst h6 l1 l2 m0 m1 m2 m3 m6 m7 m8 l4 l5 m4 m5;rfl):p:=h
theorem zdU.KaY(h:p:=by have l4:=no li.q;have l5:=no li.r;have l6:=no li.u;have l7:=no li.t;dsimp only at h7 l0 l1 l2 l3 l4 l5 l6 l7;obtain⟨m0,m1,m2,m3⟩:=l0;obtain⟨m6,m7,m8⟩:=l3;obtain⟨m4,m5⟩:=l7;subst h7 l1 l2 m0 m1 m2 m3 m6 m7 m8 l4 l5 l6 m4 m5;rfl):p:=h
theorem zdV.KaY(h:p:=by have l4:=no li.r;have l5:=no li.u;have l6:=no li.h;have l7:=no li.t;have l8:=Jx MD;dsimp only at h8 l0 l1 l2 l3 l4 l5 l6 l7 l8;obtain⟨m0,m1,m2,m3⟩:=l0;obtain⟨m6,m7,m8⟩:=l3;obtain⟨m4,m5⟩:=l7;subst h8 l1 l2 m0 m1 m2 m3 m6 m7 m8 l4 l5 l6 m4 m5 l8;rfl):p:=h
theorem zdW.KaY(h:p:=by have l4:=no li.q;have l5:=no li.r;have l6:=no li.u;have l7:=no li.h;dsimp only at l0 l1 l2 l3 l4 l5 l6 l7;obtain⟨m0,m1,m2,m3⟩:=l0;obtain⟨m6,m7,m8⟩:=l3;subst l1 l2 m0 m1 m2 m3 m6 m7 m8 l4 l5 l6 l7;rfl):p:=h
theorem OT(h:(cB s).isSome=true)(r:aF):bQ (Av s++(eT::r))=.ok (s,eT::r):=by
 have T:Tl [] (eT::r):=P2 r;unfold cB at h;unfold Av;by_cases h1:s.kind=1
 ·rw[if_pos h1] at h ⊢;have:=KE h1 h r;exact ZfR
 rw[if_neg h1] at h ⊢;by_cases h3:s.kind=3
 ·rw[if_pos h3] at h ⊢;have:=SL h3 h r;exact ZfR
 rw[if_neg h3] at h ⊢;by_cases h2:s.kind=2
 ·rw[if_pos h2] at h ⊢;simp only[aD,aV,Bool.and_eq_true] at h;obtain⟨hl, -,hn, -,hq⟩:=h;have li:=dU hl;have e:([wW eN]++ [wW dc]++([wW s.name.data.toList]++([wW lZ]++mv s.query)))++(eT::r)=wW eN::wW dc::wW s.name.data.toList::wW lZ::(mv s.query++(eT::r)):=by simp
  rw[e];show lG (wW dc::wW s.name.data.toList::wW lZ::(mv s.query++(eT::r)))=_;unfold lG;rw[ag (SK _),if_neg Tac,if_pos rfl];unfold Zo;rw[ag (eh (ei hn) _),ag (bX (dm _)),ag (Ax hq T)];open zdR in exact ZbC
 rw[if_neg h2] at h ⊢;by_cases h4:s.kind=4
 ·rw[if_pos h4] at h ⊢;simp only[aD,aV,Bool.and_eq_true] at h;obtain⟨⟨hd,hl⟩, -,hn⟩:=h;have li:=dU hl
  have hw:s.what=1\/s.what=2\/s.what=3:=by
   unfold tP at hd;by_cases e:s.what=1
   ·exact .inl e
   by_cases e2:s.what=2
   ·exact .inr (.inl e2)
   by_cases e3:s.what=3
   ·exact .inr (.inr e3)
   ·simp[e,e2,e3] at hd
  show Mq (wW (oQ s.what)::wW s.name.data.toList::(eT::r))=_;have any:∀l,jU [cm,dc,gR] (wW (oQ s.what)::l)=.ok (oQ s.what,l):=by intro l;unfold oQ;rcases hw with e | e | e <;> rw[e] <;> rfl
  unfold Mq;rw[ag (any _),ag (eh (ei hn) _)];have SM:(if oQ s.what=cm then(1:Int)else if oQ s.what=dc then 2 else 3)=s.what:=by unfold oQ;rcases hw with e | e | e <;> rw[e] <;> rfl
  show(Except.ok (({ kind:=4,what:=if oQ s.what=cm then 1 else if oQ s.what=dc then 2 else 3,name:=s.name }:St),eT::r):Except Nat (St×aF))=_;rw[SM];obtain⟨kind,name,cs,time,every,space,parts,query,what,cI,a,b,rows,bF,aP,aN,dH⟩:=s;have l0:=no li.c;have l1:=no li.e;have l2:=no li.q;have l3:=no li.j;have l4:=no li.r;have l5:=no li.u;have l6:=no li.h;have l7:=no li.t;dsimp only at h4 l0 l1 l2 l3 l4 l5 l6 l7;obtain⟨m0,m1,m2,m3⟩:=l0;obtain⟨m6,m7,m8⟩:=l3;obtain⟨m4,m5⟩:=l7;subst h4 l1 l2 m0 m1 m2 m3 m6 m7 m8 l4 l5 l6 m4 m5;rfl
 rw[if_neg h4] at h ⊢;by_cases h5:s.kind=5
 ·rw[if_pos h5] at h ⊢;simp only[aD,aV,Bool.and_eq_true] at h;obtain⟨hl, -,hn, -,hr⟩:=h;have li:=dU hl;have e:([wW gD]++ [wW eP]++([wW s.name.data.toList]++([wW iQ]++cU (s.rows.map Hi))))++(eT::r)=wW gD::wW eP::wW s.name.data.toList::wW iQ::(cU (s.rows.map Hi)++(eT::r)):=by simp
  rw[e];show yR (wW eP::wW s.name.data.toList::wW iQ::(cU (s.rows.map Hi)++(eT::r)))=_;unfold yR
  have rows:dC rO (cU (s.rows.map Hi)++(eT::r))=.ok (s.rows,eT::r):=
   nh wZ (E:=λ _=>True) (λ _=>trivial) trivial rfl (Fc hr) λ x hx r _=>P5 (gG _ hr _ (List.mem_map.2 ⟨x,hx,rfl⟩)) r
  rw[ag (bX (dm _)),ag (eh (ei hn) _),ag (bX (dm _)),ag rows];open zdS in exact ZbC
 rw[if_neg h5] at h ⊢;by_cases h6:s.kind=6
 ·rw[if_pos h6] at h ⊢;simp only[aD,aV,Bool.and_eq_true] at h;obtain⟨hl, -,hn, -,hr,hb⟩:=h;have li:=dU hl;have e:([wW gF]++([wW s.name.data.toList]++([wW rL]++(cU (s.bF.map EY)++fP cV s.aP))))++(eT::r)=wW gF::wW s.name.data.toList::wW rL::(cU (s.bF.map EY)++(fP cV s.aP++(eT::r))):=by simp
  rw[e];show yS (wW s.name.data.toList::wW rL::(cU (s.bF.map EY)++(fP cV s.aP++(eT::r))))=_;unfold yS;have TB:=xf (w:=cV) (l:=s.aP) T
  have bF:dC vp (cU (s.bF.map EY)++(fP cV s.aP++(eT::r)))=.ok (s.bF,fP cV s.aP++(eT::r)):=
   nh Dg (E:=λ r=>Ends 0 r) (λ l=>qz l 0) (mN TB Tac 0) (kv TB Tac) (Fc hr) λ x hx r hE=>P4 (gG _ hr _ (List.mem_map.2 ⟨x,hx,rfl⟩)) hE
  rw[ag (eh (ei hn) _),ag (bX (dm _)),ag bF,ag (oz hb T Tae Tac)];open zdT in exact ZbC
 rw[if_neg h6] at h ⊢;by_cases h7:s.kind=7
 ·rw[if_pos h7] at h ⊢;simp only[aD,aV,Bool.and_eq_true] at h;obtain⟨hl, -,hn,hb⟩:=h;have li:=dU hl;have e:([wW fL]++ [wW bZ]++([wW s.name.data.toList]++fP cV s.aP))++(eT::r)=wW fL::wW bZ::wW s.name.data.toList::(fP cV s.aP++(eT::r)):=by simp
  rw[e];show yT (wW bZ::wW s.name.data.toList::(fP cV s.aP++(eT::r)))=_;unfold yT;rw[ag (bX (dm _)),ag (eh (ei hn) _),ag (oz hb T Tae Tac)];open zdU in exact ZbC
 rw[if_neg h7] at h ⊢;by_cases h8:s.kind=8
 ·rw[if_pos h8] at h ⊢;simp only[aD,aV,Bool.and_eq_true,beq_iff_eq] at h;obtain⟨⟨hl,MD⟩,hq⟩:=h;have li:=dU hl;have P6:=Ax hq T;have e:mv s.query++(eT::r)=wW cA::((mv s.query).tail++(eT::r)):=rfl;rw[e] at P6 ⊢;show yU (wW cA::((mv s.query).tail++(eT::r)))=_;unfold yU;rw[ag P6];open zdV in exact ZbC
 rw[if_neg h8] at h ⊢;by_cases h9:9<=s.kind/\s.kind<=12
 ·rw[if_pos h9] at h;simp only[aD,aV,Bool.and_eq_true] at h;obtain⟨hl, -,hn, -,hf,ht, -⟩:=h;have li:=dU hl;have hk:s.kind=9\/s.kind=10\/s.kind=11\/s.kind=12:=by omega
  have e:([wW kQ]++ [wW (nL s.kind)]++ [sW [40]]++([wW s.name.data.toList]++([sW [44]]++((if s.kind=9 then Au s.aN++ [sW [44]] else [])++(Au s.dH++ [sW [41]])))))++(eT::r)=wW kQ::wW (nL s.kind)::sW [40]::wW s.name.data.toList::sW [44]::((if s.kind=9 then Au s.aN++ [sW [44]] else [])++(Au s.dH++(sW [41]::(eT::r)))):=by simp
  rw[e];show Mr (wW (nL s.kind)::sW [40]::wW s.name.data.toList::sW [44]::((if s.kind=9 then Au s.aN++ [sW [44]] else [])++(Au s.dH++(sW [41]::(eT::r)))))=_;have any:∀l,jU [bO,bJ,dn,eo] (wW (nL s.kind)::l)=.ok (nL s.kind,l):=by intro l;unfold nL;rcases hk with e | e | e | e <;> rw[e] <;> rfl
  have acz:(if nL s.kind=bO then(9:Int)else if nL s.kind=bJ then 10 else if nL s.kind=dn then 11 else 12)=s.kind:=by unfold nL;rcases hk with e | e | e | e <;> rw[e] <;> rfl
  have aN:∀l,pw s.kind ((if s.kind=9 then Au s.aN++ [sW [44]] else [])++l)=.ok (s.aN,l):=by
   intro l;unfold pw;by_cases e9:s.kind=9
   ·rw[if_pos e9] at hf;rw[if_pos e9,if_pos e9];rw[aD,Bool.and_eq_true] at hf;rw[append_assoc,ag (SJ hf.1 _)];rfl
   ·rw[if_neg e9] at hf;rw[aV] at hf;rw[if_neg e9,if_neg e9,xc hf];rfl
  unfold Mr;rw[ag (any _)];rw[acz,ag (bX rfl),ag (eh (ei hn) _),ag (bX rfl),ag (aN _),ag (SJ ht _),ag (bX rfl)];open zdW in exact ZbC
 ·rw[if_neg h9] at h;cases h
theorem Xp(h:(cB s).isSome=true):s.long=false:=by
 have lq:(jG s.query).isSome=true->s.query.long=false:=by
  intro h;unfold jG at h;simp only[aD,Bool.and_eq_true] at h;obtain⟨-,hi, -, -, -, -,hg, -,ho, -⟩:=h
  have l1:s.query.items.length<=64:=by
   split at hi
   ·omega
   ·exact sZ hi
  have lead:∀ {α:Type} {ld:aT} {f:α->Option aT} {l:List α},(jm ld (l.map f)).isSome=true->l.length<=64:=by
   intro α ld f l h;unfold jm at h;split at h
   ·rename_i e;rw[length_map] at e;omega
   ·rw[aD,Bool.and_eq_true] at h;exact sZ h.2
  have l2:=lead hg;have l3:=lead ho;unfold Qu.long;simp only[Bool.or_eq_false_iff,decide_eq_false_iff_not];exact⟨⟨by omega,by omega⟩,by omega⟩
 have q0:(({}:Qu).long)=false:=rfl;have fin:s.aY.length<=64->s.rows.length<=64->(∀r∈s.rows,r.length<=64)->s.bF.length<=64->s.query.long=false->s.long=false:=by intro a b c d e;unfold St.long;simp only[Bool.or_eq_false_iff,decide_eq_false_iff_not,any_eq_false,decide_eq_true_eq];exact⟨⟨⟨⟨by omega,by omega⟩,λ r hr=>by have:=c r hr;omega⟩,by omega⟩,e⟩
 unfold cB at h;split at h
 ·unfold oP at h;simp only[aD,aV,Bool.and_eq_true] at h;have li:=dU h.1;exact fin (sZ h.2.2.2.2.1) Tat Tat TaR TaW
 split at h
 ·unfold Ce at h;exact ZeD
 split at h
 ·simp only[aD,aV,Bool.and_eq_true] at h;have li:=dU h.1;exact fin TaF Tat Tat TaR (lq h.2.2.2.2)
 split at h
 ·simp only[aD,aV,Bool.and_eq_true] at h;have li:=dU h.1.2;exact ZbR
 split at h
 ·simp only[aD,aV,Bool.and_eq_true] at h;have li:=dU h.1;refine fin TaF (sZ h.2.2.2.2) (λ r hr=>?_) TaR TaW;have:=gG _ h.2.2.2.2 _ (List.mem_map.2 ⟨r,hr,rfl⟩);unfold Cc at this;simp only[aD,Bool.and_eq_true] at this;exact sZ this.2.1
 split at h
 ·simp only[aD,aV,Bool.and_eq_true] at h;have li:=dU h.1;exact fin TaF Tat Tat (sZ h.2.2.2.2.1) TaW
 split at h
 ·exact ZeD
 split at h
 ·simp only[aD,aV,Bool.and_eq_true] at h;have li:=dU h.1.1;exact fin TaF Tat Tat TaR (lq h.2)
 split at h
 ·exact ZeD
 ·cases h
theorem Xq{t:aT}(hlx:Lx kN t (Av s))(hlen:t.length<=4096)(hsome:(cB s).isSome=true):kU t=.ok s:=by
 obtain⟨ps,hrun,hps⟩:=hlx [] (λ c hc=>by cases hc);have hr:=hrun [] [] (Ki.stop []);rw[append_nil,append_nil] at hr;have P7:=EI hlen hr rfl;have hw:(ps.map (Sg t.length)++ [Kj t.length]).map (·.w)=Av s++(eT:: []):=by rw[map_append,map_map,<- hps];rfl
 unfold kU;rw[P7];dsimp only;rw[hw];have P8:wQ (Av s++(eT:: []))=.ok (s,[eT]):=by unfold wQ;rw[ag (OT hsome []),ll rfl];rfl
 rw[P8];dsimp only;rw[Xp hsome,if_neg Tac];have hd:cR s.exprs=false:=by unfold cR;rw[any_eq_false];intro x hx;have:=Oj hsome x hx;simp only[decide_eq_true_eq];omega
 rw[hd,if_neg Tac]
end Go.Proofs.YtehhdlgjfdnafaaGreatDoor
